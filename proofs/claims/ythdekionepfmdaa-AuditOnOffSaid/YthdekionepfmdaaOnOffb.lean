/- A part of the proof of auditOnOff_proved: Dgc, Spl, Txa, Txb, Rta, Ena, Enb, Rtb, Pta, Enc, End, Ene, Enf, Eng, Ptb, Rtc, Rva, Rvb, Pra, Prb. No condition but those that each theorem states. -/
import Derived.Test.YthdekionepfmdaaOnOffa
set_option linter.unusedVariables false
set_option linter.unusedSimpArgs false
namespace Go.Proofs.Ythdekionepfmdaa
section
set_option linter.unusedVariables false
set_option linter.unusedSimpArgs false
set_option maxRecDepth 8000
open Go.RowKit
set_option maxHeartbeats 400000 in
theorem digest_c (v : Value) (l : List UInt8) (w : World) (hR : RdL encB 1 w v l) (hl : l.length ≤ 16384) :
    Calls Try.prog 122 #[v] w fun e w' => e = .returned (.agg (kc (digestL l))) ∧ Mem w w' [] := by
  have HM := Mem.start w
  go_enter Try.func122, Try.ntmps122
  go_wp2_with (first
    | ((with_reducible refine s_ 2 ?_); go_must (refine wl_alloc (dst := some 2) (cs := kc zeroKey) 23 _ Try.zeroValue23 kc_zero HM ?_; clear HM; intro b2 W HM))
    | ((with_reducible refine s_ 3 ?_); go_must (refine wl_alloc (dst := some 3) (cs := kc zeroKey) 23 _ Try.zeroValue23 kc_zero HM ?_; clear HM; intro b3 W HM))
    | ((with_reducible refine st_ 23 ?_); go_must ((first | refine wl_store_blk _ _ _ _ _ _ _ rfl rfl HM .here (by rw [kc_size]; exact sz23) (by simp only [kc_size]) (kc_one _) ?_ | refine wl_store_blk _ _ _ _ _ _ _ rfl rfl HM (.there .here) (by rw [kc_size]; exact sz23) (by simp only [kc_size]) (kc_one _) ?_); clear HM; intro W HM))
    | ((with_reducible refine ld_ 23 ?_); go_must (refine wl_load_blk _ _ _ _ _ _ rfl HM (by repeat first | exact List.mem_cons_self .. | refine List.mem_cons_of_mem _ ?_) Try.underlying23 rfl (by rw [kc_size]; exact sz23) ?_))
    | (go_at_call 148; go_must (((with_reducible refine (hash_c _ _ _ (hR.mem HM) hl).mono ?_)); rintro e W ⟨rfl, HM'⟩; replace HM := HM.keep HM'.below; clear HM')))
  refine ret1 rfl (by (exact res_row HM rfl m1 Try.underlying23 rfl (by rw [kc_size]; exact sz23))) rfl ?_
  exact ⟨rfl, HM.base⟩
theorem lenOf_row {α : Type} {enc : α → List Value} {size : Nat} {w : World} {B : Nat} {e : TypeId} {n : Nat} {v : Value} {xs : List Value} (h : w.ownsRow B e size v n xs) : lenOf v = n := by
  rcases h.2 with ⟨rfl, h0⟩ | ⟨g, cap, cur, rfl, _⟩
  · exact h0.symm
  · rfl
theorem flat_snoc {α : Type} (enc : α → List Value) (l : List α) (x : α) : l.flatMap enc ++ [x].flatMap enc = (l ++ [x]).flatMap enc := List.flatMap_append.symm
theorem flat_snoc' {α : Type} (enc : α → List Value) (l m : List α) : l.flatMap enc ++ m.flatMap enc = (l ++ m).flatMap enc := List.flatMap_append.symm
set_option maxHeartbeats 400000 in
theorem pad_c (n : Nat) (hn : n ≤ 16384) (w : World) :
    Calls Try.prog 149 #[.int .i64 n] w fun e w' => ∃ v, e = .returned v ∧ Mem w w' [.row v 5 1 (9 + padZ n) (([128] ++ List.replicate (padZ n) 0 ++ bytesN (UInt64.ofNat n) 8).flatMap encB)] := by
  have HM := Mem.start w
  have hB : ∀ W, Calls Try.prog 138 #[.int .u64 (n : Int), .int .i64 8] W fun e w' => ∃ v, e = .returned v ∧ Mem W w' [.row v 5 1 8 ((bytesN (UInt64.ofNat n) 8).flatMap encB)] := by
    intro W
    have e : (n : Int) = ((UInt64.ofNat n).toNat : Int) := by rw [UInt64.toNat_ofNat']; omega
    have := bytes8_c (UInt64.ofNat n) W
    rwa [← e] at this
  have hw : (n : Int) % 18446744073709551616 = (n : Int) := by omega
  go_enter Try.func149, Try.ntmps149
  go_wp2_with (first
    | ((with_reducible refine s_ 4 ?_); go_must (refine wl_buildSlice (dst := some 4) (cs := #[.int .u8 128]) _ _ _ 5 1 _ Try.underlying24 Try.sizeOf5 Try.zeroValue5 (by decide) (by simp [Instr.fill, Act.eval, Act.put, Value.cells, undef, ← List.toArray_range, List.range_succ]) HM ?_; clear HM; intro b4 W HM; replace HM := HM.toRow 1 1 .here rfl (by simp [maxLen]))))
  go_loopw [3] (fun o wr => ∃ z : Nat, z ≤ padZ n ∧ Mem w wr [.row o 5 1 (1 + z) (([128] ++ List.replicate z (0 : UInt8)).flatMap encB)])
    (fun o _ => 17 - lenOf o)
  case atStart => exact ⟨0, by omega, HM⟩
  case round =>
    clear HM
    obtain ⟨z, hz, HM⟩ := hrel
    have hzl := padZ_lt n
    have hlo : lenOf u3 = 1 + z := lenOf_row (enc := encB) (HM.row m0)
    have hlen : ([128] ++ List.replicate z (0 : UInt8)).length = 1 + z := by simp; omega
    have w1 : IntKind.i64.wrap ((n : Int) + (1 + (z : Int))) = (n : Int) + (1 + (z : Int)) := by rw [IntKind.wrap_i64]; omega
    have w2 : IntKind.i64.wrap ((n : Int) + (1 + (z : Int)) + 8) = (n : Int) + (1 + (z : Int)) + 8 := by rw [IntKind.wrap_i64]; omega
    by_cases hlt : z < padZ n
    · have hc : ¬ ((n : Int) + (1 + (z : Int)) + 8) % 16 = 0 := by simp only [padZ] at hlt; omega
      go_wp2_with (first
        | ((with_reducible refine s_ 7 ?_); go_must ((refine wl_len (dst := some 7) _ _ _ _ 5 Try.underlying24 rfl (rd_row HM m0 (l := [128] ++ List.replicate z 0) rfl) ?_)))
        | ((with_reducible refine s_ 13 ?_); go_must (refine wl_buildSlice (dst := some 13) (cs := #[.int .u8 0]) _ _ _ 5 1 _ Try.underlying24 Try.sizeOf5 Try.zeroValue5 (by decide) (by simp [Instr.fill, Act.eval, Act.put, Value.cells, undef, ← List.toArray_range, List.range_succ]) HM ?_; clear HM; intro b13 W HM))
        | ((with_reducible refine s_ 14 ?_); go_must (refine wl_append (dst := some 14) (enc := encB) _ _ _ _ _ _ _ _ _ _ _ ([0]) Try.underlying24 inf5 rfl (by decide) encB_len encB_one HM (.there .here) (RdL.of_blk (HM.blk m0) _ 1 rfl rfl (by decide)) rfl rfl (by decide) (by simp; omega) ?_; clear HM; intro v14 W HM; try dsimp only at HM)))
      rw [flat_snoc, List.append_assoc, show List.replicate z (0 : UInt8) ++ [0] = List.replicate (z + 1) 0 from by rw [rep_add]; rfl] at HM
      go_roundw
      case rel => exact ⟨z + 1, by omega, HM.tail⟩
      case measure => have := lenOf_row (enc := encB) (HM.row m1); simp only [List.length_singleton] at this; omega
    · have hzz : z = padZ n := by omega
      have hc : ((n : Int) + (1 + (z : Int)) + 8) % 16 = 0 := by have := padZ_mod n; omega
      go_wp2_with (first
        | ((with_reducible refine s_ 7 ?_); go_must ((refine wl_len (dst := some 7) _ _ _ _ 5 Try.underlying24 rfl (rd_row HM m0 (l := [128] ++ List.replicate z 0) rfl) ?_)))
        | ((with_reducible refine s_ 19 ?_); go_must (refine wl_append (dst := some 19) (enc := encB) _ _ _ _ _ _ _ _ _ _ _ (bytesN (UInt64.ofNat n) 8) Try.underlying24 inf5 rfl (by decide) encB_len encB_one HM (.there .here) (rd_row HM m0 rfl) rfl rfl (by decide) (by rw [bytesN_len]; omega) ?_; clear HM; intro v19 W HM; try dsimp only at HM))
        | (go_at_call 138; go_must (((with_reducible refine (hB _).mono ?_)); rintro e W ⟨v, rfl, HM'⟩; replace HM := HM.join HM'; clear HM'; simp only [List.cons_append, List.nil_append] at HM)))
      refine ret1 rfl (res_tmp rfl) rfl ?_
      rw [flat_snoc', hzz, bytesN_len, show 1 + padZ n + 8 = 9 + padZ n by omega] at HM
      exact ⟨_, rfl, HM.only m1⟩
set_option maxHeartbeats 1600000 in
theorem rdigest_c (v : Value) (l : List UInt8) (w : World) (hR : RdL encB 1 w v l) (hl : l.length ≤ 16384) :
    Calls Try.prog 125 #[v] w fun e w' => e = .returned (.agg (kc (digestL l))) ∧ Mem w w' [] := by
  have HM := Mem.start w
  have hz := padZ_lt l.length
  have hpl := padL_len l
  go_enter Try.func125, Try.ntmps125
  go_wp2_with (first
    | ((with_reducible refine s_ 2 ?_); go_must (refine wl_alloc (dst := some 2) (cs := kc zeroKey) 23 _ Try.zeroValue23 kc_zero HM ?_; clear HM; intro b2 W HM))
    | ((with_reducible refine s_ 3 ?_); go_must (refine wl_alloc (dst := some 3) (cs := kc zeroKey) 23 _ Try.zeroValue23 kc_zero HM ?_; clear HM; intro b3 W HM)))
  go_loopw [4] (fun i wr => ∃ j : Nat, j ≤ 16 ∧ i = .int .i64 j ∧ Mem w wr [.blk b3 (kc (fill j)) 23, .blk b2 (kc zeroKey) 23])
    (fun i _ => 16 - (intOf i).toNat)
  case atStart => exact ⟨0, by omega, rfl, by rw [fill_zero]; exact HM⟩
  case round =>
    clear HM
    obtain ⟨j, hj, rfl, HM⟩ := hrel
    by_cases hlt : j < 16
    · have hb1 : (j : Int) < 16 := by omega
      go_wp2_with (first
        | ((with_reducible refine st_ 5 ?_); go_must ((refine wl_store_cell _ _ _ _ _ _ _ _ _ rfl rfl HM .here sz5 rfl (by first | omega | (simp; done) | (simp [kc_size]; done) | (simp [kc_size]; omega) | (simp only [Array.size_setIfInBounds, bytesC_size, List.length_append, List.length_replicate, List.length_set]; omega)) rfl ?_); clear HM; intro W HM; try (simp only [Act.eval, Array.getD_eq_getD_getElem?, List.getElem?_toArray, List.getElem?_cons_succ, List.getElem?_cons_zero, Option.getD_some, List.setIfInBounds_toArray, List.set_cons_succ, List.set_cons_zero] at HM))))
      rw [show (kc (fill j)).setIfInBounds j (.int .u8 90) = kc (fill (j + 1)) from by rw [← fill_set j hlt]; exact kc_set _ _ hlt 90] at HM
      go_roundw
      case rel => exact ⟨j + 1, by omega, by go_num, HM⟩
      case measure => simp [intOf]; omega
    · obtain rfl : j = 16 := by omega
      rw [fill_end] at HM
      go_wp2_with (first
        | ((with_reducible refine s_ 13 ?_); go_must (refine wl_empty (dst := some 13) _ _ _ Try.underlying24 Try.sizeOf5 HM ?_; clear HM; intro b13 W HM))
        | ((with_reducible refine s_ 15 ?_); go_must (refine wl_append (dst := some 15) (enc := encB) _ _ _ _ _ _ _ _ _ _ _ (l) Try.underlying24 inf5 rfl (by decide) encB_len encB_one HM .here (hR.mem HM) rfl rfl (by decide) (by omega) ?_; clear HM; intro v15 W HM; try dsimp only at HM))
        | ((with_reducible refine s_ 18 ?_); go_must ((refine wl_len (dst := some 18) _ _ _ _ 5 Try.underlying24 rfl (hR.mem HM) ?_)))
        | ((with_reducible refine s_ 20 ?_); go_must (refine wl_append (dst := some 20) (enc := encB) _ _ _ _ _ _ _ _ _ _ _ (([128] ++ List.replicate (padZ l.length) 0 ++ bytesN (UInt64.ofNat l.length) 8)) Try.underlying24 inf5 rfl (by decide) encB_len encB_one HM (.there .here) (rd_row HM m0 rfl) rfl rfl (by decide) (by simp [bytesN_len]; omega) ?_; clear HM; intro v20 W HM; try dsimp only at HM))
        | (go_at_call 149; go_must (((with_reducible refine (pad_c _ hl _).mono ?_)); rintro e W ⟨v19, rfl, HM'⟩; replace HM := HM.join HM'; clear HM'; simp only [List.cons_append, List.nil_append] at HM)))
      have e1 : 0 + l.length + ([128] ++ List.replicate (padZ l.length) (0 : UInt8) ++ bytesN (UInt64.ofNat l.length) 8).length = (padL l).length := by rw [hpl]; simp [bytesN_len]; omega
      have HM1 := HM.tail
      rw [flat_snoc', e1, show l ++ ([128] ++ List.replicate (padZ l.length) (0 : UInt8) ++ bytesN (UInt64.ofNat l.length) 8) = padL l from rfl] at HM1
      clear HM e1
      have HM := HM1
      clear HM1
      have hmod := padZ_mod l.length
      obtain ⟨n, hn⟩ : ∃ n, n = (l.length + 9 + padZ l.length) / 16 := ⟨_, rfl⟩
      have hnl : (padL l).length = 16 * n := by omega
      go_loopw [6] (fun c wr => ∃ i : Nat, i ≤ n ∧ c = .int .i64 i ∧ Mem w wr [.row v20 5 1 (padL l).length ((padL l).flatMap encB), .blk b3 (kc (digTo startKey (padL l) i)) 23, .blk b2 (kc zeroKey) 23])
        (fun c _ => n - (intOf c).toNat)
      case atStart => exact ⟨0, by omega, rfl, HM⟩
      case round =>
        clear HM
        obtain ⟨i, hi, rfl, HM⟩ := hrel
        by_cases hlt2 : i < n
        · have hb2 : (i : Int) < (((padL l).length : Int) + 15) / 16 := by omega
          go_wp2_with (first
            | (go_at_call 111; go_must (((with_reducible refine (portions_c _ (padL l) _ (rd_row HM m0 rfl) (by omega)).mono ?_)); rintro e W ⟨rfl, HM'⟩; replace HM := HM.keep HM'.below; clear HM')))
          replace HM := HM.drew
          refine wp_region_mixN (fun W => Held w W [.blk b3 (kc (digTo startKey (padL l) i)) 23]) (fun W => Held w W []) (.cons (2, 0) (.cons (2, 1) (.cons (1, 3) (.cons (1, 5) (.cons (0, 2) (.cons (0, 4) (.cons (0, 6) (.cons (3, 7) .nil)))))))) [7] (by kernel_rfl) (by kernel_rfl) (by kernel_rfl) (fun W h => Held.weak h (by simp)) (HM.held (by simp)) ?_
          revert HM; generalize World.drew _ = W; intro HM
          have HS1 : Held w W [.blk b3 (kc (digTo startKey (padL l) i)) 23] := HM.held (by simp)
          have HS2 : Held w W [] := HM.held (by simp)
          refine wm_q2 (i := 0) (some 27) rfl rfl rfl HS2 (fun W HS => by (go_simp; try with_reducible rfl)) ?_
          simp only [Act.put, List.getElem_toArray, List.getElem_cons_succ, List.getElem_cons_zero, List.setIfInBounds_toArray, List.set_cons_succ, List.set_cons_zero]
          refine wm_q2 (i := 1) (some 28) rfl rfl rfl HS2 (fun W HS => by (go_simp; try with_reducible rfl)) ?_
          simp only [Act.put, List.getElem_toArray, List.getElem_cons_succ, List.getElem_cons_zero, List.setIfInBounds_toArray, List.set_cons_succ, List.set_cons_zero]
          refine wm_q1 (i := 3) (some 30) rfl rfl rfl HS1 (fun W HS => (by ((refine ry_load_blk _ _ _ _ _ _ HS ?_ m0 Try.underlying23 rfl (by rw [kc_size]; exact sz23); rfl)))) ?_
          simp only [Act.put, List.getElem_toArray, List.getElem_cons_succ, List.getElem_cons_zero, List.setIfInBounds_toArray, List.set_cons_succ, List.set_cons_zero]
          refine wm_q1 (i := 5) (some 32) rfl rfl rfl HS1 (fun W HS => (by ((refine ry_load_blk _ _ _ _ _ _ HS ?_ m0 Try.underlying23 rfl (by rw [kc_size]; exact sz23); rfl)))) ?_
          simp only [Act.put, List.getElem_toArray, List.getElem_cons_succ, List.getElem_cons_zero, List.setIfInBounds_toArray, List.set_cons_succ, List.set_cons_zero]
          refine wm_e0 (i := 2) rfl ?_
          go_wp2_with (first
            | (go_at_call 113; go_must (((with_reducible refine (portion_c _ (padL l) i _ (rd_row HM m0 rfl) (by omega) (by omega)).mono ?_)); rintro e W ⟨rfl, HM'⟩; replace HM := HM.keep HM'.below; clear HM')))
          refine ⟨HM.held (by simp), ?_⟩
          clear HS1 HS2
          have HS1 : Held w W [.blk b3 (kc (digTo startKey (padL l) i)) 23] := HM.held (by simp)
          have HS2 : Held w W [] := HM.held (by simp)
          refine wm_e0 (i := 4) rfl ?_
          go_wp2_with (first
            | (go_at_call 56; go_must (((with_reducible refine (rencrypt_c _ _ _).mono ?_)); rintro e W ⟨rfl, HM'⟩; replace HM := HM.keep HM'.below; clear HM')))
          refine ⟨HM.held (by simp), ?_⟩
          clear HS1 HS2
          have HS1 : Held w W [.blk b3 (kc (digTo startKey (padL l) i)) 23] := HM.held (by simp)
          have HS2 : Held w W [] := HM.held (by simp)
          refine wm_e0 (i := 6) rfl ?_
          go_wp2_with (first
            | (go_at_call 112; go_must (((with_reducible refine (rxor_c _ _ _).mono ?_)); rintro e W ⟨rfl, HM'⟩; replace HM := HM.keep HM'.below; clear HM')))
          refine ⟨HM.held (by simp), ?_⟩
          clear HS1 HS2
          have HS1 : Held w W [.blk b3 (kc (digTo startKey (padL l) i)) 23] := HM.held (by simp)
          have HS2 : Held w W [] := HM.held (by simp)
          refine wm_e3 (i := 7) rfl ?_
          go_wp2_with (first
            | ((with_reducible refine st_ 23 ?_); go_must ((refine wl_store_blk _ _ _ _ _ _ _ rfl rfl HM (.there .here) (by rw [kc_size]; exact sz23) (by simp only [kc_size]) (kc_one _) ?_); clear HM; intro W HM)))
          refine ⟨HM.held (by simp), ?_⟩
          clear HS1 HS2
          have HS1 : True := trivial
          have HS2 : Held w W [] := HM.held (by simp)
          refine wm_nilN ?_
          clear HS1 HS2
          go_wp2_with (fail)
          rw [show xorK (encryptK (keyL ((padL l).drop (16 * i))) (digTo startKey (padL l) i)) (digTo startKey (padL l) i) = digTo startKey (padL l) (i + 1) from by rw [digTo_succ]; rfl] at HM
          go_roundw
          case rel => exact ⟨i + 1, by omega, by go_num, HM⟩
          case measure => simp [intOf]; omega
        · obtain rfl : i = n := by omega
          have hb2 : ¬ (i : Int) < (((padL l).length : Int) + 15) / 16 := by omega
          go_wp2_with (first
            | ((with_reducible refine ld_ 23 ?_); go_must (refine wl_load_blk _ _ _ _ _ _ rfl HM (by repeat first | exact List.mem_cons_self .. | refine List.mem_cons_of_mem _ ?_) Try.underlying23 rfl (by rw [kc_size]; exact sz23) ?_))
            | ((with_reducible refine st_ 23 ?_); go_must ((refine wl_store_blk _ _ _ _ _ _ _ rfl rfl HM (.there (.there .here)) (by rw [kc_size]; exact sz23) (by simp only [kc_size]) (kc_one _) ?_); clear HM; intro W HM))
            | (go_at_call 111; go_must (((with_reducible refine (portions_c _ (padL l) _ (rd_row HM m0 rfl) (by omega)).mono ?_)); rintro e W ⟨rfl, HM'⟩; replace HM := HM.keep HM'.below; clear HM')))
          refine ret1 rfl (by (exact res_row HM rfl m2 Try.underlying23 rfl (by rw [kc_size]; exact sz23))) rfl ?_
          refine ⟨?_, HM.base⟩
          rw [digestL, ← hn]
end
section
set_option linter.unusedVariables false
set_option linter.unusedSimpArgs false
set_option maxRecDepth 8000
open Go.RowKit
def lenN (n : Nat) : Nat := if n = 0 then 0 else Nat.log2 n + 1
def tab8 : ByteArray := ⟨((List.range 256).map fun x => UInt8.ofNat (lenN x)).toArray⟩
theorem lenN_le : ∀ n, n < 256 → lenN n ≤ 8 := by
  have h : (List.range 256).all (fun n => decide (lenN n ≤ 8)) = true := by decide +kernel
  intro n hn
  exact of_decide_eq_true (List.all_eq_true.1 h n (List.mem_range.2 hn))
theorem tab8_at (n : Nat) (hn : n < 256) : tab8[n]? = some (UInt8.ofNat (lenN n)) := by
  have h : (List.range 256).all (fun n => decide (tab8[n]? = some (UInt8.ofNat (lenN n)))) = true := by decide +kernel
  exact of_decide_eq_true (List.all_eq_true.1 h n (List.mem_range.2 hn))
section
variable {P : Program} {ops : Array Oper} {rest : List Oper} {a : Act} {Q : Exit → Act → World → Prop} {W : World} {dst : Option Tmp} {tt : TypeId} {ps : String} {af : Array Edge}
theorem wl_tab (t : TypeId) (x i : Operand) (s : ByteArray) (k : IntKind) (n : Nat) (ht : P.underlying t = some .string) (hx : a.eval x = .string s) (hs : s = tab8) (hi : a.eval i = .int k (n : Int)) (hn : n < 256)
    (h : wpList P ops Q rest (a.put dst (.int .u8 (lenN n : Nat))) W) : wpList P ops Q (Oper.mk dst (.index t x i) tt ps af none :: rest) a W := by
  subst hs
  have hb : (UInt8.ofNat (lenN n)).toNat = lenN n := by rw [UInt8.toNat_ofNat']; have := lenN_le n hn; omega
  refine wpList_plain rfl fun K hK => ?_
  unfold Oper.wp execOp
  simp only [Instr.index, hx, hi, asIntOf, Sem.run_bind, Sem.run_pure, Result.andThen_ok, run_underlying ht, Int.toNat_natCast, tab8_at n hn, hb, if_pos (show (0 : Int) ≤ (n : Int) by omega)]
  exact hK _ _ h
end
set_option maxHeartbeats 400000 in
theorem len64_c (x : Nat) (hx : x < 256) (w : World) :
    Calls Try.prog 152 #[.int .u64 (x : Int)] w fun e w' => e = .returned (.int .i64 (lenN x : Nat)) ∧ Mem w w' [] := by
  have HM := Mem.start w
  have h1 : ¬ (4294967296 : Int) ≤ (x : Int) := by omega
  have h2 : ¬ (65536 : Int) ≤ (x : Int) := by omega
  have h3 : ¬ (256 : Int) ≤ (x : Int) := by omega
  have h4 : (x : Int) % 256 = (x : Int) := by omega
  have h5 := lenN_le x hx
  have h6 : IntKind.i64.wrap ((lenN x : Nat) : Int) = ((lenN x : Nat) : Int) := by rw [IntKind.wrap_i64]; omega
  go_enter Try.func152, Try.ntmps152
  go_wp2_with (first
    | ((with_reducible refine s_ 22 ?_); go_must ((refine wl_tab (dst := some 22) _ _ _ _ _ x Try.underlying9 rfl (by kernel_rfl) rfl hx ?_))))
  refine ret1 rfl (res_tmp rfl) rfl ?_
  exact ⟨rfl, HM⟩
set_option maxHeartbeats 400000 in
theorem len_c (x : Nat) (hx : x < 256) (w : World) :
    Calls Try.prog 132 #[.int .u64 (x : Int)] w fun e w' => e = .returned (.int .i64 (lenN x : Nat)) ∧ Mem w w' [] := by
  have HM := Mem.start w
  go_enter Try.func132, Try.ntmps132
  go_wp2_with (first
    | (go_at_call 152; go_must (((with_reducible refine (len64_c _ hx _).mono ?_)); rintro e W ⟨rfl, HM'⟩; replace HM := HM.keep HM'.below; clear HM')))
  refine ret1 rfl (res_tmp rfl) rfl ?_
  exact ⟨rfl, HM⟩
def splitN (n : Nat) : Nat := 2 ^ (lenN (n - 1) - 1)
theorem splitN_facts : ∀ n, 2 ≤ n → n ≤ 256 → 1 ≤ lenN (n - 1) ∧ lenN (n - 1) ≤ 8 ∧ 1 ≤ splitN n ∧ splitN n < n ∧ n ≤ 2 * splitN n := by
  have h : (List.range 257).all (fun n => decide (2 ≤ n → 1 ≤ lenN (n - 1) ∧ lenN (n - 1) ≤ 8 ∧ 1 ≤ splitN n ∧ splitN n < n ∧ n ≤ 2 * splitN n)) = true := by decide +kernel
  intro n h2 hn
  exact of_decide_eq_true (List.all_eq_true.1 h n (List.mem_range.2 (by omega))) h2
theorem splitN_uniq : ∀ n, n ≤ 256 → ∀ j, j < 9 → 2 ^ j < n → n ≤ 2 * 2 ^ j → 2 ^ j = splitN n := by
  have h : (List.range 257).all (fun n => (List.range 9).all fun j => decide (2 ^ j < n → n ≤ 2 * 2 ^ j → 2 ^ j = splitN n)) = true := by decide +kernel
  intro n hn j hj
  exact of_decide_eq_true (List.all_eq_true.1 (List.all_eq_true.1 h n (List.mem_range.2 (by omega))) j (List.mem_range.2 hj))
set_option maxHeartbeats 400000 in
theorem split_c (n : Nat) (h2 : 2 ≤ n) (hn : n ≤ 256) (w : World) :
    Calls Try.prog 72 #[.int .i64 (n : Int)] w fun e w' => e = .returned (.int .i64 (splitN n : Nat)) ∧ Mem w w' [] := by
  have HM := Mem.start w
  obtain ⟨hf1, hf2, hf3, hf4, hf5⟩ := splitN_facts n h2 hn
  have h1 : IntKind.i64.wrap ((n : Int) - 1) = (n : Int) - 1 := by rw [IntKind.wrap_i64]; omega
  have h3 : ((n : Int) - 1) % 18446744073709551616 = (n : Int) - 1 := by omega
  have h4 : ((n - 1 : Nat) : Int) = (n : Int) - 1 := by omega
  have hL : ∀ W, Calls Try.prog 132 #[.int .u64 ((n : Int) - 1)] W fun e w' => e = .returned (.int .i64 (lenN (n - 1) : Nat)) ∧ Mem W w' [] := by
    intro W
    have := len_c (n - 1) (by omega) W
    rwa [h4] at this
  have h5 : IntKind.i64.wrap (((lenN (n - 1) : Nat) : Int) - 1) = ((lenN (n - 1) : Nat) : Int) - 1 := by rw [IntKind.wrap_i64]; omega
  have h6 : 0 ≤ ((lenN (n - 1) : Nat) : Int) - 1 := by omega
  have h7 : (((lenN (n - 1) : Nat) : Int) - 1).toNat = lenN (n - 1) - 1 := by omega
  have h8 : IntKind.i64.wrap ((2 : Int) ^ (lenN (n - 1) - 1)) = ((splitN n : Nat) : Int) := by
    have e : (2 : Int) ^ (lenN (n - 1) - 1) = ((splitN n : Nat) : Int) := by rw [splitN, Int.natCast_pow]; rfl
    rw [e, IntKind.wrap_i64]; omega
  clear h4
  go_enter Try.func72, Try.ntmps72
  go_wp2_with (first
    | (go_at_call 132; go_must (((with_reducible refine (hL _).mono ?_)); rintro e W ⟨rfl, HM'⟩; replace HM := HM.keep HM'.below; clear HM')))
  refine ret1 rfl (res_tmp rfl) rfl ?_
  exact ⟨rfl, HM⟩
def Pow2 (m j : Nat) : Prop := m = 2 ^ j
def SplitIs (m n : Nat) : Prop := m = splitN n
set_option maxHeartbeats 400000 in
theorem rsplit_c (n : Nat) (h2 : 2 ≤ n) (hn : n ≤ 256) (w : World) :
    Calls Try.prog 127 #[.int .i64 (n : Int)] w fun e w' => e = .returned (.int .i64 (splitN n : Nat)) ∧ Mem w w' [] := by
  have HM := Mem.start w
  go_enter Try.func127, Try.ntmps127
  go_wp2_with (fail)
  go_loopw [3] (fun k wr => ∃ (j m : Nat), Pow2 m j ∧ j < 9 ∧ m < n ∧ k = .int .i64 (m : Int) ∧ Mem w wr [])
    (fun k _ => 600 - (intOf k).toNat)
  case atStart => exact ⟨0, 1, rfl, by omega, by omega, rfl, HM⟩
  case round =>
    clear HM
    obtain ⟨j, m, hm, hj, hmn, rfl, HM⟩ := hrel
    have hm0 : 0 < m := by rw [show m = 2 ^ j from hm]; exact Nat.pos_of_ne_zero (by simp)
    have h1 : IntKind.i64.wrap (2 * (m : Int)) = 2 * (m : Int) := by rw [IntKind.wrap_i64]; omega
    by_cases hlt : 2 * m < n
    · have hb : 2 * (m : Int) < (n : Int) := by omega
      go_wp2_with (fail)
      go_roundw
      case rel =>
        have h9 : j + 1 < 9 := by
          rcases Nat.lt_or_ge j 8 with h | h
          · omega
          · have h10 : 2 ^ 8 ≤ 2 ^ j := Nat.pow_le_pow_right (by decide) h
            rw [← show m = 2 ^ j from hm] at h10
            omega
        exact ⟨j + 1, 2 * m, by rw [Pow2, show m = 2 ^ j from hm, Nat.pow_succ, Nat.mul_comm], h9, by omega, by go_num, HM⟩
      case measure => simp [intOf]; omega
    · have hb : ¬ 2 * (m : Int) < (n : Int) := by omega
      have hu : SplitIs m n := by
        have hm' : m = 2 ^ j := hm
        have := splitN_uniq n hn j hj (by rw [← hm']; omega) (by rw [← hm']; omega)
        rw [SplitIs, hm']; exact this
      clear hm
      go_wp2_with (fail)
      refine ret1 rfl (res_tmp rfl) rfl ?_
      exact ⟨by rw [← show m = splitN n from hu]; rfl, HM⟩
end
section
set_option linter.unusedVariables false
set_option linter.unusedSimpArgs false
set_option maxRecDepth 8000
open Go.RowKit
def textLeaf (k : Key) : List UInt8 := 0 :: k.toList
def textNode (a b : Key) : List UInt8 := 1 :: (a.toList ++ b.toList)
theorem textLeaf_len (k : Key) : (textLeaf k).length = 17 := by simp [textLeaf]
theorem textNode_len (a b : Key) : (textNode a b).length = 33 := by simp [textNode]
theorem rd_whole {W w0 : World} {L : List It} {b : Nat} {k : Key} {t : TypeId} (hM : Mem w0 W L) (hk : It.blk b (kc k) t ∈ L) : RdL encB 1 W (.slice (some ⟨b, 0, none⟩) 16 16) k.toList := by
  have := rd_part hM hk 0 16 16 (by omega) (by omega) (by decide)
  rwa [show (k.toList.drop 0).take 16 = k.toList from List.take_of_length_le (by simp)] at this
set_option maxHeartbeats 400000 in
theorem leafText_c (k : Key) (w : World) :
    Calls Try.prog 66 #[.agg (kc k)] w fun e w' => ∃ v, e = .returned v ∧ Mem w w' [.row v 5 1 17 ((textLeaf k).flatMap encB)] := by
  have HM := Mem.start w
  go_enter Try.func66, Try.ntmps66
  go_wp2_with (first
    | ((with_reducible refine s_ 1 ?_); go_must (refine wl_box (dst := some 1) (cs := kc k) _ _ _ rfl rfl HM ?_; clear HM; intro b1 W HM))
    | ((with_reducible refine s_ 3 ?_); go_must (refine wl_buildSlice (dst := some 3) (cs := #[.int .u8 0]) _ _ _ 5 1 _ Try.underlying24 Try.sizeOf5 Try.zeroValue5 (by decide) (by simp [Instr.fill, Act.eval, Act.put, Value.cells, undef, ← List.toArray_range, List.range_succ]) HM ?_; clear HM; intro b3 W HM; replace HM := HM.toRow 1 1 .here rfl (by simp [maxLen])))
    | ((with_reducible refine s_ 5 ?_); go_must (refine wl_append (dst := some 5) (enc := encB) _ _ _ _ _ _ _ _ _ _ _ (k.toList) Try.underlying24 inf5 rfl (by decide) encB_len encB_one HM .here (rd_whole HM m1) rfl rfl (by decide) (by simp) ?_; clear HM; intro v5 W HM; try dsimp only at HM)))
  refine ret1 rfl (res_tmp rfl) rfl ?_
  have e : 1 + k.toList.length = 17 := by simp
  rw [e] at HM
  exact ⟨_, rfl, HM.only m0⟩
set_option maxHeartbeats 400000 in
theorem rleafText_c (k : Key) (w : World) :
    Calls Try.prog 126 #[.agg (kc k)] w fun e w' => ∃ v, e = .returned v ∧ Mem w w' [.row v 5 1 17 ((textLeaf k).flatMap encB)] := by
  have HM := Mem.start w
  go_enter Try.func126, Try.ntmps126
  go_wp2_with (first
    | ((with_reducible refine s_ 1 ?_); go_must (refine wl_box (dst := some 1) (cs := kc k) _ _ _ rfl rfl HM ?_; clear HM; intro b1 W HM))
    | ((with_reducible refine s_ 3 ?_); go_must (refine wl_buildSlice (dst := some 3) (cs := #[.int .u8 0]) _ _ _ 5 1 _ Try.underlying24 Try.sizeOf5 Try.zeroValue5 (by decide) (by simp [Instr.fill, Act.eval, Act.put, Value.cells, undef, ← List.toArray_range, List.range_succ]) HM ?_; clear HM; intro b3 W HM; replace HM := HM.toRow 1 1 .here rfl (by simp [maxLen])))
    | ((with_reducible refine s_ 5 ?_); go_must (refine wl_append (dst := some 5) (enc := encB) _ _ _ _ _ _ _ _ _ _ _ (k.toList) Try.underlying24 inf5 rfl (by decide) encB_len encB_one HM .here (rd_whole HM m1) rfl rfl (by decide) (by simp) ?_; clear HM; intro v5 W HM; try dsimp only at HM)))
  refine ret1 rfl (res_tmp rfl) rfl ?_
  have e : 1 + k.toList.length = 17 := by simp
  rw [e] at HM
  exact ⟨_, rfl, HM.only m0⟩
set_option maxHeartbeats 400000 in
theorem rnodeText_c (a b : Key) (w : World) :
    Calls Try.prog 128 #[.agg (kc a), .agg (kc b)] w fun e w' => ∃ v, e = .returned v ∧ Mem w w' [.row v 5 1 33 ((textNode a b).flatMap encB)] := by
  have HM := Mem.start w
  go_enter Try.func128, Try.ntmps128
  go_wp2_with (first
    | ((with_reducible refine s_ 2 ?_); go_must (refine wl_box (dst := some 2) (cs := kc a) _ _ _ rfl rfl HM ?_; clear HM; intro b2 W HM))
    | ((with_reducible refine s_ 3 ?_); go_must (refine wl_box (dst := some 3) (cs := kc b) _ _ _ rfl rfl HM ?_; clear HM; intro b3 W HM))
    | ((with_reducible refine s_ 6 ?_); go_must (refine wl_buildSlice (dst := some 6) (cs := #[.int .u8 1]) _ _ _ 5 1 _ Try.underlying24 Try.sizeOf5 Try.zeroValue5 (by decide) (by simp [Instr.fill, Act.eval, Act.put, Value.cells, undef, ← List.toArray_range, List.range_succ]) HM ?_; clear HM; intro b6 W HM; replace HM := HM.toRow 1 1 .here rfl (by simp [maxLen])))
    | ((with_reducible refine s_ 8 ?_); go_must (refine wl_append (dst := some 8) (enc := encB) _ _ _ _ _ _ _ _ _ _ _ (a.toList) Try.underlying24 inf5 rfl (by decide) encB_len encB_one HM .here (rd_whole HM m2) rfl rfl (by decide) (by simp) ?_; clear HM; intro v8 W HM; try dsimp only at HM))
    | ((with_reducible refine s_ 11 ?_); go_must (refine wl_append (dst := some 11) (enc := encB) _ _ _ _ _ _ _ _ _ _ _ (b.toList) Try.underlying24 inf5 rfl (by decide) encB_len encB_one HM .here (rd_whole HM m1) rfl rfl (by decide) (by simp) ?_; clear HM; intro v11 W HM; try dsimp only at HM)))
  refine ret1 rfl (res_tmp rfl) rfl ?_
  have e : 1 + a.toList.length + b.toList.length = 33 := by simp
  have e2 : #[Value.int .u8 1].toList ++ List.flatMap encB a.toList ++ List.flatMap encB b.toList = (textNode a b).flatMap encB := by simp [textNode, encB]
  rw [e, e2] at HM
  exact ⟨_, rfl, HM.only m0⟩
set_option maxHeartbeats 400000 in
theorem grow0_c (n : Nat) (hn : n ≤ 1048576) (w : World) :
    Calls Try.prog 150 #[.slice none 0 0, .int .i64 (n : Int)] w fun e w' => ∃ u, e = .returned u ∧ Mem w w' [.row u 5 1 0 []] := by
  have HM := Mem.start w
  by_cases h0 : n = 0
  · subst h0
    rw [show ((0 : Nat) : Int) = 0 from rfl]
    go_enter Try.func150, Try.ntmps150
    go_wp2_with (fail)
    refine ret1 rfl (res_tmp rfl) rfl ?_
    exact ⟨_, rfl, HM.nilrow _ _⟩
  · have h1 : (0 : Int) < (n : Int) := by omega
    have h2 : ¬ (n : Int) < 0 := by omega
    go_enter Try.func150, Try.ntmps150
    go_wp2_with (first
      | ((with_reducible refine s_ 22 ?_); go_must ((refine wl_append_zeros (dst := some 22) _ _ _ _ _ _ _ _ _ _ _ Try.underlying24 Try.underlying3 inf5 rfl (by decide) rfl rfl (by omega) (by decide) (by omega) HM ?_; clear HM; intro b22 cap xs W hc1 hc2 HM)))
      | ((with_reducible refine s_ 25 ?_); go_must ((refine wl_row_hi (dst := some 25) _ _ _ _ _ _ _ _ _ _ _ Try.underlying24 sz5 rfl rfl HM .here (by omega) (by omega) ?_; clear HM; intro HM))))
    refine ret1 rfl (res_tmp rfl) rfl ?_
    exact ⟨_, rfl, by simpa using HM⟩
def encV (v : Value) : List Value := [v]
theorem encV_len (v : Value) : (encV v).length = 1 := rfl
def catTo (us : List (Value × List UInt8)) (i : Nat) : List UInt8 := (us.take i).flatMap (·.2)
theorem catTo_succ (us : List (Value × List UInt8)) (i : Nat) (p : Value × List UInt8) (h : us[i]? = some p) : catTo us (i + 1) = catTo us i ++ p.2 := by
  have hi : i < us.length := (List.getElem?_eq_some_iff.1 h).1
  have he : us[i] = p := (List.getElem?_eq_some_iff.1 h).2
  rw [catTo, List.take_succ_eq_append_getElem hi, List.flatMap_append, he, catTo]; simp
theorem catTo_len (us : List (Value × List UInt8)) (i : Nat) : (catTo us i).length ≤ (catTo us us.length).length := by
  have h : catTo us us.length = catTo us i ++ (us.drop i).flatMap (·.2) := by
    rw [catTo, List.take_length, catTo, ← List.flatMap_append, List.take_append_drop]
  rw [h, List.length_append]; omega
set_option maxHeartbeats 800000 in
theorem concat_c (v : Value) (us : List (Value × List UInt8)) (w : World) (hV : RdL encV 1 w v (us.map (·.1))) (hU : ∀ p ∈ us, RdL encB 1 w p.1 p.2) (hl : (catTo us us.length).length ≤ 1048576) (hn : us.length ≤ 1000) :
    Calls Try.prog 129 #[v] w fun e w' => ∃ u, e = .returned u ∧ Mem w w' [.row u 5 1 (catTo us us.length).length ((catTo us us.length).flatMap encB)] := by
  have HM := Mem.start w
  have hvl : (us.map (·.1)).length = us.length := by simp
  go_enter Try.func129, Try.ntmps129
  go_wp2_with (first
    | ((with_reducible refine s_ 10 ?_); go_must ((refine wl_len (dst := some 10) _ _ _ _ 24 Try.underlying45 rfl (hV) ?_))))
  go_loopw [3, 5, 11] (fun s q c wr => ∃ i : Nat, i ≤ us.length ∧ c = .int .i64 i ∧ s = .int .i64 ((catTo us i).length : Nat) ∧ Mem w wr [])
    (fun _ _ c _ => us.length - (intOf c).toNat)
  case atStart => exact ⟨0, by omega, rfl, rfl, HM⟩
  case round =>
    clear HM
    obtain ⟨i, hi, rfl, rfl, HM⟩ := hrel
    by_cases hlt : i < us.length
    · have hb1 : (i : Int) < (us.length : Int) := by omega
      obtain ⟨p, hpe⟩ : ∃ p, us[i]? = some p := ⟨_, List.getElem?_eq_getElem hlt⟩
      have hx : (us.map (·.1))[i]? = some p.1 := by rw [List.getElem?_map, hpe]; rfl
      have hp := hU p (List.mem_of_getElem? hpe)
      have hcs := catTo_succ us i p hpe
      have hle := catTo_len us (i + 1)
      have hcl : (catTo us (i + 1)).length = (catTo us i).length + p.2.length := by rw [hcs, List.length_append]
      have hw : IntKind.i64.wrap (((catTo us i).length : Int) + (p.2.length : Int)) = ((catTo us i).length : Int) + (p.2.length : Int) := by rw [IntKind.wrap_i64]; omega
      have hnn : ¬ ((catTo us i).length : Int) + (p.2.length : Int) < 0 := by omega
      clear hcs
      go_wp2_with (first
        | ((with_reducible refine s_ 13 ?_); go_must ((refine wl_index (dst := some 13) _ 24 _ _ _ _ _ _ _ encV_len Try.underlying45 sz24 rfl rfl (hV.mem HM) (by omega) (by first | assumption | simp [*]) ?_); intro p13 hp13))
        | ((with_reducible refine s_ 14 ?_); go_must (refine wl_load_at1 (dst := some 14) _ _ _ _ _ rfl hp13 Try.underlying24 rfl ?_))
        | ((with_reducible refine s_ 17 ?_); go_must ((refine wl_len (dst := some 17) _ _ _ _ 5 Try.underlying24 rfl (hp) ?_))))
      go_roundw
      case rel => exact ⟨i + 1, by omega, by go_num, by rw [hcl, Int.natCast_add], HM⟩
      case measure => simp [intOf]; omega
    · obtain rfl : i = us.length := by omega
      go_wp2_with (first
        | ((with_reducible refine s_ 26 ?_); go_must ((refine wl_len (dst := some 26) _ _ _ _ 24 Try.underlying45 rfl (hV) ?_)))
        | (go_at_call 150; go_must (((with_reducible refine (grow0_c _ hl _).mono ?_)); rintro e W ⟨u6, rfl, HM'⟩; replace HM := HM.join HM'; clear HM'; simp only [List.cons_append, List.nil_append] at HM)))
      go_loopw [6, 8, 27] (fun o q c wr => ∃ i : Nat, i ≤ us.length ∧ c = .int .i64 i ∧ Mem w wr [.row o 5 1 (catTo us i).length ((catTo us i).flatMap encB)])
        (fun _ _ c _ => us.length - (intOf c).toNat)
      case atStart => exact ⟨0, by omega, rfl, HM⟩
      case round =>
        clear HM
        obtain ⟨i, hi, rfl, HM⟩ := hrel
        by_cases hlt2 : i < us.length
        · have hb1 : (i : Int) < (us.length : Int) := by omega
          obtain ⟨p, hpe⟩ : ∃ p, us[i]? = some p := ⟨_, List.getElem?_eq_getElem hlt2⟩
          have hx : (us.map (·.1))[i]? = some p.1 := by rw [List.getElem?_map, hpe]; rfl
          have hp := hU p (List.mem_of_getElem? hpe)
          have hcs := catTo_succ us i p hpe
          have hle := catTo_len us (i + 1)
          have hcl : (catTo us (i + 1)).length = (catTo us i).length + p.2.length := by rw [hcs, List.length_append]
          clear hcs
          go_wp2_with (first
            | ((with_reducible refine s_ 29 ?_); go_must ((refine wl_index (dst := some 29) _ 24 _ _ _ _ _ _ _ encV_len Try.underlying45 sz24 rfl rfl (hV.mem HM) (by omega) (by first | assumption | simp [*]) ?_); intro p29 hp29))
            | ((with_reducible refine s_ 30 ?_); go_must (refine wl_load_at1 (dst := some 30) _ _ _ _ _ rfl hp29 Try.underlying24 rfl ?_))
            | ((with_reducible refine s_ 33 ?_); go_must (refine wl_append (dst := some 33) (enc := encB) _ _ _ _ _ _ _ _ _ _ _ (p.2) Try.underlying24 inf5 rfl (by decide) encB_len encB_one HM .here (hp.mem HM) rfl rfl (by decide) (by omega) ?_; clear HM; intro v33 W HM; try dsimp only at HM)))
          rw [flat_snoc', ← catTo_succ us i p hpe, ← hcl] at HM
          go_roundw
          case rel => exact ⟨i + 1, by omega, by go_num, HM⟩
          case measure => simp [intOf]; omega
        · obtain rfl : i = us.length := by omega
          go_wp2_with (fail)
          refine ret1 rfl (res_tmp rfl) rfl ?_
          exact ⟨_, rfl, HM⟩
end
section
set_option linter.unusedVariables false
set_option linter.unusedSimpArgs false
set_option maxRecDepth 8000
open Go.RowKit
theorem cat_node (a b : Key) (v0 v1 v2 : Value) : catTo [(v0, [1]), (v1, a.toList), (v2, b.toList)] 3 = textNode a b := by simp [catTo, textNode]
set_option maxHeartbeats 800000 in
theorem nodeText_c (a b : Key) (w : World) :
    Calls Try.prog 68 #[.agg (kc a), .agg (kc b)] w fun e w' => ∃ v, e = .returned v ∧ Mem w w' [.row v 5 1 33 ((textNode a b).flatMap encB)] := by
  have HM := Mem.start w
  go_enter Try.func68, Try.ntmps68
  go_wp2_with (first
    | ((with_reducible refine s_ 2 ?_); go_must (refine wl_box (dst := some 2) (cs := kc a) _ _ _ rfl rfl HM ?_; clear HM; intro b2 W HM))
    | ((with_reducible refine s_ 3 ?_); go_must (refine wl_box (dst := some 3) (cs := kc b) _ _ _ rfl rfl HM ?_; clear HM; intro b3 W HM)))
  replace HM := HM.drew
  refine wp_region_mixN (fun W => Held w W []) (fun W => Held w W []) (.cons (2, 1) (.cons (2, 2) (.cons (0, 0) (.cons (0, 3) (.cons (0, 4) (.cons (2, 5) .nil)))))) [] (by kernel_rfl) (by kernel_rfl) (by kernel_rfl) (fun W h => Held.weak h (by simp)) (HM.held (by simp)) ?_
  revert HM; generalize World.drew _ = W; intro HM
  have HS1 : Held w W [] := HM.held (by simp)
  have HS2 : Held w W [] := HM.held (by simp)
  refine wm_q2 (i := 1) (some 6) rfl rfl rfl HS2 (fun W HS => by (go_simp; try with_reducible rfl)) ?_
  simp only [Act.put, List.getElem_toArray, List.getElem_cons_succ, List.getElem_cons_zero, List.setIfInBounds_toArray, List.set_cons_succ, List.set_cons_zero]
  refine wm_q2 (i := 2) (some 7) rfl rfl rfl HS2 (fun W HS => by (go_simp; try with_reducible rfl)) ?_
  simp only [Act.put, List.getElem_toArray, List.getElem_cons_succ, List.getElem_cons_zero, List.setIfInBounds_toArray, List.set_cons_succ, List.set_cons_zero]
  refine wm_e0 (i := 0) rfl ?_
  go_wp2_with (first
    | ((with_reducible refine s_ 5 ?_); go_must (refine wl_buildSlice (dst := some 5) (cs := #[.int .u8 1]) _ _ _ 5 1 _ Try.underlying24 Try.sizeOf5 Try.zeroValue5 (by decide) (by simp [Instr.fill, Act.eval, Act.put, Value.cells, undef, ← List.toArray_range, List.range_succ]) HM ?_; clear HM; intro b5 W HM; replace HM := HM.toRow 1 1 .here rfl (by simp [maxLen]))))
  refine ⟨HM.held (by simp), ?_⟩
  clear HS1 HS2
  have HS1 : Held w W [] := HM.held (by simp)
  have HS2 : Held w W [] := HM.held (by simp)
  refine wm_e0 (i := 3) rfl ?_
  go_wp2_with (first
    | ((with_reducible refine s_ 8 ?_); go_must (refine wl_buildSlice (dst := some 8) (cs := #[.slice (some ⟨b5, 0, none⟩) 1 1, .slice (some ⟨b2, 0, none⟩) 16 16, .slice (some ⟨b3, 0, none⟩) 16 16]) _ _ _ 24 1 _ Try.underlying45 Try.sizeOf24 Try.zeroValue24 (by decide) (by simp [Instr.fill, Act.eval, Act.put, Value.cells, undef, ← List.toArray_range, List.range_succ]) HM ?_; clear HM; intro b8 W HM)))
  refine ⟨HM.held (by simp), ?_⟩
  clear HS1 HS2
  have HS1 : Held w W [] := HM.held (by simp)
  have HS2 : Held w W [] := HM.held (by simp)
  refine wm_e0 (i := 4) rfl ?_
  go_wp2_with (first
    | (go_at_call 129; go_must (((with_reducible refine (concat_c _ [(.slice (some ⟨b5, 0, none⟩) 1 1, [1]), (.slice (some ⟨b2, 0, none⟩) 16 16, a.toList), (.slice (some ⟨b3, 0, none⟩) 16 16, b.toList)] _ (RdL.of_blk (HM.blk m0) _ 3 rfl rfl (by decide)) (by intro p hp; simp only [List.mem_cons, List.not_mem_nil, or_false] at hp; rcases hp with rfl | rfl | rfl; exact rd_row HM m1 rfl; exact rd_whole HM m3; exact rd_whole HM m2) (by rw [show ([(Value.slice (some ⟨b5, 0, none⟩) 1 1, [(1 : UInt8)]), (.slice (some ⟨b2, 0, none⟩) 16 16, a.toList), (.slice (some ⟨b3, 0, none⟩) 16 16, b.toList)]).length = 3 from rfl, cat_node, textNode_len]; decide) (by simp)).mono ?_)); rintro e W ⟨v9, rfl, HM'⟩; replace HM := HM.join HM'; clear HM'; simp only [List.cons_append, List.nil_append] at HM)))
  refine ⟨HM.held (by simp), ?_⟩
  clear HS1 HS2
  have HS1 : Held w W [] := HM.held (by simp)
  have HS2 : Held w W [] := HM.held (by simp)
  refine wm_q2 (i := 5) (some 4) rfl rfl rfl HS2 (fun W HS => by (go_simp; try with_reducible rfl)) ?_
  simp only [Act.put, List.getElem_toArray, List.getElem_cons_succ, List.getElem_cons_zero, List.setIfInBounds_toArray, List.set_cons_succ, List.set_cons_zero]
  refine wm_nilN ?_
  clear HS1 HS2
  go_wp2_with (fail)
  refine ret1 rfl (res_tmp rfl) rfl ?_
  have HM1 := HM.only m0
  rw [show ([(Value.slice (some ⟨b5, 0, none⟩) 1 1, [(1 : UInt8)]), (.slice (some ⟨b2, 0, none⟩) 16 16, a.toList), (.slice (some ⟨b3, 0, none⟩) 16 16, b.toList)]).length = 3 from rfl, cat_node, textNode_len] at HM1
  exact ⟨_, rfl, HM1⟩
def digLeaf (k : Key) : Key := digestL (textLeaf k)
def digNode (a b : Key) : Key := digestL (textNode a b)
set_option maxHeartbeats 400000 in
theorem root1_c (k : Key) (w : World) :
    Calls Try.prog 123 #[.agg (kc k)] w fun e w' => e = .returned (.agg (kc (digLeaf k))) ∧ Mem w w' [] := by
  have HM := Mem.start w
  go_enter Try.func123, Try.ntmps123
  go_wp2_with (first
    | ((with_reducible refine s_ 1 ?_); go_must (refine wl_box (dst := some 1) (cs := kc k) _ _ _ rfl rfl HM ?_; clear HM; intro b1 W HM))
    | ((with_reducible refine s_ 2 ?_); go_must (refine wl_alloc (dst := some 2) (cs := kc zeroKey) 23 _ Try.zeroValue23 kc_zero HM ?_; clear HM; intro b2 W HM))
    | ((with_reducible refine ld_ 23 ?_); go_must (refine wl_load_blk _ _ _ _ _ _ rfl HM (by repeat first | exact List.mem_cons_self .. | refine List.mem_cons_of_mem _ ?_) Try.underlying23 rfl (by rw [kc_size]; exact sz23) ?_))
    | ((with_reducible refine st_ 23 ?_); go_must ((refine wl_store_blk _ _ _ _ _ _ _ rfl rfl HM (.there .here) (by rw [kc_size]; exact sz23) (by simp only [kc_size]) (kc_one _) ?_); clear HM; intro W HM))
    | (go_at_call 66; go_must (((with_reducible refine (leafText_c _ _).mono ?_)); rintro e W ⟨v4, rfl, HM'⟩; replace HM := HM.join HM'; clear HM'; simp only [List.cons_append, List.nil_append] at HM))
    | (go_at_call 122; go_must (((with_reducible refine (digest_c _ (textLeaf k) _ (rd_row HM m0 rfl) (by rw [textLeaf_len]; decide)).mono ?_)); rintro e W ⟨rfl, HM'⟩; replace HM := HM.keep HM'.below; clear HM')))
  refine ret1 rfl (by (exact res_row HM rfl m1 Try.underlying23 rfl (by rw [kc_size]; exact sz23))) rfl ?_
  exact ⟨rfl, HM.base⟩
set_option maxHeartbeats 400000 in
theorem root2_c (a b : Key) (w : World) :
    Calls Try.prog 124 #[.agg (kc a), .agg (kc b)] w fun e w' => e = .returned (.agg (kc (digNode a b))) ∧ Mem w w' [] := by
  have HM := Mem.start w
  go_enter Try.func124, Try.ntmps124
  go_wp2_with (first
    | ((with_reducible refine s_ 2 ?_); go_must (refine wl_box (dst := some 2) (cs := kc a) _ _ _ rfl rfl HM ?_; clear HM; intro b2 W HM))
    | ((with_reducible refine s_ 3 ?_); go_must (refine wl_box (dst := some 3) (cs := kc b) _ _ _ rfl rfl HM ?_; clear HM; intro b3 W HM))
    | ((with_reducible refine s_ 4 ?_); go_must (refine wl_alloc (dst := some 4) (cs := kc zeroKey) 23 _ Try.zeroValue23 kc_zero HM ?_; clear HM; intro b4 W HM))
    | ((with_reducible refine ld_ 23 ?_); go_must (refine wl_load_blk _ _ _ _ _ _ rfl HM (by repeat first | exact List.mem_cons_self .. | refine List.mem_cons_of_mem _ ?_) Try.underlying23 rfl (by rw [kc_size]; exact sz23) ?_))
    | ((with_reducible refine st_ 23 ?_); go_must ((refine wl_store_blk _ _ _ _ _ _ _ rfl rfl HM (.there .here) (by rw [kc_size]; exact sz23) (by simp only [kc_size]) (kc_one _) ?_); clear HM; intro W HM))
    | (go_at_call 68; go_must (((with_reducible refine (nodeText_c _ _ _).mono ?_)); rintro e W ⟨v7, rfl, HM'⟩; replace HM := HM.join HM'; clear HM'; simp only [List.cons_append, List.nil_append] at HM))
    | (go_at_call 122; go_must (((with_reducible refine (digest_c _ (textNode a b) _ (rd_row HM m0 rfl) (by rw [textNode_len]; decide)).mono ?_)); rintro e W ⟨rfl, HM'⟩; replace HM := HM.keep HM'.below; clear HM')))
  refine ret1 rfl (by (exact res_row HM rfl m1 Try.underlying23 rfl (by rw [kc_size]; exact sz23))) rfl ?_
  exact ⟨rfl, HM.base⟩
end
section
set_option linter.unusedVariables false
set_option linter.unusedSimpArgs false
set_option maxRecDepth 8000
open Go.RowKit
section
variable {P : Program} {ops : Array Oper} {rest : List Oper} {a : Act} {Q : Exit → Act → World → Prop} {W : World} {dst : Option Tmp} {tt : TypeId} {ps : String} {af : Array Edge} {gd : Option (Nat × Bool)}
theorem wl_load_key {e : TypeId} (ty : TypeId) (x : Operand) (p : Value) (k : Key) (hx : a.eval x = p) (hp : At W p (encK k)) (hu : P.underlying ty = some (.array 16 e)) (hi : (P.info? ty).map (·.size) = some 16)
    (h : wpList P ops Q rest (a.put dst (.agg (kc k))) W) : wpList P ops Q (Oper.mk dst (.load ty x) tt ps af none :: rest) a W :=
  wl_load_at ty x p (encK k) _ hx hp hu rfl (by rw [encK_len]; exact hi) h
theorem ry_load_key {e : TypeId} (ty : TypeId) (x : Operand) (p : Value) (k : Key) (hx : a.eval x = p) (hp : At W p (encK k)) (hu : P.underlying ty = some (.array 16 e)) (hi : (P.info? ty).map (·.size) = some 16) :
    (execOp a.eval (Oper.mk dst (.load ty x) tt ps af gd)).run P W = .ok (.value (.agg (kc k))) W :=
  ry_load_at ty x p (encK k) _ hx hp hu rfl (by rw [encK_len]; exact hi)
end
theorem splitN_lt (n : Nat) (h : 2 ≤ n) : 1 ≤ splitN n ∧ splitN n < n := by
  have h0 : n - 1 ≠ 0 := by omega
  have h1 : splitN n = 2 ^ Nat.log2 (n - 1) := by rw [splitN, lenN, if_neg h0]; rfl
  have h2 := Nat.log2_self_le h0
  rw [h1]
  exact ⟨Nat.one_le_two_pow, by omega⟩
def rootL (l : List Key) : Key :=
  if h0 : l.length = 0 then digestL []
  else if h1 : l.length = 1 then digLeaf (l[0]'(by omega))
  else digNode (rootL (l.take (splitN l.length))) (rootL (l.drop (splitN l.length)))
termination_by l.length
decreasing_by
  · have := splitN_lt l.length (by omega); simp; omega
  · have := splitN_lt l.length (by omega); simp; omega
theorem rootL_one (l : List Key) (h : l.length = 1) : rootL l = digLeaf (l[0]'(by omega)) := by
  rw [rootL, dif_neg (by omega), dif_pos h]
theorem rootL_two (l : List Key) (h : 2 ≤ l.length) : rootL l = digNode (rootL (l.take (splitN l.length))) (rootL (l.drop (splitN l.length))) := by
  rw [rootL, dif_neg (by omega), dif_neg (by omega)]
set_option maxHeartbeats 1600000 in
theorem foldK_c : ∀ (n : Nat) (l : List Key) (v : Value) (w : World), l.length = n → 1 ≤ n → n ≤ 256 → RdL encK 16 w v l →
    Calls Try.prog 63 #[v, .func (.func 123) #[] #[], .func (.func 124) #[] #[]] w fun e w' => e = .returned (.agg (kc (rootL l))) ∧ Mem w w' [] := by
  intro n
  induction n using Nat.strongRecOn with
  | ind n ih =>
    intro l v w hln h1 hn hR
    subst hln
    have HM := Mem.start w
    by_cases hone : l.length = 1
    · have hb : (l.length : Int) = 1 := by omega
      clear ih
      have hx : l[(0 : Int).toNat]? = some (l[0]'(by omega)) := List.getElem?_eq_getElem (by omega)
      go_enter Try.func63, Try.ntmps63
      go_wp2_with (first
        | ((with_reducible refine s_ 6 ?_); go_must (refine wl_alloc (dst := some 6) (cs := kc zeroKey) 23 _ Try.zeroValue23 kc_zero HM ?_; clear HM; intro b6 W HM))
        | ((with_reducible refine s_ 9 ?_); go_must ((refine wl_len (dst := some 9) _ _ _ _ 23 Try.underlying40 rfl (hR.mem HM) ?_)))
        | ((with_reducible refine s_ 13 ?_); go_must ((refine wl_index (dst := some 13) _ 23 _ _ _ _ _ _ _ encK_len Try.underlying40 sz23 rfl rfl (hR.mem HM) (by omega) (by first | assumption | simp [*]) ?_); intro p13 hp13))
        | ((with_reducible refine s_ 14 ?_); go_must (refine wl_load_key (dst := some 14) _ _ _ _ rfl hp13 Try.underlying23 sz23 ?_))
        | ((with_reducible refine st_ 23 ?_); go_must ((refine wl_store_blk _ _ _ _ _ _ _ rfl rfl HM .here (by rw [kc_size]; exact sz23) (by simp only [kc_size]) (kc_one _) ?_); clear HM; intro W HM))
        | (go_at_call 123; go_must (((with_reducible refine (root1_c _ _).mono ?_)); rintro e W ⟨rfl, HM'⟩; replace HM := HM.keep HM'.below; clear HM')))
      refine ret1 rfl (by (exact res_row HM rfl m0 Try.underlying23 rfl (by rw [kc_size]; exact sz23))) rfl ?_
      exact ⟨by rw [rootL_one l hone], HM.base⟩
    · have hb : ¬ (l.length : Int) = 1 := by omega
      have hs := splitN_lt l.length (by omega)
      have e : (((splitN l.length : Nat) : Int)).toNat = splitN l.length := Int.toNat_natCast _
      have hi1 : (0 : Int) ≤ ((splitN l.length : Nat) : Int) := by omega
      have hi2 : ((splitN l.length : Nat) : Int) ≤ (l.length : Int) := by omega
      go_enter Try.func63, Try.ntmps63
      go_wp2_with (first
        | ((with_reducible refine s_ 6 ?_); go_must (refine wl_alloc (dst := some 6) (cs := kc zeroKey) 23 _ Try.zeroValue23 kc_zero HM ?_; clear HM; intro b6 W HM))
        | ((with_reducible refine s_ 9 ?_); go_must ((refine wl_len (dst := some 9) _ _ _ _ 23 Try.underlying40 rfl (hR.mem HM) ?_)))
        | ((with_reducible refine s_ 17 ?_); go_must ((refine wl_len (dst := some 17) _ _ _ _ 23 Try.underlying40 rfl (hR.mem HM) ?_)))
        | (go_at_call 72; go_must (((with_reducible refine (split_c _ (by omega) (by omega) _).mono ?_)); rintro e W ⟨rfl, HM'⟩; replace HM := HM.keep HM'.below; clear HM')))
      replace HM := HM.drew
      refine wp_region_mixN (fun W => Held w W []) (fun W => Held w W []) (.cons (2, 0) (.cons (2, 1) (.cons (2, 2) (.cons (2, 3) (.cons (2, 4) (.cons (2, 5) (.cons (2, 7) (.cons (2, 8) (.cons (2, 9) (.cons (2, 10) (.cons (2, 11) (.cons (0, 6) (.cons (0, 12) (.cons (0, 13) (.cons (0, 14) .nil))))))))))))))) [] (by kernel_rfl) (by kernel_rfl) (by kernel_rfl) (fun W h => Held.weak h (by simp)) (HM.held (by simp)) ?_
      revert HM; generalize World.drew _ = W; intro HM
      have HS1 : Held w W [] := HM.held (by simp)
      have HS2 : Held w W [] := HM.held (by simp)
      refine wm_q2 (i := 0) (some 19) rfl rfl rfl HS2 (fun W HS => by (go_simp; try with_reducible rfl)) ?_
      simp only [Act.put, List.getElem_toArray, List.getElem_cons_succ, List.getElem_cons_zero, List.setIfInBounds_toArray, List.set_cons_succ, List.set_cons_zero]
      refine wm_q2 (i := 1) (some 20) rfl rfl rfl HS2 (fun W HS => by (go_simp; try with_reducible rfl)) ?_
      simp only [Act.put, List.getElem_toArray, List.getElem_cons_succ, List.getElem_cons_zero, List.setIfInBounds_toArray, List.set_cons_succ, List.set_cons_zero]
      refine wm_q2 (i := 2) (some 21) rfl rfl rfl HS2 (fun W HS => by (go_simp; try with_reducible rfl)) ?_
      simp only [Act.put, List.getElem_toArray, List.getElem_cons_succ, List.getElem_cons_zero, List.setIfInBounds_toArray, List.set_cons_succ, List.set_cons_zero]
      (refine wm_q2x (i := 3) (some 22) rfl rfl rfl HS2 (ry_slice_hi _ 23 _ _ _ _ _ _ encK_len Try.underlying40 sz23 (hR.mem HM) rfl rfl (by omega) (by omega)) ?_); intro v22 hv22
      simp only [Act.put, List.getElem_toArray, List.getElem_cons_succ, List.getElem_cons_zero, List.setIfInBounds_toArray, List.set_cons_succ, List.set_cons_zero]
      refine wm_q2 (i := 4) (some 23) rfl rfl rfl HS2 (fun W HS => by (go_simp; try with_reducible rfl)) ?_
      simp only [Act.put, List.getElem_toArray, List.getElem_cons_succ, List.getElem_cons_zero, List.setIfInBounds_toArray, List.set_cons_succ, List.set_cons_zero]
      refine wm_q2 (i := 5) (some 24) rfl rfl rfl HS2 (fun W HS => by (go_simp; try with_reducible rfl)) ?_
      simp only [Act.put, List.getElem_toArray, List.getElem_cons_succ, List.getElem_cons_zero, List.setIfInBounds_toArray, List.set_cons_succ, List.set_cons_zero]
      refine wm_q2 (i := 7) (some 26) rfl rfl rfl HS2 (fun W HS => by (go_simp; try with_reducible rfl)) ?_
      simp only [Act.put, List.getElem_toArray, List.getElem_cons_succ, List.getElem_cons_zero, List.setIfInBounds_toArray, List.set_cons_succ, List.set_cons_zero]
      refine wm_q2 (i := 8) (some 27) rfl rfl rfl HS2 (fun W HS => by (go_simp; try with_reducible rfl)) ?_
      simp only [Act.put, List.getElem_toArray, List.getElem_cons_succ, List.getElem_cons_zero, List.setIfInBounds_toArray, List.set_cons_succ, List.set_cons_zero]
      (refine wm_q2x (i := 9) (some 28) rfl rfl rfl HS2 (ry_slice_lo _ 23 _ _ _ _ _ _ encK_len Try.underlying40 sz23 (hR.mem HM) rfl rfl (by omega) (by omega)) ?_); intro v28 hv28
      simp only [Act.put, List.getElem_toArray, List.getElem_cons_succ, List.getElem_cons_zero, List.setIfInBounds_toArray, List.set_cons_succ, List.set_cons_zero]
      refine wm_q2 (i := 10) (some 29) rfl rfl rfl HS2 (fun W HS => by (go_simp; try with_reducible rfl)) ?_
      simp only [Act.put, List.getElem_toArray, List.getElem_cons_succ, List.getElem_cons_zero, List.setIfInBounds_toArray, List.set_cons_succ, List.set_cons_zero]
      refine wm_q2 (i := 11) (some 30) rfl rfl rfl HS2 (fun W HS => by (go_simp; try with_reducible rfl)) ?_
      simp only [Act.put, List.getElem_toArray, List.getElem_cons_succ, List.getElem_cons_zero, List.setIfInBounds_toArray, List.set_cons_succ, List.set_cons_zero]
      refine wm_e0 (i := 6) rfl ?_
      go_wp2_with (first
        | (go_at_call 63; go_must (((with_reducible refine (ih (splitN l.length) (by omega) _ _ _ (by rw [List.length_take]; omega) (by omega) (by omega) (hv22 _ (hR.mem HM))).mono ?_)); rintro e W ⟨rfl, HM'⟩; replace HM := HM.keep HM'.below; clear HM')))
      refine ⟨HM.held (by simp), ?_⟩
      clear HS1 HS2
      have HS1 : Held w W [] := HM.held (by simp)
      have HS2 : Held w W [] := HM.held (by simp)
      refine wm_e0 (i := 12) rfl ?_
      go_wp2_with (first
        | (go_at_call 63; go_must (((with_reducible refine (ih (l.length - splitN l.length) (by omega) _ _ _ (by rw [List.length_drop]; omega) (by omega) (by omega) (hv28 _ (hR.mem HM))).mono ?_)); rintro e W ⟨rfl, HM'⟩; replace HM := HM.keep HM'.below; clear HM')))
      refine ⟨HM.held (by simp), ?_⟩
      clear HS1 HS2
      have HS1 : Held w W [] := HM.held (by simp)
      have HS2 : Held w W [] := HM.held (by simp)
      refine wm_e0 (i := 13) rfl ?_
      go_wp2_with (first
        | (go_at_call 124; go_must (((with_reducible refine (root2_c _ _ _).mono ?_)); rintro e W ⟨rfl, HM'⟩; replace HM := HM.keep HM'.below; clear HM')))
      refine ⟨HM.held (by simp), ?_⟩
      clear HS1 HS2
      have HS1 : Held w W [] := HM.held (by simp)
      have HS2 : Held w W [] := HM.held (by simp)
      refine wm_e0 (i := 14) rfl ?_
      go_wp2_with (first
        | ((with_reducible refine st_ 23 ?_); go_must ((refine wl_store_blk _ _ _ _ _ _ _ rfl rfl HM .here (by rw [kc_size]; exact sz23) (by simp only [kc_size]) (kc_one _) ?_); clear HM; intro W HM)))
      refine ⟨HM.held (by simp), ?_⟩
      clear HS1 HS2
      have HS1 : Held w W [] := HM.held (by simp)
      have HS2 : Held w W [] := HM.held (by simp)
      refine wm_nilN ?_
      clear HS1 HS2
      go_wp2_with (fail)
      refine ret1 rfl (by (exact res_row HM rfl m0 Try.underlying23 rfl (by rw [kc_size]; exact sz23))) rfl ?_
      rw [rootL_two l (by omega)]
      exact ⟨rfl, HM.base⟩
end
section
set_option linter.unusedVariables false
set_option linter.unusedSimpArgs false
set_option maxRecDepth 8000
open Go.RowKit
abbrev Ent := Int × Int
def encE (x : Ent) : List Value := [.int .i64 x.1, .int .i64 x.2]
theorem encE_len (x : Ent) : (encE x).length = 2 := rfl
theorem encE_one (x : Ent) : ∀ u ∈ encE x, u.oneCell' = true := by
  intro u hu
  simp only [encE, List.mem_cons, List.not_mem_nil, or_false] at hu
  rcases hu with rfl | rfl <;> rfl
theorem At.e0 {W : World} {b o : Nat} {x : Ent} (h : At W (.pointer (some ⟨b, o, none⟩)) (encE x)) : At W (.pointer (some ⟨b, o, none⟩)) [.int .i64 x.1] := by
  obtain ⟨b', o', e, hr⟩ := h
  injection e with e; injection e with e; injection e with e1 e2
  subst e1; subst e2
  refine ⟨b, o, rfl, fun j v hv => hr j v ?_⟩
  cases j with
  | zero => exact hv
  | succ j => simp at hv
theorem At.e1 {W : World} {b o : Nat} {x : Ent} (h : At W (.pointer (some ⟨b, o, none⟩)) (encE x)) : At W (.pointer (some ⟨b, o + 1, none⟩)) [.int .i64 x.2] := by
  obtain ⟨b', o', e, hr⟩ := h
  injection e with e; injection e with e; injection e with e1 e2
  subst e1; subst e2
  refine ⟨b, o + 1, rfl, fun j v hv => ?_⟩
  cases j with
  | zero => exact hr 1 v hv
  | succ j => simp at hv
section
variable {P : Program} {ops : Array Oper} {rest : List Oper} {a : Act} {Q : Exit → Act → World → Prop} {W : World} {dst : Option Tmp} {tt : TypeId} {ps : String} {af : Array Edge} {gd : Option (Nat × Bool)}
theorem wl_load_ent {d : TypeDesc} (ty : TypeId) (x : Operand) (p : Value) (k : Ent) (hx : a.eval x = p) (hp : At W p (encE k)) (hu : P.underlying ty = some d) (hd : d.isRow = true) (hi : (P.info? ty).map (·.size) = some 2)
    (h : wpList P ops Q rest (a.put dst (.agg #[.int .i64 k.1, .int .i64 k.2])) W) : wpList P ops Q (Oper.mk dst (.load ty x) tt ps af none :: rest) a W :=
  wl_load_at ty x p (encE k) _ hx hp hu hd hi h
theorem ry_load_ent {d : TypeDesc} (ty : TypeId) (x : Operand) (p : Value) (k : Ent) (hx : a.eval x = p) (hp : At W p (encE k)) (hu : P.underlying ty = some d) (hd : d.isRow = true) (hi : (P.info? ty).map (·.size) = some 2) :
    (execOp a.eval (Oper.mk dst (.load ty x) tt ps af gd)).run P W = .ok (.value (.agg #[.int .i64 k.1, .int .i64 k.2])) W :=
  ry_load_at ty x p (encE k) _ hx hp hu hd hi
end
def okE (p : Int) (x : Ent) : Bool := decide (0 ≤ x.1 ∧ x.1 < 64 ∧ 0 ≤ x.2 ∧ x.2 ≤ 1099511627776 ∧ p < x.1)
def validFrom (p : Int) : List Ent → Bool
  | [] => true
  | x :: r => okE p x && validFrom x.1 r
def validB (l : List Ent) : Bool := validFrom (-1) l
def prevAt (l : List Ent) (i : Nat) : Int := if i = 0 then -1 else (l.getD (i - 1) (0, 0)).1
def CkInv (l : List Ent) (i : Nat) : Prop := validB l = validFrom (prevAt l i) (l.drop i)
theorem CkInv.start (l : List Ent) : CkInv l 0 := by simp [CkInv, validB, prevAt]
theorem CkInv.step {l : List Ent} {i : Nat} {x : Ent} (h : CkInv l i) (hx : l[i]? = some x) (hok : okE (prevAt l i) x = true) : CkInv l (i + 1) := by
  have hi : i < l.length := (List.getElem?_eq_some_iff.1 hx).1
  have he : l[i] = x := (List.getElem?_eq_some_iff.1 hx).2
  rw [CkInv, h, List.drop_eq_getElem_cons hi, he, validFrom, hok, Bool.true_and, prevAt, if_neg (by omega), Nat.add_sub_cancel, List.getD_eq_getElem?_getD, hx]; rfl
theorem CkInv.bad {l : List Ent} {i : Nat} {x : Ent} (h : CkInv l i) (hx : l[i]? = some x) (hok : okE (prevAt l i) x = false) : validB l = false := by
  have hi : i < l.length := (List.getElem?_eq_some_iff.1 hx).1
  have he : l[i] = x := (List.getElem?_eq_some_iff.1 hx).2
  rw [h, List.drop_eq_getElem_cons hi, he, validFrom, hok, Bool.false_and]
theorem CkInv.done {l : List Ent} {i : Nat} (h : CkInv l i) (hi : l.length ≤ i) : validB l = true := by
  rw [h, List.drop_of_length_le hi, validFrom]
theorem ck_ways (l : List Ent) (i : Nat) (x : Ent) (hx : l[i]? = some x) :
    (decide (x.1 < 0) = true ∧ okE (prevAt l i) x = false) ∨
    (decide (x.1 < 0) = false ∧ decide (64 ≤ x.1) = true ∧ okE (prevAt l i) x = false) ∨
    (decide (x.1 < 0) = false ∧ decide (64 ≤ x.1) = false ∧ decide (x.2 < 0) = true ∧ okE (prevAt l i) x = false) ∨
    (decide (x.1 < 0) = false ∧ decide (64 ≤ x.1) = false ∧ decide (x.2 < 0) = false ∧ decide (1099511627776 < x.2) = true ∧ okE (prevAt l i) x = false) ∨
    (decide (x.1 < 0) = false ∧ decide (64 ≤ x.1) = false ∧ decide (x.2 < 0) = false ∧ decide (1099511627776 < x.2) = false ∧ i = 0 ∧ okE (prevAt l i) x = true) ∨
    (decide (x.1 < 0) = false ∧ decide (64 ≤ x.1) = false ∧ decide (x.2 < 0) = false ∧ decide (1099511627776 < x.2) = false ∧ ∃ y, 0 < i ∧ l[i - 1]? = some y ∧
      ((decide (x.1 ≤ y.1) = true ∧ okE (prevAt l i) x = false) ∨ (decide (x.1 ≤ y.1) = false ∧ okE (prevAt l i) x = true))) := by
  have hi : i < l.length := (List.getElem?_eq_some_iff.1 hx).1
  by_cases h1 : x.1 < 0
  · exact .inl ⟨by simpa using h1, by rw [okE, decide_eq_false_iff_not]; omega⟩
  · by_cases h2 : 64 ≤ x.1
    · exact .inr (.inl ⟨by simpa using h1, by simpa using h2, by rw [okE, decide_eq_false_iff_not]; omega⟩)
    · by_cases h3 : x.2 < 0
      · exact .inr (.inr (.inl ⟨by simpa using h1, by simpa using h2, by simpa using h3, by rw [okE, decide_eq_false_iff_not]; omega⟩))
      · by_cases h4 : 1099511627776 < x.2
        · exact .inr (.inr (.inr (.inl ⟨by simpa using h1, by simpa using h2, by simpa using h3, by simpa using h4, by rw [okE, decide_eq_false_iff_not]; omega⟩)))
        · by_cases h5 : i = 0
          · exact .inr (.inr (.inr (.inr (.inl ⟨by simpa using h1, by simpa using h2, by simpa using h3, by simpa using h4, h5, by rw [okE, decide_eq_true_iff, prevAt, if_pos h5]; omega⟩))))
          · refine .inr (.inr (.inr (.inr (.inr ⟨by simpa using h1, by simpa using h2, by simpa using h3, by simpa using h4, l[i - 1]'(by omega), by omega, List.getElem?_eq_getElem (by omega), ?_⟩))))
            have hp : prevAt l i = (l[i - 1]'(by omega)).1 := by rw [prevAt, if_neg h5, List.getD_eq_getElem?_getD, List.getElem?_eq_getElem (by omega)]; rfl
            rw [hp]
            by_cases h6 : x.1 ≤ (l[i - 1]'(by omega)).1
            · exact .inl ⟨by simpa using h6, by rw [okE, decide_eq_false_iff_not]; omega⟩
            · exact .inr ⟨by simpa using h6, by rw [okE, decide_eq_true_iff]; omega⟩
def ckE (l : List Ent) : Int := if validB l = true then 0 else 90
theorem ckE_ok (l : List Ent) (h : validB l = true) : ckE l = 0 := by rw [ckE, if_pos h]
theorem ckE_no (l : List Ent) (h : validB l = false) : ckE l = 90 := by rw [ckE, if_neg (by rw [h]; decide)]
end
section
set_option linter.unusedVariables false
set_option linter.unusedSimpArgs false
set_option maxRecDepth 8000
open Go.RowKit
set_option maxHeartbeats 3200000 in
theorem CheckList_c (v : Value) (l : List Ent) (w : World) (hR : RdL encE 2 w v l) (hl : l.length ≤ 140737488351232) :
    Calls Try.prog 44 #[v] w fun e w' => e = .returned (.int .i64 (ckE l)) ∧ Mem w w' [] := by
  have HM := Mem.start w
  go_enter Try.func44, Try.ntmps44
  go_wp2_with (first
    | ((with_reducible refine s_ 6 ?_); go_must ((refine wl_len (dst := some 6) _ _ _ _ 79 Try.underlying77 rfl (hR.mem HM) ?_))))
  go_loopw [7] (fun c wr => ∃ i : Nat, i ≤ l.length ∧ c = .int .i64 i ∧ CkInv l i ∧ Mem w wr [])
    (fun c _ => l.length - (intOf c).toNat)
  case atStart => exact ⟨0, by omega, rfl, CkInv.start l, HM⟩
  case round =>
    clear HM
    obtain ⟨i, hi, rfl, hC, HM⟩ := hrel
    by_cases hlt : i < l.length
    · have hb : (i : Int) < (l.length : Int) := by omega
      obtain ⟨x, hx⟩ : ∃ x, l[i]? = some x := ⟨_, List.getElem?_eq_getElem hlt⟩
      have hw1 : IntKind.i64.wrap ((i : Int) - 1) = (i : Int) - 1 := by rw [IntKind.wrap_i64]; omega
      have ht1 : ((i : Int) - 1).toNat = i - 1 := by omega
      rcases ck_ways l i x hx with ⟨c1, hk⟩ | ⟨c1, c2, hk⟩ | ⟨c1, c2, c3, hk⟩ | ⟨c1, c2, c3, c4, hk⟩ | ⟨c1, c2, c3, c4, rfl, hk⟩ | ⟨c1, c2, c3, c4, y, c5, hy, ⟨c6, hk⟩ | ⟨c6, hk⟩⟩
      all_goals
        (try have hy' : l[((i : Int) - 1).toNat]? = some y := by rw [ht1]; exact hy)
        clear ht1
        go_wp2_with (first
          | ((with_reducible refine s_ 10 ?_); go_must ((refine wl_index (dst := some 10) _ 79 _ _ _ _ _ _ _ encE_len Try.underlying77 sz79 rfl rfl (hR.mem HM) (by omega) (by first | assumption | simp [*]) ?_); intro p10 hp10; obtain ⟨bb10, oo10, hpe10, -⟩ := id hp10; subst hpe10))
          | ((with_reducible refine s_ 11 ?_); go_must (refine wl_load_ent (dst := some 11) _ _ _ _ rfl hp10 Try.underlying79 rfl sz79 ?_))
          | ((with_reducible refine s_ 4 ?_); go_must (refine wl_alloc (dst := some 4) (cs := #[Value.int IntKind.i64 0, Value.int IntKind.i64 0]) 79 _ Try.zeroValue79 rfl HM ?_; clear HM; intro b4 W HM))
          | ((with_reducible refine st_ 79 ?_); go_must ((refine wl_store_blk _ _ _ _ _ _ _ rfl rfl HM .here sz79 rfl (by simp [Value.oneCell']) ?_); clear HM; intro W HM)))
        replace HM := HM.drew
        refine wp_region_mixN (fun W => Held w W [.blk b4 #[.int .i64 x.1, .int .i64 x.2] 79]) (fun W => Held w W [.blk b4 #[.int .i64 x.1, .int .i64 x.2] 79]) (.cons (2, 0) (.cons (2, 1) (.cons (2, 2) (.cons (2, 3) (.cons (2, 4) (.cons (2, 5) (.cons (2, 6) (.cons (2, 7) (.cons (2, 8) (.cons (2, 9) (.cons (2, 10) (.cons (2, 11) (.cons (2, 12) (.cons (2, 13) (.cons (2, 14) (.cons (2, 15) (.cons (2, 16) (.cons (2, 17) (.cons (2, 18) (.cons (2, 19) (.cons (2, 20) (.cons (2, 21) (.cons (2, 22) (.cons (2, 23) (.cons (2, 24) (.cons (2, 25) (.cons (2, 26) (.cons (2, 27) (.cons (2, 28) (.cons (2, 29) (.cons (2, 30) (.cons (2, 31) (.cons (2, 32) .nil))))))))))))))))))))))))))))))))) [] (by kernel_rfl) (by kernel_rfl) (by kernel_rfl) (fun W h => Held.weak h (by simp)) (HM.held (by simp)) ?_
        revert HM; generalize World.drew _ = W; intro HM
        have HS1 : Held w W [.blk b4 #[.int .i64 x.1, .int .i64 x.2] 79] := HM.held (by simp)
        have HS2 : Held w W [.blk b4 #[.int .i64 x.1, .int .i64 x.2] 79] := HM.held (by simp)
        refine wm_q2 (i := 0) (some 12) rfl rfl rfl HS2 (fun W HS => by (go_simp; try with_reducible rfl)) ?_
        simp only [Act.put, List.getElem_toArray, List.getElem_cons_succ, List.getElem_cons_zero, List.setIfInBounds_toArray, List.set_cons_succ, List.set_cons_zero]
        refine wm_q2 (i := 1) (some 13) rfl rfl rfl HS2 (fun W HS => (by (exact ry_load_cell _ _ _ _ _ _ _ _ HS rfl m0 rfl Try.underlying3 rfl))) ?_
        simp only [Act.put, List.getElem_toArray, List.getElem_cons_succ, List.getElem_cons_zero, List.setIfInBounds_toArray, List.set_cons_succ, List.set_cons_zero]
        refine wm_q2 (i := 2) (some 14) rfl rfl rfl HS2 (fun W HS => by (go_simp; try with_reducible rfl)) ?_
        simp only [Act.put, List.getElem_toArray, List.getElem_cons_succ, List.getElem_cons_zero, List.setIfInBounds_toArray, List.set_cons_succ, List.set_cons_zero]
        refine wm_q2 (i := 3) (some 15) rfl rfl rfl HS2 (fun W HS => by (go_simp; try with_reducible rfl)) ?_
        simp only [Act.put, List.getElem_toArray, List.getElem_cons_succ, List.getElem_cons_zero, List.setIfInBounds_toArray, List.set_cons_succ, List.set_cons_zero]
        (first | (refine wm_s2 (i := 4) (some 16) rfl rfl (by rfl) HS2 ?_) | (refine wm_g2 (i := 4) (some 16) rfl rfl (by rfl) HS2 (fun W HS => by (go_simp; try with_reducible rfl)) ?_))
        simp only [Act.put, List.getElem_toArray, List.getElem_cons_succ, List.getElem_cons_zero, List.setIfInBounds_toArray, List.set_cons_succ, List.set_cons_zero]
        (first | (refine wm_s2 (i := 5) (some 17) rfl rfl (by rfl) HS2 ?_) | (refine wm_g2 (i := 5) (some 17) rfl rfl (by rfl) HS2 (fun W HS => (by (exact ry_load_cell _ _ _ _ _ _ _ _ HS rfl m0 rfl Try.underlying3 rfl))) ?_))
        simp only [Act.put, List.getElem_toArray, List.getElem_cons_succ, List.getElem_cons_zero, List.setIfInBounds_toArray, List.set_cons_succ, List.set_cons_zero]
        (first | (refine wm_s2 (i := 6) (some 18) rfl rfl (by rfl) HS2 ?_) | (refine wm_g2 (i := 6) (some 18) rfl rfl (by rfl) HS2 (fun W HS => by (go_simp; try with_reducible rfl)) ?_))
        simp only [Act.put, List.getElem_toArray, List.getElem_cons_succ, List.getElem_cons_zero, List.setIfInBounds_toArray, List.set_cons_succ, List.set_cons_zero]
        refine wm_q2 (i := 7) (some 19) rfl rfl rfl HS2 (fun W HS => by (go_simp; try with_reducible rfl)) ?_
        simp only [Act.put, List.getElem_toArray, List.getElem_cons_succ, List.getElem_cons_zero, List.setIfInBounds_toArray, List.set_cons_succ, List.set_cons_zero]
        refine wm_q2 (i := 8) (some 20) rfl rfl rfl HS2 (fun W HS => by (go_simp; try with_reducible rfl)) ?_
        simp only [Act.put, List.getElem_toArray, List.getElem_cons_succ, List.getElem_cons_zero, List.setIfInBounds_toArray, List.set_cons_succ, List.set_cons_zero]
        (first | (refine wm_s2 (i := 9) (some 21) rfl rfl (by rfl) HS2 ?_) | (refine wm_g2 (i := 9) (some 21) rfl rfl (by rfl) HS2 (fun W HS => by (go_simp; try with_reducible rfl)) ?_))
        simp only [Act.put, List.getElem_toArray, List.getElem_cons_succ, List.getElem_cons_zero, List.setIfInBounds_toArray, List.set_cons_succ, List.set_cons_zero]
        (first | (refine wm_s2 (i := 10) (some 22) rfl rfl (by rfl) HS2 ?_) | (refine wm_g2 (i := 10) (some 22) rfl rfl (by rfl) HS2 (fun W HS => (by (exact ry_load_cell _ _ _ _ _ _ _ _ HS rfl m0 rfl Try.underlying3 rfl))) ?_))
        simp only [Act.put, List.getElem_toArray, List.getElem_cons_succ, List.getElem_cons_zero, List.setIfInBounds_toArray, List.set_cons_succ, List.set_cons_zero]
        (first | (refine wm_s2 (i := 11) (some 23) rfl rfl (by rfl) HS2 ?_) | (refine wm_g2 (i := 11) (some 23) rfl rfl (by rfl) HS2 (fun W HS => by (go_simp; try with_reducible rfl)) ?_))
        simp only [Act.put, List.getElem_toArray, List.getElem_cons_succ, List.getElem_cons_zero, List.setIfInBounds_toArray, List.set_cons_succ, List.set_cons_zero]
        refine wm_q2 (i := 12) (some 24) rfl rfl rfl HS2 (fun W HS => by (go_simp; try with_reducible rfl)) ?_
        simp only [Act.put, List.getElem_toArray, List.getElem_cons_succ, List.getElem_cons_zero, List.setIfInBounds_toArray, List.set_cons_succ, List.set_cons_zero]
        refine wm_q2 (i := 13) (some 25) rfl rfl rfl HS2 (fun W HS => by (go_simp; try with_reducible rfl)) ?_
        simp only [Act.put, List.getElem_toArray, List.getElem_cons_succ, List.getElem_cons_zero, List.setIfInBounds_toArray, List.set_cons_succ, List.set_cons_zero]
        (first | (refine wm_s2 (i := 14) (some 26) rfl rfl (by rfl) HS2 ?_) | (refine wm_g2 (i := 14) (some 26) rfl rfl (by rfl) HS2 (fun W HS => by (go_simp; try with_reducible rfl)) ?_))
        simp only [Act.put, List.getElem_toArray, List.getElem_cons_succ, List.getElem_cons_zero, List.setIfInBounds_toArray, List.set_cons_succ, List.set_cons_zero]
        (first | (refine wm_s2 (i := 15) (some 27) rfl rfl (by rfl) HS2 ?_) | (refine wm_g2 (i := 15) (some 27) rfl rfl (by rfl) HS2 (fun W HS => (by (exact ry_load_cell _ _ _ _ _ _ _ _ HS rfl m0 rfl Try.underlying3 rfl))) ?_))
        simp only [Act.put, List.getElem_toArray, List.getElem_cons_succ, List.getElem_cons_zero, List.setIfInBounds_toArray, List.set_cons_succ, List.set_cons_zero]
        (first | (refine wm_s2 (i := 16) (some 28) rfl rfl (by rfl) HS2 ?_) | (refine wm_g2 (i := 16) (some 28) rfl rfl (by rfl) HS2 (fun W HS => by (go_simp; try with_reducible rfl)) ?_))
        simp only [Act.put, List.getElem_toArray, List.getElem_cons_succ, List.getElem_cons_zero, List.setIfInBounds_toArray, List.set_cons_succ, List.set_cons_zero]
        refine wm_q2 (i := 17) (some 29) rfl rfl rfl HS2 (fun W HS => by (go_simp; try with_reducible rfl)) ?_
        simp only [Act.put, List.getElem_toArray, List.getElem_cons_succ, List.getElem_cons_zero, List.setIfInBounds_toArray, List.set_cons_succ, List.set_cons_zero]
        refine wm_q2 (i := 18) (some 30) rfl rfl rfl HS2 (fun W HS => by (go_simp; try with_reducible rfl)) ?_
        simp only [Act.put, List.getElem_toArray, List.getElem_cons_succ, List.getElem_cons_zero, List.setIfInBounds_toArray, List.set_cons_succ, List.set_cons_zero]
        (first | (refine wm_s2 (i := 19) (some 31) rfl rfl (by rfl) HS2 ?_) | (refine wm_g2 (i := 19) (some 31) rfl rfl (by rfl) HS2 (fun W HS => by (go_simp; try with_reducible rfl)) ?_))
        simp only [Act.put, List.getElem_toArray, List.getElem_cons_succ, List.getElem_cons_zero, List.setIfInBounds_toArray, List.set_cons_succ, List.set_cons_zero]
        (first | (refine wm_s2 (i := 20) (some 32) rfl rfl (by rfl) HS2 ?_) | (refine wm_g2 (i := 20) (some 32) rfl rfl (by rfl) HS2 (fun W HS => by (go_simp; try with_reducible rfl)) ?_))
        simp only [Act.put, List.getElem_toArray, List.getElem_cons_succ, List.getElem_cons_zero, List.setIfInBounds_toArray, List.set_cons_succ, List.set_cons_zero]
        (first | (refine wm_s2 (i := 21) (some 33) rfl rfl (by rfl) HS2 ?_) | (refine wm_g2 (i := 21) (some 33) rfl rfl (by rfl) HS2 (fun W HS => by (go_simp; try with_reducible rfl)) ?_))
        simp only [Act.put, List.getElem_toArray, List.getElem_cons_succ, List.getElem_cons_zero, List.setIfInBounds_toArray, List.set_cons_succ, List.set_cons_zero]
        (first | (refine wm_s2 (i := 22) (some 34) rfl rfl (by rfl) HS2 ?_) | (refine wm_g2 (i := 22) (some 34) rfl rfl (by rfl) HS2 (fun W HS => by (go_simp; try with_reducible rfl)) ?_))
        simp only [Act.put, List.getElem_toArray, List.getElem_cons_succ, List.getElem_cons_zero, List.setIfInBounds_toArray, List.set_cons_succ, List.set_cons_zero]
        (first | (refine wm_s2 (i := 23) (some 35) rfl rfl (by rfl) HS2 ?_) | (refine wm_g2 (i := 23) (some 35) rfl rfl (by rfl) HS2 (fun W HS => (by (exact ry_load_cell _ _ _ _ _ _ _ _ HS rfl m0 rfl Try.underlying3 rfl))) ?_))
        simp only [Act.put, List.getElem_toArray, List.getElem_cons_succ, List.getElem_cons_zero, List.setIfInBounds_toArray, List.set_cons_succ, List.set_cons_zero]
        (first | (refine wm_s2 (i := 24) (some 36) rfl rfl (by rfl) HS2 ?_) | (refine wm_g2 (i := 24) (some 36) rfl rfl (by rfl) HS2 (fun W HS => by (go_simp; try with_reducible rfl)) ?_))
        simp only [Act.put, List.getElem_toArray, List.getElem_cons_succ, List.getElem_cons_zero, List.setIfInBounds_toArray, List.set_cons_succ, List.set_cons_zero]
        (first | (refine wm_s2 (i := 25) (some 37) rfl rfl (by rfl) HS2 ?_) | (refine wm_g2 (i := 25) (some 37) rfl rfl (by rfl) HS2 (fun W HS => by (go_simp; try with_reducible rfl)) ?_))
        simp only [Act.put, List.getElem_toArray, List.getElem_cons_succ, List.getElem_cons_zero, List.setIfInBounds_toArray, List.set_cons_succ, List.set_cons_zero]
        (first | (refine wm_s2 (i := 26) (some 38) rfl rfl (by rfl) HS2 ?_) | (refine wm_g2 (i := 26) (some 38) rfl rfl (by rfl) HS2 (fun W HS => by (go_simp; try with_reducible rfl)) ?_))
        simp only [Act.put, List.getElem_toArray, List.getElem_cons_succ, List.getElem_cons_zero, List.setIfInBounds_toArray, List.set_cons_succ, List.set_cons_zero]
        (first | (refine wm_s2 (i := 27) (some 39) rfl rfl (by rfl) HS2 ?_) | ((refine wm_g2x (i := 27) (some 39) rfl rfl (by rfl) HS2 (ry_index _ 79 _ _ _ _ _ _ _ (fun W => Held w W [.blk b4 #[.int .i64 x.1, .int .i64 x.2] 79]) W encE_len Try.underlying77 sz79 HS2 (fun W HS => hR.held HS) rfl rfl (by omega) (by first | assumption | simp [*])) ?_); intro p39 hp39; obtain ⟨bb39, oo39, hpe39, -⟩ := hp39 W HS2; subst hpe39))
        simp only [Act.put, List.getElem_toArray, List.getElem_cons_succ, List.getElem_cons_zero, List.setIfInBounds_toArray, List.set_cons_succ, List.set_cons_zero]
        (first | (refine wm_s2 (i := 28) (some 40) rfl rfl (by rfl) HS2 ?_) | (refine wm_g2 (i := 28) (some 40) rfl rfl (by rfl) HS2 (fun W HS => by (go_simp; try with_reducible rfl)) ?_))
        simp only [Act.put, List.getElem_toArray, List.getElem_cons_succ, List.getElem_cons_zero, List.setIfInBounds_toArray, List.set_cons_succ, List.set_cons_zero]
        (first | (refine wm_s2 (i := 29) (some 41) rfl rfl (by rfl) HS2 ?_) | (refine wm_g2 (i := 29) (some 41) rfl rfl (by rfl) HS2 (fun W HS => (by refine ry_load_at1 _ _ _ _ _ ?_ (At.e0 (hp39 W HS)) Try.underlying3 rfl; rfl)) ?_))
        simp only [Act.put, List.getElem_toArray, List.getElem_cons_succ, List.getElem_cons_zero, List.setIfInBounds_toArray, List.set_cons_succ, List.set_cons_zero]
        (first | (refine wm_s2 (i := 30) (some 42) rfl rfl (by rfl) HS2 ?_) | (refine wm_g2 (i := 30) (some 42) rfl rfl (by rfl) HS2 (fun W HS => by (go_simp; try with_reducible rfl)) ?_))
        simp only [Act.put, List.getElem_toArray, List.getElem_cons_succ, List.getElem_cons_zero, List.setIfInBounds_toArray, List.set_cons_succ, List.set_cons_zero]
        (first | (refine wm_s2 (i := 31) (some 43) rfl rfl (by rfl) HS2 ?_) | (refine wm_g2 (i := 31) (some 43) rfl rfl (by rfl) HS2 (fun W HS => by (go_simp; try with_reducible rfl)) ?_))
        simp only [Act.put, List.getElem_toArray, List.getElem_cons_succ, List.getElem_cons_zero, List.setIfInBounds_toArray, List.set_cons_succ, List.set_cons_zero]
        refine wm_q2 (i := 32) (some 44) rfl rfl rfl HS2 (fun W HS => by (go_simp; try with_reducible rfl)) ?_
        simp only [Act.put, List.getElem_toArray, List.getElem_cons_succ, List.getElem_cons_zero, List.setIfInBounds_toArray, List.set_cons_succ, List.set_cons_zero]
        refine wm_nilN ?_
        clear HS1 HS2
        go_wp2_with (fail)
        first
        | (refine ret1 rfl (res_tmp rfl) rfl ?_
           exact ⟨by rw [ckE_no l (hC.bad hx hk)]; rfl, HM.base⟩)
        | (go_roundw
           · exact ⟨_, by omega, by go_num, hC.step hx hk, HM.base⟩
           · simp [intOf]; omega)
    · have hb : ¬ (i : Int) < (l.length : Int) := by omega
      go_wp2_with (fail)
      refine ret1 rfl (res_tmp rfl) rfl ?_
      exact ⟨by rw [ckE_ok l (hC.done (by omega))]; rfl, HM⟩
set_option maxHeartbeats 3200000 in
theorem rValidList_c (v : Value) (l : List Ent) (w : World) (hR : RdL encE 2 w v l) (hl : l.length ≤ 140737488351232) :
    Calls Try.prog 86 #[v] w fun e w' => e = .returned (.bool (validB l)) ∧ Mem w w' [] := by
  have HM := Mem.start w
  go_enter Try.func86, Try.ntmps86
  go_wp2_with (fail)
  go_loopw [3] (fun c wr => ∃ i : Nat, i ≤ l.length ∧ c = .int .i64 i ∧ CkInv l i ∧ Mem w wr [])
    (fun c _ => l.length - (intOf c).toNat)
  case atStart => exact ⟨0, by omega, rfl, CkInv.start l, HM⟩
  case round =>
    clear HM
    obtain ⟨i, hi, rfl, hC, HM⟩ := hrel
    by_cases hlt : i < l.length
    · have hb : (i : Int) < (l.length : Int) := by omega
      obtain ⟨x, hx⟩ : ∃ x, l[i]? = some x := ⟨_, List.getElem?_eq_getElem hlt⟩
      have hw1 : IntKind.i64.wrap ((i : Int) - 1) = (i : Int) - 1 := by rw [IntKind.wrap_i64]; omega
      have ht1 : ((i : Int) - 1).toNat = i - 1 := by omega
      rcases ck_ways l i x hx with ⟨c1, hk⟩ | ⟨c1, c2, hk⟩ | ⟨c1, c2, c3, hk⟩ | ⟨c1, c2, c3, c4, hk⟩ | ⟨c1, c2, c3, c4, rfl, hk⟩ | ⟨c1, c2, c3, c4, y, c5, hy, ⟨c6, hk⟩ | ⟨c6, hk⟩⟩
      all_goals
        (try have hy' : l[((i : Int) - 1).toNat]? = some y := by rw [ht1]; exact hy)
        clear ht1
        go_wp2_with (first
          | ((with_reducible refine s_ 6 ?_); go_must ((refine wl_len (dst := some 6) _ _ _ _ 79 Try.underlying77 rfl (hR.mem HM) ?_))))
        replace HM := HM.drew
        refine wp_region_mixN (fun W => Held w W []) (fun W => Held w W []) (.cons (2, 0) (.cons (2, 1) (.cons (2, 2) (.cons (2, 3) (.cons (2, 4) (.cons (2, 5) (.cons (2, 6) (.cons (2, 7) (.cons (2, 8) (.cons (2, 9) (.cons (2, 10) (.cons (2, 11) (.cons (2, 12) (.cons (2, 13) (.cons (2, 14) (.cons (2, 15) (.cons (2, 16) (.cons (2, 17) (.cons (2, 18) (.cons (2, 19) (.cons (2, 20) (.cons (2, 21) (.cons (2, 22) (.cons (2, 23) (.cons (2, 24) (.cons (2, 25) (.cons (2, 26) (.cons (2, 27) (.cons (2, 28) (.cons (2, 29) (.cons (2, 30) (.cons (2, 31) (.cons (2, 32) (.cons (2, 33) (.cons (2, 34) (.cons (2, 35) (.cons (2, 36) (.cons (2, 37) (.cons (2, 38) (.cons (2, 39) (.cons (2, 40) (.cons (2, 41) (.cons (2, 42) (.cons (2, 43) (.cons (2, 44) (.cons (2, 45) (.cons (2, 46) (.cons (2, 47) .nil)))))))))))))))))))))))))))))))))))))))))))))))) [] (by kernel_rfl) (by kernel_rfl) (by kernel_rfl) (fun W h => Held.weak h (by simp)) (HM.held (by simp)) ?_
        revert HM; generalize World.drew _ = W; intro HM
        have HS1 : Held w W [] := HM.held (by simp)
        have HS2 : Held w W [] := HM.held (by simp)
        refine wm_q2 (i := 0) (some 10) rfl rfl rfl HS2 (fun W HS => by (go_simp; try with_reducible rfl)) ?_
        simp only [Act.put, List.getElem_toArray, List.getElem_cons_succ, List.getElem_cons_zero, List.setIfInBounds_toArray, List.set_cons_succ, List.set_cons_zero]
        refine wm_q2 (i := 1) (some 11) rfl rfl rfl HS2 (fun W HS => by (go_simp; try with_reducible rfl)) ?_
        simp only [Act.put, List.getElem_toArray, List.getElem_cons_succ, List.getElem_cons_zero, List.setIfInBounds_toArray, List.set_cons_succ, List.set_cons_zero]
        (refine wm_q2x (i := 2) (some 12) rfl rfl rfl HS2 (ry_index _ 79 _ _ _ _ _ _ _ (fun W => Held w W []) W encE_len Try.underlying77 sz79 HS2 (fun W HS => hR.held HS) rfl rfl (by omega) (by first | assumption | simp [*])) ?_); intro p12 hp12; obtain ⟨bb12, oo12, hpe12, -⟩ := hp12 W HS2; subst hpe12
        simp only [Act.put, List.getElem_toArray, List.getElem_cons_succ, List.getElem_cons_zero, List.setIfInBounds_toArray, List.set_cons_succ, List.set_cons_zero]
        refine wm_q2 (i := 3) (some 13) rfl rfl rfl HS2 (fun W HS => by (go_simp; try with_reducible rfl)) ?_
        simp only [Act.put, List.getElem_toArray, List.getElem_cons_succ, List.getElem_cons_zero, List.setIfInBounds_toArray, List.set_cons_succ, List.set_cons_zero]
        refine wm_q2 (i := 4) (some 14) rfl rfl rfl HS2 (fun W HS => (by refine ry_load_at1 _ _ _ _ _ ?_ (At.e0 (hp12 W HS)) Try.underlying3 rfl; rfl)) ?_
        simp only [Act.put, List.getElem_toArray, List.getElem_cons_succ, List.getElem_cons_zero, List.setIfInBounds_toArray, List.set_cons_succ, List.set_cons_zero]
        refine wm_q2 (i := 5) (some 15) rfl rfl rfl HS2 (fun W HS => by (go_simp; try with_reducible rfl)) ?_
        simp only [Act.put, List.getElem_toArray, List.getElem_cons_succ, List.getElem_cons_zero, List.setIfInBounds_toArray, List.set_cons_succ, List.set_cons_zero]
        refine wm_q2 (i := 6) (some 16) rfl rfl rfl HS2 (fun W HS => by (go_simp; try with_reducible rfl)) ?_
        simp only [Act.put, List.getElem_toArray, List.getElem_cons_succ, List.getElem_cons_zero, List.setIfInBounds_toArray, List.set_cons_succ, List.set_cons_zero]
        (first | (refine wm_s2 (i := 7) (some 17) rfl rfl (by rfl) HS2 ?_) | (refine wm_g2 (i := 7) (some 17) rfl rfl (by rfl) HS2 (fun W HS => by (go_simp; try with_reducible rfl)) ?_))
        simp only [Act.put, List.getElem_toArray, List.getElem_cons_succ, List.getElem_cons_zero, List.setIfInBounds_toArray, List.set_cons_succ, List.set_cons_zero]
        (first | (refine wm_s2 (i := 8) (some 18) rfl rfl (by rfl) HS2 ?_) | (refine wm_g2 (i := 8) (some 18) rfl rfl (by rfl) HS2 (fun W HS => by (go_simp; try with_reducible rfl)) ?_))
        simp only [Act.put, List.getElem_toArray, List.getElem_cons_succ, List.getElem_cons_zero, List.setIfInBounds_toArray, List.set_cons_succ, List.set_cons_zero]
        (first | (refine wm_s2 (i := 9) (some 19) rfl rfl (by rfl) HS2 ?_) | ((refine wm_g2x (i := 9) (some 19) rfl rfl (by rfl) HS2 (ry_index _ 79 _ _ _ _ _ _ _ (fun W => Held w W []) W encE_len Try.underlying77 sz79 HS2 (fun W HS => hR.held HS) rfl rfl (by omega) (by first | assumption | simp [*])) ?_); intro p19 hp19; obtain ⟨bb19, oo19, hpe19, -⟩ := hp19 W HS2; subst hpe19))
        simp only [Act.put, List.getElem_toArray, List.getElem_cons_succ, List.getElem_cons_zero, List.setIfInBounds_toArray, List.set_cons_succ, List.set_cons_zero]
        (first | (refine wm_s2 (i := 10) (some 20) rfl rfl (by rfl) HS2 ?_) | (refine wm_g2 (i := 10) (some 20) rfl rfl (by rfl) HS2 (fun W HS => by (go_simp; try with_reducible rfl)) ?_))
        simp only [Act.put, List.getElem_toArray, List.getElem_cons_succ, List.getElem_cons_zero, List.setIfInBounds_toArray, List.set_cons_succ, List.set_cons_zero]
        (first | (refine wm_s2 (i := 11) (some 21) rfl rfl (by rfl) HS2 ?_) | (refine wm_g2 (i := 11) (some 21) rfl rfl (by rfl) HS2 (fun W HS => (by refine ry_load_at1 _ _ _ _ _ ?_ (At.e0 (hp19 W HS)) Try.underlying3 rfl; rfl)) ?_))
        simp only [Act.put, List.getElem_toArray, List.getElem_cons_succ, List.getElem_cons_zero, List.setIfInBounds_toArray, List.set_cons_succ, List.set_cons_zero]
        (first | (refine wm_s2 (i := 12) (some 22) rfl rfl (by rfl) HS2 ?_) | (refine wm_g2 (i := 12) (some 22) rfl rfl (by rfl) HS2 (fun W HS => by (go_simp; try with_reducible rfl)) ?_))
        simp only [Act.put, List.getElem_toArray, List.getElem_cons_succ, List.getElem_cons_zero, List.setIfInBounds_toArray, List.set_cons_succ, List.set_cons_zero]
        refine wm_q2 (i := 13) (some 23) rfl rfl rfl HS2 (fun W HS => by (go_simp; try with_reducible rfl)) ?_
        simp only [Act.put, List.getElem_toArray, List.getElem_cons_succ, List.getElem_cons_zero, List.setIfInBounds_toArray, List.set_cons_succ, List.set_cons_zero]
        refine wm_q2 (i := 14) (some 24) rfl rfl rfl HS2 (fun W HS => by (go_simp; try with_reducible rfl)) ?_
        simp only [Act.put, List.getElem_toArray, List.getElem_cons_succ, List.getElem_cons_zero, List.setIfInBounds_toArray, List.set_cons_succ, List.set_cons_zero]
        (first | (refine wm_s2 (i := 15) (some 25) rfl rfl (by rfl) HS2 ?_) | (refine wm_g2 (i := 15) (some 25) rfl rfl (by rfl) HS2 (fun W HS => by (go_simp; try with_reducible rfl)) ?_))
        simp only [Act.put, List.getElem_toArray, List.getElem_cons_succ, List.getElem_cons_zero, List.setIfInBounds_toArray, List.set_cons_succ, List.set_cons_zero]
        (first | (refine wm_s2 (i := 16) (some 26) rfl rfl (by rfl) HS2 ?_) | (refine wm_g2 (i := 16) (some 26) rfl rfl (by rfl) HS2 (fun W HS => by (go_simp; try with_reducible rfl)) ?_))
        simp only [Act.put, List.getElem_toArray, List.getElem_cons_succ, List.getElem_cons_zero, List.setIfInBounds_toArray, List.set_cons_succ, List.set_cons_zero]
        (first | (refine wm_s2 (i := 17) (some 27) rfl rfl (by rfl) HS2 ?_) | ((refine wm_g2x (i := 17) (some 27) rfl rfl (by rfl) HS2 (ry_index _ 79 _ _ _ _ _ _ _ (fun W => Held w W []) W encE_len Try.underlying77 sz79 HS2 (fun W HS => hR.held HS) rfl rfl (by omega) (by first | assumption | simp [*])) ?_); intro p27 hp27; obtain ⟨bb27, oo27, hpe27, -⟩ := hp27 W HS2; subst hpe27))
        simp only [Act.put, List.getElem_toArray, List.getElem_cons_succ, List.getElem_cons_zero, List.setIfInBounds_toArray, List.set_cons_succ, List.set_cons_zero]
        (first | (refine wm_s2 (i := 18) (some 28) rfl rfl (by rfl) HS2 ?_) | (refine wm_g2 (i := 18) (some 28) rfl rfl (by rfl) HS2 (fun W HS => by (go_simp; try with_reducible rfl)) ?_))
        simp only [Act.put, List.getElem_toArray, List.getElem_cons_succ, List.getElem_cons_zero, List.setIfInBounds_toArray, List.set_cons_succ, List.set_cons_zero]
        (first | (refine wm_s2 (i := 19) (some 29) rfl rfl (by rfl) HS2 ?_) | (refine wm_g2 (i := 19) (some 29) rfl rfl (by rfl) HS2 (fun W HS => (by refine ry_load_at1 _ _ _ _ _ ?_ (At.e1 (hp27 W HS)) Try.underlying3 rfl; rfl)) ?_))
        simp only [Act.put, List.getElem_toArray, List.getElem_cons_succ, List.getElem_cons_zero, List.setIfInBounds_toArray, List.set_cons_succ, List.set_cons_zero]
        (first | (refine wm_s2 (i := 20) (some 30) rfl rfl (by rfl) HS2 ?_) | (refine wm_g2 (i := 20) (some 30) rfl rfl (by rfl) HS2 (fun W HS => by (go_simp; try with_reducible rfl)) ?_))
        simp only [Act.put, List.getElem_toArray, List.getElem_cons_succ, List.getElem_cons_zero, List.setIfInBounds_toArray, List.set_cons_succ, List.set_cons_zero]
        refine wm_q2 (i := 21) (some 31) rfl rfl rfl HS2 (fun W HS => by (go_simp; try with_reducible rfl)) ?_
        simp only [Act.put, List.getElem_toArray, List.getElem_cons_succ, List.getElem_cons_zero, List.setIfInBounds_toArray, List.set_cons_succ, List.set_cons_zero]
        refine wm_q2 (i := 22) (some 32) rfl rfl rfl HS2 (fun W HS => by (go_simp; try with_reducible rfl)) ?_
        simp only [Act.put, List.getElem_toArray, List.getElem_cons_succ, List.getElem_cons_zero, List.setIfInBounds_toArray, List.set_cons_succ, List.set_cons_zero]
        (first | (refine wm_s2 (i := 23) (some 33) rfl rfl (by rfl) HS2 ?_) | (refine wm_g2 (i := 23) (some 33) rfl rfl (by rfl) HS2 (fun W HS => by (go_simp; try with_reducible rfl)) ?_))
        simp only [Act.put, List.getElem_toArray, List.getElem_cons_succ, List.getElem_cons_zero, List.setIfInBounds_toArray, List.set_cons_succ, List.set_cons_zero]
        (first | (refine wm_s2 (i := 24) (some 34) rfl rfl (by rfl) HS2 ?_) | (refine wm_g2 (i := 24) (some 34) rfl rfl (by rfl) HS2 (fun W HS => by (go_simp; try with_reducible rfl)) ?_))
        simp only [Act.put, List.getElem_toArray, List.getElem_cons_succ, List.getElem_cons_zero, List.setIfInBounds_toArray, List.set_cons_succ, List.set_cons_zero]
        (first | (refine wm_s2 (i := 25) (some 35) rfl rfl (by rfl) HS2 ?_) | ((refine wm_g2x (i := 25) (some 35) rfl rfl (by rfl) HS2 (ry_index _ 79 _ _ _ _ _ _ _ (fun W => Held w W []) W encE_len Try.underlying77 sz79 HS2 (fun W HS => hR.held HS) rfl rfl (by omega) (by first | assumption | simp [*])) ?_); intro p35 hp35; obtain ⟨bb35, oo35, hpe35, -⟩ := hp35 W HS2; subst hpe35))
        simp only [Act.put, List.getElem_toArray, List.getElem_cons_succ, List.getElem_cons_zero, List.setIfInBounds_toArray, List.set_cons_succ, List.set_cons_zero]
        (first | (refine wm_s2 (i := 26) (some 36) rfl rfl (by rfl) HS2 ?_) | (refine wm_g2 (i := 26) (some 36) rfl rfl (by rfl) HS2 (fun W HS => by (go_simp; try with_reducible rfl)) ?_))
        simp only [Act.put, List.getElem_toArray, List.getElem_cons_succ, List.getElem_cons_zero, List.setIfInBounds_toArray, List.set_cons_succ, List.set_cons_zero]
        (first | (refine wm_s2 (i := 27) (some 37) rfl rfl (by rfl) HS2 ?_) | (refine wm_g2 (i := 27) (some 37) rfl rfl (by rfl) HS2 (fun W HS => (by refine ry_load_at1 _ _ _ _ _ ?_ (At.e1 (hp35 W HS)) Try.underlying3 rfl; rfl)) ?_))
        simp only [Act.put, List.getElem_toArray, List.getElem_cons_succ, List.getElem_cons_zero, List.setIfInBounds_toArray, List.set_cons_succ, List.set_cons_zero]
        (first | (refine wm_s2 (i := 28) (some 38) rfl rfl (by rfl) HS2 ?_) | (refine wm_g2 (i := 28) (some 38) rfl rfl (by rfl) HS2 (fun W HS => by (go_simp; try with_reducible rfl)) ?_))
        simp only [Act.put, List.getElem_toArray, List.getElem_cons_succ, List.getElem_cons_zero, List.setIfInBounds_toArray, List.set_cons_succ, List.set_cons_zero]
        refine wm_q2 (i := 29) (some 39) rfl rfl rfl HS2 (fun W HS => by (go_simp; try with_reducible rfl)) ?_
        simp only [Act.put, List.getElem_toArray, List.getElem_cons_succ, List.getElem_cons_zero, List.setIfInBounds_toArray, List.set_cons_succ, List.set_cons_zero]
        refine wm_q2 (i := 30) (some 40) rfl rfl rfl HS2 (fun W HS => by (go_simp; try with_reducible rfl)) ?_
        simp only [Act.put, List.getElem_toArray, List.getElem_cons_succ, List.getElem_cons_zero, List.setIfInBounds_toArray, List.set_cons_succ, List.set_cons_zero]
        (first | (refine wm_s2 (i := 31) (some 41) rfl rfl (by rfl) HS2 ?_) | (refine wm_g2 (i := 31) (some 41) rfl rfl (by rfl) HS2 (fun W HS => by (go_simp; try with_reducible rfl)) ?_))
        simp only [Act.put, List.getElem_toArray, List.getElem_cons_succ, List.getElem_cons_zero, List.setIfInBounds_toArray, List.set_cons_succ, List.set_cons_zero]
        (first | (refine wm_s2 (i := 32) (some 42) rfl rfl (by rfl) HS2 ?_) | (refine wm_g2 (i := 32) (some 42) rfl rfl (by rfl) HS2 (fun W HS => by (go_simp; try with_reducible rfl)) ?_))
        simp only [Act.put, List.getElem_toArray, List.getElem_cons_succ, List.getElem_cons_zero, List.setIfInBounds_toArray, List.set_cons_succ, List.set_cons_zero]
        (first | (refine wm_s2 (i := 33) (some 43) rfl rfl (by rfl) HS2 ?_) | (refine wm_g2 (i := 33) (some 43) rfl rfl (by rfl) HS2 (fun W HS => by (go_simp; try with_reducible rfl)) ?_))
        simp only [Act.put, List.getElem_toArray, List.getElem_cons_succ, List.getElem_cons_zero, List.setIfInBounds_toArray, List.set_cons_succ, List.set_cons_zero]
        (first | (refine wm_s2 (i := 34) (some 44) rfl rfl (by rfl) HS2 ?_) | (refine wm_g2 (i := 34) (some 44) rfl rfl (by rfl) HS2 (fun W HS => by (go_simp; try with_reducible rfl)) ?_))
        simp only [Act.put, List.getElem_toArray, List.getElem_cons_succ, List.getElem_cons_zero, List.setIfInBounds_toArray, List.set_cons_succ, List.set_cons_zero]
        (first | (refine wm_s2 (i := 35) (some 45) rfl rfl (by rfl) HS2 ?_) | (refine wm_g2 (i := 35) (some 45) rfl rfl (by rfl) HS2 (fun W HS => by (go_simp; try with_reducible rfl)) ?_))
        simp only [Act.put, List.getElem_toArray, List.getElem_cons_succ, List.getElem_cons_zero, List.setIfInBounds_toArray, List.set_cons_succ, List.set_cons_zero]
        (first | (refine wm_s2 (i := 36) (some 46) rfl rfl (by rfl) HS2 ?_) | ((refine wm_g2x (i := 36) (some 46) rfl rfl (by rfl) HS2 (ry_index _ 79 _ _ _ _ _ _ _ (fun W => Held w W []) W encE_len Try.underlying77 sz79 HS2 (fun W HS => hR.held HS) rfl rfl (by omega) (by first | assumption | simp [*])) ?_); intro p46 hp46; obtain ⟨bb46, oo46, hpe46, -⟩ := hp46 W HS2; subst hpe46))
        simp only [Act.put, List.getElem_toArray, List.getElem_cons_succ, List.getElem_cons_zero, List.setIfInBounds_toArray, List.set_cons_succ, List.set_cons_zero]
        (first | (refine wm_s2 (i := 37) (some 47) rfl rfl (by rfl) HS2 ?_) | (refine wm_g2 (i := 37) (some 47) rfl rfl (by rfl) HS2 (fun W HS => by (go_simp; try with_reducible rfl)) ?_))
        simp only [Act.put, List.getElem_toArray, List.getElem_cons_succ, List.getElem_cons_zero, List.setIfInBounds_toArray, List.set_cons_succ, List.set_cons_zero]
        (first | (refine wm_s2 (i := 38) (some 48) rfl rfl (by rfl) HS2 ?_) | (refine wm_g2 (i := 38) (some 48) rfl rfl (by rfl) HS2 (fun W HS => (by refine ry_load_at1 _ _ _ _ _ ?_ (At.e0 (hp46 W HS)) Try.underlying3 rfl; rfl)) ?_))
        simp only [Act.put, List.getElem_toArray, List.getElem_cons_succ, List.getElem_cons_zero, List.setIfInBounds_toArray, List.set_cons_succ, List.set_cons_zero]
        (first | (refine wm_s2 (i := 39) (some 49) rfl rfl (by rfl) HS2 ?_) | (refine wm_g2 (i := 39) (some 49) rfl rfl (by rfl) HS2 (fun W HS => by (go_simp; try with_reducible rfl)) ?_))
        simp only [Act.put, List.getElem_toArray, List.getElem_cons_succ, List.getElem_cons_zero, List.setIfInBounds_toArray, List.set_cons_succ, List.set_cons_zero]
        (first | (refine wm_s2 (i := 40) (some 50) rfl rfl (by rfl) HS2 ?_) | (refine wm_g2 (i := 40) (some 50) rfl rfl (by rfl) HS2 (fun W HS => by (go_simp; try with_reducible rfl)) ?_))
        simp only [Act.put, List.getElem_toArray, List.getElem_cons_succ, List.getElem_cons_zero, List.setIfInBounds_toArray, List.set_cons_succ, List.set_cons_zero]
        (first | (refine wm_s2 (i := 41) (some 51) rfl rfl (by rfl) HS2 ?_) | (refine wm_g2 (i := 41) (some 51) rfl rfl (by rfl) HS2 (fun W HS => by (go_simp; try with_reducible rfl)) ?_))
        simp only [Act.put, List.getElem_toArray, List.getElem_cons_succ, List.getElem_cons_zero, List.setIfInBounds_toArray, List.set_cons_succ, List.set_cons_zero]
        (first | (refine wm_s2 (i := 42) (some 52) rfl rfl (by rfl) HS2 ?_) | ((refine wm_g2x (i := 42) (some 52) rfl rfl (by rfl) HS2 (ry_index _ 79 _ _ _ _ _ _ _ (fun W => Held w W []) W encE_len Try.underlying77 sz79 HS2 (fun W HS => hR.held HS) rfl rfl (by omega) (by first | assumption | simp [*])) ?_); intro p52 hp52; obtain ⟨bb52, oo52, hpe52, -⟩ := hp52 W HS2; subst hpe52))
        simp only [Act.put, List.getElem_toArray, List.getElem_cons_succ, List.getElem_cons_zero, List.setIfInBounds_toArray, List.set_cons_succ, List.set_cons_zero]
        (first | (refine wm_s2 (i := 43) (some 53) rfl rfl (by rfl) HS2 ?_) | (refine wm_g2 (i := 43) (some 53) rfl rfl (by rfl) HS2 (fun W HS => by (go_simp; try with_reducible rfl)) ?_))
        simp only [Act.put, List.getElem_toArray, List.getElem_cons_succ, List.getElem_cons_zero, List.setIfInBounds_toArray, List.set_cons_succ, List.set_cons_zero]
        (first | (refine wm_s2 (i := 44) (some 54) rfl rfl (by rfl) HS2 ?_) | (refine wm_g2 (i := 44) (some 54) rfl rfl (by rfl) HS2 (fun W HS => (by refine ry_load_at1 _ _ _ _ _ ?_ (At.e0 (hp52 W HS)) Try.underlying3 rfl; rfl)) ?_))
        simp only [Act.put, List.getElem_toArray, List.getElem_cons_succ, List.getElem_cons_zero, List.setIfInBounds_toArray, List.set_cons_succ, List.set_cons_zero]
        (first | (refine wm_s2 (i := 45) (some 55) rfl rfl (by rfl) HS2 ?_) | (refine wm_g2 (i := 45) (some 55) rfl rfl (by rfl) HS2 (fun W HS => by (go_simp; try with_reducible rfl)) ?_))
        simp only [Act.put, List.getElem_toArray, List.getElem_cons_succ, List.getElem_cons_zero, List.setIfInBounds_toArray, List.set_cons_succ, List.set_cons_zero]
        (first | (refine wm_s2 (i := 46) (some 56) rfl rfl (by rfl) HS2 ?_) | (refine wm_g2 (i := 46) (some 56) rfl rfl (by rfl) HS2 (fun W HS => by (go_simp; try with_reducible rfl)) ?_))
        simp only [Act.put, List.getElem_toArray, List.getElem_cons_succ, List.getElem_cons_zero, List.setIfInBounds_toArray, List.set_cons_succ, List.set_cons_zero]
        refine wm_q2 (i := 47) (some 57) rfl rfl rfl HS2 (fun W HS => by (go_simp; try with_reducible rfl)) ?_
        simp only [Act.put, List.getElem_toArray, List.getElem_cons_succ, List.getElem_cons_zero, List.setIfInBounds_toArray, List.set_cons_succ, List.set_cons_zero]
        refine wm_nilN ?_
        clear HS1 HS2
        go_wp2_with (fail)
        first
        | (refine ret1 rfl (res_tmp rfl) rfl ?_
           exact ⟨by rw [hC.bad hx hk]; rfl, HM.base⟩)
        | (go_roundw
           · exact ⟨_, by omega, by go_num, hC.step hx hk, HM.base⟩
           · simp [intOf]; omega)
    · have hb : ¬ (i : Int) < (l.length : Int) := by omega
      go_wp2_with (first
        | ((with_reducible refine s_ 6 ?_); go_must ((refine wl_len (dst := some 6) _ _ _ _ 79 Try.underlying77 rfl (hR.mem HM) ?_))))
      refine ret1 rfl (res_tmp rfl) rfl ?_
      exact ⟨by rw [hC.done (by omega)]; rfl, HM⟩
end
section
set_option linter.unusedVariables false
set_option linter.unusedSimpArgs false
set_option maxRecDepth 8000
open Go.RowKit
theorem rd_nil {α : Type} {enc : α → List Value} {size : Nat} {w : World} : RdL enc size w (.slice none 0 0) ([] : List α) := ⟨none, 0, rfl, by simp, by simp [maxLen], fun h => absurd rfl h⟩
theorem rootL_nil (l : List Key) (h : l.length = 0) : rootL l = digestL [] := by rw [rootL, dif_pos h]
set_option maxHeartbeats 800000 in
theorem root_c (v : Value) (l : List Key) (w : World) (hR : RdL encK 16 w v l) (hn : l.length ≤ 256) :
    Calls Try.prog 61 #[v] w fun e w' => e = .returned (.agg (kc (rootL l))) ∧ Mem w w' [] := by
  have HM := Mem.start w
  by_cases h0 : l.length = 0
  · have hb : (l.length : Int) = 0 := by omega
    go_enter Try.func61, Try.ntmps61
    go_wp2_with (first
      | ((with_reducible refine s_ 2 ?_); go_must (refine wl_alloc (dst := some 2) (cs := kc zeroKey) 23 _ Try.zeroValue23 kc_zero HM ?_; clear HM; intro b2 W HM))
      | ((with_reducible refine s_ 4 ?_); go_must ((refine wl_len (dst := some 4) _ _ _ _ 23 Try.underlying40 rfl (hR.mem HM) ?_)))
      | ((with_reducible refine st_ 23 ?_); go_must ((refine wl_store_blk _ _ _ _ _ _ _ rfl rfl HM .here (by rw [kc_size]; exact sz23) (by simp only [kc_size]) (kc_one _) ?_); clear HM; intro W HM))
      | (go_at_call 122; go_must (((with_reducible refine (digest_c _ [] _ rd_nil (by simp)).mono ?_)); rintro e W ⟨rfl, HM'⟩; replace HM := HM.keep HM'.below; clear HM')))
    refine ret1 rfl (by (exact res_row HM rfl m0 Try.underlying23 rfl (by rw [kc_size]; exact sz23))) rfl ?_
    exact ⟨by rw [rootL_nil l h0], HM.base⟩
  · have hb : ¬ (l.length : Int) = 0 := by omega
    go_enter Try.func61, Try.ntmps61
    go_wp2_with (first
      | ((with_reducible refine s_ 2 ?_); go_must (refine wl_alloc (dst := some 2) (cs := kc zeroKey) 23 _ Try.zeroValue23 kc_zero HM ?_; clear HM; intro b2 W HM))
      | ((with_reducible refine s_ 4 ?_); go_must ((refine wl_len (dst := some 4) _ _ _ _ 23 Try.underlying40 rfl (hR.mem HM) ?_)))
      | ((with_reducible refine st_ 23 ?_); go_must ((refine wl_store_blk _ _ _ _ _ _ _ rfl rfl HM .here (by rw [kc_size]; exact sz23) (by simp only [kc_size]) (kc_one _) ?_); clear HM; intro W HM))
      | (go_at_call 63; go_must (((with_reducible refine (foldK_c l.length l _ _ rfl (by omega) hn (hR.mem HM)).mono ?_)); rintro e W ⟨rfl, HM'⟩; replace HM := HM.keep HM'.below; clear HM')))
    refine ret1 rfl (by (exact res_row HM rfl m0 Try.underlying23 rfl (by rw [kc_size]; exact sz23))) rfl ?_
    exact ⟨rfl, HM.base⟩
set_option maxHeartbeats 1600000 in
theorem rrootOf_c : ∀ (n : Nat) (l : List Key) (v : Value) (w : World), l.length = n → n ≤ 256 → RdL encK 16 w v l →
    Calls Try.prog 62 #[v] w fun e w' => e = .returned (.agg (kc (rootL l))) ∧ Mem w w' [] := by
  intro n
  induction n using Nat.strongRecOn with
  | ind n ih =>
    intro l v w hln hn hR
    subst hln
    have HM := Mem.start w
    by_cases h0 : l.length = 0
    · have hb : (l.length : Int) = 0 := by omega
      clear ih
      go_enter Try.func62, Try.ntmps62
      go_wp2_with (first
        | ((with_reducible refine s_ 2 ?_); go_must (refine wl_alloc (dst := some 2) (cs := kc zeroKey) 23 _ Try.zeroValue23 kc_zero HM ?_; clear HM; intro b2 W HM))
        | ((with_reducible refine s_ 5 ?_); go_must ((refine wl_len (dst := some 5) _ _ _ _ 23 Try.underlying40 rfl (hR.mem HM) ?_)))
        | ((with_reducible refine st_ 23 ?_); go_must ((refine wl_store_blk _ _ _ _ _ _ _ rfl rfl HM .here (by rw [kc_size]; exact sz23) (by simp only [kc_size]) (kc_one _) ?_); clear HM; intro W HM))
        | (go_at_call 125; go_must (((with_reducible refine (rdigest_c _ [] _ rd_nil (by simp)).mono ?_)); rintro e W ⟨rfl, HM'⟩; replace HM := HM.keep HM'.below; clear HM')))
      refine ret1 rfl (by (exact res_row HM rfl m0 Try.underlying23 rfl (by rw [kc_size]; exact sz23))) rfl ?_
      exact ⟨by rw [rootL_nil l h0], HM.base⟩
    · have hb0 : ¬ (l.length : Int) = 0 := by omega
      by_cases hone : l.length = 1
      · have hb : (l.length : Int) = 1 := by omega
        have hx : l[(0 : Int).toNat]? = some (l[0]'(by omega)) := List.getElem?_eq_getElem (by omega)
        clear ih
        go_enter Try.func62, Try.ntmps62
        go_wp2_with (first
          | ((with_reducible refine s_ 2 ?_); go_must (refine wl_alloc (dst := some 2) (cs := kc zeroKey) 23 _ Try.zeroValue23 kc_zero HM ?_; clear HM; intro b2 W HM))
          | ((with_reducible refine s_ 5 ?_); go_must ((refine wl_len (dst := some 5) _ _ _ _ 23 Try.underlying40 rfl (hR.mem HM) ?_)))
          | ((with_reducible refine s_ 9 ?_); go_must ((refine wl_len (dst := some 9) _ _ _ _ 23 Try.underlying40 rfl (hR.mem HM) ?_)))
          | ((with_reducible refine s_ 12 ?_); go_must ((refine wl_index (dst := some 12) _ 23 _ _ _ _ _ _ _ encK_len Try.underlying40 sz23 rfl rfl (hR.mem HM) (by omega) (by first | assumption | simp [*]) ?_); intro p12 hp12))
          | ((with_reducible refine s_ 13 ?_); go_must (refine wl_load_key (dst := some 13) _ _ _ _ rfl hp12 Try.underlying23 sz23 ?_))
          | ((with_reducible refine st_ 23 ?_); go_must ((refine wl_store_blk _ _ _ _ _ _ _ rfl rfl HM (.there .here) (by rw [kc_size]; exact sz23) (by simp only [kc_size]) (kc_one _) ?_); clear HM; intro W HM))
          | (go_at_call 126; go_must (((with_reducible refine (rleafText_c _ _).mono ?_)); rintro e W ⟨v14, rfl, HM'⟩; replace HM := HM.join HM'; clear HM'; simp only [List.cons_append, List.nil_append] at HM))
          | (go_at_call 125; go_must (((with_reducible refine (rdigest_c _ (textLeaf (l[0]'(by omega))) _ (rd_row HM m0 rfl) (by rw [textLeaf_len]; decide)).mono ?_)); rintro e W ⟨rfl, HM'⟩; replace HM := HM.keep HM'.below; clear HM')))
        refine ret1 rfl (by (exact res_row HM rfl m1 Try.underlying23 rfl (by rw [kc_size]; exact sz23))) rfl ?_
        exact ⟨by rw [rootL_one l hone]; rfl, HM.base⟩
      · have hb : ¬ (l.length : Int) = 1 := by omega
        have hs := splitN_lt l.length (by omega)
        have e : (((splitN l.length : Nat) : Int)).toNat = splitN l.length := Int.toNat_natCast _
        have hi1 : (0 : Int) ≤ ((splitN l.length : Nat) : Int) := by omega
        have hi2 : ((splitN l.length : Nat) : Int) ≤ (l.length : Int) := by omega
        go_enter Try.func62, Try.ntmps62
        go_wp2_with (first
          | ((with_reducible refine s_ 2 ?_); go_must (refine wl_alloc (dst := some 2) (cs := kc zeroKey) 23 _ Try.zeroValue23 kc_zero HM ?_; clear HM; intro b2 W HM))
          | ((with_reducible refine s_ 5 ?_); go_must ((refine wl_len (dst := some 5) _ _ _ _ 23 Try.underlying40 rfl (hR.mem HM) ?_)))
          | ((with_reducible refine s_ 9 ?_); go_must ((refine wl_len (dst := some 9) _ _ _ _ 23 Try.underlying40 rfl (hR.mem HM) ?_)))
          | ((with_reducible refine s_ 17 ?_); go_must ((refine wl_len (dst := some 17) _ _ _ _ 23 Try.underlying40 rfl (hR.mem HM) ?_)))
          | (go_at_call 127; go_must (((with_reducible refine (rsplit_c _ (by omega) (by omega) _).mono ?_)); rintro e W ⟨rfl, HM'⟩; replace HM := HM.keep HM'.below; clear HM')))
        replace HM := HM.drew
        refine wp_region_mixN (fun W => Held w W []) (fun W => Held w W []) (.cons (2, 0) (.cons (2, 1) (.cons (2, 2) (.cons (2, 4) (.cons (2, 5) (.cons (2, 6) (.cons (0, 3) (.cons (0, 7) (.cons (0, 8) (.cons (0, 9) (.cons (0, 10) .nil))))))))))) [] (by kernel_rfl) (by kernel_rfl) (by kernel_rfl) (fun W h => Held.weak h (by simp)) (HM.held (by simp)) ?_
        revert HM; generalize World.drew _ = W; intro HM
        have HS1 : Held w W [] := HM.held (by simp)
        have HS2 : Held w W [] := HM.held (by simp)
        refine wm_q2 (i := 0) (some 19) rfl rfl rfl HS2 (fun W HS => by (go_simp; try with_reducible rfl)) ?_
        simp only [Act.put, List.getElem_toArray, List.getElem_cons_succ, List.getElem_cons_zero, List.setIfInBounds_toArray, List.set_cons_succ, List.set_cons_zero]
        refine wm_q2 (i := 1) (some 20) rfl rfl rfl HS2 (fun W HS => by (go_simp; try with_reducible rfl)) ?_
        simp only [Act.put, List.getElem_toArray, List.getElem_cons_succ, List.getElem_cons_zero, List.setIfInBounds_toArray, List.set_cons_succ, List.set_cons_zero]
        (refine wm_q2x (i := 2) (some 21) rfl rfl rfl HS2 (ry_slice_hi _ 23 _ _ _ _ _ _ encK_len Try.underlying40 sz23 (hR.mem HM) rfl rfl (by omega) (by omega)) ?_); intro v21 hv21
        simp only [Act.put, List.getElem_toArray, List.getElem_cons_succ, List.getElem_cons_zero, List.setIfInBounds_toArray, List.set_cons_succ, List.set_cons_zero]
        refine wm_q2 (i := 4) (some 23) rfl rfl rfl HS2 (fun W HS => by (go_simp; try with_reducible rfl)) ?_
        simp only [Act.put, List.getElem_toArray, List.getElem_cons_succ, List.getElem_cons_zero, List.setIfInBounds_toArray, List.set_cons_succ, List.set_cons_zero]
        refine wm_q2 (i := 5) (some 24) rfl rfl rfl HS2 (fun W HS => by (go_simp; try with_reducible rfl)) ?_
        simp only [Act.put, List.getElem_toArray, List.getElem_cons_succ, List.getElem_cons_zero, List.setIfInBounds_toArray, List.set_cons_succ, List.set_cons_zero]
        (refine wm_q2x (i := 6) (some 25) rfl rfl rfl HS2 (ry_slice_lo _ 23 _ _ _ _ _ _ encK_len Try.underlying40 sz23 (hR.mem HM) rfl rfl (by omega) (by omega)) ?_); intro v25 hv25
        simp only [Act.put, List.getElem_toArray, List.getElem_cons_succ, List.getElem_cons_zero, List.setIfInBounds_toArray, List.set_cons_succ, List.set_cons_zero]
        refine wm_e0 (i := 3) rfl ?_
        go_wp2_with (first
          | (go_at_call 62; go_must (((with_reducible refine (ih (splitN l.length) (by omega) _ _ _ (by rw [List.length_take]; omega) (by omega) (hv21 _ (hR.mem HM))).mono ?_)); rintro e W ⟨rfl, HM'⟩; replace HM := HM.keep HM'.below; clear HM')))
        refine ⟨HM.held (by simp), ?_⟩
        clear HS1 HS2
        have HS1 : Held w W [] := HM.held (by simp)
        have HS2 : Held w W [] := HM.held (by simp)
        refine wm_e0 (i := 7) rfl ?_
        go_wp2_with (first
          | (go_at_call 62; go_must (((with_reducible refine (ih (l.length - splitN l.length) (by omega) _ _ _ (by rw [List.length_drop]; omega) (by omega) (hv25 _ (hR.mem HM))).mono ?_)); rintro e W ⟨rfl, HM'⟩; replace HM := HM.keep HM'.below; clear HM')))
        refine ⟨HM.held (by simp), ?_⟩
        clear HS1 HS2
        have HS1 : Held w W [] := HM.held (by simp)
        have HS2 : Held w W [] := HM.held (by simp)
        refine wm_e0 (i := 8) rfl ?_
        go_wp2_with (first
          | (go_at_call 128; go_must (((with_reducible refine (rnodeText_c _ _ _).mono ?_)); rintro e W ⟨v27, rfl, HM'⟩; replace HM := HM.join HM'; clear HM'; simp only [List.cons_append, List.nil_append] at HM)))
        refine ⟨HM.held (by simp), ?_⟩
        clear HS1 HS2
        have HS1 : Held w W [] := HM.held (by simp)
        have HS2 : Held w W [] := HM.held (by simp)
        refine wm_e0 (i := 9) rfl ?_
        go_wp2_with (first
          | (go_at_call 125; go_must (((with_reducible refine (rdigest_c _ (textNode (rootL (l.take (splitN l.length))) (rootL (l.drop (splitN l.length)))) _ (rd_row HM m0 rfl) (by rw [textNode_len]; decide)).mono ?_)); rintro e W ⟨rfl, HM'⟩; replace HM := HM.keep HM'.below; clear HM')))
        refine ⟨HM.held (by simp), ?_⟩
        clear HS1 HS2
        have HS1 : Held w W [] := HM.held (by simp)
        have HS2 : Held w W [] := HM.held (by simp)
        refine wm_e0 (i := 10) rfl ?_
        go_wp2_with (first
          | ((with_reducible refine st_ 23 ?_); go_must ((refine wl_store_blk _ _ _ _ _ _ _ rfl rfl HM (.there .here) (by rw [kc_size]; exact sz23) (by simp only [kc_size]) (kc_one _) ?_); clear HM; intro W HM)))
        refine ⟨HM.held (by simp), ?_⟩
        clear HS1 HS2
        have HS1 : Held w W [] := HM.held (by simp)
        have HS2 : Held w W [] := HM.held (by simp)
        refine wm_nilN ?_
        clear HS1 HS2
        go_wp2_with (fail)
        refine ret1 rfl (by (exact res_row HM rfl m1 Try.underlying23 rfl (by rw [kc_size]; exact sz23))) rfl ?_
        rw [rootL_two l (by omega)]
        exact ⟨rfl, HM.base⟩
end
section
set_option linter.unusedVariables false
set_option linter.unusedSimpArgs false
set_option maxRecDepth 8000
open Go.RowKit
theorem fill_key (k : Key) : Instr.fill (fun i => some (i * 16, 16)) ((Array.range (1 * 16)).map ((kc zeroKey)[· % (kc zeroKey).size]!)) [(0, .agg (kc k))] = some (kc k) := by
  have hz : (Array.range (1 * 16)).map ((kc zeroKey)[· % (kc zeroKey).size]!) = #[.int .u8 0, .int .u8 0, .int .u8 0, .int .u8 0, .int .u8 0, .int .u8 0, .int .u8 0, .int .u8 0, .int .u8 0, .int .u8 0, .int .u8 0, .int .u8 0, .int .u8 0, .int .u8 0, .int .u8 0, .int .u8 0] := by
    kernel_rfl
  rw [hz, kc_lit k]
  simp [Instr.fill, show ∀ cs, (Value.agg cs).cells = cs from fun _ => rfl]
section
variable {P : Program} {ops : Array Oper} {rest : List Oper} {a : Act} {Q : Exit → Act → World → Prop} {w0 W : World} {L : List It} {dst : Option Tmp} {tt : TypeId} {ps : String} {af : Array Edge}
theorem wl_slice1K (t e : TypeId) (x : Operand) (k : Key) (z : Value) (ht : P.underlying t = some (.slice e)) (hs : ∀ w, (sizeOf e).run P w = .ok 16 w) (hz : ∀ w, (zeroValue e).run P w = .ok z w) (hzk : z.cells = kc zeroKey)
    (hx : a.eval x = .agg (kc k)) (HM : Mem w0 W L) (h : ∀ b W', Mem w0 W' (.blk b (kc k) e :: L) → wpList P ops Q rest (a.put dst (.slice (some ⟨b, 0, none⟩) 1 1)) W') :
    wpList P ops Q (Oper.mk dst (.buildSlice t 1 #[(0, x)]) tt ps af none :: rest) a W :=
  wl_buildSlice (dst := dst) (cs := kc k) t 1 #[(0, x)] e 16 z ht hs hz (by decide) (by rw [hzk]; simp only [List.map_toArray, List.map_cons, List.map_nil, hx]; exact fill_key k) HM h
end
def pathL (l : List Key) (i : Nat) : List Key :=
  if h : l.length ≤ 1 then []
  else if i < splitN l.length then pathL (l.take (splitN l.length)) i ++ [rootL (l.drop (splitN l.length))]
  else pathL (l.drop (splitN l.length)) (i - splitN l.length) ++ [rootL (l.take (splitN l.length))]
termination_by l.length
decreasing_by
  · have := splitN_lt l.length (by omega); simp; omega
  · have := splitN_lt l.length (by omega); simp; omega
theorem pathL_one (l : List Key) (i : Nat) (h : l.length ≤ 1) : pathL l i = [] := by rw [pathL, dif_pos h]
theorem pathL_lo (l : List Key) (i : Nat) (h : 2 ≤ l.length) (hi : i < splitN l.length) : pathL l i = pathL (l.take (splitN l.length)) i ++ [rootL (l.drop (splitN l.length))] := by
  rw [pathL, dif_neg (by omega), if_pos hi]
theorem pathL_hi (l : List Key) (i : Nat) (h : 2 ≤ l.length) (hi : ¬ i < splitN l.length) : pathL l i = pathL (l.drop (splitN l.length)) (i - splitN l.length) ++ [rootL (l.take (splitN l.length))] := by
  rw [pathL, dif_neg (by omega), if_neg hi]
theorem pathL_len : ∀ (n : Nat) (l : List Key) (i : Nat), l.length = n → (pathL l i).length ≤ n := by
  intro n
  induction n using Nat.strongRecOn with
  | ind n ih =>
    intro l i hl
    by_cases h : l.length ≤ 1
    · rw [pathL_one l i h]; simp
    · have hs := splitN_lt l.length (by omega)
      by_cases hi : i < splitN l.length
      · rw [pathL_lo l i (by omega) hi]
        have := ih (splitN l.length) (by omega) (l.take (splitN l.length)) i (by rw [List.length_take]; omega)
        simp; omega
      · rw [pathL_hi l i (by omega) hi]
        have := ih (l.length - splitN l.length) (by omega) (l.drop (splitN l.length)) (i - splitN l.length) (by rw [List.length_drop])
        simp; omega
end
section
set_option linter.unusedVariables false
set_option linter.unusedSimpArgs false
set_option maxRecDepth 8000
open Go.RowKit
def leafN (a u : Nat) : Key := blockK (UInt64.ofNat a, UInt64.ofNat u)
def leafTo (a u i : Nat) : Key := Vector.ofFn fun j : Fin 16 => if j.1 = 7 then UInt8.ofNat a else if 16 - i ≤ j.1 then toB (shrU (UInt64.ofNat u) (8 * (15 - j.1))) else 0
theorem leafTo_zero (a u : Nat) : zeroKey.set 7 (UInt8.ofNat a) = leafTo a u 0 := by
  apply Vector.ext; intro j hj
  rw [Vector.getElem_set]
  simp only [leafTo, zeroKey, Vector.getElem_ofFn, Vector.getElem_replicate]
  by_cases h : j = 7
  · subst h; simp
  · rw [if_neg (by omega), if_neg h, if_neg (by omega)]
theorem leafTo_set (a u i : Nat) (h : i < 8) : (leafTo a u i).set (15 - i) (toB (shrU (UInt64.ofNat u) (8 * i))) = leafTo a u (i + 1) := by
  apply Vector.ext; intro j hj
  rw [Vector.getElem_set]
  simp only [leafTo, Vector.getElem_ofFn]
  by_cases h1 : 15 - i = j
  · subst h1
    rw [if_pos rfl, if_neg (by omega), if_pos (by omega), show 15 - (15 - i) = i by omega]
  · rw [if_neg h1]
    by_cases h2 : j = 7
    · rw [if_pos h2, if_pos h2]
    · rw [if_neg h2, if_neg h2]
      by_cases h3 : 16 - i ≤ j
      · rw [if_pos h3, if_pos (by omega)]
      · rw [if_neg h3, if_neg (by omega)]
theorem leafTo_end (a u : Nat) (ha : a ≤ 65) : leafTo a u 8 = leafN a u := by
  apply Vector.ext; intro j hj
  simp only [leafTo, Vector.getElem_ofFn, leafN, blockK, Vector.getElem_mk, List.getElem_toArray]
  have h56 : ∀ k, k ≤ 6 → toB (shrU (UInt64.ofNat a) (56 - 8 * k)) = 0 := by
    intro k hk
    apply UInt8.toNat_inj.1
    rw [toB, UInt64.toNat_toUInt8, shrU, UInt64.toNat_shiftRight, Nat.shiftRight_eq_div_pow]
    have h1 : (UInt64.ofNat (56 - 8 * k)).toNat % 64 = 56 - 8 * k := by rw [UInt64.toNat_ofNat']; omega
    have h2 : (UInt64.ofNat a).toNat = a := by rw [UInt64.toNat_ofNat']; omega
    rw [h1, h2, Nat.div_eq_of_lt]
    · rfl
    · have : 2 ^ 8 ≤ 2 ^ (56 - 8 * k) := Nat.pow_le_pow_right (by decide) (by omega)
      omega
  by_cases h8 : j < 8
  · rw [List.getElem_append_left (by rw [bytes8_len]; exact h8), bytes8_at _ j h8]
    by_cases h7 : j = 7
    · subst h7
      rw [if_pos rfl]
      apply UInt8.toNat_inj.1
      rw [toB, UInt64.toNat_toUInt8, shrU, UInt64.toNat_shiftRight, UInt64.toNat_ofNat', UInt8.toNat_ofNat']
      have h1 : (UInt64.ofNat (56 - 8 * 7)).toNat % 64 = 0 := by decide
      rw [h1, Nat.shiftRight_zero]; omega
    · rw [if_neg h7, if_neg (by omega), h56 j (by omega)]
  · rw [List.getElem_append_right (by rw [bytes8_len]; omega), if_neg (by omega), if_pos (by omega)]
    simp only [bytes8_len]
    rw [bytes8_at _ (j - 8) (by omega), show 56 - 8 * (j - 8) = 8 * (15 - j) by omega]
theorem shru (u i : Nat) (hu : u ≤ 1099511627776) (hi : i < 8) : (u : Int) / 2 ^ (8 * i) % 256 = ((toB (shrU (UInt64.ofNat u) (8 * i))).toNat : Int) := by
  have h := shr64 (UInt64.ofNat u) (8 * i) (by omega)
  have h2 : (UInt64.ofNat u).toNat = u := by rw [UInt64.toNat_ofNat']; omega
  rw [h2] at h
  rw [h, ← IntKind.wrap_u8, w8_64]
set_option maxHeartbeats 800000 in
theorem leaf_n (a u : Nat) (ha : a ≤ 65) (hu : u ≤ 1099511627776) (w : World) :
    Calls Try.prog 91 #[.agg #[.int .i64 ((a : Int) - 1), .int .i64 (u : Int)]] w fun e w' => e = .returned (.agg (kc (leafN a u))) ∧ Mem w w' [] := by
  have HM := Mem.start w
  have hq1 : IntKind.i64.wrap ((a : Int) - 1 + 1) = (a : Int) := by rw [IntKind.wrap_i64]; omega
  have hq2 : (a : Int) % 256 = ((UInt8.ofNat a).toNat : Int) := by rw [UInt8.toNat_ofNat']; omega
  go_enter Try.func91, Try.ntmps91
  go_wp2_with (first
    | ((with_reducible refine s_ 1 ?_); go_must (refine wl_box (dst := some 1) (cs := #[.int .i64 ((a : Int) - 1), .int .i64 (u : Int)]) _ _ _ rfl rfl HM ?_; clear HM; intro b1 W HM))
    | ((with_reducible refine s_ 2 ?_); go_must (refine wl_alloc (dst := some 2) (cs := kc zeroKey) 23 _ Try.zeroValue23 kc_zero HM ?_; clear HM; intro b2 W HM))
    | ((with_reducible refine s_ 3 ?_); go_must (refine wl_alloc (dst := some 3) (cs := kc zeroKey) 23 _ Try.zeroValue23 kc_zero HM ?_; clear HM; intro b3 W HM))
    | ((with_reducible refine ld_ 3 ?_); go_must (refine wl_load_cell _ _ _ _ _ _ _ _ rfl HM (by repeat first | exact List.mem_cons_self .. | refine List.mem_cons_of_mem _ ?_) (by rfl) Try.underlying3 rfl ?_))
    | ((with_reducible refine st_ 5 ?_); go_must ((refine wl_store_cell _ _ _ _ _ _ _ _ _ rfl rfl HM .here sz5 rfl (by first | omega | (simp; done) | (simp [kc_size]; done) | (simp [kc_size]; omega) | (simp only [Array.size_setIfInBounds, bytesC_size, List.length_append, List.length_replicate, List.length_set]; omega)) rfl ?_); clear HM; intro W HM; try (simp only [Act.eval, Array.getD_eq_getD_getElem?, List.getElem?_toArray, List.getElem?_cons_succ, List.getElem?_cons_zero, Option.getD_some, List.setIfInBounds_toArray, List.set_cons_succ, List.set_cons_zero] at HM))))
  have hval : Value.int .u8 (a : Int) = .int .u8 ((UInt8.ofNat a).toNat : Int) := by rw [show ((UInt8.ofNat a).toNat : Int) = (a : Int) from by rw [UInt8.toNat_ofNat']; omega]
  rw [hval, kc_set _ _ (by omega), leafTo_zero a u] at HM
  clear hval
  go_loopw [10] (fun c wr => ∃ i : Nat, i ≤ 8 ∧ c = .int .i64 i ∧ Mem w wr [.blk b3 (kc (leafTo a u i)) 23, .blk b2 (kc zeroKey) 23, .blk b1 #[.int .i64 ((a : Int) - 1), .int .i64 (u : Int)] 79])
    (fun c _ => 8 - (intOf c).toNat)
  case atStart => exact ⟨0, by omega, rfl, HM⟩
  case round =>
    clear HM hq1 hq2
    obtain ⟨i, hi, rfl, HM⟩ := hrel
    by_cases hlt : i < 8
    · have hb1 : (i : Int) < 8 := by omega
      have hb5 : IntKind.i64.wrap (15 - (i : Int)) = 15 - (i : Int) := by rw [IntKind.wrap_i64]; omega
      have hb3 : 0 ≤ 15 - (i : Int) := by omega
      have hb2 : 15 - (i : Int) < 16 := by omega
      have hb4 : (15 - (i : Int)).toNat = 15 - i := by omega
      have hb6 : IntKind.i64.wrap (8 * (i : Int)) = 8 * (i : Int) := by rw [IntKind.wrap_i64]; omega
      have hb8 : 0 ≤ 8 * (i : Int) := by omega
      have hb9 : (8 * (i : Int)).toNat = 8 * i := by omega
      have hq1 := shru u i hu hlt
      go_wp2_with (first
        | ((with_reducible refine ld_ 3 ?_); go_must (refine wl_load_cell _ _ _ _ _ _ _ _ rfl HM (by repeat first | exact List.mem_cons_self .. | refine List.mem_cons_of_mem _ ?_) (by rfl) Try.underlying3 rfl ?_))
        | ((with_reducible refine st_ 5 ?_); go_must ((refine wl_store_cell _ _ _ _ _ _ _ _ _ rfl rfl HM .here sz5 rfl (by first | omega | (simp; done) | (simp [kc_size]; done) | (simp [kc_size]; omega) | (simp only [Array.size_setIfInBounds, bytesC_size, List.length_append, List.length_replicate, List.length_set]; omega)) rfl ?_); clear HM; intro W HM; try (simp only [Act.eval, Array.getD_eq_getD_getElem?, List.getElem?_toArray, List.getElem?_cons_succ, List.getElem?_cons_zero, Option.getD_some, List.setIfInBounds_toArray, List.set_cons_succ, List.set_cons_zero] at HM))))
      rw [hq1, kc_set _ _ (by omega), leafTo_set a u i hlt] at HM
      go_roundw
      case rel => exact ⟨i + 1, by omega, by go_num, HM⟩
      case measure => simp [intOf]; omega
    · obtain rfl : i = 8 := by omega
      rw [leafTo_end a u ha] at HM
      go_wp2_with (first
        | ((with_reducible refine ld_ 23 ?_); go_must (refine wl_load_blk _ _ _ _ _ _ rfl HM (by repeat first | exact List.mem_cons_self .. | refine List.mem_cons_of_mem _ ?_) Try.underlying23 rfl (by rw [kc_size]; exact sz23) ?_))
        | ((with_reducible refine st_ 23 ?_); go_must ((refine wl_store_blk _ _ _ _ _ _ _ rfl rfl HM (.there .here) (by rw [kc_size]; exact sz23) (by simp only [kc_size]) (kc_one _) ?_); clear HM; intro W HM)))
      refine ret1 rfl (by (exact res_row HM rfl m1 Try.underlying23 rfl (by rw [kc_size]; exact sz23))) rfl ?_
      exact ⟨rfl, HM.base⟩
def entB (x : Ent) : Bool := decide (-1 ≤ x.1 ∧ x.1 ≤ 64 ∧ 0 ≤ x.2 ∧ x.2 ≤ 1099511627776)
def leafE (x : Ent) : Key := leafN (x.1 + 1).toNat x.2.toNat
theorem entB_n {x : Ent} (h : entB x = true) : ∃ a u : Nat, x = ((a : Int) - 1, (u : Int)) ∧ a ≤ 65 ∧ u ≤ 1099511627776 ∧ leafE x = leafN a u := by
  obtain ⟨h1, h2, h3, h4⟩ := of_decide_eq_true h
  refine ⟨(x.1 + 1).toNat, x.2.toNat, ?_, by omega, by omega, rfl⟩
  obtain ⟨x1, x2⟩ := x
  simp only [Prod.mk.injEq] at h1 h2 h3 h4 ⊢
  constructor <;> omega
theorem leaf_c (x : Ent) (h : entB x = true) (w : World) : Calls Try.prog 91 #[.agg #[.int .i64 x.1, .int .i64 x.2]] w fun e w' => e = .returned (.agg (kc (leafE x))) ∧ Mem w w' [] := by
  obtain ⟨a, u, rfl, ha, hu, he⟩ := entB_n h
  rw [he]; exact leaf_n a u ha hu w
def LeafIs (a u : Nat) (bs : List UInt8) : Prop := leafN a u = keyL (bs.take 16)
theorem LeafIs.eq {a u : Nat} {bs : List UInt8} (h : LeafIs a u bs) : leafN a u = keyL (bs.take 16) := h
theorem leafN_key (a u : Nat) : keyL (bytesN (UInt64.ofNat a) 8 ++ bytesN (UInt64.ofNat u) 8) = leafN a u := keyL_block _ _
set_option maxHeartbeats 800000 in
theorem rleaf_n (a u : Nat) (ha : a ≤ 65) (hu : u ≤ 1099511627776) (w : World) :
    Calls Try.prog 93 #[.agg #[.int .i64 ((a : Int) - 1), .int .i64 (u : Int)]] w fun e w' => e = .returned (.agg (kc (leafN a u))) ∧ Mem w w' [] := by
  have HM := Mem.start w
  have hq1 : IntKind.i64.wrap ((a : Int) - 1 + 1) = (a : Int) := by rw [IntKind.wrap_i64]; omega
  have hA : ∀ W, Calls Try.prog 138 #[.int .u64 (a : Int), .int .i64 8] W fun e w' => ∃ v, e = .returned v ∧ Mem W w' [.row v 5 1 8 ((bytesN (UInt64.ofNat a) 8).flatMap encB)] := by
    intro W
    have h := bytes8_c (UInt64.ofNat a) W
    rwa [show ((UInt64.ofNat a).toNat : Int) = (a : Int) from by rw [UInt64.toNat_ofNat']; omega] at h
  have hU : ∀ W, Calls Try.prog 138 #[.int .u64 (u : Int), .int .i64 8] W fun e w' => ∃ v, e = .returned v ∧ Mem W w' [.row v 5 1 8 ((bytesN (UInt64.ofNat u) 8).flatMap encB)] := by
    intro W
    have h := bytes8_c (UInt64.ofNat u) W
    rwa [show ((UInt64.ofNat u).toNat : Int) = (u : Int) from by rw [UInt64.toNat_ofNat']; omega] at h
  go_enter Try.func93, Try.ntmps93
  go_wp2_with (first
    | ((with_reducible refine s_ 1 ?_); go_must (refine wl_box (dst := some 1) (cs := #[.int .i64 ((a : Int) - 1), .int .i64 (u : Int)]) _ _ _ rfl rfl HM ?_; clear HM; intro b1 W HM))
    | ((with_reducible refine s_ 2 ?_); go_must (refine wl_alloc (dst := some 2) (cs := kc zeroKey) 23 _ Try.zeroValue23 kc_zero HM ?_; clear HM; intro b2 W HM))
    | ((with_reducible refine s_ 3 ?_); go_must (refine wl_alloc (dst := some 3) (cs := kc zeroKey) 23 _ Try.zeroValue23 kc_zero HM ?_; clear HM; intro b3 W HM)))
  replace HM := HM.drew
  refine wp_region_mixN (fun W => Held w W [.blk b1 #[.int .i64 ((a : Int) - 1), .int .i64 (u : Int)] 79]) (fun W => Held w W [.blk b1 #[.int .i64 ((a : Int) - 1), .int .i64 (u : Int)] 79]) (.cons (2, 0) (.cons (2, 1) (.cons (2, 2) (.cons (2, 3) (.cons (2, 5) (.cons (2, 6) (.cons (2, 7) (.cons (0, 4) (.cons (0, 8) (.cons (0, 9) (.cons (2, 10) .nil))))))))))) [] (by kernel_rfl) (by kernel_rfl) (by kernel_rfl) (fun W h => Held.weak h (by simp)) (HM.held (by simp)) ?_
  revert HM; generalize World.drew _ = W; intro HM
  have HS1 : Held w W [.blk b1 #[.int .i64 ((a : Int) - 1), .int .i64 (u : Int)] 79] := HM.held (by simp)
  have HS2 : Held w W [.blk b1 #[.int .i64 ((a : Int) - 1), .int .i64 (u : Int)] 79] := HM.held (by simp)
  refine wm_q2 (i := 0) (some 6) rfl rfl rfl HS2 (fun W HS => by (go_simp; try with_reducible rfl)) ?_
  simp only [Act.put, List.getElem_toArray, List.getElem_cons_succ, List.getElem_cons_zero, List.setIfInBounds_toArray, List.set_cons_succ, List.set_cons_zero]
  refine wm_q2 (i := 1) (some 7) rfl rfl rfl HS2 (fun W HS => (by (exact ry_load_cell _ _ _ _ _ _ _ _ HS rfl m0 rfl Try.underlying3 rfl))) ?_
  simp only [Act.put, List.getElem_toArray, List.getElem_cons_succ, List.getElem_cons_zero, List.setIfInBounds_toArray, List.set_cons_succ, List.set_cons_zero]
  refine wm_q2 (i := 2) (some 8) rfl rfl rfl HS2 (fun W HS => by (go_simp; try with_reducible rfl)) ?_
  simp only [Act.put, List.getElem_toArray, List.getElem_cons_succ, List.getElem_cons_zero, List.setIfInBounds_toArray, List.set_cons_succ, List.set_cons_zero]
  refine wm_q2 (i := 3) (some 9) rfl rfl rfl HS2 (fun W HS => by (go_simp; try with_reducible rfl)) ?_
  simp only [Act.put, List.getElem_toArray, List.getElem_cons_succ, List.getElem_cons_zero, List.setIfInBounds_toArray, List.set_cons_succ, List.set_cons_zero]
  refine wm_q2 (i := 5) (some 11) rfl rfl rfl HS2 (fun W HS => by (go_simp; try with_reducible rfl)) ?_
  simp only [Act.put, List.getElem_toArray, List.getElem_cons_succ, List.getElem_cons_zero, List.setIfInBounds_toArray, List.set_cons_succ, List.set_cons_zero]
  refine wm_q2 (i := 6) (some 12) rfl rfl rfl HS2 (fun W HS => (by (exact ry_load_cell _ _ _ _ _ _ _ _ HS rfl m0 rfl Try.underlying3 rfl))) ?_
  simp only [Act.put, List.getElem_toArray, List.getElem_cons_succ, List.getElem_cons_zero, List.setIfInBounds_toArray, List.set_cons_succ, List.set_cons_zero]
  refine wm_q2 (i := 7) (some 13) rfl rfl rfl HS2 (fun W HS => by (go_simp; try with_reducible rfl)) ?_
  simp only [Act.put, List.getElem_toArray, List.getElem_cons_succ, List.getElem_cons_zero, List.setIfInBounds_toArray, List.set_cons_succ, List.set_cons_zero]
  refine wm_e0 (i := 4) rfl ?_
  go_wp2_with (first
    | (go_at_call 138; go_must (((with_reducible refine (hA _).mono ?_)); rintro e W ⟨v, rfl, HM'⟩; replace HM := HM.join HM'; clear HM'; simp only [List.cons_append, List.nil_append] at HM)))
  refine ⟨HM.held (by simp), ?_⟩
  clear HS1 HS2
  have HS1 : Held w W [.blk b1 #[.int .i64 ((a : Int) - 1), .int .i64 (u : Int)] 79] := HM.held (by simp)
  have HS2 : Held w W [.blk b1 #[.int .i64 ((a : Int) - 1), .int .i64 (u : Int)] 79] := HM.held (by simp)
  refine wm_e0 (i := 8) rfl ?_
  go_wp2_with (first
    | (go_at_call 138; go_must (((with_reducible refine (hU _).mono ?_)); rintro e W ⟨v, rfl, HM'⟩; replace HM := HM.join HM'; clear HM'; simp only [List.cons_append, List.nil_append] at HM)))
  refine ⟨HM.held (by simp), ?_⟩
  clear HS1 HS2
  have HS1 : Held w W [.blk b1 #[.int .i64 ((a : Int) - 1), .int .i64 (u : Int)] 79] := HM.held (by simp)
  have HS2 : Held w W [.blk b1 #[.int .i64 ((a : Int) - 1), .int .i64 (u : Int)] 79] := HM.held (by simp)
  refine wm_e0 (i := 9) rfl ?_
  go_wp2_with (first
    | ((with_reducible refine s_ 15 ?_); go_must (refine wl_append (dst := some 15) (enc := encB) _ _ _ _ _ _ _ _ _ _ _ (bytesN (UInt64.ofNat u) 8) Try.underlying24 inf5 rfl (by decide) encB_len encB_one HM (.there .here) (rd_row HM m0 rfl) rfl rfl (by decide) (by rw [bytesN_len]; decide) ?_; clear HM; intro v15 W HM; try dsimp only at HM)))
  refine ⟨HM.held (by simp), ?_⟩
  clear HS1 HS2
  have HS1 : Held w W [.blk b1 #[.int .i64 ((a : Int) - 1), .int .i64 (u : Int)] 79] := HM.held (by simp)
  have HS2 : Held w W [.blk b1 #[.int .i64 ((a : Int) - 1), .int .i64 (u : Int)] 79] := HM.held (by simp)
  refine wm_q2 (i := 10) (some 4) rfl rfl rfl HS2 (fun W HS => by (go_simp; try with_reducible rfl)) ?_
  simp only [Act.put, List.getElem_toArray, List.getElem_cons_succ, List.getElem_cons_zero, List.setIfInBounds_toArray, List.set_cons_succ, List.set_cons_zero]
  refine wm_nilN ?_
  clear HS1 HS2
  have hkey := leafN_key a u
  rw [flat_snoc'] at HM
  obtain ⟨bs, hbs⟩ : ∃ bs, bs = bytesN (UInt64.ofNat a) 8 ++ bytesN (UInt64.ofNat u) 8 := ⟨_, rfl⟩
  have hbl : bs.length = 16 := by rw [hbs, List.length_append, bytesN_len, bytesN_len]
  have hnl : 8 + (bytesN (UInt64.ofNat u) 8).length = 16 := by rw [bytesN_len]
  rw [← hbs] at hkey HM
  rw [hnl] at HM
  have hK : LeafIs a u bs := by rw [LeafIs, ← hkey, List.take_of_length_le (by omega)]
  have hb16 : 16 ≤ bs.length := by omega
  clear hkey hbs hnl hA hU hq1 hbl
  replace HM := HM.tail
  have hz : kc zeroKey = kc (keyL (bs.take 0)) := by rw [List.take_zero, keyL_nil]
  have HM2 : Mem w W [.row v15 5 1 16 (bs.flatMap encB), .blk b3 (kc (keyL (bs.take 0))) 23, .blk b2 (kc zeroKey) 23, .blk b1 #[.int .i64 ((a : Int) - 1), .int .i64 (u : Int)] 79] := by
    rw [← hz]; exact HM
  clear hz HM
  rename _ => HM
  have z1 : IntKind.i64.wrap (a : Int) = (a : Int) := by rw [IntKind.wrap_i64]; omega
  have z2 : IntKind.u64.wrap (a : Int) = (a : Int) := by rw [IntKind.wrap_u64]; omega
  have z3 : IntKind.u64.wrap (u : Int) = (u : Int) := by rw [IntKind.wrap_u64]; omega
  simp only [z1, z2, z3]
  clear z1 z2 z3
  go_wp2_with (fail)
  go_loopw [5] (fun c wr => ∃ j : Nat, j ≤ 16 ∧ c = .int .i64 j ∧ Mem w wr [.row v15 5 1 16 (bs.flatMap encB), .blk b3 (kc (keyL (bs.take j))) 23, .blk b2 (kc zeroKey) 23, .blk b1 #[.int .i64 ((a : Int) - 1), .int .i64 (u : Int)] 79])
    (fun c _ => 16 - (intOf c).toNat)
  case atStart => exact ⟨0, by omega, rfl, HM⟩
  case round =>
    clear HM
    obtain ⟨j, hj, rfl, HM⟩ := hrel
    by_cases hlt : j < 16
    · have h2 : j < bs.length := by omega
      have hx : bs[j]? = some bs[j] := List.getElem?_eq_getElem h2
      have hb1 : (j : Int) < 16 := by omega
      go_wp2_with (first
        | ((with_reducible refine s_ 23 ?_); go_must ((refine wl_index (dst := some 23) _ 5 _ _ _ _ _ _ _ encB_len Try.underlying24 sz5 rfl rfl (rd_row HM m0 rfl) (by omega) (by first | assumption | simp [*]) ?_); intro p23 hp23))
        | ((with_reducible refine s_ 24 ?_); go_must (refine wl_load_at1 (dst := some 24) _ _ _ _ _ rfl hp23 Try.underlying5 rfl ?_))
        | ((with_reducible refine st_ 5 ?_); go_must ((refine wl_store_cell _ _ _ _ _ _ _ _ _ rfl rfl HM (.there .here) sz5 rfl (by first | omega | (simp; done) | (simp [kc_size]; done) | (simp [kc_size]; omega) | (simp only [Array.size_setIfInBounds, bytesC_size, List.length_append, List.length_replicate, List.length_set]; omega)) rfl ?_); clear HM; intro W HM; try (simp only [Act.eval, Array.getD_eq_getD_getElem?, List.getElem?_toArray, List.getElem?_cons_succ, List.getElem?_cons_zero, Option.getD_some, List.setIfInBounds_toArray, List.set_cons_succ, List.set_cons_zero] at HM))))
      rw [kc_set _ _ hlt, keyL_set bs j hlt h2] at HM
      go_roundw
      case rel => exact ⟨j + 1, by omega, by go_num, HM⟩
      case measure => simp [intOf]; omega
    · obtain rfl : j = 16 := by omega
      go_wp2_with (first
        | ((with_reducible refine ld_ 23 ?_); go_must (refine wl_load_blk _ _ _ _ _ _ rfl HM (by repeat first | exact List.mem_cons_self .. | refine List.mem_cons_of_mem _ ?_) Try.underlying23 rfl (by rw [kc_size]; exact sz23) ?_))
        | ((with_reducible refine st_ 23 ?_); go_must ((refine wl_store_blk _ _ _ _ _ _ _ rfl rfl HM (.there (.there .here)) (by rw [kc_size]; exact sz23) (by simp only [kc_size]) (kc_one _) ?_); clear HM; intro W HM)))
      refine ret1 rfl (by (exact res_row HM rfl m2 Try.underlying23 rfl (by rw [kc_size]; exact sz23))) rfl ?_
      rw [hK.eq]
      exact ⟨rfl, HM.base⟩
theorem rleaf_c (x : Ent) (h : entB x = true) (w : World) : Calls Try.prog 93 #[.agg #[.int .i64 x.1, .int .i64 x.2]] w fun e w' => e = .returned (.agg (kc (leafE x))) ∧ Mem w w' [] := by
  obtain ⟨a, u, rfl, ha, hu, he⟩ := entB_n h
  rw [he]; exact rleaf_n a u ha hu w
end
section
set_option linter.unusedVariables false
set_option linter.unusedSimpArgs false
set_option maxRecDepth 8000
open Go.RowKit
def catE (us : List (Value × List Ent)) (i : Nat) : List Ent := (us.take i).flatMap (·.2)
theorem catE_succ (us : List (Value × List Ent)) (i : Nat) (p : Value × List Ent) (h : us[i]? = some p) : catE us (i + 1) = catE us i ++ p.2 := by
  have hi : i < us.length := (List.getElem?_eq_some_iff.1 h).1
  have he : us[i] = p := (List.getElem?_eq_some_iff.1 h).2
  rw [catE, List.take_succ_eq_append_getElem hi, List.flatMap_append, he, catE]; simp
theorem catE_len (us : List (Value × List Ent)) (i : Nat) : (catE us i).length ≤ (catE us us.length).length := by
  have h : catE us us.length = catE us i ++ (us.drop i).flatMap (·.2) := by
    rw [catE, List.take_length, catE, ← List.flatMap_append, List.take_append_drop]
  rw [h, List.length_append]; omega
set_option maxHeartbeats 400000 in
theorem grow0E_c (n : Nat) (hn : n ≤ 1048576) (w : World) :
    Calls Try.prog 139 #[.slice none 0 0, .int .i64 (n : Int)] w fun e w' => ∃ u, e = .returned u ∧ Mem w w' [.row u 79 2 0 []] := by
  have HM := Mem.start w
  by_cases h0 : n = 0
  · subst h0
    rw [show ((0 : Nat) : Int) = 0 from rfl]
    go_enter Try.func139, Try.ntmps139
    go_wp2_with (fail)
    refine ret1 rfl (res_tmp rfl) rfl ?_
    exact ⟨_, rfl, HM.nilrow _ _⟩
  · have h1 : (0 : Int) < (n : Int) := by omega
    have h2 : ¬ (n : Int) < 0 := by omega
    go_enter Try.func139, Try.ntmps139
    go_wp2_with (first
      | ((with_reducible refine s_ 22 ?_); go_must ((refine wl_append_zeros (dst := some 22) _ _ _ _ _ _ _ _ _ _ _ Try.underlying77 Try.underlying3 inf79 rfl (by decide) rfl rfl (by omega) (by decide) (by omega) HM ?_; clear HM; intro b22 cap xs W hc1 hc2 HM)))
      | ((with_reducible refine s_ 25 ?_); go_must ((refine wl_row_hi (dst := some 25) _ _ _ _ _ _ _ _ _ _ _ Try.underlying77 sz79 rfl rfl HM .here (by omega) (by omega) ?_; clear HM; intro HM))))
    refine ret1 rfl (res_tmp rfl) rfl ?_
    exact ⟨_, rfl, by simpa using HM⟩
set_option maxHeartbeats 800000 in
theorem concatE_c (v : Value) (us : List (Value × List Ent)) (w : World) (hV : RdL encV 1 w v (us.map (·.1))) (hU : ∀ p ∈ us, RdL encE 2 w p.1 p.2) (hl : (catE us us.length).length ≤ 1048576) (hn : us.length ≤ 1000) :
    Calls Try.prog 94 #[v] w fun e w' => ∃ u, e = .returned u ∧ Mem w w' [.row u 79 2 (catE us us.length).length ((catE us us.length).flatMap encE)] := by
  have HM := Mem.start w
  have hvl : (us.map (·.1)).length = us.length := by simp
  go_enter Try.func94, Try.ntmps94
  go_wp2_with (first
    | ((with_reducible refine s_ 10 ?_); go_must ((refine wl_len (dst := some 10) _ _ _ _ 77 Try.underlying187 rfl (hV) ?_))))
  go_loopw [3, 5, 11] (fun s q c wr => ∃ i : Nat, i ≤ us.length ∧ c = .int .i64 i ∧ s = .int .i64 ((catE us i).length : Nat) ∧ Mem w wr [])
    (fun _ _ c _ => us.length - (intOf c).toNat)
  case atStart => exact ⟨0, by omega, rfl, rfl, HM⟩
  case round =>
    clear HM
    obtain ⟨i, hi, rfl, rfl, HM⟩ := hrel
    by_cases hlt : i < us.length
    · have hb1 : (i : Int) < (us.length : Int) := by omega
      obtain ⟨p, hpe⟩ : ∃ p, us[i]? = some p := ⟨_, List.getElem?_eq_getElem hlt⟩
      have hx : (us.map (·.1))[i]? = some p.1 := by rw [List.getElem?_map, hpe]; rfl
      have hp := hU p (List.mem_of_getElem? hpe)
      have hcs := catE_succ us i p hpe
      have hle := catE_len us (i + 1)
      have hcl : (catE us (i + 1)).length = (catE us i).length + p.2.length := by rw [hcs, List.length_append]
      have hw : IntKind.i64.wrap (((catE us i).length : Int) + (p.2.length : Int)) = ((catE us i).length : Int) + (p.2.length : Int) := by rw [IntKind.wrap_i64]; omega
      have hnn : ¬ ((catE us i).length : Int) + (p.2.length : Int) < 0 := by omega
      clear hcs
      go_wp2_with (first
        | ((with_reducible refine s_ 13 ?_); go_must ((refine wl_index (dst := some 13) _ 77 _ _ _ _ _ _ _ encV_len Try.underlying187 sz77 rfl rfl (hV.mem HM) (by omega) (by first | assumption | simp [*]) ?_); intro p13 hp13))
        | ((with_reducible refine s_ 14 ?_); go_must (refine wl_load_at1 (dst := some 14) _ _ _ _ _ rfl hp13 Try.underlying77 rfl ?_))
        | ((with_reducible refine s_ 17 ?_); go_must ((refine wl_len (dst := some 17) _ _ _ _ 79 Try.underlying77 rfl (hp) ?_))))
      go_roundw
      case rel => exact ⟨i + 1, by omega, by go_num, by rw [hcl, Int.natCast_add], HM⟩
      case measure => simp [intOf]; omega
    · obtain rfl : i = us.length := by omega
      go_wp2_with (first
        | ((with_reducible refine s_ 26 ?_); go_must ((refine wl_len (dst := some 26) _ _ _ _ 77 Try.underlying187 rfl (hV) ?_)))
        | (go_at_call 139; go_must (((with_reducible refine (grow0E_c _ hl _).mono ?_)); rintro e W ⟨u6, rfl, HM'⟩; replace HM := HM.join HM'; clear HM'; simp only [List.cons_append, List.nil_append] at HM)))
      go_loopw [6, 8, 27] (fun o q c wr => ∃ i : Nat, i ≤ us.length ∧ c = .int .i64 i ∧ Mem w wr [.row o 79 2 (catE us i).length ((catE us i).flatMap encE)])
        (fun _ _ c _ => us.length - (intOf c).toNat)
      case atStart => exact ⟨0, by omega, rfl, HM⟩
      case round =>
        clear HM
        obtain ⟨i, hi, rfl, HM⟩ := hrel
        by_cases hlt2 : i < us.length
        · have hb1 : (i : Int) < (us.length : Int) := by omega
          obtain ⟨p, hpe⟩ : ∃ p, us[i]? = some p := ⟨_, List.getElem?_eq_getElem hlt2⟩
          have hx : (us.map (·.1))[i]? = some p.1 := by rw [List.getElem?_map, hpe]; rfl
          have hp := hU p (List.mem_of_getElem? hpe)
          have hcs := catE_succ us i p hpe
          have hle := catE_len us (i + 1)
          have hcl : (catE us (i + 1)).length = (catE us i).length + p.2.length := by rw [hcs, List.length_append]
          clear hcs
          go_wp2_with (first
            | ((with_reducible refine s_ 29 ?_); go_must ((refine wl_index (dst := some 29) _ 77 _ _ _ _ _ _ _ encV_len Try.underlying187 sz77 rfl rfl (hV.mem HM) (by omega) (by first | assumption | simp [*]) ?_); intro p29 hp29))
            | ((with_reducible refine s_ 30 ?_); go_must (refine wl_load_at1 (dst := some 30) _ _ _ _ _ rfl hp29 Try.underlying77 rfl ?_))
            | ((with_reducible refine s_ 33 ?_); go_must (refine wl_append (dst := some 33) (enc := encE) _ _ _ _ _ _ _ _ _ _ _ (p.2) Try.underlying77 inf79 rfl (by decide) encE_len encE_one HM .here (hp.mem HM) rfl rfl (by decide) (by omega) ?_; clear HM; intro v33 W HM; try dsimp only at HM)))
          rw [flat_snoc', ← catE_succ us i p hpe, ← hcl] at HM
          go_roundw
          case rel => exact ⟨i + 1, by omega, by go_num, HM⟩
          case measure => simp [intOf]; omega
        · obtain rfl : i = us.length := by omega
          go_wp2_with (fail)
          refine ret1 rfl (res_tmp rfl) rfl ?_
          exact ⟨_, rfl, HM⟩
theorem run_build_ent1 (n : Int) (w : World) : (Instr.build 79 #[(0, .int .i64 n)]).run Try.prog w = .ok (.agg #[.int .i64 n, .int .i64 0]) w := by
  simp [Instr.build, Try.zeroValue79, run_underlying Try.underlying79, Try.sizeOf3, Instr.fill, show ∀ cs, (Value.agg cs).cells = cs from fun _ => rfl, show ∀ n, (Value.int .i64 n).cells = #[.int .i64 n] from fun _ => rfl]
theorem valid_from : ∀ (l : List Ent) (p : Int), -1 ≤ p → p ≤ 63 → validFrom p l = true → (l.length : Int) + p + 1 ≤ 64 ∧ ∀ x ∈ l, p < x.1 ∧ x.1 < 64 ∧ 0 ≤ x.2 ∧ x.2 ≤ 1099511627776 := by
  intro l
  induction l with
  | nil => intro p h1 h2 _; exact ⟨by simp; omega, fun x hx => by cases hx⟩
  | cons y r ih =>
    intro p h1 h2 h
    rw [validFrom, Bool.and_eq_true] at h
    obtain ⟨ha, hb, hc, hd, he⟩ := of_decide_eq_true h.1
    obtain ⟨i1, i2⟩ := ih y.1 (by omega) (by omega) h.2
    refine ⟨by simp only [List.length_cons]; omega, fun x hx => ?_⟩
    rcases List.mem_cons.1 hx with rfl | hx
    · exact ⟨he, hb, hc, hd⟩
    · obtain ⟨j1, j2, j3, j4⟩ := i2 x hx
      exact ⟨by omega, j2, j3, j4⟩
theorem valid_len (l : List Ent) (h : validB l = true) : l.length ≤ 64 := by have := (valid_from l (-1) (by omega) (by omega) h).1; omega
theorem valid_ent (l : List Ent) (h : validB l = true) : ∀ x ∈ l, entB x = true := fun x hx => by
  obtain ⟨h1, h2, h3, h4⟩ := (valid_from l (-1) (by omega) (by omega) h).2 x hx
  rw [entB, decide_eq_true_iff]; omega
def endL (l : List Ent) : List Ent := (-1, 0) :: (l ++ [(64, 0)])
def leavesL (l : List Ent) : List Key := (endL l).map leafE
theorem endL_len (l : List Ent) : (endL l).length = l.length + 2 := by simp [endL]
theorem leavesL_len (l : List Ent) : (leavesL l).length = l.length + 2 := by rw [leavesL, List.length_map, endL_len]
theorem endL_ent (l : List Ent) (h : ∀ x ∈ l, entB x = true) : ∀ x ∈ endL l, entB x = true := by
  intro x hx
  simp only [endL, List.mem_cons, List.mem_append, List.not_mem_nil, or_false] at hx
  rcases hx with rfl | hx | rfl
  · decide
  · exact h x hx
  · decide
theorem cat_end (l : List Ent) (v0 v1 v2 : Value) : catE [(v0, [(-1, 0)]), (v1, l), (v2, [(64, 0)])] 3 = endL l := by simp [catE, endL]
theorem cat_end' (l : List Ent) (v0 v1 v2 : Value) : catE [(v0, [(-1, 0)]), (v1, l), (v2, [(64, 0)])] [(v0, [((-1 : Int), (0 : Int))]), (v1, l), (v2, [(64, 0)])].length = endL l := cat_end l v0 v1 v2
theorem leaves_snoc (l : List Ent) (i : Nat) (x : Ent) (hx : (endL l)[i]? = some x) : ((endL l).take i).map leafE ++ [leafE x] = ((endL l).take (i + 1)).map leafE := by
  have hi : i < (endL l).length := (List.getElem?_eq_some_iff.1 hx).1
  have he : (endL l)[i] = x := (List.getElem?_eq_some_iff.1 hx).2
  rw [List.take_succ_eq_append_getElem hi, he]; simp
set_option maxHeartbeats 1600000 in
theorem ended_c (v : Value) (l : List Ent) (w : World) (hR : RdL encE 2 w v l) (hl : l.length ≤ 64) (hE : ∀ x ∈ l, entB x = true) :
    Calls Try.prog 104 #[v] w fun e w' => ∃ u1 u2, e = .returned (.tuple #[u1, u2]) ∧ Mem w w' [.row u2 23 16 (leavesL l).length ((leavesL l).flatMap encK), .row u1 79 2 (endL l).length ((endL l).flatMap encE)] := by
  have HM := Mem.start w
  obtain ⟨A, c, hve, -⟩ := id hR
  subst hve
  go_enter Try.func104, Try.ntmps104
  go_wp2_with (first
    | ((with_reducible refine s_ 8 ?_); go_must (refine wl_build (dst := some 8) _ _ _ _ (run_build_ent1 _) rfl ?_))
    | ((with_reducible refine s_ 9 ?_); go_must (refine wl_buildSlice (dst := some 9) (cs := #[.int .i64 (-1), .int .i64 0]) _ _ _ 79 2 _ Try.underlying77 Try.sizeOf79 Try.zeroValue79 (by decide) (by simp [Instr.fill, Act.eval, Act.put, Value.cells, undef, ← List.toArray_range, List.range_succ]) HM ?_; clear HM; intro b9 W HM))
    | ((with_reducible refine s_ 11 ?_); go_must (refine wl_build (dst := some 11) _ _ _ _ (run_build_ent1 _) rfl ?_))
    | ((with_reducible refine s_ 12 ?_); go_must (refine wl_buildSlice (dst := some 12) (cs := #[.int .i64 64, .int .i64 0]) _ _ _ 79 2 _ Try.underlying77 Try.sizeOf79 Try.zeroValue79 (by decide) (by simp [Instr.fill, Act.eval, Act.put, Value.cells, undef, ← List.toArray_range, List.range_succ]) HM ?_; clear HM; intro b12 W HM))
    | ((with_reducible refine s_ 13 ?_); go_must (refine wl_buildSlice (dst := some 13) (cs := #[.slice (some ⟨b9, 0, none⟩) 1 1, .slice A l.length c, .slice (some ⟨b12, 0, none⟩) 1 1]) _ _ _ 77 1 _ Try.underlying187 Try.sizeOf77 Try.zeroValue77 (by decide) (by simp [Instr.fill, Act.eval, Act.put, Value.cells, undef, ← List.toArray_range, List.range_succ]) HM ?_; clear HM; intro b13 W HM))
    | ((with_reducible refine s_ 16 ?_); go_must ((refine wl_len (dst := some 16) _ _ _ _ 79 Try.underlying77 rfl (rd_row HM m0 rfl (by decide) encE_len) ?_)))
    | (go_at_call 94; go_must (((with_reducible refine (concatE_c _ [(.slice (some ⟨b9, 0, none⟩) 1 1, [(-1, 0)]), (.slice A l.length c, l), (.slice (some ⟨b12, 0, none⟩) 1 1, [(64, 0)])] _ (RdL.of_blk (HM.blk m0) _ 3 rfl rfl (by decide)) (by intro p hp; simp only [List.mem_cons, List.not_mem_nil, or_false] at hp; rcases hp with rfl | rfl | rfl; exact RdL.of_blk (HM.blk m2) _ 1 rfl rfl (by decide); exact hR.mem HM; exact RdL.of_blk (HM.blk m1) _ 1 rfl rfl (by decide)) (by rw [cat_end', endL_len]; omega) (by simp)).mono ?_)); rintro e W ⟨u14, rfl, HM'⟩; replace HM := HM.join HM'; clear HM'; simp only [List.cons_append, List.nil_append] at HM; rw [cat_end'] at HM)))
  have hle := endL_len l
  have hle2 : (endL l).length ≤ 66 := by omega
  clear hle
  replace HM := HM.only m0
  go_loopw [5, 17] (fun o c wr => ∃ i : Nat, i ≤ (endL l).length ∧ c = .int .i64 i ∧ Mem w wr [.row o 23 16 (((endL l).take i).map leafE).length ((((endL l).take i).map leafE).flatMap encK), .row u14 79 2 (endL l).length ((endL l).flatMap encE)])
    (fun _ c _ => (endL l).length - (intOf c).toNat)
  case atStart => exact ⟨0, by omega, rfl, HM.nilrow _ _⟩
  case round =>
    clear HM
    obtain ⟨i, hi, rfl, HM⟩ := hrel
    by_cases hlt : i < (endL l).length
    · have hb : (i : Int) < ((endL l).length : Int) := by omega
      obtain ⟨x, hx⟩ : ∃ x, (endL l)[i]? = some x := ⟨_, List.getElem?_eq_getElem hlt⟩
      have hxE := endL_ent l hE x (List.mem_of_getElem? hx)
      have hbd : (((endL l).take i).map leafE).length ≤ 66 := by rw [List.length_map, List.length_take]; omega
      go_wp2_with (first
        | ((with_reducible refine s_ 19 ?_); go_must ((refine wl_index (dst := some 19) _ 79 _ _ _ _ _ _ _ encE_len Try.underlying77 sz79 rfl rfl (rd_row HM m1 rfl (by decide) encE_len) (by omega) (by first | assumption | simp [*]) ?_); intro p19 hp19; obtain ⟨bb19, oo19, hpe19, -⟩ := id hp19; subst hpe19))
        | ((with_reducible refine s_ 20 ?_); go_must (refine wl_load_ent (dst := some 20) _ _ _ _ rfl hp19 Try.underlying79 rfl sz79 ?_))
        | ((with_reducible refine s_ 7 ?_); go_must (refine wl_alloc (dst := some 7) (cs := #[Value.int IntKind.i64 0, Value.int IntKind.i64 0]) 79 _ Try.zeroValue79 rfl HM ?_; clear HM; intro b7 W HM))
        | ((with_reducible refine s_ 24 ?_); go_must ((refine wl_slice1K (dst := some 24) _ _ _ _ _ Try.underlying40 Try.sizeOf23 Try.zeroValue23 kc_zero rfl HM ?_; clear HM; intro b24 W HM)))
        | ((with_reducible refine s_ 25 ?_); go_must (refine wl_append (dst := some 25) (enc := encK) _ _ _ _ _ _ _ _ _ _ _ ([leafE x]) Try.underlying40 inf23 rfl (by decide) encK_len encK_one HM (.there (.there .here)) (RdL.of_blk (HM.blk m0) _ 1 rfl (by simp [kc_toList]) (by decide)) rfl rfl (by decide) (by simp; omega) ?_; clear HM; intro v25 W HM; try dsimp only at HM))
        | ((with_reducible refine st_ 79 ?_); go_must ((refine wl_store_blk _ _ _ _ _ _ _ rfl rfl HM .here sz79 rfl (by simp [Value.oneCell']) ?_); clear HM; intro W HM))
        | ((with_reducible refine ld_ 79 ?_); go_must (refine wl_load_blk _ _ _ _ _ _ rfl HM (by repeat first | exact List.mem_cons_self .. | refine List.mem_cons_of_mem _ ?_) Try.underlying79 rfl (by exact sz79) ?_))
        | (go_at_call 91; go_must (((with_reducible refine (leaf_c x hxE _).mono ?_)); rintro e W ⟨rfl, HM'⟩; replace HM := HM.keep HM'.below; clear HM')))
      rw [flat_snoc', ← List.length_append, leaves_snoc l i x hx] at HM
      go_roundw
      case rel => exact ⟨i + 1, by omega, by go_num, HM.tail.tail⟩
      case measure => simp [intOf]; omega
    · have hi2 : (endL l).length ≤ i := by omega
      have hb : ¬ (i : Int) < ((endL l).length : Int) := by omega
      go_wp2_with (fail)
      refine ret2 rfl (res_tmp rfl) (res_tmp rfl) rfl ?_
      rw [List.take_of_length_le hi2] at HM
      exact ⟨_, _, rfl, HM⟩
end
section
set_option linter.unusedVariables false
set_option linter.unusedSimpArgs false
set_option maxRecDepth 8000
open Go.RowKit
set_option maxHeartbeats 800000 in
theorem rEnded_c (v : Value) (l : List Ent) (w : World) (hR : RdL encE 2 w v l) (hl : l.length ≤ 64) :
    Calls Try.prog 89 #[v] w fun e w' => ∃ u, e = .returned u ∧ Mem w w' [.row u 79 2 (endL l).length ((endL l).flatMap encE)] := by
  have HM := Mem.start w
  go_enter Try.func89, Try.ntmps89
  go_wp2_with (first
    | ((with_reducible refine s_ 4 ?_); go_must (refine wl_build (dst := some 4) _ _ _ _ (run_build_ent1 _) rfl ?_))
    | ((with_reducible refine s_ 5 ?_); go_must (refine wl_buildSlice (dst := some 5) (cs := #[.int .i64 (-1), .int .i64 0]) _ _ _ 79 2 _ Try.underlying77 Try.sizeOf79 Try.zeroValue79 (by decide) (by simp [Instr.fill, Act.eval, Act.put, Value.cells, undef, ← List.toArray_range, List.range_succ]) HM ?_; clear HM; intro b5 W HM; replace HM := HM.toRow 2 1 .here rfl (by simp [maxLen])))
    | ((with_reducible refine s_ 7 ?_); go_must (refine wl_append (dst := some 7) (enc := encE) _ _ _ _ _ _ _ _ _ _ _ (l) Try.underlying77 inf79 rfl (by decide) encE_len encE_one HM .here (hR.mem HM) rfl rfl (by decide) (by omega) ?_; clear HM; intro v7 W HM; try dsimp only at HM))
    | ((with_reducible refine s_ 9 ?_); go_must (refine wl_build (dst := some 9) _ _ _ _ (run_build_ent1 _) rfl ?_))
    | ((with_reducible refine s_ 10 ?_); go_must (refine wl_buildSlice (dst := some 10) (cs := #[.int .i64 64, .int .i64 0]) _ _ _ 79 2 _ Try.underlying77 Try.sizeOf79 Try.zeroValue79 (by decide) (by simp [Instr.fill, Act.eval, Act.put, Value.cells, undef, ← List.toArray_range, List.range_succ]) HM ?_; clear HM; intro b10 W HM))
    | ((with_reducible refine s_ 11 ?_); go_must (refine wl_append (dst := some 11) (enc := encE) _ _ _ _ _ _ _ _ _ _ _ ([(64, 0)]) Try.underlying77 inf79 rfl (by decide) encE_len encE_one HM (.there .here) (RdL.of_blk (HM.blk m0) _ 1 rfl rfl (by decide)) rfl rfl (by decide) (by simp; omega) ?_; clear HM; intro v11 W HM; try dsimp only at HM)))
  refine ret1 rfl (res_tmp rfl) rfl ?_
  have H := HM.tail
  rw [show 1 + l.length + [((64 : Int), (0 : Int))].length = (endL l).length by rw [endL_len]; simp; omega] at H
  exact ⟨_, rfl, by simpa [endL, encE] using H⟩
set_option maxHeartbeats 1600000 in
theorem rLeaves_c (v : Value) (l : List Ent) (w : World) (hR : RdL encE 2 w v l) (hl : l.length ≤ 64) (hE : ∀ x ∈ l, entB x = true) :
    Calls Try.prog 87 #[v] w fun e w' => ∃ u, e = .returned u ∧ Mem w w' [.row u 23 16 (leavesL l).length ((leavesL l).flatMap encK)] := by
  have HM := Mem.start w
  go_enter Try.func87, Try.ntmps87
  go_wp2_with (first
    | (go_at_call 89; go_must (((with_reducible refine (rEnded_c v l _ (hR.mem HM) hl).mono ?_)); rintro e W ⟨u7, rfl, HM'⟩; replace HM := HM.join HM'; clear HM'; simp only [List.cons_append, List.nil_append] at HM)))
  have hle := endL_len l
  have hle2 : (endL l).length ≤ 66 := by omega
  clear hle
  go_loopw [3, 5] (fun o c wr => ∃ i : Nat, i ≤ (endL l).length ∧ c = .int .i64 i ∧ Mem w wr [.row o 23 16 (((endL l).take i).map leafE).length ((((endL l).take i).map leafE).flatMap encK), .row u7 79 2 (endL l).length ((endL l).flatMap encE)])
    (fun _ c _ => (endL l).length - (intOf c).toNat)
  case atStart => exact ⟨0, by omega, rfl, HM.nilrow _ _⟩
  case round =>
    clear HM
    obtain ⟨i, hi, rfl, HM⟩ := hrel
    by_cases hlt : i < (endL l).length
    · have hb : (i : Int) < ((endL l).length : Int) := by omega
      obtain ⟨x, hx⟩ : ∃ x, (endL l)[i]? = some x := ⟨_, List.getElem?_eq_getElem hlt⟩
      have hxE := endL_ent l hE x (List.mem_of_getElem? hx)
      have hbd : (((endL l).take i).map leafE).length ≤ 66 := by rw [List.length_map, List.length_take]; omega
      go_wp2_with (first
        | ((with_reducible refine s_ 10 ?_); go_must ((refine wl_len (dst := some 10) _ _ _ _ 79 Try.underlying77 rfl (rd_row HM m1 rfl (by decide) encE_len) ?_)))
        | ((with_reducible refine s_ 17 ?_); go_must ((refine wl_index (dst := some 17) _ 79 _ _ _ _ _ _ _ encE_len Try.underlying77 sz79 rfl rfl (rd_row HM m1 rfl (by decide) encE_len) (by omega) (by first | assumption | simp [*]) ?_); intro p17 hp17; obtain ⟨bb17, oo17, hpe17, -⟩ := id hp17; subst hpe17))
        | ((with_reducible refine s_ 18 ?_); go_must (refine wl_load_ent (dst := some 18) _ _ _ _ rfl hp17 Try.underlying79 rfl sz79 ?_))
        | ((with_reducible refine s_ 20 ?_); go_must ((refine wl_slice1K (dst := some 20) _ _ _ _ _ Try.underlying40 Try.sizeOf23 Try.zeroValue23 kc_zero rfl HM ?_; clear HM; intro b20 W HM)))
        | ((with_reducible refine s_ 21 ?_); go_must (refine wl_append (dst := some 21) (enc := encK) _ _ _ _ _ _ _ _ _ _ _ ([leafE x]) Try.underlying40 inf23 rfl (by decide) encK_len encK_one HM (.there .here) (RdL.of_blk (HM.blk m0) _ 1 rfl (by simp [kc_toList]) (by decide)) rfl rfl (by decide) (by simp; omega) ?_; clear HM; intro v21 W HM; try dsimp only at HM))
        | (go_at_call 93; go_must (((with_reducible refine (rleaf_c x hxE _).mono ?_)); rintro e W ⟨rfl, HM'⟩; replace HM := HM.keep HM'.below; clear HM')))
      rw [flat_snoc', ← List.length_append, leaves_snoc l i x hx] at HM
      go_roundw
      case rel => exact ⟨i + 1, by omega, by go_num, HM.tail⟩
      case measure => simp [intOf]; omega
    · have hi2 : (endL l).length ≤ i := by omega
      have hb : ¬ (i : Int) < ((endL l).length : Int) := by omega
      go_wp2_with (first
        | ((with_reducible refine s_ 10 ?_); go_must ((refine wl_len (dst := some 10) _ _ _ _ 79 Try.underlying77 rfl (rd_row HM m1 rfl (by decide) encE_len) ?_))))
      refine ret1 rfl (res_tmp rfl) rfl ?_
      rw [List.take_of_length_le hi2] at HM
      exact ⟨_, rfl, HM.only m0⟩
def untilL (l : List Ent) (u : Int) : Int := match l.find? (fun x => x.1 == u) with
  | some x => x.2
  | none => -1
def UnInv (l : List Ent) (u : Int) (i : Nat) : Prop := untilL l u = untilL (l.drop i) u
theorem UnInv.start (l : List Ent) (u : Int) : UnInv l u 0 := by simp [UnInv]
theorem UnInv.no {l : List Ent} {u : Int} {i : Nat} {x : Ent} (h : UnInv l u i) (hx : l[i]? = some x) (hn : x.1 ≠ u) : UnInv l u (i + 1) := by
  have hi : i < l.length := (List.getElem?_eq_some_iff.1 hx).1
  have he : l[i] = x := (List.getElem?_eq_some_iff.1 hx).2
  rw [UnInv, h, List.drop_eq_getElem_cons hi, he, untilL, List.find?_cons_of_neg (by simpa using hn)]; rfl
theorem UnInv.yes {l : List Ent} {u : Int} {i : Nat} {x : Ent} (h : UnInv l u i) (hx : l[i]? = some x) (hn : x.1 = u) : untilL l u = x.2 := by
  have hi : i < l.length := (List.getElem?_eq_some_iff.1 hx).1
  have he : l[i] = x := (List.getElem?_eq_some_iff.1 hx).2
  rw [h, List.drop_eq_getElem_cons hi, he, untilL, List.find?_cons_of_pos (by simpa using hn)]
theorem UnInv.done {l : List Ent} {u : Int} {i : Nat} (h : UnInv l u i) (hi : l.length ≤ i) : untilL l u = -1 := by
  rw [h, List.drop_of_length_le hi]; rfl
set_option maxHeartbeats 800000 in
theorem rUntil_c (v : Value) (l : List Ent) (u : Int) (w : World) (hR : RdL encE 2 w v l) (hl : l.length ≤ 140737488351232) :
    Calls Try.prog 88 #[v, .int .i64 u] w fun e w' => e = .returned (.int .i64 (untilL l u)) ∧ Mem w w' [] := by
  have HM := Mem.start w
  go_enter Try.func88, Try.ntmps88
  go_wp2_with (fail)
  go_loopw [5] (fun c wr => ∃ i : Nat, i ≤ l.length ∧ c = .int .i64 i ∧ UnInv l u i ∧ Mem w wr [])
    (fun c _ => l.length - (intOf c).toNat)
  case atStart => exact ⟨0, by omega, rfl, UnInv.start l u, HM⟩
  case round =>
    clear HM
    obtain ⟨i, hi, rfl, hU, HM⟩ := hrel
    by_cases hlt : i < l.length
    · have hb : (i : Int) < (l.length : Int) := by omega
      obtain ⟨x, hx⟩ : ∃ x, l[i]? = some x := ⟨_, List.getElem?_eq_getElem hlt⟩
      by_cases hq : x.1 = u
      · have hq1 : (x.1 == u) = true := by simpa using hq
        go_wp2_with (first
          | ((with_reducible refine s_ 8 ?_); go_must ((refine wl_len (dst := some 8) _ _ _ _ 79 Try.underlying77 rfl (hR.mem HM) ?_)))
          | ((with_reducible refine s_ 14 ?_); go_must ((refine wl_index (dst := some 14) _ 79 _ _ _ _ _ _ _ encE_len Try.underlying77 sz79 rfl rfl (hR.mem HM) (by omega) (by first | assumption | simp [*]) ?_); intro p14 hp14; obtain ⟨bb14, oo14, hpe14, -⟩ := id hp14; subst hpe14))
          | ((with_reducible refine s_ 16 ?_); go_must (refine wl_load_at1 (dst := some 16) _ _ _ _ _ rfl (At.e0 hp14) Try.underlying3 rfl ?_))
          | ((with_reducible refine s_ 21 ?_); go_must ((refine wl_index (dst := some 21) _ 79 _ _ _ _ _ _ _ encE_len Try.underlying77 sz79 rfl rfl (hR.mem HM) (by omega) (by first | assumption | simp [*]) ?_); intro p21 hp21; obtain ⟨bb21, oo21, hpe21, -⟩ := id hp21; subst hpe21))
          | ((with_reducible refine s_ 23 ?_); go_must (refine wl_load_at1 (dst := some 23) _ _ _ _ _ rfl (At.e1 hp21) Try.underlying3 rfl ?_)))
        refine ret1 rfl (res_tmp rfl) rfl ?_
        exact ⟨by rw [hU.yes hx hq]; rfl, HM⟩
      · have hq1 : (x.1 == u) = false := by simpa using hq
        go_wp2_with (first
          | ((with_reducible refine s_ 8 ?_); go_must ((refine wl_len (dst := some 8) _ _ _ _ 79 Try.underlying77 rfl (hR.mem HM) ?_)))
          | ((with_reducible refine s_ 14 ?_); go_must ((refine wl_index (dst := some 14) _ 79 _ _ _ _ _ _ _ encE_len Try.underlying77 sz79 rfl rfl (hR.mem HM) (by omega) (by first | assumption | simp [*]) ?_); intro p14 hp14; obtain ⟨bb14, oo14, hpe14, -⟩ := id hp14; subst hpe14))
          | ((with_reducible refine s_ 16 ?_); go_must (refine wl_load_at1 (dst := some 16) _ _ _ _ _ rfl (At.e0 hp14) Try.underlying3 rfl ?_)))
        go_roundw
        case rel => exact ⟨i + 1, by omega, by go_num, hU.no hx hq, HM⟩
        case measure => simp [intOf]; omega
    · have hb : ¬ (i : Int) < (l.length : Int) := by omega
      go_wp2_with (first
        | ((with_reducible refine s_ 8 ?_); go_must ((refine wl_len (dst := some 8) _ _ _ _ 79 Try.underlying77 rfl (hR.mem HM) ?_))))
      refine ret1 rfl (res_tmp rfl) rfl ?_
      exact ⟨by rw [hU.done (by omega)]; rfl, HM⟩
end
section
set_option linter.unusedVariables false
set_option linter.unusedSimpArgs false
set_option maxRecDepth 8000
open Go.RowKit
def posE (all : List Ent) (u : Int) : Nat := (all.takeWhile (fun x => decide (x.1 < u))).length
def onB (all : List Ent) (u : Int) : Bool := match all[posE all u]? with
  | some x => decide (x.1 = u)
  | none => false
structure BsAt (all : List Ent) (u : Int) (i j : Nat) : Prop where
  le : i ≤ j
  len : j ≤ all.length
  lo : ∀ k x, k < i → all[k]? = some x → x.1 < u
  hi : ∀ k x, j ≤ k → all[k]? = some x → u ≤ x.1
theorem pos_of : ∀ (all : List Ent) (u : Int) (i : Nat), i ≤ all.length → (∀ k x, k < i → all[k]? = some x → x.1 < u) → (∀ k x, i ≤ k → all[k]? = some x → u ≤ x.1) → posE all u = i := by
  intro all
  induction all with
  | nil => intro u i h _ _; simp at h; subst h; rfl
  | cons y r ih =>
    intro u i h hlo hhi
    cases i with
    | zero =>
      have := hhi 0 y (Nat.le_refl _) rfl
      rw [posE, List.takeWhile_cons_of_neg (by simp; omega)]; rfl
    | succ i =>
      have h1 := hlo 0 y (by omega) rfl
      rw [posE, List.takeWhile_cons_of_pos (by simpa using h1), List.length_cons]
      have := ih u i (by simpa using h) (fun k x hk hx => hlo (k + 1) x (by omega) (by simpa using hx)) (fun k x hk hx => hhi (k + 1) x (by omega) (by simpa using hx))
      rw [posE] at this
      rw [this]
theorem BsAt.pos {all : List Ent} {u : Int} {i : Nat} (h : BsAt all u i i) : posE all u = i := pos_of all u i h.len h.lo h.hi
def Asc (all : List Ent) : Prop := ∀ (i j : Nat) (x y : Ent), i < j → all[i]? = some x → all[j]? = some y → x.1 < y.1
theorem Asc.start (all : List Ent) (u : Int) : BsAt all u 0 all.length := ⟨by omega, by omega, fun k x hk => by omega, fun k x hk hx => by have := (List.getElem?_eq_some_iff.1 hx).1; omega⟩
theorem BsAt.up {all : List Ent} {u : Int} {i j h : Nat} {x : Ent} (hA : Asc all) (hb : BsAt all u i j) (hh : i ≤ h ∧ h < j) (hx : all[h]? = some x) (hlt : x.1 < u) : BsAt all u (h + 1) j :=
  ⟨by omega, hb.len, fun k y hk hy => by
    rcases Nat.lt_or_ge k h with h1 | h1
    · have := hA k h y x h1 hy hx; omega
    · obtain rfl : k = h := by omega
      rw [hx] at hy; injection hy with hy; subst hy; exact hlt, hb.hi⟩
theorem BsAt.down {all : List Ent} {u : Int} {i j h : Nat} {x : Ent} (hA : Asc all) (hb : BsAt all u i j) (hh : i ≤ h ∧ h < j) (hx : all[h]? = some x) (hge : ¬ x.1 < u) : BsAt all u i h :=
  ⟨by omega, by have := hb.len; omega, hb.lo, fun k y hk hy => by
    rcases Nat.lt_or_ge h k with h1 | h1
    · have := hA h k x y h1 hx hy; omega
    · obtain rfl : k = h := by omega
      rw [hx] at hy; injection hy with hy; subst hy; omega⟩
set_option maxHeartbeats 400000 in
theorem find1_c (x : Ent) (u : Int) (w : World) (h1 : -1 ≤ x.1) (h2 : x.1 ≤ 64) (h3 : 0 ≤ u) (h4 : u ≤ 64) :
    Calls Try.prog 137 #[.agg #[.int .i64 x.1, .int .i64 x.2], .int .i64 u] w fun e w' => e = .returned (.int .i64 (x.1 - u)) ∧ Mem w w' [] := by
  have HM := Mem.start w
  have hw : IntKind.i64.wrap (x.1 - u) = x.1 - u := by rw [IntKind.wrap_i64]; omega
  go_enter Try.func137, Try.ntmps137
  go_wp2_with (first
    | ((with_reducible refine s_ 2 ?_); go_must (refine wl_box (dst := some 2) (cs := #[.int .i64 x.1, .int .i64 x.2]) _ _ _ rfl rfl HM ?_; clear HM; intro b2 W HM))
    | ((with_reducible refine ld_ 3 ?_); go_must (refine wl_load_cell _ _ _ _ _ _ _ _ rfl HM (by repeat first | exact List.mem_cons_self .. | refine List.mem_cons_of_mem _ ?_) (by rfl) Try.underlying3 rfl ?_)))
  refine ret1 rfl (res_tmp rfl) rfl ?_
  exact ⟨rfl, HM.base⟩
set_option maxHeartbeats 1600000 in
theorem bsearch_c (v : Value) (all : List Ent) (u : Int) (w : World) (hR : RdL encE 2 w v all) (hA : Asc all) (hl : all.length ≤ 1000) (hE : ∀ x ∈ all, entB x = true) (h3 : 0 ≤ u) (h4 : u ≤ 64) :
    Calls Try.prog 136 #[v, .int .i64 u, .func (.func 137) #[] #[]] w fun e w' => e = .returned (.tuple #[.int .i64 (posE all u : Nat), .bool (onB all u)]) ∧ Mem w w' [] := by
  have HM := Mem.start w
  go_enter Try.func136, Try.ntmps136
  go_wp2_with (first
    | ((with_reducible refine s_ 13 ?_); go_must ((refine wl_len (dst := some 13) _ _ _ _ 79 Try.underlying77 rfl (hR.mem HM) ?_))))
  go_loopw [9, 10] (fun c d wr => ∃ i j : Nat, BsAt all u i j ∧ c = .int .i64 i ∧ d = .int .i64 j ∧ Mem w wr [])
    (fun c d _ => (intOf d).toNat - (intOf c).toNat)
  case atStart => exact ⟨0, all.length, Asc.start all u, rfl, rfl, HM⟩
  case round =>
    clear HM
    obtain ⟨i, j, hB, rfl, rfl, HM⟩ := hrel
    have hj1 := hB.len
    have hj2 := hB.le
    by_cases hlt : i < j
    · have hb : (i : Int) < (j : Int) := by omega
      obtain ⟨h, hh⟩ : ∃ h : Nat, h = (i + j) / 2 := ⟨_, rfl⟩
      have he : ((i : Int) + (j : Int)) / 2 = (h : Int) := by omega
      have hh1 : i ≤ h ∧ h < j := by omega
      clear hh
      obtain ⟨x, hx⟩ : ∃ x, all[h]? = some x := ⟨_, List.getElem?_eq_getElem (by omega)⟩
      obtain ⟨hx1, hx2, _, _⟩ := of_decide_eq_true (hE x (List.mem_of_getElem? hx))
      have hh2 : (h : Int) < (all.length : Int) := by omega
      have hh3 : (h : Int) ≤ 1000 := by omega
      by_cases hq : x.1 < u
      · have hq1 : x.1 - u < 0 := by omega
        have hq2 : decide (x.1 - u < 0) = true := by simpa using hq1
        go_wp2_with (first
          | ((with_reducible refine s_ 27 ?_); go_must ((refine wl_index (dst := some 27) _ 79 _ _ _ _ _ _ _ encE_len Try.underlying77 sz79 rfl rfl (hR.mem HM) (by omega) (by first | assumption | simp [*]) ?_); intro p27 hp27; obtain ⟨bb27, oo27, hpe27, -⟩ := id hp27; subst hpe27))
          | ((with_reducible refine s_ 28 ?_); go_must (refine wl_load_ent (dst := some 28) _ _ _ _ rfl hp27 Try.underlying79 rfl sz79 ?_))
          | (go_at_call 137; go_must (((with_reducible refine (find1_c x u _ hx1 hx2 h3 h4).mono ?_)); rintro e W ⟨rfl, HM'⟩; replace HM := HM.keep HM'.below; clear HM')))
        go_roundw
        case rel => exact ⟨h + 1, j, hB.up hA hh1 hx (by omega), by go_num, rfl, HM⟩
        case measure => simp [intOf]; omega
      · have hq1 : ¬ x.1 - u < 0 := by omega
        have hq2 : decide (x.1 - u < 0) = false := by simpa using hq1
        go_wp2_with (first
          | ((with_reducible refine s_ 27 ?_); go_must ((refine wl_index (dst := some 27) _ 79 _ _ _ _ _ _ _ encE_len Try.underlying77 sz79 rfl rfl (hR.mem HM) (by omega) (by first | assumption | simp [*]) ?_); intro p27 hp27; obtain ⟨bb27, oo27, hpe27, -⟩ := id hp27; subst hpe27))
          | ((with_reducible refine s_ 28 ?_); go_must (refine wl_load_ent (dst := some 28) _ _ _ _ rfl hp27 Try.underlying79 rfl sz79 ?_))
          | (go_at_call 137; go_must (((with_reducible refine (find1_c x u _ hx1 hx2 h3 h4).mono ?_)); rintro e W ⟨rfl, HM'⟩; replace HM := HM.keep HM'.below; clear HM')))
        go_roundw
        case rel => exact ⟨i, h, hB.down hA hh1 hx (by omega), rfl, rfl, HM⟩
        case measure => simp [intOf]; omega
    · have hb : ¬ (i : Int) < (j : Int) := by omega
      obtain rfl : i = j := by omega
      by_cases hn : i < all.length
      · have hb2 : (i : Int) < (all.length : Int) := by omega
        obtain ⟨x, hx⟩ : ∃ x, all[i]? = some x := ⟨_, List.getElem?_eq_getElem hn⟩
        obtain ⟨hx1, hx2, _, _⟩ := of_decide_eq_true (hE x (List.mem_of_getElem? hx))
        have ho : onB all u = decide (x.1 = u) := by rw [onB, hB.pos, hx]
        by_cases hq : x.1 = u
        · have hq1 : (x.1 - u == 0) = true := by rw [beq_iff_eq]; omega
          rw [decide_eq_true hq] at ho
          clear hq
          go_wp2_with (first
            | ((with_reducible refine gd_ _ ?_); refine wl_guard (by rfl) ?_)
            | ((with_reducible refine s_ 43 ?_); go_must ((refine wl_index (dst := some 43) _ 79 _ _ _ _ _ _ _ encE_len Try.underlying77 sz79 rfl rfl (hR.mem HM) (by omega) (by first | assumption | simp [*]) ?_); intro p43 hp43; obtain ⟨bb43, oo43, hpe43, -⟩ := id hp43; subst hpe43))
            | ((with_reducible refine s_ 44 ?_); go_must (refine wl_load_ent (dst := some 44) _ _ _ _ rfl hp43 Try.underlying79 rfl sz79 ?_))
            | (go_at_call 137; go_must (((with_reducible refine (find1_c x u _ hx1 hx2 h3 h4).mono ?_)); rintro e W ⟨rfl, HM'⟩; replace HM := HM.keep HM'.below; clear HM')))
          refine ret2 rfl (res_tmp rfl) (res_tmp rfl) rfl ?_
          exact ⟨by rw [hB.pos]; first | (rw [ho]; rfl) | rfl, HM⟩
        · have hq1 : (x.1 - u == 0) = false := by rw [beq_eq_false_iff_ne]; omega
          rw [decide_eq_false hq] at ho
          clear hq
          go_wp2_with (first
            | ((with_reducible refine gd_ _ ?_); refine wl_guard (by rfl) ?_)
            | ((with_reducible refine s_ 43 ?_); go_must ((refine wl_index (dst := some 43) _ 79 _ _ _ _ _ _ _ encE_len Try.underlying77 sz79 rfl rfl (hR.mem HM) (by omega) (by first | assumption | simp [*]) ?_); intro p43 hp43; obtain ⟨bb43, oo43, hpe43, -⟩ := id hp43; subst hpe43))
            | ((with_reducible refine s_ 44 ?_); go_must (refine wl_load_ent (dst := some 44) _ _ _ _ rfl hp43 Try.underlying79 rfl sz79 ?_))
            | (go_at_call 137; go_must (((with_reducible refine (find1_c x u _ hx1 hx2 h3 h4).mono ?_)); rintro e W ⟨rfl, HM'⟩; replace HM := HM.keep HM'.below; clear HM')))
          refine ret2 rfl (res_tmp rfl) (res_tmp rfl) rfl ?_
          exact ⟨by rw [hB.pos]; first | (rw [ho]; rfl) | rfl, HM⟩
      · have hb2 : ¬ (i : Int) < (all.length : Int) := by omega
        have ho : onB all u = false := by rw [onB, hB.pos, List.getElem?_eq_none (by omega)]
        go_wp2_with (fail)
        refine ret2 rfl (res_tmp rfl) (res_tmp rfl) rfl ?_
        exact ⟨by rw [hB.pos]; first | (rw [ho]; rfl) | rfl, HM⟩
end
section
set_option linter.unusedVariables false
set_option linter.unusedSimpArgs false
set_option maxRecDepth 8000
open Go.RowKit
theorem pos_lo : ∀ (all : List Ent) (u : Int) (k : Nat) (x : Ent), k < posE all u → all[k]? = some x → x.1 < u := by
  intro all
  induction all with
  | nil => intro u k x _ hx; simp at hx
  | cons y r ih =>
    intro u k x hk hx
    by_cases hy : y.1 < u
    · rw [posE, List.takeWhile_cons_of_pos (by simpa using hy), List.length_cons] at hk
      cases k with
      | zero => simp at hx; subst hx; exact hy
      | succ k => exact ih u k x (by rw [posE]; omega) (by simpa using hx)
    · rw [posE, List.takeWhile_cons_of_neg (by simpa using hy)] at hk; simp at hk
theorem pos_at : ∀ (all : List Ent) (u : Int) (x : Ent), all[posE all u]? = some x → u ≤ x.1 := by
  intro all
  induction all with
  | nil => intro u x hx; simp at hx
  | cons y r ih =>
    intro u x hx
    by_cases hy : y.1 < u
    · rw [posE, List.takeWhile_cons_of_pos (by simpa using hy), List.length_cons, List.getElem?_cons_succ] at hx
      exact ih u x hx
    · rw [posE, List.takeWhile_cons_of_neg (by simpa using hy)] at hx
      simp at hx; subst hx; omega
theorem valid_pair : ∀ (l : List Ent) (p : Int), validFrom p l = true → l.Pairwise (fun x y => x.1 < y.1) ∧ ∀ x ∈ l, p < x.1 := by
  intro l
  induction l with
  | nil => intro p _; exact ⟨List.Pairwise.nil, fun x hx => by cases hx⟩
  | cons y r ih =>
    intro p h
    rw [validFrom, Bool.and_eq_true] at h
    obtain ⟨_, _, _, _, he⟩ := of_decide_eq_true h.1
    obtain ⟨i1, i2⟩ := ih y.1 h.2
    refine ⟨List.pairwise_cons.2 ⟨i2, i1⟩, fun x hx => ?_⟩
    rcases List.mem_cons.1 hx with rfl | hx
    · exact he
    · have := i2 x hx; omega
theorem endL_asc (l : List Ent) (h : validB l = true) : Asc (endL l) := by
  obtain ⟨h1, h2⟩ := valid_pair l (-1) h
  have h3 := (valid_from l (-1) (by omega) (by omega) h).2
  have hp : (endL l).Pairwise (fun x y => x.1 < y.1) := by
    refine List.pairwise_cons.2 ⟨fun x hx => ?_, List.pairwise_append.2 ⟨h1, by simp, fun x hx y hy => ?_⟩⟩
    · rcases List.mem_append.1 hx with hx | hx
      · have := (h3 x hx).1; simpa using this
      · simp at hx; subst hx; decide
    · simp at hy; subst hy; exact (h3 x hx).2.1
  intro i j x y hij hx hy
  have hi := (List.getElem?_eq_some_iff.1 hx)
  have hj := (List.getElem?_eq_some_iff.1 hy)
  have := List.pairwise_iff_getElem.1 hp i j hi.1 hj.1 hij
  rwa [hi.2, hj.2] at this
theorem pos_facts (l : List Ent) (u : Int) (h0 : 0 ≤ u) (h1 : u < 64) : 1 ≤ posE (endL l) u ∧ posE (endL l) u < (endL l).length := by
  constructor
  · rcases Nat.eq_zero_or_pos (posE (endL l) u) with h | h
    · have := pos_at (endL l) u (-1, 0) (by rw [h]; rfl)
      simp at this; omega
    · exact h
  · rw [endL_len]
    rcases Nat.lt_or_ge (posE (endL l) u) (l.length + 2) with h | h
    · exact h
    · have := pos_lo (endL l) u (l.length + 1) (64, 0) (by omega) (by simp [endL])
      simp at this; omega
theorem endL_succ (l : List Ent) (i : Nat) (x : Ent) (hx : l[i]? = some x) : (endL l)[i + 1]? = some x := by
  have := (List.getElem?_eq_some_iff.1 hx).1
  rw [endL, List.getElem?_cons_succ, List.getElem?_append_left this]; exact hx
theorem on_at (l : List Ent) (u : Int) (i : Nat) (x : Ent) (h : validB l = true) (hx : l[i]? = some x) (he : x.1 = u) : posE (endL l) u = i + 1 ∧ onB (endL l) u = true := by
  have hA := endL_asc l h
  have hx2 := endL_succ l i x hx
  have hil := (List.getElem?_eq_some_iff.1 hx2).1
  have hp : posE (endL l) u = i + 1 := pos_of (endL l) u (i + 1) (by omega) (fun k y hk hy => by have := hA k (i + 1) y x hk hy hx2; omega)
    (fun k y hk hy => by
      rcases Nat.lt_or_ge (i + 1) k with h1 | h1
      · have := hA (i + 1) k x y h1 hx2 hy; omega
      · obtain rfl : k = i + 1 := by omega
        rw [hx2] at hy; injection hy with hy; subst hy; omega)
  exact ⟨hp, by rw [onB, hp, hx2]; simpa using he⟩
theorem on_none (l : List Ent) (u : Int) (h0 : 0 ≤ u) (h1 : u < 64) (hn : ∀ (i : Nat) (x : Ent), l[i]? = some x → x.1 ≠ u) : onB (endL l) u = false := by
  obtain ⟨p1, p2⟩ := pos_facts l u h0 h1
  obtain ⟨x, hx⟩ : ∃ x, (endL l)[posE (endL l) u]? = some x := ⟨_, List.getElem?_eq_getElem p2⟩
  rw [onB, hx]
  simp only [decide_eq_false_iff_not]
  intro he
  obtain ⟨k, hk⟩ : ∃ k, posE (endL l) u = k + 1 := ⟨posE (endL l) u - 1, by omega⟩
  rw [hk, endL, List.getElem?_cons_succ] at hx
  rcases Nat.lt_or_ge k l.length with h | h
  · rw [List.getElem?_append_left h] at hx
    exact hn k x hx he
  · rw [List.getElem?_append_right h] at hx
    cases hq : k - l.length with
    | zero => rw [hq] at hx; simp at hx; subst hx; simp at he; omega
    | succ m => rw [hq] at hx; simp at hx
def fdE (l : List Ent) (u : Int) : Int := if validB l = true then (if 0 ≤ u ∧ u < 64 then 0 else 2) else 90
theorem fdE_no (l : List Ent) (u : Int) (h : validB l = false) : fdE l u = 90 := by rw [fdE, if_neg (by rw [h]; decide)]
theorem fdE_arg (l : List Ent) (u : Int) (h : validB l = true) (h2 : ¬ (0 ≤ u ∧ u < 64)) : fdE l u = 2 := by rw [fdE, if_pos h, if_neg h2]
theorem fdE_ok (l : List Ent) (u : Int) (h : validB l = true) (h2 : 0 ≤ u ∧ u < 64) : fdE l u = 0 := by rw [fdE, if_pos h, if_pos h2]
set_option maxHeartbeats 800000 in
theorem find_bad (v : Value) (l : List Ent) (u : Int) (w : World) (hR : RdL encE 2 w v l) (hl : l.length ≤ 140737488351232) (hb : ¬ (validB l = true ∧ 0 ≤ u ∧ u < 64)) :
    Calls Try.prog 85 #[v, .int .i64 u] w fun e w' => e = .returned (.tuple #[.slice none 0 0, .slice none 0 0, .int .i64 0, .bool false, .int .i64 (fdE l u)]) ∧ Mem w w' [] := by
  have HM := Mem.start w
  cases hv : validB l with
  | false =>
    rw [fdE_no l u hv]
    have hc : (ckE l == 0) = false := by rw [ckE_no l hv]; rfl
    have hc2 := ckE_no l hv
    go_enter Try.func85, Try.ntmps85
    go_wp2_with (first
      | (go_at_call 44; go_must (((with_reducible refine (CheckList_c _ l _ (hR.mem HM) hl).mono ?_)); rintro e W ⟨rfl, HM'⟩; replace HM := HM.keep HM'.below; clear HM')))
    refine ret5 rfl (res_tmp rfl) (res_tmp rfl) (res_tmp rfl) (res_tmp rfl) (res_tmp rfl) rfl ?_
    exact ⟨rfl, HM⟩
  | true =>
    have hc2 := ckE_ok l hv
    have hu : ¬ (0 ≤ u ∧ u < 64) := fun h => hb ⟨hv, h⟩
    rw [fdE_arg l u hv hu]
    by_cases hu0 : u < 0
    · clear hb hu
      go_enter Try.func85, Try.ntmps85
      go_wp2_with (first
        | (go_at_call 44; go_must (((with_reducible refine (CheckList_c _ l _ (hR.mem HM) hl).mono ?_)); rintro e W ⟨rfl, HM'⟩; replace HM := HM.keep HM'.below; clear HM')))
      refine ret5 rfl (res_tmp rfl) (res_tmp rfl) (res_tmp rfl) (res_tmp rfl) (res_tmp rfl) rfl ?_
      exact ⟨rfl, HM⟩
    · have hu1 : 64 ≤ u := by omega
      clear hb hu
      go_enter Try.func85, Try.ntmps85
      go_wp2_with (first
        | (go_at_call 44; go_must (((with_reducible refine (CheckList_c _ l _ (hR.mem HM) hl).mono ?_)); rintro e W ⟨rfl, HM'⟩; replace HM := HM.keep HM'.below; clear HM')))
      refine ret5 rfl (res_tmp rfl) (res_tmp rfl) (res_tmp rfl) (res_tmp rfl) (res_tmp rfl) rfl ?_
      exact ⟨rfl, HM⟩
set_option maxHeartbeats 800000 in
theorem find_ok (v : Value) (l : List Ent) (u : Int) (w : World) (hR : RdL encE 2 w v l) (hv : validB l = true) (h0 : 0 ≤ u) (h1 : u < 64) :
    Calls Try.prog 85 #[v, .int .i64 u] w fun e w' => ∃ u1 u2, e = .returned (.tuple #[u1, u2, .int .i64 (posE (endL l) u : Nat), .bool (onB (endL l) u), .int .i64 0]) ∧
      Mem w w' [.row u2 23 16 (leavesL l).length ((leavesL l).flatMap encK), .row u1 79 2 (endL l).length ((endL l).flatMap encE)] := by
  have HM := Mem.start w
  have hc2 := ckE_ok l hv
  have hl := valid_len l hv
  have hE := valid_ent l hv
  have hA := endL_asc l hv
  have hel : (endL l).length ≤ 1000 := by rw [endL_len]; omega
  have hu0 : ¬ u < 0 := by omega
  have hu1 : ¬ 64 ≤ u := by omega
  go_enter Try.func85, Try.ntmps85
  go_wp2_with (first
    | (go_at_call 44; go_must (((with_reducible refine (CheckList_c _ l _ (hR.mem HM) (by omega)).mono ?_)); rintro e W ⟨rfl, HM'⟩; replace HM := HM.keep HM'.below; clear HM'))
    | (go_at_call 104; go_must (((with_reducible refine (ended_c _ l _ (hR.mem HM) hl hE).mono ?_)); rintro e W ⟨u1, u2, rfl, HM'⟩; replace HM := HM.join HM'; clear HM'; simp only [List.cons_append, List.nil_append] at HM))
    | (go_at_call 136; go_must (((with_reducible refine (bsearch_c _ (endL l) u _ (rd_row HM m1 rfl (by decide) encE_len) hA hel (endL_ent l hE) (by omega) (by omega)).mono ?_)); rintro e W ⟨rfl, HM'⟩; replace HM := HM.keep HM'.below; clear HM')))
  refine ret5 rfl (res_tmp rfl) (res_tmp rfl) (res_tmp rfl) (res_tmp rfl) (res_tmp rfl) rfl ?_
  exact ⟨_, _, rfl, HM⟩
end
section
set_option linter.unusedVariables false
set_option linter.unusedSimpArgs false
set_option maxRecDepth 8000
open Go.RowKit
set_option maxHeartbeats 1600000 in
theorem rpath_c : ∀ (n : Nat) (l : List Key) (i : Nat) (v : Value) (w : World), l.length = n → 1 ≤ n → n ≤ 256 → i < n → RdL encK 16 w v l →
    Calls Try.prog 131 #[v, .int .i64 (i : Int)] w fun e w' => ∃ u, e = .returned u ∧ Mem w w' [.row u 23 16 (pathL l i).length ((pathL l i).flatMap encK)] := by
  intro n
  induction n using Nat.strongRecOn with
  | ind n ih =>
    intro l i v w hln h1 hn hi hR
    subst hln
    have HM := Mem.start w
    by_cases hone : l.length = 1
    · have hb : (l.length : Int) = 1 := by omega
      clear ih
      go_enter Try.func131, Try.ntmps131
      go_wp2_with (first
        | ((with_reducible refine s_ 7 ?_); go_must ((refine wl_len (dst := some 7) _ _ _ _ 23 Try.underlying40 rfl (hR.mem HM) ?_))))
      refine ret1 rfl (res_tmp rfl) rfl ?_
      rw [pathL_one l i (by omega)]
      exact ⟨_, rfl, HM.nilrow _ _⟩
    · have hb : ¬ (l.length : Int) = 1 := by omega
      have hs := splitN_lt l.length (by omega)
      have e : (((splitN l.length : Nat) : Int)).toNat = splitN l.length := Int.toNat_natCast _
      have hi1 : (0 : Int) ≤ ((splitN l.length : Nat) : Int) := by omega
      have hi2 : ((splitN l.length : Nat) : Int) ≤ (l.length : Int) := by omega
      by_cases hlo : i < splitN l.length
      · have hb2 : (i : Int) < ((splitN l.length : Nat) : Int) := by omega
        have hpl := pathL_len (splitN l.length) (l.take (splitN l.length)) i (by rw [List.length_take]; omega)
        have hpe := pathL_lo l i (by omega) hlo
        go_enter Try.func131, Try.ntmps131
        go_wp2_with (first
          | ((with_reducible refine s_ 7 ?_); go_must ((refine wl_len (dst := some 7) _ _ _ _ 23 Try.underlying40 rfl (hR.mem HM) ?_)))
          | ((with_reducible refine s_ 10 ?_); go_must ((refine wl_len (dst := some 10) _ _ _ _ 23 Try.underlying40 rfl (hR.mem HM) ?_)))
          | (go_at_call 127; go_must (((with_reducible refine (rsplit_c _ (by omega) (by omega) _).mono ?_)); rintro e W ⟨rfl, HM'⟩; replace HM := HM.keep HM'.below; clear HM')))
        replace HM := HM.drew
        refine wp_region_mixN (fun W => Held w W []) (fun W => Held w W []) (.cons (2, 0) (.cons (2, 1) (.cons (2, 2) (.cons (2, 3) (.cons (2, 5) (.cons (2, 6) (.cons (2, 7) (.cons (0, 4) (.cons (0, 8) (.cons (0, 9) (.cons (0, 10) (.cons (2, 11) .nil)))))))))))) [] (by kernel_rfl) (by kernel_rfl) (by kernel_rfl) (fun W h => Held.weak h (by simp)) (HM.held (by simp)) ?_
        revert HM; generalize World.drew _ = W; intro HM
        have HS1 : Held w W [] := HM.held (by simp)
        have HS2 : Held w W [] := HM.held (by simp)
        refine wm_q2 (i := 0) (some 15) rfl rfl rfl HS2 (fun W HS => by (go_simp; try with_reducible rfl)) ?_
        simp only [Act.put, List.getElem_toArray, List.getElem_cons_succ, List.getElem_cons_zero, List.setIfInBounds_toArray, List.set_cons_succ, List.set_cons_zero]
        refine wm_q2 (i := 1) (some 16) rfl rfl rfl HS2 (fun W HS => by (go_simp; try with_reducible rfl)) ?_
        simp only [Act.put, List.getElem_toArray, List.getElem_cons_succ, List.getElem_cons_zero, List.setIfInBounds_toArray, List.set_cons_succ, List.set_cons_zero]
        (refine wm_q2x (i := 2) (some 17) rfl rfl rfl HS2 (ry_slice_hi _ 23 _ _ _ _ _ _ encK_len Try.underlying40 sz23 (hR.mem HM) rfl rfl (by omega) (by omega)) ?_); intro v17 hv17
        simp only [Act.put, List.getElem_toArray, List.getElem_cons_succ, List.getElem_cons_zero, List.setIfInBounds_toArray, List.set_cons_succ, List.set_cons_zero]
        refine wm_q2 (i := 3) (some 18) rfl rfl rfl HS2 (fun W HS => by (go_simp; try with_reducible rfl)) ?_
        simp only [Act.put, List.getElem_toArray, List.getElem_cons_succ, List.getElem_cons_zero, List.setIfInBounds_toArray, List.set_cons_succ, List.set_cons_zero]
        refine wm_q2 (i := 5) (some 20) rfl rfl rfl HS2 (fun W HS => by (go_simp; try with_reducible rfl)) ?_
        simp only [Act.put, List.getElem_toArray, List.getElem_cons_succ, List.getElem_cons_zero, List.setIfInBounds_toArray, List.set_cons_succ, List.set_cons_zero]
        refine wm_q2 (i := 6) (some 21) rfl rfl rfl HS2 (fun W HS => by (go_simp; try with_reducible rfl)) ?_
        simp only [Act.put, List.getElem_toArray, List.getElem_cons_succ, List.getElem_cons_zero, List.setIfInBounds_toArray, List.set_cons_succ, List.set_cons_zero]
        (refine wm_q2x (i := 7) (some 22) rfl rfl rfl HS2 (ry_slice_lo _ 23 _ _ _ _ _ _ encK_len Try.underlying40 sz23 (hR.mem HM) rfl rfl (by omega) (by omega)) ?_); intro v22 hv22
        simp only [Act.put, List.getElem_toArray, List.getElem_cons_succ, List.getElem_cons_zero, List.setIfInBounds_toArray, List.set_cons_succ, List.set_cons_zero]
        refine wm_e0 (i := 4) rfl ?_
        go_wp2_with (first
          | (go_at_call 131; go_must (((with_reducible refine (ih (splitN l.length) (by omega) _ i _ _ (by rw [List.length_take]; omega) (by omega) (by omega) (by omega) (hv17 _ (hR.mem HM))).mono ?_)); rintro e W ⟨u19, rfl, HM'⟩; replace HM := HM.join HM'; clear HM'; simp only [List.cons_append, List.nil_append] at HM)))
        refine ⟨HM.held (by simp), ?_⟩
        clear HS1 HS2
        have HS1 : Held w W [] := HM.held (by simp)
        have HS2 : Held w W [] := HM.held (by simp)
        refine wm_e0 (i := 8) rfl ?_
        go_wp2_with (first
          | (go_at_call 62; go_must (((with_reducible refine (rrootOf_c (l.length - splitN l.length) _ _ _ (by rw [List.length_drop]; omega) (by omega) (hv22 _ (hR.mem HM))).mono ?_)); rintro e W ⟨rfl, HM'⟩; replace HM := HM.keep HM'.below; clear HM')))
        refine ⟨HM.held (by simp), ?_⟩
        clear HS1 HS2
        have HS1 : Held w W [] := HM.held (by simp)
        have HS2 : Held w W [] := HM.held (by simp)
        refine wm_e0 (i := 9) rfl ?_
        go_wp2_with (first
          | ((with_reducible refine s_ 24 ?_); go_must ((refine wl_slice1K (dst := some 24) _ _ _ _ _ Try.underlying40 Try.sizeOf23 Try.zeroValue23 kc_zero rfl HM ?_; clear HM; intro b24 W HM))))
        refine ⟨HM.held (by simp), ?_⟩
        clear HS1 HS2
        have HS1 : Held w W [] := HM.held (by simp)
        have HS2 : Held w W [] := HM.held (by simp)
        refine wm_e0 (i := 10) rfl ?_
        go_wp2_with (first
          | ((with_reducible refine s_ 25 ?_); go_must (refine wl_append (dst := some 25) (enc := encK) _ _ _ _ _ _ _ _ _ _ _ ([rootL (l.drop (splitN l.length))]) Try.underlying40 inf23 rfl (by decide) encK_len encK_one HM (.there .here) (RdL.of_blk (HM.blk m0) _ 1 rfl (by simp [kc_toList]) (by decide)) rfl rfl (by decide) (by simp; omega) ?_; clear HM; intro v25 W HM; try dsimp only at HM)))
        refine ⟨HM.held (by simp), ?_⟩
        clear HS1 HS2
        have HS1 : Held w W [] := HM.held (by simp)
        have HS2 : Held w W [] := HM.held (by simp)
        refine wm_q2 (i := 11) (some 4) rfl rfl rfl HS2 (fun W HS => by (go_simp; try with_reducible rfl)) ?_
        simp only [Act.put, List.getElem_toArray, List.getElem_cons_succ, List.getElem_cons_zero, List.setIfInBounds_toArray, List.set_cons_succ, List.set_cons_zero]
        refine wm_nilN ?_
        clear HS1 HS2
        go_wp2_with (fail)
        refine ret1 rfl (res_tmp rfl) rfl ?_
        rw [hpe, List.length_append, List.flatMap_append]
        exact ⟨_, rfl, HM.only m1⟩
      · have hb2 : ¬ (i : Int) < ((splitN l.length : Nat) : Int) := by omega
        have hpl := pathL_len (l.length - splitN l.length) (l.drop (splitN l.length)) (i - splitN l.length) (by rw [List.length_drop])
        have hpe := pathL_hi l i (by omega) hlo
        have hw : IntKind.i64.wrap ((i : Int) - ((splitN l.length : Nat) : Int)) = ((i - splitN l.length : Nat) : Int) := by rw [IntKind.wrap_i64]; omega
        go_enter Try.func131, Try.ntmps131
        go_wp2_with (first
          | ((with_reducible refine s_ 7 ?_); go_must ((refine wl_len (dst := some 7) _ _ _ _ 23 Try.underlying40 rfl (hR.mem HM) ?_)))
          | ((with_reducible refine s_ 10 ?_); go_must ((refine wl_len (dst := some 10) _ _ _ _ 23 Try.underlying40 rfl (hR.mem HM) ?_)))
          | (go_at_call 127; go_must (((with_reducible refine (rsplit_c _ (by omega) (by omega) _).mono ?_)); rintro e W ⟨rfl, HM'⟩; replace HM := HM.keep HM'.below; clear HM')))
        replace HM := HM.drew
        refine wp_region_mixN (fun W => Held w W []) (fun W => Held w W []) (.cons (2, 0) (.cons (2, 1) (.cons (2, 2) (.cons (2, 3) (.cons (2, 4) (.cons (2, 5) (.cons (2, 7) (.cons (2, 8) (.cons (2, 9) (.cons (0, 6) (.cons (0, 10) (.cons (0, 11) (.cons (0, 12) (.cons (2, 13) .nil)))))))))))))) [] (by kernel_rfl) (by kernel_rfl) (by kernel_rfl) (fun W h => Held.weak h (by simp)) (HM.held (by simp)) ?_
        revert HM; generalize World.drew _ = W; intro HM
        have HS1 : Held w W [] := HM.held (by simp)
        have HS2 : Held w W [] := HM.held (by simp)
        refine wm_q2 (i := 0) (some 26) rfl rfl rfl HS2 (fun W HS => by (go_simp; try with_reducible rfl)) ?_
        simp only [Act.put, List.getElem_toArray, List.getElem_cons_succ, List.getElem_cons_zero, List.setIfInBounds_toArray, List.set_cons_succ, List.set_cons_zero]
        refine wm_q2 (i := 1) (some 27) rfl rfl rfl HS2 (fun W HS => by (go_simp; try with_reducible rfl)) ?_
        simp only [Act.put, List.getElem_toArray, List.getElem_cons_succ, List.getElem_cons_zero, List.setIfInBounds_toArray, List.set_cons_succ, List.set_cons_zero]
        (refine wm_q2x (i := 2) (some 28) rfl rfl rfl HS2 (ry_slice_lo _ 23 _ _ _ _ _ _ encK_len Try.underlying40 sz23 (hR.mem HM) rfl rfl (by omega) (by omega)) ?_); intro v28 hv28
        simp only [Act.put, List.getElem_toArray, List.getElem_cons_succ, List.getElem_cons_zero, List.setIfInBounds_toArray, List.set_cons_succ, List.set_cons_zero]
        refine wm_q2 (i := 3) (some 29) rfl rfl rfl HS2 (fun W HS => by (go_simp; try with_reducible rfl)) ?_
        simp only [Act.put, List.getElem_toArray, List.getElem_cons_succ, List.getElem_cons_zero, List.setIfInBounds_toArray, List.set_cons_succ, List.set_cons_zero]
        refine wm_q2 (i := 4) (some 30) rfl rfl rfl HS2 (fun W HS => by (go_simp; try with_reducible rfl)) ?_
        simp only [Act.put, List.getElem_toArray, List.getElem_cons_succ, List.getElem_cons_zero, List.setIfInBounds_toArray, List.set_cons_succ, List.set_cons_zero]
        refine wm_q2 (i := 5) (some 31) rfl rfl rfl HS2 (fun W HS => by (go_simp; try with_reducible rfl)) ?_
        simp only [Act.put, List.getElem_toArray, List.getElem_cons_succ, List.getElem_cons_zero, List.setIfInBounds_toArray, List.set_cons_succ, List.set_cons_zero]
        refine wm_q2 (i := 7) (some 33) rfl rfl rfl HS2 (fun W HS => by (go_simp; try with_reducible rfl)) ?_
        simp only [Act.put, List.getElem_toArray, List.getElem_cons_succ, List.getElem_cons_zero, List.setIfInBounds_toArray, List.set_cons_succ, List.set_cons_zero]
        refine wm_q2 (i := 8) (some 34) rfl rfl rfl HS2 (fun W HS => by (go_simp; try with_reducible rfl)) ?_
        simp only [Act.put, List.getElem_toArray, List.getElem_cons_succ, List.getElem_cons_zero, List.setIfInBounds_toArray, List.set_cons_succ, List.set_cons_zero]
        (refine wm_q2x (i := 9) (some 35) rfl rfl rfl HS2 (ry_slice_hi _ 23 _ _ _ _ _ _ encK_len Try.underlying40 sz23 (hR.mem HM) rfl rfl (by omega) (by omega)) ?_); intro v35 hv35
        simp only [Act.put, List.getElem_toArray, List.getElem_cons_succ, List.getElem_cons_zero, List.setIfInBounds_toArray, List.set_cons_succ, List.set_cons_zero]
        refine wm_e0 (i := 6) rfl ?_
        go_wp2_with (first
          | (go_at_call 131; go_must (((with_reducible refine (ih (l.length - splitN l.length) (by omega) _ (i - splitN l.length) _ _ (by rw [List.length_drop]; omega) (by omega) (by omega) (by omega) (hv28 _ (hR.mem HM))).mono ?_)); rintro e W ⟨u32, rfl, HM'⟩; replace HM := HM.join HM'; clear HM'; simp only [List.cons_append, List.nil_append] at HM)))
        refine ⟨HM.held (by simp), ?_⟩
        clear HS1 HS2
        have HS1 : Held w W [] := HM.held (by simp)
        have HS2 : Held w W [] := HM.held (by simp)
        refine wm_e0 (i := 10) rfl ?_
        go_wp2_with (first
          | (go_at_call 62; go_must (((with_reducible refine (rrootOf_c (splitN l.length) _ _ _ (by rw [List.length_take]; omega) (by omega) (hv35 _ (hR.mem HM))).mono ?_)); rintro e W ⟨rfl, HM'⟩; replace HM := HM.keep HM'.below; clear HM')))
        refine ⟨HM.held (by simp), ?_⟩
        clear HS1 HS2
        have HS1 : Held w W [] := HM.held (by simp)
        have HS2 : Held w W [] := HM.held (by simp)
        refine wm_e0 (i := 11) rfl ?_
        go_wp2_with (first
          | ((with_reducible refine s_ 37 ?_); go_must ((refine wl_slice1K (dst := some 37) _ _ _ _ _ Try.underlying40 Try.sizeOf23 Try.zeroValue23 kc_zero rfl HM ?_; clear HM; intro b37 W HM))))
        refine ⟨HM.held (by simp), ?_⟩
        clear HS1 HS2
        have HS1 : Held w W [] := HM.held (by simp)
        have HS2 : Held w W [] := HM.held (by simp)
        refine wm_e0 (i := 12) rfl ?_
        go_wp2_with (first
          | ((with_reducible refine s_ 38 ?_); go_must (refine wl_append (dst := some 38) (enc := encK) _ _ _ _ _ _ _ _ _ _ _ ([rootL (l.take (splitN l.length))]) Try.underlying40 inf23 rfl (by decide) encK_len encK_one HM (.there .here) (RdL.of_blk (HM.blk m0) _ 1 rfl (by simp [kc_toList]) (by decide)) rfl rfl (by decide) (by simp; omega) ?_; clear HM; intro v38 W HM; try dsimp only at HM)))
        refine ⟨HM.held (by simp), ?_⟩
        clear HS1 HS2
        have HS1 : Held w W [] := HM.held (by simp)
        have HS2 : Held w W [] := HM.held (by simp)
        refine wm_q2 (i := 13) (some 4) rfl rfl rfl HS2 (fun W HS => by (go_simp; try with_reducible rfl)) ?_
        simp only [Act.put, List.getElem_toArray, List.getElem_cons_succ, List.getElem_cons_zero, List.setIfInBounds_toArray, List.set_cons_succ, List.set_cons_zero]
        refine wm_nilN ?_
        clear HS1 HS2
        go_wp2_with (fail)
        refine ret1 rfl (res_tmp rfl) rfl ?_
        rw [hpe, List.length_append, List.flatMap_append]
        exact ⟨_, rfl, HM.only m1⟩
end
section
set_option linter.unusedVariables false
set_option linter.unusedSimpArgs false
set_option maxRecDepth 8000
open Go.RowKit
section
attribute [local go_sem] keyEqI
set_option maxHeartbeats 400000 in
theorem sameKeys_c (v v' : Value) (l : List Key) (w : World) (hR : RdL encK 16 w v l) (hR' : RdL encK 16 w v' l) (hl : l.length ≤ 140737488351232) :
    Calls Try.prog 25 #[v, v'] w fun e w' => e = .returned (.bool true) ∧ Mem w w' [] := by
  have HM := Mem.start w
  go_enter Try.func25, Try.ntmps25
  go_wp2_with (first
    | ((with_reducible refine s_ 7 ?_); go_must ((refine wl_len (dst := some 7) _ _ _ _ 23 Try.underlying40 rfl (hR.mem HM) ?_)))
    | ((with_reducible refine s_ 9 ?_); go_must ((refine wl_len (dst := some 9) _ _ _ _ 23 Try.underlying40 rfl (hR'.mem HM) ?_))))
  go_loopw [5] (fun c wr => ∃ i : Nat, i ≤ l.length ∧ c = .int .i64 i ∧ Mem w wr [])
    (fun c _ => l.length - (intOf c).toNat)
  case atStart => exact ⟨0, by omega, rfl, HM⟩
  case round =>
    clear HM
    obtain ⟨i, hi, rfl, HM⟩ := hrel
    by_cases hlt : i < l.length
    · have hb : (i : Int) < (l.length : Int) := by omega
      have hx : l[i]? = some l[i] := List.getElem?_eq_getElem hlt
      go_wp2_with (first
        | ((with_reducible refine s_ 13 ?_); go_must ((refine wl_len (dst := some 13) _ _ _ _ 23 Try.underlying40 rfl (hR.mem HM) ?_))))
      replace HM := HM.drew
      refine wp_region_mixN (fun W => Held w W []) (fun W => Held w W []) (.cons (2, 0) (.cons (2, 1) (.cons (2, 2) (.cons (2, 3) (.cons (2, 4) (.cons (2, 5) (.cons (2, 6) (.cons (2, 7) (.cons (2, 8) .nil))))))))) [] (by kernel_rfl) (by kernel_rfl) (by kernel_rfl) (fun W h => Held.weak h (by simp)) (HM.held (by simp)) ?_
      revert HM; generalize World.drew _ = W; intro HM
      have HS1 : Held w W [] := HM.held (by simp)
      have HS2 : Held w W [] := HM.held (by simp)
      refine wm_q2 (i := 0) (some 17) rfl rfl rfl HS2 (fun W HS => by (go_simp; try with_reducible rfl)) ?_
      simp only [Act.put, List.getElem_toArray, List.getElem_cons_succ, List.getElem_cons_zero, List.setIfInBounds_toArray, List.set_cons_succ, List.set_cons_zero]
      refine wm_q2 (i := 1) (some 18) rfl rfl rfl HS2 (fun W HS => by (go_simp; try with_reducible rfl)) ?_
      simp only [Act.put, List.getElem_toArray, List.getElem_cons_succ, List.getElem_cons_zero, List.setIfInBounds_toArray, List.set_cons_succ, List.set_cons_zero]
      (refine wm_q2x (i := 2) (some 19) rfl rfl rfl HS2 (ry_index _ 23 _ _ _ _ _ _ _ (fun W => Held w W []) W encK_len Try.underlying40 sz23 HS2 (fun W HS => hR.held HS) rfl rfl (by omega) (by first | assumption | simp [*])) ?_); intro p19 hp19
      simp only [Act.put, List.getElem_toArray, List.getElem_cons_succ, List.getElem_cons_zero, List.setIfInBounds_toArray, List.set_cons_succ, List.set_cons_zero]
      refine wm_q2 (i := 3) (some 20) rfl rfl rfl HS2 (fun W HS => (by refine ry_load_key _ _ _ _ ?_ (hp19 W HS) Try.underlying23 sz23; rfl)) ?_
      simp only [Act.put, List.getElem_toArray, List.getElem_cons_succ, List.getElem_cons_zero, List.setIfInBounds_toArray, List.set_cons_succ, List.set_cons_zero]
      refine wm_q2 (i := 4) (some 21) rfl rfl rfl HS2 (fun W HS => by (go_simp; try with_reducible rfl)) ?_
      simp only [Act.put, List.getElem_toArray, List.getElem_cons_succ, List.getElem_cons_zero, List.setIfInBounds_toArray, List.set_cons_succ, List.set_cons_zero]
      refine wm_q2 (i := 5) (some 22) rfl rfl rfl HS2 (fun W HS => by (go_simp; try with_reducible rfl)) ?_
      simp only [Act.put, List.getElem_toArray, List.getElem_cons_succ, List.getElem_cons_zero, List.setIfInBounds_toArray, List.set_cons_succ, List.set_cons_zero]
      (refine wm_q2x (i := 6) (some 23) rfl rfl rfl HS2 (ry_index _ 23 _ _ _ _ _ _ _ (fun W => Held w W []) W encK_len Try.underlying40 sz23 HS2 (fun W HS => hR'.held HS) rfl rfl (by omega) (by first | assumption | simp [*])) ?_); intro p23 hp23
      simp only [Act.put, List.getElem_toArray, List.getElem_cons_succ, List.getElem_cons_zero, List.setIfInBounds_toArray, List.set_cons_succ, List.set_cons_zero]
      refine wm_q2 (i := 7) (some 24) rfl rfl rfl HS2 (fun W HS => (by refine ry_load_key _ _ _ _ ?_ (hp23 W HS) Try.underlying23 sz23; rfl)) ?_
      simp only [Act.put, List.getElem_toArray, List.getElem_cons_succ, List.getElem_cons_zero, List.setIfInBounds_toArray, List.set_cons_succ, List.set_cons_zero]
      refine wm_q2 (i := 8) (some 25) rfl rfl rfl HS2 (fun W HS => by (go_simp; try with_reducible rfl)) ?_
      simp only [Act.put, List.getElem_toArray, List.getElem_cons_succ, List.getElem_cons_zero, List.setIfInBounds_toArray, List.set_cons_succ, List.set_cons_zero]
      refine wm_nilN ?_
      clear HS1 HS2
      go_wp2_with (fail)
      go_roundw
      case rel => exact ⟨i + 1, by omega, by go_num, HM⟩
      case measure => simp [intOf]; omega
    · obtain rfl : i = l.length := by omega
      go_wp2_with (first
        | ((with_reducible refine s_ 13 ?_); go_must ((refine wl_len (dst := some 13) _ _ _ _ 23 Try.underlying40 rfl (hR.mem HM) ?_))))
      refine ret1 rfl (res_tmp rfl) rfl ?_
      exact ⟨rfl, HM⟩
end
end
section
set_option linter.unusedVariables false
set_option linter.unusedSimpArgs false
set_option maxRecDepth 8000
open Go.RowKit
theorem writeL_list (vs : List Value) : ∀ (cs : Array Value) (o : Nat), o + vs.length ≤ cs.size → (writeL cs o vs).toList = cs.toList.take o ++ vs ++ cs.toList.drop (o + vs.length) := by
  induction vs with
  | nil => intro cs o h; simp [writeL]
  | cons v vs ih =>
    intro cs o h
    simp only [List.length_cons] at h
    rw [writeL, ih _ _ (by simp; omega)]
    simp only [Array.toList_setIfInBounds, List.length_cons]
    have h1 : o < cs.toList.length := by simp; omega
    rw [List.take_set, List.take_succ_eq_append_getElem h1, List.set_append_right _ _ (by simp; omega), List.drop_set]
    have h2 : o - (List.take o cs.toList).length = 0 := by simp; omega
    rw [h2, if_pos (by omega), show o + 1 + vs.length = o + (vs.length + 1) by omega]
    simp
theorem flat_set (l : List Key) (i : Nat) (k : Key) (hi : i < l.length) : (l.set i k).flatMap encK = (l.flatMap encK).take (i * 16) ++ encK k ++ (l.flatMap encK).drop (i * 16 + 16) := by
  rw [List.set_eq_take_append_cons_drop, if_pos hi, List.flatMap_append, List.flatMap_cons, flatMap_take encK_len, flatMap_drop encK_len, show (i + 1) * 16 = i * 16 + 16 by omega, List.append_assoc]
section
variable {P : Program} {ops : Array Oper} {rest : List Oper} {a : Act} {Q : Exit → Act → World → Prop} {w0 W : World} {L : List It} {dst : Option Tmp} {tt : TypeId} {ps : String} {af : Array Edge}
theorem wl_store_rowK {f : It → List It} (ty : TypeId) (x y : Operand) (g i n cap : Nat) (e : TypeId) (l : List Key) (k : Key) (hx : a.eval x = .pointer (some ⟨g, i * 16, none⟩)) (hy : a.eval y = .agg (kc k)) (HM : Mem w0 W L)
    (hk : Spot (.row (.slice (some ⟨g, 0, none⟩) n cap) e 16 n (l.flatMap encK)) L f) (hi : (P.info? ty).map (·.size) = some 16) (ho : i < l.length)
    (h : ∀ W', Mem w0 W' (f (.row (.slice (some ⟨g, 0, none⟩) n cap) e 16 n ((l.set i k).flatMap encK))) → wpList P ops Q rest (a.put dst undef) W') : wpList P ops Q (Oper.mk dst (.store ty x y) tt ps af none :: rest) a W := by
  have hown := HM.row hk.mem
  obtain ⟨hlen, ho2⟩ := hown
  rcases ho2 with ⟨h0, _⟩ | ⟨g', cap', cur, hv, hb, hh, hc, hcm, hs, ht⟩
  · cases h0
  · injection hv with hv1 hv2 hv3
    injection hv1 with hv1
    injection hv1 with hv1
    subst hv1; subst hv3
    have hll : l.length = n := by rw [flatMap_length encK_len] at hlen; omega
    have hfit : i * 16 + 16 ≤ n * 16 := by omega
    have hcur : i * 16 + (encK k).length ≤ cur.size := by rw [encK_len, hs]; have := Nat.mul_le_mul_right 16 hc; omega
    refine wpList_store_mid rfl ty x y rfl g (i * 16) (kc k) hx hy (fun j hj => ⟨?_, ?_⟩) (by rw [kc_size]; exact hi) (kc_one k) (h _ ?_)
    · rw [kc_size] at hj
      rw [encK_len] at hcur
      rw [cell_of_row W g _ cur e _ hh]; simp; omega
    · exact frozen_of_row W g _ cur e hh
    · rw [kc_toList]
      obtain ⟨h2, h3⟩ := setCells_turn g e (encK k) (i * 16) W cur hh
      refine HM.turn (hk.repl _) h2 ⟨by rw [flatMap_length encK_len, List.length_set, hll], .inr ⟨g, cap, _, rfl, hb, h3, hc, hcm, by rw [writeL_size]; exact hs, ?_⟩⟩ (fun b hb => .inl hb)
      rw [writeL_list _ _ _ hcur, flat_set l i k ho, ← ht, encK_len]
      have hA : (cur.toList.take (i * 16)).length = i * 16 := by rw [List.length_take, Array.length_toList, hs]; have := Nat.mul_le_mul_right 16 hc; omega
      rw [List.take_append, List.take_of_length_le (l := cur.toList.take (i * 16) ++ encK k) (by rw [List.length_append, hA, encK_len]; omega), List.length_append, hA, encK_len, List.take_take, Nat.min_eq_left (by omega), List.drop_take]
end
end
section
set_option linter.unusedVariables false
set_option linter.unusedSimpArgs false
set_option maxRecDepth 8000
open Go.RowKit
def turnL (l : List Key) (i : Nat) : List Key := (List.range l.length).map fun k => if k < i ∨ l.length - 1 - k < i then l.getD (l.length - 1 - k) zeroKey else l.getD k zeroKey
theorem turnL_len (l : List Key) (i : Nat) : (turnL l i).length = l.length := by simp [turnL]
theorem turnL_at (l : List Key) (i k : Nat) (hk : k < l.length) : (turnL l i)[k]? = some (if k < i ∨ l.length - 1 - k < i then l.getD (l.length - 1 - k) zeroKey else l.getD k zeroKey) := by
  simp [turnL, hk]
theorem turnL_0 (l : List Key) : turnL l 0 = l := by
  apply List.ext_getElem?
  intro k
  by_cases hk : k < l.length
  · rw [turnL_at l 0 k hk]
    simp [hk]
  · rw [List.getElem?_eq_none (by rw [turnL_len]; omega), List.getElem?_eq_none (by omega)]
theorem turnL_end (l : List Key) (i : Nat) (h : l.length ≤ 2 * i + 1) : turnL l i = l.reverse := by
  apply List.ext_getElem?
  intro k
  by_cases hk : k < l.length
  · rw [turnL_at l i k hk, List.getElem?_reverse hk]
    have h1 : l.length - 1 - k < l.length := by omega
    by_cases hc : k < i ∨ l.length - 1 - k < i
    · rw [if_pos hc]; simp [h1]
    · have : l.length - 1 - k = k := by omega
      rw [if_neg hc, this]; simp [hk]
  · rw [List.getElem?_eq_none (by rw [turnL_len]; omega), List.getElem?_eq_none (by rw [List.length_reverse]; omega)]
theorem turnL_step (l : List Key) (i : Nat) (h : 2 * i + 1 < l.length) : ((turnL l i).set i (l.getD (l.length - 1 - i) zeroKey)).set (l.length - 1 - i) (l.getD i zeroKey) = turnL l (i + 1) := by
  apply List.ext_getElem?
  intro k
  by_cases hk : k < l.length
  · rw [turnL_at l (i + 1) k hk, List.getElem?_set, List.getElem?_set, turnL_at l i k hk]
    simp only [List.length_set, turnL_len]
    by_cases h1 : l.length - 1 - i = k
    · subst h1
      rw [if_pos rfl, if_pos (by omega), if_pos (.inr (by omega)), show l.length - 1 - (l.length - 1 - i) = i by omega]
    · rw [if_neg h1]
      by_cases h2 : i = k
      · subst h2
        rw [if_pos rfl, if_pos (by omega), if_pos (.inl (by omega))]
      · rw [if_neg h2]
        by_cases hc : k < i ∨ l.length - 1 - k < i
        · rw [if_pos hc, if_pos (by omega)]
        · rw [if_neg hc, if_neg (by omega)]
  · rw [List.getElem?_eq_none (by simp [turnL_len]; omega), List.getElem?_eq_none (by rw [turnL_len]; omega)]
theorem turnL_lo (l : List Key) (i : Nat) (h : 2 * i + 1 < l.length) : (turnL l i)[i]? = some (l.getD i zeroKey) := by
  rw [turnL_at l i i (by omega), if_neg (by omega)]
theorem turnL_hi (l : List Key) (i : Nat) (h : 2 * i + 1 < l.length) : (turnL l i)[l.length - 1 - i]? = some (l.getD (l.length - 1 - i) zeroKey) := by
  rw [turnL_at l i _ (by omega), if_neg (by omega)]
theorem ret0n {P : Program} {fn : Func} {R : Ending → World → Prop} {a : Act} {w : World} (h : fn.results = #[]) (hd : a.defers = []) (hR : R (.returned (.tuple #[])) w) : bodyPost P fn R .normal a w :=
  ⟨hd, _, by simp [results, h], hR⟩
theorem row_at {w0 W : World} {S : List It} {g n cap : Nat} {e : TypeId} {l : List Key} (h : Held w0 W S) (hk : It.row (.slice (some ⟨g, 0, none⟩) n cap) e 16 n (l.flatMap encK) ∈ S) {i : Nat} {x : Key} (hx : l[i]? = some x) :
    At W (.pointer (some ⟨g, i * 16, none⟩)) (encK x) := by
  obtain ⟨A, c, h1, h2, h3, h4⟩ := rd_rowH (enc := encK) h hk rfl (by decide) encK_len
  have hne : l ≠ [] := by rintro rfl; simp at hx
  obtain ⟨b, o, e, hr⟩ := h4 hne
  subst e
  injection h1 with h5 h6 h7
  injection h5 with h5
  injection h5 with h5 h8
  subst h5; subst h8
  refine ⟨g, i * 16, rfl, fun j v hv => ?_⟩
  have hj : j < 16 := by have := (List.getElem?_eq_some_iff.1 hv).1; rw [encK_len] at this; exact this
  have := hr (i * 16 + j) v (by rw [flatMap_at encK_len l i x hx j hj]; exact hv)
  rw [show i * 16 + j = 0 + (i * 16 + j) by omega]
  simpa [Nat.add_assoc] using this
set_option maxHeartbeats 800000 in
theorem reverse_c (w0 W : World) (L : List It) (v : Value) (l : List Key) (HM : Mem w0 W (.row v 23 16 l.length (l.flatMap encK) :: L)) (hl : l.length ≤ 1073741824) :
    Calls Try.prog 73 #[v] W fun e W' => e = .returned (.tuple #[]) ∧ Mem w0 W' (.row v 23 16 l.length (l.reverse.flatMap encK) :: L) := by
  have hown := HM.row m0
  obtain ⟨hlen, ho2⟩ := hown
  rcases ho2 with ⟨h0, hl0⟩ | ⟨g, cap, cur, hv, hb, hh, hc, hcm, hs, ht⟩
  · subst h0
    have hl1 : l = [] := by simpa [encK_len] using hl0
    subst hl1
    go_enter Try.func73, Try.ntmps73
    go_wp2_with (fail)
    go_loopw [2, 3] (fun c c2 wr => c = .int .i64 0 ∧ c2 = .int .i64 (-1) ∧ wr = W)
      (fun c _ _ => 0)
    case atStart => exact ⟨rfl, rfl, rfl⟩
    case round =>
      obtain ⟨rfl, rfl, rfl⟩ := hrel
      go_wp2_with (fail)
      refine ret0n rfl rfl ?_
      exact ⟨rfl, HM⟩
  · subst hv
    go_enter Try.func73, Try.ntmps73
    go_wp2_with (fail)
    clear hh hlen ht
    go_loopw [2, 3] (fun c c2 wr => ∃ i : Nat, 2 * i ≤ l.length + 1 ∧ c = .int .i64 i ∧ c2 = .int .i64 ((l.length : Int) - 1 - i) ∧ Mem w0 wr (.row (.slice (some ⟨g, 0, none⟩) l.length cap) 23 16 l.length ((turnL l i).flatMap encK) :: L))
      (fun c _ _ => l.length - (intOf c).toNat)
    case atStart => exact ⟨0, by omega, rfl, by go_num, by rw [turnL_0]; exact HM⟩
    case round =>
      clear HM
      obtain ⟨i, hi, rfl, rfl, HM⟩ := hrel
      by_cases h2 : 2 * i + 1 < l.length
      · have hb : (i : Int) < (l.length : Int) - 1 - i := by omega
        have hj : ((l.length : Int) - 1 - i).toNat = l.length - 1 - i := by omega
        have hj0 : (0 : Int) ≤ (l.length : Int) - 1 - i := by omega
        have hj2 : (i : Int) ≤ (l.length : Int) - 1 := by omega
        have hj1 : (l.length : Int) - 1 - i < (l.length : Int) := by omega
        have hi1 : (i : Int) < (l.length : Int) := by omega
        have hm := turnL_step l i h2
        go_wp2_with (fail)
        replace HM := HM.drew
        refine wp_region_mixN (fun W => Held w0 W [.row (.slice (some ⟨g, 0, none⟩) l.length cap) 23 16 l.length ((turnL l i).flatMap encK)]) (fun W => Held w0 W []) (.cons (2, 0) (.cons (2, 1) (.cons (2, 2) (.cons (2, 3) (.cons (2, 4) (.cons (2, 5) (.cons (2, 6) (.cons (1, 7) (.cons (2, 8) (.cons (2, 9) (.cons (2, 10) (.cons (1, 11) (.cons (2, 12) (.cons (3, 13) (.cons (2, 14) (.cons (3, 15) .nil)))))))))))))))) [13, 15] (by kernel_rfl) (by kernel_rfl) (by kernel_rfl) (fun W h => Held.weak h (by simp)) (HM.held (by simp)) ?_
        revert HM; generalize World.drew _ = W; intro HM
        have HS1 : Held w0 W [.row (.slice (some ⟨g, 0, none⟩) l.length cap) 23 16 l.length ((turnL l i).flatMap encK)] := HM.held (by simp)
        have HS2 : Held w0 W [] := HM.held (by simp)
        refine wm_q2 (i := 0) (some 14) rfl rfl rfl HS2 (fun W HS => by (go_simp; try with_reducible rfl)) ?_
        simp only [Act.put, List.getElem_toArray, List.getElem_cons_succ, List.getElem_cons_zero, List.setIfInBounds_toArray, List.set_cons_succ, List.set_cons_zero]
        refine wm_q2 (i := 1) (some 15) rfl rfl rfl HS2 (fun W HS => by (go_simp; try with_reducible rfl)) ?_
        simp only [Act.put, List.getElem_toArray, List.getElem_cons_succ, List.getElem_cons_zero, List.setIfInBounds_toArray, List.set_cons_succ, List.set_cons_zero]
        refine wm_q2 (i := 2) (some 16) rfl rfl rfl HS2 (fun W HS => by (go_simp; try with_reducible rfl)) ?_
        simp only [Act.put, List.getElem_toArray, List.getElem_cons_succ, List.getElem_cons_zero, List.setIfInBounds_toArray, List.set_cons_succ, List.set_cons_zero]
        refine wm_q2 (i := 3) (some 17) rfl rfl rfl HS2 (fun W HS => by (go_simp; try with_reducible rfl)) ?_
        simp only [Act.put, List.getElem_toArray, List.getElem_cons_succ, List.getElem_cons_zero, List.setIfInBounds_toArray, List.set_cons_succ, List.set_cons_zero]
        refine wm_q2 (i := 4) (some 18) rfl rfl rfl HS2 (fun W HS => by (go_simp; try with_reducible rfl)) ?_
        simp only [Act.put, List.getElem_toArray, List.getElem_cons_succ, List.getElem_cons_zero, List.setIfInBounds_toArray, List.set_cons_succ, List.set_cons_zero]
        refine wm_q2 (i := 5) (some 19) rfl rfl rfl HS2 (fun W HS => by (go_simp; try with_reducible rfl)) ?_
        simp only [Act.put, List.getElem_toArray, List.getElem_cons_succ, List.getElem_cons_zero, List.setIfInBounds_toArray, List.set_cons_succ, List.set_cons_zero]
        refine wm_q2 (i := 6) (some 20) rfl rfl rfl HS2 (fun W HS => by (go_simp; try with_reducible rfl)) ?_
        simp only [Act.put, List.getElem_toArray, List.getElem_cons_succ, List.getElem_cons_zero, List.setIfInBounds_toArray, List.set_cons_succ, List.set_cons_zero]
        refine wm_q1 (i := 7) (some 21) rfl rfl rfl HS1 (fun W HS => (by refine ry_load_key _ _ _ _ ?_ ((row_at HS m0 (turnL_hi l i h2))) Try.underlying23 sz23; rfl)) ?_
        simp only [Act.put, List.getElem_toArray, List.getElem_cons_succ, List.getElem_cons_zero, List.setIfInBounds_toArray, List.set_cons_succ, List.set_cons_zero]
        refine wm_q2 (i := 8) (some 22) rfl rfl rfl HS2 (fun W HS => by (go_simp; try with_reducible rfl)) ?_
        simp only [Act.put, List.getElem_toArray, List.getElem_cons_succ, List.getElem_cons_zero, List.setIfInBounds_toArray, List.set_cons_succ, List.set_cons_zero]
        refine wm_q2 (i := 9) (some 23) rfl rfl rfl HS2 (fun W HS => by (go_simp; try with_reducible rfl)) ?_
        simp only [Act.put, List.getElem_toArray, List.getElem_cons_succ, List.getElem_cons_zero, List.setIfInBounds_toArray, List.set_cons_succ, List.set_cons_zero]
        refine wm_q2 (i := 10) (some 24) rfl rfl rfl HS2 (fun W HS => by (go_simp; try with_reducible rfl)) ?_
        simp only [Act.put, List.getElem_toArray, List.getElem_cons_succ, List.getElem_cons_zero, List.setIfInBounds_toArray, List.set_cons_succ, List.set_cons_zero]
        refine wm_q1 (i := 11) (some 25) rfl rfl rfl HS1 (fun W HS => (by refine ry_load_key _ _ _ _ ?_ ((row_at HS m0 (turnL_lo l i h2))) Try.underlying23 sz23; rfl)) ?_
        simp only [Act.put, List.getElem_toArray, List.getElem_cons_succ, List.getElem_cons_zero, List.setIfInBounds_toArray, List.set_cons_succ, List.set_cons_zero]
        refine wm_q2 (i := 12) (some 26) rfl rfl rfl HS2 (fun W HS => by (go_simp; try with_reducible rfl)) ?_
        simp only [Act.put, List.getElem_toArray, List.getElem_cons_succ, List.getElem_cons_zero, List.setIfInBounds_toArray, List.set_cons_succ, List.set_cons_zero]
        refine wm_e3 (i := 13) rfl ?_
        go_wp2_with (first
          | (refine wl_store_rowK _ _ _ g i l.length cap 23 (turnL l i) (l.getD (l.length - 1 - i) zeroKey) rfl rfl HM .here sz23 (by rw [turnL_len]; omega) ?_; clear HM; intro W HM))
        refine ⟨HM.held (by simp), ?_⟩
        clear HS1 HS2
        have HS1 : True := trivial
        have HS2 : Held w0 W [] := HM.held (by simp)
        refine wm_q2 (i := 14) (some 27) rfl rfl rfl HS2 (fun W HS => by (go_simp; try with_reducible rfl)) ?_
        simp only [Act.put, List.getElem_toArray, List.getElem_cons_succ, List.getElem_cons_zero, List.setIfInBounds_toArray, List.set_cons_succ, List.set_cons_zero]
        refine wm_e3 (i := 15) rfl ?_
        go_wp2_with (first
          | (refine wl_store_rowK _ _ _ g (l.length - 1 - i) l.length cap 23 ((turnL l i).set i (l.getD (l.length - 1 - i) zeroKey)) (l.getD i zeroKey) rfl rfl HM .here sz23 (by rw [List.length_set, turnL_len]; omega) ?_; clear HM; intro W HM))
        refine ⟨HM.held (by simp), ?_⟩
        clear HS1 HS2
        have HS1 : True := trivial
        have HS2 : Held w0 W [] := HM.held (by simp)
        refine wm_nilN ?_
        clear HS1 HS2
        go_wp2_with (fail)
        go_roundw
        case rel => exact ⟨i + 1, by omega, by go_num, by go_num, by rw [← hm]; exact HM⟩
        case measure => simp [intOf]; omega
      · have hb : ¬ (i : Int) < (l.length : Int) - 1 - i := by omega
        go_wp2_with (fail)
        refine ret0n rfl rfl ?_
        rw [← turnL_end l i (by omega)]
        exact ⟨rfl, HM⟩
end
section
set_option linter.unusedVariables false
set_option linter.unusedSimpArgs false
set_option maxRecDepth 8000
open Go.RowKit
def PathInv (l : List Key) (i : Nat) (l' : List Key) (i' : Nat) (acc : List Key) : Prop := pathL l i = pathL l' i' ++ acc.reverse
theorem PathInv.start (l : List Key) (i : Nat) : PathInv l i l i [] := by simp [PathInv]
theorem PathInv.lo {l l' acc : List Key} {i i' : Nat} (h : PathInv l i l' i' acc) (h2 : 2 ≤ l'.length) (hi : i' < splitN l'.length) : PathInv l i (l'.take (splitN l'.length)) i' (acc ++ [rootL (l'.drop (splitN l'.length))]) := by
  rw [PathInv, h, pathL_lo l' i' h2 hi]; simp
theorem PathInv.hi {l l' acc : List Key} {i i' : Nat} (h : PathInv l i l' i' acc) (h2 : 2 ≤ l'.length) (hi : ¬ i' < splitN l'.length) : PathInv l i (l'.drop (splitN l'.length)) (i' - splitN l'.length) (acc ++ [rootL (l'.take (splitN l'.length))]) := by
  rw [PathInv, h, pathL_hi l' i' h2 hi]; simp
theorem PathInv.done {l l' acc : List Key} {i i' : Nat} (h : PathInv l i l' i' acc) (h1 : l'.length ≤ 1) : acc.reverse = pathL l i := by
  rw [h, pathL_one l' i' h1]; simp
set_option maxHeartbeats 1600000 in
theorem prove_c (l : List Key) (i : Nat) (v : Value) (w : World) (hn : l.length ≤ 256) (hi : i < l.length) (hR : RdL encK 16 w v l) :
    Calls Try.prog 130 #[v, .int .i64 (i : Int)] w fun e w' => ∃ u, e = .returned u ∧ Mem w w' [.row u 23 16 (pathL l i).length ((pathL l i).flatMap encK)] := by
  have HM := Mem.start w
  go_enter Try.func130, Try.ntmps130
  go_wp2_with (fail)
  go_loopw [0, 1, 5] (fun lv iv o wr => ∃ (l' : List Key) (i' : Nat) (acc : List Key), i' < l'.length ∧ acc.length + l'.length ≤ l.length ∧ PathInv l i l' i' acc ∧ RdL encK 16 w lv l' ∧ iv = .int .i64 i' ∧ Mem w wr [.row o 23 16 acc.length (acc.flatMap encK)])
    (fun lv _ _ _ => lenOf lv)
  case atStart => exact ⟨l, i, [], hi, by simp, PathInv.start l i, hR, rfl, HM.nilrow _ _⟩
  case round =>
    clear HM
    obtain ⟨l', i', acc, hi', hlen, hP, hR', rfl, HM⟩ := hrel
    by_cases hlt : 1 < l'.length
    · have hb : (1 : Int) < (l'.length : Int) := by omega
      have hs := splitN_lt l'.length (by omega)
      have e : (((splitN l'.length : Nat) : Int)).toNat = splitN l'.length := Int.toNat_natCast _
      have hi1 : (0 : Int) ≤ ((splitN l'.length : Nat) : Int) := by omega
      have hi2 : ((splitN l'.length : Nat) : Int) ≤ (l'.length : Int) := by omega
      by_cases hlo : i' < splitN l'.length
      · have hb2 : (i' : Int) < ((splitN l'.length : Nat) : Int) := by omega
        go_wp2_with (first
          | ((with_reducible refine s_ 8 ?_); go_must ((refine wl_len (dst := some 8) _ _ _ _ 23 Try.underlying40 rfl (hR'.mem HM) ?_)))
          | ((with_reducible refine s_ 11 ?_); go_must ((refine wl_len (dst := some 11) _ _ _ _ 23 Try.underlying40 rfl (hR'.mem HM) ?_)))
          | (go_at_call 72; go_must (((with_reducible refine (split_c _ (by omega) (by omega) _).mono ?_)); rintro e W ⟨rfl, HM'⟩; replace HM := HM.keep HM'.below; clear HM')))
        replace HM := HM.drew
        refine wp_region_mixN (fun W => Held w W []) (fun W => Held w W []) (.cons (2, 0) (.cons (2, 1) (.cons (2, 2) (.cons (2, 3) (.cons (2, 7) (.cons (2, 8) (.cons (2, 9) (.cons (0, 4) (.cons (0, 5) (.cons (0, 6) (.cons (2, 10) (.cons (2, 11) .nil)))))))))))) [] (by kernel_rfl) (by kernel_rfl) (by kernel_rfl) (fun W h => Held.weak h (by simp)) (HM.held (by simp)) ?_
        revert HM; generalize World.drew _ = W; intro HM
        have HS1 : Held w W [] := HM.held (by simp)
        have HS2 : Held w W [] := HM.held (by simp)
        refine wm_q2 (i := 0) (some 16) rfl rfl rfl HS2 (fun W HS => by (go_simp; try with_reducible rfl)) ?_
        simp only [Act.put, List.getElem_toArray, List.getElem_cons_succ, List.getElem_cons_zero, List.setIfInBounds_toArray, List.set_cons_succ, List.set_cons_zero]
        refine wm_q2 (i := 1) (some 17) rfl rfl rfl HS2 (fun W HS => by (go_simp; try with_reducible rfl)) ?_
        simp only [Act.put, List.getElem_toArray, List.getElem_cons_succ, List.getElem_cons_zero, List.setIfInBounds_toArray, List.set_cons_succ, List.set_cons_zero]
        refine wm_q2 (i := 2) (some 18) rfl rfl rfl HS2 (fun W HS => by (go_simp; try with_reducible rfl)) ?_
        simp only [Act.put, List.getElem_toArray, List.getElem_cons_succ, List.getElem_cons_zero, List.setIfInBounds_toArray, List.set_cons_succ, List.set_cons_zero]
        (refine wm_q2x (i := 3) (some 19) rfl rfl rfl HS2 (ry_slice_lo _ 23 _ _ _ _ _ _ encK_len Try.underlying40 sz23 (hR'.mem HM) rfl rfl (by omega) (by omega)) ?_); intro v19 hv19
        simp only [Act.put, List.getElem_toArray, List.getElem_cons_succ, List.getElem_cons_zero, List.setIfInBounds_toArray, List.set_cons_succ, List.set_cons_zero]
        refine wm_q2 (i := 7) (some 23) rfl rfl rfl HS2 (fun W HS => by (go_simp; try with_reducible rfl)) ?_
        simp only [Act.put, List.getElem_toArray, List.getElem_cons_succ, List.getElem_cons_zero, List.setIfInBounds_toArray, List.set_cons_succ, List.set_cons_zero]
        refine wm_q2 (i := 8) (some 24) rfl rfl rfl HS2 (fun W HS => by (go_simp; try with_reducible rfl)) ?_
        simp only [Act.put, List.getElem_toArray, List.getElem_cons_succ, List.getElem_cons_zero, List.setIfInBounds_toArray, List.set_cons_succ, List.set_cons_zero]
        (refine wm_q2x (i := 9) (some 25) rfl rfl rfl HS2 (ry_slice_hi _ 23 _ _ _ _ _ _ encK_len Try.underlying40 sz23 (hR'.mem HM) rfl rfl (by omega) (by omega)) ?_); intro v25 hv25
        simp only [Act.put, List.getElem_toArray, List.getElem_cons_succ, List.getElem_cons_zero, List.setIfInBounds_toArray, List.set_cons_succ, List.set_cons_zero]
        refine wm_e0 (i := 4) rfl ?_
        go_wp2_with (first
          | (go_at_call 61; go_must (((with_reducible refine (root_c _ _ _ (hv19 _ (hR'.mem HM)) (by rw [List.length_drop]; omega)).mono ?_)); rintro e W ⟨rfl, HM'⟩; replace HM := HM.keep HM'.below; clear HM')))
        refine ⟨HM.held (by simp), ?_⟩
        clear HS1 HS2
        have HS1 : Held w W [] := HM.held (by simp)
        have HS2 : Held w W [] := HM.held (by simp)
        refine wm_e0 (i := 5) rfl ?_
        go_wp2_with (first
          | ((with_reducible refine s_ 21 ?_); go_must ((refine wl_slice1K (dst := some 21) _ _ _ _ _ Try.underlying40 Try.sizeOf23 Try.zeroValue23 kc_zero rfl HM ?_; clear HM; intro b21 W HM))))
        refine ⟨HM.held (by simp), ?_⟩
        clear HS1 HS2
        have HS1 : Held w W [] := HM.held (by simp)
        have HS2 : Held w W [] := HM.held (by simp)
        refine wm_e0 (i := 6) rfl ?_
        go_wp2_with (first
          | ((with_reducible refine s_ 22 ?_); go_must (refine wl_append (dst := some 22) (enc := encK) _ _ _ _ _ _ _ _ _ _ _ ([rootL (l'.drop (splitN l'.length))]) Try.underlying40 inf23 rfl (by decide) encK_len encK_one HM (.there .here) (RdL.of_blk (HM.blk m0) _ 1 rfl (by simp [kc_toList]) (by decide)) rfl rfl (by decide) (by simp; omega) ?_; clear HM; intro v22 W HM; try dsimp only at HM)))
        refine ⟨HM.held (by simp), ?_⟩
        clear HS1 HS2
        have HS1 : Held w W [] := HM.held (by simp)
        have HS2 : Held w W [] := HM.held (by simp)
        refine wm_q2 (i := 10) (some 5) rfl rfl rfl HS2 (fun W HS => by (go_simp; try with_reducible rfl)) ?_
        simp only [Act.put, List.getElem_toArray, List.getElem_cons_succ, List.getElem_cons_zero, List.setIfInBounds_toArray, List.set_cons_succ, List.set_cons_zero]
        refine wm_q2 (i := 11) (some 0) rfl rfl rfl HS2 (fun W HS => by (go_simp; try with_reducible rfl)) ?_
        simp only [Act.put, List.getElem_toArray, List.getElem_cons_succ, List.getElem_cons_zero, List.setIfInBounds_toArray, List.set_cons_succ, List.set_cons_zero]
        refine wm_nilN ?_
        clear HS1 HS2
        go_wp2_with (fail)
        have hP2 := hP.lo (by omega) hlo
        have hv25' := hv25 _ hR'
        rw [flat_snoc'] at HM
        go_roundw
        case rel => exact ⟨_, i', _, by rw [List.length_take]; omega, by rw [List.length_append, List.length_take]; simp; omega, hP2, hv25', rfl, by rw [List.length_append]; exact HM.tail⟩
        case measure =>
          rw [lenOf_rd hR', lenOf_rd hv25', List.length_take]; omega
      · have hb2 : ¬ (i' : Int) < ((splitN l'.length : Nat) : Int) := by omega
        have hw : IntKind.i64.wrap ((i' : Int) - ((splitN l'.length : Nat) : Int)) = ((i' - splitN l'.length : Nat) : Int) := by rw [IntKind.wrap_i64]; omega
        go_wp2_with (first
          | ((with_reducible refine s_ 8 ?_); go_must ((refine wl_len (dst := some 8) _ _ _ _ 23 Try.underlying40 rfl (hR'.mem HM) ?_)))
          | ((with_reducible refine s_ 11 ?_); go_must ((refine wl_len (dst := some 11) _ _ _ _ 23 Try.underlying40 rfl (hR'.mem HM) ?_)))
          | (go_at_call 72; go_must (((with_reducible refine (split_c _ (by omega) (by omega) _).mono ?_)); rintro e W ⟨rfl, HM'⟩; replace HM := HM.keep HM'.below; clear HM')))
        replace HM := HM.drew
        refine wp_region_mixN (fun W => Held w W []) (fun W => Held w W []) (.cons (2, 0) (.cons (2, 1) (.cons (2, 2) (.cons (2, 3) (.cons (2, 7) (.cons (2, 8) (.cons (2, 9) (.cons (2, 10) (.cons (2, 11) (.cons (2, 12) (.cons (0, 4) (.cons (0, 5) (.cons (0, 6) (.cons (2, 13) (.cons (2, 14) (.cons (2, 15) .nil)))))))))))))))) [] (by kernel_rfl) (by kernel_rfl) (by kernel_rfl) (fun W h => Held.weak h (by simp)) (HM.held (by simp)) ?_
        revert HM; generalize World.drew _ = W; intro HM
        have HS1 : Held w W [] := HM.held (by simp)
        have HS2 : Held w W [] := HM.held (by simp)
        refine wm_q2 (i := 0) (some 26) rfl rfl rfl HS2 (fun W HS => by (go_simp; try with_reducible rfl)) ?_
        simp only [Act.put, List.getElem_toArray, List.getElem_cons_succ, List.getElem_cons_zero, List.setIfInBounds_toArray, List.set_cons_succ, List.set_cons_zero]
        refine wm_q2 (i := 1) (some 27) rfl rfl rfl HS2 (fun W HS => by (go_simp; try with_reducible rfl)) ?_
        simp only [Act.put, List.getElem_toArray, List.getElem_cons_succ, List.getElem_cons_zero, List.setIfInBounds_toArray, List.set_cons_succ, List.set_cons_zero]
        refine wm_q2 (i := 2) (some 28) rfl rfl rfl HS2 (fun W HS => by (go_simp; try with_reducible rfl)) ?_
        simp only [Act.put, List.getElem_toArray, List.getElem_cons_succ, List.getElem_cons_zero, List.setIfInBounds_toArray, List.set_cons_succ, List.set_cons_zero]
        (refine wm_q2x (i := 3) (some 29) rfl rfl rfl HS2 (ry_slice_hi _ 23 _ _ _ _ _ _ encK_len Try.underlying40 sz23 (hR'.mem HM) rfl rfl (by omega) (by omega)) ?_); intro v29 hv29
        simp only [Act.put, List.getElem_toArray, List.getElem_cons_succ, List.getElem_cons_zero, List.setIfInBounds_toArray, List.set_cons_succ, List.set_cons_zero]
        refine wm_q2 (i := 7) (some 33) rfl rfl rfl HS2 (fun W HS => by (go_simp; try with_reducible rfl)) ?_
        simp only [Act.put, List.getElem_toArray, List.getElem_cons_succ, List.getElem_cons_zero, List.setIfInBounds_toArray, List.set_cons_succ, List.set_cons_zero]
        refine wm_q2 (i := 8) (some 34) rfl rfl rfl HS2 (fun W HS => by (go_simp; try with_reducible rfl)) ?_
        simp only [Act.put, List.getElem_toArray, List.getElem_cons_succ, List.getElem_cons_zero, List.setIfInBounds_toArray, List.set_cons_succ, List.set_cons_zero]
        (refine wm_q2x (i := 9) (some 35) rfl rfl rfl HS2 (ry_slice_lo _ 23 _ _ _ _ _ _ encK_len Try.underlying40 sz23 (hR'.mem HM) rfl rfl (by omega) (by omega)) ?_); intro v35 hv35
        simp only [Act.put, List.getElem_toArray, List.getElem_cons_succ, List.getElem_cons_zero, List.setIfInBounds_toArray, List.set_cons_succ, List.set_cons_zero]
        refine wm_q2 (i := 10) (some 36) rfl rfl rfl HS2 (fun W HS => by (go_simp; try with_reducible rfl)) ?_
        simp only [Act.put, List.getElem_toArray, List.getElem_cons_succ, List.getElem_cons_zero, List.setIfInBounds_toArray, List.set_cons_succ, List.set_cons_zero]
        refine wm_q2 (i := 11) (some 37) rfl rfl rfl HS2 (fun W HS => by (go_simp; try with_reducible rfl)) ?_
        simp only [Act.put, List.getElem_toArray, List.getElem_cons_succ, List.getElem_cons_zero, List.setIfInBounds_toArray, List.set_cons_succ, List.set_cons_zero]
        refine wm_q2 (i := 12) (some 38) rfl rfl rfl HS2 (fun W HS => by (go_simp; try with_reducible rfl)) ?_
        simp only [Act.put, List.getElem_toArray, List.getElem_cons_succ, List.getElem_cons_zero, List.setIfInBounds_toArray, List.set_cons_succ, List.set_cons_zero]
        refine wm_e0 (i := 4) rfl ?_
        go_wp2_with (first
          | (go_at_call 61; go_must (((with_reducible refine (root_c _ _ _ (hv29 _ (hR'.mem HM)) (by rw [List.length_take]; omega)).mono ?_)); rintro e W ⟨rfl, HM'⟩; replace HM := HM.keep HM'.below; clear HM')))
        refine ⟨HM.held (by simp), ?_⟩
        clear HS1 HS2
        have HS1 : Held w W [] := HM.held (by simp)
        have HS2 : Held w W [] := HM.held (by simp)
        refine wm_e0 (i := 5) rfl ?_
        go_wp2_with (first
          | ((with_reducible refine s_ 31 ?_); go_must ((refine wl_slice1K (dst := some 31) _ _ _ _ _ Try.underlying40 Try.sizeOf23 Try.zeroValue23 kc_zero rfl HM ?_; clear HM; intro b31 W HM))))
        refine ⟨HM.held (by simp), ?_⟩
        clear HS1 HS2
        have HS1 : Held w W [] := HM.held (by simp)
        have HS2 : Held w W [] := HM.held (by simp)
        refine wm_e0 (i := 6) rfl ?_
        go_wp2_with (first
          | ((with_reducible refine s_ 32 ?_); go_must (refine wl_append (dst := some 32) (enc := encK) _ _ _ _ _ _ _ _ _ _ _ ([rootL (l'.take (splitN l'.length))]) Try.underlying40 inf23 rfl (by decide) encK_len encK_one HM (.there .here) (RdL.of_blk (HM.blk m0) _ 1 rfl (by simp [kc_toList]) (by decide)) rfl rfl (by decide) (by simp; omega) ?_; clear HM; intro v32 W HM; try dsimp only at HM)))
        refine ⟨HM.held (by simp), ?_⟩
        clear HS1 HS2
        have HS1 : Held w W [] := HM.held (by simp)
        have HS2 : Held w W [] := HM.held (by simp)
        refine wm_q2 (i := 13) (some 5) rfl rfl rfl HS2 (fun W HS => by (go_simp; try with_reducible rfl)) ?_
        simp only [Act.put, List.getElem_toArray, List.getElem_cons_succ, List.getElem_cons_zero, List.setIfInBounds_toArray, List.set_cons_succ, List.set_cons_zero]
        refine wm_q2 (i := 14) (some 0) rfl rfl rfl HS2 (fun W HS => by (go_simp; try with_reducible rfl)) ?_
        simp only [Act.put, List.getElem_toArray, List.getElem_cons_succ, List.getElem_cons_zero, List.setIfInBounds_toArray, List.set_cons_succ, List.set_cons_zero]
        refine wm_q2 (i := 15) (some 1) rfl rfl rfl HS2 (fun W HS => by (go_simp; try with_reducible rfl)) ?_
        simp only [Act.put, List.getElem_toArray, List.getElem_cons_succ, List.getElem_cons_zero, List.setIfInBounds_toArray, List.set_cons_succ, List.set_cons_zero]
        refine wm_nilN ?_
        clear HS1 HS2
        go_wp2_with (fail)
        have hP2 := hP.hi (by omega) hlo
        have hv35' := hv35 _ hR'
        rw [flat_snoc'] at HM
        go_roundw
        case rel => exact ⟨_, i' - splitN l'.length, _, by rw [List.length_drop]; omega, by rw [List.length_append, List.length_drop]; simp; omega, hP2, hv35', rfl, by rw [List.length_append]; exact HM.tail⟩
        case measure =>
          rw [lenOf_rd hR', lenOf_rd hv35', List.length_drop]; omega
    · have hb : ¬ (1 : Int) < (l'.length : Int) := by omega
      go_wp2_with (first
        | ((with_reducible refine s_ 8 ?_); go_must ((refine wl_len (dst := some 8) _ _ _ _ 23 Try.underlying40 rfl (hR'.mem HM) ?_)))
        | (go_at_call 73; go_must (((with_reducible refine (reverse_c w _ _ _ acc HM (by omega)).mono ?_)); rintro e W ⟨rfl, HM'⟩; clear HM; rename _ => HM)))
      refine ret1 rfl (res_tmp rfl) rfl ?_
      rw [← hP.done (by omega), List.length_reverse]
      exact ⟨_, rfl, HM⟩
end
section
set_option linter.unusedVariables false
set_option linter.unusedSimpArgs false
set_option maxRecDepth 8000
open Go.RowKit
theorem run_build_prf (n i : Int) (u : Value) (hu : u.cells = #[u]) (w : World) : (Instr.build 52 #[(0, .int .i64 n), (1, .int .i64 i), (2, u)]).run Try.prog w = .ok (.agg #[.int .i64 n, .int .i64 i, u]) w := by
  simp [Instr.build, Try.zeroValue52, run_underlying Try.underlying52, Try.sizeOf3, Try.sizeOf40, Instr.fill, show ∀ cs, (Value.agg cs).cells = cs from fun _ => rfl, hu, show ∀ n, (Value.int .i64 n).cells = #[.int .i64 n] from fun _ => rfl]
theorem run_build_prf0 (w : World) : (Instr.build 52 #[]).run Try.prog w = .ok (.agg #[.int .i64 0, .int .i64 0, .slice none 0 0]) w := by
  simp [Instr.build, Try.zeroValue52, run_underlying Try.underlying52, Try.sizeOf3, Try.sizeOf40, Instr.fill, show ∀ cs, (Value.agg cs).cells = cs from fun _ => rfl]
theorem prf_one (n i : Int) (u : Value) (h : u.oneCell' = true) : (#[Value.int .i64 n, .int .i64 i, u]).all (·.oneCell') = true :=
  all_oneCell_toArray (cs := [.int .i64 n, .int .i64 i, u]) fun x hx => by
    simp only [List.mem_cons, List.not_mem_nil, or_false] at hx
    rcases hx with rfl | rfl | rfl
    · rfl
    · rfl
    · exact h
set_option maxHeartbeats 400000 in
theorem proof_c (l : List Key) (i : Nat) (v : Value) (w : World) (hn : l.length ≤ 256) (hi : i < l.length) (hR : RdL encK 16 w v l) :
    Calls Try.prog 70 #[v, .int .i64 (i : Int)] w fun e w' => ∃ u, e = .returned (.agg #[.int .i64 l.length, .int .i64 i, u]) ∧ Mem w w' [.row u 23 16 (pathL l i).length ((pathL l i).flatMap encK)] := by
  have HM := Mem.start w
  go_enter Try.func70, Try.ntmps70
  go_wp2_with (first
    | ((with_reducible refine st_ 52 ?_); go_must (refine wl_store_blk _ _ _ _ _ _ _ rfl rfl HM (.there .here) sz52 rfl (prf_one _ _ _ hu1) ?_; clear HM; intro W HM))
    | ((with_reducible refine s_ 4 ?_); go_must (refine wl_alloc (dst := some 4) (cs := #[Value.int IntKind.i64 0, Value.int IntKind.i64 0, Value.slice none 0 0]) 52 _ Try.zeroValue52 rfl HM ?_; clear HM; intro b4 W HM))
    | ((with_reducible refine s_ 6 ?_); go_must ((refine wl_len (dst := some 6) _ _ _ _ 23 Try.underlying40 rfl (hR.mem HM) ?_)))
    | ((with_reducible refine s_ 11 ?_); go_must (refine wl_build (dst := some 11) _ _ _ _ (run_build_prf _ _ _ hu) rfl ?_))
    | (go_at_call 130; go_must (((with_reducible refine (prove_c l i v _ hn hi (hR.mem HM)).mono ?_)); rintro e W ⟨u, rfl, HM'⟩; replace HM := HM.join HM'; clear HM'; simp only [List.cons_append, List.nil_append] at HM; have hu := row_cells (HM.row m0); have hu1 := row_one (HM.row m0))))
  refine ret1 rfl (by (exact res_row HM rfl m1 Try.underlying52 rfl sz52)) rfl ?_
  exact ⟨_, rfl, HM.only m0⟩
set_option maxHeartbeats 400000 in
theorem rproofOf_c (l : List Key) (i : Nat) (v : Value) (w : World) (hn : l.length ≤ 256) (hi : i < l.length) (hR : RdL encK 16 w v l) :
    Calls Try.prog 71 #[v, .int .i64 (i : Int)] w fun e w' => ∃ u, e = .returned (.agg #[.int .i64 l.length, .int .i64 i, u]) ∧ Mem w w' [.row u 23 16 (pathL l i).length ((pathL l i).flatMap encK)] := by
  have HM := Mem.start w
  go_enter Try.func71, Try.ntmps71
  go_wp2_with (first
    | ((with_reducible refine st_ 52 ?_); go_must (refine wl_store_blk _ _ _ _ _ _ _ rfl rfl HM (.there .here) sz52 rfl (prf_one _ _ _ hu1) ?_; clear HM; intro W HM))
    | ((with_reducible refine s_ 4 ?_); go_must (refine wl_alloc (dst := some 4) (cs := #[Value.int IntKind.i64 0, Value.int IntKind.i64 0, Value.slice none 0 0]) 52 _ Try.zeroValue52 rfl HM ?_; clear HM; intro b4 W HM))
    | ((with_reducible refine s_ 6 ?_); go_must ((refine wl_len (dst := some 6) _ _ _ _ 23 Try.underlying40 rfl (hR.mem HM) ?_)))
    | ((with_reducible refine s_ 11 ?_); go_must (refine wl_build (dst := some 11) _ _ _ _ (run_build_prf _ _ _ hu) rfl ?_))
    | (go_at_call 131; go_must (((with_reducible refine (rpath_c l.length l i v _ rfl (by omega) hn hi (hR.mem HM)).mono ?_)); rintro e W ⟨u, rfl, HM'⟩; replace HM := HM.join HM'; clear HM'; simp only [List.cons_append, List.nil_append] at HM; have hu := row_cells (HM.row m0); have hu1 := row_one (HM.row m0))))
  refine ret1 rfl (by (exact res_row HM rfl m1 Try.underlying52 rfl sz52)) rfl ?_
  exact ⟨_, rfl, HM.only m0⟩
set_option maxHeartbeats 400000 in
theorem sameProof_c (n i : Int) (v v' : Value) (l : List Key) (w : World) (hR : RdL encK 16 w v l) (hR' : RdL encK 16 w v' l) (hl : l.length ≤ 1073741824) :
    Calls Try.prog 22 #[.agg #[.int .i64 n, .int .i64 i, v], .agg #[.int .i64 n, .int .i64 i, v']] w fun e w' => e = .returned (.bool true) ∧ Mem w w' [] := by
  have HM := Mem.start w
  go_enter Try.func22, Try.ntmps22
  go_wp2_with (first
    | ((with_reducible refine gd_ _ ?_); refine wl_guard (by rfl) ?_)
    | ((with_reducible refine s_ 2 ?_); go_must (refine wl_box (dst := some 2) (cs := #[.int .i64 n, .int .i64 i, v]) _ _ _ rfl rfl HM ?_; clear HM; intro b2 W HM))
    | ((with_reducible refine s_ 3 ?_); go_must (refine wl_box (dst := some 3) (cs := #[.int .i64 n, .int .i64 i, v']) _ _ _ rfl rfl HM ?_; clear HM; intro b3 W HM))
    | ((with_reducible refine ld_ 3 ?_); go_must (refine wl_load_cell _ _ _ _ _ _ _ _ rfl HM (by repeat first | exact List.mem_cons_self .. | refine List.mem_cons_of_mem _ ?_) (by rfl) Try.underlying3 rfl ?_))
    | ((with_reducible refine ld_ 40 ?_); go_must (refine wl_load_cell _ _ _ _ _ _ _ _ rfl HM (by repeat first | exact List.mem_cons_self .. | refine List.mem_cons_of_mem _ ?_) (by rfl) Try.underlying40 rfl ?_))
    | (go_at_call 25; go_must (((with_reducible refine (sameKeys_c v v' l _ (hR.mem HM) (hR'.mem HM) (by omega)).mono ?_)); rintro e W ⟨rfl, HM'⟩; replace HM := HM.keep HM'.below; clear HM')))
  refine ret1 rfl (res_tmp rfl) rfl ?_
  exact ⟨rfl, HM.base⟩
end
end Go.Proofs.Ythdekionepfmdaa
