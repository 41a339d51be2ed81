/- The reference's cipher: the stream. -/
import Derived.Test.YthdekionepfmdaaRfb
set_option linter.unusedVariables false
set_option linter.unusedSimpArgs false
namespace Go.Proofs.Ythdekionepfmdaa
open Go.RowKit

/-- The bytes of the stream, as far as m. -/
def maskAt (k : Key) (n : UInt64) (i : Nat) : UInt8 := (encryptK k (blockOfK 1 (UInt64.ofNat (i / 16)) n))[i % 16]'(Nat.mod_lt _ (by decide))
def streamTo (k : Key) (n : UInt64) (l : List UInt8) (m : Nat) : List UInt8 := (List.range m).map fun i => xorB (l.getD i 0) (maskAt k n i)
def streamL (k : Key) (n : UInt64) (l : List UInt8) : List UInt8 := streamTo k n l l.length
theorem streamTo_len (k : Key) (n : UInt64) (l : List UInt8) (m : Nat) : (streamTo k n l m).length = m := by simp [streamTo]
theorem streamTo_succ (k : Key) (n : UInt64) (l : List UInt8) (m : Nat) : streamTo k n l (m + 1) = streamTo k n l m ++ [xorB (l.getD m 0) (maskAt k n m)] := by simp [streamTo, List.range_succ]
theorem stream_at (k : Key) (n : UInt64) (l : List UInt8) (i j : Nat) (h : j < 16) :
    (xorK (keyL (l.drop (16 * i))) (encryptK k (blockOfK 1 (UInt64.ofNat i) n)))[j] = xorB (l.getD (16 * i + j) 0) (maskAt k n (16 * i + j)) := by
  have e1 : (16 * i + j) / 16 = i := by omega
  have e2 : (16 * i + j) % 16 = j := by omega
  simp [xorK, keyL, maskAt, e1, e2]

set_option maxHeartbeats 800000 in
theorem rstream_no (k : Key) (n : UInt64) (v : Value) (l : List UInt8) (w : World) (hR : RdL encB 1 w v l) (hl : 16384 < l.length) :
    Calls Try.prog 55 #[.agg (kc k), .int .u64 n.toNat, v] w fun e w' => e = .returned (.tuple #[.slice none 0 0, .int .i64 4]) ∧ Mem w w' [] := by
  have HM := Mem.start w
  have hl0 : (16384 : Int) < (l.length : Int) := by omega
  go_enter Try.func55, Try.ntmps55
  go_wp2_with (first
    | ((with_reducible refine s_ 3 ?_); go_must (refine wl_box (dst := some 3) (cs := kc k) _ _ _ rfl rfl HM ?_; clear HM; intro b3 W HM))
    | ((with_reducible refine s_ 13 ?_); go_must ((refine wl_len (dst := some 13) _ _ _ _ 5 Try.underlying24 rfl (hR.mem HM) ?_))))
  refine ret2 rfl (res_tmp rfl) (res_tmp rfl) rfl ?_
  exact ⟨rfl, HM.base⟩

set_option maxHeartbeats 1600000 in
theorem rstream_c (k : Key) (n : UInt64) (v : Value) (l : List UInt8) (w : World) (hR : RdL encB 1 w v l) (hl : l.length ≤ 16384) :
    Calls Try.prog 55 #[.agg (kc k), .int .u64 n.toNat, v] w fun e w' => ∃ u, e = .returned (.tuple #[u, .int .i64 0]) ∧ Mem w w' [.row u 5 1 l.length ((streamL k n l).flatMap encB)] := by
  have HM := Mem.start w
  have hl0 : ¬ (16384 : Int) < (l.length : Int) := by omega
  have hB : ∀ (i : Nat) W, i ≤ 2000 → Calls Try.prog 114 #[.int .u8 1, .int .u64 (i : Int), .int .u64 n.toNat] W fun e w' => e = .returned (.agg (kc (blockOfK 1 (UInt64.ofNat i) n))) ∧ Mem W w' [] := by
    intro i W hi
    have e : (i : Int) = ((UInt64.ofNat i).toNat : Int) := by rw [UInt64.toNat_ofNat']; omega
    have := rBlock_c 1 (UInt64.ofNat i) n (by rw [UInt64.toNat_ofNat']; omega) W
    rwa [← e] at this
  go_enter Try.func55, Try.ntmps55
  go_wp2_with (first
    | ((with_reducible refine s_ 3 ?_); go_must (refine wl_box (dst := some 3) (cs := kc k) _ _ _ rfl rfl HM ?_; clear HM; intro b3 W HM))
    | ((with_reducible refine s_ 13 ?_); go_must ((refine wl_len (dst := some 13) _ _ _ _ 5 Try.underlying24 rfl (hR.mem HM) ?_))))
  replace HM := HM.nilrow 5 1
  go_loopw [8, 9] (fun o c wr => ∃ i : Nat, 16 * i ≤ l.length + 15 ∧ c = .int .i64 i ∧ Mem w wr [.row o 5 1 (min (16 * i) l.length) ((streamTo k n l (min (16 * i) l.length)).flatMap encB), .blk b3 (kc k) 23])
    (fun _ c _ => 2000 - (intOf c).toNat)
  case atStart => exact ⟨0, by omega, rfl, by simpa [streamTo] using HM⟩
  case round =>
    clear HM
    obtain ⟨i, hi, rfl, HM⟩ := hrel
    by_cases hlt : i < (l.length + 15) / 16
    · have hlt' : (i : Int) < ((l.length : Int) + 15) / 16 := by omega
      have hw : (i : Int) % 18446744073709551616 = (i : Int) := by omega
      have hmin : min (16 * i) l.length = 16 * i := by omega
      rw [hmin] at HM
      go_wp2_with (first
        | (go_at_call 111; go_must (((with_reducible refine (portions_c _ _ _ (hR.mem HM) (by omega)).mono ?_)); rintro e W ⟨rfl, HM'⟩; replace HM := HM.keep HM'.below; clear HM')))
      replace HM := HM.drew
      refine wp_region_mixN (fun W => Held w W [.blk b3 (kc k) 23]) (fun W => Held w W [.blk b3 (kc k) 23]) (.cons (2, 0) (.cons (2, 1) (.cons (2, 3) (.cons (2, 4) (.cons (2, 5) (.cons (2, 6) (.fork2 2 (.fork2 7 (.fork2 8 (.fork2 9 (.cons (0, 10) (.cons (0, 11) .nil)) 10 (.cons (0, 9) (.cons (0, 11) .nil))) 10 (.cons (0, 8) (.cons (0, 9) (.cons (0, 11) .nil)))) 10 (.cons (0, 7) (.cons (0, 8) (.cons (0, 9) (.cons (0, 11) .nil))))) 10 (.cons (0, 2) (.cons (0, 7) (.cons (0, 8) (.cons (0, 9) (.cons (0, 11) .nil)))))))))))) [] (by kernel_rfl) (by kernel_rfl) (by kernel_rfl) (fun W h => Held.weak h (by simp)) (HM.held (by simp)) ?_
      revert HM; generalize World.drew _ = W; intro HM
      have HS1 : Held w W [.blk b3 (kc k) 23] := HM.held (by simp)
      have HS2 : Held w W [.blk b3 (kc k) 23] := HM.held (by simp)
      refine wm_q2 (i := 0) (v := ?v7_1) (some 21) rfl rfl rfl HS2 (fun W HS => ?y7_1) ?_
      case y7_1 => (go_simp; try with_reducible rfl)
      simp only [Act.put, List.getElem_toArray, List.getElem_cons_succ, List.getElem_cons_zero, List.setIfInBounds_toArray, List.set_cons_succ, List.set_cons_zero]
      refine wm_q2 (i := 1) (v := ?v7_2) (some 22) rfl rfl rfl HS2 (fun W HS => ?y7_2) ?_
      case y7_2 => (go_simp; try with_reducible rfl)
      simp only [Act.put, List.getElem_toArray, List.getElem_cons_succ, List.getElem_cons_zero, List.setIfInBounds_toArray, List.set_cons_succ, List.set_cons_zero]
      refine wm_q2 (i := 3) (some 24) rfl rfl rfl HS2 (fun W HS => (by ((refine ry_load_blk _ _ _ _ _ _ HS ?_ m0 Try.underlying23 rfl (by rw [kc_size]; exact sz23); rfl)))) ?_
      simp only [Act.put, List.getElem_toArray, List.getElem_cons_succ, List.getElem_cons_zero, List.setIfInBounds_toArray, List.set_cons_succ, List.set_cons_zero]
      refine wm_q2 (i := 4) (v := ?v7_4) (some 25) rfl rfl rfl HS2 (fun W HS => ?y7_4) ?_
      case y7_4 => (go_simp; try with_reducible rfl)
      simp only [Act.put, List.getElem_toArray, List.getElem_cons_succ, List.getElem_cons_zero, List.setIfInBounds_toArray, List.set_cons_succ, List.set_cons_zero]
      refine wm_q2 (i := 5) (v := ?v7_5) (some 26) rfl rfl rfl HS2 (fun W HS => ?y7_5) ?_
      case y7_5 => (go_simp; try with_reducible rfl)
      simp only [Act.put, List.getElem_toArray, List.getElem_cons_succ, List.getElem_cons_zero, List.setIfInBounds_toArray, List.set_cons_succ, List.set_cons_zero]
      refine wm_q2 (i := 6) (v := ?v7_6) (some 27) rfl rfl rfl HS2 (fun W HS => ?y7_6) ?_
      case y7_6 => (go_simp; try with_reducible rfl)
      simp only [Act.put, List.getElem_toArray, List.getElem_cons_succ, List.getElem_cons_zero, List.setIfInBounds_toArray, List.set_cons_succ, List.set_cons_zero]
      refine wm_fork2 ?br7 ?br8
      case' br7 =>
        refine wm_e0 (i := 2) rfl ?_
        go_wp2_with (first
          | (go_at_call 113; go_must (((with_reducible refine (portion_c _ _ i _ (hR.mem HM) (by omega) (by omega)).mono ?_)); rintro e W ⟨rfl, HM'⟩; replace HM := HM.keep HM'.below; clear HM')))
        refine ⟨HM.held (by simp), ?_⟩
        clear HS1 HS2
        have HS1 : Held w W [.blk b3 (kc k) 23] := HM.held (by simp)
        have HS2 : Held w W [.blk b3 (kc k) 23] := HM.held (by simp)
        refine wm_fork2 ?br9 ?br10
        case' br9 =>
          refine wm_e0 (i := 7) rfl ?_
          go_wp2_with (first
            | (go_at_call 114; go_must (((with_reducible refine (hB i _ (by omega)).mono ?_)); rintro e W ⟨rfl, HM'⟩; replace HM := HM.keep HM'.below; clear HM')))
          refine ⟨HM.held (by simp), ?_⟩
          clear HS1 HS2
          have HS1 : Held w W [.blk b3 (kc k) 23] := HM.held (by simp)
          have HS2 : Held w W [.blk b3 (kc k) 23] := HM.held (by simp)
          refine wm_fork2 ?br11 ?br12
          case' br11 =>
            refine wm_e0 (i := 8) rfl ?_
            go_wp2_with (first
              | (go_at_call 56; go_must (((with_reducible refine (rencrypt_c _ _ _).mono ?_)); rintro e W ⟨rfl, HM'⟩; replace HM := HM.keep HM'.below; clear HM')))
            refine ⟨HM.held (by simp), ?_⟩
            clear HS1 HS2
            have HS1 : Held w W [.blk b3 (kc k) 23] := HM.held (by simp)
            have HS2 : Held w W [.blk b3 (kc k) 23] := HM.held (by simp)
            refine wm_fork2 ?br13 ?br14
            case' br13 =>
              refine wm_e0 (i := 9) rfl ?_
              go_wp2_with (first
                | (go_at_call 112; go_must (((with_reducible refine (rxor_c _ _ _).mono ?_)); rintro e W ⟨rfl, HM'⟩; replace HM := HM.keep HM'.below; clear HM')))
              refine ⟨HM.held (by simp), ?_⟩
              clear HS1 HS2
              have HS1 : Held w W [.blk b3 (kc k) 23] := HM.held (by simp)
              have HS2 : Held w W [.blk b3 (kc k) 23] := HM.held (by simp)
              refine wm_e0 (i := 10) rfl ?_
              go_wp2_with (first
                | ((with_reducible refine s_ 10 ?_); go_must (refine wl_alloc (dst := some 10) (cs := kc zeroKey) 23 _ Try.zeroValue23 kc_zero HM ?_; clear HM; intro b10 W HM)))
              refine ⟨HM.held (by simp), ?_⟩
              clear HS1 HS2
              have HS1 : Held w W [.blk b3 (kc k) 23] := HM.held (by simp)
              have HS2 : Held w W [.blk b3 (kc k) 23] := HM.held (by simp)
              refine wm_e0 (i := 11) rfl ?_
              go_wp2_with (first
                | ((with_reducible refine st_ 23 ?_); go_must ((refine wl_store_blk _ _ _ _ _ _ _ rfl rfl HM .here (by rw [kc_size]; exact sz23) (by simp only [kc_size]) (kc_one _) ?_); clear HM; intro W HM)))
              refine ⟨HM.held (by simp), ?_⟩
              clear HS1 HS2
              have HS1 : Held w W [.blk b3 (kc k) 23] := HM.held (by simp)
              have HS2 : Held w W [.blk b3 (kc k) 23] := HM.held (by simp)
              refine wm_nilN ?_
              clear HS1 HS2
            case' br14 =>
              refine wm_e0 (i := 10) rfl ?_
              go_wp2_with (first
                | ((with_reducible refine s_ 10 ?_); go_must (refine wl_alloc (dst := some 10) (cs := kc zeroKey) 23 _ Try.zeroValue23 kc_zero HM ?_; clear HM; intro b10 W HM)))
              refine ⟨HM.held (by simp), ?_⟩
              clear HS1 HS2
              have HS1 : Held w W [.blk b3 (kc k) 23] := HM.held (by simp)
              have HS2 : Held w W [.blk b3 (kc k) 23] := HM.held (by simp)
              refine wm_e0 (i := 9) rfl ?_
              go_wp2_with (first
                | (go_at_call 112; go_must (((with_reducible refine (rxor_c _ _ _).mono ?_)); rintro e W ⟨rfl, HM'⟩; replace HM := HM.keep HM'.below; clear HM')))
              refine ⟨HM.held (by simp), ?_⟩
              clear HS1 HS2
              have HS1 : Held w W [.blk b3 (kc k) 23] := HM.held (by simp)
              have HS2 : Held w W [.blk b3 (kc k) 23] := HM.held (by simp)
              refine wm_e0 (i := 11) rfl ?_
              go_wp2_with (first
                | ((with_reducible refine st_ 23 ?_); go_must ((refine wl_store_blk _ _ _ _ _ _ _ rfl rfl HM .here (by rw [kc_size]; exact sz23) (by simp only [kc_size]) (kc_one _) ?_); clear HM; intro W HM)))
              refine ⟨HM.held (by simp), ?_⟩
              clear HS1 HS2
              have HS1 : Held w W [.blk b3 (kc k) 23] := HM.held (by simp)
              have HS2 : Held w W [.blk b3 (kc k) 23] := HM.held (by simp)
              refine wm_nilN ?_
              clear HS1 HS2
          case' br12 =>
            refine wm_e0 (i := 10) rfl ?_
            go_wp2_with (first
              | ((with_reducible refine s_ 10 ?_); go_must (refine wl_alloc (dst := some 10) (cs := kc zeroKey) 23 _ Try.zeroValue23 kc_zero HM ?_; clear HM; intro b10 W HM)))
            refine ⟨HM.held (by simp), ?_⟩
            clear HS1 HS2
            have HS1 : Held w W [.blk b3 (kc k) 23] := HM.held (by simp)
            have HS2 : Held w W [.blk b3 (kc k) 23] := HM.held (by simp)
            refine wm_e0 (i := 8) rfl ?_
            go_wp2_with (first
              | (go_at_call 56; go_must (((with_reducible refine (rencrypt_c _ _ _).mono ?_)); rintro e W ⟨rfl, HM'⟩; replace HM := HM.keep HM'.below; clear HM')))
            refine ⟨HM.held (by simp), ?_⟩
            clear HS1 HS2
            have HS1 : Held w W [.blk b3 (kc k) 23] := HM.held (by simp)
            have HS2 : Held w W [.blk b3 (kc k) 23] := HM.held (by simp)
            refine wm_e0 (i := 9) rfl ?_
            go_wp2_with (first
              | (go_at_call 112; go_must (((with_reducible refine (rxor_c _ _ _).mono ?_)); rintro e W ⟨rfl, HM'⟩; replace HM := HM.keep HM'.below; clear HM')))
            refine ⟨HM.held (by simp), ?_⟩
            clear HS1 HS2
            have HS1 : Held w W [.blk b3 (kc k) 23] := HM.held (by simp)
            have HS2 : Held w W [.blk b3 (kc k) 23] := HM.held (by simp)
            refine wm_e0 (i := 11) rfl ?_
            go_wp2_with (first
              | ((with_reducible refine st_ 23 ?_); go_must ((refine wl_store_blk _ _ _ _ _ _ _ rfl rfl HM .here (by rw [kc_size]; exact sz23) (by simp only [kc_size]) (kc_one _) ?_); clear HM; intro W HM)))
            refine ⟨HM.held (by simp), ?_⟩
            clear HS1 HS2
            have HS1 : Held w W [.blk b3 (kc k) 23] := HM.held (by simp)
            have HS2 : Held w W [.blk b3 (kc k) 23] := HM.held (by simp)
            refine wm_nilN ?_
            clear HS1 HS2
        case' br10 =>
          refine wm_e0 (i := 10) rfl ?_
          go_wp2_with (first
            | ((with_reducible refine s_ 10 ?_); go_must (refine wl_alloc (dst := some 10) (cs := kc zeroKey) 23 _ Try.zeroValue23 kc_zero HM ?_; clear HM; intro b10 W HM)))
          refine ⟨HM.held (by simp), ?_⟩
          clear HS1 HS2
          have HS1 : Held w W [.blk b3 (kc k) 23] := HM.held (by simp)
          have HS2 : Held w W [.blk b3 (kc k) 23] := HM.held (by simp)
          refine wm_e0 (i := 7) rfl ?_
          go_wp2_with (first
            | (go_at_call 114; go_must (((with_reducible refine (hB i _ (by omega)).mono ?_)); rintro e W ⟨rfl, HM'⟩; replace HM := HM.keep HM'.below; clear HM')))
          refine ⟨HM.held (by simp), ?_⟩
          clear HS1 HS2
          have HS1 : Held w W [.blk b3 (kc k) 23] := HM.held (by simp)
          have HS2 : Held w W [.blk b3 (kc k) 23] := HM.held (by simp)
          refine wm_e0 (i := 8) rfl ?_
          go_wp2_with (first
            | (go_at_call 56; go_must (((with_reducible refine (rencrypt_c _ _ _).mono ?_)); rintro e W ⟨rfl, HM'⟩; replace HM := HM.keep HM'.below; clear HM')))
          refine ⟨HM.held (by simp), ?_⟩
          clear HS1 HS2
          have HS1 : Held w W [.blk b3 (kc k) 23] := HM.held (by simp)
          have HS2 : Held w W [.blk b3 (kc k) 23] := HM.held (by simp)
          refine wm_e0 (i := 9) rfl ?_
          go_wp2_with (first
            | (go_at_call 112; go_must (((with_reducible refine (rxor_c _ _ _).mono ?_)); rintro e W ⟨rfl, HM'⟩; replace HM := HM.keep HM'.below; clear HM')))
          refine ⟨HM.held (by simp), ?_⟩
          clear HS1 HS2
          have HS1 : Held w W [.blk b3 (kc k) 23] := HM.held (by simp)
          have HS2 : Held w W [.blk b3 (kc k) 23] := HM.held (by simp)
          refine wm_e0 (i := 11) rfl ?_
          go_wp2_with (first
            | ((with_reducible refine st_ 23 ?_); go_must ((refine wl_store_blk _ _ _ _ _ _ _ rfl rfl HM .here (by rw [kc_size]; exact sz23) (by simp only [kc_size]) (kc_one _) ?_); clear HM; intro W HM)))
          refine ⟨HM.held (by simp), ?_⟩
          clear HS1 HS2
          have HS1 : Held w W [.blk b3 (kc k) 23] := HM.held (by simp)
          have HS2 : Held w W [.blk b3 (kc k) 23] := HM.held (by simp)
          refine wm_nilN ?_
          clear HS1 HS2
      case' br8 =>
        refine wm_e0 (i := 10) rfl ?_
        go_wp2_with (first
          | ((with_reducible refine s_ 10 ?_); go_must (refine wl_alloc (dst := some 10) (cs := kc zeroKey) 23 _ Try.zeroValue23 kc_zero HM ?_; clear HM; intro b10 W HM)))
        refine ⟨HM.held (by simp), ?_⟩
        clear HS1 HS2
        have HS1 : Held w W [.blk b3 (kc k) 23] := HM.held (by simp)
        have HS2 : Held w W [.blk b3 (kc k) 23] := HM.held (by simp)
        refine wm_e0 (i := 2) rfl ?_
        go_wp2_with (first
          | (go_at_call 113; go_must (((with_reducible refine (portion_c _ _ i _ (hR.mem HM) (by omega) (by omega)).mono ?_)); rintro e W ⟨rfl, HM'⟩; replace HM := HM.keep HM'.below; clear HM')))
        refine ⟨HM.held (by simp), ?_⟩
        clear HS1 HS2
        have HS1 : Held w W [.blk b3 (kc k) 23] := HM.held (by simp)
        have HS2 : Held w W [.blk b3 (kc k) 23] := HM.held (by simp)
        refine wm_e0 (i := 7) rfl ?_
        go_wp2_with (first
          | (go_at_call 114; go_must (((with_reducible refine (hB i _ (by omega)).mono ?_)); rintro e W ⟨rfl, HM'⟩; replace HM := HM.keep HM'.below; clear HM')))
        refine ⟨HM.held (by simp), ?_⟩
        clear HS1 HS2
        have HS1 : Held w W [.blk b3 (kc k) 23] := HM.held (by simp)
        have HS2 : Held w W [.blk b3 (kc k) 23] := HM.held (by simp)
        refine wm_e0 (i := 8) rfl ?_
        go_wp2_with (first
          | (go_at_call 56; go_must (((with_reducible refine (rencrypt_c _ _ _).mono ?_)); rintro e W ⟨rfl, HM'⟩; replace HM := HM.keep HM'.below; clear HM')))
        refine ⟨HM.held (by simp), ?_⟩
        clear HS1 HS2
        have HS1 : Held w W [.blk b3 (kc k) 23] := HM.held (by simp)
        have HS2 : Held w W [.blk b3 (kc k) 23] := HM.held (by simp)
        refine wm_e0 (i := 9) rfl ?_
        go_wp2_with (first
          | (go_at_call 112; go_must (((with_reducible refine (rxor_c _ _ _).mono ?_)); rintro e W ⟨rfl, HM'⟩; replace HM := HM.keep HM'.below; clear HM')))
        refine ⟨HM.held (by simp), ?_⟩
        clear HS1 HS2
        have HS1 : Held w W [.blk b3 (kc k) 23] := HM.held (by simp)
        have HS2 : Held w W [.blk b3 (kc k) 23] := HM.held (by simp)
        refine wm_e0 (i := 11) rfl ?_
        go_wp2_with (first
          | ((with_reducible refine st_ 23 ?_); go_must ((refine wl_store_blk _ _ _ _ _ _ _ rfl rfl HM .here (by rw [kc_size]; exact sz23) (by simp only [kc_size]) (kc_one _) ?_); clear HM; intro W HM)))
        refine ⟨HM.held (by simp), ?_⟩
        clear HS1 HS2
        have HS1 : Held w W [.blk b3 (kc k) 23] := HM.held (by simp)
        have HS2 : Held w W [.blk b3 (kc k) 23] := HM.held (by simp)
        refine wm_nilN ?_
        clear HS1 HS2
      all_goals
        go_wp2_with (fail)
        go_loopw [8, 11] (fun o c wr => ∃ j : Nat, j ≤ 16 ∧ 16 * i + j ≤ l.length ∧ c = .int .i64 j ∧ Mem w wr [.blk b10 (kc (xorK (keyL (l.drop (16 * i))) (encryptK k (blockOfK 1 (UInt64.ofNat i) n)))) 23, .row o 5 1 (16 * i + j) ((streamTo k n l (16 * i + j)).flatMap encB), .blk b3 (kc k) 23])
          (fun _ c _ => 16 - (intOf c).toNat)
        case atStart => exact ⟨0, by omega, by omega, rfl, HM⟩
        case round =>
          clear HM
          obtain ⟨j, hj, hj', rfl, HM⟩ := hrel
          have hm1 : IntKind.i64.wrap (16 * (i : Int)) = 16 * (i : Int) := by rw [IntKind.wrap_i64]; omega
          have hm2 : IntKind.i64.wrap (16 * (i : Int) + (j : Int)) = 16 * (i : Int) + (j : Int) := by rw [IntKind.wrap_i64]; omega
          by_cases h16 : j < 16
          · have hb1 : (j : Int) < 16 := by omega
            by_cases h17 : 16 * i + j < l.length
            · have hb2 : 16 * (i : Int) + (j : Int) < (l.length : Int) := by omega
              go_wp2_with (first
                | ((with_reducible refine gd_ _ ?_); refine wl_guard (by rfl) ?_)
                | ((with_reducible refine s_ 39 ?_); go_must ((refine wl_len (dst := some 39) _ _ _ _ 5 Try.underlying24 rfl (hR.mem HM) ?_)))
                | ((with_reducible refine s_ 47 ?_); go_must ((refine wl_load_cell (dst := some 47) (v := .int .u8 ((xorK (keyL (l.drop (16 * i))) (encryptK k (blockOfK 1 (UInt64.ofNat i) n)))[j]'h16).toNat) _ _ _ _ _ _ _ rfl HM m0 (kc_at _ j h16) Try.underlying5 rfl ?_)))
                | ((with_reducible refine s_ 48 ?_); go_must (refine wl_buildSlice (dst := some 48) (cs := #[.int .u8 ((xorK (keyL (l.drop (16 * i))) (encryptK k (blockOfK 1 (UInt64.ofNat i) n)))[j]'h16).toNat]) _ _ _ 5 1 _ Try.underlying24 Try.sizeOf5 Try.zeroValue5 (by decide) (by simp [Instr.fill, Act.eval, Act.put, Value.cells, undef, ← List.toArray_range, List.range_succ]) HM ?_; clear HM; intro b48 W HM))
                | ((with_reducible refine s_ 49 ?_); go_must (refine wl_append (dst := some 49) (enc := encB) _ _ _ _ _ _ _ _ _ _ _ ([(xorK (keyL (l.drop (16 * i))) (encryptK k (blockOfK 1 (UInt64.ofNat i) n)))[j]'h16]) Try.underlying24 inf5 rfl (by decide) encB_len encB_one HM (.there (.there .here)) (RdL.of_blk (HM.blk m0) _ 1 rfl rfl (by decide)) rfl rfl (by decide) (by simp; omega) ?_; clear HM; intro v49 W HM; try dsimp only at HM)))
              rw [List.length_singleton, show ∀ x, List.flatMap encB (streamTo k n l (16 * i + j)) ++ List.flatMap encB [x] = List.flatMap encB (streamTo k n l (16 * i + j) ++ [x]) from fun x => List.flatMap_append.symm, stream_at k n l i j h16, ← streamTo_succ] at HM
              go_roundw
              case rel => exact ⟨j + 1, by omega, by omega, by go_num, HM.tail⟩
              case measure => simp [intOf]; omega
            · have hb2 : ¬ 16 * (i : Int) + (j : Int) < (l.length : Int) := by omega
              go_wp2_with (first
                | ((with_reducible refine gd_ _ ?_); refine wl_guard (by rfl) ?_)
                | ((with_reducible refine s_ 39 ?_); go_must ((refine wl_len (dst := some 39) _ _ _ _ 5 Try.underlying24 rfl (hR.mem HM) ?_))))
              have hm : 16 * i + j = min (16 * (i + 1)) l.length := by omega
              rw [hm] at HM
              go_roundw
              case rel => exact ⟨i + 1, by omega, by go_num, HM.tail⟩
              case measure => simp [intOf]; omega
          · have hb1 : ¬ (j : Int) < 16 := by omega
            go_wp2_with (fail)
            have hm : 16 * i + j = min (16 * (i + 1)) l.length := by omega
            rw [hm] at HM
            go_roundw
            case rel => exact ⟨i + 1, by omega, by go_num, HM.tail⟩
            case measure => simp [intOf]; omega
    · have hlt' : ¬ (i : Int) < ((l.length : Int) + 15) / 16 := by omega
      have hmin : min (16 * i) l.length = l.length := by omega
      rw [hmin] at HM
      go_wp2_with (first
        | (go_at_call 111; go_must (((with_reducible refine (portions_c _ _ _ (hR.mem HM) (by omega)).mono ?_)); rintro e W ⟨rfl, HM'⟩; replace HM := HM.keep HM'.below; clear HM')))
      refine ret2 rfl (res_tmp rfl) (res_tmp rfl) rfl ?_
      exact ⟨_, rfl, HM.only m0⟩
end Go.Proofs.Ythdekionepfmdaa
