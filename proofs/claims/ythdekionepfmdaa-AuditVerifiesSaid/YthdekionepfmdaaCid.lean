/- The cipher: derived keys, streams, copies of bytes. -/
import Derived.Test.YthdekionepfmdaaRfc
set_option linter.unusedVariables false
set_option linter.unusedSimpArgs false
namespace Go.Proofs.Ythdekionepfmdaa
open Go.RowKit

set_option maxHeartbeats 400000 in
theorem derive_c (k : Key) (t : UInt8) (n : UInt64) (w : World) :
    Calls Try.prog 110 #[.agg (kc k), .int .u8 t.toNat, .int .u64 n.toNat] w fun e w' => e = .returned (.agg (kc (deriveK k t n))) ∧ Mem w w' [] := by
  have HM := Mem.start w
  have hB : ∀ W, Calls Try.prog 105 #[.int .u8 t.toNat, .int .u64 0, .int .u64 n.toNat] W fun e w' => e = .returned (.agg (kc (blockOfK t 0 n))) ∧ Mem W w' [] := fun W => blockOf_c t 0 n W
  go_enter Try.func110, Try.ntmps110
  go_wp2_with (first
    | ((with_reducible refine s_ 3 ?_); go_must (refine wl_box (dst := some 3) (cs := kc k) _ _ _ rfl rfl HM ?_; clear HM; intro b3 W HM))
    | ((with_reducible refine s_ 6 ?_); go_must (refine wl_alloc (dst := some 6) (cs := kc zeroKey) 23 _ Try.zeroValue23 kc_zero HM ?_; clear HM; intro b6 W HM)))
  replace HM := HM.drew
  refine wp_region_mixN (fun W => Held w W [.blk b3 (kc k) 23]) (fun W => Held w W [.blk b3 (kc k) 23]) (.cons (2, 0) (.cons (2, 1) (.cons (2, 2) (.cons (0, 3) (.cons (0, 4) (.cons (0, 5) .nil)))))) [] (by kernel_rfl) (by kernel_rfl) (by kernel_rfl) (fun W h => Held.weak h (by simp)) (HM.held (by simp)) ?_
  revert HM; generalize World.drew _ = W; intro HM
  have HS1 : Held w W [.blk b3 (kc k) 23] := HM.held (by simp)
  have HS2 : Held w W [.blk b3 (kc k) 23] := HM.held (by simp)
  refine wm_q2 (i := 0) (some 7) rfl rfl rfl HS2 (fun W HS => (by ((refine ry_load_blk _ _ _ _ _ _ HS ?_ m0 Try.underlying23 rfl (by rw [kc_size]; exact sz23); rfl)))) ?_
  simp only [Act.put, List.getElem_toArray, List.getElem_cons_succ, List.getElem_cons_zero, List.setIfInBounds_toArray, List.set_cons_succ, List.set_cons_zero]
  refine wm_q2 (i := 1) (v := ?v1_2) (some 8) rfl rfl rfl HS2 (fun W HS => ?y1_2) ?_
  case y1_2 => (go_simp; try with_reducible rfl)
  simp only [Act.put, List.getElem_toArray, List.getElem_cons_succ, List.getElem_cons_zero, List.setIfInBounds_toArray, List.set_cons_succ, List.set_cons_zero]
  refine wm_q2 (i := 2) (v := ?v1_3) (some 9) rfl rfl rfl HS2 (fun W HS => ?y1_3) ?_
  case y1_3 => (go_simp; try with_reducible rfl)
  simp only [Act.put, List.getElem_toArray, List.getElem_cons_succ, List.getElem_cons_zero, List.setIfInBounds_toArray, List.set_cons_succ, List.set_cons_zero]
  refine wm_e0 (i := 3) rfl ?_
  go_wp2_with (first
    | (go_at_call 105; go_must (((with_reducible refine (hB _).mono ?_)); rintro e W ⟨rfl, HM'⟩; replace HM := HM.keep HM'.below; clear HM')))
  refine ⟨HM.held (by simp), ?_⟩
  clear HS1 HS2
  have HS1 : Held w W [.blk b3 (kc k) 23] := HM.held (by simp)
  have HS2 : Held w W [.blk b3 (kc k) 23] := HM.held (by simp)
  refine wm_e0 (i := 4) rfl ?_
  go_wp2_with (first
    | (go_at_call 53; go_must (((with_reducible refine (encrypt_c _ _ _).mono ?_)); rintro e W ⟨rfl, HM'⟩; replace HM := HM.keep HM'.below; clear HM')))
  refine ⟨HM.held (by simp), ?_⟩
  clear HS1 HS2
  have HS1 : Held w W [.blk b3 (kc k) 23] := HM.held (by simp)
  have HS2 : Held w W [.blk b3 (kc k) 23] := HM.held (by simp)
  refine wm_e0 (i := 5) rfl ?_
  go_wp2_with (first
    | ((with_reducible refine st_ 23 ?_); go_must ((refine wl_store_blk _ _ _ _ _ _ _ rfl rfl HM .here (by rw [kc_size]; exact sz23) (by simp only [kc_size]) (kc_one _) ?_); clear HM; intro W HM)))
  refine ⟨HM.held (by simp), ?_⟩
  clear HS1 HS2
  have HS1 : Held w W [.blk b3 (kc k) 23] := HM.held (by simp)
  have HS2 : Held w W [.blk b3 (kc k) 23] := HM.held (by simp)
  refine wm_nilN ?_
  clear HS1 HS2
  go_wp2_with (fail)
  refine ret1 rfl (by (exact res_row HM rfl m0 Try.underlying23 rfl (by rw [kc_size]; exact sz23))) rfl ?_
  exact ⟨rfl, HM.base⟩

/-! ### Bytes in a block -/
def bytesC (l : List UInt8) : Array Value := (l.flatMap encB).toArray
theorem flatB (l : List UInt8) : l.flatMap encB = l.map (fun x => Value.int .u8 (x.toNat : Int)) := by
  induction l with
  | nil => rfl
  | cons x l ih => simp [encB, ih]
theorem bytesC_size (l : List UInt8) : (bytesC l).size = l.length := by simp [bytesC, flatB]
theorem bytesC_set (l : List UInt8) (i : Nat) (b : UInt8) : (bytesC l).setIfInBounds i (.int .u8 b.toNat) = bytesC (l.set i b) := by
  simp only [bytesC, flatB, List.setIfInBounds_toArray, List.map_set]
theorem bytesC_at (l : List UInt8) (i : Nat) (b : UInt8) (h : l[i]? = some b) : (bytesC l)[i]? = some (.int .u8 b.toNat) := by
  simp [bytesC, flatB, h]
theorem bytesC_list (l : List UInt8) : (bytesC l).toList = l.flatMap encB := by simp [bytesC]
theorem made_bytes (n : Nat) : madeCells (Value.int .u8 0).cells n = bytesC (List.replicate n 0) := by
  apply Array.ext
  · rw [size_madeCells, bytesC_size]; simp
  · intro i h1 h2
    have hz : (Value.int .u8 0).cells = #[.int .u8 0] := rfl
    simp [madeCells, bytesC, flatB, hz, Nat.mod_one]

/-- The bytes of the stream to m, then zeros. -/
def outTo (k : Key) (n : UInt64) (l : List UInt8) (m : Nat) : List UInt8 := streamTo k n l m ++ List.replicate (l.length - m) 0
theorem outTo_len (k : Key) (n : UInt64) (l : List UInt8) (m : Nat) (h : m ≤ l.length) : (outTo k n l m).length = l.length := by simp [outTo, streamTo_len]; omega
theorem outTo_zero (k : Key) (n : UInt64) (l : List UInt8) : outTo k n l 0 = List.replicate l.length 0 := by simp [outTo, streamTo]
theorem outTo_end (k : Key) (n : UInt64) (l : List UInt8) : outTo k n l l.length = streamL k n l := by simp [outTo, streamL]
theorem outTo_set (k : Key) (n : UInt64) (l : List UInt8) (m : Nat) (h : m < l.length) : (outTo k n l m).set m (xorB l[m] (maskAt k n m)) = outTo k n l (m + 1) := by
  have e : l.length - m = (l.length - (m + 1)) + 1 := by omega
  have hd : l.getD m 0 = l[m] := by simp [h]
  rw [outTo, outTo, streamTo_succ, e, List.replicate_succ, List.set_append_right _ _ (by rw [streamTo_len]; omega), streamTo_len, hd]
  simp
/-- The block of the mask before the byte with number m. -/
def maskK (k : Key) (n : UInt64) (m : Nat) : Key := if m = 0 then zeroKey else encryptK k (blockOfK 1 (UInt64.ofNat ((m - 1) / 16)) n)
theorem maskK_zero (k : Key) (n : UInt64) : maskK k n 0 = zeroKey := rfl
theorem maskK_new (k : Key) (n : UInt64) (m : Nat) (h : m % 16 = 0) : encryptK k (blockOfK 1 (UInt64.ofNat (m / 16)) n) = maskK k n (m + 1) := by simp [maskK]
theorem maskK_old (k : Key) (n : UInt64) (m : Nat) (h : m % 16 ≠ 0) : maskK k n m = maskK k n (m + 1) := by
  have h1 : m ≠ 0 := by intro e; subst e; simp at h
  have h2 : (m - 1) / 16 = m / 16 := by omega
  simp [maskK, h1, h2]
theorem maskK_at (k : Key) (n : UInt64) (m : Nat) : (maskK k n (m + 1))[m % 16]'(Nat.mod_lt _ (by decide)) = maskAt k n m := by simp [maskK, maskAt]
attribute [irreducible] maskK outTo

set_option maxHeartbeats 400000 in
theorem stream_no (k : Key) (n : UInt64) (v : Value) (l : List UInt8) (w : World) (hR : RdL encB 1 w v l) (hl : 16384 < l.length) :
    Calls Try.prog 52 #[.agg (kc k), .int .u64 n.toNat, v] w fun e w' => e = .returned (.tuple #[.slice none 0 0, .int .i64 4]) ∧ Mem w w' [] := by
  have HM := Mem.start w
  have hl0 : (16384 : Int) < (l.length : Int) := by omega
  go_enter Try.func52, Try.ntmps52
  go_wp2_with (first
    | ((with_reducible refine s_ 3 ?_); go_must (refine wl_box (dst := some 3) (cs := kc k) _ _ _ rfl rfl HM ?_; clear HM; intro b3 W HM))
    | ((with_reducible refine s_ 13 ?_); go_must ((refine wl_len (dst := some 13) _ _ _ _ 5 Try.underlying24 rfl (hR.mem HM) ?_))))
  refine ret2 rfl (res_tmp rfl) (res_tmp rfl) rfl ?_
  exact ⟨rfl, HM.base⟩

attribute [local go_sem] bx8 in
set_option maxHeartbeats 800000 in
theorem stream_c (k : Key) (n : UInt64) (v : Value) (l : List UInt8) (w : World) (hR : RdL encB 1 w v l) (hl : l.length ≤ 16384) :
    Calls Try.prog 52 #[.agg (kc k), .int .u64 n.toNat, v] w fun e w' => ∃ u, e = .returned (.tuple #[u, .int .i64 0]) ∧ Mem w w' [.row u 5 1 l.length ((streamL k n l).flatMap encB)] := by
  have HM := Mem.start w
  have hl0 : ¬ (16384 : Int) < (l.length : Int) := by omega
  have hB : ∀ (i : Nat) W, i ≤ 20000 → Calls Try.prog 105 #[.int .u8 1, .int .u64 ((i : Int) / 16), .int .u64 n.toNat] W fun e w' => e = .returned (.agg (kc (blockOfK 1 (UInt64.ofNat (i / 16)) n))) ∧ Mem W w' [] := by
    intro i W hi
    have e : (i : Int) / 16 = ((UInt64.ofNat (i / 16)).toNat : Int) := by rw [UInt64.toNat_ofNat']; omega
    have := blockOf_c 1 (UInt64.ofNat (i / 16)) n W
    rwa [← e] at this
  go_enter Try.func52, Try.ntmps52
  go_wp2_with (first
    | ((with_reducible refine s_ 3 ?_); go_must (refine wl_box (dst := some 3) (cs := kc k) _ _ _ rfl rfl HM ?_; clear HM; intro b3 W HM))
    | ((with_reducible refine s_ 13 ?_); go_must ((refine wl_len (dst := some 13) _ _ _ _ 5 Try.underlying24 rfl (hR.mem HM) ?_)))
    | ((with_reducible refine s_ 16 ?_); go_must ((refine wl_len (dst := some 16) _ _ _ _ 5 Try.underlying24 rfl (hR.mem HM) ?_)))
    | ((with_reducible refine s_ 17 ?_); go_must (refine wl_make (dst := some 17) _ _ _ _ _ _ _ _ _ _ Try.underlying24 inf5 rfl rfl (by omega) (by decide) (by omega) HM ?_; clear HM; intro b17 W HM))
    | ((with_reducible refine s_ 9 ?_); go_must (refine wl_alloc (dst := some 9) (cs := kc zeroKey) 23 _ Try.zeroValue23 kc_zero HM ?_; clear HM; intro b9 W HM))
    | ((with_reducible refine s_ 19 ?_); go_must ((refine wl_len (dst := some 19) _ _ _ _ 5 Try.underlying24 rfl (hR.mem HM) ?_))))
  rw [Int.toNat_natCast, Nat.mul_one, made_bytes, ← outTo_zero k n, ← maskK_zero k n] at HM
  go_loopw [10, 11, 20] (fun i c q wr => ∃ j : Nat, j ≤ l.length ∧ q = .int .i64 j ∧ Mem w wr [.blk b9 (kc (maskK k n j)) 23, .blk b17 (bytesC (outTo k n l j)) 5, .blk b3 (kc k) 23])
    (fun _ _ q _ => l.length - (intOf q).toNat)
  case atStart => exact ⟨0, by omega, rfl, HM⟩
  case round =>
    clear HM
    obtain ⟨j, hj, rfl, HM⟩ := hrel
    by_cases hlt : j < l.length
    · have hx : l[j]? = some l[j] := List.getElem?_eq_getElem hlt
      have hb1 : (j : Int) < (l.length : Int) := by omega
      have hmask : (kc (maskK k n (j + 1)))[((j : Int) % 16).toNat]? = some (.int .u8 (maskAt k n j).toNat) := by
        have e : ((j : Int) % 16).toNat = j % 16 := by omega
        rw [e, kc_at _ (j % 16) (Nat.mod_lt _ (by decide)), maskK_at]
      have hsz : (bytesC (outTo k n l j)).size = l.length := by rw [bytesC_size, outTo_len _ _ _ _ hj]
      by_cases h16 : j % 16 = 0
      · have h0 : (j : Int) % 16 = 0 := by omega
        have hw : ((j : Int) / 16) % 18446744073709551616 = (j : Int) / 16 := by omega
        go_wp2_with (first
          | ((with_reducible refine s_ 23 ?_); go_must ((refine wl_index (dst := some 23) _ 5 _ _ _ _ _ _ _ encB_len Try.underlying24 sz5 rfl rfl (hR.mem HM) (by omega) (by first | assumption | simp [*]) ?_); intro p23 hp23))
          | ((with_reducible refine s_ 24 ?_); go_must (refine wl_load_at1 (dst := some 24) _ _ _ _ _ rfl hp23 Try.underlying5 rfl ?_)))
        replace HM := HM.drew
        refine wp_region_mixN (fun W => Held w W [.blk b3 (kc k) 23]) (fun W => Held w W [.blk b3 (kc k) 23]) (.cons (2, 0) (.cons (2, 1) (.cons (2, 2) (.cons (2, 3) (.cons (2, 4) (.cons (0, 5) (.cons (0, 6) (.cons (0, 7) .nil)))))))) [] (by kernel_rfl) (by kernel_rfl) (by kernel_rfl) (fun W h => Held.weak h (by simp)) (HM.held (by simp)) ?_
        revert HM; generalize World.drew _ = W; intro HM
        have HS1 : Held w W [.blk b3 (kc k) 23] := HM.held (by simp)
        have HS2 : Held w W [.blk b3 (kc k) 23] := HM.held (by simp)
        refine wm_q2 (i := 0) (some 28) rfl rfl rfl HS2 (fun W HS => (by ((refine ry_load_blk _ _ _ _ _ _ HS ?_ m0 Try.underlying23 rfl (by rw [kc_size]; exact sz23); rfl)))) ?_
        simp only [Act.put, List.getElem_toArray, List.getElem_cons_succ, List.getElem_cons_zero, List.setIfInBounds_toArray, List.set_cons_succ, List.set_cons_zero]
        refine wm_q2 (i := 1) (v := ?v9_2) (some 29) rfl rfl rfl HS2 (fun W HS => ?y9_2) ?_
        case y9_2 => (go_simp; try with_reducible rfl)
        simp only [Act.put, List.getElem_toArray, List.getElem_cons_succ, List.getElem_cons_zero, List.setIfInBounds_toArray, List.set_cons_succ, List.set_cons_zero]
        refine wm_q2 (i := 2) (v := ?v9_3) (some 30) rfl rfl rfl HS2 (fun W HS => ?y9_3) ?_
        case y9_3 => (go_simp; try with_reducible rfl)
        simp only [Act.put, List.getElem_toArray, List.getElem_cons_succ, List.getElem_cons_zero, List.setIfInBounds_toArray, List.set_cons_succ, List.set_cons_zero]
        refine wm_q2 (i := 3) (v := ?v9_4) (some 31) rfl rfl rfl HS2 (fun W HS => ?y9_4) ?_
        case y9_4 => (go_simp; try with_reducible rfl)
        simp only [Act.put, List.getElem_toArray, List.getElem_cons_succ, List.getElem_cons_zero, List.setIfInBounds_toArray, List.set_cons_succ, List.set_cons_zero]
        refine wm_q2 (i := 4) (v := ?v9_5) (some 32) rfl rfl rfl HS2 (fun W HS => ?y9_5) ?_
        case y9_5 => (go_simp; try with_reducible rfl)
        simp only [Act.put, List.getElem_toArray, List.getElem_cons_succ, List.getElem_cons_zero, List.setIfInBounds_toArray, List.set_cons_succ, List.set_cons_zero]
        refine wm_e0 (i := 5) rfl ?_
        go_wp2_with (first
          | (go_at_call 105; go_must (((with_reducible refine (hB j _ (by omega)).mono ?_)); rintro e W ⟨rfl, HM'⟩; replace HM := HM.keep HM'.below; clear HM')))
        refine ⟨HM.held (by simp), ?_⟩
        clear HS1 HS2
        have HS1 : Held w W [.blk b3 (kc k) 23] := HM.held (by simp)
        have HS2 : Held w W [.blk b3 (kc k) 23] := HM.held (by simp)
        refine wm_e0 (i := 6) rfl ?_
        go_wp2_with (first
          | (go_at_call 53; go_must (((with_reducible refine (encrypt_c _ _ _).mono ?_)); rintro e W ⟨rfl, HM'⟩; replace HM := HM.keep HM'.below; clear HM')))
        refine ⟨HM.held (by simp), ?_⟩
        clear HS1 HS2
        have HS1 : Held w W [.blk b3 (kc k) 23] := HM.held (by simp)
        have HS2 : Held w W [.blk b3 (kc k) 23] := HM.held (by simp)
        refine wm_e0 (i := 7) rfl ?_
        go_wp2_with (first
          | ((with_reducible refine st_ 23 ?_); go_must ((refine wl_store_blk _ _ _ _ _ _ _ rfl rfl HM .here (by rw [kc_size]; exact sz23) (by simp only [kc_size]) (kc_one _) ?_); clear HM; intro W HM)))
        refine ⟨HM.held (by simp), ?_⟩
        clear HS1 HS2
        have HS1 : Held w W [.blk b3 (kc k) 23] := HM.held (by simp)
        have HS2 : Held w W [.blk b3 (kc k) 23] := HM.held (by simp)
        refine wm_nilN ?_
        clear HS1 HS2
        rw [maskK_new k n j h16] at HM
        have e0 : ((j : Int) % 16).toNat = 0 := by omega
        rw [e0] at hmask
        go_wp2_with (first
          | ((with_reducible refine s_ 41 ?_); go_must ((refine wl_load_cell (dst := some 41) (v := .int .u8 (maskAt k n j).toNat) _ _ _ _ _ _ _ rfl HM m0 (hmask) Try.underlying5 rfl ?_)))
          | ((with_reducible refine st_ 5 ?_); go_must ((refine wl_store_cell _ _ _ _ _ _ _ _ _ rfl rfl HM (.there .here) sz5 rfl (by first | omega | (simp; done) | (simp [kc_size]; omega) | (simp only [Array.size_setIfInBounds, bytesC_size, List.length_append, List.length_replicate, List.length_set]; omega)) rfl ?_); clear HM; intro W HM; try (simp only [Act.eval, Array.getD_eq_getD_getElem?, List.getElem?_toArray, List.getElem?_cons_succ, List.getElem?_cons_zero, Option.getD_some, List.setIfInBounds_toArray, List.set_cons_succ, List.set_cons_zero] at HM))))
        rw [bytesC_set, outTo_set k n l j hlt] at HM
        go_roundw
        case rel => exact ⟨j + 1, by omega, by go_num, HM⟩
        case measure => simp [intOf]; omega
      · have h0 : ¬ (j : Int) % 16 = 0 := by omega
        rw [maskK_old k n j h16] at HM
        go_wp2_with (first
          | ((with_reducible refine s_ 23 ?_); go_must ((refine wl_index (dst := some 23) _ 5 _ _ _ _ _ _ _ encB_len Try.underlying24 sz5 rfl rfl (hR.mem HM) (by omega) (by first | assumption | simp [*]) ?_); intro p23 hp23))
          | ((with_reducible refine s_ 24 ?_); go_must (refine wl_load_at1 (dst := some 24) _ _ _ _ _ rfl hp23 Try.underlying5 rfl ?_))
          | ((with_reducible refine s_ 41 ?_); go_must ((refine wl_load_cell (dst := some 41) (v := .int .u8 (maskAt k n j).toNat) _ _ _ _ _ _ _ rfl HM m0 (hmask) Try.underlying5 rfl ?_)))
          | ((with_reducible refine st_ 5 ?_); go_must ((refine wl_store_cell _ _ _ _ _ _ _ _ _ rfl rfl HM (.there .here) sz5 rfl (by first | omega | (simp; done) | (simp [kc_size]; omega) | (simp only [Array.size_setIfInBounds, bytesC_size, List.length_append, List.length_replicate, List.length_set]; omega)) rfl ?_); clear HM; intro W HM; try (simp only [Act.eval, Array.getD_eq_getD_getElem?, List.getElem?_toArray, List.getElem?_cons_succ, List.getElem?_cons_zero, Option.getD_some, List.setIfInBounds_toArray, List.set_cons_succ, List.set_cons_zero] at HM))))
        rw [bytesC_set, outTo_set k n l j hlt] at HM
        go_roundw
        case rel => exact ⟨j + 1, by omega, by go_num, HM⟩
        case measure => simp [intOf]; omega
    · obtain rfl : j = l.length := by omega
      rw [outTo_end] at HM
      go_wp2_with (fail)
      replace HM := HM.toRow 1 l.length (.there .here) (by rw [bytesC_size, streamL, streamTo_len, Nat.mul_one]) (by simp only [maxLen]; omega)
      rw [bytesC_list] at HM
      refine ret2 rfl (res_tmp rfl) (res_tmp rfl) rfl ?_
      exact ⟨_, rfl, HM.only m1⟩
end Go.Proofs.Ythdekionepfmdaa
