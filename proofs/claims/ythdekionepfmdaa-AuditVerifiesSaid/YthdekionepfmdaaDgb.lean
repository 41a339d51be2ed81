/- Digests: the program's Hash and digest. -/
import Derived.Test.YthdekionepfmdaaDga
set_option linter.unusedVariables false
set_option linter.unusedSimpArgs false
set_option maxRecDepth 8000
namespace Go.Proofs.Ythdekionepfmdaa
open Go.RowKit

def padZ (n : Nat) : Nat := (16 - (n + 9) % 16) % 16
def padL (l : List UInt8) : List UInt8 := l ++ ([128] ++ List.replicate (padZ l.length) 0 ++ bytesN (UInt64.ofNat l.length) 8)
theorem padL_len (l : List UInt8) : (padL l).length = l.length + 9 + padZ l.length := by simp [padL, bytesN_len]; omega
def startKey : Key := Vector.replicate 16 90
def digestL (l : List UInt8) : Key := digTo startKey (padL l) ((l.length + 9 + padZ l.length) / 16)
theorem padZ_mod (n : Nat) : (n + 9 + padZ n) % 16 = 0 := by simp only [padZ]; omega
def fill (j : Nat) : Key := Vector.ofFn fun i : Fin 16 => if i.1 < j then 90 else 0
theorem fill_zero : fill 0 = zeroKey := by apply Vector.ext; intro i hi; simp [fill, zeroKey]
theorem fill_end : fill 16 = startKey := by apply Vector.ext; intro i hi; simp [fill, startKey, hi]
theorem fill_set (j : Nat) (h : j < 16) : (fill j).set j 90 = fill (j + 1) := by
  apply Vector.ext; intro i hi
  rw [Vector.getElem_set]
  simp only [fill, Vector.getElem_ofFn]
  by_cases e : j = i
  · subst e; simp
  · rw [if_neg e]
    by_cases h1 : i < j
    · simp [h1, show i < j + 1 by omega]
    · simp [h1, show ¬ i < j + 1 by omega]
attribute [irreducible] fill

def lenHi (n : Nat) : UInt8 := UInt8.ofNat (n / 256)
def lenLo (n : Nat) : UInt8 := UInt8.ofNat n
theorem bytesN_small (n : Nat) (h : n < 65536) : bytesN (UInt64.ofNat n) 8 = [0, 0, 0, 0, 0, 0, lenHi n, lenLo n] := by
  have e : (UInt64.ofNat n).toNat = n := by rw [UInt64.toNat_ofNat']; omega
  have z : ∀ i, 2 ≤ i → byteAt (UInt64.ofNat n) i = 0 := by
    intro i hi
    rw [byteAt, e]
    have : n / 256 ^ i = 0 := Nat.div_eq_of_lt (Nat.lt_of_lt_of_le h (show 256 ^ 2 ≤ 256 ^ i from Nat.pow_le_pow_right (by decide) hi))
    rw [this]; rfl
  have h1 : byteAt (UInt64.ofNat n) 1 = lenHi n := by rw [byteAt, e]; rfl
  have h0 : byteAt (UInt64.ofNat n) 0 = lenLo n := by rw [byteAt, e]; simp [lenLo]
  simp only [bytesN, h1, h0, z 7 (by decide), z 6 (by decide), z 5 (by decide), z 4 (by decide), z 3 (by decide), z 2 (by decide)]
theorem rep_add (a b : Nat) (x : UInt8) : List.replicate (a + b) x = List.replicate a x ++ List.replicate b x := List.replicate_append_replicate.symm
theorem set_tail (l : List UInt8) (z : Nat) (a b c : UInt8) :
    (((l ++ 0 :: (List.replicate z 0 ++ [0, 0])).set l.length a).set (l.length + (z + 1)) b).set (l.length + (z + 2)) c = l ++ a :: (List.replicate z 0 ++ [b, c]) := by
  have h1 : (l ++ 0 :: (List.replicate z 0 ++ [0, 0])).set l.length a = l ++ a :: (List.replicate z 0 ++ [0, 0]) := by
    rw [List.set_append_right _ _ (Nat.le_refl _), Nat.sub_self]; rfl
  have h2 : (l ++ a :: (List.replicate z 0 ++ [0, 0])).set (l.length + (z + 1)) b = l ++ a :: (List.replicate z 0 ++ [b, 0]) := by
    rw [List.set_append_right _ _ (Nat.le_add_right _ _), Nat.add_sub_cancel_left, List.set_cons_succ, List.set_append_right _ _ (by rw [List.length_replicate]; exact Nat.le_refl _), List.length_replicate, Nat.sub_self]; rfl
  have h3 : (l ++ a :: (List.replicate z 0 ++ [b, 0])).set (l.length + (z + 2)) c = l ++ a :: (List.replicate z 0 ++ [b, c]) := by
    rw [List.set_append_right _ _ (Nat.le_add_right _ _), Nat.add_sub_cancel_left, List.set_cons_succ, List.set_append_right _ _ (by rw [List.length_replicate]; exact Nat.le_succ _), List.length_replicate, show z + 1 - z = 1 by omega]; rfl
  rw [h1, h2, h3]
theorem padL_set (l : List UInt8) (N : Nat) (hN : N = l.length + 9 + padZ l.length) (h : l.length < 65536) :
    (((l ++ List.replicate (N - l.length) 0).set l.length 128).set (N - 2) (lenHi l.length)).set (N - 1) (lenLo l.length) = padL l := by
  have e2 : List.replicate (N - l.length) (0 : UInt8) = 0 :: (List.replicate (padZ l.length + 6) 0 ++ [0, 0]) := by
    rw [show N - l.length = 1 + ((padZ l.length + 6) + 2) by omega, rep_add, rep_add]; rfl
  rw [e2, show N - 2 = l.length + ((padZ l.length + 6) + 1) by omega, show N - 1 = l.length + ((padZ l.length + 6) + 2) by omega, set_tail, padL, bytesN_small _ h, rep_add]
  simp [List.replicate]
theorem copy_bytes (l : List UInt8) (N : Nat) (h : l.length ≤ N) : ((l.take N).flatMap encB ++ (bytesC (List.replicate N 0)).toList.drop (min l.length N)).toArray = bytesC (l ++ List.replicate (N - l.length) 0) := by
  have e1 : min l.length N = l.length := by omega
  have e2 : l.take N = l := List.take_of_length_le h
  rw [e1, e2, bytesC_list, bytesC, List.flatMap_append]
  congr 2
  rw [flatB, flatB, ← List.map_drop, List.drop_replicate]
theorem set128 (l : List UInt8) (i : Nat) : (bytesC l).setIfInBounds i (.int .u8 128) = bytesC (l.set i 128) := bytesC_set l i 128
theorem padZ_lt (n : Nat) : padZ n < 16 := by simp only [padZ]; omega
set_option maxHeartbeats 1600000 in
theorem hash_c (v : Value) (l : List UInt8) (w : World) (hR : RdL encB 1 w v l) (hl : l.length ≤ 16384) :
    Calls Try.prog 148 #[v] w fun e w' => e = .returned (.tuple #[.agg (kc (digestL l)), .int .i64 0]) ∧ Mem w w' [] := by
  have HM := Mem.start w
  have hl0 : ¬ (16384 : Int) < (l.length : Int) := by omega
  obtain ⟨N, hN⟩ : ∃ N, N = l.length + 9 + padZ l.length := ⟨_, rfl⟩
  have hNmod : N % 16 = 0 := by rw [hN]; exact padZ_mod _
  have hz := padZ_lt l.length
  have hset := padL_set l N hN (by omega)
  have hpl : (padL l).length = N := by rw [padL_len, hN]
  have hNlo : l.length + 9 ≤ N := by omega
  have hNhi : N ≤ 16408 := by omega
  have hNup : N < l.length + 25 := by omega
  clear hN hz
  have h1 : IntKind.i64.wrap ((l.length : Int) / 16 * 16) = (l.length : Int) / 16 * 16 := by rw [IntKind.wrap_i64]; omega
  have h2 : IntKind.i64.wrap ((l.length : Int) / 16 * 16 + 16) = (l.length : Int) / 16 * 16 + 16 := by rw [IntKind.wrap_i64]; omega
  have h4 : IntKind.i64.wrap ((N : Int) - 2) = (N : Int) - 2 := by rw [IntKind.wrap_i64]; omega
  have h5 : IntKind.i64.wrap ((N : Int) - 1) = (N : Int) - 1 := by rw [IntKind.wrap_i64]; omega
  have i1 : (l.length : Int) < (N : Int) := by omega
  have i2 : 0 ≤ (N : Int) - 2 := by omega
  have i3 : (N : Int) - 2 < (N : Int) := by omega
  have i4 : ((N : Int) - 2).toNat = N - 2 := by omega
  have i5 : 0 ≤ (N : Int) - 1 := by omega
  have i6 : (N : Int) - 1 < (N : Int) := by omega
  have i7 : ((N : Int) - 1).toNat = N - 1 := by omega
  have u1 : IntKind.u8.wrap ((l.length : Int) / 256) = ((lenHi l.length).toNat : Int) := by rw [IntKind.wrap_u8, lenHi, UInt8.toNat_ofNat']; omega
  have u2 : IntKind.u8.wrap (l.length : Int) = ((lenLo l.length).toNat : Int) := by rw [IntKind.wrap_u8, lenLo, UInt8.toNat_ofNat']; omega
  by_cases h7 : l.length % 16 ≤ 7
  · have h8 : ¬ (7 : Int) < (l.length : Int) % 16 := by omega
    have h9 : (l.length : Int) / 16 * 16 + 16 = (N : Int) := by omega
    go_enter Try.func148, Try.ntmps148
    go_wp2_with (first
      | ((with_reducible refine s_ 2 ?_); go_must (refine wl_alloc (dst := some 2) (cs := kc zeroKey) 23 _ Try.zeroValue23 kc_zero HM ?_; clear HM; intro b2 W HM))
      | ((with_reducible refine s_ 9 ?_); go_must ((refine wl_len (dst := some 9) _ _ _ _ 5 Try.underlying24 rfl (hR.mem HM) ?_)))
      | ((with_reducible refine s_ 13 ?_); go_must ((refine wl_len (dst := some 13) _ _ _ _ 5 Try.underlying24 rfl (hR.mem HM) ?_)))
      | ((with_reducible refine s_ 18 ?_); go_must ((refine wl_len (dst := some 18) _ _ _ _ 5 Try.underlying24 rfl (hR.mem HM) ?_)))
      | ((with_reducible refine s_ 24 ?_); go_must ((refine wl_make (dst := some 24) _ _ _ _ _ _ _ _ _ _ Try.underlying24 inf5 rfl rfl (by omega) (by decide) (by omega) HM ?_; clear HM; intro b24 W HM; rw [Int.toNat_natCast, Nat.mul_one, made_bytes] at HM; rw [Int.toNat_natCast])))
      | ((with_reducible refine s_ 27 ?_); go_must ((refine wl_copy (dst := some 27) _ _ _ _ _ _ _ _ _ _ _ l Try.underlying24 sz5 encB_len encB_one rfl rfl HM .here (hR.mem HM) (by rw [bytesC_size, List.length_replicate]; omega) ?_; clear HM; intro W HM; (try dsimp only at HM); rw [copy_bytes l N (by omega)] at HM)))
      | ((with_reducible refine s_ 30 ?_); go_must ((refine wl_len (dst := some 30) _ _ _ _ 5 Try.underlying24 rfl (hR.mem HM) ?_)))
      | ((with_reducible refine s_ 39 ?_); go_must ((refine wl_len (dst := some 39) _ _ _ _ 5 Try.underlying24 rfl (hR.mem HM) ?_)))
      | ((with_reducible refine s_ 43 ?_); go_must ((refine wl_len (dst := some 43) _ _ _ _ 5 Try.underlying24 rfl (hR.mem HM) ?_)))
      | ((with_reducible refine s_ 6 ?_); go_must (refine wl_alloc (dst := some 6) (cs := kc zeroKey) 23 _ Try.zeroValue23 kc_zero HM ?_; clear HM; intro b6 W HM))
      | ((with_reducible refine st_ 5 ?_); go_must ((refine wl_store_cell _ _ _ _ _ _ _ _ _ rfl rfl HM .here sz5 rfl (by first | omega | (simp; done) | (simp [kc_size]; omega) | (simp only [Array.size_setIfInBounds, bytesC_size, List.length_append, List.length_replicate, List.length_set]; omega)) rfl ?_); clear HM; intro W HM; try (simp only [Act.eval, Array.getD_eq_getD_getElem?, List.getElem?_toArray, List.getElem?_cons_succ, List.getElem?_cons_zero, Option.getD_some, List.setIfInBounds_toArray, List.set_cons_succ, List.set_cons_zero] at HM))))
    rw [set128, bytesC_set, bytesC_set, hset] at HM
    go_loopw [7, 47] (fun q i wr => ∃ j : Nat, j ≤ 16 ∧ i = .int .i64 j ∧ Mem w wr [.blk b6 (kc (fill j)) 23, .blk b24 (bytesC (padL l)) 5, .blk b2 (kc zeroKey) 23])
      (fun _ i _ => 16 - (intOf i).toNat)
    case atStart => exact ⟨0, by omega, rfl, by rw [fill_zero]; exact HM⟩
    case round =>
      clear HM
      obtain ⟨j, hj, rfl, HM⟩ := hrel
      by_cases hlt : j < 16
      · have hb1 : (j : Int) < 16 := by omega
        go_wp2_with (first
          | ((with_reducible refine st_ 5 ?_); go_must ((refine wl_store_cell _ _ _ _ _ _ _ _ _ rfl rfl HM .here sz5 rfl (by first | omega | (simp; done) | (simp [kc_size]; omega) | (simp only [Array.size_setIfInBounds, bytesC_size, List.length_append, List.length_replicate, List.length_set]; omega)) rfl ?_); clear HM; intro W HM; try (simp only [Act.eval, Array.getD_eq_getD_getElem?, List.getElem?_toArray, List.getElem?_cons_succ, List.getElem?_cons_zero, Option.getD_some, List.setIfInBounds_toArray, List.set_cons_succ, List.set_cons_zero] at HM))))
        rw [show (kc (fill j)).setIfInBounds j (.int .u8 90) = kc (fill (j + 1)) from by rw [← fill_set j hlt]; exact kc_set _ _ hlt 90] at HM
        go_roundw
        case rel => exact ⟨j + 1, by omega, by go_num, HM⟩
        case measure => simp [intOf]; omega
      · obtain rfl : j = 16 := by omega
        rw [fill_end] at HM
        go_wp2_with (first
          | ((with_reducible refine st_ 23 ?_); go_must ((refine wl_store_blk _ _ _ _ _ _ _ rfl rfl HM (.there (.there .here)) (by rw [kc_size]; exact sz23) (by simp only [kc_size]) (kc_one _) ?_); clear HM; intro W HM))
          | ((with_reducible refine ld_ 23 ?_); go_must (refine wl_load_blk _ _ _ _ _ _ rfl HM (by repeat first | exact List.mem_cons_self .. | refine List.mem_cons_of_mem _ ?_) Try.underlying23 rfl (by rw [kc_size]; exact sz23) ?_))
          | (go_at_call 161; go_must (((with_reducible refine (fold_c _ _ (padL l) (N / 16) _ (RdL.of_blk (HM.blk m1) (padL l) N hpl (bytesC_list _) (by simp only [maxLen]; omega)) (by omega) (by omega)).mono ?_)); rintro e W ⟨rfl, HM'⟩; replace HM := HM.keep HM'.below; clear HM')))
        refine ret2 rfl (by (exact res_row HM rfl m2 Try.underlying23 rfl (by rw [kc_size]; exact sz23))) (res_tmp rfl) rfl ?_
        refine ⟨?_, HM.base⟩
        rw [digestL, ← padL_len, hpl]; rfl
  · have h8 : (7 : Int) < (l.length : Int) % 16 := by omega
    have h3 : IntKind.i64.wrap ((l.length : Int) / 16 * 16 + 16 + 16) = (N : Int) := by rw [IntKind.wrap_i64]; omega
    go_enter Try.func148, Try.ntmps148
    go_wp2_with (first
      | ((with_reducible refine s_ 2 ?_); go_must (refine wl_alloc (dst := some 2) (cs := kc zeroKey) 23 _ Try.zeroValue23 kc_zero HM ?_; clear HM; intro b2 W HM))
      | ((with_reducible refine s_ 9 ?_); go_must ((refine wl_len (dst := some 9) _ _ _ _ 5 Try.underlying24 rfl (hR.mem HM) ?_)))
      | ((with_reducible refine s_ 13 ?_); go_must ((refine wl_len (dst := some 13) _ _ _ _ 5 Try.underlying24 rfl (hR.mem HM) ?_)))
      | ((with_reducible refine s_ 18 ?_); go_must ((refine wl_len (dst := some 18) _ _ _ _ 5 Try.underlying24 rfl (hR.mem HM) ?_)))
      | ((with_reducible refine s_ 24 ?_); go_must ((refine wl_make (dst := some 24) _ _ _ _ _ _ _ _ _ _ Try.underlying24 inf5 rfl rfl (by omega) (by decide) (by omega) HM ?_; clear HM; intro b24 W HM; rw [Int.toNat_natCast, Nat.mul_one, made_bytes] at HM; rw [Int.toNat_natCast])))
      | ((with_reducible refine s_ 27 ?_); go_must ((refine wl_copy (dst := some 27) _ _ _ _ _ _ _ _ _ _ _ l Try.underlying24 sz5 encB_len encB_one rfl rfl HM .here (hR.mem HM) (by rw [bytesC_size, List.length_replicate]; omega) ?_; clear HM; intro W HM; (try dsimp only at HM); rw [copy_bytes l N (by omega)] at HM)))
      | ((with_reducible refine s_ 30 ?_); go_must ((refine wl_len (dst := some 30) _ _ _ _ 5 Try.underlying24 rfl (hR.mem HM) ?_)))
      | ((with_reducible refine s_ 39 ?_); go_must ((refine wl_len (dst := some 39) _ _ _ _ 5 Try.underlying24 rfl (hR.mem HM) ?_)))
      | ((with_reducible refine s_ 43 ?_); go_must ((refine wl_len (dst := some 43) _ _ _ _ 5 Try.underlying24 rfl (hR.mem HM) ?_)))
      | ((with_reducible refine s_ 6 ?_); go_must (refine wl_alloc (dst := some 6) (cs := kc zeroKey) 23 _ Try.zeroValue23 kc_zero HM ?_; clear HM; intro b6 W HM))
      | ((with_reducible refine st_ 5 ?_); go_must ((refine wl_store_cell _ _ _ _ _ _ _ _ _ rfl rfl HM .here sz5 rfl (by first | omega | (simp; done) | (simp [kc_size]; omega) | (simp only [Array.size_setIfInBounds, bytesC_size, List.length_append, List.length_replicate, List.length_set]; omega)) rfl ?_); clear HM; intro W HM; try (simp only [Act.eval, Array.getD_eq_getD_getElem?, List.getElem?_toArray, List.getElem?_cons_succ, List.getElem?_cons_zero, Option.getD_some, List.setIfInBounds_toArray, List.set_cons_succ, List.set_cons_zero] at HM))))
    rw [set128, bytesC_set, bytesC_set, hset] at HM
    go_loopw [7, 47] (fun q i wr => ∃ j : Nat, j ≤ 16 ∧ i = .int .i64 j ∧ Mem w wr [.blk b6 (kc (fill j)) 23, .blk b24 (bytesC (padL l)) 5, .blk b2 (kc zeroKey) 23])
      (fun _ i _ => 16 - (intOf i).toNat)
    case atStart => exact ⟨0, by omega, rfl, by rw [fill_zero]; exact HM⟩
    case round =>
      clear HM
      obtain ⟨j, hj, rfl, HM⟩ := hrel
      by_cases hlt : j < 16
      · have hb1 : (j : Int) < 16 := by omega
        go_wp2_with (first
          | ((with_reducible refine st_ 5 ?_); go_must ((refine wl_store_cell _ _ _ _ _ _ _ _ _ rfl rfl HM .here sz5 rfl (by first | omega | (simp; done) | (simp [kc_size]; omega) | (simp only [Array.size_setIfInBounds, bytesC_size, List.length_append, List.length_replicate, List.length_set]; omega)) rfl ?_); clear HM; intro W HM; try (simp only [Act.eval, Array.getD_eq_getD_getElem?, List.getElem?_toArray, List.getElem?_cons_succ, List.getElem?_cons_zero, Option.getD_some, List.setIfInBounds_toArray, List.set_cons_succ, List.set_cons_zero] at HM))))
        rw [show (kc (fill j)).setIfInBounds j (.int .u8 90) = kc (fill (j + 1)) from by rw [← fill_set j hlt]; exact kc_set _ _ hlt 90] at HM
        go_roundw
        case rel => exact ⟨j + 1, by omega, by go_num, HM⟩
        case measure => simp [intOf]; omega
      · obtain rfl : j = 16 := by omega
        rw [fill_end] at HM
        go_wp2_with (first
          | ((with_reducible refine st_ 23 ?_); go_must ((refine wl_store_blk _ _ _ _ _ _ _ rfl rfl HM (.there (.there .here)) (by rw [kc_size]; exact sz23) (by simp only [kc_size]) (kc_one _) ?_); clear HM; intro W HM))
          | ((with_reducible refine ld_ 23 ?_); go_must (refine wl_load_blk _ _ _ _ _ _ rfl HM (by repeat first | exact List.mem_cons_self .. | refine List.mem_cons_of_mem _ ?_) Try.underlying23 rfl (by rw [kc_size]; exact sz23) ?_))
          | (go_at_call 161; go_must (((with_reducible refine (fold_c _ _ (padL l) (N / 16) _ (RdL.of_blk (HM.blk m1) (padL l) N hpl (bytesC_list _) (by simp only [maxLen]; omega)) (by omega) (by omega)).mono ?_)); rintro e W ⟨rfl, HM'⟩; replace HM := HM.keep HM'.below; clear HM')))
        refine ret2 rfl (by (exact res_row HM rfl m2 Try.underlying23 rfl (by rw [kc_size]; exact sz23))) (res_tmp rfl) rfl ?_
        refine ⟨?_, HM.base⟩
        rw [digestL, ← padL_len, hpl]; rfl
end Go.Proofs.Ythdekionepfmdaa
