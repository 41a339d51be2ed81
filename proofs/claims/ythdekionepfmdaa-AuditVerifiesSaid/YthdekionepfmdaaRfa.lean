/- The reference's cipher: words, bytes, blocks. -/
import Derived.Test.YthdekionepfmdaaCic
set_option linter.unusedVariables false
set_option linter.unusedSimpArgs false
namespace Go.Proofs.Ythdekionepfmdaa
open Go.RowKit

theorem Mem.only {w0 W : World} {L : List It} (h : Mem w0 W L) {x : It} (hk : x ∈ L) : Mem w0 W [x] := h.sub (List.singleton_sublist.2 hk)
theorem orU_comm (a b : UInt64) : orU a b = orU b a := UInt64.or_comm a b

section
attribute [local go_sem] bx64 bo64 w64_8 wa64 ws64 w8_64
set_option maxHeartbeats 400000 in
theorem rotr_any (x : UInt64) (n : Int) (s : Nat) (hn : n = (s : Int)) (hs : 0 < s) (hs' : s < 64) (w : World) :
    Calls Try.prog 117 #[.int .u64 x.toNat, .int .i64 n] w fun e w' => e = .returned (.int .u64 (rotl x (64 - s)).toNat) ∧ Mem w w' [] := by
  subst hn
  have HM := Mem.start w
  have h1 : IntKind.u64.wrap ((x.toNat : Int) * 2 ^ (64 - s)) = ((shlU x (64 - s)).toNat : Int) := shl64 x (64 - s) (by omega)
  have h2 : (x.toNat : Int) / 2 ^ s = ((shrU x s).toNat : Int) := shr64 x s hs'
  have h3 : IntKind.i64.wrap (64 - (s : Int)) = 64 - (s : Int) := by rw [IntKind.wrap_i64]; omega
  have h4 : (64 - (s : Int)).toNat = 64 - s := by omega
  have h5 : 0 ≤ 64 - (s : Int) := by omega
  go_enter Try.func117, Try.ntmps117
  go_wp2_with (fail)
  replace HM := HM.drew
  refine wp_region_mixN (fun W => Held w W []) (fun W => Held w W []) (.cons (2, 0) (.cons (2, 1) (.cons (2, 2) (.cons (2, 3) (.cons (2, 4) (.cons (2, 5) (.cons (2, 6) (.cons (2, 7) (.cons (2, 8) .nil))))))))) [] (by kernel_rfl) (by kernel_rfl) (by kernel_rfl) (fun W h => Held.weak h (by simp)) (HM.held (by simp)) ?_
  revert HM; generalize World.drew _ = W; intro HM
  have HS1 : Held w W [] := HM.held (by simp)
  have HS2 : Held w W [] := HM.held (by simp)
  refine wm_q2 (i := 0) (v := ?v1_1) (some 5) rfl rfl rfl HS2 (fun W HS => ?y1_1) ?_
  case y1_1 => (go_simp; try with_reducible rfl)
  simp only [Act.put, List.getElem_toArray, List.getElem_cons_succ, List.getElem_cons_zero, List.setIfInBounds_toArray, List.set_cons_succ, List.set_cons_zero]
  refine wm_q2 (i := 1) (v := ?v1_2) (some 6) rfl rfl rfl HS2 (fun W HS => ?y1_2) ?_
  case y1_2 => (go_simp; try with_reducible rfl)
  simp only [Act.put, List.getElem_toArray, List.getElem_cons_succ, List.getElem_cons_zero, List.setIfInBounds_toArray, List.set_cons_succ, List.set_cons_zero]
  refine wm_q2 (i := 2) (v := ?v1_3) (some 7) rfl rfl rfl HS2 (fun W HS => ?y1_3) ?_
  case y1_3 => (go_simp; try with_reducible rfl)
  simp only [Act.put, List.getElem_toArray, List.getElem_cons_succ, List.getElem_cons_zero, List.setIfInBounds_toArray, List.set_cons_succ, List.set_cons_zero]
  refine wm_q2 (i := 3) (v := ?v1_4) (some 8) rfl rfl rfl HS2 (fun W HS => ?y1_4) ?_
  case y1_4 => (go_simp; try with_reducible rfl)
  simp only [Act.put, List.getElem_toArray, List.getElem_cons_succ, List.getElem_cons_zero, List.setIfInBounds_toArray, List.set_cons_succ, List.set_cons_zero]
  refine wm_q2 (i := 4) (v := ?v1_5) (some 9) rfl rfl rfl HS2 (fun W HS => ?y1_5) ?_
  case y1_5 => (go_simp; try with_reducible rfl)
  simp only [Act.put, List.getElem_toArray, List.getElem_cons_succ, List.getElem_cons_zero, List.setIfInBounds_toArray, List.set_cons_succ, List.set_cons_zero]
  refine wm_q2 (i := 5) (v := ?v1_6) (some 10) rfl rfl rfl HS2 (fun W HS => ?y1_6) ?_
  case y1_6 => (go_simp; try with_reducible rfl)
  simp only [Act.put, List.getElem_toArray, List.getElem_cons_succ, List.getElem_cons_zero, List.setIfInBounds_toArray, List.set_cons_succ, List.set_cons_zero]
  refine wm_q2 (i := 6) (v := ?v1_7) (some 11) rfl rfl rfl HS2 (fun W HS => ?y1_7) ?_
  case y1_7 => (go_simp; try with_reducible rfl)
  simp only [Act.put, List.getElem_toArray, List.getElem_cons_succ, List.getElem_cons_zero, List.setIfInBounds_toArray, List.set_cons_succ, List.set_cons_zero]
  refine wm_q2 (i := 7) (v := ?v1_8) (some 12) rfl rfl rfl HS2 (fun W HS => ?y1_8) ?_
  case y1_8 => (go_simp; try with_reducible rfl)
  simp only [Act.put, List.getElem_toArray, List.getElem_cons_succ, List.getElem_cons_zero, List.setIfInBounds_toArray, List.set_cons_succ, List.set_cons_zero]
  refine wm_q2 (i := 8) (v := ?v1_9) (some 4) rfl rfl rfl HS2 (fun W HS => ?y1_9) ?_
  case y1_9 => (go_simp; try with_reducible rfl)
  simp only [Act.put, List.getElem_toArray, List.getElem_cons_succ, List.getElem_cons_zero, List.setIfInBounds_toArray, List.set_cons_succ, List.set_cons_zero]
  refine wm_nilN ?_
  clear HS1 HS2
  go_wp2_with (fail)
  refine ret1 rfl (res_tmp rfl) rfl ?_
  refine ⟨?_, HM⟩
  rw [rotl, show 64 - (64 - s) = s by omega, orU_comm (shlU _ _)]; rfl
end
theorem rotr_8 (x : UInt64) (w : World) : Calls Try.prog 117 #[.int .u64 x.toNat, .int .i64 8] w fun e w' => e = .returned (.int .u64 (rotl x 56).toNat) ∧ Mem w w' [] := rotr_any x 8 8 rfl (by decide) (by decide) w
theorem rotr_3 (x : UInt64) (w : World) : Calls Try.prog 117 #[.int .u64 x.toNat, .int .i64 3] w fun e w' => e = .returned (.int .u64 (rotl x 61).toNat) ∧ Mem w w' [] := rotr_any x 3 3 rfl (by decide) (by decide) w
theorem rotr_61 (x : UInt64) (w : World) : Calls Try.prog 117 #[.int .u64 x.toNat, .int .i64 61] w fun e w' => e = .returned (.int .u64 (rotl x 3).toNat) ∧ Mem w w' [] := rotr_any x 61 61 rfl (by decide) (by decide) w
theorem rotr_56 (x : UInt64) (w : World) : Calls Try.prog 117 #[.int .u64 x.toNat, .int .i64 56] w fun e w' => e = .returned (.int .u64 (rotl x 8).toNat) ∧ Mem w w' [] := rotr_any x 56 56 rfl (by decide) (by decide) w
theorem rotl_3 (x : UInt64) (w : World) : Calls Try.prog 118 #[.int .u64 x.toNat, .int .i64 3] w fun e w' => e = .returned (.int .u64 (rotl x 3).toNat) ∧ Mem w w' [] := by
  have HM := Mem.start w
  go_enter Try.func118, Try.ntmps118
  go_wp2_with (first
    | (go_at_call 117; go_must (((with_reducible refine (rotr_61 _ _).mono ?_)); rintro e W ⟨rfl, HM'⟩; replace HM := HM.keep HM'.below; clear HM')))
  refine ret1 rfl (res_tmp rfl) rfl ?_
  exact ⟨rfl, HM⟩
theorem rotl_8 (x : UInt64) (w : World) : Calls Try.prog 118 #[.int .u64 x.toNat, .int .i64 8] w fun e w' => e = .returned (.int .u64 (rotl x 8).toNat) ∧ Mem w w' [] := by
  have HM := Mem.start w
  go_enter Try.func118, Try.ntmps118
  go_wp2_with (first
    | (go_at_call 117; go_must (((with_reducible refine (rotr_56 _ _).mono ?_)); rintro e W ⟨rfl, HM'⟩; replace HM := HM.keep HM'.below; clear HM')))
  refine ret1 rfl (res_tmp rfl) rfl ?_
  exact ⟨rfl, HM⟩

/-- 256 n + b. -/
theorem wordStep (n : UInt64) (b : UInt8) : IntKind.u64.wrap (IntKind.u64.wrap (256 * (n.toNat : Int)) + (b.toNat : Int)) = ((orU (shlU n 8) (ofB b)).toNat : Int) := by
  have hb : b.toNat < 256 := b.toNat_lt
  have hn := u64_lt n
  have e1 : (orU (shlU n 8) (ofB b)).toNat = (n.toNat * 256 + b.toNat) % 18446744073709551616 := by
    rw [orU, shlU, ofB, UInt64.toNat_or, UInt64.toNat_shiftLeft, UInt8.toNat_toUInt64]
    have h8 : (UInt64.ofNat 8).toNat % 64 = 8 := by decide
    rw [h8]
    have h1 : n.toNat <<< 8 % 2 ^ 64 = (n.toNat % 2 ^ 56) <<< 8 := by
      rw [Nat.shiftLeft_eq, Nat.shiftLeft_eq]; omega
    rw [h1, ← Nat.shiftLeft_add_eq_or_of_lt (by omega), Nat.shiftLeft_eq]
    omega
  rw [e1, IntKind.wrap_u64, IntKind.wrap_u64]
  omega

set_option maxHeartbeats 400000 in
theorem value_c (v : Value) (l : List UInt8) (w : World) (hR : RdL encB 1 w v l) (hl : l.length ≤ 1073741824) :
    Calls Try.prog 146 #[v] w fun e w' => e = .returned (.int .u64 (wordL l).toNat) ∧ Mem w w' [] := by
  have HM := Mem.start w
  go_enter Try.func146, Try.ntmps146
  go_wp2_with (fail)
  go_loopw [3, 4] (fun n i wr => ∃ j : Nat, j ≤ l.length ∧ i = .int .i64 j ∧ n = .int .u64 (wordL (l.take j)).toNat ∧ Mem w wr [])
    (fun _ i _ => l.length - (intOf i).toNat)
  case atStart => exact ⟨0, by omega, rfl, rfl, HM⟩
  case round =>
    clear HM
    obtain ⟨j, hj, rfl, rfl, HM⟩ := hrel
    by_cases hlt : j < l.length
    · have hx : l[j]? = some l[j] := List.getElem?_eq_getElem hlt
      have hw := wordStep (wordL (l.take j)) l[j]
      have hw1 : IntKind.u64.wrap (l[j].toNat : Int) = (l[j].toNat : Int) := by rw [IntKind.wrap_u64]; have := l[j].toNat_lt; omega
      have e2 := wordL_take l j hlt
      rw [← e2] at hw
      go_wp2_with (first
        | ((with_reducible refine s_ 7 ?_); go_must ((refine wl_len (dst := some 7) _ _ _ _ 5 Try.underlying24 rfl (hR.mem HM) ?_)))
        | ((with_reducible refine s_ 15 ?_); go_must ((refine wl_index (dst := some 15) _ 5 _ _ _ _ _ _ _ encB_len Try.underlying24 sz5 rfl rfl (hR.mem HM) (by omega) (by first | assumption | simp [*]) ?_); intro p15 hp15))
        | ((with_reducible refine s_ 16 ?_); go_must (refine wl_load_at1 (dst := some 16) _ _ _ _ _ rfl hp15 Try.underlying5 rfl ?_)))
      go_roundw
      case rel => exact ⟨j + 1, by omega, by go_num, by rw [e2], HM⟩
      case measure => simp [intOf]; omega
    · obtain rfl : j = l.length := by omega
      rw [List.take_length]
      go_wp2_with (first
        | ((with_reducible refine s_ 7 ?_); go_must ((refine wl_len (dst := some 7) _ _ _ _ 5 Try.underlying24 rfl (hR.mem HM) ?_))))
      refine ret1 rfl (res_tmp rfl) rfl ?_
      exact ⟨rfl, HM⟩

theorem rd_part {W w0 : World} {L : List It} {b : Nat} {k : Key} {t : TypeId} (hM : Mem w0 W L) (hk : It.blk b (kc k) t ∈ L) (i n c : Nat) (hn : i + n ≤ 16) (hc : n ≤ c) (hcm : c ≤ maxLen) :
    RdL encB 1 W (.slice (some ⟨b, i, none⟩) n c) ((k.toList.drop i).take n) := by
  have hlen : ((k.toList.drop i).take n).length = n := by simp; omega
  refine ⟨some ⟨b, i, none⟩, c, by rw [hlen], by omega, hcm, fun _ => ⟨b, i, rfl, fun j v hv => ?_⟩⟩
  rw [cell_of_row W b (i + j) _ t _ (hM.blk hk)]
  have h1 : ((k.toList.drop i).take n).flatMap encB = ((kc k).toList.drop i).take n := by
    rw [flatMap_take encB_len, flatMap_drop encB_len, kc_toList, encK]; simp
  rw [h1, List.getElem?_take, List.getElem?_drop] at hv
  split at hv
  · rw [← Array.getElem?_toList]; exact hv
  · cases hv

set_option maxHeartbeats 400000 in
theorem words_c (k : Key) (w : World) :
    Calls Try.prog 115 #[.agg (kc k)] w fun e w' => e = .returned (.tuple #[.int .u64 (wordsK k).1.toNat, .int .u64 (wordsK k).2.toNat]) ∧ Mem w w' [] := by
  have HM := Mem.start w
  go_enter Try.func115, Try.ntmps115
  go_wp2_with (first
    | ((with_reducible refine s_ 1 ?_); go_must (refine wl_box (dst := some 1) (cs := kc k) _ _ _ rfl rfl HM ?_; clear HM; intro b1 W HM)))
  replace HM := HM.drew
  refine wp_region_mixN (fun W => Held w W [.blk b1 (kc k) 23]) (fun W => Held w W [.blk b1 (kc k) 23]) (.cons (2, 0) (.cons (2, 2) (.cons (0, 1) (.cons (0, 3) (.cons (2, 4) (.cons (2, 5) .nil)))))) [] (by kernel_rfl) (by kernel_rfl) (by kernel_rfl) (fun W h => Held.weak h (by simp)) (HM.held (by simp)) ?_
  revert HM; generalize World.drew _ = W; intro HM
  have HS1 : Held w W [.blk b1 (kc k) 23] := HM.held (by simp)
  have HS2 : Held w W [.blk b1 (kc k) 23] := HM.held (by simp)
  refine wm_q2 (i := 0) (v := ?v1_1) (some 4) rfl rfl rfl HS2 (fun W HS => ?y1_1) ?_
  case y1_1 => (go_simp; try with_reducible rfl)
  simp only [Act.put, List.getElem_toArray, List.getElem_cons_succ, List.getElem_cons_zero, List.setIfInBounds_toArray, List.set_cons_succ, List.set_cons_zero]
  refine wm_q2 (i := 2) (v := ?v1_2) (some 6) rfl rfl rfl HS2 (fun W HS => ?y1_2) ?_
  case y1_2 => (go_simp; try with_reducible rfl)
  simp only [Act.put, List.getElem_toArray, List.getElem_cons_succ, List.getElem_cons_zero, List.setIfInBounds_toArray, List.set_cons_succ, List.set_cons_zero]
  refine wm_e0 (i := 1) rfl ?_
  go_wp2_with (first
    | (go_at_call 146; go_must (((with_reducible refine (value_c _ _ _ (rd_part HM m0 0 8 16 (by omega) (by omega) (by decide)) (by simp)).mono ?_)); rintro e W ⟨rfl, HM'⟩; replace HM := HM.keep HM'.below; clear HM')))
  refine ⟨HM.held (by simp), ?_⟩
  clear HS1 HS2
  have HS1 : Held w W [.blk b1 (kc k) 23] := HM.held (by simp)
  have HS2 : Held w W [.blk b1 (kc k) 23] := HM.held (by simp)
  refine wm_e0 (i := 3) rfl ?_
  go_wp2_with (first
    | (go_at_call 146; go_must (((with_reducible refine (value_c _ _ _ (rd_part HM m0 8 8 8 (by omega) (by omega) (by decide)) (by simp)).mono ?_)); rintro e W ⟨rfl, HM'⟩; replace HM := HM.keep HM'.below; clear HM')))
  refine ⟨HM.held (by simp), ?_⟩
  clear HS1 HS2
  have HS1 : Held w W [.blk b1 (kc k) 23] := HM.held (by simp)
  have HS2 : Held w W [.blk b1 (kc k) 23] := HM.held (by simp)
  refine wm_q2 (i := 4) (v := ?v1_3) (some 2) rfl rfl rfl HS2 (fun W HS => ?y1_3) ?_
  case y1_3 => (go_simp; try with_reducible rfl)
  simp only [Act.put, List.getElem_toArray, List.getElem_cons_succ, List.getElem_cons_zero, List.setIfInBounds_toArray, List.set_cons_succ, List.set_cons_zero]
  refine wm_q2 (i := 5) (v := ?v1_4) (some 3) rfl rfl rfl HS2 (fun W HS => ?y1_4) ?_
  case y1_4 => (go_simp; try with_reducible rfl)
  simp only [Act.put, List.getElem_toArray, List.getElem_cons_succ, List.getElem_cons_zero, List.setIfInBounds_toArray, List.set_cons_succ, List.set_cons_zero]
  refine wm_nilN ?_
  clear HS1 HS2
  have e8 : (k.toList.drop 8).take 8 = k.toList.drop 8 := List.take_of_length_le (by simp)
  rw [e8]
  go_wp2_with (fail)
  refine ret2 rfl (res_tmp rfl) (res_tmp rfl) rfl ?_
  exact ⟨rfl, HM.base⟩

/-- The i-th digit to base 256, from the lowest. -/
def byteAt (n : UInt64) (i : Nat) : UInt8 := UInt8.ofNat (n.toNat / 256 ^ i)
def bytesN (n : UInt64) : Nat → List UInt8
  | 0 => []
  | i + 1 => byteAt n i :: bytesN n i
theorem bytesN_len (n : UInt64) (i : Nat) : (bytesN n i).length = i := by induction i with
  | zero => rfl
  | succ i ih => simp [bytesN, ih]
def quo (n : UInt64) (i : Nat) : Nat := n.toNat / 256 ^ i
theorem quo_zero (n : UInt64) : quo n 0 = n.toNat := by simp [quo]
theorem byteAt_nat (n : UInt64) (i : Nat) : ((quo n i : Nat) : Int) % 256 = ((byteAt n i).toNat : Int) := by
  rw [byteAt, UInt8.toNat_ofNat']; simp only [quo]; omega
theorem quo_succ (n : UInt64) (i : Nat) : IntKind.u64.wrap (((quo n i : Nat) : Int) / 256) = ((quo n (i + 1) : Nat) : Int) := by
  have h1 : quo n (i + 1) = quo n i / 256 := by simp only [quo]; rw [Nat.pow_succ, Nat.div_div_eq_div_mul]
  have h2 : quo n i ≤ n.toNat := Nat.div_le_self _ _
  have h3 := u64_lt n
  rw [h1, IntKind.wrap_u64]; omega

set_option maxHeartbeats 400000 in
theorem bytes_c (n : UInt64) (s : Nat) (hs : s ≤ 1000) (w : World) :
    Calls Try.prog 138 #[.int .u64 n.toNat, .int .i64 s] w fun e w' => ∃ v, e = .returned v ∧ Mem w w' [.row v 5 1 s ((bytesN n s).flatMap encB)] := by
  have HM := Mem.start w
  go_enter Try.func138, Try.ntmps138
  go_wp2_with (fail)
  replace HM := HM.nilrow 5 1
  go_loopw [0, 5, 6] (fun m o c wr => ∃ i : Nat, i ≤ s ∧ c = .int .i64 i ∧ m = .int .u64 ((quo n i : Nat) : Int) ∧ Mem w wr [.row o 5 1 i ((bytesN n i).flatMap encB)])
    (fun _ _ c _ => s - (intOf c).toNat)
  case atStart => exact ⟨0, by omega, rfl, by rw [quo_zero], HM⟩
  case round =>
    clear HM
    obtain ⟨i, hi, rfl, rfl, HM⟩ := hrel
    by_cases hlt : i < s
    · have hb := byteAt_nat n i
      have hq := quo_succ n i
      go_wp2_with (first
        | ((with_reducible refine s_ 15 ?_); go_must (refine wl_buildSlice (dst := some 15) (cs := #[.int .u8 (byteAt n i).toNat]) _ _ _ 5 1 _ Try.underlying24 Try.sizeOf5 Try.zeroValue5 (by decide) (by simp [Instr.fill, Act.eval, Act.put, Value.cells, undef, ← List.toArray_range, List.range_succ]) HM ?_; clear HM; intro b15 W HM; replace HM := HM.toRow 1 1 .here rfl (by simp [maxLen])))
        | ((with_reducible refine s_ 17 ?_); go_must (refine wl_append (dst := some 17) (enc := encB) _ _ _ _ _ _ _ _ _ _ _ (bytesN n i) Try.underlying24 inf5 rfl (by decide) encB_len encB_one HM .here (HM.rdRow (by decide) encB_len m1) rfl rfl (by decide) (by rw [bytesN_len]; omega) ?_; clear HM; intro v17 W HM; try dsimp only at HM)))
      rw [bytesN_len, Nat.add_comm] at HM
      go_roundw
      case rel => exact ⟨i + 1, by omega, by go_num, rfl, HM.only m0⟩
      case measure => simp [intOf]; omega
    · obtain rfl : i = s := by omega
      go_wp2_with (fail)
      refine ret1 rfl (res_tmp rfl) rfl ?_
      exact ⟨_, rfl, HM⟩

/-! ### Bytes as a key -/
def keyL (l : List UInt8) : Key := Vector.ofFn fun i : Fin 16 => l.getD i 0
theorem keyL_nil : keyL [] = zeroKey := by
  apply Vector.ext; intro i hi; simp [keyL, zeroKey]
theorem keyL_set (l : List UInt8) (j : Nat) (h : j < 16) (hl : j < l.length) : (keyL (l.take j)).set j l[j] = keyL (l.take (j + 1)) := by
  apply Vector.ext; intro i hi
  rw [Vector.getElem_set]
  simp only [keyL, Vector.getElem_ofFn, List.getD_eq_getElem?_getD, List.getElem?_take]
  by_cases e : j = i
  · subst e; simp [hl]
  · rw [if_neg e]
    by_cases h1 : i < j
    · rw [if_pos h1, if_pos (by omega)]
    · rw [if_neg h1, if_neg (by omega)]
theorem keyL_take (l : List UInt8) (j : Nat) (h : j = 16 ∨ j = l.length) : keyL (l.take j) = keyL l := by
  apply Vector.ext; intro i hi
  simp only [keyL, Vector.getElem_ofFn, List.getD_eq_getElem?_getD, List.getElem?_take]
  split
  · rfl
  · rw [List.getElem?_eq_none (by omega)]
theorem keyL_list (l : List UInt8) (h : l.length = 16) : (keyL l).toList = l := by
  apply List.ext_getElem
  · simp [h]
  · intro i h1 h2; simp [keyL, h2]

set_option maxHeartbeats 400000 in
theorem key_c (v : Value) (l : List UInt8) (w : World) (hR : RdL encB 1 w v l) (hl : l.length ≤ 1073741824) :
    Calls Try.prog 145 #[v] w fun e w' => e = .returned (.agg (kc (keyL l))) ∧ Mem w w' [] := by
  have HM := Mem.start w
  go_enter Try.func145, Try.ntmps145
  go_wp2_with (first
    | ((with_reducible refine s_ 2 ?_); go_must (refine wl_alloc (dst := some 2) (cs := kc zeroKey) 23 _ Try.zeroValue23 kc_zero HM ?_; clear HM; intro b2 W HM))
    | ((with_reducible refine s_ 3 ?_); go_must (refine wl_alloc (dst := some 3) (cs := kc zeroKey) 23 _ Try.zeroValue23 kc_zero HM ?_; clear HM; intro b3 W HM)))
  go_loopw [4] (fun i wr => ∃ j : Nat, j ≤ 16 ∧ j ≤ l.length ∧ i = .int .i64 j ∧ Mem w wr [.blk b3 (kc (keyL (l.take j))) 23, .blk b2 (kc zeroKey) 23])
    (fun i _ => 16 - (intOf i).toNat)
  case atStart => exact ⟨0, by omega, by omega, rfl, by rw [List.take_zero, keyL_nil]; exact HM⟩
  case round =>
    clear HM
    obtain ⟨j, hj, hj', rfl, HM⟩ := hrel
    by_cases hlt : j < 16 ∧ j < l.length
    · obtain ⟨h1, h2⟩ := hlt
      have hx : l[j]? = some l[j] := List.getElem?_eq_getElem h2
      have hb1 : (j : Int) < 16 := by omega
      have hb2 : (j : Int) < (l.length : Int) := by omega
      go_wp2_with (first
        | ((with_reducible refine gd_ _ ?_); refine wl_guard (by rfl) ?_)
        | ((with_reducible refine s_ 10 ?_); go_must ((refine wl_len (dst := some 10) _ _ _ _ 5 Try.underlying24 rfl (hR.mem HM) ?_)))
        | ((with_reducible refine s_ 18 ?_); go_must ((refine wl_index (dst := some 18) _ 5 _ _ _ _ _ _ _ encB_len Try.underlying24 sz5 rfl rfl (hR.mem HM) (by omega) (by first | assumption | simp [*]) ?_); intro p18 hp18))
        | ((with_reducible refine s_ 19 ?_); go_must (refine wl_load_at1 (dst := some 19) _ _ _ _ _ rfl hp18 Try.underlying5 rfl ?_))
        | ((with_reducible refine st_ 5 ?_); go_must ((refine wl_store_cell _ _ _ _ _ _ _ _ _ rfl rfl HM .here sz5 rfl (by first | omega | (simp; done) | (simp [kc_size]; omega) | (simp only [Array.size_setIfInBounds, bytesC_size, List.length_append, List.length_replicate, List.length_set]; omega)) rfl ?_); clear HM; intro W HM; try (simp only [Act.eval, Array.getD_eq_getD_getElem?, List.getElem?_toArray, List.getElem?_cons_succ, List.getElem?_cons_zero, Option.getD_some, List.setIfInBounds_toArray, List.set_cons_succ, List.set_cons_zero] at HM))))
      rw [kc_set _ _ h1, keyL_set l j h1 h2] at HM
      go_roundw
      case rel => exact ⟨j + 1, by omega, by omega, by go_num, HM⟩
      case measure => simp [intOf]; omega
    · have he := keyL_take l j (by omega)
      rw [he] at HM
      rcases Nat.lt_or_ge j 16 with h1 | h1
      · have hb1 : (j : Int) < 16 := by omega
        have hb2 : ¬ (j : Int) < (l.length : Int) := by omega
        go_wp2_with (first
          | ((with_reducible refine gd_ _ ?_); refine wl_guard (by rfl) ?_)
          | ((with_reducible refine s_ 10 ?_); go_must ((refine wl_len (dst := some 10) _ _ _ _ 5 Try.underlying24 rfl (hR.mem HM) ?_)))
          | ((with_reducible refine ld_ 23 ?_); go_must (refine wl_load_blk _ _ _ _ _ _ rfl HM (by repeat first | exact List.mem_cons_self .. | refine List.mem_cons_of_mem _ ?_) Try.underlying23 rfl (by rw [kc_size]; exact sz23) ?_))
          | ((with_reducible refine st_ 23 ?_); go_must ((refine wl_store_blk _ _ _ _ _ _ _ rfl rfl HM (.there .here) (by rw [kc_size]; exact sz23) (by simp only [kc_size]) (kc_one _) ?_); clear HM; intro W HM)))
        refine ret1 rfl (by (exact res_row HM rfl m1 Try.underlying23 rfl (by rw [kc_size]; exact sz23))) rfl ?_
        exact ⟨rfl, HM.base⟩
      · have hb1 : ¬ (j : Int) < 16 := by omega
        go_wp2_with (first
          | ((with_reducible refine ld_ 23 ?_); go_must (refine wl_load_blk _ _ _ _ _ _ rfl HM (by repeat first | exact List.mem_cons_self .. | refine List.mem_cons_of_mem _ ?_) Try.underlying23 rfl (by rw [kc_size]; exact sz23) ?_))
          | ((with_reducible refine st_ 23 ?_); go_must ((refine wl_store_blk _ _ _ _ _ _ _ rfl rfl HM (.there .here) (by rw [kc_size]; exact sz23) (by simp only [kc_size]) (kc_one _) ?_); clear HM; intro W HM)))
        refine ret1 rfl (by (exact res_row HM rfl m1 Try.underlying23 rfl (by rw [kc_size]; exact sz23))) rfl ?_
        exact ⟨rfl, HM.base⟩

theorem bytes8_c (n : UInt64) (w : World) : Calls Try.prog 138 #[.int .u64 n.toNat, .int .i64 8] w fun e w' => ∃ v, e = .returned v ∧ Mem w w' [.row v 5 1 8 ((bytesN n 8).flatMap encB)] := bytes_c n 8 (by decide) w
theorem bytes7_c (n : UInt64) (w : World) : Calls Try.prog 138 #[.int .u64 n.toNat, .int .i64 7] w fun e w' => ∃ v, e = .returned v ∧ Mem w w' [.row v 5 1 7 ((bytesN n 7).flatMap encB)] := bytes_c n 7 (by decide) w
theorem byteAt_shr (x : UInt64) (i : Nat) (h : i < 8) : byteAt x i = toB (shrU x (8 * i)) := by
  apply UInt8.toNat_inj.1
  rw [byteAt, toB, shrU, UInt64.toNat_toUInt8, UInt64.toNat_shiftRight, UInt8.toNat_ofNat']
  have h1 : (UInt64.ofNat (8 * i)).toNat % 64 = 8 * i := by rw [UInt64.toNat_ofNat']; omega
  rw [h1, Nat.shiftRight_eq_div_pow, show (256 : Nat) = 2 ^ 8 from rfl, ← Nat.pow_mul]
theorem bytesN_8 (x : UInt64) : bytesN x 8 = bytes8 x := by
  simp [bytesN, bytes8, List.range_succ, byteAt_shr]
theorem keyL_block (x y : UInt64) : keyL (bytesN x 8 ++ bytesN y 8) = blockK (x, y) := by
  apply Vector.toList_inj.1
  rw [keyL_list _ (by simp [bytesN_len]), bytesN_8, bytesN_8]
  simp [blockK]
theorem top_nat (t : UInt8) (c : UInt64) (h : c.toNat < 2 ^ 56) : (orU (shlU (ofB t) 56) c).toNat = t.toNat * 2 ^ 56 + c.toNat := by
  have ht : t.toNat < 256 := t.toNat_lt
  rw [orU, shlU, ofB, UInt64.toNat_or, UInt64.toNat_shiftLeft, UInt8.toNat_toUInt64]
  have h8 : (UInt64.ofNat 56).toNat % 64 = 56 := by decide
  rw [h8]
  have h1 : t.toNat <<< 56 % 2 ^ 64 = t.toNat <<< 56 := by rw [Nat.shiftLeft_eq]; omega
  rw [h1, ← Nat.shiftLeft_add_eq_or_of_lt h, Nat.shiftLeft_eq]
theorem keyL_tag (t : UInt8) (c n : UInt64) (h : c.toNat < 2 ^ 56) : keyL ([t] ++ bytesN c 7 ++ bytesN n 8) = blockOfK t c n := by
  rw [blockOfK, ← keyL_block]
  congr 2
  have ht : t.toNat < 256 := t.toNat_lt
  have e := top_nat t c h
  have b7 : byteAt (orU (shlU (ofB t) 56) c) 7 = t := by apply UInt8.toNat_inj.1; rw [byteAt, e, UInt8.toNat_ofNat']; omega
  have bi : ∀ i, i < 7 → byteAt (orU (shlU (ofB t) 56) c) i = byteAt c i := by
    intro i hi
    apply UInt8.toNat_inj.1
    rw [byteAt, byteAt, e, UInt8.toNat_ofNat', UInt8.toNat_ofNat']
    have : i = 0 ∨ i = 1 ∨ i = 2 ∨ i = 3 ∨ i = 4 ∨ i = 5 ∨ i = 6 := by omega
    rcases this with rfl | rfl | rfl | rfl | rfl | rfl | rfl <;> omega
  simp [bytesN, b7, bi]

set_option maxHeartbeats 400000 in
theorem rblock_c (x y : UInt64) (w : World) :
    Calls Try.prog 119 #[.int .u64 x.toNat, .int .u64 y.toNat] w fun e w' => e = .returned (.agg (kc (blockK (x, y)))) ∧ Mem w w' [] := by
  have HM := Mem.start w
  go_enter Try.func119, Try.ntmps119
  go_wp2_with (first
    | ((with_reducible refine s_ 4 ?_); go_must (refine wl_alloc (dst := some 4) (cs := kc zeroKey) 23 _ Try.zeroValue23 kc_zero HM ?_; clear HM; intro b4 W HM))
    | ((with_reducible refine s_ 9 ?_); go_must (refine wl_append (dst := some 9) (enc := encB) _ _ _ _ _ _ _ _ _ _ _ (bytesN y 8) Try.underlying24 inf5 rfl (by decide) encB_len encB_one HM (.there .here) (HM.rdRow (by decide) encB_len m0) rfl rfl (by decide) (by rw [bytesN_len]; omega) ?_; clear HM; intro v9 W HM; try dsimp only at HM))
    | ((with_reducible refine st_ 23 ?_); go_must ((refine wl_store_blk _ _ _ _ _ _ _ rfl rfl HM (.there (.there .here)) (by rw [kc_size]; exact sz23) (by simp only [kc_size]) (kc_one _) ?_); clear HM; intro W HM))
    | (go_at_call 138; go_must (((with_reducible refine (bytes8_c _ _).mono ?_)); rintro e W ⟨v, rfl, HM'⟩; replace HM := HM.join HM'; clear HM'; simp only [List.cons_append, List.nil_append] at HM))
    | (go_at_call 145; go_must (((with_reducible refine (key_c _ (bytesN x 8 ++ bytesN y 8) _ (HM.rdRow (by decide) encB_len (List.mem_cons_of_mem _ (by rw [List.flatMap_append]; exact List.mem_cons_self ..))) (by simp [bytesN_len])).mono ?_)); rintro e W ⟨rfl, HM'⟩; replace HM := HM.keep HM'.below; clear HM')))
  rw [keyL_block] at HM ⊢
  refine ret1 rfl (by (exact res_row HM rfl m2 Try.underlying23 rfl (by rw [kc_size]; exact sz23))) rfl ?_
  exact ⟨rfl, HM.base⟩

set_option maxHeartbeats 400000 in
theorem rBlock_c (t : UInt8) (c n : UInt64) (h : c.toNat < 2 ^ 56) (w : World) :
    Calls Try.prog 114 #[.int .u8 t.toNat, .int .u64 c.toNat, .int .u64 n.toNat] w fun e w' => e = .returned (.agg (kc (blockOfK t c n))) ∧ Mem w w' [] := by
  have HM := Mem.start w
  go_enter Try.func114, Try.ntmps114
  go_wp2_with (first
    | ((with_reducible refine s_ 6 ?_); go_must (refine wl_alloc (dst := some 6) (cs := kc zeroKey) 23 _ Try.zeroValue23 kc_zero HM ?_; clear HM; intro b6 W HM))
    | ((with_reducible refine s_ 9 ?_); go_must (refine wl_buildSlice (dst := some 9) (cs := #[.int .u8 t.toNat]) _ _ _ 5 1 _ Try.underlying24 Try.sizeOf5 Try.zeroValue5 (by decide) (by simp [Instr.fill, Act.eval, Act.put, Value.cells, undef, ← List.toArray_range, List.range_succ]) HM ?_; clear HM; intro b9 W HM; replace HM := HM.toRow 1 1 .here rfl (by simp [maxLen])))
    | ((with_reducible refine s_ 12 ?_); go_must (refine wl_append (dst := some 12) (enc := encB) _ _ _ _ _ _ _ _ _ _ _ (bytesN c 7) Try.underlying24 inf5 rfl (by decide) encB_len encB_one HM (.there .here) (HM.rdRow (by decide) encB_len m0) rfl rfl (by decide) (by rw [bytesN_len]; omega) ?_; clear HM; intro v12 W HM; try dsimp only at HM))
    | ((with_reducible refine s_ 16 ?_); go_must (refine wl_append (dst := some 16) (enc := encB) _ _ _ _ _ _ _ _ _ _ _ (bytesN n 8) Try.underlying24 inf5 rfl (by decide) encB_len encB_one HM (.there (.there .here)) (HM.rdRow (by decide) encB_len m0) rfl rfl (by decide) (by rw [bytesN_len, bytesN_len]; omega) ?_; clear HM; intro v16 W HM; try dsimp only at HM))
    | ((with_reducible refine st_ 23 ?_); go_must ((refine wl_store_blk _ _ _ _ _ _ _ rfl rfl HM (.there (.there (.there .here))) (by rw [kc_size]; exact sz23) (by simp only [kc_size]) (kc_one _) ?_); clear HM; intro W HM))
    | (go_at_call 138; go_must ((first | (with_reducible refine (bytes7_c _ _).mono ?_) | (with_reducible refine (bytes8_c _ _).mono ?_)); rintro e W ⟨v, rfl, HM'⟩; replace HM := HM.join HM'; clear HM'; simp only [List.cons_append, List.nil_append] at HM))
    | (go_at_call 145; go_must (((with_reducible refine (key_c _ ([t] ++ bytesN c 7 ++ bytesN n 8) _ (rd_row HM m2 (by simp [encB])) (by simp [bytesN_len])).mono ?_)); rintro e W ⟨rfl, HM'⟩; replace HM := HM.keep HM'.below; clear HM')))
  have hk := keyL_tag t c n h
  rw [List.append_assoc, List.singleton_append] at hk
  rw [hk] at HM ⊢
  refine ret1 rfl (by (exact res_row HM rfl m3 Try.underlying23 rfl (by rw [kc_size]; exact sz23))) rfl ?_
  exact ⟨rfl, HM.base⟩
end Go.Proofs.Ythdekionepfmdaa
