/- The cipher: the key schedule as an iterator, encryption, decryption. -/
import Derived.Test.YthdekionepfmdaaCib
import Derived.Test.YthdekionepfmdaaRng
set_option linter.unusedVariables false
set_option linter.unusedSimpArgs false
namespace Go.Proofs.Ythdekionepfmdaa
open Go.RowKit

set_option maxHeartbeats 400000 in
theorem keys_c (k : Key) (w : World) :
    Calls Try.prog 107 #[.agg (kc k)] w fun e w' => ∃ b, e = .returned (.func (.func 143) #[] #[.pointer (some ⟨b, 0, none⟩)]) ∧ Mem w w' [.blk b (kc k) 23] := by
  have HM := Mem.start w
  go_enter Try.func107, Try.ntmps107
  go_wp2_with (first
    | ((with_reducible refine s_ 1 ?_); go_must (refine wl_box (dst := some 1) (cs := kc k) _ _ _ rfl rfl HM ?_; clear HM; intro b1 W HM)))
  refine ret1 rfl (res_tmp rfl) rfl ?_
  exact ⟨_, rfl, HM⟩

abbrev encKey (x : Int × UInt64) : Array Value := #[.int .i64 x.1, .int .u64 x.2.toNat]
def keySeq (k : Key) : List (Int × UInt64) := (List.range 32).map fun (i : Nat) => ((i : Int), (keyAt k i).2)

set_option maxHeartbeats 800000 in
theorem keys_it (k : Key) (bk : Nat) (w0 : World) :
    Iterates Try.prog 143 #[.pointer (some ⟨bk, 0, none⟩)] encKey (keySeq k) w0 (fun W => W.heap[bk]? = some (.cells (kc k) 23 (0, 0))) := by
  intro l m J Jx W L h0 HM hRd hY
  have hk0 : W.heap[bk]? = some (.cells (kc k) 23 (0, 0)) := hRd [] L [] W h0 (by simp) HM
  refine callsIn_of_wp Try.func143 rfl trivial ?_
  simp only [Try.ntmps143, List.size_toArray, List.length_cons, List.length_nil, Nat.reduceAdd, Nat.reduceSub, Array.replicate_succ, Array.replicate_zero, List.push_toArray, List.append_toArray, List.nil_append, List.cons_append]
  have hQ : ∀ R : World → Prop, ¬ LetsOut (bodyPost Try.prog Try.f143 (fun e W' => (∃ v, e = .returned v) ∧ R W')) := by rintro R ⟨_, _, ⟨v, hv⟩, _⟩; cases hv
  refine wpIn_seq (regionIn_wide (lets_then (hQ _)) (by rfl) ?_)
  go_wp2_with (first
    | ((with_reducible refine s_ 5 ?_); go_must ((refine wl_load_heap (dst := some 5) _ _ _ _ _ _ rfl hk0 Try.underlying23 rfl (by rw [kc_size]; exact sz23) ?_)))
    | ((with_reducible refine s_ 3 ?_); go_must (refine wl_alloc (dst := some 3) (cs := #[Value.int IntKind.u64 0, Value.int IntKind.u64 0]) 161 _ Try.zeroValue161 rfl HM ?_; clear HM; intro b3 W HM))
    | ((with_reducible refine st_ 161 ?_); go_must ((refine wl_store_blk _ _ _ _ _ _ _ rfl rfl HM .here sz161 rfl (by simp [Value.oneCell']) ?_); clear HM; intro W HM))
    | (go_at_call 106; go_must (((with_reducible refine (wordsOf_c _ _).mono ?_)); rintro e W ⟨rfl, HM'⟩; replace HM := HM.keep HM'.below; clear HM')))
  gi_wp2
  gi_loopw [7] (fun i wr => ∃ (j : Nat) (L : List It), j ≤ 32 ∧ i = .int .i64 j ∧ J ((keySeq k).take j) L ∧ Mem w0 wr (.blk b3 (pairC (keyAt k j)) 161 :: L))
    (fun i _ => 32 - (intOf i).toNat)
  case atStart => exact ⟨0, L, by omega, rfl, h0, HM⟩
  case round =>
    clear HM
    obtain ⟨j, L, hj, rfl, hJ, HM⟩ := hrel
    by_cases hlt : j < 32
    · have hlen : (keySeq k).length = 32 := by simp [keySeq]
      have hat : (keySeq k)[j]'(by omega) = ((j : Int), (keyAt k j).2) := by simp [keySeq]
      have htk : (keySeq k).take (j + 1) = (keySeq k).take j ++ [((j : Int), (keyAt k j).2)] := by rw [List.take_succ_eq_append_getElem (by omega), hat]
      have hc1 : wr.cell? ⟨b3, 1, none⟩ = some (.int .u64 (keyAt k j).2.toNat) := by rw [cell_of_row wr b3 1 _ _ (0, 0) (HM.blk m0)]; rfl
      obtain ⟨fn, tmps, assign, body, hy, hR⟩ := hY _ ((j : Int), (keyAt k j).2) L [.blk b3 (pairC (keyAt k j)) 161] wr hJ (by rw [← htk]; exact List.take_prefix _ _) HM
      gi_wp2
      refine hR.mono ?_
      rintro e W3 (⟨rfl, L', hJ', HM'⟩ | ⟨rfl, L', hJ', HM'⟩)
      · clear hc1 hy hR
        clear HM
        have HM : Mem w0 W3 (.blk b3 (pairC (keyAt k j)) 161 :: L') := HM'
        clear HM'
        have hw : (j : Int) % 18446744073709551616 = (j : Int) := by omega
        have hr : ∀ W, Calls Try.prog 108 #[pairV (keyAt k j), .int .u64 (j : Int)] W fun e w' => e = .returned (pairV (roundF (keyAt k j) (UInt64.ofNat j))) ∧ Mem W w' [] := by
          intro W
          have e : (j : Int) = ((UInt64.ofNat j).toNat : Int) := by rw [UInt64.toNat_ofNat']; omega
          have := round_c (keyAt k j) (UInt64.ofNat j) W
          rwa [← e] at this
        gi_wp2_with (with_reducible show wpListIn _ _ _ _ _ (Oper.mk (some 16) _ _ _ _ _ :: _) _ _; go_must (refine opsIn_wide (by repeat (first | exact hQ _ | refine lets_then ?_ | refine lets_block ?_)) rfl ?_))
        go_wp2_with (first
          | ((with_reducible refine st_ 161 ?_); go_must ((refine wl_store_blk _ _ _ _ _ _ _ rfl rfl HM .here sz161 rfl (by simp [Value.oneCell']) ?_); clear HM; intro W HM))
          | ((with_reducible refine ld_ 161 ?_); go_must (refine wl_load_blk _ _ _ _ _ _ rfl HM (by repeat first | exact List.mem_cons_self .. | refine List.mem_cons_of_mem _ ?_) Try.underlying161 rfl (by exact sz161) ?_))
          | (go_at_call 108; go_must (((with_reducible refine (hr _).mono ?_)); rintro e W ⟨rfl, HM'⟩; replace HM := HM.keep HM'.below; clear HM')))
        gi_wp2
        go_roundw
        case rel => exact ⟨j + 1, L', by omega, by go_num, by rw [htk]; exact hJ', HM⟩
        case measure => simp [intOf]; omega
      · gi_wp2
        refine bodyPost_ret (results_none rfl _ _ _) rfl ?_
        exact ⟨⟨_, rfl⟩, .inr ⟨_, L', by rw [← htk]; exact List.take_prefix _ _, hJ', HM'.tail⟩⟩
    · obtain rfl : j = 32 := by omega
      have e : (keySeq k).take 32 = keySeq k := List.take_of_length_le (by simp [keySeq])
      rw [e] at hJ
      gi_wp2
      go_end0
      exact ⟨⟨_, rfl⟩, .inl ⟨L, hJ, HM.tail⟩⟩

/-- What the caller of the iterator owns, the words being p. -/
theorem keySeq_fold (k : Key) (p : UInt64 × UInt64) : (keySeq k).foldl (fun p x => roundF p x.2) p = (keyList k).foldl roundF p := by
  simp only [keySeq, keyList, List.foldl_map]

set_option maxHeartbeats 800000 in
theorem encrypt_c (k b : Key) (w : World) :
    Calls Try.prog 53 #[.agg (kc k), .agg (kc b)] w fun e w' => e = .returned (.agg (kc (encryptK k b))) ∧ Mem w w' [] := by
  have HM := Mem.start w
  refine calls_of_marks Try.func53 rfl ?_
  simp only [Try.ntmps53, List.size_toArray, List.length_cons, List.length_nil, Nat.reduceAdd, Nat.reduceSub, Array.replicate_succ, Array.replicate_zero, List.push_toArray, List.append_toArray, List.nil_append, List.cons_append]
  go_wp2_with (first
    | ((with_reducible refine s_ 2 ?_); go_must (refine wl_box (dst := some 2) (cs := kc k) _ _ _ rfl rfl HM ?_; clear HM; intro b2 W HM))
    | ((with_reducible refine s_ 3 ?_); go_must (refine wl_box (dst := some 3) (cs := kc b) _ _ _ rfl rfl HM ?_; clear HM; intro b3 W HM))
    | ((with_reducible refine s_ 4 ?_); go_must (refine wl_alloc (dst := some 4) (cs := kc zeroKey) 23 _ Try.zeroValue23 kc_zero HM ?_; clear HM; intro b4 W HM))
    | ((with_reducible refine s_ 5 ?_); go_must (refine wl_alloc (dst := some 5) (cs := #[Value.int IntKind.u64 0, Value.int IntKind.u64 0]) 161 _ Try.zeroValue161 rfl HM ?_; clear HM; intro b5 W HM))
    | ((with_reducible refine ld_ 23 ?_); go_must (refine wl_load_blk _ _ _ _ _ _ rfl HM (by repeat first | exact List.mem_cons_self .. | refine List.mem_cons_of_mem _ ?_) Try.underlying23 rfl (by rw [kc_size]; exact sz23) ?_))
    | ((with_reducible refine st_ 161 ?_); go_must ((refine wl_store_blk _ _ _ _ _ _ _ rfl rfl HM .here sz161 rfl (by simp [Value.oneCell']) ?_); clear HM; intro W HM))
    | (go_at_call 106; go_must (((with_reducible refine (wordsOf_c _ _).mono ?_)); rintro e W ⟨rfl, HM'⟩; replace HM := HM.keep HM'.below; clear HM'))
    | (go_at_call 107; go_must (((with_reducible refine (keys_c _ _).mono ?_)); rintro e W ⟨bk, rfl, HM'⟩; replace HM := HM.join HM'; clear HM'; simp only [List.cons_append, List.nil_append] at HM)))
  refine wp_rangeFunc_mem (encs := encKey) rfl (enters_of Try.func143 (by kernel_rfl) rfl) (keys_it k bk w) (fun _ => rfl)
    (fun pre L => L = [.blk bk (kc k) 23, .blk b5 (pairC (pre.foldl (fun p x => roundF p x.2) (wordsK b))) 161, .blk b4 (kc zeroKey) 23, .blk b3 (kc b) 23, .blk b2 (kc k) 23])
    (fun _ _ _ => False) HM rfl ?rd ?round ?done ?stop
  case rd =>
    rintro pre L X W rfl hp hM
    exact hM.blk m0
  case round =>
    rintro l pre ⟨i, x⟩ L X W1 W rfl hp HM
    refine regionIn_round (fun ⟨_, _, h⟩ => h) rfl ?_
    go_wp2
    refine ⟨trivial, ?_⟩
    simp only [List.cons_append, List.nil_append] at HM
    refine wpIn_block (regionIn_round (lets_block lets_round) rfl ?_)
    go_wp2_with (first
      | ((with_reducible refine st_ 161 ?_); go_must ((refine wl_store_blk _ _ _ _ _ _ _ rfl rfl HM (.there .here) sz161 rfl (by simp [Value.oneCell']) ?_); clear HM; intro W HM))
      | ((with_reducible refine ld_ 161 ?_); go_must (refine wl_load_blk _ _ _ _ _ _ rfl HM (by repeat first | exact List.mem_cons_self .. | refine List.mem_cons_of_mem _ ?_) Try.underlying161 rfl (by exact sz161) ?_))
      | (go_at_call 108; go_must (((with_reducible refine (round_c _ _ _).mono ?_)); rintro e W ⟨rfl, HM'⟩; replace HM := HM.keep HM'.below; clear HM')))
    refine ⟨_, rfl, ?_⟩
    rw [List.foldl_append]
    exact HM
  case done =>
    rintro D L W rfl HM
    simp only [List.cons_append, List.nil_append, keySeq_fold] at HM
    go_wp2_with (first
      | ((with_reducible refine ld_ 161 ?_); go_must (refine wl_load_blk _ _ _ _ _ _ rfl HM (by repeat first | exact List.mem_cons_self .. | refine List.mem_cons_of_mem _ ?_) Try.underlying161 rfl (by exact sz161) ?_))
      | ((with_reducible refine st_ 23 ?_); go_must ((refine wl_store_blk _ _ _ _ _ _ _ rfl rfl HM (.there (.there .here)) (by rw [kc_size]; exact sz23) (by simp only [kc_size]) (kc_one _) ?_); clear HM; intro W HM))
      | (go_at_call 109; go_must (((with_reducible refine (block_c _ _).mono ?_)); rintro e W ⟨rfl, HM'⟩; replace HM := HM.keep HM'.below; clear HM')))
    refine leaves_mark rfl HM (.there (.there (.there (.there (.there .here))))) ?_
    intro W HM
    refine ret1 rfl (by (exact res_row HM rfl m2 Try.underlying23 rfl (by rw [kc_size]; exact sz23))) rfl ?_
    exact ⟨rfl, HM.base⟩
  case stop =>
    exact fun _ _ _ _ _ _ h => h.elim

def keyArr (l : List (Int × UInt64)) : List Value := l.map (fun x => Value.int .u64 x.2.toNat) ++ List.replicate (32 - l.length) (.int .u64 0)
theorem keyArr_len (l : List (Int × UInt64)) (h : l.length ≤ 32) : (keyArr l).length = 32 := by simp [keyArr]; omega
theorem keyArr_snoc (l : List (Int × UInt64)) (x : Int × UInt64) (h : l.length < 32) : (keyArr l).set l.length (.int .u64 x.2.toNat) = keyArr (l ++ [x]) := by
  have e : 32 - l.length = (32 - (l.length + 1)) + 1 := by omega
  simp only [keyArr, List.map_append, List.map_cons, List.map_nil, List.length_append, List.length_cons, List.length_nil, Nat.zero_add]
  rw [List.set_append_right _ _ (by simp), e, List.replicate_succ]
  simp
def backAt (k : Key) (p : UInt64 × UInt64) (j : Nat) : UInt64 × UInt64 := ((keyList k).drop j).reverse.foldl backF p
theorem backAt_end (k : Key) (p : UInt64 × UInt64) : backAt k p 32 = p := by
  rw [backAt, List.drop_of_length_le (by simp [keyList])]; rfl
theorem backAt_step (k : Key) (p : UInt64 × UInt64) (j : Nat) (h : j < (keyList k).length) : backAt k p j = backF (backAt k p (j + 1)) (keyList k)[j] := by
  rw [backAt, backAt, List.drop_eq_getElem_cons h, List.reverse_cons, List.foldl_append]; rfl
theorem backAt_zero (k : Key) (p : UInt64 × UInt64) : backAt k p 0 = (keyList k).reverse.foldl backF p := rfl
theorem keySeq_at (k : Key) (pre : List (Int × UInt64)) (x : Int × UInt64) (h : pre ++ [x] <+: keySeq k) : pre.length < 32 ∧ x.1 = pre.length := by
  obtain ⟨t, ht⟩ := h
  have hl := congrArg List.length ht
  simp [keySeq] at hl
  refine ⟨by omega, ?_⟩
  have h2 : (keySeq k)[pre.length]? = some x := by rw [← ht]; simp
  rw [keySeq, List.getElem?_map, List.getElem?_range (by omega)] at h2
  simp at h2
  rw [← h2]

set_option maxHeartbeats 800000 in
theorem decrypt_c (k b : Key) (w : World) :
    Calls Try.prog 120 #[.agg (kc k), .agg (kc b)] w fun e w' => e = .returned (.agg (kc (decryptK k b))) ∧ Mem w w' [] := by
  have HM := Mem.start w
  refine calls_of_marks Try.func120 rfl ?_
  simp only [Try.ntmps120, List.size_toArray, List.length_cons, List.length_nil, Nat.reduceAdd, Nat.reduceSub, Array.replicate_succ, Array.replicate_zero, List.push_toArray, List.append_toArray, List.nil_append, List.cons_append]
  go_wp2_with (first
    | ((with_reducible refine s_ 2 ?_); go_must (refine wl_box (dst := some 2) (cs := kc k) _ _ _ rfl rfl HM ?_; clear HM; intro b2 W HM))
    | ((with_reducible refine s_ 3 ?_); go_must (refine wl_box (dst := some 3) (cs := kc b) _ _ _ rfl rfl HM ?_; clear HM; intro b3 W HM))
    | ((with_reducible refine s_ 4 ?_); go_must (refine wl_alloc (dst := some 4) (cs := kc zeroKey) 23 _ Try.zeroValue23 kc_zero HM ?_; clear HM; intro b4 W HM))
    | ((with_reducible refine s_ 5 ?_); go_must (refine wl_alloc (dst := some 5) (cs := #[Value.int IntKind.u64 0, Value.int IntKind.u64 0, Value.int IntKind.u64 0, Value.int IntKind.u64 0, Value.int IntKind.u64 0, Value.int IntKind.u64 0, Value.int IntKind.u64 0, Value.int IntKind.u64 0, Value.int IntKind.u64 0, Value.int IntKind.u64 0, Value.int IntKind.u64 0, Value.int IntKind.u64 0, Value.int IntKind.u64 0, Value.int IntKind.u64 0, Value.int IntKind.u64 0, Value.int IntKind.u64 0, Value.int IntKind.u64 0, Value.int IntKind.u64 0, Value.int IntKind.u64 0, Value.int IntKind.u64 0, Value.int IntKind.u64 0, Value.int IntKind.u64 0, Value.int IntKind.u64 0, Value.int IntKind.u64 0, Value.int IntKind.u64 0, Value.int IntKind.u64 0, Value.int IntKind.u64 0, Value.int IntKind.u64 0, Value.int IntKind.u64 0, Value.int IntKind.u64 0, Value.int IntKind.u64 0, Value.int IntKind.u64 0]) 195 _ Try.zeroValue195 rfl HM ?_; clear HM; intro b5 W HM))
    | ((with_reducible refine ld_ 23 ?_); go_must (refine wl_load_blk _ _ _ _ _ _ rfl HM (by repeat first | exact List.mem_cons_self .. | refine List.mem_cons_of_mem _ ?_) Try.underlying23 rfl (by rw [kc_size]; exact sz23) ?_))
    | (go_at_call 107; go_must (((with_reducible refine (keys_c _ _).mono ?_)); rintro e W ⟨bk, rfl, HM'⟩; replace HM := HM.join HM'; clear HM'; simp only [List.cons_append, List.nil_append] at HM)))
  refine wp_rangeFunc_mem (encs := encKey) rfl (enters_of Try.func143 (by kernel_rfl) rfl) (keys_it k bk w) (fun _ => rfl)
    (fun pre L => L = [.blk bk (kc k) 23, .blk b5 (keyArr pre).toArray 195, .blk b4 (kc zeroKey) 23, .blk b3 (kc b) 23, .blk b2 (kc k) 23])
    (fun _ _ _ => False) HM rfl ?rd ?round ?done ?stop
  case rd =>
    rintro pre L X W rfl hp hM
    exact hM.blk m0
  case round =>
    rintro l pre ⟨i, x⟩ L X W1 W rfl hp HM
    obtain ⟨hlt, hi⟩ := keySeq_at k pre _ hp
    dsimp only at hi
    subst hi
    have hsz : (keyArr pre).toArray.size = 32 := by rw [List.size_toArray, keyArr_len _ (by omega)]
    refine wpIn_seq (regionIn_round (fun ⟨_, _, h⟩ => h) rfl ?_)
    go_wp2
    refine regionIn_round (fun ⟨_, _, h⟩ => h) rfl ?_
    go_wp2
    refine ⟨trivial, ?_⟩
    simp only [List.cons_append, List.nil_append] at HM
    refine wpIn_block (regionIn_round (lets_block lets_round) rfl ?_)
    go_wp2_with (first
      | ((with_reducible refine st_ 109 ?_); go_must ((refine wl_store_cell _ _ _ _ _ _ _ _ _ rfl rfl HM (.there .here) sz109 rfl (by first | omega | (simp; done) | (simp [kc_size]; omega) | (simp only [Array.size_setIfInBounds, bytesC_size, List.length_append, List.length_replicate, List.length_set]; omega)) rfl ?_); clear HM; intro W HM; try (simp only [Act.eval, Array.getD_eq_getD_getElem?, List.getElem?_toArray, List.getElem?_cons_succ, List.getElem?_cons_zero, Option.getD_some, List.setIfInBounds_toArray, List.set_cons_succ, List.set_cons_zero] at HM))))
    refine ⟨_, rfl, ?_⟩
    have hks := keyArr_snoc pre (↑pre.length, x) hlt
    rw [← hks]
    exact HM
  case done =>
    rintro D L W rfl HM
    simp only [List.cons_append, List.nil_append] at HM
    have hka : keyArr (keySeq k) = (keyList k).map (fun x => Value.int .u64 x.toNat) := by simp [keyArr, keySeq, keyList]
    have hkl : (keyList k).length = 32 := by simp [keyList]
    go_wp2_with (first
      | ((with_reducible refine s_ 8 ?_); go_must (refine wl_alloc (dst := some 8) (cs := #[Value.int IntKind.u64 0, Value.int IntKind.u64 0]) 161 _ Try.zeroValue161 rfl HM ?_; clear HM; intro b8 W HM))
      | ((with_reducible refine ld_ 23 ?_); go_must (refine wl_load_blk _ _ _ _ _ _ rfl HM (by repeat first | exact List.mem_cons_self .. | refine List.mem_cons_of_mem _ ?_) Try.underlying23 rfl (by rw [kc_size]; exact sz23) ?_))
      | ((with_reducible refine st_ 161 ?_); go_must ((refine wl_store_blk _ _ _ _ _ _ _ rfl rfl HM .here sz161 rfl (by simp [Value.oneCell']) ?_); clear HM; intro W HM))
      | (go_at_call 106; go_must (((with_reducible refine (wordsOf_c _ _).mono ?_)); rintro e W ⟨rfl, HM'⟩; replace HM := HM.keep HM'.below; clear HM')))
    go_loopw [9] (fun i wr => ∃ j : Nat, j ≤ 32 ∧ i = .int .i64 ((j : Int) - 1) ∧ Mem w wr [.blk b8 (pairC (backAt k (wordsK b) j)) 161, .blk bk (kc k) 23, .blk b5 (keyArr (keySeq k)).toArray 195, .blk b4 (kc zeroKey) 23, .blk b3 (kc b) 23, .blk b2 (kc k) 23, .obj D (.deferred (some []))])
      (fun i _ => (intOf i + 1).toNat)
    case atStart => exact ⟨32, by omega, rfl, by rw [backAt_end]; exact HM⟩
    case round =>
      clear HM
      obtain ⟨j, hj, rfl, HM⟩ := hrel
      rcases j with _ | j
      · have e0 : ((0 : Nat) : Int) - 1 = -1 := rfl
        rw [e0]
        go_wp2_with (first
          | ((with_reducible refine ld_ 161 ?_); go_must (refine wl_load_blk _ _ _ _ _ _ rfl HM (by repeat first | exact List.mem_cons_self .. | refine List.mem_cons_of_mem _ ?_) Try.underlying161 rfl (by exact sz161) ?_))
          | ((with_reducible refine st_ 23 ?_); go_must ((refine wl_store_blk _ _ _ _ _ _ _ rfl rfl HM (.there (.there (.there .here))) (by rw [kc_size]; exact sz23) (by simp only [kc_size]) (kc_one _) ?_); clear HM; intro W HM))
          | (go_at_call 109; go_must (((with_reducible refine (block_c _ _).mono ?_)); rintro e W ⟨rfl, HM'⟩; replace HM := HM.keep HM'.below; clear HM')))
        refine leaves_mark rfl HM (.there (.there (.there (.there (.there (.there .here)))))) ?_
        intro W HM
        refine ret1 rfl (by (exact res_row HM rfl m3 Try.underlying23 rfl (by rw [kc_size]; exact sz23))) rfl ?_
        exact ⟨rfl, HM.base⟩
      · have hjl : j < (keyList k).length := by omega
        have hcell : (keyArr (keySeq k)).toArray[j]? = some (.int .u64 ((keyList k)[j]'hjl).toNat) := by rw [hka]; simp [hjl]
        have e1 : ((j + 1 : Nat) : Int) - 1 = (j : Int) := by omega
        rw [e1]
        have e2 := backAt_step k (wordsK b) j hjl
        have hb1 : (j : Int) < 32 := by omega
        go_wp2_with (fail)
        replace HM := HM.drew
        refine wp_region_mixN (fun W => Held w W [.blk b8 (pairC (backAt k (wordsK b) (j + 1))) 161, .blk b5 (keyArr (keySeq k)).toArray 195]) (fun W => Held w W [.blk b5 (keyArr (keySeq k)).toArray 195]) (.cons (1, 0) (.cons (2, 1) (.cons (2, 2) (.cons (2, 3) (.cons (0, 4) (.cons (3, 5) .nil)))))) [5] (by kernel_rfl) (by kernel_rfl) (by kernel_rfl) (fun W h => Held.weak h (by simp)) (HM.held (by simp)) ?_
        revert HM; generalize World.drew _ = W; intro HM
        have HS1 : Held w W [.blk b8 (pairC (backAt k (wordsK b) (j + 1))) 161, .blk b5 (keyArr (keySeq k)).toArray 195] := HM.held (by simp)
        have HS2 : Held w W [.blk b5 (keyArr (keySeq k)).toArray 195] := HM.held (by simp)
        refine wm_q1 (i := 0) (some 23) rfl rfl rfl HS1 (fun W HS => (by ((refine ry_load_blk _ _ _ _ _ _ HS ?_ m0 Try.underlying161 rfl sz161; rfl)))) ?_
        simp only [Act.put, List.getElem_toArray, List.getElem_cons_succ, List.getElem_cons_zero, List.setIfInBounds_toArray, List.set_cons_succ, List.set_cons_zero]
        refine wm_q2 (i := 1) (v := ?v10_2) (some 24) rfl rfl rfl HS2 (fun W HS => ?y10_2) ?_
        case y10_2 => (go_simp; try with_reducible rfl)
        simp only [Act.put, List.getElem_toArray, List.getElem_cons_succ, List.getElem_cons_zero, List.setIfInBounds_toArray, List.set_cons_succ, List.set_cons_zero]
        refine wm_q2 (i := 2) (v := ?v10_3) (some 25) rfl rfl rfl HS2 (fun W HS => ?y10_3) ?_
        case y10_3 => (go_simp; try with_reducible rfl)
        simp only [Act.put, List.getElem_toArray, List.getElem_cons_succ, List.getElem_cons_zero, List.setIfInBounds_toArray, List.set_cons_succ, List.set_cons_zero]
        refine wm_q2 (i := 3) (some 26) rfl rfl rfl HS2 (fun W HS => (by ((refine ry_load_cell _ _ _ _ _ _ ((.int .u64 ((keyList k)[j]'hjl).toNat)) _ HS ?_ m0 (hcell) Try.underlying109 rfl; rfl)))) ?_
        simp only [Act.put, List.getElem_toArray, List.getElem_cons_succ, List.getElem_cons_zero, List.setIfInBounds_toArray, List.set_cons_succ, List.set_cons_zero]
        refine wm_e0 (i := 4) rfl ?_
        go_wp2_with (first
          | (go_at_call 147; go_must (((with_reducible refine (back_c _ _ _).mono ?_)); rintro e W ⟨rfl, HM'⟩; replace HM := HM.keep HM'.below; clear HM')))
        refine ⟨HM.held (by simp), ?_⟩
        clear HS1 HS2
        have HS1 : Held w W [.blk b8 (pairC (backAt k (wordsK b) (j + 1))) 161, .blk b5 (keyArr (keySeq k)).toArray 195] := HM.held (by simp)
        have HS2 : Held w W [.blk b5 (keyArr (keySeq k)).toArray 195] := HM.held (by simp)
        refine wm_e3 (i := 5) rfl ?_
        go_wp2_with (first
          | ((with_reducible refine st_ 161 ?_); go_must ((refine wl_store_blk _ _ _ _ _ _ _ rfl rfl HM .here sz161 rfl (by simp [Value.oneCell']) ?_); clear HM; intro W HM)))
        refine ⟨HM.held (by simp), ?_⟩
        clear HS1 HS2
        have HS1 : True := trivial
        have HS2 : Held w W [.blk b5 (keyArr (keySeq k)).toArray 195] := HM.held (by simp)
        refine wm_nilN ?_
        clear HS1 HS2
        go_wp2_with (fail)
        rw [← e2] at HM
        go_roundw
        case rel => exact ⟨j, by omega, by go_num, HM⟩
        case measure => simp [intOf]
  case stop =>
    exact fun _ _ _ _ _ _ h => h.elim
end Go.Proofs.Ythdekionepfmdaa
