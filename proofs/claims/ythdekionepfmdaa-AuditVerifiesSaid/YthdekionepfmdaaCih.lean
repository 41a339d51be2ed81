/- The reference's recordings: re-keying, playing. -/
import Derived.Test.YthdekionepfmdaaCig
set_option linter.unusedVariables false
set_option linter.unusedSimpArgs false
set_option maxRecDepth 8000
namespace Go.Proofs.Ythdekionepfmdaa
open Go.RowKit

theorem rcontent_ok (k bx ck : Key) (v : Value) (hv1 : v.oneCell' = true) (h : deriveK (decryptK k bx) 53 0 = ck) (w : World) :
    Calls Try.prog 60 #[.agg (kc k), .agg (recC bx ck v)] w fun e w' => e = .returned (.tuple #[.agg (kc (decryptK k bx)), .bool true]) ∧ Mem w w' [] := by
  have := rcontent_c k bx ck v hv1 w
  rwa [decide_eq_true h] at this
theorem rcontent_no (k bx ck : Key) (v : Value) (hv1 : v.oneCell' = true) (h : deriveK (decryptK k bx) 53 0 ≠ ck) (w : World) :
    Calls Try.prog 60 #[.agg (kc k), .agg (recC bx ck v)] w fun e w' => e = .returned (.tuple #[.agg (kc (decryptK k bx)), .bool false]) ∧ Mem w w' [] := by
  have := rcontent_c k bx ck v hv1 w
  rwa [decide_eq_false h] at this

set_option maxHeartbeats 400000 in
theorem rrekey_no (k k2 bx ck : Key) (v : Value) (l : List UInt8) (w : World) (hR : RdL encB 1 w v l) (h : deriveK (decryptK k bx) 53 0 ≠ ck) :
    Calls Try.prog 12 #[.agg (kc k), .agg (kc k2), .agg (recC bx ck v)] w fun e w' => e = .returned (.tuple #[.agg (recC zeroKey zeroKey (.slice none 0 0)), .int .i64 53]) ∧ Mem w w' [] := by
  have HM := Mem.start w
  have hv1 := rd_one hR
  go_enter Try.func12, Try.ntmps12
  go_wp2_with (first
    | ((with_reducible refine s_ 3 ?_); go_must (refine wl_box (dst := some 3) (cs := kc k) _ _ _ rfl rfl HM ?_; clear HM; intro b3 W HM))
    | ((with_reducible refine s_ 4 ?_); go_must (refine wl_box (dst := some 4) (cs := kc k2) _ _ _ rfl rfl HM ?_; clear HM; intro b4 W HM))
    | ((with_reducible refine s_ 5 ?_); go_must (refine wl_box (dst := some 5) (cs := recC bx ck v) _ _ _ rfl rfl HM ?_; clear HM; intro b5 W HM))
    | ((with_reducible refine s_ 6 ?_); go_must (refine wl_alloc (dst := some 6) (cs := recC zeroKey zeroKey (.slice none 0 0)) 26 _ Try.zeroValue26 rfl HM ?_; clear HM; intro b6 W HM))
    | ((with_reducible refine s_ 8 ?_); go_must (refine wl_alloc (dst := some 8) (cs := kc zeroKey) 23 _ Try.zeroValue23 kc_zero HM ?_; clear HM; intro b8 W HM))
    | ((with_reducible refine s_ 18 ?_); go_must (refine wl_build (dst := some 18) _ _ _ _ (run_build_rec0) rfl ?_))
    | ((with_reducible refine ld_ 23 ?_); go_must (refine wl_load_blk _ _ _ _ _ _ rfl HM (by repeat first | exact List.mem_cons_self .. | refine List.mem_cons_of_mem _ ?_) Try.underlying23 rfl (by rw [kc_size]; exact sz23) ?_))
    | ((with_reducible refine ld_ 26 ?_); go_must (refine wl_load_blk _ _ _ _ _ _ rfl HM (by repeat first | exact List.mem_cons_self .. | refine List.mem_cons_of_mem _ ?_) Try.underlying26 rfl (by rw [recC_size]; exact sz26) ?_))
    | ((with_reducible refine st_ 23 ?_); go_must ((refine wl_store_blk _ _ _ _ _ _ _ rfl rfl HM .here (by rw [kc_size]; exact sz23) (by simp only [kc_size]) (kc_one _) ?_); clear HM; intro W HM))
    | ((with_reducible refine st_ 26 ?_); go_must ((refine wl_store_blk _ _ _ _ _ _ _ rfl rfl HM (.there .here) (by rw [recC_size]; exact sz26) (by simp only [recC_size]) (recC_one _ _ _ (by first | assumption | rfl)) ?_); clear HM; intro W HM))
    | (go_at_call 60; go_must (((with_reducible refine (rcontent_no _ _ _ _ hv1 h _).mono ?_)); rintro e W ⟨rfl, HM'⟩; replace HM := HM.keep HM'.below; clear HM')))
  refine ret2 rfl (by (exact res_row HM rfl m1 Try.underlying26 rfl (by rw [recC_size]; exact sz26))) (res_tmp rfl) rfl ?_
  exact ⟨rfl, HM.base⟩

set_option maxHeartbeats 400000 in
theorem rrekey_c (k k2 bx ck : Key) (v : Value) (l : List UInt8) (w : World) (hR : RdL encB 1 w v l) (hl : l.length ≤ 140737488351232) (h : deriveK (decryptK k bx) 53 0 = ck) :
    Calls Try.prog 12 #[.agg (kc k), .agg (kc k2), .agg (recC bx ck v)] w fun e w' => ∃ u, e = .returned (.tuple #[.agg (recC (encryptK k2 (decryptK k bx)) ck u), .int .i64 0]) ∧ Mem w w' [.row u 5 1 l.length (l.flatMap encB)] := by
  have HM := Mem.start w
  have hv1 := rd_one hR
  go_enter Try.func12, Try.ntmps12
  go_wp2_with (first
    | ((with_reducible refine stt_ 23 22 ?_); go_must (refine wl_store_sub _ _ _ _ 0 _ _ _ _ rfl rfl HM (.there (.there .here)) (by rw [kc_size]; exact sz23) (kc_one _) (by simp [recC_size, kc_size]) (write_box _ _ _ _) ?_; clear HM; intro W HM))
    | ((with_reducible refine stt_ 24 26 ?_); go_must (refine wl_store_cell _ _ _ _ _ _ _ _ _ rfl rfl HM (.there (.there (.there .here))) sz24 (row_one (HM.row m0)) (by simp [recC_size]) (set_data _ _ _ _) ?_; clear HM; intro W HM; have hu1 := row_one (HM.row m0)))
    | ((with_reducible refine s_ 3 ?_); go_must (refine wl_box (dst := some 3) (cs := kc k) _ _ _ rfl rfl HM ?_; clear HM; intro b3 W HM))
    | ((with_reducible refine s_ 4 ?_); go_must (refine wl_box (dst := some 4) (cs := kc k2) _ _ _ rfl rfl HM ?_; clear HM; intro b4 W HM))
    | ((with_reducible refine s_ 5 ?_); go_must (refine wl_box (dst := some 5) (cs := recC bx ck v) _ _ _ rfl rfl HM ?_; clear HM; intro b5 W HM))
    | ((with_reducible refine s_ 6 ?_); go_must (refine wl_alloc (dst := some 6) (cs := recC zeroKey zeroKey (.slice none 0 0)) 26 _ Try.zeroValue26 rfl HM ?_; clear HM; intro b6 W HM))
    | ((with_reducible refine s_ 8 ?_); go_must (refine wl_alloc (dst := some 8) (cs := kc zeroKey) 23 _ Try.zeroValue23 kc_zero HM ?_; clear HM; intro b8 W HM))
    | ((with_reducible refine s_ 24 ?_); go_must ((refine wl_load_cell (dst := some 24) (v := v) _ _ _ _ _ _ _ rfl HM m2 (rec_data _ _ _) Try.underlying24 rfl ?_)))
    | ((with_reducible refine s_ 25 ?_); go_must (replace HM := HM.nilrow 5 1; refine wl_append (dst := some 25) (enc := encB) _ _ _ _ _ _ _ _ _ _ _ (l) Try.underlying24 inf5 rfl (by decide) encB_len encB_one HM .here (hR.mem HM) rfl rfl (by decide) (by omega) ?_; clear HM; intro v25 W HM; try dsimp only at HM))
    | ((with_reducible refine ld_ 23 ?_); go_must (refine wl_load_blk _ _ _ _ _ _ rfl HM (by repeat first | exact List.mem_cons_self .. | refine List.mem_cons_of_mem _ ?_) Try.underlying23 rfl (by rw [kc_size]; exact sz23) ?_))
    | ((with_reducible refine ld_ 26 ?_); go_must (refine wl_load_blk _ _ _ _ _ _ rfl HM (by repeat first | exact List.mem_cons_self .. | refine List.mem_cons_of_mem _ ?_) Try.underlying26 rfl (by rw [recC_size]; exact sz26) ?_))
    | ((with_reducible refine st_ 23 ?_); go_must ((refine wl_store_blk _ _ _ _ _ _ _ rfl rfl HM .here (by rw [kc_size]; exact sz23) (by simp only [kc_size]) (kc_one _) ?_); clear HM; intro W HM))
    | ((with_reducible refine st_ 26 ?_); go_must ((refine wl_store_blk _ _ _ _ _ _ _ rfl rfl HM (.there (.there .here)) (by rw [recC_size]; exact sz26) (by simp only [recC_size]) (recC_one _ _ _ (by first | assumption | rfl)) ?_); clear HM; intro W HM))
    | (go_at_call 60; go_must (((with_reducible refine (rcontent_ok _ _ _ _ hv1 h _).mono ?_)); rintro e W ⟨rfl, HM'⟩; replace HM := HM.keep HM'.below; clear HM'))
    | (go_at_call 56; go_must (((with_reducible refine (rencrypt_c _ _ _).mono ?_)); rintro e W ⟨rfl, HM'⟩; replace HM := HM.keep HM'.below; clear HM')))
  refine ret2 rfl (by (exact res_row HM rfl m2 Try.underlying26 rfl (by rw [recC_size]; exact sz26))) (res_tmp rfl) rfl ?_
  rw [Nat.zero_add, List.nil_append] at HM
  exact ⟨_, rfl, HM.only m0⟩

set_option maxHeartbeats 400000 in
theorem rplay_many (k bx ck : Key) (v : Value) (l : List UInt8) (w : World) (hR : RdL encB 1 w v l) (hl : 16384 < l.length) :
    Calls Try.prog 14 #[.agg (kc k), .agg (recC bx ck v)] w fun e w' => e = .returned (.tuple #[.slice none 0 0, .int .i64 4]) ∧ Mem w w' [] := by
  have HM := Mem.start w
  have hv1 := rd_one hR
  have hl0 : (16384 : Int) < (l.length : Int) := by omega
  go_enter Try.func14, Try.ntmps14
  go_wp2_with (first
    | ((with_reducible refine s_ 2 ?_); go_must (refine wl_box (dst := some 2) (cs := kc k) _ _ _ rfl rfl HM ?_; clear HM; intro b2 W HM))
    | ((with_reducible refine s_ 3 ?_); go_must (refine wl_box (dst := some 3) (cs := recC bx ck v) _ _ _ rfl rfl HM ?_; clear HM; intro b3 W HM))
    | ((with_reducible refine s_ 11 ?_); go_must ((refine wl_load_cell (dst := some 11) (v := v) _ _ _ _ _ _ _ rfl HM m0 (rec_data _ _ _) Try.underlying24 rfl ?_)))
    | ((with_reducible refine s_ 12 ?_); go_must ((refine wl_len (dst := some 12) _ _ _ _ 5 Try.underlying24 rfl (hR.mem HM) ?_))))
  refine ret2 rfl (res_tmp rfl) (res_tmp rfl) rfl ?_
  exact ⟨rfl, HM.base⟩
set_option maxHeartbeats 400000 in
theorem rplay_no (k bx ck : Key) (v : Value) (l : List UInt8) (w : World) (hR : RdL encB 1 w v l) (hl : l.length ≤ 16384) (h : deriveK (decryptK k bx) 53 0 ≠ ck) :
    Calls Try.prog 14 #[.agg (kc k), .agg (recC bx ck v)] w fun e w' => e = .returned (.tuple #[.slice none 0 0, .int .i64 53]) ∧ Mem w w' [] := by
  have HM := Mem.start w
  have hv1 := rd_one hR
  have hl0 : ¬ (16384 : Int) < (l.length : Int) := by omega
  go_enter Try.func14, Try.ntmps14
  go_wp2_with (first
    | ((with_reducible refine s_ 2 ?_); go_must (refine wl_box (dst := some 2) (cs := kc k) _ _ _ rfl rfl HM ?_; clear HM; intro b2 W HM))
    | ((with_reducible refine s_ 3 ?_); go_must (refine wl_box (dst := some 3) (cs := recC bx ck v) _ _ _ rfl rfl HM ?_; clear HM; intro b3 W HM))
    | ((with_reducible refine s_ 11 ?_); go_must ((refine wl_load_cell (dst := some 11) (v := v) _ _ _ _ _ _ _ rfl HM m0 (rec_data _ _ _) Try.underlying24 rfl ?_)))
    | ((with_reducible refine s_ 12 ?_); go_must ((refine wl_len (dst := some 12) _ _ _ _ 5 Try.underlying24 rfl (hR.mem HM) ?_)))
    | ((with_reducible refine s_ 6 ?_); go_must (refine wl_alloc (dst := some 6) (cs := kc zeroKey) 23 _ Try.zeroValue23 kc_zero HM ?_; clear HM; intro b6 W HM))
    | ((with_reducible refine ld_ 23 ?_); go_must (refine wl_load_blk _ _ _ _ _ _ rfl HM (by repeat first | exact List.mem_cons_self .. | refine List.mem_cons_of_mem _ ?_) Try.underlying23 rfl (by rw [kc_size]; exact sz23) ?_))
    | ((with_reducible refine ld_ 26 ?_); go_must (refine wl_load_blk _ _ _ _ _ _ rfl HM (by repeat first | exact List.mem_cons_self .. | refine List.mem_cons_of_mem _ ?_) Try.underlying26 rfl (by rw [recC_size]; exact sz26) ?_))
    | ((with_reducible refine st_ 23 ?_); go_must ((refine wl_store_blk _ _ _ _ _ _ _ rfl rfl HM .here (by rw [kc_size]; exact sz23) (by simp only [kc_size]) (kc_one _) ?_); clear HM; intro W HM))
    | (go_at_call 60; go_must (((with_reducible refine (rcontent_no _ _ _ _ hv1 h _).mono ?_)); rintro e W ⟨rfl, HM'⟩; replace HM := HM.keep HM'.below; clear HM')))
  refine ret2 rfl (res_tmp rfl) (res_tmp rfl) rfl ?_
  exact ⟨rfl, HM.base⟩
set_option maxHeartbeats 400000 in
theorem rplay_c (k bx ck : Key) (v : Value) (l : List UInt8) (w : World) (hR : RdL encB 1 w v l) (hl : l.length ≤ 16384) (h : deriveK (decryptK k bx) 53 0 = ck) :
    Calls Try.prog 14 #[.agg (kc k), .agg (recC bx ck v)] w fun e w' => ∃ u, e = .returned (.tuple #[u, .int .i64 0]) ∧ Mem w w' [.row u 5 1 l.length ((streamL (decryptK k bx) 0 l).flatMap encB)] := by
  have HM := Mem.start w
  have hv1 := rd_one hR
  have hl0 : ¬ (16384 : Int) < (l.length : Int) := by omega
  go_enter Try.func14, Try.ntmps14
  go_wp2_with (first
    | ((with_reducible refine s_ 2 ?_); go_must (refine wl_box (dst := some 2) (cs := kc k) _ _ _ rfl rfl HM ?_; clear HM; intro b2 W HM))
    | ((with_reducible refine s_ 3 ?_); go_must (refine wl_box (dst := some 3) (cs := recC bx ck v) _ _ _ rfl rfl HM ?_; clear HM; intro b3 W HM))
    | ((with_reducible refine s_ 11 ?_); go_must ((refine wl_load_cell (dst := some 11) (v := v) _ _ _ _ _ _ _ rfl HM m0 (rec_data _ _ _) Try.underlying24 rfl ?_)))
    | ((with_reducible refine s_ 12 ?_); go_must ((refine wl_len (dst := some 12) _ _ _ _ 5 Try.underlying24 rfl (hR.mem HM) ?_)))
    | ((with_reducible refine s_ 6 ?_); go_must (refine wl_alloc (dst := some 6) (cs := kc zeroKey) 23 _ Try.zeroValue23 kc_zero HM ?_; clear HM; intro b6 W HM))
    | ((with_reducible refine s_ 25 ?_); go_must ((refine wl_load_cell (dst := some 25) (v := v) _ _ _ _ _ _ _ rfl HM m1 (rec_data _ _ _) Try.underlying24 rfl ?_)))
    | ((with_reducible refine ld_ 23 ?_); go_must (refine wl_load_blk _ _ _ _ _ _ rfl HM (by repeat first | exact List.mem_cons_self .. | refine List.mem_cons_of_mem _ ?_) Try.underlying23 rfl (by rw [kc_size]; exact sz23) ?_))
    | ((with_reducible refine ld_ 26 ?_); go_must (refine wl_load_blk _ _ _ _ _ _ rfl HM (by repeat first | exact List.mem_cons_self .. | refine List.mem_cons_of_mem _ ?_) Try.underlying26 rfl (by rw [recC_size]; exact sz26) ?_))
    | ((with_reducible refine st_ 23 ?_); go_must ((refine wl_store_blk _ _ _ _ _ _ _ rfl rfl HM .here (by rw [kc_size]; exact sz23) (by simp only [kc_size]) (kc_one _) ?_); clear HM; intro W HM))
    | (go_at_call 60; go_must (((with_reducible refine (rcontent_ok _ _ _ _ hv1 h _).mono ?_)); rintro e W ⟨rfl, HM'⟩; replace HM := HM.keep HM'.below; clear HM'))
    | (go_at_call 55; go_must (((with_reducible refine (rstream0_c _ _ _ _ (hR.mem HM) hl).mono ?_)); rintro e W ⟨u, rfl, HM'⟩; replace HM := HM.join HM'; clear HM'; simp only [List.cons_append, List.nil_append] at HM)))
  refine ret2 rfl (res_tmp rfl) (res_tmp rfl) rfl ?_
  exact ⟨_, rfl, HM.only m0⟩
end Go.Proofs.Ythdekionepfmdaa
