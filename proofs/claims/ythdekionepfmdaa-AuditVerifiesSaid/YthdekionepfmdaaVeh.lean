/- VerifyGrowth and GrowthTexts: the program's and the reference's. -/
import Derived.Test.YthdekionepfmdaaVeg
set_option linter.unusedVariables false
set_option linter.unusedSimpArgs false
set_option maxRecDepth 8000
namespace Go.Proofs.Ythdekionepfmdaa
open Go.RowKit

section
variable {P : Program} {ops : Array Oper} {rest : List Oper} {a : Act} {Q : Exit → Act → World → Prop} {W : World} {dst : Option Tmp} {tt : TypeId} {ps : String} {af : Array Edge}
/-- A guard that says no: the operation is left out. -/
theorem wl_skip {op : Op} {g : Nat × Bool} (hw : Region.wanted (Oper.mk dst op tt ps af (some g)) (yielded ops a.tmps) = false) (h : wpList P ops Q rest (a.put dst undef) W) : wpList P ops Q (Oper.mk dst op tt ps af (some g) :: rest) a W := by
  unfold wpList
  rw [if_neg (by rw [hw]; decide)]
  exact h
end
def vgB (bef aft : Key) (o n : Int) (p : List Key) : Bool := fitgB o n p.length && (decide (growA bef n.toNat o.toNat p = bef) && decide (growB bef n.toNat o.toNat p = aft))
def vgE (o n : Int) (p : List Key) : Int := if fitgB o n p.length = true then 0 else 8
def vgT (bef : Key) (o n : Int) (p : List Key) : List (List UInt8) := if fitgB o n p.length = true then growT bef n.toNat o.toNat p else []
theorem vg_no (bef aft : Key) (o n : Int) (p : List Key) (h : fitgB o n p.length = false) : vgB bef aft o n p = false ∧ vgE o n p = 8 ∧ vgT bef o n p = [] := by simp [vgB, vgE, vgT, h]
theorem vg_ok (bef aft : Key) (o n : Nat) (p : List Key) (h : fitgB o n p.length = true) : vgB bef aft o n p = (decide (growA bef n o p = bef) && decide (growB bef n o p = aft)) ∧ vgE o n p = 0 ∧ vgT bef o n p = growT bef n o p := by simp [vgB, vgE, vgT, h]

section
attribute [local irreducible] rowT
attribute [local go_sem] keyEqI
set_option maxHeartbeats 1600000 in
theorem VerifyGrowth_c (bef aft : Key) (o n : Int) (v : Value) (p : List Key) (w : World) (hR : RdL encK 16 w v p) :
    Calls Try.prog 30 #[.agg (kc bef), .agg (kc aft), .agg #[.int .i64 o, .int .i64 n, v]] w fun e w' => e = .returned (.tuple #[.bool (vgB bef aft o n p), .int .i64 (vgE o n p)]) ∧ Mem w w' [] := by
  have HM := Mem.start w
  have hv1 := rd_one hR
  by_cases h : fitgB o n p.length = true
  · obtain ⟨a, b, rfl, rfl, g1, g2, g3, g4⟩ := fitgB_is h
    obtain ⟨q1, q2, q3⟩ := vg_ok bef aft a b p h
    rw [q1, q2]
    clear q1 q2 q3
    cases hA : decide (growA bef b a p = bef) with
    | true =>
      cases hB : decide (growB bef b a p = aft) with
      | true =>
        go_enter Try.func30, Try.ntmps30
        go_wp2_with (first
          | ((with_reducible refine gd_ _ ?_); refine wl_guard (by rfl) ?_)
          | ((with_reducible refine s_ 3 ?_); go_must (refine wl_box (dst := some 3) (cs := kc bef) _ _ _ rfl rfl HM ?_; clear HM; intro b3 W HM))
          | ((with_reducible refine s_ 4 ?_); go_must (refine wl_box (dst := some 4) (cs := kc aft) _ _ _ rfl rfl HM ?_; clear HM; intro b4 W HM))
          | ((with_reducible refine s_ 5 ?_); go_must (refine wl_box (dst := some 5) (cs := #[.int .i64 (a : Int), .int .i64 (b : Int), v]) _ _ _ rfl rfl HM ?_; clear HM; intro b5 W HM))
          | ((with_reducible refine s_ 8 ?_); go_must (refine wl_alloc (dst := some 8) (cs := #[Value.slice none 0 0]) 119 _ Try.zeroValue119 rfl HM ?_; clear HM; intro b8 W HM))
          | ((with_reducible refine s_ 9 ?_); go_must (refine wl_alloc (dst := some 9) (cs := kc zeroKey) 23 _ Try.zeroValue23 kc_zero HM ?_; clear HM; intro b9 W HM))
          | ((with_reducible refine s_ 10 ?_); go_must (refine wl_alloc (dst := some 10) (cs := kc zeroKey) 23 _ Try.zeroValue23 kc_zero HM ?_; clear HM; intro b10 W HM))
          | ((with_reducible refine ld_ 59 ?_); go_must (refine wl_load_blk _ _ _ _ _ _ rfl HM (by repeat first | exact List.mem_cons_self .. | refine List.mem_cons_of_mem _ ?_) Try.underlying59 rfl (by exact sz59) ?_))
          | ((with_reducible refine ld_ 23 ?_); go_must (refine wl_load_blk _ _ _ _ _ _ rfl HM (by repeat first | exact List.mem_cons_self .. | refine List.mem_cons_of_mem _ ?_) Try.underlying23 rfl (by rw [kc_size]; exact sz23) ?_))
          | ((with_reducible refine ld_ 3 ?_); go_must (refine wl_load_cell _ _ _ _ _ _ _ _ rfl HM (by repeat first | exact List.mem_cons_self .. | refine List.mem_cons_of_mem _ ?_) (by rfl) Try.underlying3 rfl ?_))
          | ((with_reducible refine ld_ 40 ?_); go_must (refine wl_load_cell _ _ _ _ _ _ _ _ rfl HM (by repeat first | exact List.mem_cons_self .. | refine List.mem_cons_of_mem _ ?_) (by rfl) Try.underlying40 rfl ?_))
          | ((with_reducible refine st_ 23 ?_); go_must ((first | refine wl_store_blk _ _ _ _ _ _ _ rfl rfl HM .here (by rw [kc_size]; exact sz23) (by simp only [kc_size]) (kc_one _) ?_ | refine wl_store_blk _ _ _ _ _ _ _ rfl rfl HM (.there .here) (by rw [kc_size]; exact sz23) (by simp only [kc_size]) (kc_one _) ?_); clear HM; intro W HM))
          | (go_at_call 81; go_must (((with_reducible refine (fitsGrowth_c a b v p _ (hR.mem HM)).mono ?_)); rintro e W ⟨rfl, HM'⟩; replace HM := HM.keep HM'.below; clear HM'))
          | (go_at_call 82; go_must (((with_reducible refine (grow_c w b8 bef b a true p v _ _ [] _ g1 g2 g3 g4 (by simp; omega) hR HM.nilT).mono ?_)); rintro e W ⟨u1, vs1, R1, rfl, hT1, hX1, HM'⟩; clear HM; rename _ => HM; simp only [List.cons_append, List.nil_append] at HM)))
        refine ret2 rfl (res_tmp rfl) (res_tmp rfl) rfl ?_
        exact ⟨rfl, HM.base⟩
      | false =>
        go_enter Try.func30, Try.ntmps30
        go_wp2_with (first
          | ((with_reducible refine gd_ _ ?_); refine wl_guard (by rfl) ?_)
          | ((with_reducible refine s_ 3 ?_); go_must (refine wl_box (dst := some 3) (cs := kc bef) _ _ _ rfl rfl HM ?_; clear HM; intro b3 W HM))
          | ((with_reducible refine s_ 4 ?_); go_must (refine wl_box (dst := some 4) (cs := kc aft) _ _ _ rfl rfl HM ?_; clear HM; intro b4 W HM))
          | ((with_reducible refine s_ 5 ?_); go_must (refine wl_box (dst := some 5) (cs := #[.int .i64 (a : Int), .int .i64 (b : Int), v]) _ _ _ rfl rfl HM ?_; clear HM; intro b5 W HM))
          | ((with_reducible refine s_ 8 ?_); go_must (refine wl_alloc (dst := some 8) (cs := #[Value.slice none 0 0]) 119 _ Try.zeroValue119 rfl HM ?_; clear HM; intro b8 W HM))
          | ((with_reducible refine s_ 9 ?_); go_must (refine wl_alloc (dst := some 9) (cs := kc zeroKey) 23 _ Try.zeroValue23 kc_zero HM ?_; clear HM; intro b9 W HM))
          | ((with_reducible refine s_ 10 ?_); go_must (refine wl_alloc (dst := some 10) (cs := kc zeroKey) 23 _ Try.zeroValue23 kc_zero HM ?_; clear HM; intro b10 W HM))
          | ((with_reducible refine ld_ 59 ?_); go_must (refine wl_load_blk _ _ _ _ _ _ rfl HM (by repeat first | exact List.mem_cons_self .. | refine List.mem_cons_of_mem _ ?_) Try.underlying59 rfl (by exact sz59) ?_))
          | ((with_reducible refine ld_ 23 ?_); go_must (refine wl_load_blk _ _ _ _ _ _ rfl HM (by repeat first | exact List.mem_cons_self .. | refine List.mem_cons_of_mem _ ?_) Try.underlying23 rfl (by rw [kc_size]; exact sz23) ?_))
          | ((with_reducible refine ld_ 3 ?_); go_must (refine wl_load_cell _ _ _ _ _ _ _ _ rfl HM (by repeat first | exact List.mem_cons_self .. | refine List.mem_cons_of_mem _ ?_) (by rfl) Try.underlying3 rfl ?_))
          | ((with_reducible refine ld_ 40 ?_); go_must (refine wl_load_cell _ _ _ _ _ _ _ _ rfl HM (by repeat first | exact List.mem_cons_self .. | refine List.mem_cons_of_mem _ ?_) (by rfl) Try.underlying40 rfl ?_))
          | ((with_reducible refine st_ 23 ?_); go_must ((first | refine wl_store_blk _ _ _ _ _ _ _ rfl rfl HM .here (by rw [kc_size]; exact sz23) (by simp only [kc_size]) (kc_one _) ?_ | refine wl_store_blk _ _ _ _ _ _ _ rfl rfl HM (.there .here) (by rw [kc_size]; exact sz23) (by simp only [kc_size]) (kc_one _) ?_); clear HM; intro W HM))
          | (go_at_call 81; go_must (((with_reducible refine (fitsGrowth_c a b v p _ (hR.mem HM)).mono ?_)); rintro e W ⟨rfl, HM'⟩; replace HM := HM.keep HM'.below; clear HM'))
          | (go_at_call 82; go_must (((with_reducible refine (grow_c w b8 bef b a true p v _ _ [] _ g1 g2 g3 g4 (by simp; omega) hR HM.nilT).mono ?_)); rintro e W ⟨u1, vs1, R1, rfl, hT1, hX1, HM'⟩; clear HM; rename _ => HM; simp only [List.cons_append, List.nil_append] at HM)))
        refine ret2 rfl (res_tmp rfl) (res_tmp rfl) rfl ?_
        exact ⟨rfl, HM.base⟩
    | false =>
      go_enter Try.func30, Try.ntmps30
      go_wp2_with (first
        | ((with_reducible refine gd_ _ ?_); refine wl_skip (by rfl) ?_)
        | ((with_reducible refine s_ 3 ?_); go_must (refine wl_box (dst := some 3) (cs := kc bef) _ _ _ rfl rfl HM ?_; clear HM; intro b3 W HM))
        | ((with_reducible refine s_ 4 ?_); go_must (refine wl_box (dst := some 4) (cs := kc aft) _ _ _ rfl rfl HM ?_; clear HM; intro b4 W HM))
        | ((with_reducible refine s_ 5 ?_); go_must (refine wl_box (dst := some 5) (cs := #[.int .i64 (a : Int), .int .i64 (b : Int), v]) _ _ _ rfl rfl HM ?_; clear HM; intro b5 W HM))
        | ((with_reducible refine s_ 8 ?_); go_must (refine wl_alloc (dst := some 8) (cs := #[Value.slice none 0 0]) 119 _ Try.zeroValue119 rfl HM ?_; clear HM; intro b8 W HM))
        | ((with_reducible refine s_ 9 ?_); go_must (refine wl_alloc (dst := some 9) (cs := kc zeroKey) 23 _ Try.zeroValue23 kc_zero HM ?_; clear HM; intro b9 W HM))
        | ((with_reducible refine s_ 10 ?_); go_must (refine wl_alloc (dst := some 10) (cs := kc zeroKey) 23 _ Try.zeroValue23 kc_zero HM ?_; clear HM; intro b10 W HM))
        | ((with_reducible refine ld_ 59 ?_); go_must (refine wl_load_blk _ _ _ _ _ _ rfl HM (by repeat first | exact List.mem_cons_self .. | refine List.mem_cons_of_mem _ ?_) Try.underlying59 rfl (by exact sz59) ?_))
        | ((with_reducible refine ld_ 23 ?_); go_must (refine wl_load_blk _ _ _ _ _ _ rfl HM (by repeat first | exact List.mem_cons_self .. | refine List.mem_cons_of_mem _ ?_) Try.underlying23 rfl (by rw [kc_size]; exact sz23) ?_))
        | ((with_reducible refine ld_ 3 ?_); go_must (refine wl_load_cell _ _ _ _ _ _ _ _ rfl HM (by repeat first | exact List.mem_cons_self .. | refine List.mem_cons_of_mem _ ?_) (by rfl) Try.underlying3 rfl ?_))
        | ((with_reducible refine ld_ 40 ?_); go_must (refine wl_load_cell _ _ _ _ _ _ _ _ rfl HM (by repeat first | exact List.mem_cons_self .. | refine List.mem_cons_of_mem _ ?_) (by rfl) Try.underlying40 rfl ?_))
        | ((with_reducible refine st_ 23 ?_); go_must ((first | refine wl_store_blk _ _ _ _ _ _ _ rfl rfl HM .here (by rw [kc_size]; exact sz23) (by simp only [kc_size]) (kc_one _) ?_ | refine wl_store_blk _ _ _ _ _ _ _ rfl rfl HM (.there .here) (by rw [kc_size]; exact sz23) (by simp only [kc_size]) (kc_one _) ?_); clear HM; intro W HM))
        | (go_at_call 81; go_must (((with_reducible refine (fitsGrowth_c a b v p _ (hR.mem HM)).mono ?_)); rintro e W ⟨rfl, HM'⟩; replace HM := HM.keep HM'.below; clear HM'))
        | (go_at_call 82; go_must (((with_reducible refine (grow_c w b8 bef b a true p v _ _ [] _ g1 g2 g3 g4 (by simp; omega) hR HM.nilT).mono ?_)); rintro e W ⟨u1, vs1, R1, rfl, hT1, hX1, HM'⟩; clear HM; rename _ => HM; simp only [List.cons_append, List.nil_append] at HM)))
      refine ret2 rfl (res_tmp rfl) (res_tmp rfl) rfl ?_
      exact ⟨rfl, HM.base⟩
  · have h' : fitgB o n p.length = false := by simpa using h
    obtain ⟨q1, q2, q3⟩ := vg_no bef aft o n p h'
    rw [q1, q2]
    clear q1 q2 q3 h
    go_enter Try.func30, Try.ntmps30
    go_wp2_with (first
      | ((with_reducible refine s_ 3 ?_); go_must (refine wl_box (dst := some 3) (cs := kc bef) _ _ _ rfl rfl HM ?_; clear HM; intro b3 W HM))
      | ((with_reducible refine s_ 4 ?_); go_must (refine wl_box (dst := some 4) (cs := kc aft) _ _ _ rfl rfl HM ?_; clear HM; intro b4 W HM))
      | ((with_reducible refine s_ 5 ?_); go_must (refine wl_box (dst := some 5) (cs := #[.int .i64 o, .int .i64 n, v]) _ _ _ rfl rfl HM ?_; clear HM; intro b5 W HM))
      | ((with_reducible refine ld_ 59 ?_); go_must (refine wl_load_blk _ _ _ _ _ _ rfl HM (by repeat first | exact List.mem_cons_self .. | refine List.mem_cons_of_mem _ ?_) Try.underlying59 rfl (by exact sz59) ?_))
      | (go_at_call 81; go_must (((with_reducible refine (fitsGrowth_c o n v p _ (hR.mem HM)).mono ?_)); rintro e W ⟨rfl, HM'⟩; replace HM := HM.keep HM'.below; clear HM')))
    refine ret2 rfl (res_tmp rfl) (res_tmp rfl) rfl ?_
    exact ⟨rfl, HM.base⟩
set_option maxHeartbeats 1600000 in
theorem rVerifyGrowth_c (bef aft : Key) (o n : Int) (v : Value) (p : List Key) (w : World) (hR : RdL encK 16 w v p) :
    Calls Try.prog 31 #[.agg (kc bef), .agg (kc aft), .agg #[.int .i64 o, .int .i64 n, v]] w fun e w' => e = .returned (.tuple #[.bool (vgB bef aft o n p), .int .i64 (vgE o n p)]) ∧ Mem w w' [] := by
  have HM := Mem.start w
  have hv1 := rd_one hR
  by_cases h : fitgB o n p.length = true
  · obtain ⟨a, b, rfl, rfl, g1, g2, g3, g4⟩ := fitgB_is h
    obtain ⟨q1, q2, q3⟩ := vg_ok bef aft a b p h
    rw [q1, q2]
    clear q1 q2 q3
    cases hA : decide (growA bef b a p = bef) with
    | true =>
      cases hB : decide (growB bef b a p = aft) with
      | true =>
        go_enter Try.func31, Try.ntmps31
        go_wp2_with (first
          | ((with_reducible refine gd_ _ ?_); refine wl_guard (by rfl) ?_)
          | ((with_reducible refine s_ 3 ?_); go_must (refine wl_box (dst := some 3) (cs := kc bef) _ _ _ rfl rfl HM ?_; clear HM; intro b3 W HM))
          | ((with_reducible refine s_ 4 ?_); go_must (refine wl_box (dst := some 4) (cs := kc aft) _ _ _ rfl rfl HM ?_; clear HM; intro b4 W HM))
          | ((with_reducible refine s_ 5 ?_); go_must (refine wl_box (dst := some 5) (cs := #[.int .i64 (a : Int), .int .i64 (b : Int), v]) _ _ _ rfl rfl HM ?_; clear HM; intro b5 W HM))
          | ((with_reducible refine s_ 8 ?_); go_must (refine wl_alloc (dst := some 8) (cs := kc zeroKey) 23 _ Try.zeroValue23 kc_zero HM ?_; clear HM; intro b8 W HM))
          | ((with_reducible refine s_ 9 ?_); go_must (refine wl_alloc (dst := some 9) (cs := kc zeroKey) 23 _ Try.zeroValue23 kc_zero HM ?_; clear HM; intro b9 W HM))
          | ((with_reducible refine ld_ 59 ?_); go_must (refine wl_load_blk _ _ _ _ _ _ rfl HM (by repeat first | exact List.mem_cons_self .. | refine List.mem_cons_of_mem _ ?_) Try.underlying59 rfl (by exact sz59) ?_))
          | ((with_reducible refine ld_ 23 ?_); go_must (refine wl_load_blk _ _ _ _ _ _ rfl HM (by repeat first | exact List.mem_cons_self .. | refine List.mem_cons_of_mem _ ?_) Try.underlying23 rfl (by rw [kc_size]; exact sz23) ?_))
          | ((with_reducible refine ld_ 3 ?_); go_must (refine wl_load_cell _ _ _ _ _ _ _ _ rfl HM (by repeat first | exact List.mem_cons_self .. | refine List.mem_cons_of_mem _ ?_) (by rfl) Try.underlying3 rfl ?_))
          | ((with_reducible refine ld_ 40 ?_); go_must (refine wl_load_cell _ _ _ _ _ _ _ _ rfl HM (by repeat first | exact List.mem_cons_self .. | refine List.mem_cons_of_mem _ ?_) (by rfl) Try.underlying40 rfl ?_))
          | ((with_reducible refine st_ 23 ?_); go_must ((first | refine wl_store_blk _ _ _ _ _ _ _ rfl rfl HM .here (by rw [kc_size]; exact sz23) (by simp only [kc_size]) (kc_one _) ?_ | refine wl_store_blk _ _ _ _ _ _ _ rfl rfl HM (.there .here) (by rw [kc_size]; exact sz23) (by simp only [kc_size]) (kc_one _) ?_); clear HM; intro W HM))
          | (go_at_call 83; go_must (((with_reducible refine (rFitsGrowth_c a b v p _ (hR.mem HM)).mono ?_)); rintro e W ⟨rfl, HM'⟩; replace HM := HM.keep HM'.below; clear HM'))
          | (go_at_call 84; go_must (((with_reducible refine (rgrown_c bef b a true v p _ (hR.mem HM) g1 g2 g3 g4).mono ?_)); rintro e W ⟨u, rfl, us, R, hT, hX, HM'⟩; replace HM := HM.keep HM'.below; clear HM')))
        refine ret2 rfl (res_tmp rfl) (res_tmp rfl) rfl ?_
        exact ⟨rfl, HM.base⟩
      | false =>
        go_enter Try.func31, Try.ntmps31
        go_wp2_with (first
          | ((with_reducible refine gd_ _ ?_); refine wl_guard (by rfl) ?_)
          | ((with_reducible refine s_ 3 ?_); go_must (refine wl_box (dst := some 3) (cs := kc bef) _ _ _ rfl rfl HM ?_; clear HM; intro b3 W HM))
          | ((with_reducible refine s_ 4 ?_); go_must (refine wl_box (dst := some 4) (cs := kc aft) _ _ _ rfl rfl HM ?_; clear HM; intro b4 W HM))
          | ((with_reducible refine s_ 5 ?_); go_must (refine wl_box (dst := some 5) (cs := #[.int .i64 (a : Int), .int .i64 (b : Int), v]) _ _ _ rfl rfl HM ?_; clear HM; intro b5 W HM))
          | ((with_reducible refine s_ 8 ?_); go_must (refine wl_alloc (dst := some 8) (cs := kc zeroKey) 23 _ Try.zeroValue23 kc_zero HM ?_; clear HM; intro b8 W HM))
          | ((with_reducible refine s_ 9 ?_); go_must (refine wl_alloc (dst := some 9) (cs := kc zeroKey) 23 _ Try.zeroValue23 kc_zero HM ?_; clear HM; intro b9 W HM))
          | ((with_reducible refine ld_ 59 ?_); go_must (refine wl_load_blk _ _ _ _ _ _ rfl HM (by repeat first | exact List.mem_cons_self .. | refine List.mem_cons_of_mem _ ?_) Try.underlying59 rfl (by exact sz59) ?_))
          | ((with_reducible refine ld_ 23 ?_); go_must (refine wl_load_blk _ _ _ _ _ _ rfl HM (by repeat first | exact List.mem_cons_self .. | refine List.mem_cons_of_mem _ ?_) Try.underlying23 rfl (by rw [kc_size]; exact sz23) ?_))
          | ((with_reducible refine ld_ 3 ?_); go_must (refine wl_load_cell _ _ _ _ _ _ _ _ rfl HM (by repeat first | exact List.mem_cons_self .. | refine List.mem_cons_of_mem _ ?_) (by rfl) Try.underlying3 rfl ?_))
          | ((with_reducible refine ld_ 40 ?_); go_must (refine wl_load_cell _ _ _ _ _ _ _ _ rfl HM (by repeat first | exact List.mem_cons_self .. | refine List.mem_cons_of_mem _ ?_) (by rfl) Try.underlying40 rfl ?_))
          | ((with_reducible refine st_ 23 ?_); go_must ((first | refine wl_store_blk _ _ _ _ _ _ _ rfl rfl HM .here (by rw [kc_size]; exact sz23) (by simp only [kc_size]) (kc_one _) ?_ | refine wl_store_blk _ _ _ _ _ _ _ rfl rfl HM (.there .here) (by rw [kc_size]; exact sz23) (by simp only [kc_size]) (kc_one _) ?_); clear HM; intro W HM))
          | (go_at_call 83; go_must (((with_reducible refine (rFitsGrowth_c a b v p _ (hR.mem HM)).mono ?_)); rintro e W ⟨rfl, HM'⟩; replace HM := HM.keep HM'.below; clear HM'))
          | (go_at_call 84; go_must (((with_reducible refine (rgrown_c bef b a true v p _ (hR.mem HM) g1 g2 g3 g4).mono ?_)); rintro e W ⟨u, rfl, us, R, hT, hX, HM'⟩; replace HM := HM.keep HM'.below; clear HM')))
        refine ret2 rfl (res_tmp rfl) (res_tmp rfl) rfl ?_
        exact ⟨rfl, HM.base⟩
    | false =>
      go_enter Try.func31, Try.ntmps31
      go_wp2_with (first
        | ((with_reducible refine gd_ _ ?_); refine wl_skip (by rfl) ?_)
        | ((with_reducible refine s_ 3 ?_); go_must (refine wl_box (dst := some 3) (cs := kc bef) _ _ _ rfl rfl HM ?_; clear HM; intro b3 W HM))
        | ((with_reducible refine s_ 4 ?_); go_must (refine wl_box (dst := some 4) (cs := kc aft) _ _ _ rfl rfl HM ?_; clear HM; intro b4 W HM))
        | ((with_reducible refine s_ 5 ?_); go_must (refine wl_box (dst := some 5) (cs := #[.int .i64 (a : Int), .int .i64 (b : Int), v]) _ _ _ rfl rfl HM ?_; clear HM; intro b5 W HM))
        | ((with_reducible refine s_ 8 ?_); go_must (refine wl_alloc (dst := some 8) (cs := kc zeroKey) 23 _ Try.zeroValue23 kc_zero HM ?_; clear HM; intro b8 W HM))
        | ((with_reducible refine s_ 9 ?_); go_must (refine wl_alloc (dst := some 9) (cs := kc zeroKey) 23 _ Try.zeroValue23 kc_zero HM ?_; clear HM; intro b9 W HM))
        | ((with_reducible refine ld_ 59 ?_); go_must (refine wl_load_blk _ _ _ _ _ _ rfl HM (by repeat first | exact List.mem_cons_self .. | refine List.mem_cons_of_mem _ ?_) Try.underlying59 rfl (by exact sz59) ?_))
        | ((with_reducible refine ld_ 23 ?_); go_must (refine wl_load_blk _ _ _ _ _ _ rfl HM (by repeat first | exact List.mem_cons_self .. | refine List.mem_cons_of_mem _ ?_) Try.underlying23 rfl (by rw [kc_size]; exact sz23) ?_))
        | ((with_reducible refine ld_ 3 ?_); go_must (refine wl_load_cell _ _ _ _ _ _ _ _ rfl HM (by repeat first | exact List.mem_cons_self .. | refine List.mem_cons_of_mem _ ?_) (by rfl) Try.underlying3 rfl ?_))
        | ((with_reducible refine ld_ 40 ?_); go_must (refine wl_load_cell _ _ _ _ _ _ _ _ rfl HM (by repeat first | exact List.mem_cons_self .. | refine List.mem_cons_of_mem _ ?_) (by rfl) Try.underlying40 rfl ?_))
        | ((with_reducible refine st_ 23 ?_); go_must ((first | refine wl_store_blk _ _ _ _ _ _ _ rfl rfl HM .here (by rw [kc_size]; exact sz23) (by simp only [kc_size]) (kc_one _) ?_ | refine wl_store_blk _ _ _ _ _ _ _ rfl rfl HM (.there .here) (by rw [kc_size]; exact sz23) (by simp only [kc_size]) (kc_one _) ?_); clear HM; intro W HM))
        | (go_at_call 83; go_must (((with_reducible refine (rFitsGrowth_c a b v p _ (hR.mem HM)).mono ?_)); rintro e W ⟨rfl, HM'⟩; replace HM := HM.keep HM'.below; clear HM'))
        | (go_at_call 84; go_must (((with_reducible refine (rgrown_c bef b a true v p _ (hR.mem HM) g1 g2 g3 g4).mono ?_)); rintro e W ⟨u, rfl, us, R, hT, hX, HM'⟩; replace HM := HM.keep HM'.below; clear HM')))
      refine ret2 rfl (res_tmp rfl) (res_tmp rfl) rfl ?_
      exact ⟨rfl, HM.base⟩
  · have h' : fitgB o n p.length = false := by simpa using h
    obtain ⟨q1, q2, q3⟩ := vg_no bef aft o n p h'
    rw [q1, q2]
    clear q1 q2 q3 h
    go_enter Try.func31, Try.ntmps31
    go_wp2_with (first
      | ((with_reducible refine s_ 3 ?_); go_must (refine wl_box (dst := some 3) (cs := kc bef) _ _ _ rfl rfl HM ?_; clear HM; intro b3 W HM))
      | ((with_reducible refine s_ 4 ?_); go_must (refine wl_box (dst := some 4) (cs := kc aft) _ _ _ rfl rfl HM ?_; clear HM; intro b4 W HM))
      | ((with_reducible refine s_ 5 ?_); go_must (refine wl_box (dst := some 5) (cs := #[.int .i64 o, .int .i64 n, v]) _ _ _ rfl rfl HM ?_; clear HM; intro b5 W HM))
      | ((with_reducible refine ld_ 59 ?_); go_must (refine wl_load_blk _ _ _ _ _ _ rfl HM (by repeat first | exact List.mem_cons_self .. | refine List.mem_cons_of_mem _ ?_) Try.underlying59 rfl (by exact sz59) ?_))
      | (go_at_call 83; go_must (((with_reducible refine (rFitsGrowth_c o n v p _ (hR.mem HM)).mono ?_)); rintro e W ⟨rfl, HM'⟩; replace HM := HM.keep HM'.below; clear HM')))
    refine ret2 rfl (res_tmp rfl) (res_tmp rfl) rfl ?_
    exact ⟨rfl, HM.base⟩
set_option maxHeartbeats 1600000 in
theorem GrowthTexts_c (bef : Key) (o n : Int) (v : Value) (p : List Key) (w : World) (hR : RdL encK 16 w v p) :
    Calls Try.prog 32 #[.agg (kc bef), .agg #[.int .i64 o, .int .i64 n, v]] w fun e w' => ∃ u, e = .returned (.tuple #[u, .int .i64 (vgE o n p)]) ∧ Given w w' u (vgT bef o n p) := by
  have HM := Mem.start w
  have hv1 := rd_one hR
  by_cases h : fitgB o n p.length = true
  · obtain ⟨a, b, rfl, rfl, g1, g2, g3, g4⟩ := fitgB_is h
    obtain ⟨q1, q2, q3⟩ := vg_ok bef bef a b p h
    rw [q2, q3]
    clear q1 q2 q3
    go_enter Try.func32, Try.ntmps32
    go_wp2_with (first
      | ((with_reducible refine s_ 2 ?_); go_must (refine wl_box (dst := some 2) (cs := kc bef) _ _ _ rfl rfl HM ?_; clear HM; intro b2 W HM))
      | ((with_reducible refine s_ 3 ?_); go_must (refine wl_box (dst := some 3) (cs := #[.int .i64 (a : Int), .int .i64 (b : Int), v]) _ _ _ rfl rfl HM ?_; clear HM; intro b3 W HM))
      | ((with_reducible refine s_ 6 ?_); go_must (refine wl_alloc (dst := some 6) (cs := #[Value.slice none 0 0]) 119 _ Try.zeroValue119 rfl HM ?_; clear HM; intro b6 W HM))
      | ((with_reducible refine ld_ 59 ?_); go_must (refine wl_load_blk _ _ _ _ _ _ rfl HM (by repeat first | exact List.mem_cons_self .. | refine List.mem_cons_of_mem _ ?_) Try.underlying59 rfl (by exact sz59) ?_))
      | ((with_reducible refine ld_ 23 ?_); go_must (refine wl_load_blk _ _ _ _ _ _ rfl HM (by repeat first | exact List.mem_cons_self .. | refine List.mem_cons_of_mem _ ?_) Try.underlying23 rfl (by rw [kc_size]; exact sz23) ?_))
      | ((with_reducible refine ld_ 3 ?_); go_must (refine wl_load_cell _ _ _ _ _ _ _ _ rfl HM (by repeat first | exact List.mem_cons_self .. | refine List.mem_cons_of_mem _ ?_) (by rfl) Try.underlying3 rfl ?_))
      | ((with_reducible refine ld_ 40 ?_); go_must (refine wl_load_cell _ _ _ _ _ _ _ _ rfl HM (by repeat first | exact List.mem_cons_self .. | refine List.mem_cons_of_mem _ ?_) (by rfl) Try.underlying40 rfl ?_))
      | ((with_reducible refine ld_ 119 ?_); go_must (refine wl_load_cell _ _ _ _ _ _ _ _ rfl HM (by repeat first | exact List.mem_cons_self .. | refine List.mem_cons_of_mem _ ?_) (by rfl) Try.underlying119 rfl ?_))
      | (go_at_call 81; go_must (((with_reducible refine (fitsGrowth_c a b v p _ (hR.mem HM)).mono ?_)); rintro e W ⟨rfl, HM'⟩; replace HM := HM.keep HM'.below; clear HM'))
      | (go_at_call 82; go_must (((with_reducible refine (grow_c w b6 bef b a true p v _ _ [] _ g1 g2 g3 g4 (by simp; omega) hR HM.nilT).mono ?_)); rintro e W ⟨u, us, R, rfl, hT, hX, HM'⟩; clear HM; rename _ => HM; simp only [List.cons_append, List.nil_append] at HM)))
    refine ret2 rfl (res_tmp rfl) (res_tmp rfl) rfl ?_
    exact ⟨u, rfl, us, R, hT, hX, HM.sub (.cons _ (.cons_cons _ (.cons _ (.cons _ (.refl _)))))⟩
  · have h' : fitgB o n p.length = false := by simpa using h
    obtain ⟨q1, q2, q3⟩ := vg_no bef bef o n p h'
    rw [q2, q3]
    clear q1 q2 q3 h
    go_enter Try.func32, Try.ntmps32
    go_wp2_with (first
      | ((with_reducible refine s_ 2 ?_); go_must (refine wl_box (dst := some 2) (cs := kc bef) _ _ _ rfl rfl HM ?_; clear HM; intro b2 W HM))
      | ((with_reducible refine s_ 3 ?_); go_must (refine wl_box (dst := some 3) (cs := #[.int .i64 o, .int .i64 n, v]) _ _ _ rfl rfl HM ?_; clear HM; intro b3 W HM))
      | ((with_reducible refine ld_ 59 ?_); go_must (refine wl_load_blk _ _ _ _ _ _ rfl HM (by repeat first | exact List.mem_cons_self .. | refine List.mem_cons_of_mem _ ?_) Try.underlying59 rfl (by exact sz59) ?_))
      | (go_at_call 81; go_must (((with_reducible refine (fitsGrowth_c o n v p _ (hR.mem HM)).mono ?_)); rintro e W ⟨rfl, HM'⟩; replace HM := HM.keep HM'.below; clear HM')))
    refine ret2 rfl (res_tmp rfl) (res_tmp rfl) rfl ?_
    exact ⟨_, rfl, [], [], rfl, Tx.nil _, HM.base.nilrow _ _⟩
set_option maxHeartbeats 1600000 in
theorem rGrowthTexts_c (bef : Key) (o n : Int) (v : Value) (p : List Key) (w : World) (hR : RdL encK 16 w v p) :
    Calls Try.prog 33 #[.agg (kc bef), .agg #[.int .i64 o, .int .i64 n, v]] w fun e w' => ∃ u, e = .returned (.tuple #[u, .int .i64 (vgE o n p)]) ∧ Given w w' u (vgT bef o n p) := by
  have HM := Mem.start w
  have hv1 := rd_one hR
  by_cases h : fitgB o n p.length = true
  · obtain ⟨a, b, rfl, rfl, g1, g2, g3, g4⟩ := fitgB_is h
    obtain ⟨q1, q2, q3⟩ := vg_ok bef bef a b p h
    rw [q2, q3]
    clear q1 q2 q3
    go_enter Try.func33, Try.ntmps33
    go_wp2_with (first
      | ((with_reducible refine s_ 2 ?_); go_must (refine wl_box (dst := some 2) (cs := kc bef) _ _ _ rfl rfl HM ?_; clear HM; intro b2 W HM))
      | ((with_reducible refine s_ 3 ?_); go_must (refine wl_box (dst := some 3) (cs := #[.int .i64 (a : Int), .int .i64 (b : Int), v]) _ _ _ rfl rfl HM ?_; clear HM; intro b3 W HM))
      | ((with_reducible refine s_ 6 ?_); go_must (refine wl_alloc (dst := some 6) (cs := kc zeroKey) 23 _ Try.zeroValue23 kc_zero HM ?_; clear HM; intro b6 W HM))
      | ((with_reducible refine s_ 7 ?_); go_must (refine wl_alloc (dst := some 7) (cs := kc zeroKey) 23 _ Try.zeroValue23 kc_zero HM ?_; clear HM; intro b7 W HM))
      | ((with_reducible refine ld_ 59 ?_); go_must (refine wl_load_blk _ _ _ _ _ _ rfl HM (by repeat first | exact List.mem_cons_self .. | refine List.mem_cons_of_mem _ ?_) Try.underlying59 rfl (by exact sz59) ?_))
      | ((with_reducible refine ld_ 23 ?_); go_must (refine wl_load_blk _ _ _ _ _ _ rfl HM (by repeat first | exact List.mem_cons_self .. | refine List.mem_cons_of_mem _ ?_) Try.underlying23 rfl (by rw [kc_size]; exact sz23) ?_))
      | ((with_reducible refine ld_ 3 ?_); go_must (refine wl_load_cell _ _ _ _ _ _ _ _ rfl HM (by repeat first | exact List.mem_cons_self .. | refine List.mem_cons_of_mem _ ?_) (by rfl) Try.underlying3 rfl ?_))
      | ((with_reducible refine ld_ 40 ?_); go_must (refine wl_load_cell _ _ _ _ _ _ _ _ rfl HM (by repeat first | exact List.mem_cons_self .. | refine List.mem_cons_of_mem _ ?_) (by rfl) Try.underlying40 rfl ?_))
      | ((with_reducible refine st_ 23 ?_); go_must ((first | refine wl_store_blk _ _ _ _ _ _ _ rfl rfl HM .here (by rw [kc_size]; exact sz23) (by simp only [kc_size]) (kc_one _) ?_ | refine wl_store_blk _ _ _ _ _ _ _ rfl rfl HM (.there .here) (by rw [kc_size]; exact sz23) (by simp only [kc_size]) (kc_one _) ?_); clear HM; intro W HM))
      | (go_at_call 83; go_must (((with_reducible refine (rFitsGrowth_c a b v p _ (hR.mem HM)).mono ?_)); rintro e W ⟨rfl, HM'⟩; replace HM := HM.keep HM'.below; clear HM'))
      | (go_at_call 84; go_must (((with_reducible refine (rgrown_c bef b a true v p _ (hR.mem HM) g1 g2 g3 g4).mono ?_)); rintro e W ⟨u, rfl, us, R, hT, hX, HM'⟩; replace HM := HM.join HM'; clear HM'; simp only [List.cons_append, List.nil_append] at HM)))
    refine ret2 rfl (res_tmp rfl) (res_tmp rfl) rfl ?_
    exact ⟨u, rfl, us, R, hT, hX, HM.sub (.cons _ (.cons _ (.cons_cons _ (List.sublist_append_left _ _))))⟩
  · have h' : fitgB o n p.length = false := by simpa using h
    obtain ⟨q1, q2, q3⟩ := vg_no bef bef o n p h'
    rw [q2, q3]
    clear q1 q2 q3 h
    go_enter Try.func33, Try.ntmps33
    go_wp2_with (first
      | ((with_reducible refine s_ 2 ?_); go_must (refine wl_box (dst := some 2) (cs := kc bef) _ _ _ rfl rfl HM ?_; clear HM; intro b2 W HM))
      | ((with_reducible refine s_ 3 ?_); go_must (refine wl_box (dst := some 3) (cs := #[.int .i64 o, .int .i64 n, v]) _ _ _ rfl rfl HM ?_; clear HM; intro b3 W HM))
      | ((with_reducible refine ld_ 59 ?_); go_must (refine wl_load_blk _ _ _ _ _ _ rfl HM (by repeat first | exact List.mem_cons_self .. | refine List.mem_cons_of_mem _ ?_) Try.underlying59 rfl (by exact sz59) ?_))
      | (go_at_call 83; go_must (((with_reducible refine (rFitsGrowth_c o n v p _ (hR.mem HM)).mono ?_)); rintro e W ⟨rfl, HM'⟩; replace HM := HM.keep HM'.below; clear HM')))
    refine ret2 rfl (res_tmp rfl) (res_tmp rfl) rfl ?_
    exact ⟨_, rfl, [], [], rfl, Tx.nil _, HM.base.nilrow _ _⟩
end
end Go.Proofs.Ythdekionepfmdaa
