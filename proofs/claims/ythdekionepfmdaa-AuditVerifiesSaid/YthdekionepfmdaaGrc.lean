/- Growths: all cases, the program's and the reference's. -/
import Derived.Test.YthdekionepfmdaaGrb
set_option linter.unusedVariables false
set_option linter.unusedSimpArgs false
set_option maxRecDepth 8000
namespace Go.Proofs.Ythdekionepfmdaa
open Go.RowKit

set_option maxHeartbeats 800000 in
theorem rgrowth_go (l : List Key) (m : Nat) (v : Value) (w : World) (hR : RdL encK 16 w v l) (hl : l.length ≤ 128) (h1 : 1 ≤ m) (hm : m ≤ l.length) :
    Calls Try.prog 24 #[v, .int .i64 (m : Int)] w fun e w' => ∃ u, e = .returned (.tuple #[.agg #[.int .i64 (m : Int), .int .i64 l.length, u], .int .i64 0]) ∧ Mem w w' [.row u 23 16 (partL l m true).length ((partL l m true).flatMap encK)] := by
  have HM := Mem.start w
  have hb1 : ¬ (128 : Int) < (l.length : Int) := by omega
  have hb2 : ¬ (m : Int) < 1 := by omega
  have hb3 : ¬ (l.length : Int) < (m : Int) := by omega
  go_enter Try.func24, Try.ntmps24
  go_wp2_with (first
    | ((with_reducible refine gd_ _ ?_); refine wl_guard (by rfl) ?_)
    | ((with_reducible refine stt_ 59 4 ?_); go_must (refine wl_store_blk _ _ _ _ _ _ _ rfl rfl HM (.there .here) sz59 rfl (prf_one _ _ _ (row_one (HM.row m0))) ?_; clear HM; intro W HM))
    | ((with_reducible refine s_ 4 ?_); go_must (refine wl_alloc (dst := some 4) (cs := #[Value.int IntKind.i64 0, Value.int IntKind.i64 0, Value.slice none 0 0]) 59 _ Try.zeroValue59 rfl HM ?_; clear HM; intro b4 W HM))
    | ((with_reducible refine s_ 7 ?_); go_must ((refine wl_len (dst := some 7) _ _ _ _ 23 Try.underlying40 rfl (hR.mem HM) ?_)))
    | ((with_reducible refine s_ 15 ?_); go_must ((refine wl_len (dst := some 15) _ _ _ _ 23 Try.underlying40 rfl (hR.mem HM) ?_)))
    | ((with_reducible refine s_ 21 ?_); go_must ((refine wl_len (dst := some 21) _ _ _ _ 23 Try.underlying40 rfl (hR.mem HM) ?_)))
    | ((with_reducible refine s_ 25 ?_); go_must (refine wl_build (dst := some 25) _ _ _ _ (run_build_grw _ _ _ hu) rfl ?_))
    | (go_at_call 74; go_must (((with_reducible refine (rpart_c l.length l m true v _ rfl (by omega) h1 hm (hR.mem HM)).mono ?_)); rintro e W ⟨u, rfl, HM'⟩; replace HM := HM.join HM'; clear HM'; simp only [List.cons_append, List.nil_append] at HM; have hu := row_cells (HM.row m0))))
  refine ret2 rfl (by (exact res_row HM rfl m1 Try.underlying59 rfl sz59)) (res_tmp rfl) rfl ?_
  exact ⟨_, rfl, HM.only m0⟩

set_option maxHeartbeats 800000 in
theorem ProveGrowth_c (l : List Key) (i : Int) (v : Value) (w : World) (hR : RdL encK 16 w v l) :
    Calls Try.prog 23 #[v, .int .i64 i] w fun e w' => ∃ u, e = .returned (.tuple #[.agg #[.int .i64 (gvO l i), .int .i64 (gvN l i), u], .int .i64 (gvE l i)]) ∧ Mem w w' [.row u 23 16 (gvP l i).length ((gvP l i).flatMap encK)] := by
  have HM := Mem.start w
  by_cases h : l.length ≤ 128
  · have hb : ¬ (128 : Int) < (l.length : Int) := by omega
    by_cases hi : 1 ≤ i ∧ i ≤ l.length
    · obtain ⟨h1, h2, h3, h4⟩ := gv_ok l i h hi.1 hi.2
      rw [h1, h2, h3, h4]
      clear h1 h2 h3 h4
      obtain ⟨n, rfl⟩ := Int.eq_ofNat_of_zero_le (show 0 ≤ i by omega)
      rw [Int.toNat_natCast]
      exact growth_go l n v w hR h (by omega) (by omega)
    · obtain ⟨h1, h2, h3, h4⟩ := gv_arg l i h hi
      rw [h1, h2, h3, h4]
      clear h1 h2 h3 h4
      by_cases hi0 : i < 1
      all_goals
        (try have hi2 : (l.length : Int) < i := by omega)
        clear hi
        go_enter Try.func23, Try.ntmps23
        go_wp2_with (first
          | ((with_reducible refine gd_ _ ?_); refine wl_guard (by rfl) ?_)
          | ((with_reducible refine s_ 4 ?_); go_must (refine wl_alloc (dst := some 4) (cs := #[Value.int IntKind.i64 0, Value.int IntKind.i64 0, Value.slice none 0 0]) 59 _ Try.zeroValue59 rfl HM ?_; clear HM; intro b4 W HM))
          | ((with_reducible refine s_ 10 ?_); go_must ((refine wl_len (dst := some 10) _ _ _ _ 23 Try.underlying40 rfl (hR.mem HM) ?_)))
          | ((with_reducible refine s_ 18 ?_); go_must ((refine wl_len (dst := some 18) _ _ _ _ 23 Try.underlying40 rfl (hR.mem HM) ?_)))
          | ((with_reducible refine s_ 21 ?_); go_must (refine wl_build (dst := some 21) _ _ _ _ (run_build_grw0) rfl ?_))
          | ((with_reducible refine st_ 59 ?_); go_must ((refine wl_store_blk _ _ _ _ _ _ _ rfl rfl HM .here sz59 rfl (by simp [Value.oneCell']) ?_); clear HM; intro W HM)))
        refine ret2 rfl (by (exact res_row HM rfl m0 Try.underlying59 rfl sz59)) (res_tmp rfl) rfl ?_
        exact ⟨_, rfl, HM.base.nilrow _ _⟩
  · have hb : (128 : Int) < (l.length : Int) := by omega
    obtain ⟨h1, h2, h3, h4⟩ := gv_many l i h
    rw [h1, h2, h3, h4]
    clear h1 h2 h3 h4
    go_enter Try.func23, Try.ntmps23
    go_wp2_with (first
      | ((with_reducible refine s_ 4 ?_); go_must (refine wl_alloc (dst := some 4) (cs := #[Value.int IntKind.i64 0, Value.int IntKind.i64 0, Value.slice none 0 0]) 59 _ Try.zeroValue59 rfl HM ?_; clear HM; intro b4 W HM))
      | ((with_reducible refine s_ 10 ?_); go_must ((refine wl_len (dst := some 10) _ _ _ _ 23 Try.underlying40 rfl (hR.mem HM) ?_)))
      | ((with_reducible refine s_ 12 ?_); go_must (refine wl_build (dst := some 12) _ _ _ _ (run_build_grw0) rfl ?_))
      | ((with_reducible refine st_ 59 ?_); go_must ((refine wl_store_blk _ _ _ _ _ _ _ rfl rfl HM .here sz59 rfl (by simp [Value.oneCell']) ?_); clear HM; intro W HM)))
    refine ret2 rfl (by (exact res_row HM rfl m0 Try.underlying59 rfl sz59)) (res_tmp rfl) rfl ?_
    exact ⟨_, rfl, HM.base.nilrow _ _⟩
set_option maxHeartbeats 800000 in
theorem rProveGrowth_c (l : List Key) (i : Int) (v : Value) (w : World) (hR : RdL encK 16 w v l) :
    Calls Try.prog 24 #[v, .int .i64 i] w fun e w' => ∃ u, e = .returned (.tuple #[.agg #[.int .i64 (gvO l i), .int .i64 (gvN l i), u], .int .i64 (gvE l i)]) ∧ Mem w w' [.row u 23 16 (gvP l i).length ((gvP l i).flatMap encK)] := by
  have HM := Mem.start w
  by_cases h : l.length ≤ 128
  · have hb : ¬ (128 : Int) < (l.length : Int) := by omega
    by_cases hi : 1 ≤ i ∧ i ≤ l.length
    · obtain ⟨h1, h2, h3, h4⟩ := gv_ok l i h hi.1 hi.2
      rw [h1, h2, h3, h4]
      clear h1 h2 h3 h4
      obtain ⟨n, rfl⟩ := Int.eq_ofNat_of_zero_le (show 0 ≤ i by omega)
      rw [Int.toNat_natCast]
      exact rgrowth_go l n v w hR h (by omega) (by omega)
    · obtain ⟨h1, h2, h3, h4⟩ := gv_arg l i h hi
      rw [h1, h2, h3, h4]
      clear h1 h2 h3 h4
      by_cases hi0 : i < 1
      all_goals
        (try have hi2 : (l.length : Int) < i := by omega)
        clear hi
        go_enter Try.func24, Try.ntmps24
        go_wp2_with (first
          | ((with_reducible refine gd_ _ ?_); refine wl_guard (by rfl) ?_)
          | ((with_reducible refine s_ 4 ?_); go_must (refine wl_alloc (dst := some 4) (cs := #[Value.int IntKind.i64 0, Value.int IntKind.i64 0, Value.slice none 0 0]) 59 _ Try.zeroValue59 rfl HM ?_; clear HM; intro b4 W HM))
          | ((with_reducible refine s_ 7 ?_); go_must ((refine wl_len (dst := some 7) _ _ _ _ 23 Try.underlying40 rfl (hR.mem HM) ?_)))
          | ((with_reducible refine s_ 15 ?_); go_must ((refine wl_len (dst := some 15) _ _ _ _ 23 Try.underlying40 rfl (hR.mem HM) ?_)))
          | ((with_reducible refine s_ 18 ?_); go_must (refine wl_build (dst := some 18) _ _ _ _ (run_build_grw0) rfl ?_))
          | ((with_reducible refine st_ 59 ?_); go_must ((refine wl_store_blk _ _ _ _ _ _ _ rfl rfl HM .here sz59 rfl (by simp [Value.oneCell']) ?_); clear HM; intro W HM)))
        refine ret2 rfl (by (exact res_row HM rfl m0 Try.underlying59 rfl sz59)) (res_tmp rfl) rfl ?_
        exact ⟨_, rfl, HM.base.nilrow _ _⟩
  · have hb : (128 : Int) < (l.length : Int) := by omega
    obtain ⟨h1, h2, h3, h4⟩ := gv_many l i h
    rw [h1, h2, h3, h4]
    clear h1 h2 h3 h4
    go_enter Try.func24, Try.ntmps24
    go_wp2_with (first
      | ((with_reducible refine s_ 4 ?_); go_must (refine wl_alloc (dst := some 4) (cs := #[Value.int IntKind.i64 0, Value.int IntKind.i64 0, Value.slice none 0 0]) 59 _ Try.zeroValue59 rfl HM ?_; clear HM; intro b4 W HM))
      | ((with_reducible refine s_ 7 ?_); go_must ((refine wl_len (dst := some 7) _ _ _ _ 23 Try.underlying40 rfl (hR.mem HM) ?_)))
      | ((with_reducible refine s_ 9 ?_); go_must (refine wl_build (dst := some 9) _ _ _ _ (run_build_grw0) rfl ?_))
      | ((with_reducible refine st_ 59 ?_); go_must ((refine wl_store_blk _ _ _ _ _ _ _ rfl rfl HM .here sz59 rfl (by simp [Value.oneCell']) ?_); clear HM; intro W HM)))
    refine ret2 rfl (by (exact res_row HM rfl m0 Try.underlying59 rfl sz59)) (res_tmp rfl) rfl ?_
    exact ⟨_, rfl, HM.base.nilrow _ _⟩
end Go.Proofs.Ythdekionepfmdaa
