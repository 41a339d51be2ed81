/- Root of a list, with its limit: the program's and the reference's. -/
import Derived.Test.YthdekionepfmdaaPtb
set_option linter.unusedVariables false
set_option linter.unusedSimpArgs false
set_option maxRecDepth 8000
namespace Go.Proofs.Ythdekionepfmdaa
open Go.RowKit

def rtK (l : List Key) : Key := if l.length ≤ 128 then rootL l else zeroKey
def rtE (l : List Key) : Int := if l.length ≤ 128 then 0 else 4
set_option maxHeartbeats 400000 in
theorem Root_c (v : Value) (l : List Key) (w : World) (hR : RdL encK 16 w v l) :
    Calls Try.prog 15 #[v] w fun e w' => e = .returned (.tuple #[.agg (kc (rtK l)), .int .i64 (rtE l)]) ∧ Mem w w' [] := by
  have HM := Mem.start w
  by_cases h : l.length ≤ 128
  · have hb : ¬ (128 : Int) < (l.length : Int) := by omega
    simp only [rtK, rtE, if_pos h]
    go_enter Try.func15, Try.ntmps15
    go_wp2_with (first
      | ((with_reducible refine s_ 2 ?_); go_must (refine wl_alloc (dst := some 2) (cs := kc zeroKey) 23 _ Try.zeroValue23 kc_zero HM ?_; clear HM; intro b2 W HM))
      | ((with_reducible refine s_ 5 ?_); go_must ((refine wl_len (dst := some 5) _ _ _ _ 23 Try.underlying40 rfl (hR.mem HM) ?_)))
      | ((with_reducible refine st_ 23 ?_); go_must ((refine wl_store_blk _ _ _ _ _ _ _ rfl rfl HM .here (by rw [kc_size]; exact sz23) (by simp only [kc_size]) (kc_one _) ?_); clear HM; intro W HM))
      | (go_at_call 61; go_must (((with_reducible refine (root_c _ _ _ (hR.mem HM) (by omega)).mono ?_)); rintro e W ⟨rfl, HM'⟩; replace HM := HM.keep HM'.below; clear HM')))
    refine ret2 rfl (by (exact res_row HM rfl m0 Try.underlying23 rfl (by rw [kc_size]; exact sz23))) (res_tmp rfl) rfl ?_
    exact ⟨rfl, HM.base⟩
  · have hb : (128 : Int) < (l.length : Int) := by omega
    simp only [rtK, rtE, if_neg h]
    go_enter Try.func15, Try.ntmps15
    go_wp2_with (first
      | ((with_reducible refine s_ 2 ?_); go_must (refine wl_alloc (dst := some 2) (cs := kc zeroKey) 23 _ Try.zeroValue23 kc_zero HM ?_; clear HM; intro b2 W HM))
      | ((with_reducible refine s_ 5 ?_); go_must ((refine wl_len (dst := some 5) _ _ _ _ 23 Try.underlying40 rfl (hR.mem HM) ?_)))
      | ((with_reducible refine s_ 7 ?_); go_must (refine wl_build (dst := some 7) _ _ _ _ (run_build_key0) rfl ?_))
      | ((with_reducible refine st_ 23 ?_); go_must ((refine wl_store_blk _ _ _ _ _ _ _ rfl rfl HM .here (by rw [kc_size]; exact sz23) (by simp only [kc_size]) (kc_one _) ?_); clear HM; intro W HM)))
    refine ret2 rfl (by (exact res_row HM rfl m0 Try.underlying23 rfl (by rw [kc_size]; exact sz23))) (res_tmp rfl) rfl ?_
    exact ⟨rfl, HM.base⟩
set_option maxHeartbeats 400000 in
theorem rRoot_c (v : Value) (l : List Key) (w : World) (hR : RdL encK 16 w v l) :
    Calls Try.prog 16 #[v] w fun e w' => e = .returned (.tuple #[.agg (kc (rtK l)), .int .i64 (rtE l)]) ∧ Mem w w' [] := by
  have HM := Mem.start w
  by_cases h : l.length ≤ 128
  · have hb : ¬ (128 : Int) < (l.length : Int) := by omega
    simp only [rtK, rtE, if_pos h]
    go_enter Try.func16, Try.ntmps16
    go_wp2_with (first
      | ((with_reducible refine s_ 2 ?_); go_must (refine wl_alloc (dst := some 2) (cs := kc zeroKey) 23 _ Try.zeroValue23 kc_zero HM ?_; clear HM; intro b2 W HM))
      | ((with_reducible refine s_ 5 ?_); go_must ((refine wl_len (dst := some 5) _ _ _ _ 23 Try.underlying40 rfl (hR.mem HM) ?_)))
      | ((with_reducible refine st_ 23 ?_); go_must ((refine wl_store_blk _ _ _ _ _ _ _ rfl rfl HM .here (by rw [kc_size]; exact sz23) (by simp only [kc_size]) (kc_one _) ?_); clear HM; intro W HM))
      | (go_at_call 62; go_must (((with_reducible refine (rrootOf_c l.length _ _ _ rfl (by omega) (hR.mem HM)).mono ?_)); rintro e W ⟨rfl, HM'⟩; replace HM := HM.keep HM'.below; clear HM')))
    refine ret2 rfl (by (exact res_row HM rfl m0 Try.underlying23 rfl (by rw [kc_size]; exact sz23))) (res_tmp rfl) rfl ?_
    exact ⟨rfl, HM.base⟩
  · have hb : (128 : Int) < (l.length : Int) := by omega
    simp only [rtK, rtE, if_neg h]
    go_enter Try.func16, Try.ntmps16
    go_wp2_with (first
      | ((with_reducible refine s_ 2 ?_); go_must (refine wl_alloc (dst := some 2) (cs := kc zeroKey) 23 _ Try.zeroValue23 kc_zero HM ?_; clear HM; intro b2 W HM))
      | ((with_reducible refine s_ 5 ?_); go_must ((refine wl_len (dst := some 5) _ _ _ _ 23 Try.underlying40 rfl (hR.mem HM) ?_)))
      | ((with_reducible refine s_ 7 ?_); go_must (refine wl_build (dst := some 7) _ _ _ _ (run_build_key0) rfl ?_))
      | ((with_reducible refine st_ 23 ?_); go_must ((refine wl_store_blk _ _ _ _ _ _ _ rfl rfl HM .here (by rw [kc_size]; exact sz23) (by simp only [kc_size]) (kc_one _) ?_); clear HM; intro W HM)))
    refine ret2 rfl (by (exact res_row HM rfl m0 Try.underlying23 rfl (by rw [kc_size]; exact sz23))) (res_tmp rfl) rfl ?_
    exact ⟨rfl, HM.base⟩

section
attribute [local go_sem] keyEqI
set_option maxHeartbeats 400000 in
/-- The same keys twice: true. -/
theorem sameKeys_c (v v' : Value) (l : List Key) (w : World) (hR : RdL encK 16 w v l) (hR' : RdL encK 16 w v' l) (hl : l.length ≤ 140737488351232) :
    Calls Try.prog 25 #[v, v'] w fun e w' => e = .returned (.bool true) ∧ Mem w w' [] := by
  have HM := Mem.start w
  go_enter Try.func25, Try.ntmps25
  go_wp2_with (first
    | ((with_reducible refine s_ 7 ?_); go_must ((refine wl_len (dst := some 7) _ _ _ _ 23 Try.underlying40 rfl (hR.mem HM) ?_)))
    | ((with_reducible refine s_ 9 ?_); go_must ((refine wl_len (dst := some 9) _ _ _ _ 23 Try.underlying40 rfl (hR'.mem HM) ?_))))
  go_loopw [5] (fun c wr => ∃ i : Nat, i ≤ l.length ∧ c = .int .i64 i ∧ Mem w wr [])
    (fun c _ => l.length - (intOf c).toNat)
  case atStart => exact ⟨0, by omega, rfl, HM⟩
  case round =>
    clear HM
    obtain ⟨i, hi, rfl, HM⟩ := hrel
    by_cases hlt : i < l.length
    · have hb : (i : Int) < (l.length : Int) := by omega
      have hx : l[i]? = some l[i] := List.getElem?_eq_getElem hlt
      go_wp2_with (first
        | ((with_reducible refine s_ 13 ?_); go_must ((refine wl_len (dst := some 13) _ _ _ _ 23 Try.underlying40 rfl (hR.mem HM) ?_))))
      replace HM := HM.drew
      refine wp_region_mixN (fun W => Held w W []) (fun W => Held w W []) (.cons (2, 0) (.cons (2, 1) (.cons (2, 2) (.cons (2, 3) (.cons (2, 4) (.cons (2, 5) (.cons (2, 6) (.cons (2, 7) (.cons (2, 8) .nil))))))))) [] (by kernel_rfl) (by kernel_rfl) (by kernel_rfl) (fun W h => Held.weak h (by simp)) (HM.held (by simp)) ?_
      revert HM; generalize World.drew _ = W; intro HM
      have HS1 : Held w W [] := HM.held (by simp)
      have HS2 : Held w W [] := HM.held (by simp)
      refine wm_q2 (i := 0) (v := ?v6_1) (some 17) rfl rfl rfl HS2 (fun W HS => ?y6_1) ?_
      case y6_1 => (go_simp; try with_reducible rfl)
      simp only [Act.put, List.getElem_toArray, List.getElem_cons_succ, List.getElem_cons_zero, List.setIfInBounds_toArray, List.set_cons_succ, List.set_cons_zero]
      refine wm_q2 (i := 1) (v := ?v6_2) (some 18) rfl rfl rfl HS2 (fun W HS => ?y6_2) ?_
      case y6_2 => (go_simp; try with_reducible rfl)
      simp only [Act.put, List.getElem_toArray, List.getElem_cons_succ, List.getElem_cons_zero, List.setIfInBounds_toArray, List.set_cons_succ, List.set_cons_zero]
      (refine wm_q2x (i := 2) (some 19) rfl rfl rfl HS2 (ry_index _ 23 _ _ _ _ _ _ _ (fun W => Held w W []) W encK_len Try.underlying40 sz23 HS2 (fun W HS => hR.held HS) rfl rfl (by omega) (by first | assumption | simp [*])) ?_); intro p19 hp19
      simp only [Act.put, List.getElem_toArray, List.getElem_cons_succ, List.getElem_cons_zero, List.setIfInBounds_toArray, List.set_cons_succ, List.set_cons_zero]
      refine wm_q2 (i := 3) (some 20) rfl rfl rfl HS2 (fun W HS => (by refine ry_load_key _ _ _ _ ?_ (hp19 W HS) Try.underlying23 sz23; rfl)) ?_
      simp only [Act.put, List.getElem_toArray, List.getElem_cons_succ, List.getElem_cons_zero, List.setIfInBounds_toArray, List.set_cons_succ, List.set_cons_zero]
      refine wm_q2 (i := 4) (v := ?v6_4) (some 21) rfl rfl rfl HS2 (fun W HS => ?y6_4) ?_
      case y6_4 => (go_simp; try with_reducible rfl)
      simp only [Act.put, List.getElem_toArray, List.getElem_cons_succ, List.getElem_cons_zero, List.setIfInBounds_toArray, List.set_cons_succ, List.set_cons_zero]
      refine wm_q2 (i := 5) (v := ?v6_5) (some 22) rfl rfl rfl HS2 (fun W HS => ?y6_5) ?_
      case y6_5 => (go_simp; try with_reducible rfl)
      simp only [Act.put, List.getElem_toArray, List.getElem_cons_succ, List.getElem_cons_zero, List.setIfInBounds_toArray, List.set_cons_succ, List.set_cons_zero]
      (refine wm_q2x (i := 6) (some 23) rfl rfl rfl HS2 (ry_index _ 23 _ _ _ _ _ _ _ (fun W => Held w W []) W encK_len Try.underlying40 sz23 HS2 (fun W HS => hR'.held HS) rfl rfl (by omega) (by first | assumption | simp [*])) ?_); intro p23 hp23
      simp only [Act.put, List.getElem_toArray, List.getElem_cons_succ, List.getElem_cons_zero, List.setIfInBounds_toArray, List.set_cons_succ, List.set_cons_zero]
      refine wm_q2 (i := 7) (some 24) rfl rfl rfl HS2 (fun W HS => (by refine ry_load_key _ _ _ _ ?_ (hp23 W HS) Try.underlying23 sz23; rfl)) ?_
      simp only [Act.put, List.getElem_toArray, List.getElem_cons_succ, List.getElem_cons_zero, List.setIfInBounds_toArray, List.set_cons_succ, List.set_cons_zero]
      refine wm_q2 (i := 8) (v := ?v6_7) (some 25) rfl rfl rfl HS2 (fun W HS => ?y6_7) ?_
      case y6_7 => (go_simp; try with_reducible rfl)
      simp only [Act.put, List.getElem_toArray, List.getElem_cons_succ, List.getElem_cons_zero, List.setIfInBounds_toArray, List.set_cons_succ, List.set_cons_zero]
      refine wm_nilN ?_
      clear HS1 HS2
      go_wp2_with (fail)
      go_roundw
      case rel => exact ⟨i + 1, by omega, by go_num, HM⟩
      case measure => simp [intOf]; omega
    · obtain rfl : i = l.length := by omega
      go_wp2_with (first
        | ((with_reducible refine s_ 13 ?_); go_must ((refine wl_len (dst := some 13) _ _ _ _ 23 Try.underlying40 rfl (hR.mem HM) ?_))))
      refine ret1 rfl (res_tmp rfl) rfl ?_
      exact ⟨rfl, HM⟩
end
end Go.Proofs.Ythdekionepfmdaa
