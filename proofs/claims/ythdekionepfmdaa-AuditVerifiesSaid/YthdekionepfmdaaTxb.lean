/- The text of a node by the program; the digests of leaves and nodes. -/
import Derived.Test.YthdekionepfmdaaTxa
set_option linter.unusedVariables false
set_option linter.unusedSimpArgs false
set_option maxRecDepth 8000
namespace Go.Proofs.Ythdekionepfmdaa
open Go.RowKit

theorem cat_node (a b : Key) (v0 v1 v2 : Value) : catTo [(v0, [1]), (v1, a.toList), (v2, b.toList)] 3 = textNode a b := by simp [catTo, textNode]
set_option maxHeartbeats 800000 in
theorem nodeText_c (a b : Key) (w : World) :
    Calls Try.prog 68 #[.agg (kc a), .agg (kc b)] w fun e w' => ∃ v, e = .returned v ∧ Mem w w' [.row v 5 1 33 ((textNode a b).flatMap encB)] := by
  have HM := Mem.start w
  go_enter Try.func68, Try.ntmps68
  go_wp2_with (first
    | ((with_reducible refine s_ 2 ?_); go_must (refine wl_box (dst := some 2) (cs := kc a) _ _ _ rfl rfl HM ?_; clear HM; intro b2 W HM))
    | ((with_reducible refine s_ 3 ?_); go_must (refine wl_box (dst := some 3) (cs := kc b) _ _ _ rfl rfl HM ?_; clear HM; intro b3 W HM)))
  replace HM := HM.drew
  refine wp_region_mixN (fun W => Held w W []) (fun W => Held w W []) (.cons (2, 1) (.cons (2, 2) (.cons (0, 0) (.cons (0, 3) (.cons (0, 4) (.cons (2, 5) .nil)))))) [] (by kernel_rfl) (by kernel_rfl) (by kernel_rfl) (fun W h => Held.weak h (by simp)) (HM.held (by simp)) ?_
  revert HM; generalize World.drew _ = W; intro HM
  have HS1 : Held w W [] := HM.held (by simp)
  have HS2 : Held w W [] := HM.held (by simp)
  refine wm_q2 (i := 1) (v := ?v1_1) (some 6) rfl rfl rfl HS2 (fun W HS => ?y1_1) ?_
  case y1_1 => (go_simp; try with_reducible rfl)
  simp only [Act.put, List.getElem_toArray, List.getElem_cons_succ, List.getElem_cons_zero, List.setIfInBounds_toArray, List.set_cons_succ, List.set_cons_zero]
  refine wm_q2 (i := 2) (v := ?v1_2) (some 7) rfl rfl rfl HS2 (fun W HS => ?y1_2) ?_
  case y1_2 => (go_simp; try with_reducible rfl)
  simp only [Act.put, List.getElem_toArray, List.getElem_cons_succ, List.getElem_cons_zero, List.setIfInBounds_toArray, List.set_cons_succ, List.set_cons_zero]
  refine wm_e0 (i := 0) rfl ?_
  go_wp2_with (first
    | ((with_reducible refine s_ 5 ?_); go_must (refine wl_buildSlice (dst := some 5) (cs := #[.int .u8 1]) _ _ _ 5 1 _ Try.underlying24 Try.sizeOf5 Try.zeroValue5 (by decide) (by simp [Instr.fill, Act.eval, Act.put, Value.cells, undef, ← List.toArray_range, List.range_succ]) HM ?_; clear HM; intro b5 W HM; replace HM := HM.toRow 1 1 .here rfl (by simp [maxLen]))))
  refine ⟨HM.held (by simp), ?_⟩
  clear HS1 HS2
  have HS1 : Held w W [] := HM.held (by simp)
  have HS2 : Held w W [] := HM.held (by simp)
  refine wm_e0 (i := 3) rfl ?_
  go_wp2_with (first
    | ((with_reducible refine s_ 8 ?_); go_must (refine wl_buildSlice (dst := some 8) (cs := #[.slice (some ⟨b5, 0, none⟩) 1 1, .slice (some ⟨b2, 0, none⟩) 16 16, .slice (some ⟨b3, 0, none⟩) 16 16]) _ _ _ 24 1 _ Try.underlying45 Try.sizeOf24 Try.zeroValue24 (by decide) (by simp [Instr.fill, Act.eval, Act.put, Value.cells, undef, ← List.toArray_range, List.range_succ]) HM ?_; clear HM; intro b8 W HM)))
  refine ⟨HM.held (by simp), ?_⟩
  clear HS1 HS2
  have HS1 : Held w W [] := HM.held (by simp)
  have HS2 : Held w W [] := HM.held (by simp)
  refine wm_e0 (i := 4) rfl ?_
  go_wp2_with (first
    | (go_at_call 129; go_must (((with_reducible refine (concat_c _ [(.slice (some ⟨b5, 0, none⟩) 1 1, [1]), (.slice (some ⟨b2, 0, none⟩) 16 16, a.toList), (.slice (some ⟨b3, 0, none⟩) 16 16, b.toList)] _ (RdL.of_blk (HM.blk m0) _ 3 rfl rfl (by decide)) (by intro p hp; simp only [List.mem_cons, List.not_mem_nil, or_false] at hp; rcases hp with rfl | rfl | rfl; exact rd_row HM m1 rfl; exact rd_whole HM m3; exact rd_whole HM m2) (by rw [show ([(Value.slice (some ⟨b5, 0, none⟩) 1 1, [(1 : UInt8)]), (.slice (some ⟨b2, 0, none⟩) 16 16, a.toList), (.slice (some ⟨b3, 0, none⟩) 16 16, b.toList)]).length = 3 from rfl, cat_node, textNode_len]; decide) (by simp)).mono ?_)); rintro e W ⟨v9, rfl, HM'⟩; replace HM := HM.join HM'; clear HM'; simp only [List.cons_append, List.nil_append] at HM)))
  refine ⟨HM.held (by simp), ?_⟩
  clear HS1 HS2
  have HS1 : Held w W [] := HM.held (by simp)
  have HS2 : Held w W [] := HM.held (by simp)
  refine wm_q2 (i := 5) (v := ?v1_3) (some 4) rfl rfl rfl HS2 (fun W HS => ?y1_3) ?_
  case y1_3 => (go_simp; try with_reducible rfl)
  simp only [Act.put, List.getElem_toArray, List.getElem_cons_succ, List.getElem_cons_zero, List.setIfInBounds_toArray, List.set_cons_succ, List.set_cons_zero]
  refine wm_nilN ?_
  clear HS1 HS2
  go_wp2_with (fail)
  refine ret1 rfl (res_tmp rfl) rfl ?_
  have HM1 := HM.only m0
  rw [show ([(Value.slice (some ⟨b5, 0, none⟩) 1 1, [(1 : UInt8)]), (.slice (some ⟨b2, 0, none⟩) 16 16, a.toList), (.slice (some ⟨b3, 0, none⟩) 16 16, b.toList)]).length = 3 from rfl, cat_node, textNode_len] at HM1
  exact ⟨_, rfl, HM1⟩

def digLeaf (k : Key) : Key := digestL (textLeaf k)
def digNode (a b : Key) : Key := digestL (textNode a b)
set_option maxHeartbeats 400000 in
theorem root1_c (k : Key) (w : World) :
    Calls Try.prog 123 #[.agg (kc k)] w fun e w' => e = .returned (.agg (kc (digLeaf k))) ∧ Mem w w' [] := by
  have HM := Mem.start w
  go_enter Try.func123, Try.ntmps123
  go_wp2_with (first
    | ((with_reducible refine s_ 1 ?_); go_must (refine wl_box (dst := some 1) (cs := kc k) _ _ _ rfl rfl HM ?_; clear HM; intro b1 W HM))
    | ((with_reducible refine s_ 2 ?_); go_must (refine wl_alloc (dst := some 2) (cs := kc zeroKey) 23 _ Try.zeroValue23 kc_zero HM ?_; clear HM; intro b2 W HM))
    | ((with_reducible refine ld_ 23 ?_); go_must (refine wl_load_blk _ _ _ _ _ _ rfl HM (by repeat first | exact List.mem_cons_self .. | refine List.mem_cons_of_mem _ ?_) Try.underlying23 rfl (by rw [kc_size]; exact sz23) ?_))
    | ((with_reducible refine st_ 23 ?_); go_must ((refine wl_store_blk _ _ _ _ _ _ _ rfl rfl HM (.there .here) (by rw [kc_size]; exact sz23) (by simp only [kc_size]) (kc_one _) ?_); clear HM; intro W HM))
    | (go_at_call 66; go_must (((with_reducible refine (leafText_c _ _).mono ?_)); rintro e W ⟨v4, rfl, HM'⟩; replace HM := HM.join HM'; clear HM'; simp only [List.cons_append, List.nil_append] at HM))
    | (go_at_call 122; go_must (((with_reducible refine (digest_c _ (textLeaf k) _ (rd_row HM m0 rfl) (by rw [textLeaf_len]; decide)).mono ?_)); rintro e W ⟨rfl, HM'⟩; replace HM := HM.keep HM'.below; clear HM')))
  refine ret1 rfl (by (exact res_row HM rfl m1 Try.underlying23 rfl (by rw [kc_size]; exact sz23))) rfl ?_
  exact ⟨rfl, HM.base⟩
set_option maxHeartbeats 400000 in
theorem root2_c (a b : Key) (w : World) :
    Calls Try.prog 124 #[.agg (kc a), .agg (kc b)] w fun e w' => e = .returned (.agg (kc (digNode a b))) ∧ Mem w w' [] := by
  have HM := Mem.start w
  go_enter Try.func124, Try.ntmps124
  go_wp2_with (first
    | ((with_reducible refine s_ 2 ?_); go_must (refine wl_box (dst := some 2) (cs := kc a) _ _ _ rfl rfl HM ?_; clear HM; intro b2 W HM))
    | ((with_reducible refine s_ 3 ?_); go_must (refine wl_box (dst := some 3) (cs := kc b) _ _ _ rfl rfl HM ?_; clear HM; intro b3 W HM))
    | ((with_reducible refine s_ 4 ?_); go_must (refine wl_alloc (dst := some 4) (cs := kc zeroKey) 23 _ Try.zeroValue23 kc_zero HM ?_; clear HM; intro b4 W HM))
    | ((with_reducible refine ld_ 23 ?_); go_must (refine wl_load_blk _ _ _ _ _ _ rfl HM (by repeat first | exact List.mem_cons_self .. | refine List.mem_cons_of_mem _ ?_) Try.underlying23 rfl (by rw [kc_size]; exact sz23) ?_))
    | ((with_reducible refine st_ 23 ?_); go_must ((refine wl_store_blk _ _ _ _ _ _ _ rfl rfl HM (.there .here) (by rw [kc_size]; exact sz23) (by simp only [kc_size]) (kc_one _) ?_); clear HM; intro W HM))
    | (go_at_call 68; go_must (((with_reducible refine (nodeText_c _ _ _).mono ?_)); rintro e W ⟨v7, rfl, HM'⟩; replace HM := HM.join HM'; clear HM'; simp only [List.cons_append, List.nil_append] at HM))
    | (go_at_call 122; go_must (((with_reducible refine (digest_c _ (textNode a b) _ (rd_row HM m0 rfl) (by rw [textNode_len]; decide)).mono ?_)); rintro e W ⟨rfl, HM'⟩; replace HM := HM.keep HM'.below; clear HM')))
  refine ret1 rfl (by (exact res_row HM rfl m1 Try.underlying23 rfl (by rw [kc_size]; exact sz23))) rfl ?_
  exact ⟨rfl, HM.base⟩
end Go.Proofs.Ythdekionepfmdaa
