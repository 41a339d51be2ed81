/- AuditTrees: the law's walk. -/
import Derived.Test.YthdekionepfmdaaTsc
set_option linter.unusedVariables false
set_option linter.unusedSimpArgs false
set_option maxRecDepth 8000
namespace Go.Proofs.Ythdekionepfmdaa
open Go.RowKit

theorem pvP_len (l : List Key) (i : Int) : (pvP l i).length ≤ 1000 := by
  unfold pvP
  split
  · rename_i h
    have : l.length ≤ 128 := by
      rcases Nat.lt_or_ge 128 l.length with h1 | h1
      · rw [pvE, if_neg (by omega)] at h; omega
      · exact h1
    have := pathL_len l.length l i.toNat rfl
    omega
  · simp
theorem gvP_len (l : List Key) (i : Int) : (gvP l i).length ≤ 1000 := by
  unfold gvP
  split
  · rename_i h
    have : l.length ≤ 128 := by
      rcases Nat.lt_or_ge 128 l.length with h1 | h1
      · rw [gvE, if_neg (by omega)] at h; omega
      · exact h1
    have := partL_len l.length l i.toNat true rfl
    omega
  · simp
theorem txsT_len (l : List Key) : (txsT l).length ≤ 1000 := by
  unfold txsT
  split
  · have := (textsL_len l.length l rfl).1; omega
  · simp
theorem Mem.back {w0 W : World} {x : It} {A B : List It} (h : Mem w0 W (x :: (A ++ B))) : Mem w0 W (B ++ (x :: A)) := h.perm (List.perm_append_comm (l₁ := x :: A) (l₂ := B))
theorem rd_texts {w0 W : World} {L R : List It} {us : List (Value × List UInt8)} (h : Mem w0 W L) (hX : Tx us R) (hs : ∀ x ∈ R, x ∈ L) : ∀ p ∈ us, RdL encB 1 W p.1 p.2 := fun p hp => rd_text h (hs _ (hX p hp))

theorem rd_vals {w0 W : World} {L : List It} {u : Value} {us : List (Value × List UInt8)} (h : Mem w0 W L) (hk : It.row u 24 1 us.length (valsT us) ∈ L) : RdL encV 1 W u (us.map (·.1)) := rd_row h hk rfl (by decide) encV_len
section
attribute [local irreducible] rowT
attribute [local go_sem] keyEqI
set_option maxHeartbeats 4000000 in
theorem auditTrees_c (l : List Key) (i m : Int) (v : Value) (w : World) (hR : RdL encK 16 w v l) (hl : l.length * 16 ≤ 140737488351232) :
    Calls Try.prog 4 #[v, .int .i64 i, .int .i64 m] w fun e w' => e = .returned (.bool true) ∧ Mem w w' [] := by
  have HM := Mem.start w
  have hq1 := pvP_len l i
  have hq2 := gvP_len l m
  have hq3 := txsT_len l
  go_enter Try.func4, Try.ntmps4
  go_wp2_with (first
    | ((with_reducible refine gd_ _ ?_); refine wl_guard (by rfl) ?_)
    | ((with_reducible refine st_ 52 ?_); go_must (refine wl_store_blk _ _ _ _ _ _ _ rfl rfl HM .here sz52 rfl (prf_one _ _ _ (row_one (HM.row m1))) ?_; clear HM; intro W HM))
    | ((with_reducible refine st_ 59 ?_); go_must (refine wl_store_blk _ _ _ _ _ _ _ rfl rfl HM .here sz59 rfl (prf_one _ _ _ (row_one (HM.row m1))) ?_; clear HM; intro W HM))
    | ((with_reducible refine s_ 18 ?_); go_must (refine wl_empty (dst := some 18) _ _ _ Try.underlying40 Try.sizeOf23 HM ?_; clear HM; intro b18 W HM))
    | ((with_reducible refine s_ 20 ?_); go_must (refine wl_append (dst := some 20) (enc := encK) _ _ _ _ _ _ _ _ _ _ _ (l) Try.underlying40 inf23 rfl (by decide) encK_len encK_one HM .here (hR.mem HM) rfl rfl (by decide) (by omega) ?_; clear HM; intro v20 W HM; try dsimp only at HM))
    | ((with_reducible refine s_ 8 ?_); go_must (refine wl_alloc (dst := some 8) (cs := kc zeroKey) 23 _ Try.zeroValue23 kc_zero HM ?_; clear HM; intro b8 W HM))
    | ((with_reducible refine s_ 10 ?_); go_must (refine wl_alloc (dst := some 10) (cs := kc zeroKey) 23 _ Try.zeroValue23 kc_zero HM ?_; clear HM; intro b10 W HM))
    | ((with_reducible refine s_ 14 ?_); go_must (refine wl_alloc (dst := some 14) (cs := #[Value.int IntKind.i64 0, Value.int IntKind.i64 0, Value.slice none 0 0]) 52 _ Try.zeroValue52 rfl HM ?_; clear HM; intro b14 W HM))
    | ((with_reducible refine s_ 15 ?_); go_must (refine wl_alloc (dst := some 15) (cs := #[Value.int IntKind.i64 0, Value.int IntKind.i64 0, Value.slice none 0 0]) 52 _ Try.zeroValue52 rfl HM ?_; clear HM; intro b15 W HM))
    | ((with_reducible refine s_ 16 ?_); go_must (refine wl_alloc (dst := some 16) (cs := #[Value.int IntKind.i64 0, Value.int IntKind.i64 0, Value.slice none 0 0]) 59 _ Try.zeroValue59 rfl HM ?_; clear HM; intro b16 W HM))
    | ((with_reducible refine s_ 17 ?_); go_must (refine wl_alloc (dst := some 17) (cs := #[Value.int IntKind.i64 0, Value.int IntKind.i64 0, Value.slice none 0 0]) 59 _ Try.zeroValue59 rfl HM ?_; clear HM; intro b17 W HM))
    | ((with_reducible refine st_ 23 ?_); go_must ((refine wl_store_blk _ _ _ _ _ _ _ rfl rfl HM .here (by rw [kc_size]; exact sz23) (by simp only [kc_size]) (kc_one _) ?_); clear HM; intro W HM))
    | ((with_reducible refine ld_ 23 ?_); go_must (refine wl_load_blk _ _ _ _ _ _ rfl HM (by repeat first | exact List.mem_cons_self .. | refine List.mem_cons_of_mem _ ?_) Try.underlying23 rfl (by rw [kc_size]; exact sz23) ?_))
    | ((with_reducible refine ld_ 52 ?_); go_must (refine wl_load_blk _ _ _ _ _ _ rfl HM (by repeat first | exact List.mem_cons_self .. | refine List.mem_cons_of_mem _ ?_) Try.underlying52 rfl (by exact sz52) ?_))
    | ((with_reducible refine ld_ 3 ?_); go_must (refine wl_load_cell _ _ _ _ _ _ _ _ rfl HM (by repeat first | exact List.mem_cons_self .. | refine List.mem_cons_of_mem _ ?_) (by rfl) Try.underlying3 rfl ?_))
    | ((with_reducible refine ld_ 40 ?_); go_must (refine wl_load_cell _ _ _ _ _ _ _ _ rfl HM (by repeat first | exact List.mem_cons_self .. | refine List.mem_cons_of_mem _ ?_) (by rfl) Try.underlying40 rfl ?_))
    | (go_at_call 15; go_must (((with_reducible refine (Root_c _ l _ (rd_row HM (by repeat first | exact List.mem_cons_self .. | refine List.mem_cons_of_mem _ ?_) (by simp) (by decide) encK_len)).mono ?_)); rintro e W ⟨rfl, HM'⟩; replace HM := HM.keep HM'.below; clear HM'))
    | (go_at_call 16; go_must (((with_reducible refine (rRoot_c _ l _ (hR.mem HM)).mono ?_)); rintro e W ⟨rfl, HM'⟩; replace HM := HM.keep HM'.below; clear HM'))
    | (go_at_call 17; go_must (((with_reducible refine (Texts_c _ l _ (rd_row HM (by repeat first | exact List.mem_cons_self .. | refine List.mem_cons_of_mem _ ?_) (by simp) (by decide) encK_len)).mono ?_)); rintro e W ⟨u1, rfl, us1, R1, hT1, hX1, HM'⟩; replace HM := HM.join HM'; clear HM'; simp only [List.cons_append, List.nil_append] at HM; replace HM := HM.back; simp only [List.cons_append, List.nil_append] at HM))
    | (go_at_call 18; go_must (((with_reducible refine (rTexts_c _ l _ (hR.mem HM)).mono ?_)); rintro e W ⟨u2, rfl, us2, R2, hT2, hX2, HM'⟩; replace HM := HM.join HM'; clear HM'; simp only [List.cons_append, List.nil_append] at HM; replace HM := HM.back; simp only [List.cons_append, List.nil_append] at HM))
    | (go_at_call 19; go_must (((with_reducible refine (sameTexts_c u1 u2 us1 us2 (txsT l) _ hT1 hT2 (rd_vals HM (by simp)) (rd_vals HM (by simp)) (rd_texts HM hX1 (by intro x hx; simp [hx])) (rd_texts HM hX2 (by intro x hx; simp [hx])) (by omega)).mono ?_)); rintro e W ⟨rfl, HM'⟩; replace HM := HM.keep HM'.below; clear HM'))
    | (go_at_call 20; go_must (((with_reducible refine (Prove_c l i _ _ (rd_row HM (by repeat first | exact List.mem_cons_self .. | refine List.mem_cons_of_mem _ ?_) (by simp) (by decide) encK_len)).mono ?_)); rintro e W ⟨u3, rfl, HM'⟩; replace HM := HM.join HM'; clear HM'; simp only [List.cons_append, List.nil_append] at HM))
    | (go_at_call 21; go_must (((with_reducible refine (rProve_c l i _ _ (hR.mem HM)).mono ?_)); rintro e W ⟨u4, rfl, HM'⟩; replace HM := HM.join HM'; clear HM'; simp only [List.cons_append, List.nil_append] at HM))
    | (go_at_call 22; go_must (((with_reducible refine (sameProof_c _ _ u3 u4 (pvP l i) _ (rd_row HM (by repeat first | exact List.mem_cons_self .. | refine List.mem_cons_of_mem _ ?_) rfl (by decide) encK_len) (rd_row HM (by repeat first | exact List.mem_cons_self .. | refine List.mem_cons_of_mem _ ?_) rfl (by decide) encK_len) (by omega)).mono ?_)); rintro e W ⟨rfl, HM'⟩; replace HM := HM.keep HM'.below; clear HM'))
    | (go_at_call 23; go_must (((with_reducible refine (ProveGrowth_c l m _ _ (rd_row HM (by repeat first | exact List.mem_cons_self .. | refine List.mem_cons_of_mem _ ?_) (by simp) (by decide) encK_len)).mono ?_)); rintro e W ⟨u5, rfl, HM'⟩; replace HM := HM.join HM'; clear HM'; simp only [List.cons_append, List.nil_append] at HM))
    | (go_at_call 24; go_must (((with_reducible refine (rProveGrowth_c l m _ _ (hR.mem HM)).mono ?_)); rintro e W ⟨u6, rfl, HM'⟩; replace HM := HM.join HM'; clear HM'; simp only [List.cons_append, List.nil_append] at HM))
    | (go_at_call 25; go_must ((first | (with_reducible refine (sameKeys_c u5 u6 (gvP l m) _ (rd_row HM (by repeat first | exact List.mem_cons_self .. | refine List.mem_cons_of_mem _ ?_) rfl (by decide) encK_len) (rd_row HM (by repeat first | exact List.mem_cons_self .. | refine List.mem_cons_of_mem _ ?_) rfl (by decide) encK_len) (by omega)).mono ?_) | (with_reducible refine (sameKeys_c v20 v l _ (rd_row HM (by repeat first | exact List.mem_cons_self .. | refine List.mem_cons_of_mem _ ?_) (by simp) (by decide) encK_len) (hR.mem HM) (by omega)).mono ?_)); rintro e W ⟨rfl, HM'⟩; replace HM := HM.keep HM'.below; clear HM')))
  refine ret1 rfl (res_tmp rfl) rfl ?_
  exact ⟨rfl, HM.base⟩
end
end Go.Proofs.Ythdekionepfmdaa
