/- AuditVerifies: the law's walk. -/
import Derived.Test.YthdekionepfmdaaVeh
set_option linter.unusedVariables false
set_option linter.unusedSimpArgs false
set_option maxRecDepth 8000
namespace Go.Proofs.Ythdekionepfmdaa
open Go.RowKit

theorem vfT_len (leaf : Key) (n i : Int) (p : List Key) : (vfT leaf n i p).length ≤ 1000 := by
  unfold vfT
  split
  · rename_i h
    obtain ⟨a, b, rfl, rfl, g1, g2, g3, g4⟩ := fitB_is h
    have := climbT_len a leaf b p
    simp only [Int.toNat_natCast]; omega
  · simp
theorem vgT_len (bef : Key) (o n : Int) (p : List Key) : (vgT bef o n p).length ≤ 1000 := by
  unfold vgT
  split
  · rename_i h
    obtain ⟨a, b, rfl, rfl, g1, g2, g3, g4⟩ := fitgB_is h
    have := growT_len b bef a p
    simp only [Int.toNat_natCast]; omega
  · simp
theorem rdts {w0 W : World} {L R : List It} {us : List (Value × List UInt8)} (h : Mem w0 W L) (hX : Tx us R) (hs : ∀ x ∈ R, x ∈ L) : ∀ p ∈ us, RdL encB 1 W p.1 p.2 := fun p hp => rd_text h (hs _ (hX p hp))
theorem rdvs {w0 W : World} {L : List It} {u : Value} {us : List (Value × List UInt8)} (h : Mem w0 W L) (hk : It.row u 24 1 us.length (valsT us) ∈ L) : RdL encV 1 W u (us.map (·.1)) := rd_row h hk rfl (by decide) encV_len

section
attribute [local irreducible] rowT
set_option maxHeartbeats 4000000 in
theorem auditVerifies_c (root leaf aft : Key) (n i o k : Int) (v v2 : Value) (p p2 : List Key) (w : World) (hR : RdL encK 16 w v p) (hR2 : RdL encK 16 w v2 p2) :
    Calls Try.prog 5 #[.agg (kc root), .agg (kc leaf), .agg #[.int .i64 n, .int .i64 i, v], .agg (kc aft), .agg #[.int .i64 o, .int .i64 k, v2]] w fun e w' => e = .returned (.bool true) ∧ Mem w w' [] := by
  have HM := Mem.start w
  have hv1 := rd_one hR
  have hv2 := rd_one hR2
  have hq1 := vfT_len leaf n i p
  have hq2 := vgT_len root o k p2
  go_enter Try.func5, Try.ntmps5
  go_wp2_with (first
    | ((with_reducible refine gd_ _ ?_); refine wl_guard (by rfl) ?_)
    | (go_at_call 19; go_must (first | (with_reducible refine (sameTexts_c u1 u2 us1 us2 (vfT leaf n i p) _ hT1 hT2 (rdvs HM (by simp)) (rdvs HM (by simp)) (rdts HM hX1 (by intro x hx; simp [hx])) (rdts HM hX2 (by intro x hx; simp [hx])) (by omega)).mono ?_) | (with_reducible refine (sameTexts_c u3 u4 us3 us4 (vgT root o k p2) _ hT3 hT4 (rdvs HM (by simp)) (rdvs HM (by simp)) (rdts HM hX3 (by intro x hx; simp [hx])) (rdts HM hX4 (by intro x hx; simp [hx])) (by omega)).mono ?_)); rintro e W ⟨rfl, HM'⟩; replace HM := HM.keep HM'.below; clear HM')
    | ((with_reducible refine s_ 5 ?_); go_must (refine wl_box (dst := some 5) (cs := kc root) _ _ _ rfl rfl HM ?_; clear HM; intro b5 W HM))
    | ((with_reducible refine s_ 6 ?_); go_must (refine wl_box (dst := some 6) (cs := kc leaf) _ _ _ rfl rfl HM ?_; clear HM; intro b6 W HM))
    | ((with_reducible refine s_ 7 ?_); go_must (refine wl_box (dst := some 7) (cs := #[.int .i64 n, .int .i64 i, v]) _ _ _ rfl rfl HM ?_; clear HM; intro b7 W HM))
    | ((with_reducible refine s_ 8 ?_); go_must (refine wl_box (dst := some 8) (cs := kc aft) _ _ _ rfl rfl HM ?_; clear HM; intro b8 W HM))
    | ((with_reducible refine s_ 9 ?_); go_must (refine wl_box (dst := some 9) (cs := #[.int .i64 o, .int .i64 k, v2]) _ _ _ rfl rfl HM ?_; clear HM; intro b9 W HM))
    | ((with_reducible refine ld_ 23 ?_); go_must (refine wl_load_blk _ _ _ _ _ _ rfl HM (by repeat first | exact List.mem_cons_self .. | refine List.mem_cons_of_mem _ ?_) Try.underlying23 rfl (by rw [kc_size]; exact sz23) ?_))
    | ((with_reducible refine ld_ 52 ?_); go_must (refine wl_load_blk _ _ _ _ _ _ rfl HM (by repeat first | exact List.mem_cons_self .. | refine List.mem_cons_of_mem _ ?_) Try.underlying52 rfl (by exact sz52) ?_))
    | ((with_reducible refine ld_ 59 ?_); go_must (refine wl_load_blk _ _ _ _ _ _ rfl HM (by repeat first | exact List.mem_cons_self .. | refine List.mem_cons_of_mem _ ?_) Try.underlying59 rfl (by exact sz59) ?_))
    | (go_at_call 26; go_must (((with_reducible refine (Verify_c root leaf n i v p _ (hR.mem HM)).mono ?_)); rintro e W ⟨rfl, HM'⟩; replace HM := HM.keep HM'.below; clear HM'))
    | (go_at_call 27; go_must (((with_reducible refine (rVerify_c root leaf n i v p _ (hR.mem HM)).mono ?_)); rintro e W ⟨rfl, HM'⟩; replace HM := HM.keep HM'.below; clear HM'))
    | (go_at_call 28; go_must (((with_reducible refine (PathTexts_c leaf n i v p _ (hR.mem HM)).mono ?_)); rintro e W ⟨u1, rfl, us1, R1, hT1, hX1, HM'⟩; replace HM := HM.join HM'; clear HM'; simp only [List.cons_append, List.nil_append] at HM; replace HM := HM.bk; simp only [List.cons_append, List.nil_append] at HM))
    | (go_at_call 29; go_must (((with_reducible refine (rPathTexts_c leaf n i v p _ (hR.mem HM)).mono ?_)); rintro e W ⟨u2, rfl, us2, R2, hT2, hX2, HM'⟩; replace HM := HM.join HM'; clear HM'; simp only [List.cons_append, List.nil_append] at HM; replace HM := HM.bk; simp only [List.cons_append, List.nil_append] at HM))
    | (go_at_call 30; go_must (((with_reducible refine (VerifyGrowth_c root aft o k v2 p2 _ (hR2.mem HM)).mono ?_)); rintro e W ⟨rfl, HM'⟩; replace HM := HM.keep HM'.below; clear HM'))
    | (go_at_call 31; go_must (((with_reducible refine (rVerifyGrowth_c root aft o k v2 p2 _ (hR2.mem HM)).mono ?_)); rintro e W ⟨rfl, HM'⟩; replace HM := HM.keep HM'.below; clear HM'))
    | (go_at_call 32; go_must (((with_reducible refine (GrowthTexts_c root o k v2 p2 _ (hR2.mem HM)).mono ?_)); rintro e W ⟨u3, rfl, us3, R3, hT3, hX3, HM'⟩; replace HM := HM.join HM'; clear HM'; simp only [List.cons_append, List.nil_append] at HM; replace HM := HM.bk; simp only [List.cons_append, List.nil_append] at HM))
    | (go_at_call 33; go_must (((with_reducible refine (rGrowthTexts_c root o k v2 p2 _ (hR2.mem HM)).mono ?_)); rintro e W ⟨u4, rfl, us4, R4, hT4, hX4, HM'⟩; replace HM := HM.join HM'; clear HM'; simp only [List.cons_append, List.nil_append] at HM; replace HM := HM.bk; simp only [List.cons_append, List.nil_append] at HM)))
  refine ret1 rfl (res_tmp rfl) rfl ?_
  exact ⟨rfl, HM.base⟩
end
end Go.Proofs.Ythdekionepfmdaa
