/- A part of the proof of auditOnOff_proved: Enk, Enl, Enm. No condition but those that each theorem states. -/
import Derived.Test.YthdekionepfmdaaOnOffc
import Derived.Deep.Cut
set_option linter.unusedVariables false
set_option linter.unusedSimpArgs false
namespace Go.Proofs.Ythdekionepfmdaa
section
set_option linter.unusedVariables false
set_option linter.unusedSimpArgs false
set_option maxRecDepth 8000
open Go.RowKit
def voB (root : Key) (lo hi : Ent) (n i : Int) (p : List Key) (m j : Int) (q : List Key) (u : Int) : Bool :=
  decide (lo.1 < u) && (decide (u < hi.1) && (decide (n = m) && (decide (i + 1 = j) && (decide (climbL (leafE lo) n.toNat i.toNat p = root) && decide (climbL (leafE hi) m.toNat j.toNat q = root)))))
def voK (lo hi : Ent) (n i : Int) (p : List Key) (m j : Int) (q : List Key) : Bool := entB lo && (entB hi && (fitB n i p.length && fitB m j q.length))
def voE (lo hi : Ent) (n i : Int) (p : List Key) (m j : Int) (q : List Key) (u : Int) : Int := if 0 ≤ u ∧ u < 64 then (if voK lo hi n i p m j q = true then 0 else 8) else 2
def voR (root : Key) (lo hi : Ent) (n i : Int) (p : List Key) (m j : Int) (q : List Key) (u : Int) : Bool := if voE lo hi n i p m j q u = 0 then voB root lo hi n i p m j q u else false
theorem vo_ways (root : Key) (lo hi : Ent) (a b : Nat) (p : List Key) (a' b' : Nat) (q : List Key) (u : Int) :
    (¬ (a : Int) = (a' : Int) ∧ ((a : Int) == (a' : Int)) = false ∧ ¬ a = a' ∧ decide (lo.1 < u) = false ∧ voB root lo hi a b p a' b' q u = false) ∨
    (¬ (a : Int) = (a' : Int) ∧ ((a : Int) == (a' : Int)) = false ∧ ¬ a = a' ∧ decide (lo.1 < u) = true ∧ decide (u < hi.1) = false ∧ voB root lo hi a b p a' b' q u = false) ∨
    (¬ (a : Int) = (a' : Int) ∧ ((a : Int) == (a' : Int)) = false ∧ ¬ a = a' ∧ decide (lo.1 < u) = true ∧ decide (u < hi.1) = true ∧ voB root lo hi a b p a' b' q u = false) ∨
    (a' = a ∧ (¬ (b : Int) + 1 = (b' : Int) ∧ ((b : Int) + 1 == (b' : Int)) = false) ∧ (¬ (b' : Int) = (b : Int) + 1 ∧ ((b' : Int) == (b : Int) + 1) = false) ∧ decide (lo.1 < u) = false ∧ voB root lo hi a b p a' b' q u = false) ∨
    (a' = a ∧ (¬ (b : Int) + 1 = (b' : Int) ∧ ((b : Int) + 1 == (b' : Int)) = false) ∧ (¬ (b' : Int) = (b : Int) + 1 ∧ ((b' : Int) == (b : Int) + 1) = false) ∧ decide (lo.1 < u) = true ∧ decide (u < hi.1) = false ∧ voB root lo hi a b p a' b' q u = false) ∨
    (a' = a ∧ (¬ (b : Int) + 1 = (b' : Int) ∧ ((b : Int) + 1 == (b' : Int)) = false) ∧ (¬ (b' : Int) = (b : Int) + 1 ∧ ((b' : Int) == (b : Int) + 1) = false) ∧ decide (lo.1 < u) = true ∧ decide (u < hi.1) = true ∧ voB root lo hi a b p a' b' q u = false) ∨
    (a' = a ∧ b' = b + 1 ∧ decide (lo.1 < u) = false ∧ voB root lo hi a b p a' b' q u = false) ∨
    (a' = a ∧ b' = b + 1 ∧ decide (lo.1 < u) = true ∧ decide (u < hi.1) = false ∧ voB root lo hi a b p a' b' q u = false) ∨
    (a' = a ∧ b' = b + 1 ∧ decide (lo.1 < u) = true ∧ decide (u < hi.1) = true ∧ decide (climbL (leafE lo) a b p = root) = false ∧ voB root lo hi a b p a' b' q u = false) ∨
    (a' = a ∧ b' = b + 1 ∧ decide (lo.1 < u) = true ∧ decide (u < hi.1) = true ∧ decide (climbL (leafE lo) a b p = root) = true ∧ decide (climbL (leafE hi) a (b + 1) q = root) = false ∧ voB root lo hi a b p a' b' q u = false) ∨
    (a' = a ∧ b' = b + 1 ∧ decide (lo.1 < u) = true ∧ decide (u < hi.1) = true ∧ decide (climbL (leafE lo) a b p = root) = true ∧ decide (climbL (leafE hi) a (b + 1) q = root) = true ∧ voB root lo hi a b p a' b' q u = true) := by
  have hv : voB root lo hi a b p a' b' q u = (decide (lo.1 < u) && (decide (u < hi.1) && (decide ((a : Int) = a') && (decide ((b : Int) + 1 = b') && (decide (climbL (leafE lo) a b p = root) && decide (climbL (leafE hi) a' b' q = root)))))) := by
    simp only [voB, Int.toNat_natCast]
  rw [hv]
  by_cases h3 : a' = a
  · subst h3
    by_cases h4 : b' = b + 1
    · subst h4
      by_cases h1 : lo.1 < u
      · by_cases h2 : u < hi.1
        · by_cases h5 : climbL (leafE lo) a' b p = root
          · by_cases h6 : climbL (leafE hi) a' (b + 1) q = root
            · simp [h1, h2, h5, h6]
            · simp [h1, h2, h5, h6]
          · simp [h1, h2, h5]
        · simp [h1, h2]
      · simp [h1]
    · have h4' : ¬ (b : Int) + 1 = (b' : Int) := by omega
      have h4'' : ¬ (b' : Int) = (b : Int) + 1 := by omega
      by_cases h1 : lo.1 < u
      · by_cases h2 : u < hi.1
        · simp [h1, h2, h4, h4', h4'']
        · simp [h1, h2, h4, h4', h4'']
      · simp [h1, h4, h4', h4'']
  · have h3' : ¬ (a : Int) = (a' : Int) := by omega
    have h3'' : ¬ a = a' := by omega
    by_cases h1 : lo.1 < u
    · by_cases h2 : u < hi.1
      · simp [h1, h2, h3, h3', h3'']
      · simp [h1, h2, h3, h3', h3'']
    · simp [h1, h3, h3', h3'']
theorem vk_ways (lo hi : Ent) (n i : Int) (p : List Key) (m j : Int) (q : List Key) :
    (entB lo = false ∧ voK lo hi n i p m j q = false) ∨ (entB lo = true ∧ entB hi = false ∧ voK lo hi n i p m j q = false) ∨ (entB lo = true ∧ entB hi = true ∧ fitB n i p.length = false ∧ voK lo hi n i p m j q = false) ∨
    (entB lo = true ∧ entB hi = true ∧ fitB n i p.length = true ∧ fitB m j q.length = false ∧ voK lo hi n i p m j q = false) ∨
    (entB lo = true ∧ entB hi = true ∧ fitB n i p.length = true ∧ fitB m j q.length = true ∧ voK lo hi n i p m j q = true) := by
  unfold voK
  cases entB lo <;> cases entB hi <;> cases fitB n i p.length <;> cases fitB m j q.length <;> simp
section
attribute [local irreducible] rowT wpList
attribute [local go_sem] keyEqI
theorem gives_two (r leaf : Key) (n i : Nat) (v : Value) (p : List Key) (w : World) (hR : RdL encK 16 w v p) (h1 : 1 ≤ n) (hn : n ≤ 128) (hi : i + 1 < n) (hpl : FitIs p.length n (i + 1)) :
    Calls Try.prog 76 #[.agg (kc r), .agg (kc leaf), .agg #[.int .i64 (n : Int), .int .i64 ((i : Int) + 1), v]] w fun e w' => e = .returned (.bool (decide (climbL leaf n (i + 1) p = r))) ∧ Mem w w' [] :=
  gives_c r leaf n (i + 1) v p w hR h1 hn hi hpl.eq
theorem rGives_two (leaf : Key) (n i : Nat) (v : Value) (p : List Key) (w : World) (hR : RdL encK 16 w v p) (h1 : 1 ≤ n) (hn : n ≤ 128) (hi : i + 1 < n) (hpl : FitIs p.length n (i + 1)) :
    Calls Try.prog 78 #[.agg (kc leaf), .agg #[.int .i64 (n : Int), .int .i64 ((i : Int) + 1), v]] w fun e w' => e = .returned (.agg (kc (climbL leaf n (i + 1) p))) ∧ Mem w w' [] :=
  rGives_c leaf n (i + 1) v p w hR h1 hn hi hpl.eq
set_option maxHeartbeats 6400000 in
theorem VerifyOff_c (root : Key) (u : Int) (lo hi : Ent) (n i : Int) (v1 : Value) (p : List Key) (m j : Int) (v2 : Value) (q : List Key) (w : World) (hR1 : RdL encK 16 w v1 p) (hR2 : RdL encK 16 w v2 q) :
    Calls Try.prog 39 #[.agg (kc root), .int .i64 u, absV lo hi n i v1 m j v2] w fun e w' => e = .returned (.tuple #[.bool (voR root lo hi n i p m j q u), .int .i64 (voE lo hi n i p m j q u)]) ∧ Mem w w' [] := by
  have HM := Mem.start w
  have hv1 := rd_one hR1
  have hv2 := rd_one hR2
  by_cases hu : 0 ≤ u ∧ u < 64
  · have hu0 : ¬ u < 0 := by omega
    have hu1 : ¬ 64 ≤ u := by omega
    rcases vk_ways lo hi n i p m j q with ⟨k1, hk⟩ | ⟨k1, k2, hk⟩ | ⟨k1, k2, k3, hk⟩ | ⟨k1, k2, k3, k4, hk⟩ | ⟨k1, k2, k3, k4, hk⟩
    rotate_right 1
    · obtain ⟨a, b, rfl, rfl, g1, g2, g3, g4⟩ := fitB_is k3
      obtain ⟨a', b', rfl, rfl, f1, f2, f3, f4⟩ := fitB_is k4
      have he : voE lo hi a b p a' b' q u = 0 := by rw [voE, if_pos hu, if_pos hk]
      have hr : voR root lo hi a b p a' b' q u = voB root lo hi a b p a' b' q u := by rw [voR, if_pos he]
      rw [he, hr]
      clear he hr hk hu
      have hw : IntKind.i64.wrap ((b : Int) + 1) = (b : Int) + 1 := by rw [IntKind.wrap_i64]; omega
      by_cases hN : a' = a
      · obtain rfl := hN
        by_cases hM : b' = b + 1
        · obtain rfl := hM
          have k4' : fitB (a' : Int) ((b : Int) + 1) q.length = true := k4
          rcases vo_ways root lo hi a' b p a' (b + 1) q u with ⟨n1, n2, n3, c1, hk⟩ | ⟨n1, n2, n3, c1, c2, hk⟩ | ⟨n1, n2, n3, c1, c2, hk⟩ | ⟨n1, n2, n3, c1, hk⟩ | ⟨n1, n2, n3, c1, c2, hk⟩ | ⟨n1, n2, n3, c1, c2, hk⟩ | ⟨n1, n2, c1, hk⟩ | ⟨n1, n2, c1, c2, hk⟩ | ⟨n1, n2, c1, c2, c5, hk⟩ | ⟨n1, n2, c1, c2, c5, c6, hk⟩ | ⟨n1, n2, c1, c2, c5, c6, hk⟩
          all_goals first | (exfalso; omega) | skip
          all_goals
            (try clear n1)
            rw [hk]
            clear hk
            go_enter Try.func39, Try.ntmps39
            go_wp2_with (first
              | ((with_reducible refine gd_ _ ?_); refine wl_gg _ rfl rfl ?_; first | (with_reducible refine gp_y ?_) | ((first | (with_reducible refine gp_ft ?_) | (with_reducible refine gp_tf ?_)); simp only [Act.put, List.getElem_toArray, List.getElem_cons_succ, List.getElem_cons_zero, List.setIfInBounds_toArray, List.set_cons_succ, List.set_cons_zero]))
              | ((with_reducible refine s_ 3 ?_); go_must (refine wl_box (dst := some 3) (cs := kc root) _ _ _ rfl rfl HM ?_; clear HM; intro b3 W HM))
              | ((with_reducible refine s_ 5 ?_); go_must (refine wl_box (dst := some 5) (cs := #[.int .i64 lo.1, .int .i64 lo.2, .int .i64 hi.1, .int .i64 hi.2, .int .i64 _, .int .i64 _, v1, .int .i64 _, .int .i64 _, v2]) _ _ _ rfl rfl HM ?_; clear HM; intro b5 W HM))
              | ((with_reducible refine s_ 17 ?_); go_must (refine wl_load_sub (dst := some 17) (cs' := #[.int .i64 lo.1, .int .i64 lo.2]) _ _ _ _ _ _ _ _ rfl HM m0 Try.underlying79 rfl sz79 (by rfl) (by simp [kc_size]) ?_))
              | ((with_reducible refine s_ 22 ?_); go_must (refine wl_load_sub (dst := some 22) (cs' := #[.int .i64 hi.1, .int .i64 hi.2]) _ _ _ _ _ _ _ _ rfl HM m0 Try.underlying79 rfl sz79 (by rfl) (by simp [kc_size]) ?_))
              | ((with_reducible refine s_ 28 ?_); go_must (refine wl_load_sub (dst := some 28) (cs' := #[.int .i64 _, .int .i64 _, v1]) _ _ _ _ _ _ _ _ rfl HM m0 Try.underlying52 rfl sz52 (by rfl) (by simp [kc_size]) ?_))
              | ((with_reducible refine s_ 34 ?_); go_must (refine wl_load_sub (dst := some 34) (cs' := #[.int .i64 _, .int .i64 _, v2]) _ _ _ _ _ _ _ _ rfl HM m0 Try.underlying52 rfl sz52 (by rfl) (by simp [kc_size]) ?_))
              | ((with_reducible refine ld_ 3 ?_); go_must (refine wl_load_cell _ _ _ _ _ _ _ _ rfl HM (by repeat first | exact List.mem_cons_self .. | refine List.mem_cons_of_mem _ ?_) (by rfl) Try.underlying3 rfl ?_))
              | (go_at_call 90; go_must (((with_reducible refine (isEntry_c _ _).mono ?_)); rintro e W ⟨rfl, HM'⟩; replace HM := HM.keep HM'.below; clear HM'))
              | (go_at_call 75; go_must ((first | (with_reducible refine (fits_c _ _ v1 p _ (hR1.mem HM)).mono ?_) | (with_reducible refine (fits_c _ _ v2 q _ (hR2.mem HM)).mono ?_)); rintro e W ⟨rfl, HM'⟩; replace HM := HM.keep HM'.below; clear HM')))
            replace HM := HM.drew
            refine wp_region_mixN (fun W => Held w W [.blk b5 #[.int .i64 lo.1, .int .i64 lo.2, .int .i64 hi.1, .int .i64 hi.2, .int .i64 (a' : Int), .int .i64 (b : Int), v1, .int .i64 (a' : Int), .int .i64 ((b : Int) + 1 : Int), v2] 81, .blk b3 (kc root) 23]) (fun W => Held w W [.blk b5 #[.int .i64 lo.1, .int .i64 lo.2, .int .i64 hi.1, .int .i64 hi.2, .int .i64 (a' : Int), .int .i64 (b : Int), v1, .int .i64 (a' : Int), .int .i64 ((b : Int) + 1 : Int), v2] 81, .blk b3 (kc root) 23]) (.cons (2, 0) (.cons (2, 1) (.cons (2, 2) (.cons (2, 3) (.cons (2, 4) (.cons (2, 5) (.cons (2, 6) (.cons (2, 7) (.cons (2, 9) (.cons (2, 10) (.cons (0, 8) (.cons (0, 11) (.cons (2, 12) (.cons (2, 13) (.cons (2, 14) (.cons (2, 15) (.cons (2, 16) (.cons (2, 18) (.cons (2, 19) (.cons (0, 17) (.cons (0, 20) (.cons (2, 21) (.cons (2, 22) (.cons (2, 23) .nil)))))))))))))))))))))))) [] (by kernel_rfl) (by kernel_rfl) (by kernel_rfl) (fun W h => Held.weak h (by simp)) (HM.held (by simp)) ?_
            revert HM; generalize World.drew _ = W; intro HM
            have HS1 : Held w W [.blk b5 #[.int .i64 lo.1, .int .i64 lo.2, .int .i64 hi.1, .int .i64 hi.2, .int .i64 (a' : Int), .int .i64 (b : Int), v1, .int .i64 (a' : Int), .int .i64 ((b : Int) + 1 : Int), v2] 81, .blk b3 (kc root) 23] := HM.held (by simp)
            have HS2 : Held w W [.blk b5 #[.int .i64 lo.1, .int .i64 lo.2, .int .i64 hi.1, .int .i64 hi.2, .int .i64 (a' : Int), .int .i64 (b : Int), v1, .int .i64 (a' : Int), .int .i64 ((b : Int) + 1 : Int), v2] 81, .blk b3 (kc root) 23] := HM.held (by simp)
            refine wm_q2 (i := 0) (some 67) rfl rfl rfl HS2 (fun W HS => by (go_simp; try with_reducible rfl)) ?_
            simp only [Act.put, List.getElem_toArray, List.getElem_cons_succ, List.getElem_cons_zero, List.setIfInBounds_toArray, List.set_cons_succ, List.set_cons_zero]
            refine wm_q2 (i := 1) (some 68) rfl rfl rfl HS2 (fun W HS => by (go_simp; try with_reducible rfl)) ?_
            simp only [Act.put, List.getElem_toArray, List.getElem_cons_succ, List.getElem_cons_zero, List.setIfInBounds_toArray, List.set_cons_succ, List.set_cons_zero]
            (first | (refine wm_s2 (i := 2) (some 69) rfl rfl (by rfl) HS2 ?_) | (refine wm_g2 (i := 2) (some 69) rfl rfl (by rfl) HS2 (fun W HS => by (go_simp; try with_reducible rfl)) ?_))
            simp only [Act.put, List.getElem_toArray, List.getElem_cons_succ, List.getElem_cons_zero, List.setIfInBounds_toArray, List.set_cons_succ, List.set_cons_zero]
            refine wm_q2 (i := 3) (some 70) rfl rfl rfl HS2 (fun W HS => by (go_simp; try with_reducible rfl)) ?_
            simp only [Act.put, List.getElem_toArray, List.getElem_cons_succ, List.getElem_cons_zero, List.setIfInBounds_toArray, List.set_cons_succ, List.set_cons_zero]
            refine wm_q2 (i := 4) (some 71) rfl rfl rfl HS2 (fun W HS => by (go_simp; try with_reducible rfl)) ?_
            simp only [Act.put, List.getElem_toArray, List.getElem_cons_succ, List.getElem_cons_zero, List.setIfInBounds_toArray, List.set_cons_succ, List.set_cons_zero]
            (first | (refine wm_s2 (i := 5) (some 72) rfl rfl (by rfl) HS2 ?_) | (refine wm_g2 (i := 5) (some 72) rfl rfl (by rfl) HS2 (fun W HS => (by ((refine ry_load_blk _ _ _ _ _ _ HS ?_ m1 Try.underlying23 rfl (by rw [kc_size]; exact sz23); rfl)))) ?_))
            simp only [Act.put, List.getElem_toArray, List.getElem_cons_succ, List.getElem_cons_zero, List.setIfInBounds_toArray, List.set_cons_succ, List.set_cons_zero]
            (first | (refine wm_s2 (i := 6) (some 73) rfl rfl (by rfl) HS2 ?_) | (refine wm_g2 (i := 6) (some 73) rfl rfl (by rfl) HS2 (fun W HS => by (go_simp; try with_reducible rfl)) ?_))
            simp only [Act.put, List.getElem_toArray, List.getElem_cons_succ, List.getElem_cons_zero, List.setIfInBounds_toArray, List.set_cons_succ, List.set_cons_zero]
            (first | (refine wm_s2 (i := 7) (some 74) rfl rfl (by rfl) HS2 ?_) | (refine wm_g2 (i := 7) (some 74) rfl rfl (by rfl) HS2 (fun W HS => (by exact ry_load_sub _ _ _ _ _ _ (#[.int .i64 lo.1, .int .i64 lo.2]) _ _ HS (by rfl) m0 Try.underlying79 rfl sz79 (by rfl) (by simp [kc_size]))) ?_))
            simp only [Act.put, List.getElem_toArray, List.getElem_cons_succ, List.getElem_cons_zero, List.setIfInBounds_toArray, List.set_cons_succ, List.set_cons_zero]
            (first | (refine wm_s2 (i := 9) (some 76) rfl rfl (by rfl) HS2 ?_) | (refine wm_g2 (i := 9) (some 76) rfl rfl (by rfl) HS2 (fun W HS => by (go_simp; try with_reducible rfl)) ?_))
            simp only [Act.put, List.getElem_toArray, List.getElem_cons_succ, List.getElem_cons_zero, List.setIfInBounds_toArray, List.set_cons_succ, List.set_cons_zero]
            (first | (refine wm_s2 (i := 10) (some 77) rfl rfl (by rfl) HS2 ?_) | (refine wm_g2 (i := 10) (some 77) rfl rfl (by rfl) HS2 (fun W HS => (by exact ry_load_sub _ _ _ _ _ _ (#[.int .i64 (a' : Int), .int .i64 (b : Int), v1]) _ _ HS (by rfl) m0 Try.underlying52 rfl sz52 (by rfl) (by simp [kc_size]))) ?_))
            simp only [Act.put, List.getElem_toArray, List.getElem_cons_succ, List.getElem_cons_zero, List.setIfInBounds_toArray, List.set_cons_succ, List.set_cons_zero]
            (first | (refine wm_es0 (i := 8) (some 75) rfl rfl (by rfl) HS1 ?_; simp only [Act.put, List.getElem_toArray, List.getElem_cons_succ, List.getElem_cons_zero, List.setIfInBounds_toArray, List.set_cons_succ, List.set_cons_zero]) | (refine wm_e0 (i := 8) rfl ?_; go_wp2_with (first | ((with_reducible refine gd_ _ ?_); refine wl_gg _ rfl rfl ?_; first | (with_reducible refine gp_y ?_) | ((first | (with_reducible refine gp_ft ?_) | (with_reducible refine gp_tf ?_)); simp only [Act.put, List.getElem_toArray, List.getElem_cons_succ, List.getElem_cons_zero, List.setIfInBounds_toArray, List.set_cons_succ, List.set_cons_zero])) | (go_at_call 91; go_must (((with_reducible refine (leaf_c lo k1 _).mono ?_)); rintro e W ⟨rfl, HM'⟩; replace HM := HM.keep HM'.below; clear HM'))); refine ⟨HM.held (by simp), ?_⟩; clear HS1 HS2; have HS1 : Held w W [.blk b5 #[.int .i64 lo.1, .int .i64 lo.2, .int .i64 hi.1, .int .i64 hi.2, .int .i64 (a' : Int), .int .i64 (b : Int), v1, .int .i64 (a' : Int), .int .i64 ((b : Int) + 1 : Int), v2] 81, .blk b3 (kc root) 23] := HM.held (by simp); have HS2 : Held w W [.blk b5 #[.int .i64 lo.1, .int .i64 lo.2, .int .i64 hi.1, .int .i64 hi.2, .int .i64 (a' : Int), .int .i64 (b : Int), v1, .int .i64 (a' : Int), .int .i64 ((b : Int) + 1 : Int), v2] 81, .blk b3 (kc root) 23] := HM.held (by simp)))
            (first | (refine wm_es0 (i := 11) (some 78) rfl rfl (by rfl) HS1 ?_; simp only [Act.put, List.getElem_toArray, List.getElem_cons_succ, List.getElem_cons_zero, List.setIfInBounds_toArray, List.set_cons_succ, List.set_cons_zero]) | (refine wm_e0 (i := 11) rfl ?_; go_wp2_with (first | ((with_reducible refine gd_ _ ?_); refine wl_gg _ rfl rfl ?_; first | (with_reducible refine gp_y ?_) | ((first | (with_reducible refine gp_ft ?_) | (with_reducible refine gp_tf ?_)); simp only [Act.put, List.getElem_toArray, List.getElem_cons_succ, List.getElem_cons_zero, List.setIfInBounds_toArray, List.set_cons_succ, List.set_cons_zero])) | (go_at_call 76; go_must (((with_reducible refine (gives_c root (leafE lo) a' b v1 p _ (hR1.mem HM) g1 g2 g3 g4.eq).mono ?_)); rintro e W ⟨rfl, HM'⟩; replace HM := HM.keep HM'.below; clear HM'))); refine ⟨HM.held (by simp), ?_⟩; clear HS1 HS2; have HS1 : Held w W [.blk b5 #[.int .i64 lo.1, .int .i64 lo.2, .int .i64 hi.1, .int .i64 hi.2, .int .i64 (a' : Int), .int .i64 (b : Int), v1, .int .i64 (a' : Int), .int .i64 ((b : Int) + 1 : Int), v2] 81, .blk b3 (kc root) 23] := HM.held (by simp); have HS2 : Held w W [.blk b5 #[.int .i64 lo.1, .int .i64 lo.2, .int .i64 hi.1, .int .i64 hi.2, .int .i64 (a' : Int), .int .i64 (b : Int), v1, .int .i64 (a' : Int), .int .i64 ((b : Int) + 1 : Int), v2] 81, .blk b3 (kc root) 23] := HM.held (by simp)))
            refine wm_q2 (i := 12) (some 79) rfl rfl rfl HS2 (fun W HS => by (go_simp; try with_reducible rfl)) ?_
            simp only [Act.put, List.getElem_toArray, List.getElem_cons_succ, List.getElem_cons_zero, List.setIfInBounds_toArray, List.set_cons_succ, List.set_cons_zero]
            refine wm_q2 (i := 13) (some 80) rfl rfl rfl HS2 (fun W HS => by (go_simp; try with_reducible rfl)) ?_
            simp only [Act.put, List.getElem_toArray, List.getElem_cons_succ, List.getElem_cons_zero, List.setIfInBounds_toArray, List.set_cons_succ, List.set_cons_zero]
            (first | (refine wm_s2 (i := 14) (some 81) rfl rfl (by rfl) HS2 ?_) | (refine wm_g2 (i := 14) (some 81) rfl rfl (by rfl) HS2 (fun W HS => (by ((refine ry_load_blk _ _ _ _ _ _ HS ?_ m1 Try.underlying23 rfl (by rw [kc_size]; exact sz23); rfl)))) ?_))
            simp only [Act.put, List.getElem_toArray, List.getElem_cons_succ, List.getElem_cons_zero, List.setIfInBounds_toArray, List.set_cons_succ, List.set_cons_zero]
            (first | (refine wm_s2 (i := 15) (some 82) rfl rfl (by rfl) HS2 ?_) | (refine wm_g2 (i := 15) (some 82) rfl rfl (by rfl) HS2 (fun W HS => by (go_simp; try with_reducible rfl)) ?_))
            simp only [Act.put, List.getElem_toArray, List.getElem_cons_succ, List.getElem_cons_zero, List.setIfInBounds_toArray, List.set_cons_succ, List.set_cons_zero]
            (first | (refine wm_s2 (i := 16) (some 83) rfl rfl (by rfl) HS2 ?_) | (refine wm_g2 (i := 16) (some 83) rfl rfl (by rfl) HS2 (fun W HS => (by exact ry_load_sub _ _ _ _ _ _ (#[.int .i64 hi.1, .int .i64 hi.2]) _ _ HS (by rfl) m0 Try.underlying79 rfl sz79 (by rfl) (by simp [kc_size]))) ?_))
            simp only [Act.put, List.getElem_toArray, List.getElem_cons_succ, List.getElem_cons_zero, List.setIfInBounds_toArray, List.set_cons_succ, List.set_cons_zero]
            (first | (refine wm_s2 (i := 18) (some 85) rfl rfl (by rfl) HS2 ?_) | (refine wm_g2 (i := 18) (some 85) rfl rfl (by rfl) HS2 (fun W HS => by (go_simp; try with_reducible rfl)) ?_))
            simp only [Act.put, List.getElem_toArray, List.getElem_cons_succ, List.getElem_cons_zero, List.setIfInBounds_toArray, List.set_cons_succ, List.set_cons_zero]
            (first | (refine wm_s2 (i := 19) (some 86) rfl rfl (by rfl) HS2 ?_) | (refine wm_g2 (i := 19) (some 86) rfl rfl (by rfl) HS2 (fun W HS => (by exact ry_load_sub _ _ _ _ _ _ (#[.int .i64 (a' : Int), .int .i64 ((b : Int) + 1 : Int), v2]) _ _ HS (by rfl) m0 Try.underlying52 rfl sz52 (by rfl) (by simp [kc_size]))) ?_))
            simp only [Act.put, List.getElem_toArray, List.getElem_cons_succ, List.getElem_cons_zero, List.setIfInBounds_toArray, List.set_cons_succ, List.set_cons_zero]
            (first | (refine wm_es0 (i := 17) (some 84) rfl rfl (by rfl) HS1 ?_; simp only [Act.put, List.getElem_toArray, List.getElem_cons_succ, List.getElem_cons_zero, List.setIfInBounds_toArray, List.set_cons_succ, List.set_cons_zero]) | (refine wm_e0 (i := 17) rfl ?_; go_wp2_with (first | ((with_reducible refine gd_ _ ?_); refine wl_gg _ rfl rfl ?_; first | (with_reducible refine gp_y ?_) | ((first | (with_reducible refine gp_ft ?_) | (with_reducible refine gp_tf ?_)); simp only [Act.put, List.getElem_toArray, List.getElem_cons_succ, List.getElem_cons_zero, List.setIfInBounds_toArray, List.set_cons_succ, List.set_cons_zero])) | (go_at_call 91; go_must (((with_reducible refine (leaf_c hi k2 _).mono ?_)); rintro e W ⟨rfl, HM'⟩; replace HM := HM.keep HM'.below; clear HM'))); refine ⟨HM.held (by simp), ?_⟩; clear HS1 HS2; have HS1 : Held w W [.blk b5 #[.int .i64 lo.1, .int .i64 lo.2, .int .i64 hi.1, .int .i64 hi.2, .int .i64 (a' : Int), .int .i64 (b : Int), v1, .int .i64 (a' : Int), .int .i64 ((b : Int) + 1 : Int), v2] 81, .blk b3 (kc root) 23] := HM.held (by simp); have HS2 : Held w W [.blk b5 #[.int .i64 lo.1, .int .i64 lo.2, .int .i64 hi.1, .int .i64 hi.2, .int .i64 (a' : Int), .int .i64 (b : Int), v1, .int .i64 (a' : Int), .int .i64 ((b : Int) + 1 : Int), v2] 81, .blk b3 (kc root) 23] := HM.held (by simp)))
            (first | (refine wm_es0 (i := 20) (some 87) rfl rfl (by rfl) HS1 ?_; simp only [Act.put, List.getElem_toArray, List.getElem_cons_succ, List.getElem_cons_zero, List.setIfInBounds_toArray, List.set_cons_succ, List.set_cons_zero]) | (refine wm_e0 (i := 20) rfl ?_; go_wp2_with (first | ((with_reducible refine gd_ _ ?_); refine wl_gg _ rfl rfl ?_; first | (with_reducible refine gp_y ?_) | ((first | (with_reducible refine gp_ft ?_) | (with_reducible refine gp_tf ?_)); simp only [Act.put, List.getElem_toArray, List.getElem_cons_succ, List.getElem_cons_zero, List.setIfInBounds_toArray, List.set_cons_succ, List.set_cons_zero])) | (go_at_call 76; go_must (((with_reducible refine (gives_two root (leafE hi) a' b v2 q _ (hR2.mem HM) f1 f2 f3 f4).mono ?_)); rintro e W ⟨rfl, HM'⟩; replace HM := HM.keep HM'.below; clear HM'))); refine ⟨HM.held (by simp), ?_⟩; clear HS1 HS2; have HS1 : Held w W [.blk b5 #[.int .i64 lo.1, .int .i64 lo.2, .int .i64 hi.1, .int .i64 hi.2, .int .i64 (a' : Int), .int .i64 (b : Int), v1, .int .i64 (a' : Int), .int .i64 ((b : Int) + 1 : Int), v2] 81, .blk b3 (kc root) 23] := HM.held (by simp); have HS2 : Held w W [.blk b5 #[.int .i64 lo.1, .int .i64 lo.2, .int .i64 hi.1, .int .i64 hi.2, .int .i64 (a' : Int), .int .i64 (b : Int), v1, .int .i64 (a' : Int), .int .i64 ((b : Int) + 1 : Int), v2] 81, .blk b3 (kc root) 23] := HM.held (by simp)))
            refine wm_q2 (i := 21) (some 88) rfl rfl rfl HS2 (fun W HS => by (go_simp; try with_reducible rfl)) ?_
            simp only [Act.put, List.getElem_toArray, List.getElem_cons_succ, List.getElem_cons_zero, List.setIfInBounds_toArray, List.set_cons_succ, List.set_cons_zero]
            refine wm_q2 (i := 22) (some 6) rfl rfl rfl HS2 (fun W HS => by (go_simp; try with_reducible rfl)) ?_
            simp only [Act.put, List.getElem_toArray, List.getElem_cons_succ, List.getElem_cons_zero, List.setIfInBounds_toArray, List.set_cons_succ, List.set_cons_zero]
            refine wm_q2 (i := 23) (some 7) rfl rfl rfl HS2 (fun W HS => by (go_simp; try with_reducible rfl)) ?_
            simp only [Act.put, List.getElem_toArray, List.getElem_cons_succ, List.getElem_cons_zero, List.setIfInBounds_toArray, List.set_cons_succ, List.set_cons_zero]
            refine wm_nilN ?_
            clear HS1 HS2
            go_wp2_with (fail)
            refine ret2 rfl (res_tmp rfl) (res_tmp rfl) rfl ?_
            exact ⟨rfl, HM.base⟩
        · rcases vo_ways root lo hi a' b p a' b' q u with ⟨n1, n2, n3, c1, hk⟩ | ⟨n1, n2, n3, c1, c2, hk⟩ | ⟨n1, n2, n3, c1, c2, hk⟩ | ⟨n1, n2, n3, c1, hk⟩ | ⟨n1, n2, n3, c1, c2, hk⟩ | ⟨n1, n2, n3, c1, c2, hk⟩ | ⟨n1, n2, c1, hk⟩ | ⟨n1, n2, c1, c2, hk⟩ | ⟨n1, n2, c1, c2, c5, hk⟩ | ⟨n1, n2, c1, c2, c5, c6, hk⟩ | ⟨n1, n2, c1, c2, c5, c6, hk⟩
          all_goals first | (exfalso; omega) | skip
          all_goals
            (try clear n1)
            rw [hk]
            clear hk
            go_enter Try.func39, Try.ntmps39
            go_wp2_with (first
              | ((with_reducible refine gd_ _ ?_); refine wl_gg _ rfl rfl ?_; first | (with_reducible refine gp_y ?_) | ((first | (with_reducible refine gp_ft ?_) | (with_reducible refine gp_tf ?_)); simp only [Act.put, List.getElem_toArray, List.getElem_cons_succ, List.getElem_cons_zero, List.setIfInBounds_toArray, List.set_cons_succ, List.set_cons_zero]))
              | ((with_reducible refine s_ 3 ?_); go_must (refine wl_box (dst := some 3) (cs := kc root) _ _ _ rfl rfl HM ?_; clear HM; intro b3 W HM))
              | ((with_reducible refine s_ 5 ?_); go_must (refine wl_box (dst := some 5) (cs := #[.int .i64 lo.1, .int .i64 lo.2, .int .i64 hi.1, .int .i64 hi.2, .int .i64 _, .int .i64 _, v1, .int .i64 _, .int .i64 _, v2]) _ _ _ rfl rfl HM ?_; clear HM; intro b5 W HM))
              | ((with_reducible refine s_ 17 ?_); go_must (refine wl_load_sub (dst := some 17) (cs' := #[.int .i64 lo.1, .int .i64 lo.2]) _ _ _ _ _ _ _ _ rfl HM m0 Try.underlying79 rfl sz79 (by rfl) (by simp [kc_size]) ?_))
              | ((with_reducible refine s_ 22 ?_); go_must (refine wl_load_sub (dst := some 22) (cs' := #[.int .i64 hi.1, .int .i64 hi.2]) _ _ _ _ _ _ _ _ rfl HM m0 Try.underlying79 rfl sz79 (by rfl) (by simp [kc_size]) ?_))
              | ((with_reducible refine s_ 28 ?_); go_must (refine wl_load_sub (dst := some 28) (cs' := #[.int .i64 _, .int .i64 _, v1]) _ _ _ _ _ _ _ _ rfl HM m0 Try.underlying52 rfl sz52 (by rfl) (by simp [kc_size]) ?_))
              | ((with_reducible refine s_ 34 ?_); go_must (refine wl_load_sub (dst := some 34) (cs' := #[.int .i64 _, .int .i64 _, v2]) _ _ _ _ _ _ _ _ rfl HM m0 Try.underlying52 rfl sz52 (by rfl) (by simp [kc_size]) ?_))
              | ((with_reducible refine ld_ 3 ?_); go_must (refine wl_load_cell _ _ _ _ _ _ _ _ rfl HM (by repeat first | exact List.mem_cons_self .. | refine List.mem_cons_of_mem _ ?_) (by rfl) Try.underlying3 rfl ?_))
              | (go_at_call 90; go_must (((with_reducible refine (isEntry_c _ _).mono ?_)); rintro e W ⟨rfl, HM'⟩; replace HM := HM.keep HM'.below; clear HM'))
              | (go_at_call 75; go_must ((first | (with_reducible refine (fits_c _ _ v1 p _ (hR1.mem HM)).mono ?_) | (with_reducible refine (fits_c _ _ v2 q _ (hR2.mem HM)).mono ?_)); rintro e W ⟨rfl, HM'⟩; replace HM := HM.keep HM'.below; clear HM')))
            replace HM := HM.drew
            refine wp_region_mixN (fun W => Held w W [.blk b5 #[.int .i64 lo.1, .int .i64 lo.2, .int .i64 hi.1, .int .i64 hi.2, .int .i64 (a' : Int), .int .i64 (b : Int), v1, .int .i64 (a' : Int), .int .i64 (b' : Int), v2] 81, .blk b3 (kc root) 23]) (fun W => Held w W [.blk b5 #[.int .i64 lo.1, .int .i64 lo.2, .int .i64 hi.1, .int .i64 hi.2, .int .i64 (a' : Int), .int .i64 (b : Int), v1, .int .i64 (a' : Int), .int .i64 (b' : Int), v2] 81, .blk b3 (kc root) 23]) (.cons (2, 0) (.cons (2, 1) (.cons (2, 2) (.cons (2, 3) (.cons (2, 4) (.cons (2, 5) (.cons (2, 6) (.cons (2, 7) (.cons (2, 9) (.cons (2, 10) (.cons (0, 8) (.cons (0, 11) (.cons (2, 12) (.cons (2, 13) (.cons (2, 14) (.cons (2, 15) (.cons (2, 16) (.cons (2, 18) (.cons (2, 19) (.cons (0, 17) (.cons (0, 20) (.cons (2, 21) (.cons (2, 22) (.cons (2, 23) .nil)))))))))))))))))))))))) [] (by kernel_rfl) (by kernel_rfl) (by kernel_rfl) (fun W h => Held.weak h (by simp)) (HM.held (by simp)) ?_
            revert HM; generalize World.drew _ = W; intro HM
            have HS1 : Held w W [.blk b5 #[.int .i64 lo.1, .int .i64 lo.2, .int .i64 hi.1, .int .i64 hi.2, .int .i64 (a' : Int), .int .i64 (b : Int), v1, .int .i64 (a' : Int), .int .i64 (b' : Int), v2] 81, .blk b3 (kc root) 23] := HM.held (by simp)
            have HS2 : Held w W [.blk b5 #[.int .i64 lo.1, .int .i64 lo.2, .int .i64 hi.1, .int .i64 hi.2, .int .i64 (a' : Int), .int .i64 (b : Int), v1, .int .i64 (a' : Int), .int .i64 (b' : Int), v2] 81, .blk b3 (kc root) 23] := HM.held (by simp)
            refine wm_q2 (i := 0) (some 67) rfl rfl rfl HS2 (fun W HS => by (go_simp; try with_reducible rfl)) ?_
            simp only [Act.put, List.getElem_toArray, List.getElem_cons_succ, List.getElem_cons_zero, List.setIfInBounds_toArray, List.set_cons_succ, List.set_cons_zero]
            refine wm_q2 (i := 1) (some 68) rfl rfl rfl HS2 (fun W HS => by (go_simp; try with_reducible rfl)) ?_
            simp only [Act.put, List.getElem_toArray, List.getElem_cons_succ, List.getElem_cons_zero, List.setIfInBounds_toArray, List.set_cons_succ, List.set_cons_zero]
            (first | (refine wm_s2 (i := 2) (some 69) rfl rfl (by rfl) HS2 ?_) | (refine wm_g2 (i := 2) (some 69) rfl rfl (by rfl) HS2 (fun W HS => by (go_simp; try with_reducible rfl)) ?_))
            simp only [Act.put, List.getElem_toArray, List.getElem_cons_succ, List.getElem_cons_zero, List.setIfInBounds_toArray, List.set_cons_succ, List.set_cons_zero]
            refine wm_q2 (i := 3) (some 70) rfl rfl rfl HS2 (fun W HS => by (go_simp; try with_reducible rfl)) ?_
            simp only [Act.put, List.getElem_toArray, List.getElem_cons_succ, List.getElem_cons_zero, List.setIfInBounds_toArray, List.set_cons_succ, List.set_cons_zero]
            refine wm_q2 (i := 4) (some 71) rfl rfl rfl HS2 (fun W HS => by (go_simp; try with_reducible rfl)) ?_
            simp only [Act.put, List.getElem_toArray, List.getElem_cons_succ, List.getElem_cons_zero, List.setIfInBounds_toArray, List.set_cons_succ, List.set_cons_zero]
            ((refine wm_s2 (i := 5) (some 72) rfl rfl (by rfl) HS2 ?_))
            simp only [Act.put, List.getElem_toArray, List.getElem_cons_succ, List.getElem_cons_zero, List.setIfInBounds_toArray, List.set_cons_succ, List.set_cons_zero]
            ((refine wm_s2 (i := 6) (some 73) rfl rfl (by rfl) HS2 ?_))
            simp only [Act.put, List.getElem_toArray, List.getElem_cons_succ, List.getElem_cons_zero, List.setIfInBounds_toArray, List.set_cons_succ, List.set_cons_zero]
            ((refine wm_s2 (i := 7) (some 74) rfl rfl (by rfl) HS2 ?_))
            simp only [Act.put, List.getElem_toArray, List.getElem_cons_succ, List.getElem_cons_zero, List.setIfInBounds_toArray, List.set_cons_succ, List.set_cons_zero]
            ((refine wm_s2 (i := 9) (some 76) rfl rfl (by rfl) HS2 ?_))
            simp only [Act.put, List.getElem_toArray, List.getElem_cons_succ, List.getElem_cons_zero, List.setIfInBounds_toArray, List.set_cons_succ, List.set_cons_zero]
            ((refine wm_s2 (i := 10) (some 77) rfl rfl (by rfl) HS2 ?_))
            simp only [Act.put, List.getElem_toArray, List.getElem_cons_succ, List.getElem_cons_zero, List.setIfInBounds_toArray, List.set_cons_succ, List.set_cons_zero]
            ((refine wm_es0 (i := 8) (some 75) rfl rfl (by rfl) HS1 ?_; simp only [Act.put, List.getElem_toArray, List.getElem_cons_succ, List.getElem_cons_zero, List.setIfInBounds_toArray, List.set_cons_succ, List.set_cons_zero]))
            ((refine wm_es0 (i := 11) (some 78) rfl rfl (by rfl) HS1 ?_; simp only [Act.put, List.getElem_toArray, List.getElem_cons_succ, List.getElem_cons_zero, List.setIfInBounds_toArray, List.set_cons_succ, List.set_cons_zero]))
            refine wm_q2 (i := 12) (some 79) rfl rfl rfl HS2 (fun W HS => by (go_simp; try with_reducible rfl)) ?_
            simp only [Act.put, List.getElem_toArray, List.getElem_cons_succ, List.getElem_cons_zero, List.setIfInBounds_toArray, List.set_cons_succ, List.set_cons_zero]
            refine wm_q2 (i := 13) (some 80) rfl rfl rfl HS2 (fun W HS => by (go_simp; try with_reducible rfl)) ?_
            simp only [Act.put, List.getElem_toArray, List.getElem_cons_succ, List.getElem_cons_zero, List.setIfInBounds_toArray, List.set_cons_succ, List.set_cons_zero]
            ((refine wm_s2 (i := 14) (some 81) rfl rfl (by rfl) HS2 ?_))
            simp only [Act.put, List.getElem_toArray, List.getElem_cons_succ, List.getElem_cons_zero, List.setIfInBounds_toArray, List.set_cons_succ, List.set_cons_zero]
            ((refine wm_s2 (i := 15) (some 82) rfl rfl (by rfl) HS2 ?_))
            simp only [Act.put, List.getElem_toArray, List.getElem_cons_succ, List.getElem_cons_zero, List.setIfInBounds_toArray, List.set_cons_succ, List.set_cons_zero]
            ((refine wm_s2 (i := 16) (some 83) rfl rfl (by rfl) HS2 ?_))
            simp only [Act.put, List.getElem_toArray, List.getElem_cons_succ, List.getElem_cons_zero, List.setIfInBounds_toArray, List.set_cons_succ, List.set_cons_zero]
            ((refine wm_s2 (i := 18) (some 85) rfl rfl (by rfl) HS2 ?_))
            simp only [Act.put, List.getElem_toArray, List.getElem_cons_succ, List.getElem_cons_zero, List.setIfInBounds_toArray, List.set_cons_succ, List.set_cons_zero]
            ((refine wm_s2 (i := 19) (some 86) rfl rfl (by rfl) HS2 ?_))
            simp only [Act.put, List.getElem_toArray, List.getElem_cons_succ, List.getElem_cons_zero, List.setIfInBounds_toArray, List.set_cons_succ, List.set_cons_zero]
            ((refine wm_es0 (i := 17) (some 84) rfl rfl (by rfl) HS1 ?_; simp only [Act.put, List.getElem_toArray, List.getElem_cons_succ, List.getElem_cons_zero, List.setIfInBounds_toArray, List.set_cons_succ, List.set_cons_zero]))
            ((refine wm_es0 (i := 20) (some 87) rfl rfl (by rfl) HS1 ?_; simp only [Act.put, List.getElem_toArray, List.getElem_cons_succ, List.getElem_cons_zero, List.setIfInBounds_toArray, List.set_cons_succ, List.set_cons_zero]))
            refine wm_q2 (i := 21) (some 88) rfl rfl rfl HS2 (fun W HS => by (go_simp; try with_reducible rfl)) ?_
            simp only [Act.put, List.getElem_toArray, List.getElem_cons_succ, List.getElem_cons_zero, List.setIfInBounds_toArray, List.set_cons_succ, List.set_cons_zero]
            refine wm_q2 (i := 22) (some 6) rfl rfl rfl HS2 (fun W HS => by (go_simp; try with_reducible rfl)) ?_
            simp only [Act.put, List.getElem_toArray, List.getElem_cons_succ, List.getElem_cons_zero, List.setIfInBounds_toArray, List.set_cons_succ, List.set_cons_zero]
            refine wm_q2 (i := 23) (some 7) rfl rfl rfl HS2 (fun W HS => by (go_simp; try with_reducible rfl)) ?_
            simp only [Act.put, List.getElem_toArray, List.getElem_cons_succ, List.getElem_cons_zero, List.setIfInBounds_toArray, List.set_cons_succ, List.set_cons_zero]
            refine wm_nilN ?_
            clear HS1 HS2
            go_wp2_with (fail)
            refine ret2 rfl (res_tmp rfl) (res_tmp rfl) rfl ?_
            exact ⟨rfl, HM.base⟩
      · rcases vo_ways root lo hi a b p a' b' q u with ⟨n1, n2, n3, c1, hk⟩ | ⟨n1, n2, n3, c1, c2, hk⟩ | ⟨n1, n2, n3, c1, c2, hk⟩ | ⟨n1, n2, n3, c1, hk⟩ | ⟨n1, n2, n3, c1, c2, hk⟩ | ⟨n1, n2, n3, c1, c2, hk⟩ | ⟨n1, n2, c1, hk⟩ | ⟨n1, n2, c1, c2, hk⟩ | ⟨n1, n2, c1, c2, c5, hk⟩ | ⟨n1, n2, c1, c2, c5, c6, hk⟩ | ⟨n1, n2, c1, c2, c5, c6, hk⟩
        all_goals first | (exfalso; omega) | skip
        all_goals
          (try clear n1)
          rw [hk]
          clear hk
          go_enter Try.func39, Try.ntmps39
          go_wp2_with (first
            | ((with_reducible refine gd_ _ ?_); refine wl_gg _ rfl rfl ?_; first | (with_reducible refine gp_y ?_) | ((first | (with_reducible refine gp_ft ?_) | (with_reducible refine gp_tf ?_)); simp only [Act.put, List.getElem_toArray, List.getElem_cons_succ, List.getElem_cons_zero, List.setIfInBounds_toArray, List.set_cons_succ, List.set_cons_zero]))
            | ((with_reducible refine s_ 3 ?_); go_must (refine wl_box (dst := some 3) (cs := kc root) _ _ _ rfl rfl HM ?_; clear HM; intro b3 W HM))
            | ((with_reducible refine s_ 5 ?_); go_must (refine wl_box (dst := some 5) (cs := #[.int .i64 lo.1, .int .i64 lo.2, .int .i64 hi.1, .int .i64 hi.2, .int .i64 _, .int .i64 _, v1, .int .i64 _, .int .i64 _, v2]) _ _ _ rfl rfl HM ?_; clear HM; intro b5 W HM))
            | ((with_reducible refine s_ 17 ?_); go_must (refine wl_load_sub (dst := some 17) (cs' := #[.int .i64 lo.1, .int .i64 lo.2]) _ _ _ _ _ _ _ _ rfl HM m0 Try.underlying79 rfl sz79 (by rfl) (by simp [kc_size]) ?_))
            | ((with_reducible refine s_ 22 ?_); go_must (refine wl_load_sub (dst := some 22) (cs' := #[.int .i64 hi.1, .int .i64 hi.2]) _ _ _ _ _ _ _ _ rfl HM m0 Try.underlying79 rfl sz79 (by rfl) (by simp [kc_size]) ?_))
            | ((with_reducible refine s_ 28 ?_); go_must (refine wl_load_sub (dst := some 28) (cs' := #[.int .i64 _, .int .i64 _, v1]) _ _ _ _ _ _ _ _ rfl HM m0 Try.underlying52 rfl sz52 (by rfl) (by simp [kc_size]) ?_))
            | ((with_reducible refine s_ 34 ?_); go_must (refine wl_load_sub (dst := some 34) (cs' := #[.int .i64 _, .int .i64 _, v2]) _ _ _ _ _ _ _ _ rfl HM m0 Try.underlying52 rfl sz52 (by rfl) (by simp [kc_size]) ?_))
            | ((with_reducible refine ld_ 3 ?_); go_must (refine wl_load_cell _ _ _ _ _ _ _ _ rfl HM (by repeat first | exact List.mem_cons_self .. | refine List.mem_cons_of_mem _ ?_) (by rfl) Try.underlying3 rfl ?_))
            | (go_at_call 90; go_must (((with_reducible refine (isEntry_c _ _).mono ?_)); rintro e W ⟨rfl, HM'⟩; replace HM := HM.keep HM'.below; clear HM'))
            | (go_at_call 75; go_must ((first | (with_reducible refine (fits_c _ _ v1 p _ (hR1.mem HM)).mono ?_) | (with_reducible refine (fits_c _ _ v2 q _ (hR2.mem HM)).mono ?_)); rintro e W ⟨rfl, HM'⟩; replace HM := HM.keep HM'.below; clear HM')))
          replace HM := HM.drew
          refine wp_region_mixN (fun W => Held w W [.blk b5 #[.int .i64 lo.1, .int .i64 lo.2, .int .i64 hi.1, .int .i64 hi.2, .int .i64 (a : Int), .int .i64 (b : Int), v1, .int .i64 (a' : Int), .int .i64 (b' : Int), v2] 81, .blk b3 (kc root) 23]) (fun W => Held w W [.blk b5 #[.int .i64 lo.1, .int .i64 lo.2, .int .i64 hi.1, .int .i64 hi.2, .int .i64 (a : Int), .int .i64 (b : Int), v1, .int .i64 (a' : Int), .int .i64 (b' : Int), v2] 81, .blk b3 (kc root) 23]) (.cons (2, 0) (.cons (2, 1) (.cons (2, 2) (.cons (2, 3) (.cons (2, 4) (.cons (2, 5) (.cons (2, 6) (.cons (2, 7) (.cons (2, 9) (.cons (2, 10) (.cons (0, 8) (.cons (0, 11) (.cons (2, 12) (.cons (2, 13) (.cons (2, 14) (.cons (2, 15) (.cons (2, 16) (.cons (2, 18) (.cons (2, 19) (.cons (0, 17) (.cons (0, 20) (.cons (2, 21) (.cons (2, 22) (.cons (2, 23) .nil)))))))))))))))))))))))) [] (by kernel_rfl) (by kernel_rfl) (by kernel_rfl) (fun W h => Held.weak h (by simp)) (HM.held (by simp)) ?_
          revert HM; generalize World.drew _ = W; intro HM
          have HS1 : Held w W [.blk b5 #[.int .i64 lo.1, .int .i64 lo.2, .int .i64 hi.1, .int .i64 hi.2, .int .i64 (a : Int), .int .i64 (b : Int), v1, .int .i64 (a' : Int), .int .i64 (b' : Int), v2] 81, .blk b3 (kc root) 23] := HM.held (by simp)
          have HS2 : Held w W [.blk b5 #[.int .i64 lo.1, .int .i64 lo.2, .int .i64 hi.1, .int .i64 hi.2, .int .i64 (a : Int), .int .i64 (b : Int), v1, .int .i64 (a' : Int), .int .i64 (b' : Int), v2] 81, .blk b3 (kc root) 23] := HM.held (by simp)
          refine wm_q2 (i := 0) (some 67) rfl rfl rfl HS2 (fun W HS => by (go_simp; try with_reducible rfl)) ?_
          simp only [Act.put, List.getElem_toArray, List.getElem_cons_succ, List.getElem_cons_zero, List.setIfInBounds_toArray, List.set_cons_succ, List.set_cons_zero]
          refine wm_q2 (i := 1) (some 68) rfl rfl rfl HS2 (fun W HS => by (go_simp; try with_reducible rfl)) ?_
          simp only [Act.put, List.getElem_toArray, List.getElem_cons_succ, List.getElem_cons_zero, List.setIfInBounds_toArray, List.set_cons_succ, List.set_cons_zero]
          (first | (refine wm_s2 (i := 2) (some 69) rfl rfl (by rfl) HS2 ?_) | (refine wm_g2 (i := 2) (some 69) rfl rfl (by rfl) HS2 (fun W HS => by (go_simp; try with_reducible rfl)) ?_))
          simp only [Act.put, List.getElem_toArray, List.getElem_cons_succ, List.getElem_cons_zero, List.setIfInBounds_toArray, List.set_cons_succ, List.set_cons_zero]
          refine wm_q2 (i := 3) (some 70) rfl rfl rfl HS2 (fun W HS => by (go_simp; try with_reducible rfl)) ?_
          simp only [Act.put, List.getElem_toArray, List.getElem_cons_succ, List.getElem_cons_zero, List.setIfInBounds_toArray, List.set_cons_succ, List.set_cons_zero]
          refine wm_q2 (i := 4) (some 71) rfl rfl rfl HS2 (fun W HS => by (go_simp; try with_reducible rfl)) ?_
          simp only [Act.put, List.getElem_toArray, List.getElem_cons_succ, List.getElem_cons_zero, List.setIfInBounds_toArray, List.set_cons_succ, List.set_cons_zero]
          ((refine wm_s2 (i := 5) (some 72) rfl rfl (by rfl) HS2 ?_))
          simp only [Act.put, List.getElem_toArray, List.getElem_cons_succ, List.getElem_cons_zero, List.setIfInBounds_toArray, List.set_cons_succ, List.set_cons_zero]
          ((refine wm_s2 (i := 6) (some 73) rfl rfl (by rfl) HS2 ?_))
          simp only [Act.put, List.getElem_toArray, List.getElem_cons_succ, List.getElem_cons_zero, List.setIfInBounds_toArray, List.set_cons_succ, List.set_cons_zero]
          ((refine wm_s2 (i := 7) (some 74) rfl rfl (by rfl) HS2 ?_))
          simp only [Act.put, List.getElem_toArray, List.getElem_cons_succ, List.getElem_cons_zero, List.setIfInBounds_toArray, List.set_cons_succ, List.set_cons_zero]
          ((refine wm_s2 (i := 9) (some 76) rfl rfl (by rfl) HS2 ?_))
          simp only [Act.put, List.getElem_toArray, List.getElem_cons_succ, List.getElem_cons_zero, List.setIfInBounds_toArray, List.set_cons_succ, List.set_cons_zero]
          ((refine wm_s2 (i := 10) (some 77) rfl rfl (by rfl) HS2 ?_))
          simp only [Act.put, List.getElem_toArray, List.getElem_cons_succ, List.getElem_cons_zero, List.setIfInBounds_toArray, List.set_cons_succ, List.set_cons_zero]
          ((refine wm_es0 (i := 8) (some 75) rfl rfl (by rfl) HS1 ?_; simp only [Act.put, List.getElem_toArray, List.getElem_cons_succ, List.getElem_cons_zero, List.setIfInBounds_toArray, List.set_cons_succ, List.set_cons_zero]))
          ((refine wm_es0 (i := 11) (some 78) rfl rfl (by rfl) HS1 ?_; simp only [Act.put, List.getElem_toArray, List.getElem_cons_succ, List.getElem_cons_zero, List.setIfInBounds_toArray, List.set_cons_succ, List.set_cons_zero]))
          refine wm_q2 (i := 12) (some 79) rfl rfl rfl HS2 (fun W HS => by (go_simp; try with_reducible rfl)) ?_
          simp only [Act.put, List.getElem_toArray, List.getElem_cons_succ, List.getElem_cons_zero, List.setIfInBounds_toArray, List.set_cons_succ, List.set_cons_zero]
          refine wm_q2 (i := 13) (some 80) rfl rfl rfl HS2 (fun W HS => by (go_simp; try with_reducible rfl)) ?_
          simp only [Act.put, List.getElem_toArray, List.getElem_cons_succ, List.getElem_cons_zero, List.setIfInBounds_toArray, List.set_cons_succ, List.set_cons_zero]
          ((refine wm_s2 (i := 14) (some 81) rfl rfl (by rfl) HS2 ?_))
          simp only [Act.put, List.getElem_toArray, List.getElem_cons_succ, List.getElem_cons_zero, List.setIfInBounds_toArray, List.set_cons_succ, List.set_cons_zero]
          ((refine wm_s2 (i := 15) (some 82) rfl rfl (by rfl) HS2 ?_))
          simp only [Act.put, List.getElem_toArray, List.getElem_cons_succ, List.getElem_cons_zero, List.setIfInBounds_toArray, List.set_cons_succ, List.set_cons_zero]
          ((refine wm_s2 (i := 16) (some 83) rfl rfl (by rfl) HS2 ?_))
          simp only [Act.put, List.getElem_toArray, List.getElem_cons_succ, List.getElem_cons_zero, List.setIfInBounds_toArray, List.set_cons_succ, List.set_cons_zero]
          ((refine wm_s2 (i := 18) (some 85) rfl rfl (by rfl) HS2 ?_))
          simp only [Act.put, List.getElem_toArray, List.getElem_cons_succ, List.getElem_cons_zero, List.setIfInBounds_toArray, List.set_cons_succ, List.set_cons_zero]
          ((refine wm_s2 (i := 19) (some 86) rfl rfl (by rfl) HS2 ?_))
          simp only [Act.put, List.getElem_toArray, List.getElem_cons_succ, List.getElem_cons_zero, List.setIfInBounds_toArray, List.set_cons_succ, List.set_cons_zero]
          ((refine wm_es0 (i := 17) (some 84) rfl rfl (by rfl) HS1 ?_; simp only [Act.put, List.getElem_toArray, List.getElem_cons_succ, List.getElem_cons_zero, List.setIfInBounds_toArray, List.set_cons_succ, List.set_cons_zero]))
          ((refine wm_es0 (i := 20) (some 87) rfl rfl (by rfl) HS1 ?_; simp only [Act.put, List.getElem_toArray, List.getElem_cons_succ, List.getElem_cons_zero, List.setIfInBounds_toArray, List.set_cons_succ, List.set_cons_zero]))
          refine wm_q2 (i := 21) (some 88) rfl rfl rfl HS2 (fun W HS => by (go_simp; try with_reducible rfl)) ?_
          simp only [Act.put, List.getElem_toArray, List.getElem_cons_succ, List.getElem_cons_zero, List.setIfInBounds_toArray, List.set_cons_succ, List.set_cons_zero]
          refine wm_q2 (i := 22) (some 6) rfl rfl rfl HS2 (fun W HS => by (go_simp; try with_reducible rfl)) ?_
          simp only [Act.put, List.getElem_toArray, List.getElem_cons_succ, List.getElem_cons_zero, List.setIfInBounds_toArray, List.set_cons_succ, List.set_cons_zero]
          refine wm_q2 (i := 23) (some 7) rfl rfl rfl HS2 (fun W HS => by (go_simp; try with_reducible rfl)) ?_
          simp only [Act.put, List.getElem_toArray, List.getElem_cons_succ, List.getElem_cons_zero, List.setIfInBounds_toArray, List.set_cons_succ, List.set_cons_zero]
          refine wm_nilN ?_
          clear HS1 HS2
          go_wp2_with (fail)
          refine ret2 rfl (res_tmp rfl) (res_tmp rfl) rfl ?_
          exact ⟨rfl, HM.base⟩
    all_goals
      have he : voE lo hi n i p m j q u = 8 := by rw [voE, if_pos hu, if_neg (by rw [hk]; decide)]
      have hr : voR root lo hi n i p m j q u = false := by rw [voR, if_neg (by rw [he]; decide)]
      rw [he, hr]
      clear he hr hk hu
      go_enter Try.func39, Try.ntmps39
      go_wp2_with (first
        | ((with_reducible refine gd_ _ ?_); refine wl_gg _ rfl rfl ?_; first | (with_reducible refine gp_y ?_) | ((first | (with_reducible refine gp_ft ?_) | (with_reducible refine gp_tf ?_)); simp only [Act.put, List.getElem_toArray, List.getElem_cons_succ, List.getElem_cons_zero, List.setIfInBounds_toArray, List.set_cons_succ, List.set_cons_zero]))
        | ((with_reducible refine s_ 3 ?_); go_must (refine wl_box (dst := some 3) (cs := kc root) _ _ _ rfl rfl HM ?_; clear HM; intro b3 W HM))
        | ((with_reducible refine s_ 5 ?_); go_must (refine wl_box (dst := some 5) (cs := #[.int .i64 lo.1, .int .i64 lo.2, .int .i64 hi.1, .int .i64 hi.2, .int .i64 n, .int .i64 i, v1, .int .i64 m, .int .i64 j, v2]) _ _ _ rfl rfl HM ?_; clear HM; intro b5 W HM))
        | ((with_reducible refine s_ 17 ?_); go_must (refine wl_load_sub (dst := some 17) (cs' := #[.int .i64 lo.1, .int .i64 lo.2]) _ _ _ _ _ _ _ _ rfl HM m0 Try.underlying79 rfl sz79 (by rfl) (by simp [kc_size]) ?_))
        | ((with_reducible refine s_ 22 ?_); go_must (refine wl_load_sub (dst := some 22) (cs' := #[.int .i64 hi.1, .int .i64 hi.2]) _ _ _ _ _ _ _ _ rfl HM m0 Try.underlying79 rfl sz79 (by rfl) (by simp [kc_size]) ?_))
        | ((with_reducible refine s_ 28 ?_); go_must (refine wl_load_sub (dst := some 28) (cs' := #[.int .i64 n, .int .i64 i, v1]) _ _ _ _ _ _ _ _ rfl HM m0 Try.underlying52 rfl sz52 (by rfl) (by simp [kc_size]) ?_))
        | ((with_reducible refine s_ 34 ?_); go_must (refine wl_load_sub (dst := some 34) (cs' := #[.int .i64 m, .int .i64 j, v2]) _ _ _ _ _ _ _ _ rfl HM m0 Try.underlying52 rfl sz52 (by rfl) (by simp [kc_size]) ?_))
        | (go_at_call 90; go_must (((with_reducible refine (isEntry_c _ _).mono ?_)); rintro e W ⟨rfl, HM'⟩; replace HM := HM.keep HM'.below; clear HM'))
        | (go_at_call 75; go_must ((first | (with_reducible refine (fits_c _ _ v1 p _ (hR1.mem HM)).mono ?_) | (with_reducible refine (fits_c _ _ v2 q _ (hR2.mem HM)).mono ?_)); rintro e W ⟨rfl, HM'⟩; replace HM := HM.keep HM'.below; clear HM')))
      refine ret2 rfl (res_tmp rfl) (res_tmp rfl) rfl ?_
      exact ⟨rfl, HM.base⟩
  · have he : voE lo hi n i p m j q u = 2 := by rw [voE, if_neg hu]
    have hr : voR root lo hi n i p m j q u = false := by rw [voR, if_neg (by rw [he]; decide)]
    rw [he, hr]
    clear he hr
    by_cases hu0 : u < 0
    all_goals
      (try have hu1 : 64 ≤ u := by omega)
      clear hu
      go_enter Try.func39, Try.ntmps39
      go_wp2_with (first
        | ((with_reducible refine gd_ _ ?_); refine wl_gg _ rfl rfl ?_; first | (with_reducible refine gp_y ?_) | ((first | (with_reducible refine gp_ft ?_) | (with_reducible refine gp_tf ?_)); simp only [Act.put, List.getElem_toArray, List.getElem_cons_succ, List.getElem_cons_zero, List.setIfInBounds_toArray, List.set_cons_succ, List.set_cons_zero]))
        | ((with_reducible refine s_ 3 ?_); go_must (refine wl_box (dst := some 3) (cs := kc root) _ _ _ rfl rfl HM ?_; clear HM; intro b3 W HM))
        | ((with_reducible refine s_ 5 ?_); go_must (refine wl_box (dst := some 5) (cs := #[.int .i64 lo.1, .int .i64 lo.2, .int .i64 hi.1, .int .i64 hi.2, .int .i64 n, .int .i64 i, v1, .int .i64 m, .int .i64 j, v2]) _ _ _ rfl rfl HM ?_; clear HM; intro b5 W HM)))
      refine ret2 rfl (res_tmp rfl) (res_tmp rfl) rfl ?_
      exact ⟨rfl, HM.base⟩
end
end
section
set_option linter.unusedVariables false
set_option linter.unusedSimpArgs false
set_option maxRecDepth 8000
open Go.RowKit
section
attribute [local irreducible] rowT wpList
attribute [local go_sem] keyEqI
set_option maxHeartbeats 6400000 in
theorem rVerifyOff_c (root : Key) (u : Int) (lo hi : Ent) (n i : Int) (v1 : Value) (p : List Key) (m j : Int) (v2 : Value) (q : List Key) (w : World) (hR1 : RdL encK 16 w v1 p) (hR2 : RdL encK 16 w v2 q) :
    Calls Try.prog 40 #[.agg (kc root), .int .i64 u, absV lo hi n i v1 m j v2] w fun e w' => e = .returned (.tuple #[.bool (voR root lo hi n i p m j q u), .int .i64 (voE lo hi n i p m j q u)]) ∧ Mem w w' [] := by
  have HM := Mem.start w
  have hv1 := rd_one hR1
  have hv2 := rd_one hR2
  by_cases hu : 0 ≤ u ∧ u < 64
  · have hu0 : ¬ u < 0 := by omega
    have hu1 : ¬ 64 ≤ u := by omega
    rcases vk_ways lo hi n i p m j q with ⟨k1, hk⟩ | ⟨k1, k2, hk⟩ | ⟨k1, k2, k3, hk⟩ | ⟨k1, k2, k3, k4, hk⟩ | ⟨k1, k2, k3, k4, hk⟩
    rotate_right 1
    · obtain ⟨a, b, rfl, rfl, g1, g2, g3, g4⟩ := fitB_is k3
      obtain ⟨a', b', rfl, rfl, f1, f2, f3, f4⟩ := fitB_is k4
      have he : voE lo hi a b p a' b' q u = 0 := by rw [voE, if_pos hu, if_pos hk]
      have hr : voR root lo hi a b p a' b' q u = voB root lo hi a b p a' b' q u := by rw [voR, if_pos he]
      rw [he, hr]
      clear he hr hk hu
      have hw : IntKind.i64.wrap ((b : Int) + 1) = (b : Int) + 1 := by rw [IntKind.wrap_i64]; omega
      by_cases hN : a' = a
      · obtain rfl := hN
        by_cases hM : b' = b + 1
        · obtain rfl := hM
          have k4' : fitB (a' : Int) ((b : Int) + 1) q.length = true := k4
          rcases vo_ways root lo hi a' b p a' (b + 1) q u with ⟨n1, n2, n3, c1, hk⟩ | ⟨n1, n2, n3, c1, c2, hk⟩ | ⟨n1, n2, n3, c1, c2, hk⟩ | ⟨n1, n2, n3, c1, hk⟩ | ⟨n1, n2, n3, c1, c2, hk⟩ | ⟨n1, n2, n3, c1, c2, hk⟩ | ⟨n1, n2, c1, hk⟩ | ⟨n1, n2, c1, c2, hk⟩ | ⟨n1, n2, c1, c2, c5, hk⟩ | ⟨n1, n2, c1, c2, c5, c6, hk⟩ | ⟨n1, n2, c1, c2, c5, c6, hk⟩
          all_goals first | (exfalso; omega) | skip
          all_goals
            (try clear n1)
            rw [hk]
            clear hk
            go_enter Try.func40, Try.ntmps40
            go_wp2_with (first
              | ((with_reducible refine gd_ _ ?_); refine wl_gg _ rfl rfl ?_; first | (with_reducible refine gp_y ?_) | ((first | (with_reducible refine gp_ft ?_) | (with_reducible refine gp_tf ?_)); simp only [Act.put, List.getElem_toArray, List.getElem_cons_succ, List.getElem_cons_zero, List.setIfInBounds_toArray, List.set_cons_succ, List.set_cons_zero]))
              | ((with_reducible refine s_ 3 ?_); go_must (refine wl_box (dst := some 3) (cs := kc root) _ _ _ rfl rfl HM ?_; clear HM; intro b3 W HM))
              | ((with_reducible refine s_ 5 ?_); go_must (refine wl_box (dst := some 5) (cs := #[.int .i64 lo.1, .int .i64 lo.2, .int .i64 hi.1, .int .i64 hi.2, .int .i64 _, .int .i64 _, v1, .int .i64 _, .int .i64 _, v2]) _ _ _ rfl rfl HM ?_; clear HM; intro b5 W HM))
              | ((with_reducible refine s_ 16 ?_); go_must (refine wl_load_sub (dst := some 16) (cs' := #[.int .i64 lo.1, .int .i64 lo.2]) _ _ _ _ _ _ _ _ rfl HM m0 Try.underlying79 rfl sz79 (by rfl) (by simp [kc_size]) ?_))
              | ((with_reducible refine s_ 21 ?_); go_must (refine wl_load_sub (dst := some 21) (cs' := #[.int .i64 hi.1, .int .i64 hi.2]) _ _ _ _ _ _ _ _ rfl HM m0 Try.underlying79 rfl sz79 (by rfl) (by simp [kc_size]) ?_))
              | ((with_reducible refine s_ 27 ?_); go_must (refine wl_load_sub (dst := some 27) (cs' := #[.int .i64 _, .int .i64 _, v1]) _ _ _ _ _ _ _ _ rfl HM m0 Try.underlying52 rfl sz52 (by rfl) (by simp [kc_size]) ?_))
              | ((with_reducible refine s_ 33 ?_); go_must (refine wl_load_sub (dst := some 33) (cs' := #[.int .i64 _, .int .i64 _, v2]) _ _ _ _ _ _ _ _ rfl HM m0 Try.underlying52 rfl sz52 (by rfl) (by simp [kc_size]) ?_))
              | ((with_reducible refine ld_ 3 ?_); go_must (refine wl_load_cell _ _ _ _ _ _ _ _ rfl HM (by repeat first | exact List.mem_cons_self .. | refine List.mem_cons_of_mem _ ?_) (by rfl) Try.underlying3 rfl ?_))
              | (go_at_call 92; go_must (((with_reducible refine (rIsEntry_c _ _).mono ?_)); rintro e W ⟨rfl, HM'⟩; replace HM := HM.keep HM'.below; clear HM'))
              | (go_at_call 77; go_must ((first | (with_reducible refine (rFits_c _ _ v1 p _ (hR1.mem HM)).mono ?_) | (with_reducible refine (rFits_c _ _ v2 q _ (hR2.mem HM)).mono ?_)); rintro e W ⟨rfl, HM'⟩; replace HM := HM.keep HM'.below; clear HM')))
            replace HM := HM.drew
            refine wp_region_mixN (fun W => Held w W [.blk b5 #[.int .i64 lo.1, .int .i64 lo.2, .int .i64 hi.1, .int .i64 hi.2, .int .i64 (a' : Int), .int .i64 (b : Int), v1, .int .i64 (a' : Int), .int .i64 ((b : Int) + 1 : Int), v2] 81, .blk b3 (kc root) 23]) (fun W => Held w W [.blk b5 #[.int .i64 lo.1, .int .i64 lo.2, .int .i64 hi.1, .int .i64 hi.2, .int .i64 (a' : Int), .int .i64 (b : Int), v1, .int .i64 (a' : Int), .int .i64 ((b : Int) + 1 : Int), v2] 81, .blk b3 (kc root) 23]) (.cons (2, 0) (.cons (2, 1) (.cons (2, 2) (.cons (2, 3) (.cons (2, 5) (.cons (2, 6) (.cons (2, 8) (.cons (0, 4) (.cons (0, 7) (.cons (2, 9) (.cons (2, 10) (.cons (2, 11) (.cons (2, 12) (.cons (2, 13) (.cons (2, 15) (.cons (2, 16) (.cons (2, 18) (.cons (0, 14) (.cons (0, 17) (.cons (2, 19) (.cons (2, 20) (.cons (2, 21) (.cons (2, 22) .nil))))))))))))))))))))))) [] (by kernel_rfl) (by kernel_rfl) (by kernel_rfl) (fun W h => Held.weak h (by simp)) (HM.held (by simp)) ?_
            revert HM; generalize World.drew _ = W; intro HM
            have HS1 : Held w W [.blk b5 #[.int .i64 lo.1, .int .i64 lo.2, .int .i64 hi.1, .int .i64 hi.2, .int .i64 (a' : Int), .int .i64 (b : Int), v1, .int .i64 (a' : Int), .int .i64 ((b : Int) + 1 : Int), v2] 81, .blk b3 (kc root) 23] := HM.held (by simp)
            have HS2 : Held w W [.blk b5 #[.int .i64 lo.1, .int .i64 lo.2, .int .i64 hi.1, .int .i64 hi.2, .int .i64 (a' : Int), .int .i64 (b : Int), v1, .int .i64 (a' : Int), .int .i64 ((b : Int) + 1 : Int), v2] 81, .blk b3 (kc root) 23] := HM.held (by simp)
            refine wm_q2 (i := 0) (some 68) rfl rfl rfl HS2 (fun W HS => by (go_simp; try with_reducible rfl)) ?_
            simp only [Act.put, List.getElem_toArray, List.getElem_cons_succ, List.getElem_cons_zero, List.setIfInBounds_toArray, List.set_cons_succ, List.set_cons_zero]
            refine wm_q2 (i := 1) (some 69) rfl rfl rfl HS2 (fun W HS => by (go_simp; try with_reducible rfl)) ?_
            simp only [Act.put, List.getElem_toArray, List.getElem_cons_succ, List.getElem_cons_zero, List.setIfInBounds_toArray, List.set_cons_succ, List.set_cons_zero]
            (first | (refine wm_s2 (i := 2) (some 70) rfl rfl (by rfl) HS2 ?_) | (refine wm_g2 (i := 2) (some 70) rfl rfl (by rfl) HS2 (fun W HS => by (go_simp; try with_reducible rfl)) ?_))
            simp only [Act.put, List.getElem_toArray, List.getElem_cons_succ, List.getElem_cons_zero, List.setIfInBounds_toArray, List.set_cons_succ, List.set_cons_zero]
            (first | (refine wm_s2 (i := 3) (some 71) rfl rfl (by rfl) HS2 ?_) | (refine wm_g2 (i := 3) (some 71) rfl rfl (by rfl) HS2 (fun W HS => (by exact ry_load_sub _ _ _ _ _ _ (#[.int .i64 lo.1, .int .i64 lo.2]) _ _ HS (by rfl) m0 Try.underlying79 rfl sz79 (by rfl) (by simp [kc_size]))) ?_))
            simp only [Act.put, List.getElem_toArray, List.getElem_cons_succ, List.getElem_cons_zero, List.setIfInBounds_toArray, List.set_cons_succ, List.set_cons_zero]
            (first | (refine wm_s2 (i := 5) (some 73) rfl rfl (by rfl) HS2 ?_) | (refine wm_g2 (i := 5) (some 73) rfl rfl (by rfl) HS2 (fun W HS => by (go_simp; try with_reducible rfl)) ?_))
            simp only [Act.put, List.getElem_toArray, List.getElem_cons_succ, List.getElem_cons_zero, List.setIfInBounds_toArray, List.set_cons_succ, List.set_cons_zero]
            (first | (refine wm_s2 (i := 6) (some 74) rfl rfl (by rfl) HS2 ?_) | (refine wm_g2 (i := 6) (some 74) rfl rfl (by rfl) HS2 (fun W HS => (by exact ry_load_sub _ _ _ _ _ _ (#[.int .i64 (a' : Int), .int .i64 (b : Int), v1]) _ _ HS (by rfl) m0 Try.underlying52 rfl sz52 (by rfl) (by simp [kc_size]))) ?_))
            simp only [Act.put, List.getElem_toArray, List.getElem_cons_succ, List.getElem_cons_zero, List.setIfInBounds_toArray, List.set_cons_succ, List.set_cons_zero]
            (first | (refine wm_s2 (i := 8) (some 76) rfl rfl (by rfl) HS2 ?_) | (refine wm_g2 (i := 8) (some 76) rfl rfl (by rfl) HS2 (fun W HS => (by ((refine ry_load_blk _ _ _ _ _ _ HS ?_ m1 Try.underlying23 rfl (by rw [kc_size]; exact sz23); rfl)))) ?_))
            simp only [Act.put, List.getElem_toArray, List.getElem_cons_succ, List.getElem_cons_zero, List.setIfInBounds_toArray, List.set_cons_succ, List.set_cons_zero]
            (first | (refine wm_es0 (i := 4) (some 72) rfl rfl (by rfl) HS1 ?_; simp only [Act.put, List.getElem_toArray, List.getElem_cons_succ, List.getElem_cons_zero, List.setIfInBounds_toArray, List.set_cons_succ, List.set_cons_zero]) | (refine wm_e0 (i := 4) rfl ?_; go_wp2_with (first | ((with_reducible refine gd_ _ ?_); refine wl_gg _ rfl rfl ?_; first | (with_reducible refine gp_y ?_) | ((first | (with_reducible refine gp_ft ?_) | (with_reducible refine gp_tf ?_)); simp only [Act.put, List.getElem_toArray, List.getElem_cons_succ, List.getElem_cons_zero, List.setIfInBounds_toArray, List.set_cons_succ, List.set_cons_zero])) | (go_at_call 93; go_must (((with_reducible refine (rleaf_c lo k1 _).mono ?_)); rintro e W ⟨rfl, HM'⟩; replace HM := HM.keep HM'.below; clear HM'))); refine ⟨HM.held (by simp), ?_⟩; clear HS1 HS2; have HS1 : Held w W [.blk b5 #[.int .i64 lo.1, .int .i64 lo.2, .int .i64 hi.1, .int .i64 hi.2, .int .i64 (a' : Int), .int .i64 (b : Int), v1, .int .i64 (a' : Int), .int .i64 ((b : Int) + 1 : Int), v2] 81, .blk b3 (kc root) 23] := HM.held (by simp); have HS2 : Held w W [.blk b5 #[.int .i64 lo.1, .int .i64 lo.2, .int .i64 hi.1, .int .i64 hi.2, .int .i64 (a' : Int), .int .i64 (b : Int), v1, .int .i64 (a' : Int), .int .i64 ((b : Int) + 1 : Int), v2] 81, .blk b3 (kc root) 23] := HM.held (by simp)))
            (first | (refine wm_es0 (i := 7) (some 75) rfl rfl (by rfl) HS1 ?_; simp only [Act.put, List.getElem_toArray, List.getElem_cons_succ, List.getElem_cons_zero, List.setIfInBounds_toArray, List.set_cons_succ, List.set_cons_zero]) | (refine wm_e0 (i := 7) rfl ?_; go_wp2_with (first | ((with_reducible refine gd_ _ ?_); refine wl_gg _ rfl rfl ?_; first | (with_reducible refine gp_y ?_) | ((first | (with_reducible refine gp_ft ?_) | (with_reducible refine gp_tf ?_)); simp only [Act.put, List.getElem_toArray, List.getElem_cons_succ, List.getElem_cons_zero, List.setIfInBounds_toArray, List.set_cons_succ, List.set_cons_zero])) | (go_at_call 78; go_must (((with_reducible refine (rGives_c (leafE lo) a' b v1 p _ (hR1.mem HM) g1 g2 g3 g4.eq).mono ?_)); rintro e W ⟨rfl, HM'⟩; replace HM := HM.keep HM'.below; clear HM'))); refine ⟨HM.held (by simp), ?_⟩; clear HS1 HS2; have HS1 : Held w W [.blk b5 #[.int .i64 lo.1, .int .i64 lo.2, .int .i64 hi.1, .int .i64 hi.2, .int .i64 (a' : Int), .int .i64 (b : Int), v1, .int .i64 (a' : Int), .int .i64 ((b : Int) + 1 : Int), v2] 81, .blk b3 (kc root) 23] := HM.held (by simp); have HS2 : Held w W [.blk b5 #[.int .i64 lo.1, .int .i64 lo.2, .int .i64 hi.1, .int .i64 hi.2, .int .i64 (a' : Int), .int .i64 (b : Int), v1, .int .i64 (a' : Int), .int .i64 ((b : Int) + 1 : Int), v2] 81, .blk b3 (kc root) 23] := HM.held (by simp)))
            (first | (refine wm_s2 (i := 9) (some 77) rfl rfl (by rfl) HS2 ?_) | (refine wm_g2 (i := 9) (some 77) rfl rfl (by rfl) HS2 (fun W HS => by (go_simp; try with_reducible rfl)) ?_))
            simp only [Act.put, List.getElem_toArray, List.getElem_cons_succ, List.getElem_cons_zero, List.setIfInBounds_toArray, List.set_cons_succ, List.set_cons_zero]
            refine wm_q2 (i := 10) (some 78) rfl rfl rfl HS2 (fun W HS => by (go_simp; try with_reducible rfl)) ?_
            simp only [Act.put, List.getElem_toArray, List.getElem_cons_succ, List.getElem_cons_zero, List.setIfInBounds_toArray, List.set_cons_succ, List.set_cons_zero]
            refine wm_q2 (i := 11) (some 79) rfl rfl rfl HS2 (fun W HS => by (go_simp; try with_reducible rfl)) ?_
            simp only [Act.put, List.getElem_toArray, List.getElem_cons_succ, List.getElem_cons_zero, List.setIfInBounds_toArray, List.set_cons_succ, List.set_cons_zero]
            (first | (refine wm_s2 (i := 12) (some 80) rfl rfl (by rfl) HS2 ?_) | (refine wm_g2 (i := 12) (some 80) rfl rfl (by rfl) HS2 (fun W HS => by (go_simp; try with_reducible rfl)) ?_))
            simp only [Act.put, List.getElem_toArray, List.getElem_cons_succ, List.getElem_cons_zero, List.setIfInBounds_toArray, List.set_cons_succ, List.set_cons_zero]
            (first | (refine wm_s2 (i := 13) (some 81) rfl rfl (by rfl) HS2 ?_) | (refine wm_g2 (i := 13) (some 81) rfl rfl (by rfl) HS2 (fun W HS => (by exact ry_load_sub _ _ _ _ _ _ (#[.int .i64 hi.1, .int .i64 hi.2]) _ _ HS (by rfl) m0 Try.underlying79 rfl sz79 (by rfl) (by simp [kc_size]))) ?_))
            simp only [Act.put, List.getElem_toArray, List.getElem_cons_succ, List.getElem_cons_zero, List.setIfInBounds_toArray, List.set_cons_succ, List.set_cons_zero]
            (first | (refine wm_s2 (i := 15) (some 83) rfl rfl (by rfl) HS2 ?_) | (refine wm_g2 (i := 15) (some 83) rfl rfl (by rfl) HS2 (fun W HS => by (go_simp; try with_reducible rfl)) ?_))
            simp only [Act.put, List.getElem_toArray, List.getElem_cons_succ, List.getElem_cons_zero, List.setIfInBounds_toArray, List.set_cons_succ, List.set_cons_zero]
            (first | (refine wm_s2 (i := 16) (some 84) rfl rfl (by rfl) HS2 ?_) | (refine wm_g2 (i := 16) (some 84) rfl rfl (by rfl) HS2 (fun W HS => (by exact ry_load_sub _ _ _ _ _ _ (#[.int .i64 (a' : Int), .int .i64 ((b : Int) + 1 : Int), v2]) _ _ HS (by rfl) m0 Try.underlying52 rfl sz52 (by rfl) (by simp [kc_size]))) ?_))
            simp only [Act.put, List.getElem_toArray, List.getElem_cons_succ, List.getElem_cons_zero, List.setIfInBounds_toArray, List.set_cons_succ, List.set_cons_zero]
            (first | (refine wm_s2 (i := 18) (some 86) rfl rfl (by rfl) HS2 ?_) | (refine wm_g2 (i := 18) (some 86) rfl rfl (by rfl) HS2 (fun W HS => (by ((refine ry_load_blk _ _ _ _ _ _ HS ?_ m1 Try.underlying23 rfl (by rw [kc_size]; exact sz23); rfl)))) ?_))
            simp only [Act.put, List.getElem_toArray, List.getElem_cons_succ, List.getElem_cons_zero, List.setIfInBounds_toArray, List.set_cons_succ, List.set_cons_zero]
            (first | (refine wm_es0 (i := 14) (some 82) rfl rfl (by rfl) HS1 ?_; simp only [Act.put, List.getElem_toArray, List.getElem_cons_succ, List.getElem_cons_zero, List.setIfInBounds_toArray, List.set_cons_succ, List.set_cons_zero]) | (refine wm_e0 (i := 14) rfl ?_; go_wp2_with (first | ((with_reducible refine gd_ _ ?_); refine wl_gg _ rfl rfl ?_; first | (with_reducible refine gp_y ?_) | ((first | (with_reducible refine gp_ft ?_) | (with_reducible refine gp_tf ?_)); simp only [Act.put, List.getElem_toArray, List.getElem_cons_succ, List.getElem_cons_zero, List.setIfInBounds_toArray, List.set_cons_succ, List.set_cons_zero])) | (go_at_call 93; go_must (((with_reducible refine (rleaf_c hi k2 _).mono ?_)); rintro e W ⟨rfl, HM'⟩; replace HM := HM.keep HM'.below; clear HM'))); refine ⟨HM.held (by simp), ?_⟩; clear HS1 HS2; have HS1 : Held w W [.blk b5 #[.int .i64 lo.1, .int .i64 lo.2, .int .i64 hi.1, .int .i64 hi.2, .int .i64 (a' : Int), .int .i64 (b : Int), v1, .int .i64 (a' : Int), .int .i64 ((b : Int) + 1 : Int), v2] 81, .blk b3 (kc root) 23] := HM.held (by simp); have HS2 : Held w W [.blk b5 #[.int .i64 lo.1, .int .i64 lo.2, .int .i64 hi.1, .int .i64 hi.2, .int .i64 (a' : Int), .int .i64 (b : Int), v1, .int .i64 (a' : Int), .int .i64 ((b : Int) + 1 : Int), v2] 81, .blk b3 (kc root) 23] := HM.held (by simp)))
            (first | (refine wm_es0 (i := 17) (some 85) rfl rfl (by rfl) HS1 ?_; simp only [Act.put, List.getElem_toArray, List.getElem_cons_succ, List.getElem_cons_zero, List.setIfInBounds_toArray, List.set_cons_succ, List.set_cons_zero]) | (refine wm_e0 (i := 17) rfl ?_; go_wp2_with (first | ((with_reducible refine gd_ _ ?_); refine wl_gg _ rfl rfl ?_; first | (with_reducible refine gp_y ?_) | ((first | (with_reducible refine gp_ft ?_) | (with_reducible refine gp_tf ?_)); simp only [Act.put, List.getElem_toArray, List.getElem_cons_succ, List.getElem_cons_zero, List.setIfInBounds_toArray, List.set_cons_succ, List.set_cons_zero])) | (go_at_call 78; go_must (((with_reducible refine (rGives_two (leafE hi) a' b v2 q _ (hR2.mem HM) f1 f2 f3 f4).mono ?_)); rintro e W ⟨rfl, HM'⟩; replace HM := HM.keep HM'.below; clear HM'))); refine ⟨HM.held (by simp), ?_⟩; clear HS1 HS2; have HS1 : Held w W [.blk b5 #[.int .i64 lo.1, .int .i64 lo.2, .int .i64 hi.1, .int .i64 hi.2, .int .i64 (a' : Int), .int .i64 (b : Int), v1, .int .i64 (a' : Int), .int .i64 ((b : Int) + 1 : Int), v2] 81, .blk b3 (kc root) 23] := HM.held (by simp); have HS2 : Held w W [.blk b5 #[.int .i64 lo.1, .int .i64 lo.2, .int .i64 hi.1, .int .i64 hi.2, .int .i64 (a' : Int), .int .i64 (b : Int), v1, .int .i64 (a' : Int), .int .i64 ((b : Int) + 1 : Int), v2] 81, .blk b3 (kc root) 23] := HM.held (by simp)))
            (first | (refine wm_s2 (i := 19) (some 87) rfl rfl (by rfl) HS2 ?_) | (refine wm_g2 (i := 19) (some 87) rfl rfl (by rfl) HS2 (fun W HS => by (go_simp; try with_reducible rfl)) ?_))
            simp only [Act.put, List.getElem_toArray, List.getElem_cons_succ, List.getElem_cons_zero, List.setIfInBounds_toArray, List.set_cons_succ, List.set_cons_zero]
            refine wm_q2 (i := 20) (some 88) rfl rfl rfl HS2 (fun W HS => by (go_simp; try with_reducible rfl)) ?_
            simp only [Act.put, List.getElem_toArray, List.getElem_cons_succ, List.getElem_cons_zero, List.setIfInBounds_toArray, List.set_cons_succ, List.set_cons_zero]
            refine wm_q2 (i := 21) (some 6) rfl rfl rfl HS2 (fun W HS => by (go_simp; try with_reducible rfl)) ?_
            simp only [Act.put, List.getElem_toArray, List.getElem_cons_succ, List.getElem_cons_zero, List.setIfInBounds_toArray, List.set_cons_succ, List.set_cons_zero]
            refine wm_q2 (i := 22) (some 7) rfl rfl rfl HS2 (fun W HS => by (go_simp; try with_reducible rfl)) ?_
            simp only [Act.put, List.getElem_toArray, List.getElem_cons_succ, List.getElem_cons_zero, List.setIfInBounds_toArray, List.set_cons_succ, List.set_cons_zero]
            refine wm_nilN ?_
            clear HS1 HS2
            go_wp2_with (fail)
            refine ret2 rfl (res_tmp rfl) (res_tmp rfl) rfl ?_
            exact ⟨rfl, HM.base⟩
        · rcases vo_ways root lo hi a' b p a' b' q u with ⟨n1, n2, n3, c1, hk⟩ | ⟨n1, n2, n3, c1, c2, hk⟩ | ⟨n1, n2, n3, c1, c2, hk⟩ | ⟨n1, n2, n3, c1, hk⟩ | ⟨n1, n2, n3, c1, c2, hk⟩ | ⟨n1, n2, n3, c1, c2, hk⟩ | ⟨n1, n2, c1, hk⟩ | ⟨n1, n2, c1, c2, hk⟩ | ⟨n1, n2, c1, c2, c5, hk⟩ | ⟨n1, n2, c1, c2, c5, c6, hk⟩ | ⟨n1, n2, c1, c2, c5, c6, hk⟩
          all_goals first | (exfalso; omega) | skip
          all_goals
            (try clear n1)
            rw [hk]
            clear hk
            go_enter Try.func40, Try.ntmps40
            go_wp2_with (first
              | ((with_reducible refine gd_ _ ?_); refine wl_gg _ rfl rfl ?_; first | (with_reducible refine gp_y ?_) | ((first | (with_reducible refine gp_ft ?_) | (with_reducible refine gp_tf ?_)); simp only [Act.put, List.getElem_toArray, List.getElem_cons_succ, List.getElem_cons_zero, List.setIfInBounds_toArray, List.set_cons_succ, List.set_cons_zero]))
              | ((with_reducible refine s_ 3 ?_); go_must (refine wl_box (dst := some 3) (cs := kc root) _ _ _ rfl rfl HM ?_; clear HM; intro b3 W HM))
              | ((with_reducible refine s_ 5 ?_); go_must (refine wl_box (dst := some 5) (cs := #[.int .i64 lo.1, .int .i64 lo.2, .int .i64 hi.1, .int .i64 hi.2, .int .i64 _, .int .i64 _, v1, .int .i64 _, .int .i64 _, v2]) _ _ _ rfl rfl HM ?_; clear HM; intro b5 W HM))
              | ((with_reducible refine s_ 16 ?_); go_must (refine wl_load_sub (dst := some 16) (cs' := #[.int .i64 lo.1, .int .i64 lo.2]) _ _ _ _ _ _ _ _ rfl HM m0 Try.underlying79 rfl sz79 (by rfl) (by simp [kc_size]) ?_))
              | ((with_reducible refine s_ 21 ?_); go_must (refine wl_load_sub (dst := some 21) (cs' := #[.int .i64 hi.1, .int .i64 hi.2]) _ _ _ _ _ _ _ _ rfl HM m0 Try.underlying79 rfl sz79 (by rfl) (by simp [kc_size]) ?_))
              | ((with_reducible refine s_ 27 ?_); go_must (refine wl_load_sub (dst := some 27) (cs' := #[.int .i64 _, .int .i64 _, v1]) _ _ _ _ _ _ _ _ rfl HM m0 Try.underlying52 rfl sz52 (by rfl) (by simp [kc_size]) ?_))
              | ((with_reducible refine s_ 33 ?_); go_must (refine wl_load_sub (dst := some 33) (cs' := #[.int .i64 _, .int .i64 _, v2]) _ _ _ _ _ _ _ _ rfl HM m0 Try.underlying52 rfl sz52 (by rfl) (by simp [kc_size]) ?_))
              | ((with_reducible refine ld_ 3 ?_); go_must (refine wl_load_cell _ _ _ _ _ _ _ _ rfl HM (by repeat first | exact List.mem_cons_self .. | refine List.mem_cons_of_mem _ ?_) (by rfl) Try.underlying3 rfl ?_))
              | (go_at_call 92; go_must (((with_reducible refine (rIsEntry_c _ _).mono ?_)); rintro e W ⟨rfl, HM'⟩; replace HM := HM.keep HM'.below; clear HM'))
              | (go_at_call 77; go_must ((first | (with_reducible refine (rFits_c _ _ v1 p _ (hR1.mem HM)).mono ?_) | (with_reducible refine (rFits_c _ _ v2 q _ (hR2.mem HM)).mono ?_)); rintro e W ⟨rfl, HM'⟩; replace HM := HM.keep HM'.below; clear HM')))
            replace HM := HM.drew
            refine wp_region_mixN (fun W => Held w W [.blk b5 #[.int .i64 lo.1, .int .i64 lo.2, .int .i64 hi.1, .int .i64 hi.2, .int .i64 (a' : Int), .int .i64 (b : Int), v1, .int .i64 (a' : Int), .int .i64 (b' : Int), v2] 81, .blk b3 (kc root) 23]) (fun W => Held w W [.blk b5 #[.int .i64 lo.1, .int .i64 lo.2, .int .i64 hi.1, .int .i64 hi.2, .int .i64 (a' : Int), .int .i64 (b : Int), v1, .int .i64 (a' : Int), .int .i64 (b' : Int), v2] 81, .blk b3 (kc root) 23]) (.cons (2, 0) (.cons (2, 1) (.cons (2, 2) (.cons (2, 3) (.cons (2, 5) (.cons (2, 6) (.cons (2, 8) (.cons (0, 4) (.cons (0, 7) (.cons (2, 9) (.cons (2, 10) (.cons (2, 11) (.cons (2, 12) (.cons (2, 13) (.cons (2, 15) (.cons (2, 16) (.cons (2, 18) (.cons (0, 14) (.cons (0, 17) (.cons (2, 19) (.cons (2, 20) (.cons (2, 21) (.cons (2, 22) .nil))))))))))))))))))))))) [] (by kernel_rfl) (by kernel_rfl) (by kernel_rfl) (fun W h => Held.weak h (by simp)) (HM.held (by simp)) ?_
            revert HM; generalize World.drew _ = W; intro HM
            have HS1 : Held w W [.blk b5 #[.int .i64 lo.1, .int .i64 lo.2, .int .i64 hi.1, .int .i64 hi.2, .int .i64 (a' : Int), .int .i64 (b : Int), v1, .int .i64 (a' : Int), .int .i64 (b' : Int), v2] 81, .blk b3 (kc root) 23] := HM.held (by simp)
            have HS2 : Held w W [.blk b5 #[.int .i64 lo.1, .int .i64 lo.2, .int .i64 hi.1, .int .i64 hi.2, .int .i64 (a' : Int), .int .i64 (b : Int), v1, .int .i64 (a' : Int), .int .i64 (b' : Int), v2] 81, .blk b3 (kc root) 23] := HM.held (by simp)
            refine wm_q2 (i := 0) (some 68) rfl rfl rfl HS2 (fun W HS => by (go_simp; try with_reducible rfl)) ?_
            simp only [Act.put, List.getElem_toArray, List.getElem_cons_succ, List.getElem_cons_zero, List.setIfInBounds_toArray, List.set_cons_succ, List.set_cons_zero]
            refine wm_q2 (i := 1) (some 69) rfl rfl rfl HS2 (fun W HS => by (go_simp; try with_reducible rfl)) ?_
            simp only [Act.put, List.getElem_toArray, List.getElem_cons_succ, List.getElem_cons_zero, List.setIfInBounds_toArray, List.set_cons_succ, List.set_cons_zero]
            ((refine wm_s2 (i := 2) (some 70) rfl rfl (by rfl) HS2 ?_))
            simp only [Act.put, List.getElem_toArray, List.getElem_cons_succ, List.getElem_cons_zero, List.setIfInBounds_toArray, List.set_cons_succ, List.set_cons_zero]
            ((refine wm_s2 (i := 3) (some 71) rfl rfl (by rfl) HS2 ?_))
            simp only [Act.put, List.getElem_toArray, List.getElem_cons_succ, List.getElem_cons_zero, List.setIfInBounds_toArray, List.set_cons_succ, List.set_cons_zero]
            ((refine wm_s2 (i := 5) (some 73) rfl rfl (by rfl) HS2 ?_))
            simp only [Act.put, List.getElem_toArray, List.getElem_cons_succ, List.getElem_cons_zero, List.setIfInBounds_toArray, List.set_cons_succ, List.set_cons_zero]
            ((refine wm_s2 (i := 6) (some 74) rfl rfl (by rfl) HS2 ?_))
            simp only [Act.put, List.getElem_toArray, List.getElem_cons_succ, List.getElem_cons_zero, List.setIfInBounds_toArray, List.set_cons_succ, List.set_cons_zero]
            ((refine wm_s2 (i := 8) (some 76) rfl rfl (by rfl) HS2 ?_))
            simp only [Act.put, List.getElem_toArray, List.getElem_cons_succ, List.getElem_cons_zero, List.setIfInBounds_toArray, List.set_cons_succ, List.set_cons_zero]
            ((refine wm_es0 (i := 4) (some 72) rfl rfl (by rfl) HS1 ?_; simp only [Act.put, List.getElem_toArray, List.getElem_cons_succ, List.getElem_cons_zero, List.setIfInBounds_toArray, List.set_cons_succ, List.set_cons_zero]))
            ((refine wm_es0 (i := 7) (some 75) rfl rfl (by rfl) HS1 ?_; simp only [Act.put, List.getElem_toArray, List.getElem_cons_succ, List.getElem_cons_zero, List.setIfInBounds_toArray, List.set_cons_succ, List.set_cons_zero]))
            ((refine wm_s2 (i := 9) (some 77) rfl rfl (by rfl) HS2 ?_))
            simp only [Act.put, List.getElem_toArray, List.getElem_cons_succ, List.getElem_cons_zero, List.setIfInBounds_toArray, List.set_cons_succ, List.set_cons_zero]
            refine wm_q2 (i := 10) (some 78) rfl rfl rfl HS2 (fun W HS => by (go_simp; try with_reducible rfl)) ?_
            simp only [Act.put, List.getElem_toArray, List.getElem_cons_succ, List.getElem_cons_zero, List.setIfInBounds_toArray, List.set_cons_succ, List.set_cons_zero]
            refine wm_q2 (i := 11) (some 79) rfl rfl rfl HS2 (fun W HS => by (go_simp; try with_reducible rfl)) ?_
            simp only [Act.put, List.getElem_toArray, List.getElem_cons_succ, List.getElem_cons_zero, List.setIfInBounds_toArray, List.set_cons_succ, List.set_cons_zero]
            ((refine wm_s2 (i := 12) (some 80) rfl rfl (by rfl) HS2 ?_))
            simp only [Act.put, List.getElem_toArray, List.getElem_cons_succ, List.getElem_cons_zero, List.setIfInBounds_toArray, List.set_cons_succ, List.set_cons_zero]
            ((refine wm_s2 (i := 13) (some 81) rfl rfl (by rfl) HS2 ?_))
            simp only [Act.put, List.getElem_toArray, List.getElem_cons_succ, List.getElem_cons_zero, List.setIfInBounds_toArray, List.set_cons_succ, List.set_cons_zero]
            ((refine wm_s2 (i := 15) (some 83) rfl rfl (by rfl) HS2 ?_))
            simp only [Act.put, List.getElem_toArray, List.getElem_cons_succ, List.getElem_cons_zero, List.setIfInBounds_toArray, List.set_cons_succ, List.set_cons_zero]
            ((refine wm_s2 (i := 16) (some 84) rfl rfl (by rfl) HS2 ?_))
            simp only [Act.put, List.getElem_toArray, List.getElem_cons_succ, List.getElem_cons_zero, List.setIfInBounds_toArray, List.set_cons_succ, List.set_cons_zero]
            ((refine wm_s2 (i := 18) (some 86) rfl rfl (by rfl) HS2 ?_))
            simp only [Act.put, List.getElem_toArray, List.getElem_cons_succ, List.getElem_cons_zero, List.setIfInBounds_toArray, List.set_cons_succ, List.set_cons_zero]
            ((refine wm_es0 (i := 14) (some 82) rfl rfl (by rfl) HS1 ?_; simp only [Act.put, List.getElem_toArray, List.getElem_cons_succ, List.getElem_cons_zero, List.setIfInBounds_toArray, List.set_cons_succ, List.set_cons_zero]))
            ((refine wm_es0 (i := 17) (some 85) rfl rfl (by rfl) HS1 ?_; simp only [Act.put, List.getElem_toArray, List.getElem_cons_succ, List.getElem_cons_zero, List.setIfInBounds_toArray, List.set_cons_succ, List.set_cons_zero]))
            ((refine wm_s2 (i := 19) (some 87) rfl rfl (by rfl) HS2 ?_))
            simp only [Act.put, List.getElem_toArray, List.getElem_cons_succ, List.getElem_cons_zero, List.setIfInBounds_toArray, List.set_cons_succ, List.set_cons_zero]
            refine wm_q2 (i := 20) (some 88) rfl rfl rfl HS2 (fun W HS => by (go_simp; try with_reducible rfl)) ?_
            simp only [Act.put, List.getElem_toArray, List.getElem_cons_succ, List.getElem_cons_zero, List.setIfInBounds_toArray, List.set_cons_succ, List.set_cons_zero]
            refine wm_q2 (i := 21) (some 6) rfl rfl rfl HS2 (fun W HS => by (go_simp; try with_reducible rfl)) ?_
            simp only [Act.put, List.getElem_toArray, List.getElem_cons_succ, List.getElem_cons_zero, List.setIfInBounds_toArray, List.set_cons_succ, List.set_cons_zero]
            refine wm_q2 (i := 22) (some 7) rfl rfl rfl HS2 (fun W HS => by (go_simp; try with_reducible rfl)) ?_
            simp only [Act.put, List.getElem_toArray, List.getElem_cons_succ, List.getElem_cons_zero, List.setIfInBounds_toArray, List.set_cons_succ, List.set_cons_zero]
            refine wm_nilN ?_
            clear HS1 HS2
            go_wp2_with (fail)
            refine ret2 rfl (res_tmp rfl) (res_tmp rfl) rfl ?_
            exact ⟨rfl, HM.base⟩
      · rcases vo_ways root lo hi a b p a' b' q u with ⟨n1, n2, n3, c1, hk⟩ | ⟨n1, n2, n3, c1, c2, hk⟩ | ⟨n1, n2, n3, c1, c2, hk⟩ | ⟨n1, n2, n3, c1, hk⟩ | ⟨n1, n2, n3, c1, c2, hk⟩ | ⟨n1, n2, n3, c1, c2, hk⟩ | ⟨n1, n2, c1, hk⟩ | ⟨n1, n2, c1, c2, hk⟩ | ⟨n1, n2, c1, c2, c5, hk⟩ | ⟨n1, n2, c1, c2, c5, c6, hk⟩ | ⟨n1, n2, c1, c2, c5, c6, hk⟩
        all_goals first | (exfalso; omega) | skip
        all_goals
          (try clear n1)
          rw [hk]
          clear hk
          go_enter Try.func40, Try.ntmps40
          go_wp2_with (first
            | ((with_reducible refine gd_ _ ?_); refine wl_gg _ rfl rfl ?_; first | (with_reducible refine gp_y ?_) | ((first | (with_reducible refine gp_ft ?_) | (with_reducible refine gp_tf ?_)); simp only [Act.put, List.getElem_toArray, List.getElem_cons_succ, List.getElem_cons_zero, List.setIfInBounds_toArray, List.set_cons_succ, List.set_cons_zero]))
            | ((with_reducible refine s_ 3 ?_); go_must (refine wl_box (dst := some 3) (cs := kc root) _ _ _ rfl rfl HM ?_; clear HM; intro b3 W HM))
            | ((with_reducible refine s_ 5 ?_); go_must (refine wl_box (dst := some 5) (cs := #[.int .i64 lo.1, .int .i64 lo.2, .int .i64 hi.1, .int .i64 hi.2, .int .i64 _, .int .i64 _, v1, .int .i64 _, .int .i64 _, v2]) _ _ _ rfl rfl HM ?_; clear HM; intro b5 W HM))
            | ((with_reducible refine s_ 16 ?_); go_must (refine wl_load_sub (dst := some 16) (cs' := #[.int .i64 lo.1, .int .i64 lo.2]) _ _ _ _ _ _ _ _ rfl HM m0 Try.underlying79 rfl sz79 (by rfl) (by simp [kc_size]) ?_))
            | ((with_reducible refine s_ 21 ?_); go_must (refine wl_load_sub (dst := some 21) (cs' := #[.int .i64 hi.1, .int .i64 hi.2]) _ _ _ _ _ _ _ _ rfl HM m0 Try.underlying79 rfl sz79 (by rfl) (by simp [kc_size]) ?_))
            | ((with_reducible refine s_ 27 ?_); go_must (refine wl_load_sub (dst := some 27) (cs' := #[.int .i64 _, .int .i64 _, v1]) _ _ _ _ _ _ _ _ rfl HM m0 Try.underlying52 rfl sz52 (by rfl) (by simp [kc_size]) ?_))
            | ((with_reducible refine s_ 33 ?_); go_must (refine wl_load_sub (dst := some 33) (cs' := #[.int .i64 _, .int .i64 _, v2]) _ _ _ _ _ _ _ _ rfl HM m0 Try.underlying52 rfl sz52 (by rfl) (by simp [kc_size]) ?_))
            | ((with_reducible refine ld_ 3 ?_); go_must (refine wl_load_cell _ _ _ _ _ _ _ _ rfl HM (by repeat first | exact List.mem_cons_self .. | refine List.mem_cons_of_mem _ ?_) (by rfl) Try.underlying3 rfl ?_))
            | (go_at_call 92; go_must (((with_reducible refine (rIsEntry_c _ _).mono ?_)); rintro e W ⟨rfl, HM'⟩; replace HM := HM.keep HM'.below; clear HM'))
            | (go_at_call 77; go_must ((first | (with_reducible refine (rFits_c _ _ v1 p _ (hR1.mem HM)).mono ?_) | (with_reducible refine (rFits_c _ _ v2 q _ (hR2.mem HM)).mono ?_)); rintro e W ⟨rfl, HM'⟩; replace HM := HM.keep HM'.below; clear HM')))
          replace HM := HM.drew
          refine wp_region_mixN (fun W => Held w W [.blk b5 #[.int .i64 lo.1, .int .i64 lo.2, .int .i64 hi.1, .int .i64 hi.2, .int .i64 (a : Int), .int .i64 (b : Int), v1, .int .i64 (a' : Int), .int .i64 (b' : Int), v2] 81, .blk b3 (kc root) 23]) (fun W => Held w W [.blk b5 #[.int .i64 lo.1, .int .i64 lo.2, .int .i64 hi.1, .int .i64 hi.2, .int .i64 (a : Int), .int .i64 (b : Int), v1, .int .i64 (a' : Int), .int .i64 (b' : Int), v2] 81, .blk b3 (kc root) 23]) (.cons (2, 0) (.cons (2, 1) (.cons (2, 2) (.cons (2, 3) (.cons (2, 5) (.cons (2, 6) (.cons (2, 8) (.cons (0, 4) (.cons (0, 7) (.cons (2, 9) (.cons (2, 10) (.cons (2, 11) (.cons (2, 12) (.cons (2, 13) (.cons (2, 15) (.cons (2, 16) (.cons (2, 18) (.cons (0, 14) (.cons (0, 17) (.cons (2, 19) (.cons (2, 20) (.cons (2, 21) (.cons (2, 22) .nil))))))))))))))))))))))) [] (by kernel_rfl) (by kernel_rfl) (by kernel_rfl) (fun W h => Held.weak h (by simp)) (HM.held (by simp)) ?_
          revert HM; generalize World.drew _ = W; intro HM
          have HS1 : Held w W [.blk b5 #[.int .i64 lo.1, .int .i64 lo.2, .int .i64 hi.1, .int .i64 hi.2, .int .i64 (a : Int), .int .i64 (b : Int), v1, .int .i64 (a' : Int), .int .i64 (b' : Int), v2] 81, .blk b3 (kc root) 23] := HM.held (by simp)
          have HS2 : Held w W [.blk b5 #[.int .i64 lo.1, .int .i64 lo.2, .int .i64 hi.1, .int .i64 hi.2, .int .i64 (a : Int), .int .i64 (b : Int), v1, .int .i64 (a' : Int), .int .i64 (b' : Int), v2] 81, .blk b3 (kc root) 23] := HM.held (by simp)
          refine wm_q2 (i := 0) (some 68) rfl rfl rfl HS2 (fun W HS => by (go_simp; try with_reducible rfl)) ?_
          simp only [Act.put, List.getElem_toArray, List.getElem_cons_succ, List.getElem_cons_zero, List.setIfInBounds_toArray, List.set_cons_succ, List.set_cons_zero]
          refine wm_q2 (i := 1) (some 69) rfl rfl rfl HS2 (fun W HS => by (go_simp; try with_reducible rfl)) ?_
          simp only [Act.put, List.getElem_toArray, List.getElem_cons_succ, List.getElem_cons_zero, List.setIfInBounds_toArray, List.set_cons_succ, List.set_cons_zero]
          ((refine wm_s2 (i := 2) (some 70) rfl rfl (by rfl) HS2 ?_))
          simp only [Act.put, List.getElem_toArray, List.getElem_cons_succ, List.getElem_cons_zero, List.setIfInBounds_toArray, List.set_cons_succ, List.set_cons_zero]
          ((refine wm_s2 (i := 3) (some 71) rfl rfl (by rfl) HS2 ?_))
          simp only [Act.put, List.getElem_toArray, List.getElem_cons_succ, List.getElem_cons_zero, List.setIfInBounds_toArray, List.set_cons_succ, List.set_cons_zero]
          ((refine wm_s2 (i := 5) (some 73) rfl rfl (by rfl) HS2 ?_))
          simp only [Act.put, List.getElem_toArray, List.getElem_cons_succ, List.getElem_cons_zero, List.setIfInBounds_toArray, List.set_cons_succ, List.set_cons_zero]
          ((refine wm_s2 (i := 6) (some 74) rfl rfl (by rfl) HS2 ?_))
          simp only [Act.put, List.getElem_toArray, List.getElem_cons_succ, List.getElem_cons_zero, List.setIfInBounds_toArray, List.set_cons_succ, List.set_cons_zero]
          ((refine wm_s2 (i := 8) (some 76) rfl rfl (by rfl) HS2 ?_))
          simp only [Act.put, List.getElem_toArray, List.getElem_cons_succ, List.getElem_cons_zero, List.setIfInBounds_toArray, List.set_cons_succ, List.set_cons_zero]
          ((refine wm_es0 (i := 4) (some 72) rfl rfl (by rfl) HS1 ?_; simp only [Act.put, List.getElem_toArray, List.getElem_cons_succ, List.getElem_cons_zero, List.setIfInBounds_toArray, List.set_cons_succ, List.set_cons_zero]))
          ((refine wm_es0 (i := 7) (some 75) rfl rfl (by rfl) HS1 ?_; simp only [Act.put, List.getElem_toArray, List.getElem_cons_succ, List.getElem_cons_zero, List.setIfInBounds_toArray, List.set_cons_succ, List.set_cons_zero]))
          ((refine wm_s2 (i := 9) (some 77) rfl rfl (by rfl) HS2 ?_))
          simp only [Act.put, List.getElem_toArray, List.getElem_cons_succ, List.getElem_cons_zero, List.setIfInBounds_toArray, List.set_cons_succ, List.set_cons_zero]
          refine wm_q2 (i := 10) (some 78) rfl rfl rfl HS2 (fun W HS => by (go_simp; try with_reducible rfl)) ?_
          simp only [Act.put, List.getElem_toArray, List.getElem_cons_succ, List.getElem_cons_zero, List.setIfInBounds_toArray, List.set_cons_succ, List.set_cons_zero]
          refine wm_q2 (i := 11) (some 79) rfl rfl rfl HS2 (fun W HS => by (go_simp; try with_reducible rfl)) ?_
          simp only [Act.put, List.getElem_toArray, List.getElem_cons_succ, List.getElem_cons_zero, List.setIfInBounds_toArray, List.set_cons_succ, List.set_cons_zero]
          ((refine wm_s2 (i := 12) (some 80) rfl rfl (by rfl) HS2 ?_))
          simp only [Act.put, List.getElem_toArray, List.getElem_cons_succ, List.getElem_cons_zero, List.setIfInBounds_toArray, List.set_cons_succ, List.set_cons_zero]
          ((refine wm_s2 (i := 13) (some 81) rfl rfl (by rfl) HS2 ?_))
          simp only [Act.put, List.getElem_toArray, List.getElem_cons_succ, List.getElem_cons_zero, List.setIfInBounds_toArray, List.set_cons_succ, List.set_cons_zero]
          ((refine wm_s2 (i := 15) (some 83) rfl rfl (by rfl) HS2 ?_))
          simp only [Act.put, List.getElem_toArray, List.getElem_cons_succ, List.getElem_cons_zero, List.setIfInBounds_toArray, List.set_cons_succ, List.set_cons_zero]
          ((refine wm_s2 (i := 16) (some 84) rfl rfl (by rfl) HS2 ?_))
          simp only [Act.put, List.getElem_toArray, List.getElem_cons_succ, List.getElem_cons_zero, List.setIfInBounds_toArray, List.set_cons_succ, List.set_cons_zero]
          ((refine wm_s2 (i := 18) (some 86) rfl rfl (by rfl) HS2 ?_))
          simp only [Act.put, List.getElem_toArray, List.getElem_cons_succ, List.getElem_cons_zero, List.setIfInBounds_toArray, List.set_cons_succ, List.set_cons_zero]
          ((refine wm_es0 (i := 14) (some 82) rfl rfl (by rfl) HS1 ?_; simp only [Act.put, List.getElem_toArray, List.getElem_cons_succ, List.getElem_cons_zero, List.setIfInBounds_toArray, List.set_cons_succ, List.set_cons_zero]))
          ((refine wm_es0 (i := 17) (some 85) rfl rfl (by rfl) HS1 ?_; simp only [Act.put, List.getElem_toArray, List.getElem_cons_succ, List.getElem_cons_zero, List.setIfInBounds_toArray, List.set_cons_succ, List.set_cons_zero]))
          ((refine wm_s2 (i := 19) (some 87) rfl rfl (by rfl) HS2 ?_))
          simp only [Act.put, List.getElem_toArray, List.getElem_cons_succ, List.getElem_cons_zero, List.setIfInBounds_toArray, List.set_cons_succ, List.set_cons_zero]
          refine wm_q2 (i := 20) (some 88) rfl rfl rfl HS2 (fun W HS => by (go_simp; try with_reducible rfl)) ?_
          simp only [Act.put, List.getElem_toArray, List.getElem_cons_succ, List.getElem_cons_zero, List.setIfInBounds_toArray, List.set_cons_succ, List.set_cons_zero]
          refine wm_q2 (i := 21) (some 6) rfl rfl rfl HS2 (fun W HS => by (go_simp; try with_reducible rfl)) ?_
          simp only [Act.put, List.getElem_toArray, List.getElem_cons_succ, List.getElem_cons_zero, List.setIfInBounds_toArray, List.set_cons_succ, List.set_cons_zero]
          refine wm_q2 (i := 22) (some 7) rfl rfl rfl HS2 (fun W HS => by (go_simp; try with_reducible rfl)) ?_
          simp only [Act.put, List.getElem_toArray, List.getElem_cons_succ, List.getElem_cons_zero, List.setIfInBounds_toArray, List.set_cons_succ, List.set_cons_zero]
          refine wm_nilN ?_
          clear HS1 HS2
          go_wp2_with (fail)
          refine ret2 rfl (res_tmp rfl) (res_tmp rfl) rfl ?_
          exact ⟨rfl, HM.base⟩
    all_goals
      have he : voE lo hi n i p m j q u = 8 := by rw [voE, if_pos hu, if_neg (by rw [hk]; decide)]
      have hr : voR root lo hi n i p m j q u = false := by rw [voR, if_neg (by rw [he]; decide)]
      rw [he, hr]
      clear he hr hk hu
      go_enter Try.func40, Try.ntmps40
      go_wp2_with (first
        | ((with_reducible refine gd_ _ ?_); refine wl_gg _ rfl rfl ?_; first | (with_reducible refine gp_y ?_) | ((first | (with_reducible refine gp_ft ?_) | (with_reducible refine gp_tf ?_)); simp only [Act.put, List.getElem_toArray, List.getElem_cons_succ, List.getElem_cons_zero, List.setIfInBounds_toArray, List.set_cons_succ, List.set_cons_zero]))
        | ((with_reducible refine s_ 3 ?_); go_must (refine wl_box (dst := some 3) (cs := kc root) _ _ _ rfl rfl HM ?_; clear HM; intro b3 W HM))
        | ((with_reducible refine s_ 5 ?_); go_must (refine wl_box (dst := some 5) (cs := #[.int .i64 lo.1, .int .i64 lo.2, .int .i64 hi.1, .int .i64 hi.2, .int .i64 n, .int .i64 i, v1, .int .i64 m, .int .i64 j, v2]) _ _ _ rfl rfl HM ?_; clear HM; intro b5 W HM))
        | ((with_reducible refine s_ 16 ?_); go_must (refine wl_load_sub (dst := some 16) (cs' := #[.int .i64 lo.1, .int .i64 lo.2]) _ _ _ _ _ _ _ _ rfl HM m0 Try.underlying79 rfl sz79 (by rfl) (by simp [kc_size]) ?_))
        | ((with_reducible refine s_ 21 ?_); go_must (refine wl_load_sub (dst := some 21) (cs' := #[.int .i64 hi.1, .int .i64 hi.2]) _ _ _ _ _ _ _ _ rfl HM m0 Try.underlying79 rfl sz79 (by rfl) (by simp [kc_size]) ?_))
        | ((with_reducible refine s_ 27 ?_); go_must (refine wl_load_sub (dst := some 27) (cs' := #[.int .i64 n, .int .i64 i, v1]) _ _ _ _ _ _ _ _ rfl HM m0 Try.underlying52 rfl sz52 (by rfl) (by simp [kc_size]) ?_))
        | ((with_reducible refine s_ 33 ?_); go_must (refine wl_load_sub (dst := some 33) (cs' := #[.int .i64 m, .int .i64 j, v2]) _ _ _ _ _ _ _ _ rfl HM m0 Try.underlying52 rfl sz52 (by rfl) (by simp [kc_size]) ?_))
        | (go_at_call 92; go_must (((with_reducible refine (rIsEntry_c _ _).mono ?_)); rintro e W ⟨rfl, HM'⟩; replace HM := HM.keep HM'.below; clear HM'))
        | (go_at_call 77; go_must ((first | (with_reducible refine (rFits_c _ _ v1 p _ (hR1.mem HM)).mono ?_) | (with_reducible refine (rFits_c _ _ v2 q _ (hR2.mem HM)).mono ?_)); rintro e W ⟨rfl, HM'⟩; replace HM := HM.keep HM'.below; clear HM')))
      refine ret2 rfl (res_tmp rfl) (res_tmp rfl) rfl ?_
      exact ⟨rfl, HM.base⟩
  · have he : voE lo hi n i p m j q u = 2 := by rw [voE, if_neg hu]
    have hr : voR root lo hi n i p m j q u = false := by rw [voR, if_neg (by rw [he]; decide)]
    rw [he, hr]
    clear he hr
    by_cases hu0 : u < 0
    all_goals
      (try have hu1 : 64 ≤ u := by omega)
      clear hu
      go_enter Try.func40, Try.ntmps40
      go_wp2_with (first
        | ((with_reducible refine gd_ _ ?_); refine wl_gg _ rfl rfl ?_; first | (with_reducible refine gp_y ?_) | ((first | (with_reducible refine gp_ft ?_) | (with_reducible refine gp_tf ?_)); simp only [Act.put, List.getElem_toArray, List.getElem_cons_succ, List.getElem_cons_zero, List.setIfInBounds_toArray, List.set_cons_succ, List.set_cons_zero]))
        | ((with_reducible refine s_ 3 ?_); go_must (refine wl_box (dst := some 3) (cs := kc root) _ _ _ rfl rfl HM ?_; clear HM; intro b3 W HM))
        | ((with_reducible refine s_ 5 ?_); go_must (refine wl_box (dst := some 5) (cs := #[.int .i64 lo.1, .int .i64 lo.2, .int .i64 hi.1, .int .i64 hi.2, .int .i64 n, .int .i64 i, v1, .int .i64 m, .int .i64 j, v2]) _ _ _ rfl rfl HM ?_; clear HM; intro b5 W HM)))
      refine ret2 rfl (res_tmp rfl) (res_tmp rfl) rfl ?_
      exact ⟨rfl, HM.base⟩
end
end
section
set_option linter.unusedVariables false
set_option linter.unusedSimpArgs false
set_option maxRecDepth 8000
open Go.RowKit
theorem part_int {P : Program} {e : TypeId} (he : P.underlying e = some (.int .i64)) (cs : Array Value) (i : Nat) (v : Value) (h : cs[i]? = some v) (w : World) : (part e cs i).run P w = .ok v w := by
  unfold part
  simp [run_isAgg he, TypeDesc.isRow, h]
theorem entEqI (a b : Ent) (w : World) : (Op.equalIn 10000 79 (.agg #[.int .i64 a.1, .int .i64 a.2]) (.agg #[.int .i64 b.1, .int .i64 b.2])).run Try.prog w = .ok (decide (a = b)) w := by
  have hu : Try.prog.underlying 79 = some (.struct (Try.prog.fieldsOf 79)) := by rw [Program.fieldsOf, Try.underlying79]
  have h1 := fun w => part_int (w := w) Try.underlying3 #[.int .i64 a.1, .int .i64 a.2] 0 (.int .i64 a.1) rfl
  have h2 := fun w => part_int (w := w) Try.underlying3 #[.int .i64 b.1, .int .i64 b.2] 0 (.int .i64 b.1) rfl
  have h3 := fun w => part_int (w := w) Try.underlying3 #[.int .i64 a.1, .int .i64 a.2] 1 (.int .i64 a.2) rfl
  have h4 := fun w => part_int (w := w) Try.underlying3 #[.int .i64 b.1, .int .i64 b.2] 1 (.int .i64 b.2) rfl
  have h5 : ∀ x y : Int, (Op.equalIn 9999 3 (.int .i64 x) (.int .i64 y)).run Try.prog w = .ok (x == y) w := fun x y => run_equalIn_int w 9998 3 .i64 .i64 x y Try.underlying3
  rw [show (10000 : Nat) = 9999 + 1 from rfl, run_equalIn_struct w 9999 79 _ _ hu (by kernel_rfl), Program.fieldsOf, Try.underlying79]
  simp only [Op.eqFields, Sem.run_bind, h1, h2, h3, h4, h5, Result.andThen_ok, Sem.run_ite, Sem.run_pure]
  obtain ⟨a1, a2⟩ := a
  obtain ⟨b1, b2⟩ := b
  by_cases e1 : a1 = b1
  · by_cases e2 : a2 = b2
    · simp [e1, e2]
    · simp [e1, e2]
  · simp [e1]
section
attribute [local irreducible] rowT wpList
attribute [local go_sem] keyEqI entEqI
set_option maxHeartbeats 3200000 in
theorem sameAbs_c (lo hi : Ent) (n i m j : Int) (q1 q2 r1 r2 : Value) (p q : List Key) (w : World) (h1 : RdL encK 16 w q1 p) (h2 : RdL encK 16 w q2 q) (g1 : RdL encK 16 w r1 p) (g2 : RdL encK 16 w r2 q) (hp : p.length ≤ 1073741824) (hq : q.length ≤ 1073741824) :
    Calls Try.prog 38 #[absV lo hi n i q1 m j q2, absV lo hi n i r1 m j r2] w fun e w' => e = .returned (.bool true) ∧ Mem w w' [] := by
  have HM := Mem.start w
  go_enter Try.func38, Try.ntmps38
  go_wp2_with (first
    | ((with_reducible refine gd_ _ ?_); refine wl_guard (by rfl) ?_)
    | ((with_reducible refine s_ 2 ?_); go_must (refine wl_box (dst := some 2) (cs := #[.int .i64 lo.1, .int .i64 lo.2, .int .i64 hi.1, .int .i64 hi.2, .int .i64 n, .int .i64 i, q1, .int .i64 m, .int .i64 j, q2]) _ _ _ rfl rfl HM ?_; clear HM; intro b2 W HM))
    | ((with_reducible refine s_ 3 ?_); go_must (refine wl_box (dst := some 3) (cs := #[.int .i64 lo.1, .int .i64 lo.2, .int .i64 hi.1, .int .i64 hi.2, .int .i64 n, .int .i64 i, r1, .int .i64 m, .int .i64 j, r2]) _ _ _ rfl rfl HM ?_; clear HM; intro b3 W HM))
    | ((with_reducible refine s_ 6 ?_); go_must (refine wl_load_sub (dst := some 6) (cs' := #[.int .i64 lo.1, .int .i64 lo.2]) _ _ _ _ _ _ _ _ rfl HM m1 Try.underlying79 rfl sz79 (by rfl) (by simp [kc_size]) ?_))
    | ((with_reducible refine s_ 8 ?_); go_must (refine wl_load_sub (dst := some 8) (cs' := #[.int .i64 lo.1, .int .i64 lo.2]) _ _ _ _ _ _ _ _ rfl HM m0 Try.underlying79 rfl sz79 (by rfl) (by simp [kc_size]) ?_))
    | ((with_reducible refine s_ 12 ?_); go_must (refine wl_load_sub (dst := some 12) (cs' := #[.int .i64 hi.1, .int .i64 hi.2]) _ _ _ _ _ _ _ _ rfl HM m1 Try.underlying79 rfl sz79 (by rfl) (by simp [kc_size]) ?_))
    | ((with_reducible refine s_ 14 ?_); go_must (refine wl_load_sub (dst := some 14) (cs' := #[.int .i64 hi.1, .int .i64 hi.2]) _ _ _ _ _ _ _ _ rfl HM m0 Try.underlying79 rfl sz79 (by rfl) (by simp [kc_size]) ?_))
    | ((with_reducible refine s_ 19 ?_); go_must (refine wl_load_sub (dst := some 19) (cs' := #[.int .i64 n, .int .i64 i, q1]) _ _ _ _ _ _ _ _ rfl HM m1 Try.underlying52 rfl sz52 (by rfl) (by simp [kc_size]) ?_))
    | ((with_reducible refine s_ 21 ?_); go_must (refine wl_load_sub (dst := some 21) (cs' := #[.int .i64 n, .int .i64 i, r1]) _ _ _ _ _ _ _ _ rfl HM m0 Try.underlying52 rfl sz52 (by rfl) (by simp [kc_size]) ?_))
    | ((with_reducible refine s_ 26 ?_); go_must (refine wl_load_sub (dst := some 26) (cs' := #[.int .i64 m, .int .i64 j, q2]) _ _ _ _ _ _ _ _ rfl HM m1 Try.underlying52 rfl sz52 (by rfl) (by simp [kc_size]) ?_))
    | ((with_reducible refine s_ 28 ?_); go_must (refine wl_load_sub (dst := some 28) (cs' := #[.int .i64 m, .int .i64 j, r2]) _ _ _ _ _ _ _ _ rfl HM m0 Try.underlying52 rfl sz52 (by rfl) (by simp [kc_size]) ?_))
    | (go_at_call 22; go_must ((first | (with_reducible refine (sameProof_c n i q1 r1 p _ (h1.mem HM) (g1.mem HM) hp).mono ?_) | (with_reducible refine (sameProof_c m j q2 r2 q _ (h2.mem HM) (g2.mem HM) hq).mono ?_)); rintro e W ⟨rfl, HM'⟩; replace HM := HM.keep HM'.below; clear HM')))
  refine ret1 rfl (res_tmp rfl) rfl ?_
  exact ⟨rfl, HM.base⟩
end
theorem pn_len (l : List Ent) (u : Int) : (pnP l u).length ≤ 1000 := by
  unfold pnP
  split
  · rename_i h
    cases hv : validB l with
    | false =>
      rw [pnE, if_neg (by rw [fdE_no l u hv]; decide), fdE_no l u hv] at h; omega
    | true =>
      have := valid_len l hv
      have := pathL_len _ (leavesL l) (posE (endL l) u) rfl
      rw [leavesL_len] at this; omega
  · simp
theorem af_len (l : List Ent) (u : Int) : (afP l u).length ≤ 1000 ∧ (afQ l u).length ≤ 1000 := by
  by_cases h : afE l u = 0
  · cases hv : validB l with
    | false =>
      rw [afE, if_neg (by rw [fdE_no l u hv]; decide), fdE_no l u hv] at h; omega
    | true =>
      have := valid_len l hv
      have h1 := pathL_len _ (leavesL l) (afK l u) rfl
      have h2 := pathL_len _ (leavesL l) (afK l u + 1) rfl
      rw [leavesL_len] at h1 h2
      rw [afP, if_pos h, afQ, if_pos h]; omega
  · rw [afP, if_neg h, afQ, if_neg h]; simp
section
attribute [local irreducible] rowT wpList
attribute [local go_sem] keyEqI entEqI
set_option maxHeartbeats 4000000 in
theorem auditOnOff_c (l : List Ent) (u : Int) (root : Key) (lo hi : Ent) (n i m j : Int) (v v1 v2 : Value) (p q : List Key) (w : World) (hR : RdL encE 2 w v l) (hl : l.length ≤ 140737488351232) (hR1 : RdL encK 16 w v1 p) (hR2 : RdL encK 16 w v2 q) :
    Calls Try.prog 6 #[v, .int .i64 u, .agg (kc root), absV lo hi n i v1 m j v2] w fun e w' => e = .returned (.bool true) ∧ Mem w w' [] := by
  have HM := Mem.start w
  have hv1 := rd_one hR1
  have hv2 := rd_one hR2
  have hq1 := pn_len l u
  obtain ⟨hq2, hq3⟩ := af_len l u
  go_enter Try.func6, Try.ntmps6
  go_wp2_with (first
    | ((with_reducible refine gd_ _ ?_); refine wl_guard (by rfl) ?_)
    | ((with_reducible refine st_ 52 ?_); go_must ((first | refine wl_store_blk _ _ _ _ _ _ _ rfl rfl HM .here sz52 rfl (prf_one _ _ _ (row_one (HM.row m2))) ?_ | refine wl_store_blk _ _ _ _ _ _ _ rfl rfl HM .here sz52 rfl (prf_one _ _ _ (row_one (HM.row m3))) ?_); clear HM; intro W HM))
    | ((with_reducible refine st_ 81 ?_); go_must (refine wl_store_blk _ _ _ _ _ _ _ rfl rfl HM .here sz81 rfl (abs_one _ _ _ _ _ _ _ _ (row_one (HM.row m2)) (row_one (HM.row m1))) ?_; clear HM; intro W HM))
    | ((with_reducible refine s_ 6 ?_); go_must (refine wl_box (dst := some 6) (cs := kc root) _ _ _ rfl rfl HM ?_; clear HM; intro b6 W HM))
    | ((with_reducible refine s_ 7 ?_); go_must (refine wl_box (dst := some 7) (cs := #[.int .i64 lo.1, .int .i64 lo.2, .int .i64 hi.1, .int .i64 hi.2, .int .i64 n, .int .i64 i, v1, .int .i64 m, .int .i64 j, v2]) _ _ _ rfl rfl HM ?_; clear HM; intro b7 W HM))
    | ((with_reducible refine s_ 9 ?_); go_must (refine wl_alloc (dst := some 9) (cs := #[Value.int IntKind.i64 0, Value.int IntKind.i64 0]) 79 _ Try.zeroValue79 rfl HM ?_; clear HM; intro b9 W HM))
    | ((with_reducible refine s_ 10 ?_); go_must (refine wl_alloc (dst := some 10) (cs := #[Value.int IntKind.i64 0, Value.int IntKind.i64 0, Value.slice none 0 0]) 52 _ Try.zeroValue52 rfl HM ?_; clear HM; intro b10 W HM))
    | ((with_reducible refine s_ 12 ?_); go_must (refine wl_alloc (dst := some 12) (cs := #[Value.int IntKind.i64 0, Value.int IntKind.i64 0]) 79 _ Try.zeroValue79 rfl HM ?_; clear HM; intro b12 W HM))
    | ((with_reducible refine s_ 13 ?_); go_must (refine wl_alloc (dst := some 13) (cs := #[Value.int IntKind.i64 0, Value.int IntKind.i64 0, Value.slice none 0 0]) 52 _ Try.zeroValue52 rfl HM ?_; clear HM; intro b13 W HM))
    | ((with_reducible refine s_ 15 ?_); go_must (refine wl_alloc (dst := some 15) (cs := #[Value.int IntKind.i64 0, Value.int IntKind.i64 0, Value.int IntKind.i64 0, Value.int IntKind.i64 0, Value.int IntKind.i64 0, Value.int IntKind.i64 0, Value.slice none 0 0, Value.int IntKind.i64 0, Value.int IntKind.i64 0, Value.slice none 0 0]) 81 _ Try.zeroValue81 rfl HM ?_; clear HM; intro b15 W HM))
    | ((with_reducible refine s_ 16 ?_); go_must (refine wl_alloc (dst := some 16) (cs := #[Value.int IntKind.i64 0, Value.int IntKind.i64 0, Value.int IntKind.i64 0, Value.int IntKind.i64 0, Value.int IntKind.i64 0, Value.int IntKind.i64 0, Value.slice none 0 0, Value.int IntKind.i64 0, Value.int IntKind.i64 0, Value.slice none 0 0]) 81 _ Try.zeroValue81 rfl HM ?_; clear HM; intro b16 W HM))
    | ((with_reducible refine st_ 79 ?_); go_must ((first | refine wl_store_blk _ _ _ _ _ _ _ rfl rfl HM .here sz79 rfl (by simp [Value.oneCell']) ?_ | refine wl_store_blk _ _ _ _ _ _ _ rfl rfl HM (.there .here) sz79 rfl (by simp [Value.oneCell']) ?_ | refine wl_store_blk _ _ _ _ _ _ _ rfl rfl HM (.there (.there .here)) sz79 rfl (by simp [Value.oneCell']) ?_ | refine wl_store_blk _ _ _ _ _ _ _ rfl rfl HM (.there (.there (.there .here))) sz79 rfl (by simp [Value.oneCell']) ?_ | refine wl_store_blk _ _ _ _ _ _ _ rfl rfl HM (.there (.there (.there (.there .here)))) sz79 rfl (by simp [Value.oneCell']) ?_ | refine wl_store_blk _ _ _ _ _ _ _ rfl rfl HM (.there (.there (.there (.there (.there .here))))) sz79 rfl (by simp [Value.oneCell']) ?_ | refine wl_store_blk _ _ _ _ _ _ _ rfl rfl HM (.there (.there (.there (.there (.there (.there .here)))))) sz79 rfl (by simp [Value.oneCell']) ?_ | refine wl_store_blk _ _ _ _ _ _ _ rfl rfl HM (.there (.there (.there (.there (.there (.there (.there .here))))))) sz79 rfl (by simp [Value.oneCell']) ?_ | refine wl_store_blk _ _ _ _ _ _ _ rfl rfl HM (.there (.there (.there (.there (.there (.there (.there (.there .here)))))))) sz79 rfl (by simp [Value.oneCell']) ?_ | refine wl_store_blk _ _ _ _ _ _ _ rfl rfl HM (.there (.there (.there (.there (.there (.there (.there (.there (.there .here))))))))) sz79 rfl (by simp [Value.oneCell']) ?_ | refine wl_store_blk _ _ _ _ _ _ _ rfl rfl HM (.there (.there (.there (.there (.there (.there (.there (.there (.there (.there .here)))))))))) sz79 rfl (by simp [Value.oneCell']) ?_ | refine wl_store_blk _ _ _ _ _ _ _ rfl rfl HM (.there (.there (.there (.there (.there (.there (.there (.there (.there (.there (.there .here))))))))))) sz79 rfl (by simp [Value.oneCell']) ?_ | refine wl_store_blk _ _ _ _ _ _ _ rfl rfl HM (.there (.there (.there (.there (.there (.there (.there (.there (.there (.there (.there (.there .here)))))))))))) sz79 rfl (by simp [Value.oneCell']) ?_ | refine wl_store_blk _ _ _ _ _ _ _ rfl rfl HM (.there (.there (.there (.there (.there (.there (.there (.there (.there (.there (.there (.there (.there .here))))))))))))) sz79 rfl (by simp [Value.oneCell']) ?_); clear HM; intro W HM))
    | ((with_reducible refine st_ 52 ?_); go_must ((first | refine wl_store_blk _ _ _ _ _ _ _ rfl rfl HM .here sz52 rfl (by simp [Value.oneCell']) ?_ | refine wl_store_blk _ _ _ _ _ _ _ rfl rfl HM (.there .here) sz52 rfl (by simp [Value.oneCell']) ?_ | refine wl_store_blk _ _ _ _ _ _ _ rfl rfl HM (.there (.there .here)) sz52 rfl (by simp [Value.oneCell']) ?_ | refine wl_store_blk _ _ _ _ _ _ _ rfl rfl HM (.there (.there (.there .here))) sz52 rfl (by simp [Value.oneCell']) ?_ | refine wl_store_blk _ _ _ _ _ _ _ rfl rfl HM (.there (.there (.there (.there .here)))) sz52 rfl (by simp [Value.oneCell']) ?_ | refine wl_store_blk _ _ _ _ _ _ _ rfl rfl HM (.there (.there (.there (.there (.there .here))))) sz52 rfl (by simp [Value.oneCell']) ?_ | refine wl_store_blk _ _ _ _ _ _ _ rfl rfl HM (.there (.there (.there (.there (.there (.there .here)))))) sz52 rfl (by simp [Value.oneCell']) ?_ | refine wl_store_blk _ _ _ _ _ _ _ rfl rfl HM (.there (.there (.there (.there (.there (.there (.there .here))))))) sz52 rfl (by simp [Value.oneCell']) ?_ | refine wl_store_blk _ _ _ _ _ _ _ rfl rfl HM (.there (.there (.there (.there (.there (.there (.there (.there .here)))))))) sz52 rfl (by simp [Value.oneCell']) ?_ | refine wl_store_blk _ _ _ _ _ _ _ rfl rfl HM (.there (.there (.there (.there (.there (.there (.there (.there (.there .here))))))))) sz52 rfl (by simp [Value.oneCell']) ?_ | refine wl_store_blk _ _ _ _ _ _ _ rfl rfl HM (.there (.there (.there (.there (.there (.there (.there (.there (.there (.there .here)))))))))) sz52 rfl (by simp [Value.oneCell']) ?_ | refine wl_store_blk _ _ _ _ _ _ _ rfl rfl HM (.there (.there (.there (.there (.there (.there (.there (.there (.there (.there (.there .here))))))))))) sz52 rfl (by simp [Value.oneCell']) ?_ | refine wl_store_blk _ _ _ _ _ _ _ rfl rfl HM (.there (.there (.there (.there (.there (.there (.there (.there (.there (.there (.there (.there .here)))))))))))) sz52 rfl (by simp [Value.oneCell']) ?_ | refine wl_store_blk _ _ _ _ _ _ _ rfl rfl HM (.there (.there (.there (.there (.there (.there (.there (.there (.there (.there (.there (.there (.there .here))))))))))))) sz52 rfl (by simp [Value.oneCell']) ?_); clear HM; intro W HM))
    | ((with_reducible refine ld_ 79 ?_); go_must (refine wl_load_blk _ _ _ _ _ _ rfl HM (by repeat first | exact List.mem_cons_self .. | refine List.mem_cons_of_mem _ ?_) Try.underlying79 rfl (by exact sz79) ?_))
    | ((with_reducible refine ld_ 52 ?_); go_must (refine wl_load_blk _ _ _ _ _ _ rfl HM (by repeat first | exact List.mem_cons_self .. | refine List.mem_cons_of_mem _ ?_) Try.underlying52 rfl (by exact sz52) ?_))
    | ((with_reducible refine st_ 81 ?_); go_must ((first | refine wl_store_blk _ _ _ _ _ _ _ rfl rfl HM .here sz81 rfl (by simp [Value.oneCell']) ?_ | refine wl_store_blk _ _ _ _ _ _ _ rfl rfl HM (.there .here) sz81 rfl (by simp [Value.oneCell']) ?_ | refine wl_store_blk _ _ _ _ _ _ _ rfl rfl HM (.there (.there .here)) sz81 rfl (by simp [Value.oneCell']) ?_ | refine wl_store_blk _ _ _ _ _ _ _ rfl rfl HM (.there (.there (.there .here))) sz81 rfl (by simp [Value.oneCell']) ?_ | refine wl_store_blk _ _ _ _ _ _ _ rfl rfl HM (.there (.there (.there (.there .here)))) sz81 rfl (by simp [Value.oneCell']) ?_ | refine wl_store_blk _ _ _ _ _ _ _ rfl rfl HM (.there (.there (.there (.there (.there .here))))) sz81 rfl (by simp [Value.oneCell']) ?_ | refine wl_store_blk _ _ _ _ _ _ _ rfl rfl HM (.there (.there (.there (.there (.there (.there .here)))))) sz81 rfl (by simp [Value.oneCell']) ?_ | refine wl_store_blk _ _ _ _ _ _ _ rfl rfl HM (.there (.there (.there (.there (.there (.there (.there .here))))))) sz81 rfl (by simp [Value.oneCell']) ?_ | refine wl_store_blk _ _ _ _ _ _ _ rfl rfl HM (.there (.there (.there (.there (.there (.there (.there (.there .here)))))))) sz81 rfl (by simp [Value.oneCell']) ?_ | refine wl_store_blk _ _ _ _ _ _ _ rfl rfl HM (.there (.there (.there (.there (.there (.there (.there (.there (.there .here))))))))) sz81 rfl (by simp [Value.oneCell']) ?_ | refine wl_store_blk _ _ _ _ _ _ _ rfl rfl HM (.there (.there (.there (.there (.there (.there (.there (.there (.there (.there .here)))))))))) sz81 rfl (by simp [Value.oneCell']) ?_ | refine wl_store_blk _ _ _ _ _ _ _ rfl rfl HM (.there (.there (.there (.there (.there (.there (.there (.there (.there (.there (.there .here))))))))))) sz81 rfl (by simp [Value.oneCell']) ?_ | refine wl_store_blk _ _ _ _ _ _ _ rfl rfl HM (.there (.there (.there (.there (.there (.there (.there (.there (.there (.there (.there (.there .here)))))))))))) sz81 rfl (by simp [Value.oneCell']) ?_ | refine wl_store_blk _ _ _ _ _ _ _ rfl rfl HM (.there (.there (.there (.there (.there (.there (.there (.there (.there (.there (.there (.there (.there .here))))))))))))) sz81 rfl (by simp [Value.oneCell']) ?_); clear HM; intro W HM))
    | ((with_reducible refine ld_ 81 ?_); go_must (refine wl_load_blk _ _ _ _ _ _ rfl HM (by repeat first | exact List.mem_cons_self .. | refine List.mem_cons_of_mem _ ?_) Try.underlying81 rfl (by exact sz81) ?_))
    | ((with_reducible refine ld_ 23 ?_); go_must (refine wl_load_blk _ _ _ _ _ _ rfl HM (by repeat first | exact List.mem_cons_self .. | refine List.mem_cons_of_mem _ ?_) Try.underlying23 rfl (by rw [kc_size]; exact sz23) ?_))
    | (go_at_call 34; go_must (((with_reducible refine (ProveOn_c v l u _ (hR.mem HM) hl).mono ?_)); rintro e W ⟨u1, rfl, HM'⟩; replace HM := HM.join HM'; clear HM'; simp only [List.cons_append, List.nil_append] at HM))
    | (go_at_call 35; go_must (((with_reducible refine (rProveOn_c v l u _ (hR.mem HM) hl).mono ?_)); rintro e W ⟨u2, rfl, HM'⟩; replace HM := HM.join HM'; clear HM'; simp only [List.cons_append, List.nil_append] at HM))
    | (go_at_call 22; go_must (((with_reducible refine (sameProof_c _ _ u1 u2 (pnP l u) _ (rd_row HM (by repeat first | exact List.mem_cons_self .. | refine List.mem_cons_of_mem _ ?_) rfl (by decide) encK_len) (rd_row HM (by repeat first | exact List.mem_cons_self .. | refine List.mem_cons_of_mem _ ?_) rfl (by decide) encK_len) (by omega)).mono ?_)); rintro e W ⟨rfl, HM'⟩; replace HM := HM.keep HM'.below; clear HM'))
    | (go_at_call 36; go_must (((with_reducible refine (ProveOff_c v l u _ (hR.mem HM) hl).mono ?_)); rintro e W ⟨u3, u4, rfl, HM'⟩; replace HM := HM.join HM'; clear HM'; simp only [List.cons_append, List.nil_append] at HM))
    | (go_at_call 37; go_must (((with_reducible refine (rProveOff_c v l u _ (hR.mem HM) hl).mono ?_)); rintro e W ⟨u5, u6, rfl, HM'⟩; replace HM := HM.join HM'; clear HM'; simp only [List.cons_append, List.nil_append] at HM))
    | (go_at_call 38; go_must (((with_reducible refine (sameAbs_c _ _ _ _ _ _ u3 u4 u5 u6 (afP l u) (afQ l u) _ (rd_row HM (by repeat first | exact List.mem_cons_self .. | refine List.mem_cons_of_mem _ ?_) rfl (by decide) encK_len) (rd_row HM (by repeat first | exact List.mem_cons_self .. | refine List.mem_cons_of_mem _ ?_) rfl (by decide) encK_len) (rd_row HM (by repeat first | exact List.mem_cons_self .. | refine List.mem_cons_of_mem _ ?_) rfl (by decide) encK_len) (rd_row HM (by repeat first | exact List.mem_cons_self .. | refine List.mem_cons_of_mem _ ?_) rfl (by decide) encK_len) (by omega) (by omega)).mono ?_)); rintro e W ⟨rfl, HM'⟩; replace HM := HM.keep HM'.below; clear HM'))
    | (go_at_call 39; go_must (((with_reducible refine (VerifyOff_c root u lo hi n i v1 p m j v2 q _ (hR1.mem HM) (hR2.mem HM)).mono ?_)); rintro e W ⟨rfl, HM'⟩; replace HM := HM.keep HM'.below; clear HM'))
    | (go_at_call 40; go_must (((with_reducible refine (rVerifyOff_c root u lo hi n i v1 p m j v2 q _ (hR1.mem HM) (hR2.mem HM)).mono ?_)); rintro e W ⟨rfl, HM'⟩; replace HM := HM.keep HM'.below; clear HM')))
  refine ret1 rfl (res_tmp rfl) rfl ?_
  exact ⟨rfl, HM.base⟩
end
end
end Go.Proofs.Ythdekionepfmdaa
