/- What a growth path gives for an old root: the reference's grown. -/
import Derived.Test.YthdekionepfmdaaVef
set_option linter.unusedVariables false
set_option linter.unusedSimpArgs false
set_option maxRecDepth 8000
namespace Go.Proofs.Ythdekionepfmdaa
open Go.RowKit

theorem fill_val2 (p q : Value) (hp : p.cells = #[p]) (hq : q.cells = #[q]) : Instr.fill (fun i => some (i * 1, 1)) ((Array.range (2 * 1)).map ((Value.slice none 0 0).cells[· % (Value.slice none 0 0).cells.size]!)) [(0, p), (1, q)] = some #[p, q] := by
  have hz : (Array.range (2 * 1)).map ((Value.slice none 0 0).cells[· % (Value.slice none 0 0).cells.size]!) = #[.slice none 0 0, .slice none 0 0] := by kernel_rfl
  rw [hz]
  simp [Instr.fill, hp, hq]
section
variable {P : Program} {ops : Array Oper} {rest : List Oper} {a : Act} {Q : Exit → Act → World → Prop} {w0 W : World} {L : List It} {dst : Option Tmp} {tt : TypeId} {ps : String} {af : Array Edge}
theorem wl_slice2V (t e : TypeId) (x y : Operand) (p q : Value) (ht : P.underlying t = some (.slice e)) (hs : ∀ w, (sizeOf e).run P w = .ok 1 w) (hz : ∀ w, (zeroValue e).run P w = .ok (.slice none 0 0) w) (hp : p.cells = #[p]) (hq : q.cells = #[q])
    (hx : a.eval x = p) (hy : a.eval y = q) (HM : Mem w0 W L) (h : ∀ b W', Mem w0 W' (.blk b #[p, q] e :: L) → wpList P ops Q rest (a.put dst (.slice (some ⟨b, 0, none⟩) 2 2)) W') :
    wpList P ops Q (Oper.mk dst (.buildSlice t 2 #[(0, x), (1, y)]) tt ps af none :: rest) a W :=
  wl_buildSlice (dst := dst) (cs := #[p, q]) t 2 #[(0, x), (1, y)] e 1 (.slice none 0 0) ht hs hz (by decide) (by simp only [List.map_toArray, List.map_cons, List.map_nil, hx, hy]; exact fill_val2 p q hp hq) HM h
end
theorem valsT_snoc2 (us : List (Value × List UInt8)) (p q : Value) (x y : List UInt8) : valsT us ++ [p, q].flatMap encV = valsT (us ++ [(p, x), (q, y)]) := by simp [valsT, encV]
theorem ret3' {P : Program} {fn : Func} : True := trivial

section
attribute [local irreducible] rowT
set_option maxHeartbeats 6400000 in
theorem rgrown_c (bef : Key) : ∀ (n m : Nat) (wh : Bool) (v : Value) (p : List Key) (w : World), RdL encK 16 w v p → 1 ≤ m → m ≤ n → n ≤ 128 → FitgIs p.length n m wh →
    Calls Try.prog 84 #[.agg (kc bef), .int .i64 (n : Int), .int .i64 (m : Int), .bool wh, v] w fun e w' => ∃ u, e = .returned (.tuple #[.agg (kc (growA bef n m p)), .agg (kc (growB bef n m p)), u]) ∧ Given w w' u (growT bef n m p) := by
  intro n
  induction n using Nat.strongRecOn with
  | ind n ih =>
    intro m wh v p w hR h1 hm hn hpl
    have HM := Mem.start w
    by_cases hone : m = n
    · have hb : (m : Int) = (n : Int) := by omega
      clear ih
      obtain ⟨e1, e2, e3⟩ := grow_end bef n m p (by omega)
      rw [e1, e2, e3]
      clear e1 e2 e3
      have hpe := hpl.eq
      rw [partsN_end n m wh (by omega)] at hpe
      clear hpl
      cases wh with
      | true =>
        rw [headK_nil bef p hpe]
        clear hpe
        go_enter Try.func84, Try.ntmps84
        go_wp2_with (first
          | ((with_reducible refine s_ 5 ?_); go_must (refine wl_box (dst := some 5) (cs := kc bef) _ _ _ rfl rfl HM ?_; clear HM; intro b5 W HM))
          | ((with_reducible refine s_ 10 ?_); go_must (refine wl_alloc (dst := some 10) (cs := kc zeroKey) 23 _ Try.zeroValue23 kc_zero HM ?_; clear HM; intro b10 W HM))
          | ((with_reducible refine s_ 11 ?_); go_must (refine wl_alloc (dst := some 11) (cs := kc zeroKey) 23 _ Try.zeroValue23 kc_zero HM ?_; clear HM; intro b11 W HM)))
        replace HM := HM.drew
        refine wp_region_mixN (fun W => Held w W [.blk b5 (kc bef) 23]) (fun W => Held w W [.blk b5 (kc bef) 23]) (.cons (2, 0) (.cons (2, 1) (.cons (0, 2) (.cons (0, 3) (.cons (2, 4) .nil))))) [] (by kernel_rfl) (by kernel_rfl) (by kernel_rfl) (fun W h => Held.weak h (by simp)) (HM.held (by simp)) ?_
        revert HM; generalize World.drew _ = W; intro HM
        have HS1 : Held w W [.blk b5 (kc bef) 23] := HM.held (by simp)
        have HS2 : Held w W [.blk b5 (kc bef) 23] := HM.held (by simp)
        refine wm_q2 (i := 0) (some 29) rfl rfl rfl HS2 (fun W HS => (by ((refine ry_load_blk _ _ _ _ _ _ HS ?_ m0 Try.underlying23 rfl (by rw [kc_size]; exact sz23); rfl)))) ?_
        simp only [Act.put, List.getElem_toArray, List.getElem_cons_succ, List.getElem_cons_zero, List.setIfInBounds_toArray, List.set_cons_succ, List.set_cons_zero]
        refine wm_q2 (i := 1) (some 30) rfl rfl rfl HS2 (fun W HS => (by ((refine ry_load_blk _ _ _ _ _ _ HS ?_ m0 Try.underlying23 rfl (by rw [kc_size]; exact sz23); rfl)))) ?_
        simp only [Act.put, List.getElem_toArray, List.getElem_cons_succ, List.getElem_cons_zero, List.setIfInBounds_toArray, List.set_cons_succ, List.set_cons_zero]
        refine wm_e0 (i := 2) rfl ?_
        go_wp2_with (first
          | ((with_reducible refine st_ 23 ?_); go_must ((refine wl_store_blk _ _ _ _ _ _ _ rfl rfl HM (.there .here) (by rw [kc_size]; exact sz23) (by simp only [kc_size]) (kc_one _) ?_); clear HM; intro W HM)))
        refine ⟨HM.held (by simp), ?_⟩
        clear HS1 HS2
        have HS1 : Held w W [.blk b5 (kc bef) 23] := HM.held (by simp)
        have HS2 : Held w W [.blk b5 (kc bef) 23] := HM.held (by simp)
        refine wm_e0 (i := 3) rfl ?_
        go_wp2_with (first
          | ((with_reducible refine st_ 23 ?_); go_must ((refine wl_store_blk _ _ _ _ _ _ _ rfl rfl HM .here (by rw [kc_size]; exact sz23) (by simp only [kc_size]) (kc_one _) ?_); clear HM; intro W HM)))
        refine ⟨HM.held (by simp), ?_⟩
        clear HS1 HS2
        have HS1 : Held w W [.blk b5 (kc bef) 23] := HM.held (by simp)
        have HS2 : Held w W [.blk b5 (kc bef) 23] := HM.held (by simp)
        refine wm_q2 (i := 4) (v := ?v3_3) (some 12) rfl rfl rfl HS2 (fun W HS => ?y3_3) ?_
        case y3_3 => (go_simp; try with_reducible rfl)
        simp only [Act.put, List.getElem_toArray, List.getElem_cons_succ, List.getElem_cons_zero, List.setIfInBounds_toArray, List.set_cons_succ, List.set_cons_zero]
        refine wm_nilN ?_
        clear HS1 HS2
        go_wp2_with (fail)
        refine ret3 rfl (by (exact res_row HM rfl m1 Try.underlying23 rfl (by rw [kc_size]; exact sz23))) (by (exact res_row HM rfl m0 Try.underlying23 rfl (by rw [kc_size]; exact sz23))) (res_tmp rfl) rfl ?_
        exact ⟨_, rfl, [], [], rfl, Tx.nil _, HM.base.nilrow _ _⟩
      | false =>
        have hpe' : 1 ≤ p.length := by simp at hpe; omega
        have hx := headK_at bef p hpe'
        clear hpe
        have hpe3 : (0 : Int) < (p.length : Int) := by omega
        go_enter Try.func84, Try.ntmps84
        go_wp2_with (first
          | ((with_reducible refine s_ 5 ?_); go_must (refine wl_box (dst := some 5) (cs := kc bef) _ _ _ rfl rfl HM ?_; clear HM; intro b5 W HM))
          | ((with_reducible refine s_ 10 ?_); go_must (refine wl_alloc (dst := some 10) (cs := kc zeroKey) 23 _ Try.zeroValue23 kc_zero HM ?_; clear HM; intro b10 W HM))
          | ((with_reducible refine s_ 11 ?_); go_must (refine wl_alloc (dst := some 11) (cs := kc zeroKey) 23 _ Try.zeroValue23 kc_zero HM ?_; clear HM; intro b11 W HM)))
        replace HM := HM.drew
        refine wp_region_mixN (fun W => Held w W []) (fun W => Held w W []) (.cons (2, 0) (.cons (2, 1) (.cons (2, 2) (.cons (2, 3) (.cons (2, 4) (.cons (2, 5) (.cons (0, 6) (.cons (0, 7) (.cons (2, 8) .nil))))))))) [] (by kernel_rfl) (by kernel_rfl) (by kernel_rfl) (fun W h => Held.weak h (by simp)) (HM.held (by simp)) ?_
        revert HM; generalize World.drew _ = W; intro HM
        have HS1 : Held w W [] := HM.held (by simp)
        have HS2 : Held w W [] := HM.held (by simp)
        refine wm_q2 (i := 0) (v := ?v4_4) (some 31) rfl rfl rfl HS2 (fun W HS => ?y4_4) ?_
        case y4_4 => (go_simp; try with_reducible rfl)
        simp only [Act.put, List.getElem_toArray, List.getElem_cons_succ, List.getElem_cons_zero, List.setIfInBounds_toArray, List.set_cons_succ, List.set_cons_zero]
        (refine wm_q2x (i := 1) (some 32) rfl rfl rfl HS2 (ry_index _ 23 _ _ _ _ _ _ _ (fun W => Held w W []) W encK_len Try.underlying40 sz23 HS2 (fun W HS => hR.held HS) rfl rfl (by omega) (by first | assumption | simp [*])) ?_); intro p32 hp32
        simp only [Act.put, List.getElem_toArray, List.getElem_cons_succ, List.getElem_cons_zero, List.setIfInBounds_toArray, List.set_cons_succ, List.set_cons_zero]
        refine wm_q2 (i := 2) (some 33) rfl rfl rfl HS2 (fun W HS => (by refine ry_load_key _ _ _ _ ?_ (hp32 W HS) Try.underlying23 sz23; rfl)) ?_
        simp only [Act.put, List.getElem_toArray, List.getElem_cons_succ, List.getElem_cons_zero, List.setIfInBounds_toArray, List.set_cons_succ, List.set_cons_zero]
        refine wm_q2 (i := 3) (v := ?v4_6) (some 34) rfl rfl rfl HS2 (fun W HS => ?y4_6) ?_
        case y4_6 => (go_simp; try with_reducible rfl)
        simp only [Act.put, List.getElem_toArray, List.getElem_cons_succ, List.getElem_cons_zero, List.setIfInBounds_toArray, List.set_cons_succ, List.set_cons_zero]
        (refine wm_q2x (i := 4) (some 35) rfl rfl rfl HS2 (ry_index _ 23 _ _ _ _ _ _ _ (fun W => Held w W []) W encK_len Try.underlying40 sz23 HS2 (fun W HS => hR.held HS) rfl rfl (by omega) (by first | assumption | simp [*])) ?_); intro p35 hp35
        simp only [Act.put, List.getElem_toArray, List.getElem_cons_succ, List.getElem_cons_zero, List.setIfInBounds_toArray, List.set_cons_succ, List.set_cons_zero]
        refine wm_q2 (i := 5) (some 36) rfl rfl rfl HS2 (fun W HS => (by refine ry_load_key _ _ _ _ ?_ (hp35 W HS) Try.underlying23 sz23; rfl)) ?_
        simp only [Act.put, List.getElem_toArray, List.getElem_cons_succ, List.getElem_cons_zero, List.setIfInBounds_toArray, List.set_cons_succ, List.set_cons_zero]
        refine wm_e0 (i := 6) rfl ?_
        go_wp2_with (first
          | ((with_reducible refine st_ 23 ?_); go_must ((refine wl_store_blk _ _ _ _ _ _ _ rfl rfl HM (.there .here) (by rw [kc_size]; exact sz23) (by simp only [kc_size]) (kc_one _) ?_); clear HM; intro W HM)))
        refine ⟨HM.held (by simp), ?_⟩
        clear HS1 HS2
        have HS1 : Held w W [] := HM.held (by simp)
        have HS2 : Held w W [] := HM.held (by simp)
        refine wm_e0 (i := 7) rfl ?_
        go_wp2_with (first
          | ((with_reducible refine st_ 23 ?_); go_must ((refine wl_store_blk _ _ _ _ _ _ _ rfl rfl HM .here (by rw [kc_size]; exact sz23) (by simp only [kc_size]) (kc_one _) ?_); clear HM; intro W HM)))
        refine ⟨HM.held (by simp), ?_⟩
        clear HS1 HS2
        have HS1 : Held w W [] := HM.held (by simp)
        have HS2 : Held w W [] := HM.held (by simp)
        refine wm_q2 (i := 8) (v := ?v4_8) (some 12) rfl rfl rfl HS2 (fun W HS => ?y4_8) ?_
        case y4_8 => (go_simp; try with_reducible rfl)
        simp only [Act.put, List.getElem_toArray, List.getElem_cons_succ, List.getElem_cons_zero, List.setIfInBounds_toArray, List.set_cons_succ, List.set_cons_zero]
        refine wm_nilN ?_
        clear HS1 HS2
        go_wp2_with (fail)
        refine ret3 rfl (by (exact res_row HM rfl m1 Try.underlying23 rfl (by rw [kc_size]; exact sz23))) (by (exact res_row HM rfl m0 Try.underlying23 rfl (by rw [kc_size]; exact sz23))) (res_tmp rfl) rfl ?_
        exact ⟨_, rfl, [], [], rfl, Tx.nil _, HM.base.nilrow _ _⟩
    · have hb : ¬ (m : Int) = (n : Int) := by omega
      have hs := splitN_lt n (by omega)
      have hple : p.length ≤ 129 := by rw [hpl.eq]; have := partsN_le n m wh; omega
      have hpn : 1 ≤ p.length := by
        rw [hpl.eq]
        by_cases hlo : m ≤ splitN n
        · rw [partsN_lo n m wh h1 (by omega) hlo]; omega
        · rw [partsN_hi n m wh h1 (by omega) hlo]; omega
      have hw0 : IntKind.i64.wrap ((p.length : Int) - 1) = (p.length : Int) - 1 := by rw [IntKind.wrap_i64]; omega
      have ht : ((p.length : Int) - 1).toNat = p.length - 1 := by omega
      have hj1 : (0 : Int) ≤ (p.length : Int) - 1 := by omega
      have hj2 : (p.length : Int) - 1 ≤ (p.length : Int) := by omega
      have hj3 : (1 : Int) ≤ (p.length : Int) := by omega
      have hx : p[((p.length : Int) - 1).toNat]? = some (lastK p) := by rw [ht]; exact lastK_at p hpn
      by_cases hlo : m ≤ splitN n
      · have hb2 : (m : Int) ≤ ((splitN n : Nat) : Int) := by omega
        have hpl2 : FitgIs (p.take ((p.length : Int) - 1).toNat).length (splitN n) m wh := by
          rw [FitgIs, List.length_take, ht, hpl.eq, partsN_lo n m wh h1 (by omega) hlo]; omega
        have hz2 := growT_len (splitN n) bef m (p.take ((p.length : Int) - 1).toNat)
        obtain ⟨e1, e2, e3⟩ := grow_lo bef n m p h1 (by omega) hlo
        rw [e1, e2, e3]
        clear e1 e2 e3
        go_enter Try.func84, Try.ntmps84
        go_wp2_with (first
          | ((with_reducible refine s_ 5 ?_); go_must (refine wl_box (dst := some 5) (cs := kc bef) _ _ _ rfl rfl HM ?_; clear HM; intro b5 W HM))
          | ((with_reducible refine s_ 10 ?_); go_must (refine wl_alloc (dst := some 10) (cs := kc zeroKey) 23 _ Try.zeroValue23 kc_zero HM ?_; clear HM; intro b10 W HM))
          | ((with_reducible refine s_ 11 ?_); go_must (refine wl_alloc (dst := some 11) (cs := kc zeroKey) 23 _ Try.zeroValue23 kc_zero HM ?_; clear HM; intro b11 W HM))
          | (go_at_call 127; go_must (((with_reducible refine (rsplit_c _ (by omega) (by omega) _).mono ?_)); rintro e W ⟨rfl, HM'⟩; replace HM := HM.keep HM'.below; clear HM')))
        replace HM := HM.drew
        refine wp_region_mixN (fun W => Held w W []) (fun W => Held w W []) (.cons (2, 0) (.cons (2, 1) (.cons (2, 2) (.cons (2, 3) (.cons (2, 4) (.cons (2, 5) (.cons (2, 6) (.cons (2, 7) (.cons (2, 8) (.cons (2, 9) (.cons (2, 10) (.cons (0, 11) (.cons (2, 12) (.cons (0, 13) .nil)))))))))))))) [] (by kernel_rfl) (by kernel_rfl) (by kernel_rfl) (fun W h => Held.weak h (by simp)) (HM.held (by simp)) ?_
        revert HM; generalize World.drew _ = W; intro HM
        have HS1 : Held w W [] := HM.held (by simp)
        have HS2 : Held w W [] := HM.held (by simp)
        refine wm_q2 (i := 0) (v := ?v6_9) (some 39) rfl rfl rfl HS2 (fun W HS => ?y6_9) ?_
        case y6_9 => (go_simp; try with_reducible rfl)
        simp only [Act.put, List.getElem_toArray, List.getElem_cons_succ, List.getElem_cons_zero, List.setIfInBounds_toArray, List.set_cons_succ, List.set_cons_zero]
        refine wm_q2 (i := 1) (v := ?v6_10) (some 40) rfl rfl rfl HS2 (fun W HS => ?y6_10) ?_
        case y6_10 => (go_simp; try with_reducible rfl)
        simp only [Act.put, List.getElem_toArray, List.getElem_cons_succ, List.getElem_cons_zero, List.setIfInBounds_toArray, List.set_cons_succ, List.set_cons_zero]
        refine wm_q2 (i := 2) (some 41) rfl rfl rfl HS2 (fun W HS => (by ((refine ry_len _ _ _ _ 23 Try.underlying40 (hR.held HS) ?_; rfl)))) ?_
        simp only [Act.put, List.getElem_toArray, List.getElem_cons_succ, List.getElem_cons_zero, List.setIfInBounds_toArray, List.set_cons_succ, List.set_cons_zero]
        refine wm_q2 (i := 3) (v := ?v6_12) (some 42) rfl rfl rfl HS2 (fun W HS => ?y6_12) ?_
        case y6_12 => (go_simp; try with_reducible rfl)
        simp only [Act.put, List.getElem_toArray, List.getElem_cons_succ, List.getElem_cons_zero, List.setIfInBounds_toArray, List.set_cons_succ, List.set_cons_zero]
        (refine wm_q2x (i := 4) (some 43) rfl rfl rfl HS2 (ry_slice_hi _ 23 _ _ _ _ _ _ encK_len Try.underlying40 sz23 (hR.mem HM) rfl rfl (by omega) (by omega)) ?_); intro v43 hv43
        simp only [Act.put, List.getElem_toArray, List.getElem_cons_succ, List.getElem_cons_zero, List.setIfInBounds_toArray, List.set_cons_succ, List.set_cons_zero]
        refine wm_q2 (i := 5) (v := ?v6_13) (some 44) rfl rfl rfl HS2 (fun W HS => ?y6_13) ?_
        case y6_13 => (go_simp; try with_reducible rfl)
        simp only [Act.put, List.getElem_toArray, List.getElem_cons_succ, List.getElem_cons_zero, List.setIfInBounds_toArray, List.set_cons_succ, List.set_cons_zero]
        refine wm_q2 (i := 6) (v := ?v6_14) (some 45) rfl rfl rfl HS2 (fun W HS => ?y6_14) ?_
        case y6_14 => (go_simp; try with_reducible rfl)
        simp only [Act.put, List.getElem_toArray, List.getElem_cons_succ, List.getElem_cons_zero, List.setIfInBounds_toArray, List.set_cons_succ, List.set_cons_zero]
        refine wm_q2 (i := 7) (some 46) rfl rfl rfl HS2 (fun W HS => (by ((refine ry_len _ _ _ _ 23 Try.underlying40 (hR.held HS) ?_; rfl)))) ?_
        simp only [Act.put, List.getElem_toArray, List.getElem_cons_succ, List.getElem_cons_zero, List.setIfInBounds_toArray, List.set_cons_succ, List.set_cons_zero]
        refine wm_q2 (i := 8) (v := ?v6_16) (some 47) rfl rfl rfl HS2 (fun W HS => ?y6_16) ?_
        case y6_16 => (go_simp; try with_reducible rfl)
        simp only [Act.put, List.getElem_toArray, List.getElem_cons_succ, List.getElem_cons_zero, List.setIfInBounds_toArray, List.set_cons_succ, List.set_cons_zero]
        (refine wm_q2x (i := 9) (some 48) rfl rfl rfl HS2 (ry_index _ 23 _ _ _ _ _ _ _ (fun W => Held w W []) W encK_len Try.underlying40 sz23 HS2 (fun W HS => hR.held HS) rfl rfl (by omega) (by first | assumption | simp [*])) ?_); intro p48 hp48
        simp only [Act.put, List.getElem_toArray, List.getElem_cons_succ, List.getElem_cons_zero, List.setIfInBounds_toArray, List.set_cons_succ, List.set_cons_zero]
        refine wm_q2 (i := 10) (some 49) rfl rfl rfl HS2 (fun W HS => (by refine ry_load_key _ _ _ _ ?_ (hp48 W HS) Try.underlying23 sz23; rfl)) ?_
        simp only [Act.put, List.getElem_toArray, List.getElem_cons_succ, List.getElem_cons_zero, List.setIfInBounds_toArray, List.set_cons_succ, List.set_cons_zero]
        refine wm_e0 (i := 11) rfl ?_
        go_wp2_with (first
          | ((with_reducible refine s_ 15 ?_); go_must (refine wl_alloc (dst := some 15) (cs := kc zeroKey) 23 _ Try.zeroValue23 kc_zero HM ?_; clear HM; intro b15 W HM)))
        refine ⟨HM.held (by simp), ?_⟩
        clear HS1 HS2
        have HS1 : Held w W [] := HM.held (by simp)
        have HS2 : Held w W [] := HM.held (by simp)
        refine wm_q2 (i := 12) (v := ?v6_18) (some 14) rfl rfl rfl HS2 (fun W HS => ?y6_18) ?_
        case y6_18 => (go_simp; try with_reducible rfl)
        simp only [Act.put, List.getElem_toArray, List.getElem_cons_succ, List.getElem_cons_zero, List.setIfInBounds_toArray, List.set_cons_succ, List.set_cons_zero]
        refine wm_e0 (i := 13) rfl ?_
        go_wp2_with (first
          | ((with_reducible refine st_ 23 ?_); go_must ((refine wl_store_blk _ _ _ _ _ _ _ rfl rfl HM .here (by rw [kc_size]; exact sz23) (by simp only [kc_size]) (kc_one _) ?_); clear HM; intro W HM)))
        refine ⟨HM.held (by simp), ?_⟩
        clear HS1 HS2
        have HS1 : Held w W [] := HM.held (by simp)
        have HS2 : Held w W [] := HM.held (by simp)
        refine wm_nilN ?_
        clear HS1 HS2
        go_wp2_with (first
          | ((with_reducible refine s_ 16 ?_); go_must (refine wl_alloc (dst := some 16) (cs := kc zeroKey) 23 _ Try.zeroValue23 kc_zero HM ?_; clear HM; intro b16 W HM))
          | ((with_reducible refine s_ 17 ?_); go_must (refine wl_alloc (dst := some 17) (cs := kc zeroKey) 23 _ Try.zeroValue23 kc_zero HM ?_; clear HM; intro b17 W HM))
          | ((with_reducible refine ld_ 23 ?_); go_must (refine wl_load_blk _ _ _ _ _ _ rfl HM (by repeat first | exact List.mem_cons_self .. | refine List.mem_cons_of_mem _ ?_) Try.underlying23 rfl (by rw [kc_size]; exact sz23) ?_))
          | ((with_reducible refine st_ 23 ?_); go_must ((first | refine wl_store_blk _ _ _ _ _ _ _ rfl rfl HM .here (by rw [kc_size]; exact sz23) (by simp only [kc_size]) (kc_one _) ?_ | refine wl_store_blk _ _ _ _ _ _ _ rfl rfl HM (.there .here) (by rw [kc_size]; exact sz23) (by simp only [kc_size]) (kc_one _) ?_); clear HM; intro W HM))
          | (go_at_call 84; go_must (((with_reducible refine (ih (splitN n) (by omega) m wh _ _ _ (hv43 _ (hR.mem HM)) h1 (by omega) (by omega) hpl2).mono ?_)); rintro e W ⟨u1, rfl, us1, R1, hT1, hX1, HM'⟩; replace HM := HM.join HM'; clear HM'; simp only [List.cons_append, List.nil_append] at HM; replace HM := HM.bk; simp only [List.cons_append, List.nil_append] at HM))
          | (go_at_call 128; go_must (((with_reducible refine (rnodeTextT _ _ _).mono ?_)); rintro e W ⟨q, rfl, HM'⟩; replace HM := HM.join HM'; clear HM'; simp only [List.cons_append, List.nil_append] at HM)))
        rw [ht] at hT1 hz2
        replace HM := HM.drew
        refine wp_region_mixN (fun W => Held w W [.blk b16 (kc (growA bef (splitN n) m (p.take (p.length - 1)))) 23]) (fun W => Held w W [.blk b16 (kc (growA bef (splitN n) m (p.take (p.length - 1)))) 23]) (.cons (2, 0) (.cons (2, 1) (.cons (2, 3) (.cons (2, 4) (.fork2 2 (.cons (0, 5) (.cons (0, 6) (.cons (0, 7) (.cons (0, 8) (.cons (2, 9) .nil))))) 5 (.cons (0, 2) (.cons (0, 6) (.cons (0, 7) (.cons (0, 8) (.cons (2, 9) .nil)))))))))) [] (by kernel_rfl) (by kernel_rfl) (by kernel_rfl) (fun W h => Held.weak h (by simp)) (HM.held (by simp)) ?_
        revert HM; generalize World.drew _ = W; intro HM
        have HS1 : Held w W [.blk b16 (kc (growA bef (splitN n) m (p.take (p.length - 1)))) 23] := HM.held (by simp)
        have HS2 : Held w W [.blk b16 (kc (growA bef (splitN n) m (p.take (p.length - 1)))) 23] := HM.held (by simp)
        refine wm_q2 (i := 0) (some 66) rfl rfl rfl HS2 (fun W HS => (by ((refine ry_load_blk _ _ _ _ _ _ HS ?_ m0 Try.underlying23 rfl (by rw [kc_size]; exact sz23); rfl)))) ?_
        simp only [Act.put, List.getElem_toArray, List.getElem_cons_succ, List.getElem_cons_zero, List.setIfInBounds_toArray, List.set_cons_succ, List.set_cons_zero]
        refine wm_q2 (i := 1) (v := ?v10_20) (some 67) rfl rfl rfl HS2 (fun W HS => ?y10_20) ?_
        case y10_20 => (go_simp; try with_reducible rfl)
        simp only [Act.put, List.getElem_toArray, List.getElem_cons_succ, List.getElem_cons_zero, List.setIfInBounds_toArray, List.set_cons_succ, List.set_cons_zero]
        refine wm_q2 (i := 3) (v := ?v10_21) (some 69) rfl rfl rfl HS2 (fun W HS => ?y10_21) ?_
        case y10_21 => (go_simp; try with_reducible rfl)
        simp only [Act.put, List.getElem_toArray, List.getElem_cons_succ, List.getElem_cons_zero, List.setIfInBounds_toArray, List.set_cons_succ, List.set_cons_zero]
        refine wm_q2 (i := 4) (v := ?v10_22) (some 70) rfl rfl rfl HS2 (fun W HS => ?y10_22) ?_
        case y10_22 => (go_simp; try with_reducible rfl)
        simp only [Act.put, List.getElem_toArray, List.getElem_cons_succ, List.getElem_cons_zero, List.setIfInBounds_toArray, List.set_cons_succ, List.set_cons_zero]
        refine wm_fork2 ?br23 ?br24
        case' br23 =>
          refine wm_e0 (i := 2) rfl ?_
          go_wp2_with (first
            | (go_at_call 125; go_must (((with_reducible refine (rdigest_c _ _ _ (rd_text HM m0) (by rw [textNode_len]; decide)).mono ?_)); rintro e W ⟨rfl, HM'⟩; replace HM := HM.keep HM'.below; clear HM')))
          refine ⟨HM.held (by simp), ?_⟩
          clear HS1 HS2
          have HS1 : Held w W [.blk b16 (kc (growA bef (splitN n) m (p.take (p.length - 1)))) 23] := HM.held (by simp)
          have HS2 : Held w W [.blk b16 (kc (growA bef (splitN n) m (p.take (p.length - 1)))) 23] := HM.held (by simp)
          refine wm_e0 (i := 5) rfl ?_
          go_wp2_with (first
            | ((with_reducible refine s_ 71 ?_); go_must ((refine wl_slice1V (dst := some 71) _ _ _ q Try.underlying45 Try.sizeOf24 Try.zeroValue24 (text_cells HM m0) rfl HM ?_; clear HM; intro b71 W HM))))
          refine ⟨HM.held (by simp), ?_⟩
          clear HS1 HS2
          have HS1 : Held w W [.blk b16 (kc (growA bef (splitN n) m (p.take (p.length - 1)))) 23] := HM.held (by simp)
          have HS2 : Held w W [.blk b16 (kc (growA bef (splitN n) m (p.take (p.length - 1)))) 23] := HM.held (by simp)
          refine wm_e0 (i := 6) rfl ?_
          go_wp2_with (first
            | ((with_reducible refine s_ 72 ?_); go_must ((refine wl_appendM (dst := some 72) (enc := encV) _ _ _ _ _ _ _ _ _ _ _ [q] Try.underlying45 inf24 rfl (by decide) encV_len (by intro y hy; rw [List.mem_singleton.1 hy]; exact encV_one q (text_one HM m1)) HM (.there (.there (.there (.there (.there (.there (.there (.there .here)))))))) (RdL.of_blk (HM.blk m0) _ 1 rfl (by simp [encV]) (by decide)) rfl rfl (by decide) (by have := hT1.len; simp; omega) ?_; clear HM; intro v72 W HM; try dsimp only at HM))))
          refine ⟨HM.held (by simp), ?_⟩
          clear HS1 HS2
          have HS1 : Held w W [.blk b16 (kc (growA bef (splitN n) m (p.take (p.length - 1)))) 23] := HM.held (by simp)
          have HS2 : Held w W [.blk b16 (kc (growA bef (splitN n) m (p.take (p.length - 1)))) 23] := HM.held (by simp)
          refine wm_e0 (i := 7) rfl ?_
          go_wp2_with (first
            | ((with_reducible refine st_ 23 ?_); go_must ((refine wl_store_blk _ _ _ _ _ _ _ rfl rfl HM (.there (.there (.there (.there (.there (.there .here)))))) (by rw [kc_size]; exact sz23) (by simp only [kc_size]) (kc_one _) ?_); clear HM; intro W HM)))
          refine ⟨HM.held (by simp), ?_⟩
          clear HS1 HS2
          have HS1 : Held w W [.blk b16 (kc (growA bef (splitN n) m (p.take (p.length - 1)))) 23] := HM.held (by simp)
          have HS2 : Held w W [.blk b16 (kc (growA bef (splitN n) m (p.take (p.length - 1)))) 23] := HM.held (by simp)
          refine wm_e0 (i := 8) rfl ?_
          go_wp2_with (first
            | ((with_reducible refine st_ 23 ?_); go_must ((refine wl_store_blk _ _ _ _ _ _ _ rfl rfl HM (.there (.there (.there (.there (.there .here))))) (by rw [kc_size]; exact sz23) (by simp only [kc_size]) (kc_one _) ?_); clear HM; intro W HM)))
          refine ⟨HM.held (by simp), ?_⟩
          clear HS1 HS2
          have HS1 : Held w W [.blk b16 (kc (growA bef (splitN n) m (p.take (p.length - 1)))) 23] := HM.held (by simp)
          have HS2 : Held w W [.blk b16 (kc (growA bef (splitN n) m (p.take (p.length - 1)))) 23] := HM.held (by simp)
          refine wm_q2 (i := 9) (v := ?v10_25) (some 12) rfl rfl rfl HS2 (fun W HS => ?y10_25) ?_
          case y10_25 => (go_simp; try with_reducible rfl)
          simp only [Act.put, List.getElem_toArray, List.getElem_cons_succ, List.getElem_cons_zero, List.setIfInBounds_toArray, List.set_cons_succ, List.set_cons_zero]
          refine wm_nilN ?_
          clear HS1 HS2
        case' br24 =>
          refine wm_e0 (i := 5) rfl ?_
          go_wp2_with (first
            | ((with_reducible refine s_ 71 ?_); go_must ((refine wl_slice1V (dst := some 71) _ _ _ q Try.underlying45 Try.sizeOf24 Try.zeroValue24 (text_cells HM m0) rfl HM ?_; clear HM; intro b71 W HM))))
          refine ⟨HM.held (by simp), ?_⟩
          clear HS1 HS2
          have HS1 : Held w W [.blk b16 (kc (growA bef (splitN n) m (p.take (p.length - 1)))) 23] := HM.held (by simp)
          have HS2 : Held w W [.blk b16 (kc (growA bef (splitN n) m (p.take (p.length - 1)))) 23] := HM.held (by simp)
          refine wm_e0 (i := 2) rfl ?_
          go_wp2_with (first
            | (go_at_call 125; go_must (((with_reducible refine (rdigest_c _ _ _ (rd_text HM m1) (by rw [textNode_len]; decide)).mono ?_)); rintro e W ⟨rfl, HM'⟩; replace HM := HM.keep HM'.below; clear HM')))
          refine ⟨HM.held (by simp), ?_⟩
          clear HS1 HS2
          have HS1 : Held w W [.blk b16 (kc (growA bef (splitN n) m (p.take (p.length - 1)))) 23] := HM.held (by simp)
          have HS2 : Held w W [.blk b16 (kc (growA bef (splitN n) m (p.take (p.length - 1)))) 23] := HM.held (by simp)
          refine wm_e0 (i := 6) rfl ?_
          go_wp2_with (first
            | ((with_reducible refine s_ 72 ?_); go_must ((refine wl_appendM (dst := some 72) (enc := encV) _ _ _ _ _ _ _ _ _ _ _ [q] Try.underlying45 inf24 rfl (by decide) encV_len (by intro y hy; rw [List.mem_singleton.1 hy]; exact encV_one q (text_one HM m1)) HM (.there (.there (.there (.there (.there (.there (.there (.there .here)))))))) (RdL.of_blk (HM.blk m0) _ 1 rfl (by simp [encV]) (by decide)) rfl rfl (by decide) (by have := hT1.len; simp; omega) ?_; clear HM; intro v72 W HM; try dsimp only at HM))))
          refine ⟨HM.held (by simp), ?_⟩
          clear HS1 HS2
          have HS1 : Held w W [.blk b16 (kc (growA bef (splitN n) m (p.take (p.length - 1)))) 23] := HM.held (by simp)
          have HS2 : Held w W [.blk b16 (kc (growA bef (splitN n) m (p.take (p.length - 1)))) 23] := HM.held (by simp)
          refine wm_e0 (i := 7) rfl ?_
          go_wp2_with (first
            | ((with_reducible refine st_ 23 ?_); go_must ((refine wl_store_blk _ _ _ _ _ _ _ rfl rfl HM (.there (.there (.there (.there (.there (.there .here)))))) (by rw [kc_size]; exact sz23) (by simp only [kc_size]) (kc_one _) ?_); clear HM; intro W HM)))
          refine ⟨HM.held (by simp), ?_⟩
          clear HS1 HS2
          have HS1 : Held w W [.blk b16 (kc (growA bef (splitN n) m (p.take (p.length - 1)))) 23] := HM.held (by simp)
          have HS2 : Held w W [.blk b16 (kc (growA bef (splitN n) m (p.take (p.length - 1)))) 23] := HM.held (by simp)
          refine wm_e0 (i := 8) rfl ?_
          go_wp2_with (first
            | ((with_reducible refine st_ 23 ?_); go_must ((refine wl_store_blk _ _ _ _ _ _ _ rfl rfl HM (.there (.there (.there (.there (.there .here))))) (by rw [kc_size]; exact sz23) (by simp only [kc_size]) (kc_one _) ?_); clear HM; intro W HM)))
          refine ⟨HM.held (by simp), ?_⟩
          clear HS1 HS2
          have HS1 : Held w W [.blk b16 (kc (growA bef (splitN n) m (p.take (p.length - 1)))) 23] := HM.held (by simp)
          have HS2 : Held w W [.blk b16 (kc (growA bef (splitN n) m (p.take (p.length - 1)))) 23] := HM.held (by simp)
          refine wm_q2 (i := 9) (v := ?v10_26) (some 12) rfl rfl rfl HS2 (fun W HS => ?y10_26) ?_
          case y10_26 => (go_simp; try with_reducible rfl)
          simp only [Act.put, List.getElem_toArray, List.getElem_cons_succ, List.getElem_cons_zero, List.setIfInBounds_toArray, List.set_cons_succ, List.set_cons_zero]
          refine wm_nilN ?_
          clear HS1 HS2
        all_goals
          go_wp2_with (fail)
          refine ret3 rfl (by (exact res_row HM rfl m6 Try.underlying23 rfl (by rw [kc_size]; exact sz23))) (by (exact res_row HM rfl m5 Try.underlying23 rfl (by rw [kc_size]; exact sz23))) (res_tmp rfl) rfl ?_
          have H := (HM.sub (.cons _ (.cons_cons _ (.cons _ (.cons _ (.cons _ (.cons _ (.cons _ (.cons _ (.refl _)))))))))).perm (List.Perm.swap _ _ _)
          rw [valsT_snoc _ _ (textNode (growB bef (splitN n) m (p.take (p.length - 1))) (lastK p)), show us1.length + [q].length = (us1 ++ [(q, (textNode (growB bef (splitN n) m (p.take (p.length - 1))) (lastK p)))]).length by simp] at H
          exact ⟨v72, rfl, _, _, hT1.app (TxIs.one q _), (Tx.inr [rowT _] hX1).app (Tx.one m0), H⟩
      · have hb2 : ¬ (m : Int) ≤ ((splitN n : Nat) : Int) := by omega
        have hw1 : IntKind.i64.wrap ((n : Int) - ((splitN n : Nat) : Int)) = ((n - splitN n : Nat) : Int) := by rw [IntKind.wrap_i64]; omega
        have hw2 : IntKind.i64.wrap ((m : Int) - ((splitN n : Nat) : Int)) = ((m - splitN n : Nat) : Int) := by rw [IntKind.wrap_i64]; omega
        have hpl2 : FitgIs (p.take ((p.length : Int) - 1).toNat).length (n - splitN n) (m - splitN n) false := by
          rw [FitgIs, List.length_take, ht, hpl.eq, partsN_hi n m wh h1 (by omega) hlo]; omega
        have hz2 := growT_len (n - splitN n) bef (m - splitN n) (p.take ((p.length : Int) - 1).toNat)
        obtain ⟨e1, e2, e3⟩ := grow_hi bef n m p h1 (by omega) hlo
        rw [e1, e2, e3]
        clear e1 e2 e3
        go_enter Try.func84, Try.ntmps84
        go_wp2_with (first
          | ((with_reducible refine s_ 5 ?_); go_must (refine wl_box (dst := some 5) (cs := kc bef) _ _ _ rfl rfl HM ?_; clear HM; intro b5 W HM))
          | ((with_reducible refine s_ 10 ?_); go_must (refine wl_alloc (dst := some 10) (cs := kc zeroKey) 23 _ Try.zeroValue23 kc_zero HM ?_; clear HM; intro b10 W HM))
          | ((with_reducible refine s_ 11 ?_); go_must (refine wl_alloc (dst := some 11) (cs := kc zeroKey) 23 _ Try.zeroValue23 kc_zero HM ?_; clear HM; intro b11 W HM))
          | (go_at_call 127; go_must (((with_reducible refine (rsplit_c _ (by omega) (by omega) _).mono ?_)); rintro e W ⟨rfl, HM'⟩; replace HM := HM.keep HM'.below; clear HM')))
        replace HM := HM.drew
        refine wp_region_mixN (fun W => Held w W []) (fun W => Held w W []) (.cons (2, 0) (.cons (2, 1) (.cons (2, 2) (.cons (2, 3) (.cons (2, 4) (.cons (2, 5) (.cons (2, 6) (.cons (2, 7) (.cons (2, 8) (.cons (2, 9) (.cons (2, 10) (.cons (0, 11) (.cons (2, 12) (.cons (0, 13) .nil)))))))))))))) [] (by kernel_rfl) (by kernel_rfl) (by kernel_rfl) (fun W h => Held.weak h (by simp)) (HM.held (by simp)) ?_
        revert HM; generalize World.drew _ = W; intro HM
        have HS1 : Held w W [] := HM.held (by simp)
        have HS2 : Held w W [] := HM.held (by simp)
        refine wm_q2 (i := 0) (v := ?v6_27) (some 39) rfl rfl rfl HS2 (fun W HS => ?y6_27) ?_
        case y6_27 => (go_simp; try with_reducible rfl)
        simp only [Act.put, List.getElem_toArray, List.getElem_cons_succ, List.getElem_cons_zero, List.setIfInBounds_toArray, List.set_cons_succ, List.set_cons_zero]
        refine wm_q2 (i := 1) (v := ?v6_28) (some 40) rfl rfl rfl HS2 (fun W HS => ?y6_28) ?_
        case y6_28 => (go_simp; try with_reducible rfl)
        simp only [Act.put, List.getElem_toArray, List.getElem_cons_succ, List.getElem_cons_zero, List.setIfInBounds_toArray, List.set_cons_succ, List.set_cons_zero]
        refine wm_q2 (i := 2) (some 41) rfl rfl rfl HS2 (fun W HS => (by ((refine ry_len _ _ _ _ 23 Try.underlying40 (hR.held HS) ?_; rfl)))) ?_
        simp only [Act.put, List.getElem_toArray, List.getElem_cons_succ, List.getElem_cons_zero, List.setIfInBounds_toArray, List.set_cons_succ, List.set_cons_zero]
        refine wm_q2 (i := 3) (v := ?v6_30) (some 42) rfl rfl rfl HS2 (fun W HS => ?y6_30) ?_
        case y6_30 => (go_simp; try with_reducible rfl)
        simp only [Act.put, List.getElem_toArray, List.getElem_cons_succ, List.getElem_cons_zero, List.setIfInBounds_toArray, List.set_cons_succ, List.set_cons_zero]
        (refine wm_q2x (i := 4) (some 43) rfl rfl rfl HS2 (ry_slice_hi _ 23 _ _ _ _ _ _ encK_len Try.underlying40 sz23 (hR.mem HM) rfl rfl (by omega) (by omega)) ?_); intro v43 hv43
        simp only [Act.put, List.getElem_toArray, List.getElem_cons_succ, List.getElem_cons_zero, List.setIfInBounds_toArray, List.set_cons_succ, List.set_cons_zero]
        refine wm_q2 (i := 5) (v := ?v6_31) (some 44) rfl rfl rfl HS2 (fun W HS => ?y6_31) ?_
        case y6_31 => (go_simp; try with_reducible rfl)
        simp only [Act.put, List.getElem_toArray, List.getElem_cons_succ, List.getElem_cons_zero, List.setIfInBounds_toArray, List.set_cons_succ, List.set_cons_zero]
        refine wm_q2 (i := 6) (v := ?v6_32) (some 45) rfl rfl rfl HS2 (fun W HS => ?y6_32) ?_
        case y6_32 => (go_simp; try with_reducible rfl)
        simp only [Act.put, List.getElem_toArray, List.getElem_cons_succ, List.getElem_cons_zero, List.setIfInBounds_toArray, List.set_cons_succ, List.set_cons_zero]
        refine wm_q2 (i := 7) (some 46) rfl rfl rfl HS2 (fun W HS => (by ((refine ry_len _ _ _ _ 23 Try.underlying40 (hR.held HS) ?_; rfl)))) ?_
        simp only [Act.put, List.getElem_toArray, List.getElem_cons_succ, List.getElem_cons_zero, List.setIfInBounds_toArray, List.set_cons_succ, List.set_cons_zero]
        refine wm_q2 (i := 8) (v := ?v6_34) (some 47) rfl rfl rfl HS2 (fun W HS => ?y6_34) ?_
        case y6_34 => (go_simp; try with_reducible rfl)
        simp only [Act.put, List.getElem_toArray, List.getElem_cons_succ, List.getElem_cons_zero, List.setIfInBounds_toArray, List.set_cons_succ, List.set_cons_zero]
        (refine wm_q2x (i := 9) (some 48) rfl rfl rfl HS2 (ry_index _ 23 _ _ _ _ _ _ _ (fun W => Held w W []) W encK_len Try.underlying40 sz23 HS2 (fun W HS => hR.held HS) rfl rfl (by omega) (by first | assumption | simp [*])) ?_); intro p48 hp48
        simp only [Act.put, List.getElem_toArray, List.getElem_cons_succ, List.getElem_cons_zero, List.setIfInBounds_toArray, List.set_cons_succ, List.set_cons_zero]
        refine wm_q2 (i := 10) (some 49) rfl rfl rfl HS2 (fun W HS => (by refine ry_load_key _ _ _ _ ?_ (hp48 W HS) Try.underlying23 sz23; rfl)) ?_
        simp only [Act.put, List.getElem_toArray, List.getElem_cons_succ, List.getElem_cons_zero, List.setIfInBounds_toArray, List.set_cons_succ, List.set_cons_zero]
        refine wm_e0 (i := 11) rfl ?_
        go_wp2_with (first
          | ((with_reducible refine s_ 15 ?_); go_must (refine wl_alloc (dst := some 15) (cs := kc zeroKey) 23 _ Try.zeroValue23 kc_zero HM ?_; clear HM; intro b15 W HM)))
        refine ⟨HM.held (by simp), ?_⟩
        clear HS1 HS2
        have HS1 : Held w W [] := HM.held (by simp)
        have HS2 : Held w W [] := HM.held (by simp)
        refine wm_q2 (i := 12) (v := ?v6_36) (some 14) rfl rfl rfl HS2 (fun W HS => ?y6_36) ?_
        case y6_36 => (go_simp; try with_reducible rfl)
        simp only [Act.put, List.getElem_toArray, List.getElem_cons_succ, List.getElem_cons_zero, List.setIfInBounds_toArray, List.set_cons_succ, List.set_cons_zero]
        refine wm_e0 (i := 13) rfl ?_
        go_wp2_with (first
          | ((with_reducible refine st_ 23 ?_); go_must ((refine wl_store_blk _ _ _ _ _ _ _ rfl rfl HM .here (by rw [kc_size]; exact sz23) (by simp only [kc_size]) (kc_one _) ?_); clear HM; intro W HM)))
        refine ⟨HM.held (by simp), ?_⟩
        clear HS1 HS2
        have HS1 : Held w W [] := HM.held (by simp)
        have HS2 : Held w W [] := HM.held (by simp)
        refine wm_nilN ?_
        clear HS1 HS2
        go_wp2_with (first
          | ((with_reducible refine s_ 20 ?_); go_must (refine wl_alloc (dst := some 20) (cs := kc zeroKey) 23 _ Try.zeroValue23 kc_zero HM ?_; clear HM; intro b20 W HM))
          | ((with_reducible refine s_ 21 ?_); go_must (refine wl_alloc (dst := some 21) (cs := kc zeroKey) 23 _ Try.zeroValue23 kc_zero HM ?_; clear HM; intro b21 W HM))
          | ((with_reducible refine ld_ 23 ?_); go_must (refine wl_load_blk _ _ _ _ _ _ rfl HM (by repeat first | exact List.mem_cons_self .. | refine List.mem_cons_of_mem _ ?_) Try.underlying23 rfl (by rw [kc_size]; exact sz23) ?_))
          | ((with_reducible refine st_ 23 ?_); go_must ((first | refine wl_store_blk _ _ _ _ _ _ _ rfl rfl HM .here (by rw [kc_size]; exact sz23) (by simp only [kc_size]) (kc_one _) ?_ | refine wl_store_blk _ _ _ _ _ _ _ rfl rfl HM (.there .here) (by rw [kc_size]; exact sz23) (by simp only [kc_size]) (kc_one _) ?_); clear HM; intro W HM))
          | (go_at_call 84; go_must (((with_reducible refine (ih (n - splitN n) (by omega) (m - splitN n) false _ _ _ (hv43 _ (hR.mem HM)) (by omega) (by omega) (by omega) hpl2).mono ?_)); rintro e W ⟨u1, rfl, us1, R1, hT1, hX1, HM'⟩; replace HM := HM.join HM'; clear HM'; simp only [List.cons_append, List.nil_append] at HM; replace HM := HM.bk; simp only [List.cons_append, List.nil_append] at HM)))
        rw [ht] at hT1 hz2
        replace HM := HM.drew
        refine wp_region_mixN (fun W => Held w W [.blk b15 (kc (lastK p)) 23, .blk b20 (kc (growA bef (n - splitN n) (m - splitN n) (p.take (p.length - 1)))) 23, .blk b21 (kc (growB bef (n - splitN n) (m - splitN n) (p.take (p.length - 1)))) 23]) (fun W => Held w W [.blk b15 (kc (lastK p)) 23, .blk b20 (kc (growA bef (n - splitN n) (m - splitN n) (p.take (p.length - 1)))) 23, .blk b21 (kc (growB bef (n - splitN n) (m - splitN n) (p.take (p.length - 1)))) 23]) (.cons (2, 0) (.cons (2, 1) (.cons (2, 3) (.cons (2, 4) (.cons (0, 2) (.cons (0, 5) (.cons (2, 6) (.cons (2, 7) .nil)))))))) [] (by kernel_rfl) (by kernel_rfl) (by kernel_rfl) (fun W h => Held.weak h (by simp)) (HM.held (by simp)) ?_
        revert HM; generalize World.drew _ = W; intro HM
        have HS1 : Held w W [.blk b15 (kc (lastK p)) 23, .blk b20 (kc (growA bef (n - splitN n) (m - splitN n) (p.take (p.length - 1)))) 23, .blk b21 (kc (growB bef (n - splitN n) (m - splitN n) (p.take (p.length - 1)))) 23] := HM.held (by simp)
        have HS2 : Held w W [.blk b15 (kc (lastK p)) 23, .blk b20 (kc (growA bef (n - splitN n) (m - splitN n) (p.take (p.length - 1)))) 23, .blk b21 (kc (growB bef (n - splitN n) (m - splitN n) (p.take (p.length - 1)))) 23] := HM.held (by simp)
        refine wm_q2 (i := 0) (some 86) rfl rfl rfl HS2 (fun W HS => (by ((refine ry_load_blk _ _ _ _ _ _ HS ?_ m0 Try.underlying23 rfl (by rw [kc_size]; exact sz23); rfl)))) ?_
        simp only [Act.put, List.getElem_toArray, List.getElem_cons_succ, List.getElem_cons_zero, List.setIfInBounds_toArray, List.set_cons_succ, List.set_cons_zero]
        refine wm_q2 (i := 1) (some 87) rfl rfl rfl HS2 (fun W HS => (by ((refine ry_load_blk _ _ _ _ _ _ HS ?_ m1 Try.underlying23 rfl (by rw [kc_size]; exact sz23); rfl)))) ?_
        simp only [Act.put, List.getElem_toArray, List.getElem_cons_succ, List.getElem_cons_zero, List.setIfInBounds_toArray, List.set_cons_succ, List.set_cons_zero]
        refine wm_q2 (i := 3) (some 89) rfl rfl rfl HS2 (fun W HS => (by ((refine ry_load_blk _ _ _ _ _ _ HS ?_ m0 Try.underlying23 rfl (by rw [kc_size]; exact sz23); rfl)))) ?_
        simp only [Act.put, List.getElem_toArray, List.getElem_cons_succ, List.getElem_cons_zero, List.setIfInBounds_toArray, List.set_cons_succ, List.set_cons_zero]
        refine wm_q2 (i := 4) (some 90) rfl rfl rfl HS2 (fun W HS => (by ((refine ry_load_blk _ _ _ _ _ _ HS ?_ m2 Try.underlying23 rfl (by rw [kc_size]; exact sz23); rfl)))) ?_
        simp only [Act.put, List.getElem_toArray, List.getElem_cons_succ, List.getElem_cons_zero, List.setIfInBounds_toArray, List.set_cons_succ, List.set_cons_zero]
        refine wm_e0 (i := 2) rfl ?_
        go_wp2_with (first
          | (go_at_call 128; go_must (first | ((with_reducible refine (rnodeTextT (lastK p) (growA bef (n - splitN n) (m - splitN n) (p.take (p.length - 1))) _).mono ?_); rintro e W ⟨q1, rfl, HM'⟩; replace HM := HM.join HM'; clear HM'; simp only [List.cons_append, List.nil_append] at HM) | ((with_reducible refine (rnodeTextT (lastK p) (growB bef (n - splitN n) (m - splitN n) (p.take (p.length - 1))) _).mono ?_); rintro e W ⟨q2, rfl, HM'⟩; replace HM := HM.join HM'; clear HM'; simp only [List.cons_append, List.nil_append] at HM))))
        refine ⟨HM.held (by simp), ?_⟩
        clear HS1 HS2
        have HS1 : Held w W [.blk b15 (kc (lastK p)) 23, .blk b20 (kc (growA bef (n - splitN n) (m - splitN n) (p.take (p.length - 1)))) 23, .blk b21 (kc (growB bef (n - splitN n) (m - splitN n) (p.take (p.length - 1)))) 23] := HM.held (by simp)
        have HS2 : Held w W [.blk b15 (kc (lastK p)) 23, .blk b20 (kc (growA bef (n - splitN n) (m - splitN n) (p.take (p.length - 1)))) 23, .blk b21 (kc (growB bef (n - splitN n) (m - splitN n) (p.take (p.length - 1)))) 23] := HM.held (by simp)
        refine wm_e0 (i := 5) rfl ?_
        go_wp2_with (first
          | (go_at_call 128; go_must (first | ((with_reducible refine (rnodeTextT (lastK p) (growA bef (n - splitN n) (m - splitN n) (p.take (p.length - 1))) _).mono ?_); rintro e W ⟨q1, rfl, HM'⟩; replace HM := HM.join HM'; clear HM'; simp only [List.cons_append, List.nil_append] at HM) | ((with_reducible refine (rnodeTextT (lastK p) (growB bef (n - splitN n) (m - splitN n) (p.take (p.length - 1))) _).mono ?_); rintro e W ⟨q2, rfl, HM'⟩; replace HM := HM.join HM'; clear HM'; simp only [List.cons_append, List.nil_append] at HM))))
        refine ⟨HM.held (by simp), ?_⟩
        clear HS1 HS2
        have HS1 : Held w W [.blk b15 (kc (lastK p)) 23, .blk b20 (kc (growA bef (n - splitN n) (m - splitN n) (p.take (p.length - 1)))) 23, .blk b21 (kc (growB bef (n - splitN n) (m - splitN n) (p.take (p.length - 1)))) 23] := HM.held (by simp)
        have HS2 : Held w W [.blk b15 (kc (lastK p)) 23, .blk b20 (kc (growA bef (n - splitN n) (m - splitN n) (p.take (p.length - 1)))) 23, .blk b21 (kc (growB bef (n - splitN n) (m - splitN n) (p.take (p.length - 1)))) 23] := HM.held (by simp)
        refine wm_q2 (i := 6) (v := ?v12_41) (some 23) rfl rfl rfl HS2 (fun W HS => ?y12_41) ?_
        case y12_41 => (go_simp; try with_reducible rfl)
        simp only [Act.put, List.getElem_toArray, List.getElem_cons_succ, List.getElem_cons_zero, List.setIfInBounds_toArray, List.set_cons_succ, List.set_cons_zero]
        refine wm_q2 (i := 7) (v := ?v12_42) (some 24) rfl rfl rfl HS2 (fun W HS => ?y12_42) ?_
        case y12_42 => (go_simp; try with_reducible rfl)
        simp only [Act.put, List.getElem_toArray, List.getElem_cons_succ, List.getElem_cons_zero, List.setIfInBounds_toArray, List.set_cons_succ, List.set_cons_zero]
        refine wm_nilN ?_
        clear HS1 HS2
        go_wp2_with (first
          | ((with_reducible refine s_ 99 ?_); go_must ((refine wl_slice2V (dst := some 99) _ _ _ _ q1 q2 Try.underlying45 Try.sizeOf24 Try.zeroValue24 (text_cells HM m1) (text_cells HM m0) rfl rfl HM ?_; clear HM; intro b99 W HM)))
          | ((with_reducible refine s_ 100 ?_); go_must ((refine wl_appendM (dst := some 100) (enc := encV) _ _ _ _ _ _ _ _ _ _ _ [q1, q2] Try.underlying45 inf24 rfl (by decide) encV_len (by intro y hy; rcases List.mem_cons.1 hy with rfl | hy; exact encV_one _ (text_one HM m2); rw [List.mem_singleton.1 hy]; exact encV_one q2 (text_one HM m1)) HM (.there (.there (.there (.there (.there (.there (.there (.there (.there .here))))))))) (RdL.of_blk (HM.blk m0) _ 2 rfl (by simp [encV]) (by decide)) rfl rfl (by decide) (by have := hT1.len; simp; omega) ?_; clear HM; intro v100 W HM; try dsimp only at HM)))
          | ((with_reducible refine st_ 23 ?_); go_must ((first | refine wl_store_blk _ _ _ _ _ _ _ rfl rfl HM (.there (.there (.there (.there (.there (.there .here)))))) (by rw [kc_size]; exact sz23) (by simp only [kc_size]) (kc_one _) ?_ | refine wl_store_blk _ _ _ _ _ _ _ rfl rfl HM (.there (.there (.there (.there (.there (.there (.there .here))))))) (by rw [kc_size]; exact sz23) (by simp only [kc_size]) (kc_one _) ?_); clear HM; intro W HM))
          | (go_at_call 125; go_must ((first | (with_reducible refine (rdigest_c q1 _ _ (rd_text HM m1) (by rw [textNode_len]; decide)).mono ?_) | (with_reducible refine (rdigest_c q2 _ _ (rd_text HM m0) (by rw [textNode_len]; decide)).mono ?_)); rintro e W ⟨rfl, HM'⟩; replace HM := HM.keep HM'.below; clear HM')))
        refine ret3 rfl (by (exact res_row HM rfl m7 Try.underlying23 rfl (by rw [kc_size]; exact sz23))) (by (exact res_row HM rfl m6 Try.underlying23 rfl (by rw [kc_size]; exact sz23))) (res_tmp rfl) rfl ?_
        have H := (HM.sub (.cons _ (.cons_cons _ (.cons_cons _ (.cons _ (.cons _ (.cons _ (.cons _ (.cons _ (.cons _ (.refl _))))))))))).rot1.rot1
        rw [valsT_snoc2 _ _ _ (textNode (lastK p) (growA bef (n - splitN n) (m - splitN n) (p.take (p.length - 1)))) (textNode (lastK p) (growB bef (n - splitN n) (m - splitN n) (p.take (p.length - 1)))), show us1.length + [q1, q2].length = (us1 ++ [(q1, (textNode (lastK p) (growA bef (n - splitN n) (m - splitN n) (p.take (p.length - 1))))), (q2, (textNode (lastK p) (growB bef (n - splitN n) (m - splitN n) (p.take (p.length - 1)))))]).length by simp] at H
        exact ⟨v100, rfl, _, _, hT1.app ((TxIs.one q1 _).app (TxIs.one q2 _)), (Tx.inr [rowT _, rowT _] hX1).app ((Tx.one m1).app (Tx.one m0)), H⟩
end
end Go.Proofs.Ythdekionepfmdaa
