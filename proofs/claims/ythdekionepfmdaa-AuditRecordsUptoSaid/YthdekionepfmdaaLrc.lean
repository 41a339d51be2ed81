/- 'Rows.AuditRecordsUptoSaid' is proved here: whatever the input of bulk at most 1048576, the law AuditRecords returns true and the input reads as it did; no other condition. -/
import Derived.Test.YthdekionepfmdaaRow
import Derived.Test.YthdekionepfmdaaLrb
set_option linter.unusedVariables false
set_option maxRecDepth 100000
namespace Go.Proofs.Ythdekionepfmdaa
open Go.RowKit Go.ChangeShapes Go.WideShapes Go.ChangeAt

theorem own : ownKnob Try.prog.godebug = none := by kernel_rfl
theorem laidOut : laidOutB Try.prog = true := by kernel_rfl

theorem bulkOne {H : Type} (d : DataW H) : 1 ≤ Rows.uptoBulk d := by
  cases d with
  | lit l => cases l <;> simp [Rows.uptoBulk]
  | _ => simp [Rows.uptoBulk]
theorem bulkLen {H : Type} (l : List (DataW H)) : l.length ≤ Rows.uptoBulkAll l := by
  induction l with
  | nil => simp
  | cons x r ih => have := bulkOne x; simp only [Rows.uptoBulkAll, List.length_cons]; omega
theorem bulkMem {H : Type} {d : DataW H} {l : List (DataW H)} (h : d ∈ l) : Rows.uptoBulk d ≤ Rows.uptoBulkAll l := by
  induction l with
  | nil => cases h
  | cons x r ih =>
    simp only [Rows.uptoBulkAll]
    rcases List.mem_cons.1 h with rfl | e
    · omega
    · have := ih e; omega
theorem bulkSlice {H : Type} (E R : List (DataW H)) : E.length ≤ Rows.uptoBulk (.slice E R) := by
  have := bulkLen E
  simp only [Rows.uptoBulk]; omega
theorem bulkAgg {H : Type} (E : List (DataW H)) : Rows.uptoBulkAll E ≤ Rows.uptoBulk (.agg E) := by
  simp only [Rows.uptoBulk]; omega

theorem auditRecords_row (H : Type) (enc : TypeId × Value → H) (W : World) (base : Nat) (args : Array Value) (ds gs : List (DataW H)) (before : List MemPlace)
    (hval : ∀ (j : Nat) t v, Try.f3.params[j]? = some t → args[j]? = some v → Value.okWide Try.prog W .any base t v)
    (hW : DataW.Whole enc Try.prog Try.f3.params.toList Rows.auditRecordsSpec.vars false W args.toList ds gs before) (hk : Rows.uptoSmall H (ds ++ gs) = true) :
    Calls Try.prog 3 args W fun e W' => ∃ v, e = .returned v ∧ Rows.auditRecordsSpec.post enc Try.prog Try.f3 false true false false W args v W' := by
  have hW' := hW
  obtain ⟨p, q, hA0, hV, rfl, hfz, hnd⟩ := hW
  have hA : DataW.TrodAll enc Try.prog W 0 (fun _ => true) true Try.f3.params.toList args.toList ds p := hA0
  rw [Try.params3] at hA hval
  obtain ⟨v0, vs0, d0, ds0, p0, q0, hargs, rfl, rfl, h0, r0⟩ := trodAll_cons hA
  obtain ⟨v1, vs1, d1, ds1, p1, q1, rfl, rfl, rfl, h1, r1⟩ := trodAll_cons r0
  obtain ⟨v2, vs2, d2, ds2, p2, q2, rfl, rfl, rfl, h2, r2⟩ := trodAll_cons r1
  obtain ⟨v3, vs3, d3, ds3, p3, q3, rfl, rfl, rfl, h3, r3⟩ := trodAll_cons r2
  obtain ⟨v4, vs4, d4, ds4, p4, q4, rfl, rfl, rfl, h4, r4⟩ := trodAll_cons r3
  obtain ⟨rfl, rfl, rfl⟩ := trodAll_nil r4
  obtain rfl : args = #[v0, v1, v2, v3, v4] := by cases args; simp_all
  obtain ⟨rfl, rfl⟩ := trodVars_none hV
  have hb : Rows.uptoBulkAll ([d0, d1, d2, d3, d4] ++ []) ≤ 1048576 := of_decide_eq_true hk
  have lt : ∀ {t v d p}, DataW.Trod enc Try.prog W 0 (fun _ => true) true t v d p → ∀ x ∈ p, x.block < W.heap.size := by
    intro t v d p h; obtain ⟨m, hm⟩ := h; exact DataW.trod_lt m _ _ _ hm
  obtain ⟨k, rfl⟩ := arg_key (hval 0 23 v0 rfl rfl) h0
  obtain ⟨x, rfl⟩ := arg_key (hval 1 23 v1 rfl rfl) h1
  obtain ⟨data, hD, hDl⟩ := arg_bytes (hval 2 24 v2 rfl rfl) h2
  obtain ⟨k2, rfl⟩ := arg_key (hval 3 23 v3 rfl rfl) h3
  obtain ⟨bx, ck, rv, rdata, rfl, hR, hRl⟩ := arg_rec (hval 4 26 v4 rfl rfl) h4
  clear hA0
  simp only [List.append_nil] at hW'
  have hdl : data.length ≤ 140737488351232 := by
    rcases hDl with rfl | ⟨E, R, rfl, he⟩
    · simp
    · have h5 := bulkSlice E R
      have h6 : Rows.uptoBulk (.slice E R) ≤ Rows.uptoBulkAll ([d0, d1, .slice E R, d3, d4] ++ []) := bulkMem (by simp)
      omega
  have hrl : rdata.length ≤ 140737488351232 := by
    rcases hRl with rfl | ⟨e1, e2, E, R, rfl, he⟩
    · simp
    · have h5 := bulkSlice E R
      have h7 : Rows.uptoBulk (.slice E R) ≤ Rows.uptoBulkAll [e1, e2, .slice E R] := bulkMem (by simp)
      have h8 := bulkAgg [e1, e2, .slice E R]
      have h6 : Rows.uptoBulk (.agg [e1, e2, .slice E R]) ≤ Rows.uptoBulkAll ([d0, d1, d2, d3, .agg [e1, e2, .slice E R]] ++ []) := bulkMem (by simp)
      omega
  refine (auditRecords_c k x k2 bx ck v2 rv data rdata W hD hR hdl hrl).mono fun e W' ⟨he, hM⟩ => ?_
  subst he
  have bel := hM.below
  exact ⟨_, rfl, _, _, _, [], _, [], hW', trodAll_mk1 (shut_bool Try.underlying4 _),
    (trodAll_cons_mk (Below.trod laidOut (by kernel_rfl) (of_decide_eq_true (by kernel_rfl)) h0 bel (lt h0))
    (trodAll_cons_mk (Below.trod laidOut (by kernel_rfl) (of_decide_eq_true (by kernel_rfl)) h1 bel (lt h1))
    (trodAll_cons_mk (Below.trod laidOut (by kernel_rfl) (of_decide_eq_true (by kernel_rfl)) h2 bel (lt h2))
    (trodAll_cons_mk (Below.trod laidOut (by kernel_rfl) (of_decide_eq_true (by kernel_rfl)) h3 bel (lt h3))
    (trodAll_cons_mk (Below.trod laidOut (by kernel_rfl) (of_decide_eq_true (by kernel_rfl)) h4 bel (lt h4)) trodAll_mk0))))), rfl, bel.frame _, fun h => by cases h⟩

/-- A key of zeros, as data. -/
def datK {H : Type} : DataW H := .agg (List.replicate 16 (.lit (.int .u8 0)))
theorem auditRecords_lifted (os : Os) (started : os.Started) (H : Type) (enc : TypeId × Value → H) (F : Stop.Interp) :
    ReturnsInHanded {} Try.checked os 3 .any ((Rows.OpenSpec.upto Rows.auditRecordsSpec).pre6 enc Try.prog Try.f3 Rows.auditRecordsUptoRow.domain false) (((Rows.OpenSpec.upto Rows.auditRecordsSpec).at F).post enc Try.prog Try.f3 false true false false) := by
  refine returnsInHanded_of_cond (C := Try.checked) (s := Rows.OpenSpec.upto Rows.auditRecordsSpec) (k := Rows.uptoSmall) rfl own started (by kernel_rfl) Try.func3
    (OpenSpec.witness (enc := enc) (C := Try.checked) (s := Rows.OpenSpec.upto Rows.auditRecordsSpec) (k := Rows.uptoSmall) rfl false ⟨#[], #[.agg (kc zeroKey), .agg (kc zeroKey), .slice none 0 0, .agg (kc zeroKey), .agg (recC zeroKey zeroKey (.slice none 0 0))], []⟩ 8 (by kernel_rfl) (by kernel_rfl) (by kernel_rfl)
      (x := ([datK, datK, .nil, datK, .agg [datK, datK, .nil]], [], [])) (by kernel_rfl) rfl (by kernel_rfl)) ?_
  intro W base args ds gs before hval hW _ hk _
  exact auditRecords_row H enc W base args ds gs before hval hW hk

theorem auditRecords_proved : Rows.AuditRecordsUptoSaid :=
  OpenClaim.holds_of_cond 3 Try.f3 rfl rfl rfl rfl rfl rfl rfl ⟨rfl, rfl, rfl, rfl, rfl⟩ rfl rfl rfl rfl rfl (by kernel_rfl) Try.func3 (by kernel_rfl)
    (of_decide_eq_true (by kernel_rfl)) (by unfold Func.isWrapper; first | (rw [if_pos (by decide +kernel)]; kernel_rfl) | (rw [if_neg (by decide +kernel)]; exact ⟨rfl, rfl⟩))
    (fun os started H enc _ F => auditRecords_lifted os started H enc F)
#print axioms auditRecords_proved
end Go.Proofs.Ythdekionepfmdaa
