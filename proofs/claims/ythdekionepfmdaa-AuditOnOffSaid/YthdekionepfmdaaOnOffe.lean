/- 'Rows.AuditOnOffSaid' is proved here: whatever the input, the law AuditOnOff returns true and the input reads as it did; no condition. -/
import Derived.Test.YthdekionepfmdaaOnOffd
import Derived.Below
import Derived.Carry
import Derived.ChangeOld
import Derived.JoinedCond
import Derived.Lib.SmallJoins
import Derived.OpenShut
import Derived.ProofKit
import Derived.ShutString
import Derived.SizedLaws
import Derived.Test.YthdekionepfmdaaRows
set_option linter.unusedVariables false
set_option linter.unusedSimpArgs false
namespace Go.Proofs.Ythdekionepfmdaa
section
set_option linter.unusedVariables false
set_option linter.unusedSimpArgs false
set_option maxRecDepth 100000
open Go.RowKit Go.ChangeShapes Go.WideShapes
section
variable {H : Type} {enc : TypeId × Value → H} {P : Program} {w : World} {base : Nat} {spare : Nat → Bool} {held : Bool} {fuel : Nat} {t e : TypeId} {cs : List Value} {x : DataW H × List MemPlace}
theorem dec_u8 (he : P.underlying e = some (.int .u8)) (h : DataW.trod enc P w base spare held fuel e cs = some x) : ∃ b : UInt8, cs = encB b := by
  obtain ⟨n, rfl, _, wf⟩ := DataW.trod_int he h
  have hb : 0 ≤ n ∧ n ≤ 255 := by simpa [Lit.wf, IntKind.min, IntKind.max, IntKind.signed, IntKind.bits] using wf
  refine ⟨UInt8.ofNat n.toNat, ?_⟩
  have : ((UInt8.ofNat n.toNat).toNat : Int) = n := by rw [UInt8.toNat_ofNat']; omega
  rw [encB, this]
theorem dec_key (ht : P.underlying t = some (.array 16 e)) (he : P.underlying e = some (.int .u8)) (hc : P.cellsOf t = 16) (h1 : P.cellsOf e = 1) (h : DataW.trod enc P w base spare held fuel t cs = some x) : ∃ k : Key, cs = encK k := by
  obtain ⟨xs, m, _, _, hl, hxl, hx⟩ := DataW.trod_array ht h
  rw [h1] at hx
  have hb : ∀ i : Fin 16, ∃ b : UInt8, cs[i.1]? = some (.int .u8 b.toNat) := by
    intro i
    have h2 := hx i.1 i.2
    rw [List.getElem?_eq_getElem (by omega : i.1 < xs.length), Nat.mul_one] at h2
    obtain ⟨b, hb⟩ := dec_u8 he h2
    refine ⟨b, ?_⟩
    have h3 : ((cs.drop i.1).take 1)[0]? = some (.int .u8 b.toNat) := by rw [hb]; rfl
    rw [List.getElem?_take, List.getElem?_drop] at h3
    simpa using h3
  obtain ⟨f, hf⟩ := Classical.axiomOfChoice hb
  refine ⟨Vector.ofFn f, ?_⟩
  apply List.ext_getElem?
  intro i
  rcases Nat.lt_or_ge i 16 with hi | hi
  · rw [hf ⟨i, hi⟩]
    have := kc_at (Vector.ofFn f) i hi
    rw [kc, List.getElem?_toArray] at this
    rw [this]; simp
  · rw [List.getElem?_eq_none (by omega), List.getElem?_eq_none (by rw [encK_len]; exact hi)]
theorem dec_slice {α : Type} {en : α → List Value} {size : Nat} (ht : P.underlying t = some (.slice e)) (hc : P.cellsOf e = size) (hs : 0 < size) (hen : ∀ x, (en x).length = size)
    (hel : ∀ fuel cs x, DataW.trod enc P w base spare held fuel e cs = some x → ∃ u : α, cs = en u) (h : DataW.trod enc P w base spare held fuel t cs = some x) :
    ∃ v l, cs = [v] ∧ RdL en size w v l ∧ (l = [] ∨ ∃ E R, x.1 = .slice E R ∧ E.length = l.length) := by
  rcases DataW.trod_slice ht h with ⟨rfl, rfl⟩ | ⟨a, len, cap, elems, rest, n, _, rfl, rfl, _, hlc, hcm, hel2, hcell, _⟩
  · exact ⟨_, [], rfl, ⟨none, 0, rfl, by simp, by simp [maxLen], fun h => absurd rfl h⟩, .inl rfl⟩
  · rw [hc] at hcell
    have hx : ∀ i : Fin len, ∃ u : α, w.cells? base (a.add (i.1 * size)) size = some (en u) := by
      intro i
      have h2 := hcell i.1 i.2
      rw [List.getElem?_eq_getElem (by omega : i.1 < elems.length)] at h2
      cases hq : w.cells? base (a.add (i.1 * size)) size with
      | none => rw [hq] at h2; simp at h2
      | some ci =>
        rw [hq] at h2
        obtain ⟨u, hu⟩ := hel _ _ _ h2
        exact ⟨u, by rw [hu]⟩
    obtain ⟨f, hf⟩ := Classical.axiomOfChoice hx
    refine ⟨_, List.ofFn f, rfl, ⟨some a, cap, by simp, by simpa using hlc, hcm, fun hne => ?_⟩, .inr ⟨_, _, rfl, by simpa using hel2⟩⟩
    have hpos : 0 < len := by
      rcases Nat.eq_zero_or_pos len with h0 | h0
      · subst h0; simp at hne
      · exact h0
    have hsp : a.spot = none := by
      obtain ⟨_, _, h3⟩ := World.cells?_some (hf ⟨0, hpos⟩)
      have h4 := h3 0 hs
      have hl0 : 0 < (en (f ⟨0, hpos⟩)).length := by rw [hen]; exact hs
      rw [List.getElem?_eq_getElem hl0] at h4
      have h5 := World.cell?_spot h4
      cases hspot : a.spot with
      | none => rfl
      | some q => simp [Addr.add, hspot] at h5
    obtain ⟨b, o, sp⟩ := a
    simp only at hsp
    subst hsp
    refine ⟨b, o, rfl, fun j v hv => ?_⟩
    have hj : j < len * size := by
      have := (List.getElem?_eq_some_iff.1 hv).1
      rwa [flatMap_length hen, List.length_ofFn] at this
    have hi : j / size < len := Nat.div_lt_of_lt_mul (by rw [Nat.mul_comm]; exact hj)
    have hr : j % size < size := Nat.mod_lt _ hs
    have hjs : j / size * size + j % size = j := by rw [Nat.mul_comm]; exact Nat.div_add_mod j size
    obtain ⟨_, _, h3⟩ := World.cells?_some (hf ⟨j / size, hi⟩)
    have h4 := h3 (j % size) hr
    have h5 := flatMap_at hen (List.ofFn f) (j / size) (f ⟨j / size, hi⟩) (by simp [hi]) (j % size) hr
    rw [hjs] at h5
    rw [h5] at hv
    rw [hv] at h4
    rw [Addr.add_mid, Addr.add_mid, Nat.add_assoc, hjs] at h4
    exact h4
end
theorem okWide_array {P : Program} {w : World} {r : Reach} {base : Nat} {t e : TypeId} {n : Nat} {v : Value} (ht : P.underlying t = some (.array n e)) (h : Value.okWide P w r base t v) : ∃ cs, v = .agg cs ∧ cs.size = P.cellsOf t := by
  simp only [Value.okWide, ht] at h
  obtain ⟨cs, h1, h2, _⟩ := h
  exact ⟨cs, h1, h2⟩
section
variable {H : Type} {enc : TypeId × Value → H} {W : World} {base : Nat} {v : Value} {d : DataW H} {p : List MemPlace} {spare : Nat → Bool} {held : Bool} {fuel : Nat} {cs : List Value} {x : DataW H × List MemPlace}
theorem cells5 : Try.prog.cellsOf 5 = 1 := by kernel_rfl
theorem cellsK : Try.prog.cellsOf 23 = 16 := by kernel_rfl
theorem tr_key (h : DataW.trod enc Try.prog W base spare held fuel 23 cs = some x) : ∃ k : Key, cs = encK k :=
  dec_key Try.underlying23 Try.underlying5 cellsK cells5 h
theorem arg_key (hv : Value.okWide Try.prog W .any base 23 v) (h : DataW.Trod enc Try.prog W 0 spare held 23 v d p) : ∃ k : Key, v = .agg (kc k) := by
  obtain ⟨cs, rfl, _⟩ := okWide_array Try.underlying23 hv
  obtain ⟨fuel, hf⟩ := h
  obtain ⟨k, hk⟩ := tr_key hf
  exact ⟨k, by rw [kc, ← hk]; rfl⟩
end
end
section
set_option linter.unusedVariables false
set_option linter.unusedSimpArgs false
set_option maxRecDepth 100000
open Go.RowKit Go.ChangeShapes Go.WideShapes Go.ChangeAt
theorem own : ownKnob Try.prog.godebug = none := by kernel_rfl
theorem laidOut : laidOutB Try.prog = true := by kernel_rfl
section
variable {H : Type} {enc : TypeId × Value → H} {W : World} {base : Nat} {v : Value} {d : DataW H} {p : List MemPlace} {spare : Nat → Bool} {held : Bool} {fuel : Nat} {cs : List Value} {x : DataW H × List MemPlace}
theorem tr_int {t : TypeId} (he : Try.prog.underlying t = some (.int .i64)) (h : DataW.trod enc Try.prog W base spare held fuel t cs = some x) : ∃ n : Int, cs = [.int .i64 n] ∧ -9223372036854775808 ≤ n ∧ n ≤ 9223372036854775807 := by
  obtain ⟨n, rfl, _, wf⟩ := DataW.trod_int he h
  refine ⟨n, rfl, ?_⟩
  simpa [Lit.wf, IntKind.min, IntKind.max, IntKind.signed, IntKind.bits] using wf
theorem arg_int (hv : Value.okWide Try.prog W .any base 3 v) (h : DataW.Trod enc Try.prog W 0 spare held 3 v d p) : ∃ n : Int, v = .int .i64 n ∧ -9223372036854775808 ≤ n ∧ n ≤ 9223372036854775807 := by
  obtain ⟨m, rfl⟩ := okWide_int Try.underlying3 hv
  obtain ⟨fuel, hf⟩ := h
  obtain ⟨n, hn, h1, h2⟩ := tr_int Try.underlying3 hf
  have : m = n := by simpa [Value.cells] using hn
  subst this
  exact ⟨_, rfl, h1, h2⟩
theorem tr_keys (h : DataW.trod enc Try.prog W base spare held fuel 40 cs = some x) :
    ∃ v l, cs = [v] ∧ RdL encK 16 W v l ∧ (l = [] ∨ ∃ E R, x.1 = .slice E R ∧ E.length = l.length) :=
  dec_slice Try.underlying40 cellsK (by decide) encK_len (fun fuel cs x h => tr_key h) h
end
end
section
set_option linter.unusedVariables false
set_option linter.unusedSimpArgs false
set_option maxRecDepth 100000
open Go.RowKit Go.ChangeShapes Go.WideShapes Go.ChangeAt
section
variable {H : Type} {enc : TypeId × Value → H} {W : World} {base : Nat} {v : Value} {d : DataW H} {p : List MemPlace} {spare : Nat → Bool} {held : Bool} {fuel : Nat} {cs : List Value} {x : DataW H × List MemPlace}
theorem cellsI : Try.prog.cellsOf 3 = 1 := by kernel_rfl
theorem cellsS : Try.prog.cellsOf 40 = 1 := by kernel_rfl
theorem tr_prf (h : DataW.trod enc Try.prog W base spare held fuel 52 cs = some x) :
    ∃ (n i : Int) (v : Value) (l : List Key), cs = [.int .i64 n, .int .i64 i, v] ∧ RdL encK 16 W v l := by
  obtain ⟨xs, n, _, hx, hl, hxl, hfs⟩ := DataW.trod_struct Try.underlying52 h
  rw [show Try.prog.cellsOf 52 = 3 from by kernel_rfl] at hl
  have hx3 : xs.length = 3 := hxl
  obtain ⟨x0, x1, x2, rfl⟩ : ∃ x0 x1 x2, xs = [x0, x1, x2] := by
    match xs, hx3 with
    | [a, b, c], _ => exact ⟨a, b, c, rfl⟩
  obtain ⟨c0, c1, c2, rfl⟩ : ∃ x0 x1 x2, cs = [x0, x1, x2] := by
    match cs, hl with
    | [a, b, c], _ => exact ⟨a, b, c, rfl⟩
  have f0 : DataW.trod enc Try.prog W base spare held n 3 (([c0, c1, c2].drop 0).take (Try.prog.cellsOf 3)) = some x0 := hfs 0 _ rfl
  have f1 : DataW.trod enc Try.prog W base spare held n 3 (([c0, c1, c2].drop 1).take (Try.prog.cellsOf 3)) = some x1 := hfs 1 _ rfl
  have f2 : DataW.trod enc Try.prog W base spare held n 40 (([c0, c1, c2].drop 2).take (Try.prog.cellsOf 40)) = some x2 := hfs 2 _ rfl
  rw [cellsI] at f0 f1
  rw [cellsS] at f2
  obtain ⟨a, h0, _⟩ := tr_int Try.underlying3 f0
  obtain ⟨b, h1, _⟩ := tr_int Try.underlying3 f1
  obtain ⟨u, l, h2, hR, hlen⟩ := tr_keys f2
  simp only [List.drop_zero, List.drop_succ_cons, List.take_succ_cons, List.take_zero, List.cons.injEq, and_true] at h0 h1 h2
  exact ⟨a, b, u, l, by rw [h0, h1, h2], hR⟩
end
end
section
set_option linter.unusedVariables false
set_option linter.unusedSimpArgs false
set_option maxRecDepth 100000
open Go.RowKit Go.ChangeShapes Go.WideShapes Go.ChangeAt
section
variable {H : Type} {enc : TypeId × Value → H} {W : World} {base : Nat} {v : Value} {d : DataW H} {p : List MemPlace} {spare : Nat → Bool} {held : Bool} {fuel : Nat} {cs : List Value} {x : DataW H × List MemPlace}
theorem cellsEn : Try.prog.cellsOf 79 = 2 := by kernel_rfl
theorem cellsPr : Try.prog.cellsOf 52 = 3 := by kernel_rfl
theorem bytesOfE : Try.prog.bytesOf 79 = 16 := by kernel_rfl
theorem tr_ent (h : DataW.trod enc Try.prog W base spare held fuel 79 cs = some x) : ∃ e : Ent, cs = encE e := by
  obtain ⟨xs, n, _, hx, hl, hxl, hfs⟩ := DataW.trod_struct Try.underlying79 h
  rw [cellsEn] at hl
  have hx3 : xs.length = 2 := hxl
  obtain ⟨x0, x1, rfl⟩ : ∃ x0 x1, xs = [x0, x1] := by
    match xs, hx3 with
    | [a, b], _ => exact ⟨a, b, rfl⟩
  obtain ⟨c0, c1, rfl⟩ : ∃ x0 x1, cs = [x0, x1] := by
    match cs, hl with
    | [a, b], _ => exact ⟨a, b, rfl⟩
  have f0 : DataW.trod enc Try.prog W base spare held n 3 (([c0, c1].drop 0).take (Try.prog.cellsOf 3)) = some x0 := hfs 0 _ rfl
  have f1 : DataW.trod enc Try.prog W base spare held n 3 (([c0, c1].drop 1).take (Try.prog.cellsOf 3)) = some x1 := hfs 1 _ rfl
  rw [cellsI] at f0 f1
  obtain ⟨a, h0, _⟩ := tr_int Try.underlying3 f0
  obtain ⟨b, h1, _⟩ := tr_int Try.underlying3 f1
  simp only [List.drop_zero, List.drop_succ_cons, List.take_succ_cons, List.take_zero, List.cons.injEq, and_true] at h0 h1
  exact ⟨(a, b), by rw [h0, h1]; rfl⟩
theorem tr_ents (h : DataW.trod enc Try.prog W base spare held fuel 77 cs = some x) :
    ∃ v l, cs = [v] ∧ RdL encE 2 W v l ∧ (l = [] ∨ ∃ E R, x.1 = .slice E R ∧ E.length = l.length) :=
  dec_slice Try.underlying77 cellsEn (by decide) encE_len (fun fuel cs x h => tr_ent h) h
theorem arg_ents (hv : Value.okWide Try.prog W .any base 77 v) (h : DataW.Trod enc Try.prog W 0 spare held 77 v d p) : ∃ l, RdL encE 2 W v l ∧ (l = [] ∨ ∃ E R, d = .slice E R ∧ E.length = l.length) := by
  obtain ⟨a, len, cap, rfl⟩ := okWide_slice Try.underlying77 hv
  obtain ⟨fuel, hf⟩ := h
  obtain ⟨v', l, hcs, hR, hl⟩ := tr_ents hf
  have e : Value.slice a len cap = v' := by simpa [Value.cells] using hcs
  exact ⟨l, e ▸ hR, hl⟩
theorem arg_abs (hv : Value.okWide Try.prog W .any base 81 v) (h : DataW.Trod enc Try.prog W 0 spare held 81 v d p) :
    ∃ (lo hi : Ent) (n i : Int) (v1 : Value) (l1 : List Key) (m j : Int) (v2 : Value) (l2 : List Key), v = absV lo hi n i v1 m j v2 ∧ RdL encK 16 W v1 l1 ∧ RdL encK 16 W v2 l2 := by
  obtain ⟨cs, rfl, _⟩ := okWide_struct Try.underlying81 hv
  obtain ⟨fuel, hf⟩ := h
  obtain ⟨xs, n, _, hx, hl, hxl, hfs⟩ := DataW.trod_struct Try.underlying81 hf
  have hsz : (Value.agg cs).cells.toList = cs.toList := rfl
  rw [hsz] at hl hfs
  rw [show Try.prog.cellsOf 81 = 10 from by kernel_rfl] at hl
  have hx3 : xs.length = 4 := hxl
  obtain ⟨x0, x1, x2, x3, rfl⟩ : ∃ x0 x1 x2 x3, xs = [x0, x1, x2, x3] := by
    match xs, hx3 with
    | [a, b, c, d], _ => exact ⟨a, b, c, d, rfl⟩
  obtain ⟨ds⟩ := cs
  simp only at hl hfs
  obtain ⟨c0, c1, c2, c3, c4, c5, c6, c7, c8, c9, rfl⟩ : ∃ c0 c1 c2 c3 c4 c5 c6 c7 c8 c9, ds = [c0, c1, c2, c3, c4, c5, c6, c7, c8, c9] := by
    match ds, hl with
    | [a, b, c, d, e, f, g, h, i, j], _ => exact ⟨a, b, c, d, e, f, g, h, i, j, rfl⟩
  have f0 : DataW.trod enc Try.prog W 0 spare held n 79 (([c0, c1, c2, c3, c4, c5, c6, c7, c8, c9].drop 0).take (Try.prog.cellsOf 79)) = some x0 := hfs 0 _ rfl
  have f1 : DataW.trod enc Try.prog W 0 spare held n 79 (([c0, c1, c2, c3, c4, c5, c6, c7, c8, c9].drop 2).take (Try.prog.cellsOf 79)) = some x1 := hfs 1 _ rfl
  have f2 : DataW.trod enc Try.prog W 0 spare held n 52 (([c0, c1, c2, c3, c4, c5, c6, c7, c8, c9].drop 4).take (Try.prog.cellsOf 52)) = some x2 := hfs 2 _ rfl
  have f3 : DataW.trod enc Try.prog W 0 spare held n 52 (([c0, c1, c2, c3, c4, c5, c6, c7, c8, c9].drop 7).take (Try.prog.cellsOf 52)) = some x3 := hfs 3 _ rfl
  rw [cellsEn] at f0 f1
  rw [cellsPr] at f2 f3
  obtain ⟨lo, h0⟩ := tr_ent f0
  obtain ⟨hi, h1⟩ := tr_ent f1
  obtain ⟨a, b, u1, l1, h2, hR1⟩ := tr_prf f2
  obtain ⟨a', b', u2, l2, h3, hR2⟩ := tr_prf f3
  simp only [List.drop_zero, List.drop_succ_cons, List.take_succ_cons, List.take_zero, List.cons.injEq, and_true, encE] at h0 h1 h2 h3
  obtain ⟨rfl, rfl⟩ := h0
  obtain ⟨rfl, rfl⟩ := h1
  obtain ⟨rfl, rfl, rfl⟩ := h2
  obtain ⟨rfl, rfl, rfl⟩ := h3
  exact ⟨lo, hi, a, b, _, l1, a', b', _, l2, rfl, hR1, hR2⟩
end
end
section
set_option linter.unusedVariables false
set_option maxRecDepth 100000
open Go.RowKit Go.ChangeShapes Go.WideShapes Go.ChangeAt
theorem auditOnOff_row (H : Type) (enc : TypeId × Value → H) (W : World) (base : Nat) (args : Array Value) (ds gs : List (DataW H)) (before : List MemPlace)
    (hval : ∀ (j : Nat) t v, Try.f6.params[j]? = some t → args[j]? = some v → Value.okWide Try.prog W .any base t v)
    (hW : DataW.Whole enc Try.prog Try.f6.params.toList Rows.auditOnOffSpec.vars false W args.toList ds gs before) (hsz0 : (DataW.weightsEach Try.prog (Try.f6.params.toList ++ Rows.auditOnOffSpec.plain.varTypes Try.prog) (ds ++ gs)).all (· ≤ reachBytes) = true) :
    Calls Try.prog 6 args W fun e W' => ∃ v, e = .returned v ∧ Rows.auditOnOffSpec.post enc Try.prog Try.f6 false true false false W args v W' := by
  have hW' := hW
  obtain ⟨p, q, hA0, hV, rfl, hfz, hnd⟩ := hW
  have hA : DataW.TrodAll enc Try.prog W 0 (fun _ => true) true Try.f6.params.toList args.toList ds p := hA0
  have hsz := hsz0
  rw [Try.params6] at hA hval hsz
  obtain ⟨v0, vs0, d0, ds0, p0, q0, hargs, rfl, rfl, h0, r0⟩ := trodAll_cons hA
  obtain ⟨v1, vs1, d1, ds1, p1, q1, rfl, rfl, rfl, h1, r1⟩ := trodAll_cons r0
  obtain ⟨v2, vs2, d2, ds2, p2, q2, rfl, rfl, rfl, h2, r2⟩ := trodAll_cons r1
  obtain ⟨v3, vs3, d3, ds3, p3, q3, rfl, rfl, rfl, h3, r3⟩ := trodAll_cons r2
  obtain ⟨rfl, rfl, rfl⟩ := trodAll_nil r3
  obtain rfl : args = #[v0, v1, v2, v3] := by cases args; simp_all
  obtain ⟨rfl, rfl⟩ := trodVars_none hV
  have lt : ∀ {t v d p}, DataW.Trod enc Try.prog W 0 (fun _ => true) true t v d p → ∀ x ∈ p, x.block < W.heap.size := by
    intro t v d p h; obtain ⟨m, hm⟩ := h; exact DataW.trod_lt m _ _ _ hm
  obtain ⟨l, hR, hRl⟩ := arg_ents (hval 0 77 v0 rfl rfl) h0
  obtain ⟨u, rfl, _, _⟩ := arg_int (hval 1 3 v1 rfl rfl) h1
  obtain ⟨root, rfl⟩ := arg_key (hval 2 23 v2 rfl rfl) h2
  obtain ⟨lo, hi, n, i, v1, l1, m, j, v2, l2, rfl, hR1, hR2⟩ := arg_abs (hval 3 81 v3 rfl rfl) h3
  clear hA0
  simp only [List.append_nil] at hW'
  have hl : l.length ≤ 140737488351232 := by
    rcases hRl with rfl | ⟨E, R, rfl, he⟩
    · simp
    · have h5 : (E.length + R.length) * Try.prog.bytesOf 79 ≤ reachBytes := sized_slice hsz (j := 0) (t := 77) (e := 79) rfl rfl Try.underlying77
      rw [bytesOfE] at h5; simp only [reachBytes] at h5; omega
  refine (auditOnOff_c l u root lo hi n i m j v0 v1 v2 l1 l2 W hR hl hR1 hR2).mono fun e W' ⟨he, hM⟩ => ?_
  subst he
  have bel := hM.below
  exact ⟨_, rfl, _, _, _, [], _, [], hW', trodAll_mk1 (shut_bool Try.underlying4 _),
    (trodAll_cons_mk (Below.trod laidOut (by kernel_rfl) (of_decide_eq_true (by kernel_rfl)) h0 bel (lt h0))
    (trodAll_cons_mk (Below.trod laidOut (by kernel_rfl) (of_decide_eq_true (by kernel_rfl)) h1 bel (lt h1))
    (trodAll_cons_mk (Below.trod laidOut (by kernel_rfl) (of_decide_eq_true (by kernel_rfl)) h2 bel (lt h2))
    (trodAll_cons_mk (Below.trod laidOut (by kernel_rfl) (of_decide_eq_true (by kernel_rfl)) h3 bel (lt h3))
     trodAll_mk0)))), rfl, bel.frame _, fun h => by cases h⟩
theorem auditOnOff_lifted (os : Os) (started : os.Started) (H : Type) (enc : TypeId × Value → H) :
    ReturnsInHanded {} Try.checked os 6 .any (Rows.auditOnOffSpec.pre6 enc Try.prog Try.f6 Rows.auditOnOffRow.domain false) (Rows.auditOnOffSpec.post enc Try.prog Try.f6 false true false false) := by
  refine returnsInHanded_of_change_sized (C := Try.checked) own started (by kernel_rfl) Try.func6
    (ChangeSpec.witness6 (enc := enc) (C := Try.checked) false ⟨#[], #[.slice none 0 0, .int .i64 0, .agg (kc zeroKey), absV (0, 0) (0, 0) 0 0 (.slice none 0 0) 0 0 (.slice none 0 0)], []⟩ 8 (by kernel_rfl) (by kernel_rfl) (by kernel_rfl) (by kernel_rfl)) ?_
  intro W base args ds gs before hval hW _ hsz _
  exact auditOnOff_row H enc W base args ds gs before hval hW hsz
theorem auditOnOff_holds : Rows.auditOnOffRow.holds Try.pinned (OpenSpec.ofChange Rows.auditOnOffSpec) :=
  OpenClaim.holds_of_wide 6 Try.f6 rfl rfl rfl rfl rfl rfl rfl ⟨rfl, rfl, rfl, rfl, rfl⟩ rfl rfl rfl rfl rfl (by kernel_rfl) Try.func6 (by kernel_rfl)
    (of_decide_eq_true (by kernel_rfl)) (by unfold Func.isWrapper; first | (rw [if_pos (by decide +kernel)]; kernel_rfl) | (rw [if_neg (by decide +kernel)]; exact ⟨rfl, rfl⟩))
    (fun os started H enc _ => auditOnOff_lifted os started H enc)
theorem auditOnOff_proved : Rows.AuditOnOffSaid := auditOnOff_holds
end
#print axioms auditOnOff_proved
end Go.Proofs.Ythdekionepfmdaa
