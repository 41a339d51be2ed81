/- More arguments that read as data: ints, lists of keys, and the frame of a row. Plain theorems. -/
import Derived.Test.YthdekionepfmdaaRow
import Derived.SizedLaws
set_option linter.unusedVariables false
set_option linter.unusedSimpArgs false
set_option maxRecDepth 100000
namespace Go.Proofs.Ythdekionepfmdaa
open Go.RowKit Go.ChangeShapes Go.WideShapes Go.ChangeAt

theorem own : ownKnob Try.prog.godebug = none := by kernel_rfl
theorem laidOut : laidOutB Try.prog = true := by kernel_rfl
theorem bytesOfB : Try.prog.bytesOf 5 = 1 := by kernel_rfl
theorem bytesOfK : Try.prog.bytesOf 23 = 16 := by kernel_rfl
section
variable {H : Type} {enc : TypeId × Value → H} {W : World} {base : Nat} {v : Value} {d : DataW H} {p : List MemPlace} {spare : Nat → Bool} {held : Bool} {fuel : Nat} {cs : List Value} {x : DataW H × List MemPlace}
theorem tr_int {t : TypeId} (he : Try.prog.underlying t = some (.int .i64)) (h : DataW.trod enc Try.prog W base spare held fuel t cs = some x) : ∃ n : Int, cs = [.int .i64 n] ∧ -9223372036854775808 ≤ n ∧ n ≤ 9223372036854775807 := by
  obtain ⟨n, rfl, _, wf⟩ := DataW.trod_int he h
  refine ⟨n, rfl, ?_⟩
  simpa [Lit.wf, IntKind.min, IntKind.max, IntKind.signed, IntKind.bits] using wf
theorem arg_int (hv : Value.okWide Try.prog W .any base 3 v) (h : DataW.Trod enc Try.prog W 0 spare held 3 v d p) : ∃ n : Int, v = .int .i64 n ∧ -9223372036854775808 ≤ n ∧ n ≤ 9223372036854775807 := by
  obtain ⟨m, rfl⟩ := okWide_int Try.underlying3 hv
  obtain ⟨fuel, hf⟩ := h
  obtain ⟨n, hn, h1, h2⟩ := tr_int Try.underlying3 hf
  have : m = n := by simpa [Value.cells] using hn
  subst this
  exact ⟨_, rfl, h1, h2⟩
theorem tr_keys (h : DataW.trod enc Try.prog W base spare held fuel 40 cs = some x) :
    ∃ v l, cs = [v] ∧ RdL encK 16 W v l ∧ (l = [] ∨ ∃ E R, x.1 = .slice E R ∧ E.length = l.length) :=
  dec_slice Try.underlying40 cellsK (by decide) encK_len (fun fuel cs x h => tr_key h) h
theorem arg_keys (hv : Value.okWide Try.prog W .any base 40 v) (h : DataW.Trod enc Try.prog W 0 spare held 40 v d p) : ∃ l, RdL encK 16 W v l ∧ (l = [] ∨ ∃ E R, d = .slice E R ∧ E.length = l.length) := by
  obtain ⟨a, len, cap, rfl⟩ := okWide_slice Try.underlying40 hv
  obtain ⟨fuel, hf⟩ := h
  obtain ⟨v', l, hcs, hR, hl⟩ := tr_keys hf
  have e : Value.slice a len cap = v' := by simpa [Value.cells] using hcs
  exact ⟨l, e ▸ hR, hl⟩
end
end Go.Proofs.Ythdekionepfmdaa
