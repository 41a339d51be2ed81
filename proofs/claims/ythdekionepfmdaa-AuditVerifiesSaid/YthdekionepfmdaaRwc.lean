/- More arguments that read as data: proofs and growths. Plain theorems. -/
import Derived.Test.YthdekionepfmdaaRwb
set_option linter.unusedVariables false
set_option linter.unusedSimpArgs false
set_option maxRecDepth 100000
namespace Go.Proofs.Ythdekionepfmdaa
open Go.RowKit Go.ChangeShapes Go.WideShapes Go.ChangeAt

section
variable {H : Type} {enc : TypeId × Value → H} {W : World} {base : Nat} {v : Value} {d : DataW H} {p : List MemPlace} {spare : Nat → Bool} {held : Bool} {fuel : Nat} {cs : List Value} {x : DataW H × List MemPlace}
theorem cellsI : Try.prog.cellsOf 3 = 1 := by kernel_rfl
theorem cellsS : Try.prog.cellsOf 40 = 1 := by kernel_rfl
theorem tr_prf (h : DataW.trod enc Try.prog W base spare held fuel 52 cs = some x) :
    ∃ (n i : Int) (v : Value) (l : List Key), cs = [.int .i64 n, .int .i64 i, v] ∧ RdL encK 16 W v l := by
  obtain ⟨xs, n, _, hx, hl, hxl, hfs⟩ := DataW.trod_struct Try.underlying52 h
  rw [show Try.prog.cellsOf 52 = 3 from by kernel_rfl] at hl
  have hx3 : xs.length = 3 := hxl
  obtain ⟨x0, x1, x2, rfl⟩ : ∃ x0 x1 x2, xs = [x0, x1, x2] := by
    match xs, hx3 with
    | [a, b, c], _ => exact ⟨a, b, c, rfl⟩
  obtain ⟨c0, c1, c2, rfl⟩ : ∃ x0 x1 x2, cs = [x0, x1, x2] := by
    match cs, hl with
    | [a, b, c], _ => exact ⟨a, b, c, rfl⟩
  have f0 : DataW.trod enc Try.prog W base spare held n 3 (([c0, c1, c2].drop 0).take (Try.prog.cellsOf 3)) = some x0 := hfs 0 _ rfl
  have f1 : DataW.trod enc Try.prog W base spare held n 3 (([c0, c1, c2].drop 1).take (Try.prog.cellsOf 3)) = some x1 := hfs 1 _ rfl
  have f2 : DataW.trod enc Try.prog W base spare held n 40 (([c0, c1, c2].drop 2).take (Try.prog.cellsOf 40)) = some x2 := hfs 2 _ rfl
  rw [cellsI] at f0 f1
  rw [cellsS] at f2
  obtain ⟨a, h0, _⟩ := tr_int Try.underlying3 f0
  obtain ⟨b, h1, _⟩ := tr_int Try.underlying3 f1
  obtain ⟨u, l, h2, hR, hlen⟩ := tr_keys f2
  simp only [List.drop_zero, List.drop_succ_cons, List.take_succ_cons, List.take_zero, List.cons.injEq, and_true] at h0 h1 h2
  exact ⟨a, b, u, l, by rw [h0, h1, h2], hR⟩
theorem arg_prf (hv : Value.okWide Try.prog W .any base 52 v) (h : DataW.Trod enc Try.prog W 0 spare held 52 v d p) :
    ∃ (n i : Int) (pv : Value) (l : List Key), v = .agg #[.int .i64 n, .int .i64 i, pv] ∧ RdL encK 16 W pv l := by
  obtain ⟨cs, rfl, _⟩ := okWide_struct Try.underlying52 hv
  obtain ⟨fuel, hf⟩ := h
  obtain ⟨n, i, pv, l, hc, hR⟩ := tr_prf hf
  have hsz : (Value.agg cs).cells.toList = cs.toList := rfl
  rw [hsz] at hc
  exact ⟨n, i, pv, l, by rw [← hc], hR⟩
theorem tr_grw (h : DataW.trod enc Try.prog W base spare held fuel 59 cs = some x) :
    ∃ (n i : Int) (v : Value) (l : List Key), cs = [.int .i64 n, .int .i64 i, v] ∧ RdL encK 16 W v l := by
  obtain ⟨xs, n, _, hx, hl, hxl, hfs⟩ := DataW.trod_struct Try.underlying59 h
  rw [show Try.prog.cellsOf 59 = 3 from by kernel_rfl] at hl
  have hx3 : xs.length = 3 := hxl
  obtain ⟨x0, x1, x2, rfl⟩ : ∃ x0 x1 x2, xs = [x0, x1, x2] := by
    match xs, hx3 with
    | [a, b, c], _ => exact ⟨a, b, c, rfl⟩
  obtain ⟨c0, c1, c2, rfl⟩ : ∃ x0 x1 x2, cs = [x0, x1, x2] := by
    match cs, hl with
    | [a, b, c], _ => exact ⟨a, b, c, rfl⟩
  have f0 : DataW.trod enc Try.prog W base spare held n 3 (([c0, c1, c2].drop 0).take (Try.prog.cellsOf 3)) = some x0 := hfs 0 _ rfl
  have f1 : DataW.trod enc Try.prog W base spare held n 3 (([c0, c1, c2].drop 1).take (Try.prog.cellsOf 3)) = some x1 := hfs 1 _ rfl
  have f2 : DataW.trod enc Try.prog W base spare held n 40 (([c0, c1, c2].drop 2).take (Try.prog.cellsOf 40)) = some x2 := hfs 2 _ rfl
  rw [cellsI] at f0 f1
  rw [cellsS] at f2
  obtain ⟨a, h0, _⟩ := tr_int Try.underlying3 f0
  obtain ⟨b, h1, _⟩ := tr_int Try.underlying3 f1
  obtain ⟨u, l, h2, hR, hlen⟩ := tr_keys f2
  simp only [List.drop_zero, List.drop_succ_cons, List.take_succ_cons, List.take_zero, List.cons.injEq, and_true] at h0 h1 h2
  exact ⟨a, b, u, l, by rw [h0, h1, h2], hR⟩
theorem arg_grw (hv : Value.okWide Try.prog W .any base 59 v) (h : DataW.Trod enc Try.prog W 0 spare held 59 v d p) :
    ∃ (n i : Int) (pv : Value) (l : List Key), v = .agg #[.int .i64 n, .int .i64 i, pv] ∧ RdL encK 16 W pv l := by
  obtain ⟨cs, rfl, _⟩ := okWide_struct Try.underlying59 hv
  obtain ⟨fuel, hf⟩ := h
  obtain ⟨n, i, pv, l, hc, hR⟩ := tr_grw hf
  have hsz : (Value.agg cs).cells.toList = cs.toList := rfl
  rw [hsz] at hc
  exact ⟨n, i, pv, l, by rw [← hc], hR⟩
end
end Go.Proofs.Ythdekionepfmdaa
