/- What a function hands back: results in temporaries and in cells, in any number to five. -/
import Derived.Test.YthdekionepfmdaaMix
set_option linter.unusedVariables false
set_option linter.unusedSimpArgs false
namespace Go.Proofs.Ythdekionepfmdaa
open Go.RowKit
def resAt (tmps : Array Value) : ResultVar → Sem Value
  | .tmp t => pure (tmps.getD t undef)
  | .cell a t => do loadVar t (← asAddr (tmps.getD a undef))
theorem results_resAt (fn : Func) (tmps : Array Value) : results fn tmps = (do
    let vs ← fn.results.mapM (resAt tmps)
    pure (if h : vs.size = 1 then vs[0] else Value.tuple vs)) := by
  unfold results
  congr 1
def ResIs (P : Program) (w : World) (tmps : Array Value) (r : ResultVar) (v : Value) : Prop := (resAt tmps r).run P w = .ok v w
section
variable {P : Program} {fn : Func} {R : Ending → World → Prop} {a : Act} {w : World} {r1 r2 r3 r4 r5 : ResultVar} {v1 v2 v3 v4 v5 : Value}
theorem res_tmp {t : Tmp} (h : a.tmps.getD t undef = v1) : ResIs P w a.tmps (.tmp t) v1 := by subst h; rfl
theorem res_row {p : Tmp} {ty : TypeId} {w0 : World} {L : List It} {b : Nat} {cs : Array Value} {t : TypeId} {d : TypeDesc} (HM : Mem w0 w L) (hp : a.tmps.getD p undef = .pointer (some ⟨b, 0, none⟩)) (hk : It.blk b cs t ∈ L)
    (hu : P.underlying ty = some d) (hd : d.isRow = true) (hi : (P.info? ty).map (·.size) = some cs.size) : ResIs P w a.tmps (.cell p ty) (.agg cs) :=
  by simp only [ResIs, resAt, Sem.run_bind, hp, asAddr, Sem.run_pure, Result.andThen_ok]; exact run_loadVar_row w b t ty cs (0, 0) d (HM.blk hk) hu (by cases d <;> first | rfl | (simp [TypeDesc.isRow] at hd)) hi
theorem res_cell {p : Tmp} {ty : TypeId} {w0 : World} {L : List It} {b : Nat} {v : Value} {t : TypeId} {d : TypeDesc} (HM : Mem w0 w L) (hp : a.tmps.getD p undef = .pointer (some ⟨b, 0, none⟩)) (hk : It.blk b #[v] t ∈ L)
    (hu : P.underlying ty = some d) (hd : d.isRow = false) : ResIs P w a.tmps (.cell p ty) v :=
  by simp only [ResIs, resAt, Sem.run_bind, hp, asAddr, Sem.run_pure, Result.andThen_ok]; exact run_loadVar_cell hu hd (by rw [cell_of_row w b 0 #[v] t (0, 0) (HM.blk hk)]; rfl)
theorem ret0 (h : fn.results = #[]) (hd : a.defers = []) (hR : R (.returned (.tuple #[])) w) : bodyPost P fn R .ret a w :=
  ⟨hd, _, by simp [results, h], hR⟩
theorem ret1 (h : fn.results = #[r1]) (h1 : ResIs P w a.tmps r1 v1) (hd : a.defers = []) (hR : R (.returned v1) w) : bodyPost P fn R .ret a w :=
  ⟨hd, v1, by unfold ResIs at *; simp [results_resAt, h, *], hR⟩
theorem ret2 (h : fn.results = #[r1, r2]) (h1 : ResIs P w a.tmps r1 v1) (h2 : ResIs P w a.tmps r2 v2) (hd : a.defers = []) (hR : R (.returned (.tuple #[v1, v2])) w) : bodyPost P fn R .ret a w :=
  ⟨hd, _, by unfold ResIs at *; simp [results_resAt, h, *], hR⟩
theorem ret3 (h : fn.results = #[r1, r2, r3]) (h1 : ResIs P w a.tmps r1 v1) (h2 : ResIs P w a.tmps r2 v2) (h3 : ResIs P w a.tmps r3 v3) (hd : a.defers = []) (hR : R (.returned (.tuple #[v1, v2, v3])) w) : bodyPost P fn R .ret a w :=
  ⟨hd, _, by unfold ResIs at *; simp [results_resAt, h, *], hR⟩
theorem ret5 (h : fn.results = #[r1, r2, r3, r4, r5]) (h1 : ResIs P w a.tmps r1 v1) (h2 : ResIs P w a.tmps r2 v2) (h3 : ResIs P w a.tmps r3 v3) (h4 : ResIs P w a.tmps r4 v4) (h5 : ResIs P w a.tmps r5 v5) (hd : a.defers = [])
    (hR : R (.returned (.tuple #[v1, v2, v3, v4, v5])) w) : bodyPost P fn R .ret a w :=
  ⟨hd, _, by unfold ResIs at *; simp [results_resAt, h, *], hR⟩
end
end Go.Proofs.Ythdekionepfmdaa
