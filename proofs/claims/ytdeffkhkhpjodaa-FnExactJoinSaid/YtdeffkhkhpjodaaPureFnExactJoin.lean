/- The pure statement of FnExactJoin: the join of two rectangles is what the reference tells, for all rectangles; no condition. -/
import Derived.Test.YtdeffkhkhpjodaaPFnExactJoinx2
namespace Go.Proofs.Ytdeffkhkhpjodaa.PureFnExactJoin
open Go.RowKit Go.Proofs.Ytdeffkhkhpjodaa.PFnExactJoin Go.Proofs.YtdeffkhkhpjodaaW.PrintWords Go.Proofs.YtdeffkhkhpjodaaW.PrintLast Go.Proofs.YtdeffkhkhpjodaaW.PrintMore
set_option linter.unusedVariables false
set_option linter.unusedSimpArgs false

/-! ### box -/
theorem toBox_some (a b c d : Int) : laws_toBox.f a b c d = some (a, b, c, d) := rfl

/-! ### minmax -/
theorem mn_le (a b : Int) : mn a b = if b < a then b else a := rfl
theorem mx_ge (a b : Int) : mx a b = if a < b then b else a := rfl

/-! ### least -/
theorem least_spec (a b : Int) : spec_Least.f a b = some (mn a b) := by
  unfold spec_Least.f mn; split <;> rfl

/-! ### most -/
theorem most_spec (a b : Int) : spec_Most.f a b = some (mx a b) := by
  unfold spec_Most.f mx
  by_cases h : a < b
  · rw [if_pos h, if_pos h]
  · rw [if_neg h, if_neg h]

/-! ### join -/
theorem join_spec (a b c d e f g h : Int) : spec_Join.f a b c d e f g h = some (mn a e, mn b f, mx c g, mx d h) := by
  unfold spec_Join.f
  simp only [least_spec, most_spec, Option.bind_some]
theorem join_impl (a b c d e f g h : Int) : impl_Join.f a b c d e f g h = some (mn a e, mn b f, mx c g, mx d h) := rfl

theorem pure_law (a b c d e f g h : Int) (w0 : (Lit.int .i64 a).wf = true) (w1 : (Lit.int .i64 b).wf = true) (w2 : (Lit.int .i64 c).wf = true) (w3 : (Lit.int .i64 d).wf = true) (w4 : (Lit.int .i64 e).wf = true) (w5 : (Lit.int .i64 f).wf = true) (w6 : (Lit.int .i64 g).wf = true) (w7 : (Lit.int .i64 h).wf = true) : laws_FnExactJoin.f a b c d e f g h = some true := by
  unfold laws_FnExactJoin.f
  simp [toBox_some, join_spec, join_impl, laws_eqBox.f]
end Go.Proofs.Ytdeffkhkhpjodaa.PureFnExactJoin
