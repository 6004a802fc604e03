/- What is told of the atoms of 'RunLocals'. -/
import Derived.Test.YtmjccopjophgjaaGreatDoorEvRn
namespace Go.Ev

noncomputable def tbLo : List (Nat × AtO × AtV) := [(0, .w32, .at 1), (1, .w32, .at 1), (1, .cv .i32, .at 2), (2, .cv .i64, .at 1), (1, .bc .sub .i64 11, .at 3)]
noncomputable def sgLo (x : Int) : Nat → IntKind × Int := sg [(.i64, x), (.i64, wr .i32 x), (.i32, wr .i32 x), (.i64, wr .i32 x - 11)]
theorem tbLo_ok (x : Int) : AtOk (sgLo x) tbLo :=
  atOk_cons (den_w32 rfl rfl rfl) <| atOk_cons (den_w32 rfl rfl (wr32_idem x)) <| atOk_cons (den_cv rfl rfl (wr32_idem x)) <| atOk_cons (den_cv rfl rfl (wr64_32 x)) <| atOk_cons (den_sub rfl rfl (wr_sub11 x)) <| atOk_nil

end Go.Ev
