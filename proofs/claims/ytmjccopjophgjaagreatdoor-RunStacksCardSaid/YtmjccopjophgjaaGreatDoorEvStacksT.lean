/- What is told of the atoms of 'RunStacks'. -/
import Derived.Test.YtmjccopjophgjaaGreatDoorEvRn
namespace Go.Ev

noncomputable def tbSt : List (Nat × AtO × AtV) := [(0, .w32, .at 2), (1, .w32, .at 3), (2, .w32, .at 2), (3, .w32, .at 3), (2, .cv .i32, .at 4), (4, .cv .i64, .at 2), (3, .cv .i32, .at 5), (5, .cv .i64, .at 3), (2, .bc .sub .i64 11, .at 6), (3, .bc .sub .i64 11, .at 7)]
noncomputable def sgSt (x y : Int) : Nat → IntKind × Int := sg [(.i64, x), (.i64, y), (.i64, wr .i32 x), (.i64, wr .i32 y), (.i32, wr .i32 x), (.i32, wr .i32 y), (.i64, wr .i32 x - 11), (.i64, wr .i32 y - 11)]
theorem tbSt_ok (x y : Int) : AtOk (sgSt x y) tbSt :=
  atOk_cons (den_w32 rfl rfl rfl) <| atOk_cons (den_w32 rfl rfl rfl) <| atOk_cons (den_w32 rfl rfl (wr32_idem x)) <| atOk_cons (den_w32 rfl rfl (wr32_idem y)) <| atOk_cons (den_cv rfl rfl (wr32_idem x)) <| atOk_cons (den_cv rfl rfl (wr64_32 x)) <|
    atOk_cons (den_cv rfl rfl (wr32_idem y)) <| atOk_cons (den_cv rfl rfl (wr64_32 y)) <| atOk_cons (den_sub rfl rfl (wr_sub11 x)) <| atOk_cons (den_sub rfl rfl (wr_sub11 y)) <| atOk_nil

end Go.Ev
