import Derived.Test.YtjpcncllagooeaaDoorEvTop
import Derived.KernelRfl
import Derived.Test.YtjpcncllagooeaaDoorChecked
namespace Go.Ev
set_option maxRecDepth 100000
open Go.Proofs
noncomputable def tyL : List TypeInfo := [Tryd.t0, Tryd.t1, Tryd.t2, Tryd.t3, Tryd.t4, Tryd.t5, Tryd.t6, Tryd.t7, Tryd.t8, Tryd.t9, Tryd.t10, Tryd.t11, Tryd.t12, Tryd.t13, Tryd.t14, Tryd.t15, Tryd.t16, Tryd.t17, Tryd.t18, Tryd.t19, Tryd.t20, Tryd.t21, Tryd.t22, Tryd.t23, Tryd.t24, Tryd.t25, Tryd.t26, Tryd.t27, Tryd.t28, Tryd.t29, Tryd.t30, Tryd.t31, Tryd.t32, Tryd.t33, Tryd.t34, Tryd.t35, Tryd.t36, Tryd.t37, Tryd.t38, Tryd.t39, Tryd.t40, Tryd.t41, Tryd.t42, Tryd.t43, Tryd.t44, Tryd.t45, Tryd.t46, Tryd.t47, Tryd.t48, Tryd.t49, Tryd.t50, Tryd.t51, Tryd.t52, Tryd.t53, Tryd.t54, Tryd.t55, Tryd.t56, Tryd.t57, Tryd.t58, Tryd.t59, Tryd.t60, Tryd.t61, Tryd.t62, Tryd.t63, Tryd.t64, Tryd.t65, Tryd.t66, Tryd.t67, Tryd.t68, Tryd.t69, Tryd.t70, Tryd.t71, Tryd.t72, Tryd.t73, Tryd.t74, Tryd.t75, Tryd.t76, Tryd.t77, Tryd.t78, Tryd.t79, Tryd.t80, Tryd.t81, Tryd.t82, Tryd.t83, Tryd.t84, Tryd.t85, Tryd.t86, Tryd.t87, Tryd.t88, Tryd.t89, Tryd.t90, Tryd.t91, Tryd.t92, Tryd.t93, Tryd.t94, Tryd.t95, Tryd.t96, Tryd.t97, Tryd.t98, Tryd.t99, Tryd.t100, Tryd.t101, Tryd.t102, Tryd.t103, Tryd.t104, Tryd.t105, Tryd.t106, Tryd.t107, Tryd.t108, Tryd.t109, Tryd.t110, Tryd.t111, Tryd.t112, Tryd.t113, Tryd.t114, Tryd.t115, Tryd.t116, Tryd.t117, Tryd.t118, Tryd.t119, Tryd.t120, Tryd.t121, Tryd.t122, Tryd.t123, Tryd.t124, Tryd.t125, Tryd.t126, Tryd.t127, Tryd.t128, Tryd.t129, Tryd.t130, Tryd.t131, Tryd.t132, Tryd.t133, Tryd.t134, Tryd.t135, Tryd.t136, Tryd.t137, Tryd.t138, Tryd.t139, Tryd.t140, Tryd.t141, Tryd.t142, Tryd.t143, Tryd.t144, Tryd.t145, Tryd.t146, Tryd.t147, Tryd.t148, Tryd.t149, Tryd.t150, Tryd.t151, Tryd.t152, Tryd.t153, Tryd.t154, Tryd.t155, Tryd.t156, Tryd.t157, Tryd.t158, Tryd.t159, Tryd.t160, Tryd.t161, Tryd.t162, Tryd.t163, Tryd.t164, Tryd.t165, Tryd.t166, Tryd.t167, Tryd.t168]
noncomputable def fnL : List Func := [Tryd.f0, Tryd.f1, Tryd.f2, Tryd.f3, Tryd.f4, Tryd.f5, Tryd.f6, Tryd.f7, Tryd.f8, Tryd.f9, Tryd.f10, Tryd.f11, Tryd.f12, Tryd.f13, Tryd.f14, Tryd.f15, Tryd.f16, Tryd.f17, Tryd.f18, Tryd.f19, Tryd.f20, Tryd.f21, Tryd.f22, Tryd.f23, Tryd.f24, Tryd.f25, Tryd.f26, Tryd.f27, Tryd.f28, Tryd.f29, Tryd.f30, Tryd.f31, Tryd.f32, Tryd.f33, Tryd.f34, Tryd.f35, Tryd.f36, Tryd.f37, Tryd.f38, Tryd.f39, Tryd.f40, Tryd.f41, Tryd.f42, Tryd.f43, Tryd.f44, Tryd.f45, Tryd.f46, Tryd.f47, Tryd.f48, Tryd.f49, Tryd.f50, Tryd.f51, Tryd.f52, Tryd.f53, Tryd.f54, Tryd.f55, Tryd.f56, Tryd.f57, Tryd.f58, Tryd.f59, Tryd.f60, Tryd.f61, Tryd.f62, Tryd.f63, Tryd.f64, Tryd.f65, Tryd.f66, Tryd.f67, Tryd.f68, Tryd.f69, Tryd.f70, Tryd.f71, Tryd.f72, Tryd.f73, Tryd.f74, Tryd.f75, Tryd.f76, Tryd.f77, Tryd.f78, Tryd.f79, Tryd.f80, Tryd.f81, Tryd.f82, Tryd.f83, Tryd.f84, Tryd.f85, Tryd.f86, Tryd.f87, Tryd.f88, Tryd.f89, Tryd.f90, Tryd.f91, Tryd.f92, Tryd.f93, Tryd.f94, Tryd.f95, Tryd.f96, Tryd.f97, Tryd.f98, Tryd.f99, Tryd.f100, Tryd.f101, Tryd.f102, Tryd.f103, Tryd.f104, Tryd.f105, Tryd.f106, Tryd.f107, Tryd.f108, Tryd.f109, Tryd.f110, Tryd.f111, Tryd.f112, Tryd.f113, Tryd.f114, Tryd.f115, Tryd.f116, Tryd.f117, Tryd.f118, Tryd.f119, Tryd.f120, Tryd.f121, Tryd.f122, Tryd.f123, Tryd.f124, Tryd.f125]
noncomputable def env : Env := ⟨mkPT tyL, mkPT (fnL.map FE.fn), fun g => Nat.rec (motive := fun _ => Option Pos) (some (Pos.of 0)) (fun _ _ => none) g⟩
end Go.Ev
namespace Go.Ev
set_option maxRecDepth 100000
open Go.Proofs
theorem env_types : Tryd.prog.types = tyL.toArray := by kernel_rfl
theorem env_funcs : Tryd.prog.funcs = fnL.toArray := by kernel_rfl
theorem env_names : (fnL.all fun fn => !(fn.name == "runtime.NumGoroutine")) = true := by kernel_rfl
theorem env_codes : allB fnB fnL = true := by kernel_rfl
theorem env_mixed : Tryd.prog.follows .mixedOrders = true := by kernel_rfl
theorem env_fn {f : Nat} {x : Func} (h : fnOf env f = some x) : fnL[f]? = some x := by
  unfold fnOf at h
  obtain ⟨y, h1, h2⟩ := opt_eq_some h
  have h3 := mkPT_some (l := fnL.map FE.fn) h1
  rw [List.getElem?_map] at h3
  cases hx : fnL[f]? with
  | none => rw [hx] at h3; cases h3
  | some z => rw [hx] at h3; cases h3; cases h2; rfl
theorem env_ok : EnvOk Tryd.prog env where
  ty t i h := by
    have h3 := mkPT_some (l := tyL) h
    have h4 : Tryd.prog.types[t]? = some i := by rw [env_types]; simpa using h3
    have hlt : t < Tryd.prog.types.size := (Array.getElem?_eq_some_iff.1 h4).1
    unfold Tables.info?
    rw [if_pos hlt]
    exact h4
  fn f x h := by
    have h3 := env_fn h
    refine ⟨by rw [env_funcs]; simpa using h3, ?_⟩
    have := List.all_eq_true.1 env_names x (List.mem_of_getElem? h3)
    simpa using this
theorem env_code : CodesOk env := fun _ fn _ h hb => fnB_ok (allB_eq env_codes fn (List.mem_of_getElem? (env_fn h))) hb
theorem env_sums {base : Nat} {w0 : World} : SumsOk Tryd.prog env base w0 := sumsOk_none fun f g h => by
  have h3 := mkPT_some (l := fnL.map FE.fn) h
  rw [List.getElem?_map] at h3
  cases hx : fnL[f]? with
  | none => rw [hx] at h3; cases h3
  | some z => rw [hx] at h3; cases h3
/-- THE LAW, at this program. -/
theorem env_call {base : Nat} {w0 : World} (nl n : Nat) : CallOk Tryd.prog env base w0 (evC env nl n) := evC_sound env_ok env_mixed env_code env_sums nl n
end Go.Ev
