/- Zero values, and the tables without the functions. -/
import Derived.Test.YtmbpojfjpiahiaaGreatDoorEvSeat
namespace Go.Ev
set_option maxRecDepth 100000
open Go.Proofs
theorem bS {f : Func} (h : (opt f.body false fun _ => true) = true) : ∃ c, f.body = some c := by
  cases hb : f.body with
  | none => rw [hb] at h; cases h
  | some c => exact ⟨c, rfl⟩
noncomputable def oI (x : AV) (k : AV → Out) : Out := Option.rec (motive := fun _ => Out) .no k (avId x)
abbrev RT := CallT → StT
noncomputable def eF (F : PT FE) : Env := ⟨mkPT tyL, F, glF⟩
noncomputable def oP (x : Option AV) (k : AV → Out) : Out := Option.rec (motive := fun _ => Out) .no k x
noncomputable def iN (n : Nat) : AV := .int .i64 (.ofNat n)
noncomputable def t0 (T : PT AV) : AV := opt (T.get .h) .any fun v => v
noncomputable def t1 (T : PT AV) : AV := opt (T.get (.o .h)) .any fun v => v
noncomputable def t2 (T : PT AV) : AV := opt (T.get (.i .h)) .any fun v => v
noncomputable def t3 (T : PT AV) : AV := opt (T.get (.o (.o .h))) .any fun v => v
noncomputable def t4 (T : PT AV) : AV := opt (T.get (.i (.o .h))) .any fun v => v
noncomputable def t5 (T : PT AV) : AV := opt (T.get (.o (.i .h))) .any fun v => v
noncomputable def t6 (T : PT AV) : AV := opt (T.get (.i (.i .h))) .any fun v => v
noncomputable def t7 (T : PT AV) : AV := opt (T.get (.o (.o (.o .h)))) .any fun v => v
noncomputable def t8 (T : PT AV) : AV := opt (T.get (.i (.o (.o .h)))) .any fun v => v
noncomputable def t9 (T : PT AV) : AV := opt (T.get (.o (.i (.o .h)))) .any fun v => v
noncomputable def t10 (T : PT AV) : AV := opt (T.get (.i (.i (.o .h)))) .any fun v => v
noncomputable def t11 (T : PT AV) : AV := opt (T.get (.o (.o (.i .h)))) .any fun v => v
noncomputable def t12 (T : PT AV) : AV := opt (T.get (.i (.o (.i .h)))) .any fun v => v
noncomputable def t13 (T : PT AV) : AV := opt (T.get (.o (.i (.i .h)))) .any fun v => v
noncomputable def t14 (T : PT AV) : AV := opt (T.get (.i (.i (.i .h)))) .any fun v => v
noncomputable def t15 (T : PT AV) : AV := opt (T.get (.o (.o (.o (.o .h))))) .any fun v => v
noncomputable def t16 (T : PT AV) : AV := opt (T.get (.i (.o (.o (.o .h))))) .any fun v => v
noncomputable def t17 (T : PT AV) : AV := opt (T.get (.o (.i (.o (.o .h))))) .any fun v => v
noncomputable def t18 (T : PT AV) : AV := opt (T.get (.i (.i (.o (.o .h))))) .any fun v => v
noncomputable def t19 (T : PT AV) : AV := opt (T.get (.o (.o (.i (.o .h))))) .any fun v => v
noncomputable def t20 (T : PT AV) : AV := opt (T.get (.i (.o (.i (.o .h))))) .any fun v => v
noncomputable def t21 (T : PT AV) : AV := opt (T.get (.o (.i (.i (.o .h))))) .any fun v => v
noncomputable def t22 (T : PT AV) : AV := opt (T.get (.i (.i (.i (.o .h))))) .any fun v => v
noncomputable def t23 (T : PT AV) : AV := opt (T.get (.o (.o (.o (.i .h))))) .any fun v => v
noncomputable def t24 (T : PT AV) : AV := opt (T.get (.i (.o (.o (.i .h))))) .any fun v => v
noncomputable def t25 (T : PT AV) : AV := opt (T.get (.o (.i (.o (.i .h))))) .any fun v => v
noncomputable def t26 (T : PT AV) : AV := opt (T.get (.i (.i (.o (.i .h))))) .any fun v => v
noncomputable def t27 (T : PT AV) : AV := opt (T.get (.o (.o (.i (.i .h))))) .any fun v => v
noncomputable def t28 (T : PT AV) : AV := opt (T.get (.i (.o (.i (.i .h))))) .any fun v => v
noncomputable def t29 (T : PT AV) : AV := opt (T.get (.o (.i (.i (.i .h))))) .any fun v => v
noncomputable def t30 (T : PT AV) : AV := opt (T.get (.i (.i (.i (.i .h))))) .any fun v => v
noncomputable def t31 (T : PT AV) : AV := opt (T.get (.o (.o (.o (.o (.o .h)))))) .any fun v => v
noncomputable def t32 (T : PT AV) : AV := opt (T.get (.i (.o (.o (.o (.o .h)))))) .any fun v => v
noncomputable def t33 (T : PT AV) : AV := opt (T.get (.o (.i (.o (.o (.o .h)))))) .any fun v => v
noncomputable def t34 (T : PT AV) : AV := opt (T.get (.i (.i (.o (.o (.o .h)))))) .any fun v => v
noncomputable def t35 (T : PT AV) : AV := opt (T.get (.o (.o (.i (.o (.o .h)))))) .any fun v => v
noncomputable def t36 (T : PT AV) : AV := opt (T.get (.i (.o (.i (.o (.o .h)))))) .any fun v => v
noncomputable def t37 (T : PT AV) : AV := opt (T.get (.o (.i (.i (.o (.o .h)))))) .any fun v => v
noncomputable def t38 (T : PT AV) : AV := opt (T.get (.i (.i (.i (.o (.o .h)))))) .any fun v => v
noncomputable def t39 (T : PT AV) : AV := opt (T.get (.o (.o (.o (.i (.o .h)))))) .any fun v => v
noncomputable def t40 (T : PT AV) : AV := opt (T.get (.i (.o (.o (.i (.o .h)))))) .any fun v => v
noncomputable def t41 (T : PT AV) : AV := opt (T.get (.o (.i (.o (.i (.o .h)))))) .any fun v => v
noncomputable def t42 (T : PT AV) : AV := opt (T.get (.i (.i (.o (.i (.o .h)))))) .any fun v => v
noncomputable def t43 (T : PT AV) : AV := opt (T.get (.o (.o (.i (.i (.o .h)))))) .any fun v => v
noncomputable def t44 (T : PT AV) : AV := opt (T.get (.i (.o (.i (.i (.o .h)))))) .any fun v => v
noncomputable def t45 (T : PT AV) : AV := opt (T.get (.o (.i (.i (.i (.o .h)))))) .any fun v => v
noncomputable def t46 (T : PT AV) : AV := opt (T.get (.i (.i (.i (.i (.o .h)))))) .any fun v => v
noncomputable def t47 (T : PT AV) : AV := opt (T.get (.o (.o (.o (.o (.i .h)))))) .any fun v => v
noncomputable def t48 (T : PT AV) : AV := opt (T.get (.i (.o (.o (.o (.i .h)))))) .any fun v => v
noncomputable def t49 (T : PT AV) : AV := opt (T.get (.o (.i (.o (.o (.i .h)))))) .any fun v => v
noncomputable def t50 (T : PT AV) : AV := opt (T.get (.i (.i (.o (.o (.i .h)))))) .any fun v => v
noncomputable def t51 (T : PT AV) : AV := opt (T.get (.o (.o (.i (.o (.i .h)))))) .any fun v => v
noncomputable def t52 (T : PT AV) : AV := opt (T.get (.i (.o (.i (.o (.i .h)))))) .any fun v => v
noncomputable def t53 (T : PT AV) : AV := opt (T.get (.o (.i (.i (.o (.i .h)))))) .any fun v => v
noncomputable def t54 (T : PT AV) : AV := opt (T.get (.i (.i (.i (.o (.i .h)))))) .any fun v => v
noncomputable def t55 (T : PT AV) : AV := opt (T.get (.o (.o (.o (.i (.i .h)))))) .any fun v => v
noncomputable def t56 (T : PT AV) : AV := opt (T.get (.i (.o (.o (.i (.i .h)))))) .any fun v => v
noncomputable def t57 (T : PT AV) : AV := opt (T.get (.o (.i (.o (.i (.i .h)))))) .any fun v => v
noncomputable def t58 (T : PT AV) : AV := opt (T.get (.i (.i (.o (.i (.i .h)))))) .any fun v => v
noncomputable def t59 (T : PT AV) : AV := opt (T.get (.o (.o (.i (.i (.i .h)))))) .any fun v => v
noncomputable def t60 (T : PT AV) : AV := opt (T.get (.i (.o (.i (.i (.i .h)))))) .any fun v => v
noncomputable def t61 (T : PT AV) : AV := opt (T.get (.o (.i (.i (.i (.i .h)))))) .any fun v => v
noncomputable def t62 (T : PT AV) : AV := opt (T.get (.i (.i (.i (.i (.i .h)))))) .any fun v => v
noncomputable def t63 (T : PT AV) : AV := opt (T.get (.o (.o (.o (.o (.o (.o .h))))))) .any fun v => v
noncomputable def t64 (T : PT AV) : AV := opt (T.get (.i (.o (.o (.o (.o (.o .h))))))) .any fun v => v
noncomputable def t65 (T : PT AV) : AV := opt (T.get (.o (.i (.o (.o (.o (.o .h))))))) .any fun v => v
noncomputable def t66 (T : PT AV) : AV := opt (T.get (.i (.i (.o (.o (.o (.o .h))))))) .any fun v => v
noncomputable def t67 (T : PT AV) : AV := opt (T.get (.o (.o (.i (.o (.o (.o .h))))))) .any fun v => v
noncomputable def t68 (T : PT AV) : AV := opt (T.get (.i (.o (.i (.o (.o (.o .h))))))) .any fun v => v
noncomputable def t69 (T : PT AV) : AV := opt (T.get (.o (.i (.i (.o (.o (.o .h))))))) .any fun v => v
noncomputable def t70 (T : PT AV) : AV := opt (T.get (.i (.i (.i (.o (.o (.o .h))))))) .any fun v => v
noncomputable def t71 (T : PT AV) : AV := opt (T.get (.o (.o (.o (.i (.o (.o .h))))))) .any fun v => v
noncomputable def t72 (T : PT AV) : AV := opt (T.get (.i (.o (.o (.i (.o (.o .h))))))) .any fun v => v
noncomputable def t73 (T : PT AV) : AV := opt (T.get (.o (.i (.o (.i (.o (.o .h))))))) .any fun v => v
noncomputable def t74 (T : PT AV) : AV := opt (T.get (.i (.i (.o (.i (.o (.o .h))))))) .any fun v => v
noncomputable def t75 (T : PT AV) : AV := opt (T.get (.o (.o (.i (.i (.o (.o .h))))))) .any fun v => v
noncomputable def t76 (T : PT AV) : AV := opt (T.get (.i (.o (.i (.i (.o (.o .h))))))) .any fun v => v
noncomputable def t77 (T : PT AV) : AV := opt (T.get (.o (.i (.i (.i (.o (.o .h))))))) .any fun v => v
noncomputable def t78 (T : PT AV) : AV := opt (T.get (.i (.i (.i (.i (.o (.o .h))))))) .any fun v => v
noncomputable def t79 (T : PT AV) : AV := opt (T.get (.o (.o (.o (.o (.i (.o .h))))))) .any fun v => v
noncomputable def t80 (T : PT AV) : AV := opt (T.get (.i (.o (.o (.o (.i (.o .h))))))) .any fun v => v
noncomputable def t81 (T : PT AV) : AV := opt (T.get (.o (.i (.o (.o (.i (.o .h))))))) .any fun v => v
noncomputable def t82 (T : PT AV) : AV := opt (T.get (.i (.i (.o (.o (.i (.o .h))))))) .any fun v => v
noncomputable def t83 (T : PT AV) : AV := opt (T.get (.o (.o (.i (.o (.i (.o .h))))))) .any fun v => v
noncomputable def t84 (T : PT AV) : AV := opt (T.get (.i (.o (.i (.o (.i (.o .h))))))) .any fun v => v
noncomputable def t85 (T : PT AV) : AV := opt (T.get (.o (.i (.i (.o (.i (.o .h))))))) .any fun v => v
noncomputable def t86 (T : PT AV) : AV := opt (T.get (.i (.i (.i (.o (.i (.o .h))))))) .any fun v => v
noncomputable def t87 (T : PT AV) : AV := opt (T.get (.o (.o (.o (.i (.i (.o .h))))))) .any fun v => v
noncomputable def t88 (T : PT AV) : AV := opt (T.get (.i (.o (.o (.i (.i (.o .h))))))) .any fun v => v
noncomputable def t89 (T : PT AV) : AV := opt (T.get (.o (.i (.o (.i (.i (.o .h))))))) .any fun v => v
noncomputable def t90 (T : PT AV) : AV := opt (T.get (.i (.i (.o (.i (.i (.o .h))))))) .any fun v => v
noncomputable def t91 (T : PT AV) : AV := opt (T.get (.o (.o (.i (.i (.i (.o .h))))))) .any fun v => v
noncomputable def t92 (T : PT AV) : AV := opt (T.get (.i (.o (.i (.i (.i (.o .h))))))) .any fun v => v
noncomputable def t93 (T : PT AV) : AV := opt (T.get (.o (.i (.i (.i (.i (.o .h))))))) .any fun v => v
noncomputable def t94 (T : PT AV) : AV := opt (T.get (.i (.i (.i (.i (.i (.o .h))))))) .any fun v => v
noncomputable def t95 (T : PT AV) : AV := opt (T.get (.o (.o (.o (.o (.o (.i .h))))))) .any fun v => v
noncomputable def t96 (T : PT AV) : AV := opt (T.get (.i (.o (.o (.o (.o (.i .h))))))) .any fun v => v
noncomputable def t97 (T : PT AV) : AV := opt (T.get (.o (.i (.o (.o (.o (.i .h))))))) .any fun v => v
noncomputable def t98 (T : PT AV) : AV := opt (T.get (.i (.i (.o (.o (.o (.i .h))))))) .any fun v => v
noncomputable def t99 (T : PT AV) : AV := opt (T.get (.o (.o (.i (.o (.o (.i .h))))))) .any fun v => v
noncomputable def t100 (T : PT AV) : AV := opt (T.get (.i (.o (.i (.o (.o (.i .h))))))) .any fun v => v
noncomputable def t101 (T : PT AV) : AV := opt (T.get (.o (.i (.i (.o (.o (.i .h))))))) .any fun v => v
noncomputable def t102 (T : PT AV) : AV := opt (T.get (.i (.i (.i (.o (.o (.i .h))))))) .any fun v => v
noncomputable def t103 (T : PT AV) : AV := opt (T.get (.o (.o (.o (.i (.o (.i .h))))))) .any fun v => v
noncomputable def t104 (T : PT AV) : AV := opt (T.get (.i (.o (.o (.i (.o (.i .h))))))) .any fun v => v
noncomputable def t105 (T : PT AV) : AV := opt (T.get (.o (.i (.o (.i (.o (.i .h))))))) .any fun v => v
noncomputable def t106 (T : PT AV) : AV := opt (T.get (.i (.i (.o (.i (.o (.i .h))))))) .any fun v => v
noncomputable def t107 (T : PT AV) : AV := opt (T.get (.o (.o (.i (.i (.o (.i .h))))))) .any fun v => v
noncomputable def t108 (T : PT AV) : AV := opt (T.get (.i (.o (.i (.i (.o (.i .h))))))) .any fun v => v
noncomputable def t109 (T : PT AV) : AV := opt (T.get (.o (.i (.i (.i (.o (.i .h))))))) .any fun v => v
noncomputable def t110 (T : PT AV) : AV := opt (T.get (.i (.i (.i (.i (.o (.i .h))))))) .any fun v => v
noncomputable def t111 (T : PT AV) : AV := opt (T.get (.o (.o (.o (.o (.i (.i .h))))))) .any fun v => v
noncomputable def t112 (T : PT AV) : AV := opt (T.get (.i (.o (.o (.o (.i (.i .h))))))) .any fun v => v
noncomputable def t113 (T : PT AV) : AV := opt (T.get (.o (.i (.o (.o (.i (.i .h))))))) .any fun v => v
noncomputable def t114 (T : PT AV) : AV := opt (T.get (.i (.i (.o (.o (.i (.i .h))))))) .any fun v => v
noncomputable def t115 (T : PT AV) : AV := opt (T.get (.o (.o (.i (.o (.i (.i .h))))))) .any fun v => v
noncomputable def t116 (T : PT AV) : AV := opt (T.get (.i (.o (.i (.o (.i (.i .h))))))) .any fun v => v
noncomputable def t117 (T : PT AV) : AV := opt (T.get (.o (.i (.i (.o (.i (.i .h))))))) .any fun v => v
noncomputable def t118 (T : PT AV) : AV := opt (T.get (.i (.i (.i (.o (.i (.i .h))))))) .any fun v => v
noncomputable def t119 (T : PT AV) : AV := opt (T.get (.o (.o (.o (.i (.i (.i .h))))))) .any fun v => v
noncomputable def t120 (T : PT AV) : AV := opt (T.get (.i (.o (.o (.i (.i (.i .h))))))) .any fun v => v
noncomputable def t121 (T : PT AV) : AV := opt (T.get (.o (.i (.o (.i (.i (.i .h))))))) .any fun v => v
noncomputable def t122 (T : PT AV) : AV := opt (T.get (.i (.i (.o (.i (.i (.i .h))))))) .any fun v => v
noncomputable def t123 (T : PT AV) : AV := opt (T.get (.o (.o (.i (.i (.i (.i .h))))))) .any fun v => v
noncomputable def t124 (T : PT AV) : AV := opt (T.get (.i (.o (.i (.i (.i (.i .h))))))) .any fun v => v
noncomputable def t125 (T : PT AV) : AV := opt (T.get (.o (.i (.i (.i (.i (.i .h))))))) .any fun v => v
noncomputable def t126 (T : PT AV) : AV := opt (T.get (.i (.i (.i (.i (.i (.i .h))))))) .any fun v => v
noncomputable def t127 (T : PT AV) : AV := opt (T.get (.o (.o (.o (.o (.o (.o (.o .h)))))))) .any fun v => v
noncomputable def t128 (T : PT AV) : AV := opt (T.get (.i (.o (.o (.o (.o (.o (.o .h)))))))) .any fun v => v
noncomputable def t129 (T : PT AV) : AV := opt (T.get (.o (.i (.o (.o (.o (.o (.o .h)))))))) .any fun v => v
noncomputable def t130 (T : PT AV) : AV := opt (T.get (.i (.i (.o (.o (.o (.o (.o .h)))))))) .any fun v => v
noncomputable def t131 (T : PT AV) : AV := opt (T.get (.o (.o (.i (.o (.o (.o (.o .h)))))))) .any fun v => v
noncomputable def t132 (T : PT AV) : AV := opt (T.get (.i (.o (.i (.o (.o (.o (.o .h)))))))) .any fun v => v
noncomputable def t133 (T : PT AV) : AV := opt (T.get (.o (.i (.i (.o (.o (.o (.o .h)))))))) .any fun v => v
noncomputable def t134 (T : PT AV) : AV := opt (T.get (.i (.i (.i (.o (.o (.o (.o .h)))))))) .any fun v => v
noncomputable def t135 (T : PT AV) : AV := opt (T.get (.o (.o (.o (.i (.o (.o (.o .h)))))))) .any fun v => v
noncomputable def t136 (T : PT AV) : AV := opt (T.get (.i (.o (.o (.i (.o (.o (.o .h)))))))) .any fun v => v
noncomputable def t137 (T : PT AV) : AV := opt (T.get (.o (.i (.o (.i (.o (.o (.o .h)))))))) .any fun v => v
noncomputable def t138 (T : PT AV) : AV := opt (T.get (.i (.i (.o (.i (.o (.o (.o .h)))))))) .any fun v => v
noncomputable def t139 (T : PT AV) : AV := opt (T.get (.o (.o (.i (.i (.o (.o (.o .h)))))))) .any fun v => v
noncomputable def t140 (T : PT AV) : AV := opt (T.get (.i (.o (.i (.i (.o (.o (.o .h)))))))) .any fun v => v
noncomputable def t141 (T : PT AV) : AV := opt (T.get (.o (.i (.i (.i (.o (.o (.o .h)))))))) .any fun v => v
noncomputable def t142 (T : PT AV) : AV := opt (T.get (.i (.i (.i (.i (.o (.o (.o .h)))))))) .any fun v => v
noncomputable def t143 (T : PT AV) : AV := opt (T.get (.o (.o (.o (.o (.i (.o (.o .h)))))))) .any fun v => v
noncomputable def t144 (T : PT AV) : AV := opt (T.get (.i (.o (.o (.o (.i (.o (.o .h)))))))) .any fun v => v
noncomputable def t145 (T : PT AV) : AV := opt (T.get (.o (.i (.o (.o (.i (.o (.o .h)))))))) .any fun v => v
noncomputable def t146 (T : PT AV) : AV := opt (T.get (.i (.i (.o (.o (.i (.o (.o .h)))))))) .any fun v => v
noncomputable def t147 (T : PT AV) : AV := opt (T.get (.o (.o (.i (.o (.i (.o (.o .h)))))))) .any fun v => v
noncomputable def t148 (T : PT AV) : AV := opt (T.get (.i (.o (.i (.o (.i (.o (.o .h)))))))) .any fun v => v
noncomputable def t149 (T : PT AV) : AV := opt (T.get (.o (.i (.i (.o (.i (.o (.o .h)))))))) .any fun v => v
noncomputable def t150 (T : PT AV) : AV := opt (T.get (.i (.i (.i (.o (.i (.o (.o .h)))))))) .any fun v => v
noncomputable def t151 (T : PT AV) : AV := opt (T.get (.o (.o (.o (.i (.i (.o (.o .h)))))))) .any fun v => v
noncomputable def t152 (T : PT AV) : AV := opt (T.get (.i (.o (.o (.i (.i (.o (.o .h)))))))) .any fun v => v
noncomputable def t153 (T : PT AV) : AV := opt (T.get (.o (.i (.o (.i (.i (.o (.o .h)))))))) .any fun v => v
noncomputable def t154 (T : PT AV) : AV := opt (T.get (.i (.i (.o (.i (.i (.o (.o .h)))))))) .any fun v => v
noncomputable def t155 (T : PT AV) : AV := opt (T.get (.o (.o (.i (.i (.i (.o (.o .h)))))))) .any fun v => v
noncomputable def t156 (T : PT AV) : AV := opt (T.get (.i (.o (.i (.i (.i (.o (.o .h)))))))) .any fun v => v
noncomputable def t157 (T : PT AV) : AV := opt (T.get (.o (.i (.i (.i (.i (.o (.o .h)))))))) .any fun v => v
noncomputable def t158 (T : PT AV) : AV := opt (T.get (.i (.i (.i (.i (.i (.o (.o .h)))))))) .any fun v => v
noncomputable def t159 (T : PT AV) : AV := opt (T.get (.o (.o (.o (.o (.o (.i (.o .h)))))))) .any fun v => v
noncomputable def t160 (T : PT AV) : AV := opt (T.get (.i (.o (.o (.o (.o (.i (.o .h)))))))) .any fun v => v
noncomputable def t161 (T : PT AV) : AV := opt (T.get (.o (.i (.o (.o (.o (.i (.o .h)))))))) .any fun v => v
noncomputable def t162 (T : PT AV) : AV := opt (T.get (.i (.i (.o (.o (.o (.i (.o .h)))))))) .any fun v => v
noncomputable def t163 (T : PT AV) : AV := opt (T.get (.o (.o (.i (.o (.o (.i (.o .h)))))))) .any fun v => v
noncomputable def t164 (T : PT AV) : AV := opt (T.get (.i (.o (.i (.o (.o (.i (.o .h)))))))) .any fun v => v
noncomputable def t165 (T : PT AV) : AV := opt (T.get (.o (.i (.i (.o (.o (.i (.o .h)))))))) .any fun v => v
noncomputable def t166 (T : PT AV) : AV := opt (T.get (.i (.i (.i (.o (.o (.i (.o .h)))))))) .any fun v => v
noncomputable def t167 (T : PT AV) : AV := opt (T.get (.o (.o (.o (.i (.o (.i (.o .h)))))))) .any fun v => v
noncomputable def t168 (T : PT AV) : AV := opt (T.get (.i (.o (.o (.i (.o (.i (.o .h)))))))) .any fun v => v
noncomputable def t169 (T : PT AV) : AV := opt (T.get (.o (.i (.o (.i (.o (.i (.o .h)))))))) .any fun v => v
noncomputable def t170 (T : PT AV) : AV := opt (T.get (.i (.i (.o (.i (.o (.i (.o .h)))))))) .any fun v => v
noncomputable def t171 (T : PT AV) : AV := opt (T.get (.o (.o (.i (.i (.o (.i (.o .h)))))))) .any fun v => v
noncomputable def t172 (T : PT AV) : AV := opt (T.get (.i (.o (.i (.i (.o (.i (.o .h)))))))) .any fun v => v
noncomputable def t173 (T : PT AV) : AV := opt (T.get (.o (.i (.i (.i (.o (.i (.o .h)))))))) .any fun v => v
noncomputable def t174 (T : PT AV) : AV := opt (T.get (.i (.i (.i (.i (.o (.i (.o .h)))))))) .any fun v => v
noncomputable def t175 (T : PT AV) : AV := opt (T.get (.o (.o (.o (.o (.i (.i (.o .h)))))))) .any fun v => v
noncomputable def t176 (T : PT AV) : AV := opt (T.get (.i (.o (.o (.o (.i (.i (.o .h)))))))) .any fun v => v
noncomputable def t177 (T : PT AV) : AV := opt (T.get (.o (.i (.o (.o (.i (.i (.o .h)))))))) .any fun v => v
noncomputable def t178 (T : PT AV) : AV := opt (T.get (.i (.i (.o (.o (.i (.i (.o .h)))))))) .any fun v => v
noncomputable def t179 (T : PT AV) : AV := opt (T.get (.o (.o (.i (.o (.i (.i (.o .h)))))))) .any fun v => v
noncomputable def t180 (T : PT AV) : AV := opt (T.get (.i (.o (.i (.o (.i (.i (.o .h)))))))) .any fun v => v
noncomputable def t181 (T : PT AV) : AV := opt (T.get (.o (.i (.i (.o (.i (.i (.o .h)))))))) .any fun v => v
noncomputable def t182 (T : PT AV) : AV := opt (T.get (.i (.i (.i (.o (.i (.i (.o .h)))))))) .any fun v => v
noncomputable def t183 (T : PT AV) : AV := opt (T.get (.o (.o (.o (.i (.i (.i (.o .h)))))))) .any fun v => v
noncomputable def t184 (T : PT AV) : AV := opt (T.get (.i (.o (.o (.i (.i (.i (.o .h)))))))) .any fun v => v
noncomputable def t185 (T : PT AV) : AV := opt (T.get (.o (.i (.o (.i (.i (.i (.o .h)))))))) .any fun v => v
noncomputable def t186 (T : PT AV) : AV := opt (T.get (.i (.i (.o (.i (.i (.i (.o .h)))))))) .any fun v => v
noncomputable def t187 (T : PT AV) : AV := opt (T.get (.o (.o (.i (.i (.i (.i (.o .h)))))))) .any fun v => v
noncomputable def t188 (T : PT AV) : AV := opt (T.get (.i (.o (.i (.i (.i (.i (.o .h)))))))) .any fun v => v
noncomputable def t189 (T : PT AV) : AV := opt (T.get (.o (.i (.i (.i (.i (.i (.o .h)))))))) .any fun v => v
noncomputable def t190 (T : PT AV) : AV := opt (T.get (.i (.i (.i (.i (.i (.i (.o .h)))))))) .any fun v => v
noncomputable def t191 (T : PT AV) : AV := opt (T.get (.o (.o (.o (.o (.o (.o (.i .h)))))))) .any fun v => v
noncomputable def t192 (T : PT AV) : AV := opt (T.get (.i (.o (.o (.o (.o (.o (.i .h)))))))) .any fun v => v
noncomputable def t193 (T : PT AV) : AV := opt (T.get (.o (.i (.o (.o (.o (.o (.i .h)))))))) .any fun v => v
noncomputable def t194 (T : PT AV) : AV := opt (T.get (.i (.i (.o (.o (.o (.o (.i .h)))))))) .any fun v => v
noncomputable def t195 (T : PT AV) : AV := opt (T.get (.o (.o (.i (.o (.o (.o (.i .h)))))))) .any fun v => v
noncomputable def t196 (T : PT AV) : AV := opt (T.get (.i (.o (.i (.o (.o (.o (.i .h)))))))) .any fun v => v
noncomputable def t197 (T : PT AV) : AV := opt (T.get (.o (.i (.i (.o (.o (.o (.i .h)))))))) .any fun v => v
noncomputable def t198 (T : PT AV) : AV := opt (T.get (.i (.i (.i (.o (.o (.o (.i .h)))))))) .any fun v => v
noncomputable def t199 (T : PT AV) : AV := opt (T.get (.o (.o (.o (.i (.o (.o (.i .h)))))))) .any fun v => v
noncomputable def t200 (T : PT AV) : AV := opt (T.get (.i (.o (.o (.i (.o (.o (.i .h)))))))) .any fun v => v
noncomputable def t201 (T : PT AV) : AV := opt (T.get (.o (.i (.o (.i (.o (.o (.i .h)))))))) .any fun v => v
noncomputable def t202 (T : PT AV) : AV := opt (T.get (.i (.i (.o (.i (.o (.o (.i .h)))))))) .any fun v => v
noncomputable def t203 (T : PT AV) : AV := opt (T.get (.o (.o (.i (.i (.o (.o (.i .h)))))))) .any fun v => v
noncomputable def t204 (T : PT AV) : AV := opt (T.get (.i (.o (.i (.i (.o (.o (.i .h)))))))) .any fun v => v
noncomputable def t205 (T : PT AV) : AV := opt (T.get (.o (.i (.i (.i (.o (.o (.i .h)))))))) .any fun v => v
noncomputable def t206 (T : PT AV) : AV := opt (T.get (.i (.i (.i (.i (.o (.o (.i .h)))))))) .any fun v => v
noncomputable def t207 (T : PT AV) : AV := opt (T.get (.o (.o (.o (.o (.i (.o (.i .h)))))))) .any fun v => v
noncomputable def t208 (T : PT AV) : AV := opt (T.get (.i (.o (.o (.o (.i (.o (.i .h)))))))) .any fun v => v
noncomputable def t209 (T : PT AV) : AV := opt (T.get (.o (.i (.o (.o (.i (.o (.i .h)))))))) .any fun v => v
noncomputable def t210 (T : PT AV) : AV := opt (T.get (.i (.i (.o (.o (.i (.o (.i .h)))))))) .any fun v => v
noncomputable def t211 (T : PT AV) : AV := opt (T.get (.o (.o (.i (.o (.i (.o (.i .h)))))))) .any fun v => v
noncomputable def t212 (T : PT AV) : AV := opt (T.get (.i (.o (.i (.o (.i (.o (.i .h)))))))) .any fun v => v
noncomputable def t213 (T : PT AV) : AV := opt (T.get (.o (.i (.i (.o (.i (.o (.i .h)))))))) .any fun v => v
noncomputable def t214 (T : PT AV) : AV := opt (T.get (.i (.i (.i (.o (.i (.o (.i .h)))))))) .any fun v => v
noncomputable def t215 (T : PT AV) : AV := opt (T.get (.o (.o (.o (.i (.i (.o (.i .h)))))))) .any fun v => v
noncomputable def t216 (T : PT AV) : AV := opt (T.get (.i (.o (.o (.i (.i (.o (.i .h)))))))) .any fun v => v
noncomputable def t217 (T : PT AV) : AV := opt (T.get (.o (.i (.o (.i (.i (.o (.i .h)))))))) .any fun v => v
noncomputable def t218 (T : PT AV) : AV := opt (T.get (.i (.i (.o (.i (.i (.o (.i .h)))))))) .any fun v => v
noncomputable def t219 (T : PT AV) : AV := opt (T.get (.o (.o (.i (.i (.i (.o (.i .h)))))))) .any fun v => v
noncomputable def t220 (T : PT AV) : AV := opt (T.get (.i (.o (.i (.i (.i (.o (.i .h)))))))) .any fun v => v
noncomputable def t221 (T : PT AV) : AV := opt (T.get (.o (.i (.i (.i (.i (.o (.i .h)))))))) .any fun v => v
noncomputable def t222 (T : PT AV) : AV := opt (T.get (.i (.i (.i (.i (.i (.o (.i .h)))))))) .any fun v => v
noncomputable def t223 (T : PT AV) : AV := opt (T.get (.o (.o (.o (.o (.o (.i (.i .h)))))))) .any fun v => v
noncomputable def t224 (T : PT AV) : AV := opt (T.get (.i (.o (.o (.o (.o (.i (.i .h)))))))) .any fun v => v
noncomputable def t225 (T : PT AV) : AV := opt (T.get (.o (.i (.o (.o (.o (.i (.i .h)))))))) .any fun v => v
noncomputable def t226 (T : PT AV) : AV := opt (T.get (.i (.i (.o (.o (.o (.i (.i .h)))))))) .any fun v => v
noncomputable def t227 (T : PT AV) : AV := opt (T.get (.o (.o (.i (.o (.o (.i (.i .h)))))))) .any fun v => v
noncomputable def t228 (T : PT AV) : AV := opt (T.get (.i (.o (.i (.o (.o (.i (.i .h)))))))) .any fun v => v
noncomputable def t229 (T : PT AV) : AV := opt (T.get (.o (.i (.i (.o (.o (.i (.i .h)))))))) .any fun v => v
noncomputable def t230 (T : PT AV) : AV := opt (T.get (.i (.i (.i (.o (.o (.i (.i .h)))))))) .any fun v => v
noncomputable def t231 (T : PT AV) : AV := opt (T.get (.o (.o (.o (.i (.o (.i (.i .h)))))))) .any fun v => v
noncomputable def t232 (T : PT AV) : AV := opt (T.get (.i (.o (.o (.i (.o (.i (.i .h)))))))) .any fun v => v
noncomputable def t233 (T : PT AV) : AV := opt (T.get (.o (.i (.o (.i (.o (.i (.i .h)))))))) .any fun v => v
noncomputable def t234 (T : PT AV) : AV := opt (T.get (.i (.i (.o (.i (.o (.i (.i .h)))))))) .any fun v => v
noncomputable def t235 (T : PT AV) : AV := opt (T.get (.o (.o (.i (.i (.o (.i (.i .h)))))))) .any fun v => v
noncomputable def t236 (T : PT AV) : AV := opt (T.get (.i (.o (.i (.i (.o (.i (.i .h)))))))) .any fun v => v
noncomputable def t237 (T : PT AV) : AV := opt (T.get (.o (.i (.i (.i (.o (.i (.i .h)))))))) .any fun v => v
noncomputable def t238 (T : PT AV) : AV := opt (T.get (.i (.i (.i (.i (.o (.i (.i .h)))))))) .any fun v => v
noncomputable def t239 (T : PT AV) : AV := opt (T.get (.o (.o (.o (.o (.i (.i (.i .h)))))))) .any fun v => v
noncomputable def zc25 : List AV := [(iN 0), (iN 0), (iN 0)]
noncomputable def zc28 : List AV := [(iN 0), .snil]
noncomputable def zc32 : List AV := [(iN 0), .snil, .snil]
noncomputable def zc36 : List AV := [(.str []), (.bool false), .snil, (iN 0), (iN 0), (iN 0), .snil, .snil, .snil]
noncomputable def zc45 : List AV := [(iN 0), (iN 0)]
noncomputable def zc40 : List AV := [(.str []), (.bool false), (.bool false), (iN 0), .snil, .snil, .snil, .snil]
noncomputable def zc50 : List AV := [.pnil, .pnil, (iN 0), (iN 0), .snil, .snil, .snil]
noncomputable def zc3 : List AV := [(iN 0)]
noncomputable def zc4 : List AV := [(.bool false)]
noncomputable def zc153 : List AV := [(iN 0), (iN 0), (.bool false)]
noncomputable def zc69 : List AV := [.pnil, (iN 0), (iN 0), .snil, (iN 0), (iN 0), .snil, (.bool false), (iN 0), .snil, (iN 0)]
noncomputable def zc85 : List AV := [(iN 0), .snil, .snil, (iN 0), .snil, (iN 0), .snil, .snil, .snil, .pnil, .snil, .snil]
noncomputable def zc100 : List AV := [(iN 0), (iN 0), .snil, (iN 0), (.bool false)]
noncomputable def zc30 : List AV := [.snil]
noncomputable def zc102 : List AV := [(iN 0), (iN 0), (iN 0), .snil, .snil, .snil, .snil]
noncomputable def zc78 : List AV := [(iN 0), .snil, (iN 0), (iN 0)]
noncomputable def zc73 : List AV := [(iN 0), (iN 0), (iN 0), (iN 0), (iN 0)]
noncomputable def zc111 : List AV := [(iN 0), .snil, .snil, (iN 0), .snil, .snil, .mnil, .snil, .mnil, .pnil, .snil, .mnil, .snil]
noncomputable def zc138 : List AV := [(iN 0), (iN 0), .snil]
noncomputable def zc140 : List AV := [(.str []), (iN 0)]
noncomputable def zc143 : List AV := [(iN 0), (iN 0)]
noncomputable def zc142 : List AV := [(iN 0), (.bool false)]
noncomputable def zc117 : List AV := [(iN 0), (iN 0), (iN 0), .snil]
noncomputable def zc112 : List AV := [.pnil]
noncomputable def zc88 : List AV := [(iN 0), (iN 0), (iN 0), (iN 0)]
noncomputable def zc159 : List AV := [(iN 0), .snil, (iN 0), (iN 0)]
noncomputable def zc162 : List AV := [.snil, (iN 0), .snil, .snil]
noncomputable def zc168 : List AV := [.snil, .snil, .snil, .snil]
noncomputable def zc175 : List AV := [.snil, .mnil, .snil]
noncomputable def zc107 : List AV := [.mnil]
noncomputable def zc136 : List AV := [.pnil]
noncomputable def zc125 : List AV := [(iN 0), (iN 0), .pnil, (iN 0), .snil, .snil]
noncomputable def zc210 : List AV := [.pnil, .pnil, (iN 0), (.bool false), .pnil]
noncomputable def zc222 : List AV := [(.str []), .snil, (iN 0), (iN 0), (iN 0)]
noncomputable def zc231 : List AV := [(iN 0), .snil, .snil, (.str []), (.bool false), .snil, (iN 0), (iN 0), (iN 0), .snil, .snil, .snil, (iN 0), .snil, .snil, (iN 0)]
noncomputable def zc5 : List AV := [(.int .u8 (.ofNat 0))]
noncomputable def zc241 : List AV := [.snil, (.bool false), (.bool false), (.bool false)]
noncomputable def zc79 : List AV := [.snil]
noncomputable def zc55 : List AV := [(iN 0)]
noncomputable def zc258 : List AV := [(iN 0), .snil, .snil]
noncomputable def zc118 : List AV := [.pnil]
noncomputable def zc229 : List AV := [.snil, .snil]
noncomputable def zc181 : List AV := [(iN 0), (iN 0), (iN 0)]
noncomputable def zc251 : List AV := [(iN 0), (iN 0), (iN 0), (iN 0)]
noncomputable def zc120 : List AV := [.pnil]
noncomputable def zc254 : List AV := [(iN 0), (iN 0)]
noncomputable def zc320 : List AV := [(iN 0), .snil, .snil, .pnil, .snil, .snil, (iN 0)]
noncomputable def zc179 : List AV := [(iN 0), (iN 0), .snil]
noncomputable def zc334 : List AV := [(iN 0), (iN 0), (iN 0)]
noncomputable def zc342 : List AV := [.fnil]
noncomputable def zc350 : List AV := [(iN 0), .snil, .pnil]
noncomputable def zc353 : List AV := [(.str []), (iN 0), (iN 0)]
noncomputable def zc313 : List AV := [(iN 0), (iN 0)]
noncomputable def zc382 : List AV := [.fnil]
noncomputable def zc9 : List AV := [(.str [])]
noncomputable def zv3 : AV := (iN 0)
noncomputable def zv170 : AV := .pnil
noncomputable def zv4 : AV := (.bool false)
end Go.Ev
