/- Made by program: the K code of the functions (1). -/
import Derived.Test.YtocibeohfbdndaaGreatDoorFfKc0
namespace Go.Ab.Tryz
open Go Go.Ab
noncomputable section
def q279_0 : List KE := [lm 78 y6, lm 79 y, .l 80 (x2 t79 j1), .l 81 (.idxS t78 t80), lm 82 y3, .l 83 (.bin .eq 4 256 0 t81 t82), lm 84 t83, .gl t84 tt 85 (.move y6), .gl t84 tt 86 (.move y), .gl t84 tt 87 (.move y), .gl t84 tt 88 (.move y0), .gl t84 tt 89 (x2 t87 t88), .gl t84 tt 90 (.slS t85 (some t86) (some t89)), .gl t84 tt 91 (.move y5), .gl t84 tt 92 (.str .eq t90 t91), .l 93 (.pick t84 t92 j4)]
def q279_1 : List KE := [lm 99 y0, .l 100 (.load1 (.g 3)), .l 101 (x6 t99 t100), lm 102 t101, .gl t102 tt 103 (.move y20), .gl t102 tt 104 (.move y), .gl t102 tt 105 (.call 297 [t104]), .gl t102 tt 106 (x3 t103 t105), .l 107 (.pick t102 t106 j4)]
def q279_2 : List KE := [lm 118 y0, .l 119 (.load1 (.g 3)), .l 120 (x3 t118 t119), lm 121 t120, .gl t121 tt 122 (.move y20), .gl t121 tt 123 (.move y), .gl t121 tt 124 (.sh .shr 3 18446744073709551616 9223372036854775808 64 t123 (.c (.i 7 4))), .gl t121 tt 125 (x2 (.c (.i 3 4)) t124), .gl t121 tt 126 (x7 t122 t125), .l 127 (.pick t121 t126 j4), lm 128 t127, .gl t128 tt 129 (.move y), .gl t128 tt 130 (.move y17), .gl t128 tt 131 (x1 t129 t130), .l 132 (.pick t128 t131 j4)]
def k279 : KFun := ⟨143, (.nd (.nd (.nd (.nd .lf 11 .lf) 5 (.nd .lf 12 .lf)) 0 (.nd (.nd .lf 13 .lf) 9 (.nd .lf 7 .lf))) 8 (.nd (.nd (.nd .lf 4 .lf) 10 .lf) 1 (.nd .lf 6 .lf))), (.nd (.nd (.nd (.nd .lf bad .lf) bad (.nd .lf bad .lf)) bad (.nd (.nd .lf bad .lf) bad (.nd .lf bad .lf))) bad (.nd (.nd (.nd .lf bad .lf) bad .lf) bad (.nd .lf bad .lf))), [w6, w5],
  (sq ([pm w15 j0]) (sq ([lm 14 y5, .l 15 (.len 0 t14), pm w0 t15]) (ss (.block 0 (sq ([lm 17 y0, .l 18 (x5 t17 j0), lm 19 t18, .gl t19 ff 20 (.move y5), .gl t19 ff 21 (.move y6), .gl t19 ff 22 (.str .eq t20 t21), .l 23 (.pick t19 j3 t22), lm 16 t23]) (.cond t16 (sq ([pm w15 j0]) .ret) (sq ([lm 25 y0, .l 26 (x5 t25 j1), lm 24 t26]) (.cond t24 (sq ([lm 27 y6, lm 28 y5, .l 29 (.idxS t28 j0), .l 30 (.call 295 [t27, t29]), pm w15 t30]) .ret) (sq ([lm 32 y0, lm 33 y6, .l 34 (.len 0 t33), .l 35 (x7 t32 t34), lm 31 t35]) (.cond t31 (sq ([pm w15 j5]) .ret) (sq ([lm 37 y0, .l 38 (.load1 (.g 3)), .l 39 (x6 t37 t38), lm 40 t39, .gl t40 tt 41 (.move y6), .gl t40 tt 42 (.len 0 t41), .gl t40 tt 43 (x6 t42 (.c (.i 3 64))), .l 44 (.pick t40 t43 j4), lm 36 t44]) (.cond t36 (sq ([lm 45 y6, lm 46 y5, .l 47 (.call 296 [t45, t46]), pm w15 t47]) .ret) .skip))))))))) (sq ([lm 48 y5, .l 49 (.idxS t48 j0), pm w1 t49]) (sq ([lm 50 y5, .l 51 (.idxS t50 j1), pm w3 t51]) (sq ([pm .top j0]) (sq ([lm 52 y6, .l 53 (.len 0 t52), lm 54 y0, .l 55 (x8 t53 t54), .l 56 (x2 t55 j1), pm w17 t56]) (sq ([pm w20 j0]) (ss (.block 1 (.loop (ss (sq ([lm 57 y, lm 58 y17, .l 59 (x1 t57 t58)]) (.cond t59 .skip (.exit 1))) (.block 2 (ss (sq ([lm 60 y6, lm 61 y, .l 62 (.idxS t60 t61), lm 63 y1, .l 64 (.bin .ne 4 256 0 t62 t63)]) (.cond t64 (sq ([lm 65 y6, lm 66 y, .l 67 (x2 t66 j1), lm 68 y17, .l 69 (.slS t65 (some t67) (some t68)), lm 70 y1, .l 71 (.call 295 [t69, t70]), pm w2 t71]) (ss (sq ([lm 72 y2, .l 73 (x1 t72 j0)]) (.cond t73 (sq ([pm w15 j5]) .ret) .skip)) (.reg [lm 74 y, lm 75 y2, .l 76 (x2 t75 j1), .l 77 (x2 t74 t76), pm .top t77]))) .skip)) (ss (ss (.reg q279_0) (.cond t93 (sq ([lm 94 y, pm w15 t94]) .ret) .skip)) (sq ([lm 95 y, .l 96 (x2 t95 j1), pm .top t96]) (sq ([lm 97 y20, .l 98 (x2 t97 j1), pm w20 t98]) (ss (.reg q279_1) (.cond t107 (sq ([lm 108 y6, lm 109 y, .l 110 (.slS t108 (some t109) none), lm 111 y5, .l 112 (.call 296 [t110, t111]), pm w12 t112]) (ss (sq ([lm 113 y12, .l 114 (x7 t113 j0)]) (.cond t114 (sq ([lm 115 y12, lm 116 y, .l 117 (x2 t115 t116), pm w15 t117]) .ret) .skip)) (sq ([pm w15 j5]) .ret))) (ss (.reg q279_2) (.cond t132 (sq ([lm 133 y6, lm 134 y, .l 135 (.slS t133 (some t134) none), lm 136 y5, .l 137 (.call 298 [t135, t136]), pm w4 t137]) (ss (sq ([lm 138 y4, .l 139 (x1 t138 j0)]) (.cond t139 (sq ([pm w15 j5]) .ret) .skip)) (sq ([lm 140 y, lm 141 y4, .l 142 (x2 t140 t141), pm w15 t142]) .ret))) .skip)))))))))))) (sq ([pm w15 j5]) .ret)))))))))),
  [.one y15]⟩
def k280 : KFun := ⟨6, (oL [0, 2]), (bT 2), [.top],
  (sq ([pm w6 j0]) (sq ([lm 3 y, .l 4 (x10 t3 (.c (.i 3 78913))), .l 5 (.sh .shr 3 18446744073709551616 9223372036854775808 64 t4 (.c (.i 7 18))), pm w6 t5]) .ret)),
  [.one y6]⟩
def k281 : KFun := ⟨4, (oL [0, 2]), (bT 2), [.top],
  (sq ([pm w6 j0]) (ss (sq ([lm 3 y]) (.cond t3 (sq ([pm w6 j1]) .ret) .skip)) (sq ([pm w6 j0]) .ret))),
  [.one y6]⟩
def k282 : KFun := ⟨8, (oL [0, 2]), (bT 2), [.top],
  (sq ([pm w6 j4]) (sq ([lm 3 y, lm 4 y, .l 5 (x8 t4 j1), .l 6 (x11 t3 t5), .l 7 (x5 t6 j0), pm w6 t7]) .ret)),
  [.one y6]⟩
def k283 : KFun := ⟨8, (oL [0, 2]), (bT 2), [.top],
  (sq ([pm w6 j0]) (ss (.cond j4 (sq ([lm 3 y, .l 4 (.un (.conv 6 4294967296) t3), .l 5 (.call 299 [t4]), pm w6 t5]) .ret) .skip) (sq ([lm 6 y, .l 7 (.call 246 [t6]), pm w6 t7]) .ret))),
  [.one y6]⟩
def k287 : KFun := ⟨18, (.nd (.nd (.nd .lf 3 .lf) 0 (.nd .lf 8 .lf)) 1 (.nd .lf 2 .lf)), (.nd (.nd (.nd .lf bad .lf) bad (.nd .lf bad .lf)) bad (.nd .lf bad .lf)), [w6, .top, w5, w0],
  (sq ([pm w17 j0]) (sq ([lm 9 y6, lm 10 y, .l 11 (x8 t10 j1), lm 12 y, lm 13 y, .l 14 (x2 t13 j1), lm 15 y5, lm 16 y0, .l 17 (.call 288 [t9, t11, t12, t14, t15, t16]), pm w17 t17]) .ret)),
  [.one y17]⟩
def k288 : KFun := ⟨41, (oL [2, 0, 4, 5, 3, 1, 12]), (bT 7), [w6, w17, .top, w20, w5, w0],
  (sq ([pm w1 j0]) (sq ([lm 14 y6, lm 15 y17, lm 16 y, lm 17 y5, lm 18 y0, .l 19 (.call 300 [t14, t15, t16, t17, t18]), lm 13 t19, .l 20 (.ext 0 t13), .l 21 (.ext 1 t13), pm w17 t20, pm .top t21]) (sq ([lm 23 y6, lm 24 y, lm 25 y20, lm 26 y5, lm 27 y0, .l 28 (.call 300 [t23, t24, t25, t26, t27]), lm 22 t28, .l 29 (.ext 0 t22), .l 30 (.ext 1 t22), pm .top t29, pm w20 t30]) (sq ([lm 32 y6, lm 33 y17, lm 34 y, lm 35 y5, lm 36 y0, .l 37 (.call 300 [t32, t33, t34, t35, t36]), lm 31 t37, .l 38 (.ext 0 t31), .l 39 (.ext 1 t31), pm w17 t38, pm .top t39]) (sq ([lm 40 y, pm w1 t40]) .ret))))),
  [.one y1]⟩
def k290 : KFun := ⟨15, (oL [1, 0, 2, 6]), (bT 4), [w6, .top, w5],
  (sq ([pm w0 j0]) (sq ([lm 7 y6, lm 8 y, .l 9 (x8 t8 j1), lm 10 y, lm 11 y, .l 12 (x2 t11 j1), lm 13 y5, .l 14 (.call 291 [t7, t9, t10, t12, t13]), pm w0 t14]) .ret)),
  [.one y0]⟩
def k291 : KFun := ⟨36, (oL [2, 0, 4, 1, 10, 3]), (bT 6), [w6, w0, .top, w17, w5],
  (sq ([pm w20 j0]) (sq ([lm 12 y6, lm 13 y0, lm 14 y, lm 15 y5, .l 16 (.call 301 [t12, t13, t14, t15]), lm 11 t16, .l 17 (.ext 0 t11), .l 18 (.ext 1 t11), pm w0 t17, pm .top t18]) (sq ([lm 20 y6, lm 21 y, lm 22 y17, lm 23 y5, .l 24 (.call 301 [t20, t21, t22, t23]), lm 19 t24, .l 25 (.ext 0 t19), .l 26 (.ext 1 t19), pm .top t25, pm w17 t26]) (sq ([lm 28 y6, lm 29 y0, lm 30 y, lm 31 y5, .l 32 (.call 301 [t28, t29, t30, t31]), lm 27 t32, .l 33 (.ext 0 t27), .l 34 (.ext 1 t27), pm w0 t33, pm .top t34]) (sq ([lm 35 y, pm w20 t35]) .ret))))),
  [.one y20]⟩
def k295 : KFun := ⟨8, (oL [0, 1, 4]), (bT 3), [.top, w6],
  (sq ([pm w5 j0]) (sq ([lm 5 y, lm 6 y6, .l 7 (.call 304 [t5, t6]), pm w5 t7]) .ret)),
  [.one y5]⟩
def k299 : KFun := ⟨14, (oL [0, 2]), (bT 2), [.top],
  (sq ([pm w6 j0]) (ss (sq ([lm 3 y, .l 4 (.bin .eq 6 4294967296 0 t3 (.c (.i 6 0)))]) (.cond t4 (sq ([pm w6 (.c (.i 3 32))]) .ret) .skip)) (sq ([lm 5 y, lm 6 y, .l 7 (.un (.neg 6 4294967296) t6), .l 8 (.bin .and 6 4294967296 0 t5 t7), .l 9 (.bin .mul 6 4294967296 0 t8 (.c (.i 6 125613361))), .l 10 (.sh .shr 6 4294967296 4294967296 32 t9 (.c (.i 7 27))), .l 11 (.iaA 32 1 (.g 6) t10), .l 12 (.load1 t11), .l 13 (.un (.conv 3 18446744073709551616) t12), pm w6 t13]) .ret))),
  [.one y6]⟩
def r300_0 : List KD := [Dz 0 (lm 12 y17), Dz 0 (lm 13 y5), Dz 0 (lm 14 y6), dz [1, 2] (.l 15 (.ia 3 t13 t14)), dr [1, 2, 3] (.l 16 (.loadN 3 t15)), Dz 0 (lm 17 y5), Dz 0 (lm 18 y), dz [5, 6] (.l 19 (.ia 3 t17 t18)), dr [5, 6, 7] (.l 20 (.loadN 3 t19)), Dk 9 (.l 21 (.callv t12 [t16, t20])), Dz 10 (.l 22 (x1 t21 j0))]
def k300 : KFun := ⟨32, (oL [1, 2, 0, 3, 10, 4, 11]), (bT 7), [w5, .top, w6, w0, w17],
  (sq ([pm w20 j0, pm w1 j0]) (ss (ss (.dreg r300_0) (.cond t22 (sq ([lm 23 y0, .l 24 (.nilc t23), .l 25 (.load1 t24), .l 26 (x2 t25 j1), .l 27 (.nilc t23), .n (.store 1 t27 t26)]) (sq ([lm 28 y6, lm 29 y, pm w20 t28, pm w1 t29]) .ret)) .skip)) (sq ([lm 30 y, lm 31 y6, pm w20 t30, pm w1 t31]) .ret))),
  [.one y20, .one y1]⟩
def r301_0 : List KD := [Dz 0 (lm 10 y5), Dz 0 (lm 11 y6), Dz 2 (.l 12 (.ia 1 t10 t11)), Dr 3 (.l 13 (.load1 t12)), Dz 0 (lm 14 y5), Dz 0 (lm 15 y), dz [4, 5] (.l 16 (.ia 1 t14 t15)), dr [4, 5, 6] (.l 17 (.load1 t16)), Dk 8 (.l 18 (.call 272 [t13, t17]))]
def k301 : KFun := ⟨28, (oL [1, 2, 0, 3, 9, 8]), (bT 6), [w5, .top, w6, w0],
  (sq ([pm w17 j0, pm w20 j0]) (ss (ss (.dreg r301_0) (.cond t18 (sq ([lm 19 y0, .l 20 (.nilc t19), .l 21 (.load1 t20), .l 22 (x2 t21 j1), .l 23 (.nilc t19), .n (.store 1 t23 t22)]) (sq ([lm 24 y6, lm 25 y, pm w17 t24, pm w20 t25]) .ret)) .skip)) (sq ([lm 26 y, lm 27 y6, pm w17 t26, pm w20 t27]) .ret))),
  [.one y17, .one y20]⟩
end
end Go.Ab.Tryz
