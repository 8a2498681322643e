/- Made by program: the K code of the functions (1). -/
import Derived.Test.YtofnienidjdldaaGreatDoorMfKc0
namespace Go.Ab.Tryz
open Go Go.Ab
noncomputable section
def r285_0 : List KD := [Dz 0 (lm 14 y), Dz 0 (lm 15 y7), Dz 0 (lm 16 y), Dz 0 (lm 17 y5), Dz 0 (lm 18 y), Dz 0 (lm 19 y5), dz [4, 5] (.l 20 (.ia 3 t18 t19)), dr [4, 5, 6] (.l 21 (.loadN 3 t20)), Dz 0 (lm 22 y), Dz 0 (lm 23 y7), dz [8, 9] (.l 24 (.ia 3 t22 t23)), dr [8, 9, 10] (.l 25 (.loadN 3 t24)), dz [0, 1, 4, 5, 6, 7, 8, 9, 10, 11] (.l 26 (.ia 3 t14 t15)), dk [0, 1, 4, 5, 6, 7, 8, 9, 10, 11, 12] (.n (.store 3 t26 t21)), Dz 14 (.l 27 (.ia 3 t16 t17)), Dk 15 (.n (.store 3 t27 t25))]
def k285 : KFun := ⟨28, (oL [0, 2, 3]), (bT 3), [.top],
  (sq ([lm 4 y, .l 5 (.len 1 t4), .l 6 (x6 t5 j1), pm w7 j0, pm w5 t6]) (.block 0 (.loop (ss (sq ([lm 7 y7, lm 8 y5, .l 9 (x1 t7 t8)]) (.cond t9 .skip (.exit 0))) (ss (.block 1 (.dreg r285_0)) (.reg [lm 10 y7, .l 11 (x3 t10 j1), lm 12 y5, .l 13 (x6 t12 j1), pm w7 t11, pm w5 t13])))))),
  []⟩
def k286 : KFun := ⟨29, (.nd (.nd (.nd (.nd .lf 8 .lf) 1 (.nd .lf 9 .lf)) 4 (.nd .lf 2 .lf)) 6 (.nd (.nd .lf 3 .lf) 0 (.nd .lf 7 .lf))), (.nd (.nd (.nd (.nd .lf bad .lf) bad (.nd .lf bad .lf)) bad (.nd .lf bad .lf)) bad (.nd (.nd .lf bad .lf) bad (.nd .lf bad .lf))), [w5, w6, w3],
  (sq ([.p w1 (.box y5), .p w7 (.box y6), .p .top (.alloc [.i 3 0, .i 3 0, .i 3 0]), pm w2 j4]) (sq ([.l 11 (.loadN 4 y1), .l 12 (.loadN 3 y7), .l 13 (.call 318 [t11, t12]), lm 10 t13, .l 14 (.ext 0 t10), .l 15 (.ext 1 t10), pm w0 t14, pm w4 t15]) (ss (sq ([lm 16 y4, .l 17 (.un .not t16), lm 18 t17, .gl t18 ff 19 (.move y0), .gl t18 ff 20 (.move y3), .gl t18 ff 21 (x0 t19 t20), .l 22 (.pick t18 j3 t21)]) (.cond t22 (sq ([.l 23 (.build [.i 3 0, .i 3 0, .i 3 0] []), .n (.store 3 y t23), pm w2 j4]) .ret) .skip)) (sq ([.l 24 (.fa 1 y7), .l 25 (.load1 t24), .l 26 (x3 t25 j1), .l 27 (.fa 1 y7), .n (.store 1 t27 t26)]) (sq ([.l 28 (.loadN 3 y7), .n (.store 3 y t28), pm w2 j3]) .ret))))),
  [.cN 3 y, .one y2]⟩
def q287_0 : List KE := [lm 15 y4, .l 16 (.un .not t15), lm 17 t16, .gl t17 ff 18 (.fa 0 y7), .gl t17 ff 19 (.load1 t18), .gl t17 ff 20 (x1 t19 j0), .l 21 (.pick t17 j3 t20), lm 22 t21, .gl t22 ff 23 (.fa 0 y7), .gl t22 ff 24 (.load1 t23), .gl t22 ff 25 (.fa 0 y), .gl t22 ff 26 (.fa 2 t25), .gl t22 ff 27 (.load1 t26), .gl t22 ff 28 (.len 1 t27), .gl t22 ff 29 (x7 t24 t28), .l 30 (.pick t22 j3 t29), lm 31 t30, .gl t31 ff 32 (.fa 1 y7), .gl t31 ff 33 (.load1 t32), .gl t31 ff 34 (x0 t33 j0), .l 35 (.pick t31 j3 t34), lm 36 t35, .gl t36 ff 37 (.fa 0 y), .gl t36 ff 38 (.fa 2 t37), .gl t36 ff 39 (.load1 t38), .gl t36 ff 40 (.fa 0 y7), .gl t36 ff 41 (.load1 t40), .gl t36 ff 42 (.ia 2 t39 t41), .gl t36 ff 43 (.fa 0 t42), .gl t36 ff 44 (.load1 t43), .gl t36 ff 45 (.move y0), .gl t36 ff 46 (x0 t44 t45), .l 47 (.pick t36 j3 t46)]
def r287_1 : List KD := [Dz 0 (.l 48 (.fa 3 y)), Dr 1 (.l 49 (.load1 t48)), Dr 0 (.l 50 (.loadN 4 y)), Dr 0 (.l 51 (.loadN 3 y5)), dr [2, 3] (.l 52 (.call 319 [t50, t51])), Dz 0 (.l 53 (.fa 1 y5)), dr [5] (.l 54 (.load1 t53)), dz [5, 6] (.l 55 (x3 t54 j1)), dr [2, 3, 4, 5, 6, 7] (.l 56 (.sl 1 t52 (some t55) none none)), Dz 0 (.l 57 (.fa 2 y5)), dr [9] (.l 58 (.load1 t57)), Dr 11 (.l 59 (.call 206 [t49, t56, t58])), Dz 0 (.l 60 (.fa 2 y7)), dr [12] (.l 61 (.load1 t60)), Dk 14 (.l 62 (.call 145 [t59, t61])), Dz 15 (pm w2 t62)]
def k287 : KFun := ⟨63, (.nd (.nd (.nd (.nd .lf 7 .lf) 0 (.nd .lf 8 .lf)) 5 (.nd .lf 1 .lf)) 3 (.nd (.nd .lf 2 .lf) 4 (.nd .lf 6 .lf))), (.nd (.nd (.nd (.nd .lf bad .lf) bad (.nd .lf bad .lf)) bad (.nd .lf bad .lf)) bad (.nd (.nd .lf bad .lf) bad (.nd .lf bad .lf))), [w6, w3, w1],
  (sq ([.p .top (.box y6), .p w5 (.box y3), .p w7 (.box y1), pm w2 j4]) (sq ([.l 10 (.loadN 4 y), .l 11 (.loadN 3 y5), .l 12 (.call 318 [t10, t11]), lm 9 t12, .l 13 (.ext 0 t9), .l 14 (.ext 1 t9), pm w0 t13, pm w4 t14]) (ss (ss (.reg q287_0) (.cond t47 (sq ([pm w2 j4]) .ret) .skip)) (ss (.dreg r287_1) .ret)))),
  [.one y2]⟩
def k289 : KFun := ⟨40, (.nd (.nd (.nd (.nd .lf 1 .lf) 8 (.nd .lf 4 .lf)) 11 (.nd .lf 5 .lf)) 0 (.nd (.nd .lf 9 .lf) 7 (.nd .lf 10 .lf))), (.nd (.nd (.nd (.nd .lf bad .lf) bad (.nd .lf bad .lf)) bad (.nd .lf bad .lf)) bad (.nd (.nd .lf bad .lf) bad (.nd .lf bad .lf))), [.top, w0],
  (sq ([pm w4 j2]) (sq ([pm w3 j2]) (ss (sq ([pm w1 y0, .p w2 (.len 1 y1), pm w7 j0]) (.block 0 (.loop (sq ([.l 12 (x1 y7 y2)]) (ss (.cond t12 .skip (.exit 0)) (ss (.block 1 (sq ([.l 13 (.ia 1 y1 y7), .l 14 (.load1 t13), pm w5 t14]) (sq ([lm 15 y, .l 16 (.nilc t15), .l 17 (.fa 4 t16), .l 18 (.load1 t17), lm 19 y5, .l 20 (.look .i (.i 3 0) ff t18 t19), pm w6 t20]) (.reg [lm 21 y3, lm 22 y5, lm 23 y6, lm 24 y, lm 25 y, .l 26 (.nilc t25), .l 27 (.fa 0 t26), .l 28 (.fa 2 t27), .l 29 (.load1 t28), lm 30 y6, .l 31 (.ia 2 t29 t30), .l 32 (.fa 1 t31), .l 33 (.load1 t32), .l 34 (.call 289 [t24, t33]), .l 35 (.build [.i 3 0, .i 3 0, .x .nils] [(0, 1, t22), (1, 1, t23), (2, 1, t34)]), .l 36 (.bslice 3 1 [(0, 3, t35)]), .l 37 (.app 3 40 t21 t36), pm w3 t37])))) (.reg [.l 38 (x3 y7 j1), pm w7 t38]))))))) (sq ([lm 39 y3, pm w4 t39]) .ret)))),
  [.one y4]⟩
def k290 : KFun := ⟨27, (oL [0, 1, 4]), (bT 3), [.top, w7],
  (sq ([pm w5 j2]) (ss (sq ([lm 5 y7, .l 6 (x1 t5 j0)]) (.cond t6 (.reg [.l 7 (.ifc 9 (.c (.s 18 8838634371626034279618351153450530198413667))), .n (.pan t7)]) .skip)) (ss (sq ([lm 8 y7, lm 9 y, .l 10 (.cap 3 t9), lm 11 y, .l 12 (.len 1 t11), .l 13 (x6 t10 t12), .l 14 (x6 t8 t13), pm w7 t14]) (sq ([lm 15 y7, .l 16 (x4 t15 j0)]) (.cond t16 (.reg [lm 17 y, lm 18 y, .l 19 (.cap 3 t18), .l 20 (.sl 3 t17 none (some t19) none), lm 21 y7, .l 22 (.appZ 40 3 [.i 3 0, .i 3 0, .x .nils] t20 t21), lm 23 y, .l 24 (.len 1 t23), .l 25 (.sl 3 t22 none (some t24) none), pm .top t25]) .skip))) (sq ([lm 26 y, pm w5 t26]) .ret)))),
  [.one y5]⟩
def k292 : KFun := ⟨8, (oL [0, 1, 4]), (bT 3), [.top, w7],
  (sq ([pm w5 j0]) (sq ([lm 5 y, lm 6 y7, .l 7 (.call 320 [t5, t6]), pm w5 t7]) .ret)),
  [.one y5]⟩
def k296 : KFun := ⟨10, (oL [0, 1, 4]), (bT 3), [.top, w7],
  (sq ([pm w5 j4]) (sq ([lm 5 y, lm 6 y7, .l 7 (.nilc t5), .l 8 (.iaA 256 1 t7 t6), .l 9 (.load1 t8), pm w5 t9]) .ret)),
  [.one y5]⟩
def r304_0 : List KD := [Dr 0 (.l 11 (.loadN 2 y6)), Dz 0 (lm 12 y5), Dz 0 (lm 13 y7), dz [1, 2] (.l 14 (.ia 2 t12 t13)), dr [1, 2, 3] (.l 15 (.loadN 2 t14)), Dz 5 (.l 16 (.eqC [0, 0] ff t11 t15))]
def k304 : KFun := ⟨19, (oL [8, 5, 0, 3, 1, 7, 4]), (bT 7), [w5, w1],
  (sq ([.p w6 (.box y1), pm w2 j0]) (ss (sq ([lm 6 y5, .p w3 (.len 1 t6), pm .top j0]) (.block 0 (.loop (sq ([.l 9 (x1 y y3)]) (ss (.cond t9 .skip (.exit 0)) (ss (.block 1 (sq ([lm 10 y, pm w7 t10]) (ss (.dreg r304_0) (.cond t16 (sq ([lm 17 y7, pm w2 t17]) .ret) .skip)))) (.reg [.l 18 (x3 y j1), pm .top t18]))))))) (sq ([pm w2 j5]) .ret))),
  [.one y2]⟩
def k305 : KFun := ⟨8, (oL [0, 2]), (bT 2), [.top],
  (sq ([pm w7 j2]) (ss (sq ([lm 3 y, .l 4 (.eqR 0 ff t3 j2)]) (.cond t4 (sq ([pm w7 j2]) .ret) .skip)) (sq ([.l 5 (.bslice 0 0 []), lm 6 y, .l 7 (.app 2 16 t5 t6), pm w7 t7]) .ret))),
  [.one y7]⟩
def r306_0 : List KD := [Dz 0 (lm 16 y), Dz 0 (lm 17 y5), Dz 2 (.l 18 (x4 t16 t17)), Dz 3 (lm 19 t18), Dz 4 (.gl t19 tt 20 (.move y7)), Dz 4 (.gl t19 tt 21 (.move y)), Dz 6 (.gl t19 tt 22 (.ia 1 t20 t21)), Dr 7 (.gl t19 tt 23 (.load1 t22)), Dz 4 (.gl t19 tt 24 (.move y7)), Dz 4 (.gl t19 tt 25 (.move y)), dz (rp 4 [9]) (.gl t19 tt 26 (x6 t25 j1)), dz (rp 4 [8, 9, 10]) (.gl t19 tt 27 (.ia 1 t24 t26)), dr (rp 4 [8, 9, 10, 11]) (.gl t19 tt 28 (.load1 t27)), Dk 13 (.gl t19 tt 29 (.call 312 [t23, t28])), Dz 14 (.l 30 (.pick t19 t29 j4))]
def r306_1 : List KD := [Dz 0 (lm 33 y7), Dz 0 (lm 34 y), Dz 0 (lm 35 y7), Dz 0 (lm 36 y), dz [3] (.l 37 (x6 t36 j1)), Dz 0 (lm 38 y7), Dz 0 (lm 39 y), dz [6] (.l 40 (x6 t39 j1)), dz [5, 6, 7] (.l 41 (.ia 1 t38 t40)), dr [5, 6, 7, 8] (.l 42 (.load1 t41)), Dz 0 (lm 43 y7), Dz 0 (lm 44 y), dz [10, 11] (.l 45 (.ia 1 t43 t44)), dr [10, 11, 12] (.l 46 (.load1 t45)), dz [0, 1, 5, 6, 7, 8, 9, 10, 11, 12, 13] (.l 47 (.ia 1 t33 t34)), dk [0, 1, 5, 6, 7, 8, 9, 10, 11, 12, 13, 14] (.n (.store 1 t47 t42)), Dz 16 (.l 48 (.ia 1 t35 t37)), Dk 17 (.n (.store 1 t48 t46))]
def k306 : KFun := ⟨49, (.nd (.nd (.nd .lf 6 .lf) 0 (.nd .lf 2 .lf)) 7 (.nd .lf 1 .lf)), (.nd (.nd (.nd .lf bad .lf) bad (.nd .lf bad .lf)) bad (.nd .lf bad .lf)), [w7, w5, w3],
  (sq ([lm 8 y5, .l 9 (x3 t8 j1), pm w6 t9]) (.block 0 (.loop (ss (sq ([lm 10 y6, lm 11 y3, .l 12 (x1 t10 t11)]) (.cond t12 .skip (.exit 0))) (ss (.block 1 (sq ([lm 15 y6, pm .top t15]) (.block 2 (.loop (ss (ss (.dreg r306_0) (.cond t30 .skip (.exit 2))) (ss (.block 3 (.dreg r306_1)) (.reg [lm 31 y, .l 32 (x6 t31 j1), pm .top t32]))))))) (.reg [lm 13 y6, .l 14 (x3 t13 j1), pm w6 t14])))))),
  []⟩
def q312_0 : List KE := [lm 5 y, .l 6 (.call 270 [t5]), lm 7 t6, .gl t7 tt 8 (.move y7), .gl t7 tt 9 (.call 270 [t8]), .gl t7 tt 10 (.un .not t9), .l 11 (.pick t7 t10 j4), lm 12 t11, .gl t12 ff 13 (.move y), .gl t12 ff 14 (.move y7), .gl t12 ff 15 (x1 t13 t14), .l 16 (.pick t12 j3 t15), pm w5 t16]
def k312 : KFun := ⟨17, (oL [0, 1, 4]), (bT 3), [.top, w7],
  (sq ([pm w5 j4]) (ss (.reg q312_0) .ret)),
  [.one y5]⟩
def k315 : KFun := ⟨19, (oL [8, 5, 0, 1, 4, 7]), (bT 6), [w5, w6],
  (sq ([pm w1 j0]) (ss (sq ([lm 6 y5, .p w3 (.len 1 t6), pm .top j0]) (.block 0 (.loop (sq ([.l 9 (x1 y y3)]) (ss (.cond t9 .skip (.exit 0)) (ss (.block 1 (sq ([lm 10 y, pm w7 t10]) (sq ([lm 11 y6, lm 12 y5, lm 13 y7, .l 14 (.ia 3 t12 t13), .l 15 (.loadN 3 t14), .l 16 (.callv t11 [t15])]) (.cond t16 (sq ([lm 17 y7, pm w1 t17]) .ret) .skip)))) (.reg [.l 18 (x3 y j1), pm .top t18]))))))) (sq ([pm w1 j5]) .ret))),
  [.one y1]⟩
def r317_0 : List KD := [Dz 0 (lm 22 y6), Dz 1 (.l 23 (.nilc t22)), Dz 2 (.l 24 (.fa 4 t23)), Dr 3 (.l 25 (.load1 t24)), Dz 0 (lm 26 y7), dz [4] (.l 27 (.ia 1 t26 j0)), dr [4, 5] (.l 28 (.load1 t27)), Dz 0 (lm 29 y3), Dz 0 (lm 30 y), dz [4, 5, 6, 7, 8] (.l 31 (.build [.i 3 0, .i 3 0, .i 3 0] [(0, 1, t28), (1, 1, t29), (2, 1, t30)])), Dk 10 (.l 32 (.look (.cs [0, 0, 0]) (.b false) ff t25 t31)), Dz 11 (lm 33 t32), Dz 12 (.gl t33 tt 34 (.move y6)), Dz 12 (.gl t33 tt 35 (.move y7)), dk (rp 12 [13]) (.gl t33 tt 36 (.sl 1 t35 (some j1) none none)), Dz 12 (.gl t33 tt 37 (.move y)), Dz 12 (.gl t33 tt 38 (.move y5)), Dk 17 (.gl t33 tt 39 (.call 317 [t34, t36, t37, t38])), Dz 18 (.l 40 (.pick t33 t39 j4))]
def k317 : KFun := ⟨41, (oL [9, 1, 3, 0, 8, 2]), (bT 6), [w6, w7, w3, w5],
  (sq ([pm w1 j4]) (ss (sq ([lm 10 y7, .l 11 (.len 1 t10), .l 12 (x5 t11 j0)]) (.cond t12 (sq ([lm 13 y3, lm 14 y5, .l 15 (x5 t13 t14), pm w1 t15]) .ret) .skip)) (ss (sq ([lm 16 y3, pm .top t16]) (.block 0 (.loop (ss (sq ([lm 17 y, lm 18 y5, .l 19 (x8 t17 t18)]) (.cond t19 .skip (.exit 0))) (ss (.block 1 (ss (.dreg r317_0) (.cond t40 (sq ([pm w1 j3]) .ret) .skip))) (.reg [lm 20 y, .l 21 (x3 t20 j1), pm .top t21])))))) (sq ([pm w1 j4]) .ret)))),
  [.one y1]⟩
def q318_0 : List KE := [.l 10 (.fa 1 y), .l 11 (.load1 t10), .l 12 (x1 t11 j0), lm 13 t12, .gl t13 ff 14 (.fa 1 y), .gl t13 ff 15 (.load1 t14), .gl t13 ff 16 (.move y6), .gl t13 ff 17 (.len 1 t16), .gl t13 ff 18 (x7 t15 t17), .l 19 (.pick t13 j3 t18)]
def k318 : KFun := ⟨25, (oL [3, 0, 1, 6, 4, 2, 5]), (bT 7), [w7, w5],
  (sq ([.p w3 (.box y7), .p .top (.box y5), pm w1 j0, pm w2 j4]) (sq ([.l 7 (.loadN 4 y3), .l 8 (.loadN 3 y), .l 9 (.call 319 [t7, t8]), pm w6 t9]) (ss (ss (.reg q318_0) (.cond t19 (sq ([pm w1 j0, pm w2 j4]) .ret) .skip)) (sq ([lm 20 y6, .l 21 (.fa 1 y), .l 22 (.load1 t21), .l 23 (.ia 1 t20 t22), .l 24 (.load1 t23), pm w1 t24, pm w2 j3]) .ret)))),
  [.one y1, .one y2]⟩
def q319_0 : List KE := [.l 5 (.fa 0 y), .l 6 (.load1 t5), .l 7 (x1 t6 j0), lm 8 t7, .gl t8 ff 9 (.fa 0 y), .gl t8 ff 10 (.load1 t9), .gl t8 ff 11 (.fa 0 y6), .gl t8 ff 12 (.fa 2 t11), .gl t8 ff 13 (.load1 t12), .gl t8 ff 14 (.len 1 t13), .gl t8 ff 15 (x7 t10 t14), .l 16 (.pick t8 j3 t15)]
def k319 : KFun := ⟨26, (.nd (.nd (.nd .lf 2 .lf) 0 (.nd .lf 4 .lf)) 3 (.nd .lf 1 .lf)), (.nd (.nd (.nd .lf bad .lf) bad (.nd .lf bad .lf)) bad (.nd .lf bad .lf)), [w7, w5],
  (sq ([.p w6 (.box y7), .p .top (.box y5), pm w3 j2]) (ss (ss (.reg q319_0) (.cond t16 (sq ([.l 17 (.bslice 1 1 [(0, 1, (.c (.i 3 100)))]), pm w3 t17]) .ret) .skip)) (sq ([.l 18 (.fa 0 y6), .l 19 (.fa 2 t18), .l 20 (.load1 t19), .l 21 (.fa 0 y), .l 22 (.load1 t21), .l 23 (.ia 2 t20 t22), .l 24 (.fa 1 t23), .l 25 (.load1 t24), pm w3 t25]) .ret))),
  [.one y3]⟩
end
end Go.Ab.Tryz
