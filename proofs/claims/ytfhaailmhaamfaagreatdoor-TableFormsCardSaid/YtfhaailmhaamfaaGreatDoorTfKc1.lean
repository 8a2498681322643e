/- Made by program: the K code of the functions (1). -/
import Derived.Test.YtfhaailmhaamfaaGreatDoorTfKc0
namespace Go.Ab.Tryz
open Go Go.Ab
noncomputable section
def k292 : KFun := ⟨39, (.nd (.nd (.nd (.nd .lf 3 .lf) 0 .lf) 7 (.nd .lf 4 .lf)) 5 (.nd (.nd .lf 6 .lf) 8 (.nd .lf 2 .lf))), (.nd (.nd (.nd (.nd .lf bad .lf) bad .lf) bad (.nd .lf bad .lf)) bad (.nd (.nd .lf bad .lf) bad (.nd .lf bad .lf))), [w13],
  (.seq (.reg [.p w6 (.move (.c (.i 6 0))), .p w7 (.move (.c (.i 6 0)))]) (.seq (.reg [.p w0 (.move (.c (.i 6 0)))]) (.seq (.seq (.reg [.p .top (.move (.c (.i 3 0)))]) (.block 0 (.loop (.seq (.seq (.reg [.l 9 (.move y), .l 10 (.move y13), .l 11 (.len 0 t10), .l 12 (x2 t9 t11)]) (.cond t12 .skip (.exit 0))) (.seq (.block 1 (.reg [.l 15 (.move y0), .l 16 (.bin .mul 6 4294967296 0 t15 (.c (.i 6 16777619))), .l 17 (.move y13), .l 18 (.move y), .l 19 (.idxS t17 t18), .l 20 (.un (.conv 6 4294967296) t19), .l 21 (.bin .add 6 4294967296 0 t16 t20), .p w0 (.move t21)])) (.reg [.l 13 (.move y), .l 14 (x3 t13 (.c (.i 3 1))), .p .top (.move t14)])))))) (.seq (.reg [.p w4 (.move (.c (.i 6 1))), .p w3 (.move (.c (.i 6 16777619)))]) (.seq (.seq (.reg [.l 22 (.move y13), .l 23 (.len 0 t22), .p w8 (.move t23)]) (.block 2 (.loop (.seq (.seq (.reg [.l 24 (.move y8), .l 25 (x4 t24 (.c (.i 3 0)))]) (.cond t25 .skip (.exit 2))) (.seq (.block 3 (.seq (.seq (.reg [.l 28 (.move y8), .l 29 (x11 t28 (.c (.i 3 1))), .l 30 (x0 t29 (.c (.i 3 0)))]) (.cond t30 (.reg [.l 31 (.move y4), .l 32 (.move y3), .l 33 (.bin .mul 6 4294967296 0 t31 t32), .p w4 (.move t33)]) .skip)) (.reg [.l 34 (.move y3), .l 35 (.move y3), .l 36 (.bin .mul 6 4294967296 0 t34 t35), .p w3 (.move t36)]))) (.reg [.l 26 (.move y8), .l 27 (.sh .shr 3 18446744073709551616 9223372036854775808 64 t26 (.c (.i 7 1))), .p w8 (.move t27)])))))) (.seq (.reg [.l 37 (.move y0), .l 38 (.move y4), .p w6 (.move t37), .p w7 (.move t38)]) .ret)))))),
  [.one y6, .one y7]⟩
end
end Go.Ab.Tryz
