/- Made by program: the K code is the program. -/
import Derived.Test.YtocibeohfbdndaaGreatDoorDfKg0
import Derived.Test.YtocibeohfbdndaaGreatDoorProg
import Derived.KernelRfl
namespace Go.Ab.Tryz
open Go Go.Ab Go.Proofs
theorem c4 : k4.ok Tryz.prog dchk 4 = true := by kernel_rfl
theorem c9 : k9.ok Tryz.prog dchk 9 = true := by kernel_rfl
theorem c10 : k10.ok Tryz.prog dchk 10 = true := by kernel_rfl
theorem c11 : k11.ok Tryz.prog dchk 11 = true := by kernel_rfl
theorem c12 : k12.ok Tryz.prog dchk 12 = true := by kernel_rfl
theorem c13 : k13.ok Tryz.prog dchk 13 = true := by kernel_rfl
theorem c14 : k14.ok Tryz.prog dchk 14 = true := by kernel_rfl
theorem c15 : k15.ok Tryz.prog dchk 15 = true := by kernel_rfl
theorem c19 : k19.ok Tryz.prog dchk 19 = true := by kernel_rfl
theorem c20 : k20.ok Tryz.prog dchk 20 = true := by kernel_rfl
theorem c21 : k21.ok Tryz.prog dchk 21 = true := by kernel_rfl
theorem c22 : k22.ok Tryz.prog dchk 22 = true := by kernel_rfl
theorem c23 : k23.ok Tryz.prog dchk 23 = true := by kernel_rfl
theorem c24 : k24.ok Tryz.prog dchk 24 = true := by kernel_rfl
theorem c25 : k25.ok Tryz.prog dchk 25 = true := by kernel_rfl
theorem c26 : k26.ok Tryz.prog dchk 26 = true := by kernel_rfl
theorem c27 : k27.ok Tryz.prog dchk 27 = true := by kernel_rfl
theorem c31 : k31.ok Tryz.prog dchk 31 = true := by kernel_rfl
theorem c34 : k34.ok Tryz.prog dchk 34 = true := by kernel_rfl
theorem c46 : k46.ok Tryz.prog dchk 46 = true := by kernel_rfl
theorem c47 : k47.ok Tryz.prog dchk 47 = true := by kernel_rfl
theorem c48 : k48.ok Tryz.prog dchk 48 = true := by kernel_rfl
theorem c49 : k49.ok Tryz.prog dchk 49 = true := by kernel_rfl
theorem c50 : k50.ok Tryz.prog dchk 50 = true := by kernel_rfl
theorem c51 : k51.ok Tryz.prog dchk 51 = true := by kernel_rfl
theorem c52 : k52.ok Tryz.prog dchk 52 = true := by kernel_rfl
theorem c53 : k53.ok Tryz.prog dchk 53 = true := by kernel_rfl
theorem c54 : k54.ok Tryz.prog dchk 54 = true := by kernel_rfl
theorem c55 : k55.ok Tryz.prog dchk 55 = true := by kernel_rfl
theorem c56 : k56.ok Tryz.prog dchk 56 = true := by kernel_rfl
theorem c57 : k57.ok Tryz.prog dchk 57 = true := by kernel_rfl
theorem c59 : k59.ok Tryz.prog dchk 59 = true := by kernel_rfl
theorem c60 : k60.ok Tryz.prog dchk 60 = true := by kernel_rfl
theorem c61 : k61.ok Tryz.prog dchk 61 = true := by kernel_rfl
theorem c62 : k62.ok Tryz.prog dchk 62 = true := by kernel_rfl
theorem c63 : k63.ok Tryz.prog dchk 63 = true := by kernel_rfl
theorem c64 : k64.ok Tryz.prog dchk 64 = true := by kernel_rfl
theorem c65 : k65.ok Tryz.prog dchk 65 = true := by kernel_rfl
theorem c66 : k66.ok Tryz.prog dchk 66 = true := by kernel_rfl
theorem c67 : k67.ok Tryz.prog dchk 67 = true := by kernel_rfl
theorem c68 : k68.ok Tryz.prog dchk 68 = true := by kernel_rfl
theorem c69 : k69.ok Tryz.prog dchk 69 = true := by kernel_rfl
theorem c70 : k70.ok Tryz.prog dchk 70 = true := by kernel_rfl
theorem c71 : k71.ok Tryz.prog dchk 71 = true := by kernel_rfl
theorem c72 : k72.ok Tryz.prog dchk 72 = true := by kernel_rfl
theorem c73 : k73.ok Tryz.prog dchk 73 = true := by kernel_rfl
theorem c75 : k75.ok Tryz.prog dchk 75 = true := by kernel_rfl
theorem c83 : k83.ok Tryz.prog dchk 83 = true := by kernel_rfl
theorem c90 : k90.ok Tryz.prog dchk 90 = true := by kernel_rfl
theorem c91 : k91.ok Tryz.prog dchk 91 = true := by kernel_rfl
theorem c92 : k92.ok Tryz.prog dchk 92 = true := by kernel_rfl
theorem c93 : k93.ok Tryz.prog dchk 93 = true := by kernel_rfl
theorem c94 : k94.ok Tryz.prog dchk 94 = true := by kernel_rfl
theorem c95 : k95.ok Tryz.prog dchk 95 = true := by kernel_rfl
theorem c96 : k96.ok Tryz.prog dchk 96 = true := by kernel_rfl
theorem c97 : k97.ok Tryz.prog dchk 97 = true := by kernel_rfl
theorem c98 : k98.ok Tryz.prog dchk 98 = true := by kernel_rfl
theorem c99 : k99.ok Tryz.prog dchk 99 = true := by kernel_rfl
theorem c100 : k100.ok Tryz.prog dchk 100 = true := by kernel_rfl
theorem c101 : k101.ok Tryz.prog dchk 101 = true := by kernel_rfl
theorem c102 : k102.ok Tryz.prog dchk 102 = true := by kernel_rfl
theorem c103 : k103.ok Tryz.prog dchk 103 = true := by kernel_rfl
theorem c104 : k104.ok Tryz.prog dchk 104 = true := by kernel_rfl
theorem c105 : k105.ok Tryz.prog dchk 105 = true := by kernel_rfl
theorem c107 : k107.ok Tryz.prog dchk 107 = true := by kernel_rfl
theorem c108 : k108.ok Tryz.prog dchk 108 = true := by kernel_rfl
theorem c109 : k109.ok Tryz.prog dchk 109 = true := by kernel_rfl
theorem c110 : k110.ok Tryz.prog dchk 110 = true := by kernel_rfl
theorem c111 : k111.ok Tryz.prog dchk 111 = true := by kernel_rfl
theorem c112 : k112.ok Tryz.prog dchk 112 = true := by kernel_rfl
theorem c113 : k113.ok Tryz.prog dchk 113 = true := by kernel_rfl
theorem c114 : k114.ok Tryz.prog dchk 114 = true := by kernel_rfl
theorem c115 : k115.ok Tryz.prog dchk 115 = true := by kernel_rfl
theorem c116 : k116.ok Tryz.prog dchk 116 = true := by kernel_rfl
theorem c117 : k117.ok Tryz.prog dchk 117 = true := by kernel_rfl
theorem c118 : k118.ok Tryz.prog dchk 118 = true := by kernel_rfl
theorem c119 : k119.ok Tryz.prog dchk 119 = true := by kernel_rfl
theorem c120 : k120.ok Tryz.prog dchk 120 = true := by kernel_rfl
theorem c121 : k121.ok Tryz.prog dchk 121 = true := by kernel_rfl
theorem c137 : k137.ok Tryz.prog dchk 137 = true := by kernel_rfl
theorem c138 : k138.ok Tryz.prog dchk 138 = true := by kernel_rfl
theorem c139 : k139.ok Tryz.prog dchk 139 = true := by kernel_rfl
theorem c140 : k140.ok Tryz.prog dchk 140 = true := by kernel_rfl
theorem c141 : k141.ok Tryz.prog dchk 141 = true := by kernel_rfl
theorem c142 : k142.ok Tryz.prog dchk 142 = true := by kernel_rfl
theorem c143 : k143.ok Tryz.prog dchk 143 = true := by kernel_rfl
theorem c144 : k144.ok Tryz.prog dchk 144 = true := by kernel_rfl
theorem c145 : k145.ok Tryz.prog dchk 145 = true := by kernel_rfl
theorem c146 : k146.ok Tryz.prog dchk 146 = true := by kernel_rfl
theorem c147 : k147.ok Tryz.prog dchk 147 = true := by kernel_rfl
theorem c148 : k148.ok Tryz.prog dchk 148 = true := by kernel_rfl
theorem c149 : k149.ok Tryz.prog dchk 149 = true := by kernel_rfl
theorem c150 : k150.ok Tryz.prog dchk 150 = true := by kernel_rfl
theorem c151 : k151.ok Tryz.prog dchk 151 = true := by kernel_rfl
theorem c152 : k152.ok Tryz.prog dchk 152 = true := by kernel_rfl
theorem c153 : k153.ok Tryz.prog dchk 153 = true := by kernel_rfl
theorem c154 : k154.ok Tryz.prog dchk 154 = true := by kernel_rfl
theorem c155 : k155.ok Tryz.prog dchk 155 = true := by kernel_rfl
theorem c156 : k156.ok Tryz.prog dchk 156 = true := by kernel_rfl
theorem c157 : k157.ok Tryz.prog dchk 157 = true := by kernel_rfl
theorem c158 : k158.ok Tryz.prog dchk 158 = true := by kernel_rfl
theorem c159 : k159.ok Tryz.prog dchk 159 = true := by kernel_rfl
theorem c160 : k160.ok Tryz.prog dchk 160 = true := by kernel_rfl
theorem c161 : k161.ok Tryz.prog dchk 161 = true := by kernel_rfl
theorem c162 : k162.ok Tryz.prog dchk 162 = true := by kernel_rfl
theorem c163 : k163.ok Tryz.prog dchk 163 = true := by kernel_rfl
theorem c164 : k164.ok Tryz.prog dchk 164 = true := by kernel_rfl
theorem c165 : k165.ok Tryz.prog dchk 165 = true := by kernel_rfl
theorem c166 : k166.ok Tryz.prog dchk 166 = true := by kernel_rfl
theorem c167 : k167.ok Tryz.prog dchk 167 = true := by kernel_rfl
theorem c168 : k168.ok Tryz.prog dchk 168 = true := by kernel_rfl
theorem c192 : k192.ok Tryz.prog dchk 192 = true := by kernel_rfl
theorem c193 : k193.ok Tryz.prog dchk 193 = true := by kernel_rfl
theorem c194 : k194.ok Tryz.prog dchk 194 = true := by kernel_rfl
theorem c195 : k195.ok Tryz.prog dchk 195 = true := by kernel_rfl
theorem c196 : k196.ok Tryz.prog dchk 196 = true := by kernel_rfl
theorem c197 : k197.ok Tryz.prog dchk 197 = true := by kernel_rfl
theorem c198 : k198.ok Tryz.prog dchk 198 = true := by kernel_rfl
theorem c199 : k199.ok Tryz.prog dchk 199 = true := by kernel_rfl
theorem c200 : k200.ok Tryz.prog dchk 200 = true := by kernel_rfl
theorem c201 : k201.ok Tryz.prog dchk 201 = true := by kernel_rfl
theorem c202 : k202.ok Tryz.prog dchk 202 = true := by kernel_rfl
theorem c203 : k203.ok Tryz.prog dchk 203 = true := by kernel_rfl
theorem c204 : k204.ok Tryz.prog dchk 204 = true := by kernel_rfl
theorem c205 : k205.ok Tryz.prog dchk 205 = true := by kernel_rfl
theorem c206 : k206.ok Tryz.prog dchk 206 = true := by kernel_rfl
theorem c207 : k207.ok Tryz.prog dchk 207 = true := by kernel_rfl
theorem c208 : k208.ok Tryz.prog dchk 208 = true := by kernel_rfl
theorem c209 : k209.ok Tryz.prog dchk 209 = true := by kernel_rfl
theorem c210 : k210.ok Tryz.prog dchk 210 = true := by kernel_rfl
theorem c211 : k211.ok Tryz.prog dchk 211 = true := by kernel_rfl
theorem c212 : k212.ok Tryz.prog dchk 212 = true := by kernel_rfl
theorem c213 : k213.ok Tryz.prog dchk 213 = true := by kernel_rfl
theorem c214 : k214.ok Tryz.prog dchk 214 = true := by kernel_rfl
theorem c215 : k215.ok Tryz.prog dchk 215 = true := by kernel_rfl
theorem c216 : k216.ok Tryz.prog dchk 216 = true := by kernel_rfl
theorem c217 : k217.ok Tryz.prog dchk 217 = true := by kernel_rfl
theorem c218 : k218.ok Tryz.prog dchk 218 = true := by kernel_rfl
theorem c219 : k219.ok Tryz.prog dchk 219 = true := by kernel_rfl
theorem c220 : k220.ok Tryz.prog dchk 220 = true := by kernel_rfl
theorem c233 : k233.ok Tryz.prog dchk 233 = true := by kernel_rfl
theorem c234 : k234.ok Tryz.prog dchk 234 = true := by kernel_rfl
theorem c235 : k235.ok Tryz.prog dchk 235 = true := by kernel_rfl
theorem c236 : k236.ok Tryz.prog dchk 236 = true := by kernel_rfl
theorem c237 : k237.ok Tryz.prog dchk 237 = true := by kernel_rfl
theorem c240 : k240.ok Tryz.prog dchk 240 = true := by kernel_rfl
theorem c241 : k241.ok Tryz.prog dchk 241 = true := by kernel_rfl
theorem c242 : k242.ok Tryz.prog dchk 242 = true := by kernel_rfl
theorem c243 : k243.ok Tryz.prog dchk 243 = true := by kernel_rfl
theorem c244 : k244.ok Tryz.prog dchk 244 = true := by kernel_rfl
theorem c245 : k245.ok Tryz.prog dchk 245 = true := by kernel_rfl
theorem c246 : k246.ok Tryz.prog dchk 246 = true := by kernel_rfl
theorem c247 : k247.ok Tryz.prog dchk 247 = true := by kernel_rfl
theorem c250 : k250.ok Tryz.prog dchk 250 = true := by kernel_rfl
theorem c251 : k251.ok Tryz.prog dchk 251 = true := by kernel_rfl
theorem c252 : k252.ok Tryz.prog dchk 252 = true := by kernel_rfl
theorem c253 : k253.ok Tryz.prog dchk 253 = true := by kernel_rfl
theorem c254 : k254.ok Tryz.prog dchk 254 = true := by kernel_rfl
theorem c255 : k255.ok Tryz.prog dchk 255 = true := by kernel_rfl
theorem c256 : k256.ok Tryz.prog dchk 256 = true := by kernel_rfl
theorem c257 : k257.ok Tryz.prog dchk 257 = true := by kernel_rfl
theorem c258 : k258.ok Tryz.prog dchk 258 = true := by kernel_rfl
theorem c259 : k259.ok Tryz.prog dchk 259 = true := by kernel_rfl
theorem c260 : k260.ok Tryz.prog dchk 260 = true := by kernel_rfl
theorem c261 : k261.ok Tryz.prog dchk 261 = true := by kernel_rfl
theorem c275 : k275.ok Tryz.prog dchk 275 = true := by kernel_rfl
theorem c279 : k279.ok Tryz.prog dchk 279 = true := by kernel_rfl
theorem c280 : k280.ok Tryz.prog dchk 280 = true := by kernel_rfl
theorem c281 : k281.ok Tryz.prog dchk 281 = true := by kernel_rfl
theorem c282 : k282.ok Tryz.prog dchk 282 = true := by kernel_rfl
theorem c283 : k283.ok Tryz.prog dchk 283 = true := by kernel_rfl
theorem c287 : k287.ok Tryz.prog dchk 287 = true := by kernel_rfl
theorem c288 : k288.ok Tryz.prog dchk 288 = true := by kernel_rfl
theorem c295 : k295.ok Tryz.prog dchk 295 = true := by kernel_rfl
theorem c299 : k299.ok Tryz.prog dchk 299 = true := by kernel_rfl
theorem c300 : k300.ok Tryz.prog dchk 300 = true := by kernel_rfl
theorem cX : kIdx.ok Tryz.prog dchk 258 = true := by kernel_rfl
theorem e10 : (fun F => k10.body.den F) = d10 := cod_of (by kernel_rfl)
theorem e13 : (fun F => k13.body.den F) = d13 := cod_of (by kernel_rfl)
theorem e14 : (fun F => k14.body.den F) = d14 := cod_of (by kernel_rfl)
theorem e50 : (fun F => k50.body.den F) = d50 := cod_of (by kernel_rfl)
theorem e51 : (fun F => k51.body.den F) = d51 := cod_of (by kernel_rfl)
theorem e52 : (fun F => k52.body.den F) = d52 := cod_of (by kernel_rfl)
theorem e54 : (fun F => k54.body.den F) = d54 := cod_of (by kernel_rfl)
theorem e55 : (fun F => k55.body.den F) = d55 := cod_of (by kernel_rfl)
theorem e56 : (fun F => k56.body.den F) = d56 := cod_of (by kernel_rfl)
theorem e57 : (fun F => k57.body.den F) = d57 := cod_of (by kernel_rfl)
theorem e59 : (fun F => k59.body.den F) = d59 := cod_of (by kernel_rfl)
theorem e61 : (fun F => k61.body.den F) = d61 := cod_of (by kernel_rfl)
theorem e63 : (fun F => k63.body.den F) = d63 := cod_of (by kernel_rfl)
theorem e64 : (fun F => k64.body.den F) = d64 := cod_of (by kernel_rfl)
theorem e67 : (fun F => k67.body.den F) = d67 := cod_of (by kernel_rfl)
theorem e69 : (fun F => k69.body.den F) = d69 := cod_of (by kernel_rfl)
theorem e70 : (fun F => k70.body.den F) = d70 := cod_of (by kernel_rfl)
theorem e72 : (fun F => k72.body.den F) = d72 := cod_of (by kernel_rfl)
theorem e75 : (fun F => k75.body.den F) = d75 := cod_of (by kernel_rfl)
theorem e83 : (fun F => k83.body.den F) = d83 := cod_of (by kernel_rfl)
theorem e92 : (fun F => k92.body.den F) = d92 := cod_of (by kernel_rfl)
theorem e93 : (fun F => k93.body.den F) = d93 := cod_of (by kernel_rfl)
theorem e94 : (fun F => k94.body.den F) = d94 := cod_of (by kernel_rfl)
theorem e95 : (fun F => k95.body.den F) = d95 := cod_of (by kernel_rfl)
theorem e96 : (fun F => k96.body.den F) = d96 := cod_of (by kernel_rfl)
theorem e97 : (fun F => k97.body.den F) = d97 := cod_of (by kernel_rfl)
theorem e100 : (fun F => k100.body.den F) = d100 := cod_of (by kernel_rfl)
theorem e101 : (fun F => k101.body.den F) = d101 := cod_of (by kernel_rfl)
theorem e102 : (fun F => k102.body.den F) = d102 := cod_of (by kernel_rfl)
theorem e103 : (fun F => k103.body.den F) = d103 := cod_of (by kernel_rfl)
theorem e105 : (fun F => k105.body.den F) = d105 := cod_of (by kernel_rfl)
theorem e107 : (fun F => k107.body.den F) = d107 := cod_of (by kernel_rfl)
theorem e108 : (fun F => k108.body.den F) = d108 := cod_of (by kernel_rfl)
theorem e110 : (fun F => k110.body.den F) = d110 := cod_of (by kernel_rfl)
theorem e111 : (fun F => k111.body.den F) = d111 := cod_of (by kernel_rfl)
theorem e112 : (fun F => k112.body.den F) = d112 := cod_of (by kernel_rfl)
theorem e113 : (fun F => k113.body.den F) = d113 := cod_of (by kernel_rfl)
theorem e117 : (fun F => k117.body.den F) = d117 := cod_of (by kernel_rfl)
theorem e118 : (fun F => k118.body.den F) = d118 := cod_of (by kernel_rfl)
theorem e119 : (fun F => k119.body.den F) = d119 := cod_of (by kernel_rfl)
theorem e121 : (fun F => k121.body.den F) = d121 := cod_of (by kernel_rfl)
theorem e138 : (fun F => k138.body.den F) = d138 := cod_of (by kernel_rfl)
theorem e139 : (fun F => k139.body.den F) = d139 := cod_of (by kernel_rfl)
theorem e140 : (fun F => k140.body.den F) = d140 := cod_of (by kernel_rfl)
theorem e141 : (fun F => k141.body.den F) = d141 := cod_of (by kernel_rfl)
theorem e142 : (fun F => k142.body.den F) = d142 := cod_of (by kernel_rfl)
theorem e143 : (fun F => k143.body.den F) = d143 := cod_of (by kernel_rfl)
theorem e144 : (fun F => k144.body.den F) = d144 := cod_of (by kernel_rfl)
theorem e145 : (fun F => k145.body.den F) = d145 := cod_of (by kernel_rfl)
theorem e146 : (fun F => k146.body.den F) = d146 := cod_of (by kernel_rfl)
theorem e148 : (fun F => k148.body.den F) = d148 := cod_of (by kernel_rfl)
theorem e149 : (fun F => k149.body.den F) = d149 := cod_of (by kernel_rfl)
theorem e150 : (fun F => k150.body.den F) = d150 := cod_of (by kernel_rfl)
theorem e151 : (fun F => k151.body.den F) = d151 := cod_of (by kernel_rfl)
theorem e152 : (fun F => k152.body.den F) = d152 := cod_of (by kernel_rfl)
theorem e153 : (fun F => k153.body.den F) = d153 := cod_of (by kernel_rfl)
theorem e154 : (fun F => k154.body.den F) = d154 := cod_of (by kernel_rfl)
theorem e155 : (fun F => k155.body.den F) = d155 := cod_of (by kernel_rfl)
theorem e156 : (fun F => k156.body.den F) = d156 := cod_of (by kernel_rfl)
theorem e157 : (fun F => k157.body.den F) = d157 := cod_of (by kernel_rfl)
theorem e159 : (fun F => k159.body.den F) = d159 := cod_of (by kernel_rfl)
theorem e161 : (fun F => k161.body.den F) = d161 := cod_of (by kernel_rfl)
theorem e162 : (fun F => k162.body.den F) = d162 := cod_of (by kernel_rfl)
theorem e163 : (fun F => k163.body.den F) = d163 := cod_of (by kernel_rfl)
theorem e164 : (fun F => k164.body.den F) = d164 := cod_of (by kernel_rfl)
theorem e166 : (fun F => k166.body.den F) = d166 := cod_of (by kernel_rfl)
theorem e167 : (fun F => k167.body.den F) = d167 := cod_of (by kernel_rfl)
theorem e168 : (fun F => k168.body.den F) = d168 := cod_of (by kernel_rfl)
theorem e194 : (fun F => k194.body.den F) = d194 := cod_of (by kernel_rfl)
theorem e195 : (fun F => k195.body.den F) = d195 := cod_of (by kernel_rfl)
theorem e196 : (fun F => k196.body.den F) = d196 := cod_of (by kernel_rfl)
theorem e197 : (fun F => k197.body.den F) = d197 := cod_of (by kernel_rfl)
theorem e200 : (fun F => k200.body.den F) = d200 := cod_of (by kernel_rfl)
theorem e201 : (fun F => k201.body.den F) = d201 := cod_of (by kernel_rfl)
theorem e202 : (fun F => k202.body.den F) = d202 := cod_of (by kernel_rfl)
theorem e203 : (fun F => k203.body.den F) = d203 := cod_of (by kernel_rfl)
theorem e204 : (fun F => k204.body.den F) = d204 := cod_of (by kernel_rfl)
theorem e205 : (fun F => k205.body.den F) = d205 := cod_of (by kernel_rfl)
theorem e206 : (fun F => k206.body.den F) = d206 := cod_of (by kernel_rfl)
theorem e207 : (fun F => k207.body.den F) = d207 := cod_of (by kernel_rfl)
theorem e208 : (fun F => k208.body.den F) = d208 := cod_of (by kernel_rfl)
theorem e211 : (fun F => k211.body.den F) = d211 := cod_of (by kernel_rfl)
theorem e212 : (fun F => k212.body.den F) = d212 := cod_of (by kernel_rfl)
theorem e213 : (fun F => k213.body.den F) = d213 := cod_of (by kernel_rfl)
theorem e214 : (fun F => k214.body.den F) = d214 := cod_of (by kernel_rfl)
theorem e216 : (fun F => k216.body.den F) = d216 := cod_of (by kernel_rfl)
theorem e217 : (fun F => k217.body.den F) = d217 := cod_of (by kernel_rfl)
theorem e218 : (fun F => k218.body.den F) = d218 := cod_of (by kernel_rfl)
theorem e219 : (fun F => k219.body.den F) = d219 := cod_of (by kernel_rfl)
theorem e220 : (fun F => k220.body.den F) = d220 := cod_of (by kernel_rfl)
theorem e235 : (fun F => k235.body.den F) = d235 := cod_of (by kernel_rfl)
theorem e236 : (fun F => k236.body.den F) = d236 := cod_of (by kernel_rfl)
theorem e237 : (fun F => k237.body.den F) = d237 := cod_of (by kernel_rfl)
theorem e240 : (fun F => k240.body.den F) = d240 := cod_of (by kernel_rfl)
theorem e241 : (fun F => k241.body.den F) = d241 := cod_of (by kernel_rfl)
theorem e242 : (fun F => k242.body.den F) = d242 := cod_of (by kernel_rfl)
theorem e246 : (fun F => k246.body.den F) = d246 := cod_of (by kernel_rfl)
theorem e247 : (fun F => k247.body.den F) = d247 := cod_of (by kernel_rfl)
theorem e256 : (fun F => k256.body.den F) = d256 := cod_of (by kernel_rfl)
theorem e257 : (fun F => k257.body.den F) = d257 := cod_of (by kernel_rfl)
theorem e258 : (fun F => k258.body.den F) = d258 := cod_of (by kernel_rfl)
theorem e259 : (fun F => k259.body.den F) = d259 := cod_of (by kernel_rfl)
theorem e260 : (fun F => k260.body.den F) = d260 := cod_of (by kernel_rfl)
theorem e261 : (fun F => k261.body.den F) = d261 := cod_of (by kernel_rfl)
theorem e275 : (fun F => k275.body.den F) = d275 := cod_of (by kernel_rfl)
theorem e295 : (fun F => k295.body.den F) = d295 := cod_of (by kernel_rfl)
theorem mixed : Tryz.prog.follows .mixedOrders = true := by kernel_rfl
end Go.Ab.Tryz
