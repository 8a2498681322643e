/- Made by program: the K code is the program. -/
import Derived.Test.YtfhaailmhaamfaaGreatDoorRfKg0
import Derived.Test.YtfhaailmhaamfaaGreatDoorProg
import Derived.KernelRfl
namespace Go.Ab.Tryz
open Go Go.Ab Go.Proofs
theorem c8 : k8.ok Tryz.prog dchk 8 = true := by kernel_rfl
theorem c13 : k13.ok Tryz.prog dchk 13 = true := by kernel_rfl
theorem c14 : k14.ok Tryz.prog dchk 14 = true := by kernel_rfl
theorem c15 : k15.ok Tryz.prog dchk 15 = true := by kernel_rfl
theorem c16 : k16.ok Tryz.prog dchk 16 = true := by kernel_rfl
theorem c17 : k17.ok Tryz.prog dchk 17 = true := by kernel_rfl
theorem c18 : k18.ok Tryz.prog dchk 18 = true := by kernel_rfl
theorem c19 : k19.ok Tryz.prog dchk 19 = true := by kernel_rfl
theorem c23 : k23.ok Tryz.prog dchk 23 = true := by kernel_rfl
theorem c24 : k24.ok Tryz.prog dchk 24 = true := by kernel_rfl
theorem c28 : k28.ok Tryz.prog dchk 28 = true := by kernel_rfl
theorem c29 : k29.ok Tryz.prog dchk 29 = true := by kernel_rfl
theorem c31 : k31.ok Tryz.prog dchk 31 = true := by kernel_rfl
theorem c36 : k36.ok Tryz.prog dchk 36 = true := by kernel_rfl
theorem c41 : k41.ok Tryz.prog dchk 41 = true := by kernel_rfl
theorem c42 : k42.ok Tryz.prog dchk 42 = true := by kernel_rfl
theorem c43 : k43.ok Tryz.prog dchk 43 = true := by kernel_rfl
theorem c44 : k44.ok Tryz.prog dchk 44 = true := by kernel_rfl
theorem c45 : k45.ok Tryz.prog dchk 45 = true := by kernel_rfl
theorem c46 : k46.ok Tryz.prog dchk 46 = true := by kernel_rfl
theorem c48 : k48.ok Tryz.prog dchk 48 = true := by kernel_rfl
theorem c60 : k60.ok Tryz.prog dchk 60 = true := by kernel_rfl
theorem c61 : k61.ok Tryz.prog dchk 61 = true := by kernel_rfl
theorem c62 : k62.ok Tryz.prog dchk 62 = true := by kernel_rfl
theorem c63 : k63.ok Tryz.prog dchk 63 = true := by kernel_rfl
theorem c64 : k64.ok Tryz.prog dchk 64 = true := by kernel_rfl
theorem c65 : k65.ok Tryz.prog dchk 65 = true := by kernel_rfl
theorem c66 : k66.ok Tryz.prog dchk 66 = true := by kernel_rfl
theorem c67 : k67.ok Tryz.prog dchk 67 = true := by kernel_rfl
theorem c68 : k68.ok Tryz.prog dchk 68 = true := by kernel_rfl
theorem c69 : k69.ok Tryz.prog dchk 69 = true := by kernel_rfl
theorem c70 : k70.ok Tryz.prog dchk 70 = true := by kernel_rfl
theorem c72 : k72.ok Tryz.prog dchk 72 = true := by kernel_rfl
theorem c73 : k73.ok Tryz.prog dchk 73 = true := by kernel_rfl
theorem c74 : k74.ok Tryz.prog dchk 74 = true := by kernel_rfl
theorem c75 : k75.ok Tryz.prog dchk 75 = true := by kernel_rfl
theorem c76 : k76.ok Tryz.prog dchk 76 = true := by kernel_rfl
theorem c79 : k79.ok Tryz.prog dchk 79 = true := by kernel_rfl
theorem c85 : k85.ok Tryz.prog dchk 85 = true := by kernel_rfl
theorem c86 : k86.ok Tryz.prog dchk 86 = true := by kernel_rfl
theorem c87 : k87.ok Tryz.prog dchk 87 = true := by kernel_rfl
theorem c88 : k88.ok Tryz.prog dchk 88 = true := by kernel_rfl
theorem c89 : k89.ok Tryz.prog dchk 89 = true := by kernel_rfl
theorem c90 : k90.ok Tryz.prog dchk 90 = true := by kernel_rfl
theorem c91 : k91.ok Tryz.prog dchk 91 = true := by kernel_rfl
theorem c95 : k95.ok Tryz.prog dchk 95 = true := by kernel_rfl
theorem c97 : k97.ok Tryz.prog dchk 97 = true := by kernel_rfl
theorem c107 : k107.ok Tryz.prog dchk 107 = true := by kernel_rfl
theorem c108 : k108.ok Tryz.prog dchk 108 = true := by kernel_rfl
theorem c109 : k109.ok Tryz.prog dchk 109 = true := by kernel_rfl
theorem c110 : k110.ok Tryz.prog dchk 110 = true := by kernel_rfl
theorem c111 : k111.ok Tryz.prog dchk 111 = true := by kernel_rfl
theorem c112 : k112.ok Tryz.prog dchk 112 = true := by kernel_rfl
theorem c113 : k113.ok Tryz.prog dchk 113 = true := by kernel_rfl
theorem c114 : k114.ok Tryz.prog dchk 114 = true := by kernel_rfl
theorem c115 : k115.ok Tryz.prog dchk 115 = true := by kernel_rfl
theorem c116 : k116.ok Tryz.prog dchk 116 = true := by kernel_rfl
theorem c117 : k117.ok Tryz.prog dchk 117 = true := by kernel_rfl
theorem c118 : k118.ok Tryz.prog dchk 118 = true := by kernel_rfl
theorem c119 : k119.ok Tryz.prog dchk 119 = true := by kernel_rfl
theorem c120 : k120.ok Tryz.prog dchk 120 = true := by kernel_rfl
theorem c122 : k122.ok Tryz.prog dchk 122 = true := by kernel_rfl
theorem c125 : k125.ok Tryz.prog dchk 125 = true := by kernel_rfl
theorem c126 : k126.ok Tryz.prog dchk 126 = true := by kernel_rfl
theorem c127 : k127.ok Tryz.prog dchk 127 = true := by kernel_rfl
theorem c128 : k128.ok Tryz.prog dchk 128 = true := by kernel_rfl
theorem c129 : k129.ok Tryz.prog dchk 129 = true := by kernel_rfl
theorem c130 : k130.ok Tryz.prog dchk 130 = true := by kernel_rfl
theorem c133 : k133.ok Tryz.prog dchk 133 = true := by kernel_rfl
theorem c134 : k134.ok Tryz.prog dchk 134 = true := by kernel_rfl
theorem c135 : k135.ok Tryz.prog dchk 135 = true := by kernel_rfl
theorem c150 : k150.ok Tryz.prog dchk 150 = true := by kernel_rfl
theorem c151 : k151.ok Tryz.prog dchk 151 = true := by kernel_rfl
theorem c152 : k152.ok Tryz.prog dchk 152 = true := by kernel_rfl
theorem c153 : k153.ok Tryz.prog dchk 153 = true := by kernel_rfl
theorem c154 : k154.ok Tryz.prog dchk 154 = true := by kernel_rfl
theorem c155 : k155.ok Tryz.prog dchk 155 = true := by kernel_rfl
theorem c156 : k156.ok Tryz.prog dchk 156 = true := by kernel_rfl
theorem c157 : k157.ok Tryz.prog dchk 157 = true := by kernel_rfl
theorem c158 : k158.ok Tryz.prog dchk 158 = true := by kernel_rfl
theorem c159 : k159.ok Tryz.prog dchk 159 = true := by kernel_rfl
theorem c160 : k160.ok Tryz.prog dchk 160 = true := by kernel_rfl
theorem c161 : k161.ok Tryz.prog dchk 161 = true := by kernel_rfl
theorem c162 : k162.ok Tryz.prog dchk 162 = true := by kernel_rfl
theorem c163 : k163.ok Tryz.prog dchk 163 = true := by kernel_rfl
theorem c164 : k164.ok Tryz.prog dchk 164 = true := by kernel_rfl
theorem c165 : k165.ok Tryz.prog dchk 165 = true := by kernel_rfl
theorem c166 : k166.ok Tryz.prog dchk 166 = true := by kernel_rfl
theorem c167 : k167.ok Tryz.prog dchk 167 = true := by kernel_rfl
theorem c168 : k168.ok Tryz.prog dchk 168 = true := by kernel_rfl
theorem c169 : k169.ok Tryz.prog dchk 169 = true := by kernel_rfl
theorem c170 : k170.ok Tryz.prog dchk 170 = true := by kernel_rfl
theorem c171 : k171.ok Tryz.prog dchk 171 = true := by kernel_rfl
theorem c172 : k172.ok Tryz.prog dchk 172 = true := by kernel_rfl
theorem c173 : k173.ok Tryz.prog dchk 173 = true := by kernel_rfl
theorem c174 : k174.ok Tryz.prog dchk 174 = true := by kernel_rfl
theorem c175 : k175.ok Tryz.prog dchk 175 = true := by kernel_rfl
theorem c176 : k176.ok Tryz.prog dchk 176 = true := by kernel_rfl
theorem c177 : k177.ok Tryz.prog dchk 177 = true := by kernel_rfl
theorem c178 : k178.ok Tryz.prog dchk 178 = true := by kernel_rfl
theorem c179 : k179.ok Tryz.prog dchk 179 = true := by kernel_rfl
theorem c188 : k188.ok Tryz.prog dchk 188 = true := by kernel_rfl
theorem c189 : k189.ok Tryz.prog dchk 189 = true := by kernel_rfl
theorem c190 : k190.ok Tryz.prog dchk 190 = true := by kernel_rfl
theorem c191 : k191.ok Tryz.prog dchk 191 = true := by kernel_rfl
theorem c192 : k192.ok Tryz.prog dchk 192 = true := by kernel_rfl
theorem c193 : k193.ok Tryz.prog dchk 193 = true := by kernel_rfl
theorem c194 : k194.ok Tryz.prog dchk 194 = true := by kernel_rfl
theorem c195 : k195.ok Tryz.prog dchk 195 = true := by kernel_rfl
theorem c196 : k196.ok Tryz.prog dchk 196 = true := by kernel_rfl
theorem c197 : k197.ok Tryz.prog dchk 197 = true := by kernel_rfl
theorem c198 : k198.ok Tryz.prog dchk 198 = true := by kernel_rfl
theorem c199 : k199.ok Tryz.prog dchk 199 = true := by kernel_rfl
theorem c200 : k200.ok Tryz.prog dchk 200 = true := by kernel_rfl
theorem c201 : k201.ok Tryz.prog dchk 201 = true := by kernel_rfl
theorem c202 : k202.ok Tryz.prog dchk 202 = true := by kernel_rfl
theorem c203 : k203.ok Tryz.prog dchk 203 = true := by kernel_rfl
theorem c204 : k204.ok Tryz.prog dchk 204 = true := by kernel_rfl
theorem c205 : k205.ok Tryz.prog dchk 205 = true := by kernel_rfl
theorem c206 : k206.ok Tryz.prog dchk 206 = true := by kernel_rfl
theorem c207 : k207.ok Tryz.prog dchk 207 = true := by kernel_rfl
theorem c208 : k208.ok Tryz.prog dchk 208 = true := by kernel_rfl
theorem c209 : k209.ok Tryz.prog dchk 209 = true := by kernel_rfl
theorem c210 : k210.ok Tryz.prog dchk 210 = true := by kernel_rfl
theorem c217 : k217.ok Tryz.prog dchk 217 = true := by kernel_rfl
theorem c218 : k218.ok Tryz.prog dchk 218 = true := by kernel_rfl
theorem c219 : k219.ok Tryz.prog dchk 219 = true := by kernel_rfl
theorem c220 : k220.ok Tryz.prog dchk 220 = true := by kernel_rfl
theorem c221 : k221.ok Tryz.prog dchk 221 = true := by kernel_rfl
theorem c222 : k222.ok Tryz.prog dchk 222 = true := by kernel_rfl
theorem c223 : k223.ok Tryz.prog dchk 223 = true := by kernel_rfl
theorem c224 : k224.ok Tryz.prog dchk 224 = true := by kernel_rfl
theorem c225 : k225.ok Tryz.prog dchk 225 = true := by kernel_rfl
theorem c226 : k226.ok Tryz.prog dchk 226 = true := by kernel_rfl
theorem c227 : k227.ok Tryz.prog dchk 227 = true := by kernel_rfl
theorem c228 : k228.ok Tryz.prog dchk 228 = true := by kernel_rfl
theorem c229 : k229.ok Tryz.prog dchk 229 = true := by kernel_rfl
theorem c230 : k230.ok Tryz.prog dchk 230 = true := by kernel_rfl
theorem c231 : k231.ok Tryz.prog dchk 231 = true := by kernel_rfl
theorem c232 : k232.ok Tryz.prog dchk 232 = true := by kernel_rfl
theorem c233 : k233.ok Tryz.prog dchk 233 = true := by kernel_rfl
theorem c234 : k234.ok Tryz.prog dchk 234 = true := by kernel_rfl
theorem c235 : k235.ok Tryz.prog dchk 235 = true := by kernel_rfl
theorem c236 : k236.ok Tryz.prog dchk 236 = true := by kernel_rfl
theorem c237 : k237.ok Tryz.prog dchk 237 = true := by kernel_rfl
theorem c238 : k238.ok Tryz.prog dchk 238 = true := by kernel_rfl
theorem c239 : k239.ok Tryz.prog dchk 239 = true := by kernel_rfl
theorem c240 : k240.ok Tryz.prog dchk 240 = true := by kernel_rfl
theorem c241 : k241.ok Tryz.prog dchk 241 = true := by kernel_rfl
theorem c242 : k242.ok Tryz.prog dchk 242 = true := by kernel_rfl
theorem c243 : k243.ok Tryz.prog dchk 243 = true := by kernel_rfl
theorem c244 : k244.ok Tryz.prog dchk 244 = true := by kernel_rfl
theorem c245 : k245.ok Tryz.prog dchk 245 = true := by kernel_rfl
theorem c246 : k246.ok Tryz.prog dchk 246 = true := by kernel_rfl
theorem c250 : k250.ok Tryz.prog dchk 250 = true := by kernel_rfl
theorem c251 : k251.ok Tryz.prog dchk 251 = true := by kernel_rfl
theorem c252 : k252.ok Tryz.prog dchk 252 = true := by kernel_rfl
theorem c253 : k253.ok Tryz.prog dchk 253 = true := by kernel_rfl
theorem c254 : k254.ok Tryz.prog dchk 254 = true := by kernel_rfl
theorem c255 : k255.ok Tryz.prog dchk 255 = true := by kernel_rfl
theorem c256 : k256.ok Tryz.prog dchk 256 = true := by kernel_rfl
theorem c257 : k257.ok Tryz.prog dchk 257 = true := by kernel_rfl
theorem c258 : k258.ok Tryz.prog dchk 258 = true := by kernel_rfl
theorem c259 : k259.ok Tryz.prog dchk 259 = true := by kernel_rfl
theorem c260 : k260.ok Tryz.prog dchk 260 = true := by kernel_rfl
theorem c261 : k261.ok Tryz.prog dchk 261 = true := by kernel_rfl
theorem c262 : k262.ok Tryz.prog dchk 262 = true := by kernel_rfl
theorem c263 : k263.ok Tryz.prog dchk 263 = true := by kernel_rfl
theorem c264 : k264.ok Tryz.prog dchk 264 = true := by kernel_rfl
theorem c265 : k265.ok Tryz.prog dchk 265 = true := by kernel_rfl
theorem c266 : k266.ok Tryz.prog dchk 266 = true := by kernel_rfl
theorem c277 : k277.ok Tryz.prog dchk 277 = true := by kernel_rfl
theorem c278 : k278.ok Tryz.prog dchk 278 = true := by kernel_rfl
theorem c279 : k279.ok Tryz.prog dchk 279 = true := by kernel_rfl
theorem c280 : k280.ok Tryz.prog dchk 280 = true := by kernel_rfl
theorem c282 : k282.ok Tryz.prog dchk 282 = true := by kernel_rfl
theorem c283 : k283.ok Tryz.prog dchk 283 = true := by kernel_rfl
theorem c284 : k284.ok Tryz.prog dchk 284 = true := by kernel_rfl
theorem c285 : k285.ok Tryz.prog dchk 285 = true := by kernel_rfl
theorem c289 : k289.ok Tryz.prog dchk 289 = true := by kernel_rfl
theorem c290 : k290.ok Tryz.prog dchk 290 = true := by kernel_rfl
theorem c292 : k292.ok Tryz.prog dchk 292 = true := by kernel_rfl
theorem e14 : (fun F => k14.body.den F) = d14 := by kernel_rfl
theorem e16 : (fun F => k16.body.den F) = d16 := by kernel_rfl
theorem e17 : (fun F => k17.body.den F) = d17 := by kernel_rfl
theorem e18 : (fun F => k18.body.den F) = d18 := by kernel_rfl
theorem e24 : (fun F => k24.body.den F) = d24 := by kernel_rfl
theorem e29 : (fun F => k29.body.den F) = d29 := by kernel_rfl
theorem e31 : (fun F => k31.body.den F) = d31 := by kernel_rfl
theorem e36 : (fun F => k36.body.den F) = d36 := by kernel_rfl
theorem e42 : (fun F => k42.body.den F) = d42 := by kernel_rfl
theorem e43 : (fun F => k43.body.den F) = d43 := by kernel_rfl
theorem e44 : (fun F => k44.body.den F) = d44 := by kernel_rfl
theorem e48 : (fun F => k48.body.den F) = d48 := by kernel_rfl
theorem e62 : (fun F => k62.body.den F) = d62 := by kernel_rfl
theorem e63 : (fun F => k63.body.den F) = d63 := by kernel_rfl
theorem e64 : (fun F => k64.body.den F) = d64 := by kernel_rfl
theorem e65 : (fun F => k65.body.den F) = d65 := by kernel_rfl
theorem e66 : (fun F => k66.body.den F) = d66 := by kernel_rfl
theorem e67 : (fun F => k67.body.den F) = d67 := by kernel_rfl
theorem e68 : (fun F => k68.body.den F) = d68 := by kernel_rfl
theorem e69 : (fun F => k69.body.den F) = d69 := by kernel_rfl
theorem e70 : (fun F => k70.body.den F) = d70 := by kernel_rfl
theorem e76 : (fun F => k76.body.den F) = d76 := by kernel_rfl
theorem e79 : (fun F => k79.body.den F) = d79 := by kernel_rfl
theorem e86 : (fun F => k86.body.den F) = d86 := by kernel_rfl
theorem e87 : (fun F => k87.body.den F) = d87 := by kernel_rfl
theorem e88 : (fun F => k88.body.den F) = d88 := by kernel_rfl
theorem e89 : (fun F => k89.body.den F) = d89 := by kernel_rfl
theorem e95 : (fun F => k95.body.den F) = d95 := by kernel_rfl
theorem e110 : (fun F => k110.body.den F) = d110 := by kernel_rfl
theorem e113 : (fun F => k113.body.den F) = d113 := by kernel_rfl
theorem e114 : (fun F => k114.body.den F) = d114 := by kernel_rfl
theorem e116 : (fun F => k116.body.den F) = d116 := by kernel_rfl
theorem e117 : (fun F => k117.body.den F) = d117 := by kernel_rfl
theorem e122 : (fun F => k122.body.den F) = d122 := by kernel_rfl
theorem e128 : (fun F => k128.body.den F) = d128 := by kernel_rfl
theorem e129 : (fun F => k129.body.den F) = d129 := by kernel_rfl
theorem e133 : (fun F => k133.body.den F) = d133 := by kernel_rfl
theorem e134 : (fun F => k134.body.den F) = d134 := by kernel_rfl
theorem e135 : (fun F => k135.body.den F) = d135 := by kernel_rfl
theorem e153 : (fun F => k153.body.den F) = d153 := by kernel_rfl
theorem e155 : (fun F => k155.body.den F) = d155 := by kernel_rfl
theorem e159 : (fun F => k159.body.den F) = d159 := by kernel_rfl
theorem e162 : (fun F => k162.body.den F) = d162 := by kernel_rfl
theorem e163 : (fun F => k163.body.den F) = d163 := by kernel_rfl
theorem e165 : (fun F => k165.body.den F) = d165 := by kernel_rfl
theorem e166 : (fun F => k166.body.den F) = d166 := by kernel_rfl
theorem e168 : (fun F => k168.body.den F) = d168 := by kernel_rfl
theorem e169 : (fun F => k169.body.den F) = d169 := by kernel_rfl
theorem e170 : (fun F => k170.body.den F) = d170 := by kernel_rfl
theorem e178 : (fun F => k178.body.den F) = d178 := by kernel_rfl
theorem e179 : (fun F => k179.body.den F) = d179 := by kernel_rfl
theorem e191 : (fun F => k191.body.den F) = d191 := by kernel_rfl
theorem e192 : (fun F => k192.body.den F) = d192 := by kernel_rfl
theorem e196 : (fun F => k196.body.den F) = d196 := by kernel_rfl
theorem e197 : (fun F => k197.body.den F) = d197 := by kernel_rfl
theorem e199 : (fun F => k199.body.den F) = d199 := by kernel_rfl
theorem e210 : (fun F => k210.body.den F) = d210 := by kernel_rfl
theorem mixed : Tryz.prog.follows .mixedOrders = true := by kernel_rfl
end Go.Ab.Tryz
