/- Made by program: the K code is the program. -/
import Derived.Test.YtcmfmnoamiibeaaGreatDoorExKg0
import Derived.Test.YtcmfmnoamiibeaaGreatDoorProg
import Derived.KernelRfl
namespace Go.Ab.Tryz
open Go Go.Ab Go.Proofs
theorem c5 : k5.ok Tryz.prog dchk 5 = true := by kernel_rfl
theorem c14 : k14.ok Tryz.prog dchk 14 = true := by kernel_rfl
theorem c16 : k16.ok Tryz.prog dchk 16 = true := by kernel_rfl
theorem c19 : k19.ok Tryz.prog dchk 19 = true := by kernel_rfl
theorem c20 : k20.ok Tryz.prog dchk 20 = true := by kernel_rfl
theorem c21 : k21.ok Tryz.prog dchk 21 = true := by kernel_rfl
theorem c25 : k25.ok Tryz.prog dchk 25 = true := by kernel_rfl
theorem c26 : k26.ok Tryz.prog dchk 26 = true := by kernel_rfl
theorem c27 : k27.ok Tryz.prog dchk 27 = true := by kernel_rfl
theorem c28 : k28.ok Tryz.prog dchk 28 = true := by kernel_rfl
theorem c29 : k29.ok Tryz.prog dchk 29 = true := by kernel_rfl
theorem c30 : k30.ok Tryz.prog dchk 30 = true := by kernel_rfl
theorem c31 : k31.ok Tryz.prog dchk 31 = true := by kernel_rfl
theorem c32 : k32.ok Tryz.prog dchk 32 = true := by kernel_rfl
theorem c33 : k33.ok Tryz.prog dchk 33 = true := by kernel_rfl
theorem c42 : k42.ok Tryz.prog dchk 42 = true := by kernel_rfl
theorem c44 : k44.ok Tryz.prog dchk 44 = true := by kernel_rfl
theorem c46 : k46.ok Tryz.prog dchk 46 = true := by kernel_rfl
theorem c49 : k49.ok Tryz.prog dchk 49 = true := by kernel_rfl
theorem c55 : k55.ok Tryz.prog dchk 55 = true := by kernel_rfl
theorem c56 : k56.ok Tryz.prog dchk 56 = true := by kernel_rfl
theorem c57 : k57.ok Tryz.prog dchk 57 = true := by kernel_rfl
theorem c58 : k58.ok Tryz.prog dchk 58 = true := by kernel_rfl
theorem c59 : k59.ok Tryz.prog dchk 59 = true := by kernel_rfl
theorem c60 : k60.ok Tryz.prog dchk 60 = true := by kernel_rfl
theorem c61 : k61.ok Tryz.prog dchk 61 = true := by kernel_rfl
theorem c62 : k62.ok Tryz.prog dchk 62 = true := by kernel_rfl
theorem c63 : k63.ok Tryz.prog dchk 63 = true := by kernel_rfl
theorem c64 : k64.ok Tryz.prog dchk 64 = true := by kernel_rfl
theorem c65 : k65.ok Tryz.prog dchk 65 = true := by kernel_rfl
theorem c69 : k69.ok Tryz.prog dchk 69 = true := by kernel_rfl
theorem c71 : k71.ok Tryz.prog dchk 71 = true := by kernel_rfl
theorem c75 : k75.ok Tryz.prog dchk 75 = true := by kernel_rfl
theorem c76 : k76.ok Tryz.prog dchk 76 = true := by kernel_rfl
theorem c77 : k77.ok Tryz.prog dchk 77 = true := by kernel_rfl
theorem c78 : k78.ok Tryz.prog dchk 78 = true := by kernel_rfl
theorem c79 : k79.ok Tryz.prog dchk 79 = true := by kernel_rfl
theorem c80 : k80.ok Tryz.prog dchk 80 = true := by kernel_rfl
theorem c81 : k81.ok Tryz.prog dchk 81 = true := by kernel_rfl
theorem c83 : k83.ok Tryz.prog dchk 83 = true := by kernel_rfl
theorem c86 : k86.ok Tryz.prog dchk 86 = true := by kernel_rfl
theorem c87 : k87.ok Tryz.prog dchk 87 = true := by kernel_rfl
theorem c88 : k88.ok Tryz.prog dchk 88 = true := by kernel_rfl
theorem c89 : k89.ok Tryz.prog dchk 89 = true := by kernel_rfl
theorem c90 : k90.ok Tryz.prog dchk 90 = true := by kernel_rfl
theorem c91 : k91.ok Tryz.prog dchk 91 = true := by kernel_rfl
theorem c92 : k92.ok Tryz.prog dchk 92 = true := by kernel_rfl
theorem c93 : k93.ok Tryz.prog dchk 93 = true := by kernel_rfl
theorem c94 : k94.ok Tryz.prog dchk 94 = true := by kernel_rfl
theorem c95 : k95.ok Tryz.prog dchk 95 = true := by kernel_rfl
theorem c99 : k99.ok Tryz.prog dchk 99 = true := by kernel_rfl
theorem c100 : k100.ok Tryz.prog dchk 100 = true := by kernel_rfl
theorem c106 : k106.ok Tryz.prog dchk 106 = true := by kernel_rfl
theorem c107 : k107.ok Tryz.prog dchk 107 = true := by kernel_rfl
theorem c108 : k108.ok Tryz.prog dchk 108 = true := by kernel_rfl
theorem c109 : k109.ok Tryz.prog dchk 109 = true := by kernel_rfl
theorem c110 : k110.ok Tryz.prog dchk 110 = true := by kernel_rfl
theorem c111 : k111.ok Tryz.prog dchk 111 = true := by kernel_rfl
theorem c112 : k112.ok Tryz.prog dchk 112 = true := by kernel_rfl
theorem c113 : k113.ok Tryz.prog dchk 113 = true := by kernel_rfl
theorem c114 : k114.ok Tryz.prog dchk 114 = true := by kernel_rfl
theorem c115 : k115.ok Tryz.prog dchk 115 = true := by kernel_rfl
theorem c116 : k116.ok Tryz.prog dchk 116 = true := by kernel_rfl
theorem c119 : k119.ok Tryz.prog dchk 119 = true := by kernel_rfl
theorem c120 : k120.ok Tryz.prog dchk 120 = true := by kernel_rfl
theorem c121 : k121.ok Tryz.prog dchk 121 = true := by kernel_rfl
theorem c128 : k128.ok Tryz.prog dchk 128 = true := by kernel_rfl
theorem c129 : k129.ok Tryz.prog dchk 129 = true := by kernel_rfl
theorem c130 : k130.ok Tryz.prog dchk 130 = true := by kernel_rfl
theorem c131 : k131.ok Tryz.prog dchk 131 = true := by kernel_rfl
theorem c132 : k132.ok Tryz.prog dchk 132 = true := by kernel_rfl
theorem c137 : k137.ok Tryz.prog dchk 137 = true := by kernel_rfl
theorem c138 : k138.ok Tryz.prog dchk 138 = true := by kernel_rfl
theorem c139 : k139.ok Tryz.prog dchk 139 = true := by kernel_rfl
theorem c140 : k140.ok Tryz.prog dchk 140 = true := by kernel_rfl
theorem c141 : k141.ok Tryz.prog dchk 141 = true := by kernel_rfl
theorem c143 : k143.ok Tryz.prog dchk 143 = true := by kernel_rfl
theorem c144 : k144.ok Tryz.prog dchk 144 = true := by kernel_rfl
theorem c145 : k145.ok Tryz.prog dchk 145 = true := by kernel_rfl
theorem c146 : k146.ok Tryz.prog dchk 146 = true := by kernel_rfl
theorem c147 : k147.ok Tryz.prog dchk 147 = true := by kernel_rfl
theorem c148 : k148.ok Tryz.prog dchk 148 = true := by kernel_rfl
theorem c149 : k149.ok Tryz.prog dchk 149 = true := by kernel_rfl
theorem c150 : k150.ok Tryz.prog dchk 150 = true := by kernel_rfl
theorem c158 : k158.ok Tryz.prog dchk 158 = true := by kernel_rfl
theorem c159 : k159.ok Tryz.prog dchk 159 = true := by kernel_rfl
theorem c160 : k160.ok Tryz.prog dchk 160 = true := by kernel_rfl
theorem c161 : k161.ok Tryz.prog dchk 161 = true := by kernel_rfl
theorem c162 : k162.ok Tryz.prog dchk 162 = true := by kernel_rfl
theorem c163 : k163.ok Tryz.prog dchk 163 = true := by kernel_rfl
theorem c164 : k164.ok Tryz.prog dchk 164 = true := by kernel_rfl
theorem c165 : k165.ok Tryz.prog dchk 165 = true := by kernel_rfl
theorem c166 : k166.ok Tryz.prog dchk 166 = true := by kernel_rfl
theorem c167 : k167.ok Tryz.prog dchk 167 = true := by kernel_rfl
theorem c168 : k168.ok Tryz.prog dchk 168 = true := by kernel_rfl
theorem c169 : k169.ok Tryz.prog dchk 169 = true := by kernel_rfl
theorem c170 : k170.ok Tryz.prog dchk 170 = true := by kernel_rfl
theorem c171 : k171.ok Tryz.prog dchk 171 = true := by kernel_rfl
theorem c172 : k172.ok Tryz.prog dchk 172 = true := by kernel_rfl
theorem c173 : k173.ok Tryz.prog dchk 173 = true := by kernel_rfl
theorem c174 : k174.ok Tryz.prog dchk 174 = true := by kernel_rfl
theorem c175 : k175.ok Tryz.prog dchk 175 = true := by kernel_rfl
theorem c176 : k176.ok Tryz.prog dchk 176 = true := by kernel_rfl
theorem c177 : k177.ok Tryz.prog dchk 177 = true := by kernel_rfl
theorem c178 : k178.ok Tryz.prog dchk 178 = true := by kernel_rfl
theorem c181 : k181.ok Tryz.prog dchk 181 = true := by kernel_rfl
theorem c182 : k182.ok Tryz.prog dchk 182 = true := by kernel_rfl
theorem c183 : k183.okN Tryz.prog dchk 183 n183 = true := by kernel_rfl
theorem c184 : k184.ok Tryz.prog dchk 184 = true := by kernel_rfl
theorem c185 : k185.ok Tryz.prog dchk 185 = true := by kernel_rfl
theorem c187 : k187.ok Tryz.prog dchk 187 = true := by kernel_rfl
theorem c188 : k188.ok Tryz.prog dchk 188 = true := by kernel_rfl
theorem c193 : k193.ok Tryz.prog dchk 193 = true := by kernel_rfl
theorem c194 : k194.ok Tryz.prog dchk 194 = true := by kernel_rfl
theorem c195 : k195.ok Tryz.prog dchk 195 = true := by kernel_rfl
theorem c196 : k196.ok Tryz.prog dchk 196 = true := by kernel_rfl
theorem c197 : k197.ok Tryz.prog dchk 197 = true := by kernel_rfl
theorem c215 : k215.ok Tryz.prog dchk 215 = true := by kernel_rfl
theorem c216 : k216.ok Tryz.prog dchk 216 = true := by kernel_rfl
theorem c217 : k217.ok Tryz.prog dchk 217 = true := by kernel_rfl
theorem c218 : k218.ok Tryz.prog dchk 218 = true := by kernel_rfl
theorem c219 : k219.ok Tryz.prog dchk 219 = true := by kernel_rfl
theorem c220 : k220.ok Tryz.prog dchk 220 = true := by kernel_rfl
theorem c221 : k221.ok Tryz.prog dchk 221 = true := by kernel_rfl
theorem c222 : k222.ok Tryz.prog dchk 222 = true := by kernel_rfl
theorem c223 : k223.ok Tryz.prog dchk 223 = true := by kernel_rfl
theorem c224 : k224.ok Tryz.prog dchk 224 = true := by kernel_rfl
theorem c225 : k225.ok Tryz.prog dchk 225 = true := by kernel_rfl
theorem c226 : k226.ok Tryz.prog dchk 226 = true := by kernel_rfl
theorem c227 : k227.ok Tryz.prog dchk 227 = true := by kernel_rfl
theorem c228 : k228.ok Tryz.prog dchk 228 = true := by kernel_rfl
theorem c229 : k229.ok Tryz.prog dchk 229 = true := by kernel_rfl
theorem c230 : k230.ok Tryz.prog dchk 230 = true := by kernel_rfl
theorem c231 : k231.ok Tryz.prog dchk 231 = true := by kernel_rfl
theorem c232 : k232.ok Tryz.prog dchk 232 = true := by kernel_rfl
theorem c234 : k234.ok Tryz.prog dchk 234 = true := by kernel_rfl
theorem c235 : k235.ok Tryz.prog dchk 235 = true := by kernel_rfl
theorem c236 : k236.ok Tryz.prog dchk 236 = true := by kernel_rfl
theorem c237 : k237.ok Tryz.prog dchk 237 = true := by kernel_rfl
theorem c238 : k238.ok Tryz.prog dchk 238 = true := by kernel_rfl
theorem c242 : k242.ok Tryz.prog dchk 242 = true := by kernel_rfl
theorem c243 : k243.ok Tryz.prog dchk 243 = true := by kernel_rfl
theorem c244 : k244.ok Tryz.prog dchk 244 = true := by kernel_rfl
theorem c245 : k245.ok Tryz.prog dchk 245 = true := by kernel_rfl
theorem c246 : k246.ok Tryz.prog dchk 246 = true := by kernel_rfl
theorem c247 : k247.ok Tryz.prog dchk 247 = true := by kernel_rfl
theorem c257 : k257.ok Tryz.prog dchk 257 = true := by kernel_rfl
theorem c258 : k258.ok Tryz.prog dchk 258 = true := by kernel_rfl
theorem c259 : k259.ok Tryz.prog dchk 259 = true := by kernel_rfl
theorem c260 : k260.ok Tryz.prog dchk 260 = true := by kernel_rfl
theorem c261 : k261.ok Tryz.prog dchk 261 = true := by kernel_rfl
theorem c264 : k264.ok Tryz.prog dchk 264 = true := by kernel_rfl
theorem c265 : k265.ok Tryz.prog dchk 265 = true := by kernel_rfl
theorem c266 : k266.ok Tryz.prog dchk 266 = true := by kernel_rfl
theorem c267 : k267.ok Tryz.prog dchk 267 = true := by kernel_rfl
theorem c268 : k268.ok Tryz.prog dchk 268 = true := by kernel_rfl
theorem c269 : k269.ok Tryz.prog dchk 269 = true := by kernel_rfl
theorem c272 : k272.ok Tryz.prog dchk 272 = true := by kernel_rfl
theorem c273 : k273.ok Tryz.prog dchk 273 = true := by kernel_rfl
theorem c274 : k274.ok Tryz.prog dchk 274 = true := by kernel_rfl
theorem c275 : k275.ok Tryz.prog dchk 275 = true := by kernel_rfl
theorem c276 : k276.ok Tryz.prog dchk 276 = true := by kernel_rfl
theorem c277 : k277.ok Tryz.prog dchk 277 = true := by kernel_rfl
theorem c278 : k278.ok Tryz.prog dchk 278 = true := by kernel_rfl
theorem c279 : k279.ok Tryz.prog dchk 279 = true := by kernel_rfl
theorem c280 : k280.ok Tryz.prog dchk 280 = true := by kernel_rfl
theorem c281 : k281.ok Tryz.prog dchk 281 = true := by kernel_rfl
theorem c282 : k282.ok Tryz.prog dchk 282 = true := by kernel_rfl
theorem c285 : k285.ok Tryz.prog dchk 285 = true := by kernel_rfl
theorem c286 : k286.ok Tryz.prog dchk 286 = true := by kernel_rfl
theorem c287 : k287.ok Tryz.prog dchk 287 = true := by kernel_rfl
theorem c291 : k291.ok Tryz.prog dchk 291 = true := by kernel_rfl
theorem c295 : k295.ok Tryz.prog dchk 295 = true := by kernel_rfl
theorem c296 : k296.ok Tryz.prog dchk 296 = true := by kernel_rfl
theorem c297 : k297.ok Tryz.prog dchk 297 = true := by kernel_rfl
theorem c298 : k298.ok Tryz.prog dchk 298 = true := by kernel_rfl
theorem c299 : k299.ok Tryz.prog dchk 299 = true := by kernel_rfl
theorem c303 : k303.ok Tryz.prog dchk 303 = true := by kernel_rfl
theorem c304 : k304.ok Tryz.prog dchk 304 = true := by kernel_rfl
theorem c305 : k305.ok Tryz.prog dchk 305 = true := by kernel_rfl
theorem c306 : k306.ok Tryz.prog dchk 306 = true := by kernel_rfl
theorem c309 : k309.ok Tryz.prog dchk 309 = true := by kernel_rfl
theorem c310 : k310.ok Tryz.prog dchk 310 = true := by kernel_rfl
theorem c311 : k311.ok Tryz.prog dchk 311 = true := by kernel_rfl
theorem c312 : k312.ok Tryz.prog dchk 312 = true := by kernel_rfl
theorem c313 : k313.ok Tryz.prog dchk 313 = true := by kernel_rfl
theorem c314 : k314.ok Tryz.prog dchk 314 = true := by kernel_rfl
theorem c318 : k318.ok Tryz.prog dchk 318 = true := by kernel_rfl
theorem c322 : k322.ok Tryz.prog dchk 322 = true := by kernel_rfl
theorem c323 : k323.ok Tryz.prog dchk 323 = true := by kernel_rfl
theorem c325 : k325.ok Tryz.prog dchk 325 = true := by kernel_rfl
theorem c326 : k326.ok Tryz.prog dchk 326 = true := by kernel_rfl
theorem c331 : k331.ok Tryz.prog dchk 331 = true := by kernel_rfl
theorem e16 : (fun F => k16.body.den F) = d16 := by kernel_rfl
theorem e19 : (fun F => k19.body.den F) = d19 := by kernel_rfl
theorem e31 : (fun F => k31.body.den F) = d31 := by kernel_rfl
theorem e32 : (fun F => k32.body.den F) = d32 := by kernel_rfl
theorem e33 : (fun F => k33.body.den F) = d33 := by kernel_rfl
theorem e57 : (fun F => k57.body.den F) = d57 := by kernel_rfl
theorem e59 : (fun F => k59.body.den F) = d59 := by kernel_rfl
theorem e60 : (fun F => k60.body.den F) = d60 := by kernel_rfl
theorem e61 : (fun F => k61.body.den F) = d61 := by kernel_rfl
theorem e63 : (fun F => k63.body.den F) = d63 := by kernel_rfl
theorem e65 : (fun F => k65.body.den F) = d65 := by kernel_rfl
theorem e69 : (fun F => k69.body.den F) = d69 := by kernel_rfl
theorem e71 : (fun F => k71.body.den F) = d71 := by kernel_rfl
theorem e79 : (fun F => k79.body.den F) = d79 := by kernel_rfl
theorem e80 : (fun F => k80.body.den F) = d80 := by kernel_rfl
theorem e81 : (fun F => k81.body.den F) = d81 := by kernel_rfl
theorem e83 : (fun F => k83.body.den F) = d83 := by kernel_rfl
theorem e87 : (fun F => k87.body.den F) = d87 := by kernel_rfl
theorem e88 : (fun F => k88.body.den F) = d88 := by kernel_rfl
theorem e89 : (fun F => k89.body.den F) = d89 := by kernel_rfl
theorem e90 : (fun F => k90.body.den F) = d90 := by kernel_rfl
theorem e95 : (fun F => k95.body.den F) = d95 := by kernel_rfl
theorem e99 : (fun F => k99.body.den F) = d99 := by kernel_rfl
theorem e109 : (fun F => k109.body.den F) = d109 := by kernel_rfl
theorem e113 : (fun F => k113.body.den F) = d113 := by kernel_rfl
theorem e114 : (fun F => k114.body.den F) = d114 := by kernel_rfl
theorem e115 : (fun F => k115.body.den F) = d115 := by kernel_rfl
theorem e116 : (fun F => k116.body.den F) = d116 := by kernel_rfl
theorem e119 : (fun F => k119.body.den F) = d119 := by kernel_rfl
theorem e120 : (fun F => k120.body.den F) = d120 := by kernel_rfl
theorem e121 : (fun F => k121.body.den F) = d121 := by kernel_rfl
theorem e132 : (fun F => k132.body.den F) = d132 := by kernel_rfl
theorem e139 : (fun F => k139.body.den F) = d139 := by kernel_rfl
theorem e140 : (fun F => k140.body.den F) = d140 := by kernel_rfl
theorem e144 : (fun F => k144.body.den F) = d144 := by kernel_rfl
theorem e145 : (fun F => k145.body.den F) = d145 := by kernel_rfl
theorem e146 : (fun F => k146.body.den F) = d146 := by kernel_rfl
theorem e147 : (fun F => k147.body.den F) = d147 := by kernel_rfl
theorem e148 : (fun F => k148.body.den F) = d148 := by kernel_rfl
theorem e150 : (fun F => k150.body.den F) = d150 := by kernel_rfl
theorem e159 : (fun F => k159.body.den F) = d159 := by kernel_rfl
theorem e161 : (fun F => k161.body.den F) = d161 := by kernel_rfl
theorem e163 : (fun F => k163.body.den F) = d163 := by kernel_rfl
theorem e164 : (fun F => k164.body.den F) = d164 := by kernel_rfl
theorem e167 : (fun F => k167.body.den F) = d167 := by kernel_rfl
theorem e170 : (fun F => k170.body.den F) = d170 := by kernel_rfl
theorem e171 : (fun F => k171.body.den F) = d171 := by kernel_rfl
theorem e172 : (fun F => k172.body.den F) = d172 := by kernel_rfl
theorem e173 : (fun F => k173.body.den F) = d173 := by kernel_rfl
theorem e174 : (fun F => k174.body.den F) = d174 := by kernel_rfl
theorem e176 : (fun F => k176.body.den F) = d176 := by kernel_rfl
theorem e177 : (fun F => k177.body.den F) = d177 := by kernel_rfl
theorem e178 : (fun F => k178.body.den F) = d178 := by kernel_rfl
theorem e187 : (fun F => k187.body.den F) = d187 := by kernel_rfl
theorem e188 : (fun F => k188.body.den F) = d188 := by kernel_rfl
theorem e196 : (fun F => k196.body.den F) = d196 := by kernel_rfl
theorem e197 : (fun F => k197.body.den F) = d197 := by kernel_rfl
theorem e218 : (fun F => k218.body.den F) = d218 := by kernel_rfl
theorem e219 : (fun F => k219.body.den F) = d219 := by kernel_rfl
theorem e223 : (fun F => k223.body.den F) = d223 := by kernel_rfl
theorem e224 : (fun F => k224.body.den F) = d224 := by kernel_rfl
theorem e225 : (fun F => k225.body.den F) = d225 := by kernel_rfl
theorem e226 : (fun F => k226.body.den F) = d226 := by kernel_rfl
theorem e227 : (fun F => k227.body.den F) = d227 := by kernel_rfl
theorem e228 : (fun F => k228.body.den F) = d228 := by kernel_rfl
theorem e230 : (fun F => k230.body.den F) = d230 := by kernel_rfl
theorem e231 : (fun F => k231.body.den F) = d231 := by kernel_rfl
theorem e232 : (fun F => k232.body.den F) = d232 := by kernel_rfl
theorem e234 : (fun F => k234.body.den F) = d234 := by kernel_rfl
theorem e238 : (fun F => k238.body.den F) = d238 := by kernel_rfl
theorem e245 : (fun F => k245.body.den F) = d245 := by kernel_rfl
theorem e246 : (fun F => k246.body.den F) = d246 := by kernel_rfl
theorem e247 : (fun F => k247.body.den F) = d247 := by kernel_rfl
theorem e265 : (fun F => k265.body.den F) = d265 := by kernel_rfl
theorem e269 : (fun F => k269.body.den F) = d269 := by kernel_rfl
theorem e279 : (fun F => k279.body.den F) = d279 := by kernel_rfl
theorem e280 : (fun F => k280.body.den F) = d280 := by kernel_rfl
theorem e281 : (fun F => k281.body.den F) = d281 := by kernel_rfl
theorem e286 : (fun F => k286.body.den F) = d286 := by kernel_rfl
theorem e305 : (fun F => k305.body.den F) = d305 := by kernel_rfl
theorem e306 : (fun F => k306.body.den F) = d306 := by kernel_rfl
theorem e312 : (fun F => k312.body.den F) = d312 := by kernel_rfl
theorem mixed : Tryz.prog.follows .mixedOrders = true := by kernel_rfl
end Go.Ab.Tryz
