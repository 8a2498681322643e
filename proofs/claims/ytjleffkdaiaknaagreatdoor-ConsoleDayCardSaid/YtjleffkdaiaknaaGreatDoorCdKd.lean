/- Made by program: the K code is the program. -/
import Derived.Test.YtjleffkdaiaknaaGreatDoorCdKg0
import Derived.Test.YtjleffkdaiaknaaGreatDoorProg
import Derived.KernelRfl
namespace Go.Ab.Tryz
open Go Go.Ab Go.Proofs
theorem c4 : k4.ok Tryz.prog dchk 4 = true := by kernel_rfl
theorem c5 : k5.ok Tryz.prog dchk 5 = true := by kernel_rfl
theorem c6 : k6.ok Tryz.prog dchk 6 = true := by kernel_rfl
theorem c7 : k7.ok Tryz.prog dchk 7 = true := by kernel_rfl
theorem c8 : k8.ok Tryz.prog dchk 8 = true := by kernel_rfl
theorem c9 : k9.ok Tryz.prog dchk 9 = true := by kernel_rfl
theorem c10 : k10.ok Tryz.prog dchk 10 = true := by kernel_rfl
theorem c11 : k11.ok Tryz.prog dchk 11 = true := by kernel_rfl
theorem c12 : k12.ok Tryz.prog dchk 12 = true := by kernel_rfl
theorem c13 : k13.ok Tryz.prog dchk 13 = true := by kernel_rfl
theorem c14 : k14.ok Tryz.prog dchk 14 = true := by kernel_rfl
theorem c15 : k15.ok Tryz.prog dchk 15 = true := by kernel_rfl
theorem c16 : k16.ok Tryz.prog dchk 16 = true := by kernel_rfl
theorem c17 : k17.ok Tryz.prog dchk 17 = true := by kernel_rfl
theorem c18 : k18.ok Tryz.prog dchk 18 = true := by kernel_rfl
theorem c19 : k19.ok Tryz.prog dchk 19 = true := by kernel_rfl
theorem c20 : k20.ok Tryz.prog dchk 20 = true := by kernel_rfl
theorem c21 : k21.ok Tryz.prog dchk 21 = true := by kernel_rfl
theorem c22 : k22.ok Tryz.prog dchk 22 = true := by kernel_rfl
theorem c23 : k23.ok Tryz.prog dchk 23 = true := by kernel_rfl
theorem c24 : k24.ok Tryz.prog dchk 24 = true := by kernel_rfl
theorem c25 : k25.ok Tryz.prog dchk 25 = true := by kernel_rfl
theorem c26 : k26.ok Tryz.prog dchk 26 = true := by kernel_rfl
theorem c27 : k27.ok Tryz.prog dchk 27 = true := by kernel_rfl
theorem c28 : k28.ok Tryz.prog dchk 28 = true := by kernel_rfl
theorem c29 : k29.ok Tryz.prog dchk 29 = true := by kernel_rfl
theorem c30 : k30.ok Tryz.prog dchk 30 = true := by kernel_rfl
theorem c31 : k31.ok Tryz.prog dchk 31 = true := by kernel_rfl
theorem c32 : k32.ok Tryz.prog dchk 32 = true := by kernel_rfl
theorem c34 : k34.ok Tryz.prog dchk 34 = true := by kernel_rfl
theorem c35 : k35.ok Tryz.prog dchk 35 = true := by kernel_rfl
theorem c36 : k36.ok Tryz.prog dchk 36 = true := by kernel_rfl
theorem c37 : k37.ok Tryz.prog dchk 37 = true := by kernel_rfl
theorem c38 : k38.ok Tryz.prog dchk 38 = true := by kernel_rfl
theorem c39 : k39.ok Tryz.prog dchk 39 = true := by kernel_rfl
theorem c41 : k41.ok Tryz.prog dchk 41 = true := by kernel_rfl
theorem c42 : k42.ok Tryz.prog dchk 42 = true := by kernel_rfl
theorem c44 : k44.ok Tryz.prog dchk 44 = true := by kernel_rfl
theorem c45 : k45.ok Tryz.prog dchk 45 = true := by kernel_rfl
theorem c46 : k46.ok Tryz.prog dchk 46 = true := by kernel_rfl
theorem c47 : k47.ok Tryz.prog dchk 47 = true := by kernel_rfl
theorem c48 : k48.ok Tryz.prog dchk 48 = true := by kernel_rfl
theorem c49 : k49.ok Tryz.prog dchk 49 = true := by kernel_rfl
theorem c50 : k50.ok Tryz.prog dchk 50 = true := by kernel_rfl
theorem c51 : k51.ok Tryz.prog dchk 51 = true := by kernel_rfl
theorem c53 : k53.ok Tryz.prog dchk 53 = true := by kernel_rfl
theorem c54 : k54.ok Tryz.prog dchk 54 = true := by kernel_rfl
theorem c55 : k55.ok Tryz.prog dchk 55 = true := by kernel_rfl
theorem c56 : k56.ok Tryz.prog dchk 56 = true := by kernel_rfl
theorem c57 : k57.ok Tryz.prog dchk 57 = true := by kernel_rfl
theorem c58 : k58.ok Tryz.prog dchk 58 = true := by kernel_rfl
theorem c59 : k59.ok Tryz.prog dchk 59 = true := by kernel_rfl
theorem c60 : k60.ok Tryz.prog dchk 60 = true := by kernel_rfl
theorem c61 : k61.ok Tryz.prog dchk 61 = true := by kernel_rfl
theorem c62 : k62.ok Tryz.prog dchk 62 = true := by kernel_rfl
theorem c63 : k63.ok Tryz.prog dchk 63 = true := by kernel_rfl
theorem c64 : k64.ok Tryz.prog dchk 64 = true := by kernel_rfl
theorem c65 : k65.ok Tryz.prog dchk 65 = true := by kernel_rfl
theorem c66 : k66.ok Tryz.prog dchk 66 = true := by kernel_rfl
theorem c70 : k70.ok Tryz.prog dchk 70 = true := by kernel_rfl
theorem c71 : k71.ok Tryz.prog dchk 71 = true := by kernel_rfl
theorem c73 : k73.ok Tryz.prog dchk 73 = true := by kernel_rfl
theorem c79 : k79.ok Tryz.prog dchk 79 = true := by kernel_rfl
theorem c81 : k81.ok Tryz.prog dchk 81 = true := by kernel_rfl
theorem c82 : k82.ok Tryz.prog dchk 82 = true := by kernel_rfl
theorem c83 : k83.ok Tryz.prog dchk 83 = true := by kernel_rfl
theorem c84 : k84.ok Tryz.prog dchk 84 = true := by kernel_rfl
theorem c85 : k85.ok Tryz.prog dchk 85 = true := by kernel_rfl
theorem c86 : k86.ok Tryz.prog dchk 86 = true := by kernel_rfl
theorem c87 : k87.ok Tryz.prog dchk 87 = true := by kernel_rfl
theorem c88 : k88.ok Tryz.prog dchk 88 = true := by kernel_rfl
theorem c89 : k89.ok Tryz.prog dchk 89 = true := by kernel_rfl
theorem c90 : k90.ok Tryz.prog dchk 90 = true := by kernel_rfl
theorem c91 : k91.ok Tryz.prog dchk 91 = true := by kernel_rfl
theorem c92 : k92.ok Tryz.prog dchk 92 = true := by kernel_rfl
theorem c93 : k93.ok Tryz.prog dchk 93 = true := by kernel_rfl
theorem c94 : k94.ok Tryz.prog dchk 94 = true := by kernel_rfl
theorem c95 : k95.ok Tryz.prog dchk 95 = true := by kernel_rfl
theorem c96 : k96.ok Tryz.prog dchk 96 = true := by kernel_rfl
theorem c98 : k98.ok Tryz.prog dchk 98 = true := by kernel_rfl
theorem c99 : k99.ok Tryz.prog dchk 99 = true := by kernel_rfl
theorem c100 : k100.ok Tryz.prog dchk 100 = true := by kernel_rfl
theorem c101 : k101.ok Tryz.prog dchk 101 = true := by kernel_rfl
theorem c102 : k102.ok Tryz.prog dchk 102 = true := by kernel_rfl
theorem c107 : k107.ok Tryz.prog dchk 107 = true := by kernel_rfl
theorem c108 : k108.ok Tryz.prog dchk 108 = true := by kernel_rfl
theorem c109 : k109.ok Tryz.prog dchk 109 = true := by kernel_rfl
theorem c110 : k110.ok Tryz.prog dchk 110 = true := by kernel_rfl
theorem c111 : k111.ok Tryz.prog dchk 111 = true := by kernel_rfl
theorem c112 : k112.ok Tryz.prog dchk 112 = true := by kernel_rfl
theorem c113 : k113.ok Tryz.prog dchk 113 = true := by kernel_rfl
theorem c114 : k114.ok Tryz.prog dchk 114 = true := by kernel_rfl
theorem c115 : k115.ok Tryz.prog dchk 115 = true := by kernel_rfl
theorem c117 : k117.ok Tryz.prog dchk 117 = true := by kernel_rfl
theorem c122 : k122.ok Tryz.prog dchk 122 = true := by kernel_rfl
theorem c123 : k123.ok Tryz.prog dchk 123 = true := by kernel_rfl
theorem c124 : k124.ok Tryz.prog dchk 124 = true := by kernel_rfl
theorem c129 : k129.ok Tryz.prog dchk 129 = true := by kernel_rfl
theorem c130 : k130.ok Tryz.prog dchk 130 = true := by kernel_rfl
theorem c131 : k131.ok Tryz.prog dchk 131 = true := by kernel_rfl
theorem c132 : k132.ok Tryz.prog dchk 132 = true := by kernel_rfl
theorem c133 : k133.ok Tryz.prog dchk 133 = true := by kernel_rfl
theorem c134 : k134.ok Tryz.prog dchk 134 = true := by kernel_rfl
theorem c135 : k135.ok Tryz.prog dchk 135 = true := by kernel_rfl
theorem c136 : k136.ok Tryz.prog dchk 136 = true := by kernel_rfl
theorem c137 : k137.ok Tryz.prog dchk 137 = true := by kernel_rfl
theorem c138 : k138.ok Tryz.prog dchk 138 = true := by kernel_rfl
theorem c139 : k139.ok Tryz.prog dchk 139 = true := by kernel_rfl
theorem c140 : k140.ok Tryz.prog dchk 140 = true := by kernel_rfl
theorem c141 : k141.ok Tryz.prog dchk 141 = true := by kernel_rfl
theorem c142 : k142.ok Tryz.prog dchk 142 = true := by kernel_rfl
theorem c143 : k143.ok Tryz.prog dchk 143 = true := by kernel_rfl
theorem c144 : k144.ok Tryz.prog dchk 144 = true := by kernel_rfl
theorem c145 : k145.ok Tryz.prog dchk 145 = true := by kernel_rfl
theorem c146 : k146.ok Tryz.prog dchk 146 = true := by kernel_rfl
theorem c147 : k147.ok Tryz.prog dchk 147 = true := by kernel_rfl
theorem c149 : k149.ok Tryz.prog dchk 149 = true := by kernel_rfl
theorem c150 : k150.ok Tryz.prog dchk 150 = true := by kernel_rfl
theorem c151 : k151.ok Tryz.prog dchk 151 = true := by kernel_rfl
theorem c152 : k152.ok Tryz.prog dchk 152 = true := by kernel_rfl
theorem c160 : k160.ok Tryz.prog dchk 160 = true := by kernel_rfl
theorem c161 : k161.ok Tryz.prog dchk 161 = true := by kernel_rfl
theorem c162 : k162.ok Tryz.prog dchk 162 = true := by kernel_rfl
theorem c163 : k163.ok Tryz.prog dchk 163 = true := by kernel_rfl
theorem c165 : k165.ok Tryz.prog dchk 165 = true := by kernel_rfl
theorem c166 : k166.ok Tryz.prog dchk 166 = true := by kernel_rfl
theorem c167 : k167.ok Tryz.prog dchk 167 = true := by kernel_rfl
theorem c168 : k168.ok Tryz.prog dchk 168 = true := by kernel_rfl
theorem c170 : k170.ok Tryz.prog dchk 170 = true := by kernel_rfl
theorem c171 : k171.ok Tryz.prog dchk 171 = true := by kernel_rfl
theorem c172 : k172.ok Tryz.prog dchk 172 = true := by kernel_rfl
theorem c173 : k173.ok Tryz.prog dchk 173 = true := by kernel_rfl
theorem c174 : k174.ok Tryz.prog dchk 174 = true := by kernel_rfl
theorem c179 : k179.ok Tryz.prog dchk 179 = true := by kernel_rfl
theorem c180 : k180.ok Tryz.prog dchk 180 = true := by kernel_rfl
theorem c181 : k181.ok Tryz.prog dchk 181 = true := by kernel_rfl
theorem c186 : k186.ok Tryz.prog dchk 186 = true := by kernel_rfl
theorem c187 : k187.ok Tryz.prog dchk 187 = true := by kernel_rfl
theorem c188 : k188.ok Tryz.prog dchk 188 = true := by kernel_rfl
theorem c189 : k189.ok Tryz.prog dchk 189 = true := by kernel_rfl
theorem c190 : k190.ok Tryz.prog dchk 190 = true := by kernel_rfl
theorem c191 : k191.ok Tryz.prog dchk 191 = true := by kernel_rfl
theorem c192 : k192.ok Tryz.prog dchk 192 = true := by kernel_rfl
theorem c193 : k193.ok Tryz.prog dchk 193 = true := by kernel_rfl
theorem c194 : k194.ok Tryz.prog dchk 194 = true := by kernel_rfl
theorem c195 : k195.ok Tryz.prog dchk 195 = true := by kernel_rfl
theorem c196 : k196.ok Tryz.prog dchk 196 = true := by kernel_rfl
theorem c197 : k197.ok Tryz.prog dchk 197 = true := by kernel_rfl
theorem c198 : k198.ok Tryz.prog dchk 198 = true := by kernel_rfl
theorem c199 : k199.ok Tryz.prog dchk 199 = true := by kernel_rfl
theorem c200 : k200.ok Tryz.prog dchk 200 = true := by kernel_rfl
theorem c201 : k201.ok Tryz.prog dchk 201 = true := by kernel_rfl
theorem c202 : k202.ok Tryz.prog dchk 202 = true := by kernel_rfl
theorem c203 : k203.ok Tryz.prog dchk 203 = true := by kernel_rfl
theorem c204 : k204.ok Tryz.prog dchk 204 = true := by kernel_rfl
theorem c205 : k205.ok Tryz.prog dchk 205 = true := by kernel_rfl
theorem c206 : k206.ok Tryz.prog dchk 206 = true := by kernel_rfl
theorem c207 : k207.ok Tryz.prog dchk 207 = true := by kernel_rfl
theorem c208 : k208.ok Tryz.prog dchk 208 = true := by kernel_rfl
theorem c209 : k209.ok Tryz.prog dchk 209 = true := by kernel_rfl
theorem c210 : k210.ok Tryz.prog dchk 210 = true := by kernel_rfl
theorem c211 : k211.ok Tryz.prog dchk 211 = true := by kernel_rfl
theorem c216 : k216.ok Tryz.prog dchk 216 = true := by kernel_rfl
theorem c217 : k217.okN Tryz.prog dchk 217 n217 = true := by kernel_rfl
theorem c218 : k218.ok Tryz.prog dchk 218 = true := by kernel_rfl
theorem c219 : k219.ok Tryz.prog dchk 219 = true := by kernel_rfl
theorem c220 : k220.ok Tryz.prog dchk 220 = true := by kernel_rfl
theorem c221 : k221.ok Tryz.prog dchk 221 = true := by kernel_rfl
theorem c223 : k223.ok Tryz.prog dchk 223 = true := by kernel_rfl
theorem c227 : k227.ok Tryz.prog dchk 227 = true := by kernel_rfl
theorem c228 : k228.ok Tryz.prog dchk 228 = true := by kernel_rfl
theorem c229 : k229.ok Tryz.prog dchk 229 = true := by kernel_rfl
theorem c230 : k230.ok Tryz.prog dchk 230 = true := by kernel_rfl
theorem c231 : k231.ok Tryz.prog dchk 231 = true := by kernel_rfl
theorem c232 : k232.ok Tryz.prog dchk 232 = true := by kernel_rfl
theorem c233 : k233.ok Tryz.prog dchk 233 = true := by kernel_rfl
theorem c235 : k235.ok Tryz.prog dchk 235 = true := by kernel_rfl
theorem c236 : k236.ok Tryz.prog dchk 236 = true := by kernel_rfl
theorem c237 : k237.ok Tryz.prog dchk 237 = true := by kernel_rfl
theorem c238 : k238.ok Tryz.prog dchk 238 = true := by kernel_rfl
theorem c239 : k239.ok Tryz.prog dchk 239 = true := by kernel_rfl
theorem c240 : k240.ok Tryz.prog dchk 240 = true := by kernel_rfl
theorem c241 : k241.ok Tryz.prog dchk 241 = true := by kernel_rfl
theorem c242 : k242.ok Tryz.prog dchk 242 = true := by kernel_rfl
theorem c243 : k243.ok Tryz.prog dchk 243 = true := by kernel_rfl
theorem c244 : k244.ok Tryz.prog dchk 244 = true := by kernel_rfl
theorem c245 : k245.ok Tryz.prog dchk 245 = true := by kernel_rfl
theorem c246 : k246.ok Tryz.prog dchk 246 = true := by kernel_rfl
theorem c247 : k247.ok Tryz.prog dchk 247 = true := by kernel_rfl
theorem c248 : k248.ok Tryz.prog dchk 248 = true := by kernel_rfl
theorem c249 : k249.ok Tryz.prog dchk 249 = true := by kernel_rfl
theorem c250 : k250.ok Tryz.prog dchk 250 = true := by kernel_rfl
theorem c251 : k251.ok Tryz.prog dchk 251 = true := by kernel_rfl
theorem c252 : k252.ok Tryz.prog dchk 252 = true := by kernel_rfl
theorem c253 : k253.ok Tryz.prog dchk 253 = true := by kernel_rfl
theorem c254 : k254.ok Tryz.prog dchk 254 = true := by kernel_rfl
theorem c255 : k255.ok Tryz.prog dchk 255 = true := by kernel_rfl
theorem c256 : k256.ok Tryz.prog dchk 256 = true := by kernel_rfl
theorem c257 : k257.ok Tryz.prog dchk 257 = true := by kernel_rfl
theorem c264 : k264.ok Tryz.prog dchk 264 = true := by kernel_rfl
theorem c265 : k265.ok Tryz.prog dchk 265 = true := by kernel_rfl
theorem c266 : k266.ok Tryz.prog dchk 266 = true := by kernel_rfl
theorem c267 : k267.ok Tryz.prog dchk 267 = true := by kernel_rfl
theorem c268 : k268.ok Tryz.prog dchk 268 = true := by kernel_rfl
theorem c269 : k269.ok Tryz.prog dchk 269 = true := by kernel_rfl
theorem c270 : k270.ok Tryz.prog dchk 270 = true := by kernel_rfl
theorem c271 : k271.ok Tryz.prog dchk 271 = true := by kernel_rfl
theorem c278 : k278.ok Tryz.prog dchk 278 = true := by kernel_rfl
theorem c279 : k279.ok Tryz.prog dchk 279 = true := by kernel_rfl
theorem c280 : k280.ok Tryz.prog dchk 280 = true := by kernel_rfl
theorem c281 : k281.ok Tryz.prog dchk 281 = true := by kernel_rfl
theorem c283 : k283.ok Tryz.prog dchk 283 = true := by kernel_rfl
theorem c285 : k285.ok Tryz.prog dchk 285 = true := by kernel_rfl
theorem c294 : k294.ok Tryz.prog dchk 294 = true := by kernel_rfl
theorem c295 : k295.ok Tryz.prog dchk 295 = true := by kernel_rfl
theorem c296 : k296.ok Tryz.prog dchk 296 = true := by kernel_rfl
theorem c297 : k297.ok Tryz.prog dchk 297 = true := by kernel_rfl
theorem c298 : k298.ok Tryz.prog dchk 298 = true := by kernel_rfl
theorem c299 : k299.ok Tryz.prog dchk 299 = true := by kernel_rfl
theorem c313 : k313.ok Tryz.prog dchk 313 = true := by kernel_rfl
theorem c314 : k314.ok Tryz.prog dchk 314 = true := by kernel_rfl
theorem c315 : k315.ok Tryz.prog dchk 315 = true := by kernel_rfl
theorem c316 : k316.ok Tryz.prog dchk 316 = true := by kernel_rfl
theorem c317 : k317.ok Tryz.prog dchk 317 = true := by kernel_rfl
theorem c320 : k320.ok Tryz.prog dchk 320 = true := by kernel_rfl
theorem c321 : k321.ok Tryz.prog dchk 321 = true := by kernel_rfl
theorem c328 : k328.ok Tryz.prog dchk 328 = true := by kernel_rfl
theorem c329 : k329.ok Tryz.prog dchk 329 = true := by kernel_rfl
theorem c330 : k330.ok Tryz.prog dchk 330 = true := by kernel_rfl
theorem c338 : k338.ok Tryz.prog dchk 338 = true := by kernel_rfl
theorem c339 : k339.ok Tryz.prog dchk 339 = true := by kernel_rfl
theorem c345 : k345.ok Tryz.prog dchk 345 = true := by kernel_rfl
theorem c348 : k348.ok Tryz.prog dchk 348 = true := by kernel_rfl
theorem c350 : k350.okN Tryz.prog dchk 350 n350 = true := by kernel_rfl
theorem c353 : k353.ok Tryz.prog dchk 353 = true := by kernel_rfl
theorem cX : kIdx.ok Tryz.prog dchk 295 = true := by kernel_rfl
theorem e6 : (fun F => k6.body.den F) = d6 := cod_of (by kernel_rfl)
theorem e11 : (fun F => k11.body.den F) = d11 := cod_of (by kernel_rfl)
theorem e12 : (fun F => k12.body.den F) = d12 := cod_of (by kernel_rfl)
theorem e18 : (fun F => k18.body.den F) = d18 := cod_of (by kernel_rfl)
theorem e19 : (fun F => k19.body.den F) = d19 := cod_of (by kernel_rfl)
theorem e22 : (fun F => k22.body.den F) = d22 := cod_of (by kernel_rfl)
theorem e35 : (fun F => k35.body.den F) = d35 := cod_of (by kernel_rfl)
theorem e38 : (fun F => k38.body.den F) = d38 := cod_of (by kernel_rfl)
theorem e39 : (fun F => k39.body.den F) = d39 := cod_of (by kernel_rfl)
theorem e41 : (fun F => k41.body.den F) = d41 := cod_of (by kernel_rfl)
theorem e47 : (fun F => k47.body.den F) = d47 := cod_of (by kernel_rfl)
theorem e50 : (fun F => k50.body.den F) = d50 := cod_of (by kernel_rfl)
theorem e51 : (fun F => k51.body.den F) = d51 := cod_of (by kernel_rfl)
theorem e71 : (fun F => k71.body.den F) = d71 := cod_of (by kernel_rfl)
theorem e73 : (fun F => k73.body.den F) = d73 := cod_of (by kernel_rfl)
theorem e85 : (fun F => k85.body.den F) = d85 := cod_of (by kernel_rfl)
theorem e86 : (fun F => k86.body.den F) = d86 := cod_of (by kernel_rfl)
theorem e87 : (fun F => k87.body.den F) = d87 := cod_of (by kernel_rfl)
theorem e90 : (fun F => k90.body.den F) = d90 := cod_of (by kernel_rfl)
theorem e91 : (fun F => k91.body.den F) = d91 := cod_of (by kernel_rfl)
theorem e94 : (fun F => k94.body.den F) = d94 := cod_of (by kernel_rfl)
theorem e95 : (fun F => k95.body.den F) = d95 := cod_of (by kernel_rfl)
theorem e96 : (fun F => k96.body.den F) = d96 := cod_of (by kernel_rfl)
theorem e98 : (fun F => k98.body.den F) = d98 := cod_of (by kernel_rfl)
theorem e99 : (fun F => k99.body.den F) = d99 := cod_of (by kernel_rfl)
theorem e108 : (fun F => k108.body.den F) = d108 := cod_of (by kernel_rfl)
theorem e110 : (fun F => k110.body.den F) = d110 := cod_of (by kernel_rfl)
theorem e117 : (fun F => k117.body.den F) = d117 := cod_of (by kernel_rfl)
theorem e122 : (fun F => k122.body.den F) = d122 := cod_of (by kernel_rfl)
theorem e131 : (fun F => k131.body.den F) = d131 := cod_of (by kernel_rfl)
theorem e134 : (fun F => k134.body.den F) = d134 := cod_of (by kernel_rfl)
theorem e135 : (fun F => k135.body.den F) = d135 := cod_of (by kernel_rfl)
theorem e136 : (fun F => k136.body.den F) = d136 := cod_of (by kernel_rfl)
theorem e137 : (fun F => k137.body.den F) = d137 := cod_of (by kernel_rfl)
theorem e138 : (fun F => k138.body.den F) = d138 := cod_of (by kernel_rfl)
theorem e141 : (fun F => k141.body.den F) = d141 := cod_of (by kernel_rfl)
theorem e142 : (fun F => k142.body.den F) = d142 := cod_of (by kernel_rfl)
theorem e143 : (fun F => k143.body.den F) = d143 := cod_of (by kernel_rfl)
theorem e144 : (fun F => k144.body.den F) = d144 := cod_of (by kernel_rfl)
theorem e145 : (fun F => k145.body.den F) = d145 := cod_of (by kernel_rfl)
theorem e146 : (fun F => k146.body.den F) = d146 := cod_of (by kernel_rfl)
theorem e149 : (fun F => k149.body.den F) = d149 := cod_of (by kernel_rfl)
theorem e150 : (fun F => k150.body.den F) = d150 := cod_of (by kernel_rfl)
theorem e151 : (fun F => k151.body.den F) = d151 := cod_of (by kernel_rfl)
theorem e152 : (fun F => k152.body.den F) = d152 := cod_of (by kernel_rfl)
theorem e168 : (fun F => k168.body.den F) = d168 := cod_of (by kernel_rfl)
theorem e180 : (fun F => k180.body.den F) = d180 := cod_of (by kernel_rfl)
theorem e188 : (fun F => k188.body.den F) = d188 := cod_of (by kernel_rfl)
theorem e189 : (fun F => k189.body.den F) = d189 := cod_of (by kernel_rfl)
theorem e190 : (fun F => k190.body.den F) = d190 := cod_of (by kernel_rfl)
theorem e191 : (fun F => k191.body.den F) = d191 := cod_of (by kernel_rfl)
theorem e192 : (fun F => k192.body.den F) = d192 := cod_of (by kernel_rfl)
theorem e193 : (fun F => k193.body.den F) = d193 := cod_of (by kernel_rfl)
theorem e194 : (fun F => k194.body.den F) = d194 := cod_of (by kernel_rfl)
theorem e196 : (fun F => k196.body.den F) = d196 := cod_of (by kernel_rfl)
theorem e197 : (fun F => k197.body.den F) = d197 := cod_of (by kernel_rfl)
theorem e198 : (fun F => k198.body.den F) = d198 := cod_of (by kernel_rfl)
theorem e200 : (fun F => k200.body.den F) = d200 := cod_of (by kernel_rfl)
theorem e201 : (fun F => k201.body.den F) = d201 := cod_of (by kernel_rfl)
theorem e202 : (fun F => k202.body.den F) = d202 := cod_of (by kernel_rfl)
theorem e203 : (fun F => k203.body.den F) = d203 := cod_of (by kernel_rfl)
theorem e204 : (fun F => k204.body.den F) = d204 := cod_of (by kernel_rfl)
theorem e205 : (fun F => k205.body.den F) = d205 := cod_of (by kernel_rfl)
theorem e206 : (fun F => k206.body.den F) = d206 := cod_of (by kernel_rfl)
theorem e216 : (fun F => k216.body.den F) = d216 := cod_of (by kernel_rfl)
theorem e218 : (fun F => k218.body.den F) = d218 := cod_of (by kernel_rfl)
theorem e219 : (fun F => k219.body.den F) = d219 := cod_of (by kernel_rfl)
theorem e220 : (fun F => k220.body.den F) = d220 := cod_of (by kernel_rfl)
theorem e231 : (fun F => k231.body.den F) = d231 := cod_of (by kernel_rfl)
theorem e241 : (fun F => k241.body.den F) = d241 := cod_of (by kernel_rfl)
theorem e242 : (fun F => k242.body.den F) = d242 := cod_of (by kernel_rfl)
theorem e244 : (fun F => k244.body.den F) = d244 := cod_of (by kernel_rfl)
theorem e245 : (fun F => k245.body.den F) = d245 := cod_of (by kernel_rfl)
theorem e246 : (fun F => k246.body.den F) = d246 := cod_of (by kernel_rfl)
theorem e247 : (fun F => k247.body.den F) = d247 := cod_of (by kernel_rfl)
theorem e248 : (fun F => k248.body.den F) = d248 := cod_of (by kernel_rfl)
theorem e249 : (fun F => k249.body.den F) = d249 := cod_of (by kernel_rfl)
theorem e253 : (fun F => k253.body.den F) = d253 := cod_of (by kernel_rfl)
theorem e254 : (fun F => k254.body.den F) = d254 := cod_of (by kernel_rfl)
theorem e255 : (fun F => k255.body.den F) = d255 := cod_of (by kernel_rfl)
theorem e256 : (fun F => k256.body.den F) = d256 := cod_of (by kernel_rfl)
theorem e264 : (fun F => k264.body.den F) = d264 := cod_of (by kernel_rfl)
theorem e265 : (fun F => k265.body.den F) = d265 := cod_of (by kernel_rfl)
theorem e266 : (fun F => k266.body.den F) = d266 := cod_of (by kernel_rfl)
theorem e267 : (fun F => k267.body.den F) = d267 := cod_of (by kernel_rfl)
theorem e268 : (fun F => k268.body.den F) = d268 := cod_of (by kernel_rfl)
theorem e280 : (fun F => k280.body.den F) = d280 := cod_of (by kernel_rfl)
theorem e281 : (fun F => k281.body.den F) = d281 := cod_of (by kernel_rfl)
theorem e283 : (fun F => k283.body.den F) = d283 := cod_of (by kernel_rfl)
theorem e294 : (fun F => k294.body.den F) = d294 := cod_of (by kernel_rfl)
theorem e295 : (fun F => k295.body.den F) = d295 := cod_of (by kernel_rfl)
theorem e313 : (fun F => k313.body.den F) = d313 := cod_of (by kernel_rfl)
theorem e314 : (fun F => k314.body.den F) = d314 := cod_of (by kernel_rfl)
theorem e315 : (fun F => k315.body.den F) = d315 := cod_of (by kernel_rfl)
theorem e321 : (fun F => k321.body.den F) = d321 := cod_of (by kernel_rfl)
theorem e329 : (fun F => k329.body.den F) = d329 := cod_of (by kernel_rfl)
theorem e338 : (fun F => k338.body.den F) = d338 := cod_of (by kernel_rfl)
theorem e339 : (fun F => k339.body.den F) = d339 := cod_of (by kernel_rfl)
theorem e353 : (fun F => k353.body.den F) = d353 := cod_of (by kernel_rfl)
theorem mixed : Tryz.prog.follows .mixedOrders = true := by kernel_rfl
end Go.Ab.Tryz
