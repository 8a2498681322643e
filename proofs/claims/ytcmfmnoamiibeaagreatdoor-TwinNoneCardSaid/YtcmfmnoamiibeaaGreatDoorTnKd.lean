/- Made by program: the K code is the program. -/
import Derived.Test.YtcmfmnoamiibeaaGreatDoorTnKg1
import Derived.Test.YtcmfmnoamiibeaaGreatDoorProg
import Derived.KernelRfl
namespace Go.Ab.Tryz
open Go Go.Ab Go.Proofs
theorem c9 : k9.ok Tryz.prog dchk 9 = true := by kernel_rfl
theorem c14 : k14.ok Tryz.prog dchk 14 = true := by kernel_rfl
theorem c18 : k18.ok Tryz.prog dchk 18 = true := by kernel_rfl
theorem c19 : k19.ok Tryz.prog dchk 19 = true := by kernel_rfl
theorem c20 : k20.ok Tryz.prog dchk 20 = true := by kernel_rfl
theorem c21 : k21.ok Tryz.prog dchk 21 = true := by kernel_rfl
theorem c23 : k23.ok Tryz.prog dchk 23 = true := by kernel_rfl
theorem c24 : k24.ok Tryz.prog dchk 24 = true := by kernel_rfl
theorem c31 : k31.ok Tryz.prog dchk 31 = true := by kernel_rfl
theorem c32 : k32.ok Tryz.prog dchk 32 = true := by kernel_rfl
theorem c33 : k33.ok Tryz.prog dchk 33 = true := by kernel_rfl
theorem c40 : k40.ok Tryz.prog dchk 40 = true := by kernel_rfl
theorem c46 : k46.ok Tryz.prog dchk 46 = true := by kernel_rfl
theorem c47 : k47.ok Tryz.prog dchk 47 = true := by kernel_rfl
theorem c55 : k55.ok Tryz.prog dchk 55 = true := by kernel_rfl
theorem c56 : k56.ok Tryz.prog dchk 56 = true := by kernel_rfl
theorem c57 : k57.ok Tryz.prog dchk 57 = true := by kernel_rfl
theorem c58 : k58.ok Tryz.prog dchk 58 = true := by kernel_rfl
theorem c59 : k59.ok Tryz.prog dchk 59 = true := by kernel_rfl
theorem c60 : k60.ok Tryz.prog dchk 60 = true := by kernel_rfl
theorem c61 : k61.ok Tryz.prog dchk 61 = true := by kernel_rfl
theorem c62 : k62.ok Tryz.prog dchk 62 = true := by kernel_rfl
theorem c63 : k63.ok Tryz.prog dchk 63 = true := by kernel_rfl
theorem c64 : k64.ok Tryz.prog dchk 64 = true := by kernel_rfl
theorem c68 : k68.ok Tryz.prog dchk 68 = true := by kernel_rfl
theorem c69 : k69.ok Tryz.prog dchk 69 = true := by kernel_rfl
theorem c70 : k70.ok Tryz.prog dchk 70 = true := by kernel_rfl
theorem c71 : k71.ok Tryz.prog dchk 71 = true := by kernel_rfl
theorem c72 : k72.ok Tryz.prog dchk 72 = true := by kernel_rfl
theorem c73 : k73.ok Tryz.prog dchk 73 = true := by kernel_rfl
theorem c74 : k74.ok Tryz.prog dchk 74 = true := by kernel_rfl
theorem c79 : k79.ok Tryz.prog dchk 79 = true := by kernel_rfl
theorem c80 : k80.ok Tryz.prog dchk 80 = true := by kernel_rfl
theorem c81 : k81.ok Tryz.prog dchk 81 = true := by kernel_rfl
theorem c83 : k83.ok Tryz.prog dchk 83 = true := by kernel_rfl
theorem c89 : k89.ok Tryz.prog dchk 89 = true := by kernel_rfl
theorem c91 : k91.ok Tryz.prog dchk 91 = true := by kernel_rfl
theorem c92 : k92.ok Tryz.prog dchk 92 = true := by kernel_rfl
theorem c93 : k93.ok Tryz.prog dchk 93 = true := by kernel_rfl
theorem c94 : k94.ok Tryz.prog dchk 94 = true := by kernel_rfl
theorem c95 : k95.ok Tryz.prog dchk 95 = true := by kernel_rfl
theorem c96 : k96.ok Tryz.prog dchk 96 = true := by kernel_rfl
theorem c97 : k97.ok Tryz.prog dchk 97 = true := by kernel_rfl
theorem c98 : k98.ok Tryz.prog dchk 98 = true := by kernel_rfl
theorem c106 : k106.ok Tryz.prog dchk 106 = true := by kernel_rfl
theorem c107 : k107.ok Tryz.prog dchk 107 = true := by kernel_rfl
theorem c108 : k108.ok Tryz.prog dchk 108 = true := by kernel_rfl
theorem c109 : k109.ok Tryz.prog dchk 109 = true := by kernel_rfl
theorem c110 : k110.ok Tryz.prog dchk 110 = true := by kernel_rfl
theorem c111 : k111.ok Tryz.prog dchk 111 = true := by kernel_rfl
theorem c112 : k112.ok Tryz.prog dchk 112 = true := by kernel_rfl
theorem c113 : k113.ok Tryz.prog dchk 113 = true := by kernel_rfl
theorem c114 : k114.ok Tryz.prog dchk 114 = true := by kernel_rfl
theorem c115 : k115.ok Tryz.prog dchk 115 = true := by kernel_rfl
theorem c116 : k116.ok Tryz.prog dchk 116 = true := by kernel_rfl
theorem c119 : k119.ok Tryz.prog dchk 119 = true := by kernel_rfl
theorem c120 : k120.ok Tryz.prog dchk 120 = true := by kernel_rfl
theorem c121 : k121.ok Tryz.prog dchk 121 = true := by kernel_rfl
theorem c122 : k122.ok Tryz.prog dchk 122 = true := by kernel_rfl
theorem c123 : k123.ok Tryz.prog dchk 123 = true := by kernel_rfl
theorem c124 : k124.ok Tryz.prog dchk 124 = true := by kernel_rfl
theorem c125 : k125.ok Tryz.prog dchk 125 = true := by kernel_rfl
theorem c126 : k126.ok Tryz.prog dchk 126 = true := by kernel_rfl
theorem c127 : k127.ok Tryz.prog dchk 127 = true := by kernel_rfl
theorem c139 : k139.ok Tryz.prog dchk 139 = true := by kernel_rfl
theorem c140 : k140.ok Tryz.prog dchk 140 = true := by kernel_rfl
theorem c141 : k141.ok Tryz.prog dchk 141 = true := by kernel_rfl
theorem c142 : k142.ok Tryz.prog dchk 142 = true := by kernel_rfl
theorem c143 : k143.ok Tryz.prog dchk 143 = true := by kernel_rfl
theorem c158 : k158.ok Tryz.prog dchk 158 = true := by kernel_rfl
theorem c159 : k159.ok Tryz.prog dchk 159 = true := by kernel_rfl
theorem c160 : k160.ok Tryz.prog dchk 160 = true := by kernel_rfl
theorem c161 : k161.ok Tryz.prog dchk 161 = true := by kernel_rfl
theorem c162 : k162.ok Tryz.prog dchk 162 = true := by kernel_rfl
theorem c163 : k163.ok Tryz.prog dchk 163 = true := by kernel_rfl
theorem c164 : k164.ok Tryz.prog dchk 164 = true := by kernel_rfl
theorem c165 : k165.ok Tryz.prog dchk 165 = true := by kernel_rfl
theorem c166 : k166.ok Tryz.prog dchk 166 = true := by kernel_rfl
theorem c167 : k167.ok Tryz.prog dchk 167 = true := by kernel_rfl
theorem c168 : k168.ok Tryz.prog dchk 168 = true := by kernel_rfl
theorem c169 : k169.ok Tryz.prog dchk 169 = true := by kernel_rfl
theorem c170 : k170.ok Tryz.prog dchk 170 = true := by kernel_rfl
theorem c171 : k171.ok Tryz.prog dchk 171 = true := by kernel_rfl
theorem c172 : k172.ok Tryz.prog dchk 172 = true := by kernel_rfl
theorem c173 : k173.ok Tryz.prog dchk 173 = true := by kernel_rfl
theorem c174 : k174.ok Tryz.prog dchk 174 = true := by kernel_rfl
theorem c175 : k175.ok Tryz.prog dchk 175 = true := by kernel_rfl
theorem c176 : k176.ok Tryz.prog dchk 176 = true := by kernel_rfl
theorem c177 : k177.ok Tryz.prog dchk 177 = true := by kernel_rfl
theorem c178 : k178.ok Tryz.prog dchk 178 = true := by kernel_rfl
theorem c179 : k179.ok Tryz.prog dchk 179 = true := by kernel_rfl
theorem c180 : k180.ok Tryz.prog dchk 180 = true := by kernel_rfl
theorem c189 : k189.ok Tryz.prog dchk 189 = true := by kernel_rfl
theorem c190 : k190.ok Tryz.prog dchk 190 = true := by kernel_rfl
theorem c191 : k191.ok Tryz.prog dchk 191 = true := by kernel_rfl
theorem c192 : k192.ok Tryz.prog dchk 192 = true := by kernel_rfl
theorem c193 : k193.ok Tryz.prog dchk 193 = true := by kernel_rfl
theorem c215 : k215.ok Tryz.prog dchk 215 = true := by kernel_rfl
theorem c216 : k216.ok Tryz.prog dchk 216 = true := by kernel_rfl
theorem c217 : k217.ok Tryz.prog dchk 217 = true := by kernel_rfl
theorem c218 : k218.ok Tryz.prog dchk 218 = true := by kernel_rfl
theorem c219 : k219.ok Tryz.prog dchk 219 = true := by kernel_rfl
theorem c220 : k220.ok Tryz.prog dchk 220 = true := by kernel_rfl
theorem c221 : k221.ok Tryz.prog dchk 221 = true := by kernel_rfl
theorem c222 : k222.ok Tryz.prog dchk 222 = true := by kernel_rfl
theorem c223 : k223.ok Tryz.prog dchk 223 = true := by kernel_rfl
theorem c224 : k224.ok Tryz.prog dchk 224 = true := by kernel_rfl
theorem c225 : k225.ok Tryz.prog dchk 225 = true := by kernel_rfl
theorem c226 : k226.ok Tryz.prog dchk 226 = true := by kernel_rfl
theorem c227 : k227.ok Tryz.prog dchk 227 = true := by kernel_rfl
theorem c228 : k228.ok Tryz.prog dchk 228 = true := by kernel_rfl
theorem c229 : k229.ok Tryz.prog dchk 229 = true := by kernel_rfl
theorem c230 : k230.ok Tryz.prog dchk 230 = true := by kernel_rfl
theorem c231 : k231.ok Tryz.prog dchk 231 = true := by kernel_rfl
theorem c232 : k232.ok Tryz.prog dchk 232 = true := by kernel_rfl
theorem c233 : k233.ok Tryz.prog dchk 233 = true := by kernel_rfl
theorem c239 : k239.ok Tryz.prog dchk 239 = true := by kernel_rfl
theorem c240 : k240.ok Tryz.prog dchk 240 = true := by kernel_rfl
theorem c241 : k241.ok Tryz.prog dchk 241 = true := by kernel_rfl
theorem c257 : k257.ok Tryz.prog dchk 257 = true := by kernel_rfl
theorem c258 : k258.ok Tryz.prog dchk 258 = true := by kernel_rfl
theorem c259 : k259.ok Tryz.prog dchk 259 = true := by kernel_rfl
theorem c260 : k260.ok Tryz.prog dchk 260 = true := by kernel_rfl
theorem c261 : k261.ok Tryz.prog dchk 261 = true := by kernel_rfl
theorem c264 : k264.ok Tryz.prog dchk 264 = true := by kernel_rfl
theorem c265 : k265.ok Tryz.prog dchk 265 = true := by kernel_rfl
theorem c266 : k266.ok Tryz.prog dchk 266 = true := by kernel_rfl
theorem c267 : k267.ok Tryz.prog dchk 267 = true := by kernel_rfl
theorem c268 : k268.ok Tryz.prog dchk 268 = true := by kernel_rfl
theorem c269 : k269.ok Tryz.prog dchk 269 = true := by kernel_rfl
theorem c272 : k272.ok Tryz.prog dchk 272 = true := by kernel_rfl
theorem c273 : k273.ok Tryz.prog dchk 273 = true := by kernel_rfl
theorem c274 : k274.ok Tryz.prog dchk 274 = true := by kernel_rfl
theorem c275 : k275.ok Tryz.prog dchk 275 = true := by kernel_rfl
theorem c276 : k276.ok Tryz.prog dchk 276 = true := by kernel_rfl
theorem c277 : k277.ok Tryz.prog dchk 277 = true := by kernel_rfl
theorem c278 : k278.ok Tryz.prog dchk 278 = true := by kernel_rfl
theorem c279 : k279.ok Tryz.prog dchk 279 = true := by kernel_rfl
theorem c283 : k283.ok Tryz.prog dchk 283 = true := by kernel_rfl
theorem c284 : k284.ok Tryz.prog dchk 284 = true := by kernel_rfl
theorem c291 : k291.ok Tryz.prog dchk 291 = true := by kernel_rfl
theorem c295 : k295.ok Tryz.prog dchk 295 = true := by kernel_rfl
theorem c296 : k296.ok Tryz.prog dchk 296 = true := by kernel_rfl
theorem c297 : k297.ok Tryz.prog dchk 297 = true := by kernel_rfl
theorem c298 : k298.ok Tryz.prog dchk 298 = true := by kernel_rfl
theorem c299 : k299.ok Tryz.prog dchk 299 = true := by kernel_rfl
theorem c303 : k303.ok Tryz.prog dchk 303 = true := by kernel_rfl
theorem c304 : k304.ok Tryz.prog dchk 304 = true := by kernel_rfl
theorem c318 : k318.ok Tryz.prog dchk 318 = true := by kernel_rfl
theorem c322 : k322.ok Tryz.prog dchk 322 = true := by kernel_rfl
theorem c323 : k323.ok Tryz.prog dchk 323 = true := by kernel_rfl
theorem e14 : (fun F => k14.body.den F) = d14 := by kernel_rfl
theorem e18 : (fun F => k18.body.den F) = d18 := by kernel_rfl
theorem e19 : (fun F => k19.body.den F) = d19 := by kernel_rfl
theorem e20 : (fun F => k20.body.den F) = d20 := by kernel_rfl
theorem e21 : (fun F => k21.body.den F) = d21 := by kernel_rfl
theorem e23 : (fun F => k23.body.den F) = d23 := by kernel_rfl
theorem e24 : (fun F => k24.body.den F) = d24 := by kernel_rfl
theorem e31 : (fun F => k31.body.den F) = d31 := by kernel_rfl
theorem e32 : (fun F => k32.body.den F) = d32 := by kernel_rfl
theorem e33 : (fun F => k33.body.den F) = d33 := by kernel_rfl
theorem e40 : (fun F => k40.body.den F) = d40 := by kernel_rfl
theorem e46 : (fun F => k46.body.den F) = d46 := by kernel_rfl
theorem e47 : (fun F => k47.body.den F) = d47 := by kernel_rfl
theorem e55 : (fun F => k55.body.den F) = d55 := by kernel_rfl
theorem e56 : (fun F => k56.body.den F) = d56 := by kernel_rfl
theorem e57 : (fun F => k57.body.den F) = d57 := by kernel_rfl
theorem e58 : (fun F => k58.body.den F) = d58 := by kernel_rfl
theorem e59 : (fun F => k59.body.den F) = d59 := by kernel_rfl
theorem e60 : (fun F => k60.body.den F) = d60 := by kernel_rfl
theorem e61 : (fun F => k61.body.den F) = d61 := by kernel_rfl
theorem e62 : (fun F => k62.body.den F) = d62 := by kernel_rfl
theorem e63 : (fun F => k63.body.den F) = d63 := by kernel_rfl
theorem e64 : (fun F => k64.body.den F) = d64 := by kernel_rfl
theorem e68 : (fun F => k68.body.den F) = d68 := by kernel_rfl
theorem e69 : (fun F => k69.body.den F) = d69 := by kernel_rfl
theorem e70 : (fun F => k70.body.den F) = d70 := by kernel_rfl
theorem e71 : (fun F => k71.body.den F) = d71 := by kernel_rfl
theorem e72 : (fun F => k72.body.den F) = d72 := by kernel_rfl
theorem e73 : (fun F => k73.body.den F) = d73 := by kernel_rfl
theorem e74 : (fun F => k74.body.den F) = d74 := by kernel_rfl
theorem e79 : (fun F => k79.body.den F) = d79 := by kernel_rfl
theorem e80 : (fun F => k80.body.den F) = d80 := by kernel_rfl
theorem e81 : (fun F => k81.body.den F) = d81 := by kernel_rfl
theorem e83 : (fun F => k83.body.den F) = d83 := by kernel_rfl
theorem e89 : (fun F => k89.body.den F) = d89 := by kernel_rfl
theorem e91 : (fun F => k91.body.den F) = d91 := by kernel_rfl
theorem e92 : (fun F => k92.body.den F) = d92 := by kernel_rfl
theorem e93 : (fun F => k93.body.den F) = d93 := by kernel_rfl
theorem e94 : (fun F => k94.body.den F) = d94 := by kernel_rfl
theorem e95 : (fun F => k95.body.den F) = d95 := by kernel_rfl
theorem e96 : (fun F => k96.body.den F) = d96 := by kernel_rfl
theorem e97 : (fun F => k97.body.den F) = d97 := by kernel_rfl
theorem e98 : (fun F => k98.body.den F) = d98 := by kernel_rfl
theorem e106 : (fun F => k106.body.den F) = d106 := by kernel_rfl
theorem e107 : (fun F => k107.body.den F) = d107 := by kernel_rfl
theorem e108 : (fun F => k108.body.den F) = d108 := by kernel_rfl
theorem e109 : (fun F => k109.body.den F) = d109 := by kernel_rfl
theorem e110 : (fun F => k110.body.den F) = d110 := by kernel_rfl
theorem e111 : (fun F => k111.body.den F) = d111 := by kernel_rfl
theorem e112 : (fun F => k112.body.den F) = d112 := by kernel_rfl
theorem e113 : (fun F => k113.body.den F) = d113 := by kernel_rfl
theorem e114 : (fun F => k114.body.den F) = d114 := by kernel_rfl
theorem e115 : (fun F => k115.body.den F) = d115 := by kernel_rfl
theorem e116 : (fun F => k116.body.den F) = d116 := by kernel_rfl
theorem e119 : (fun F => k119.body.den F) = d119 := by kernel_rfl
theorem e120 : (fun F => k120.body.den F) = d120 := by kernel_rfl
theorem e121 : (fun F => k121.body.den F) = d121 := by kernel_rfl
theorem e122 : (fun F => k122.body.den F) = d122 := by kernel_rfl
theorem e123 : (fun F => k123.body.den F) = d123 := by kernel_rfl
theorem e124 : (fun F => k124.body.den F) = d124 := by kernel_rfl
theorem e125 : (fun F => k125.body.den F) = d125 := by kernel_rfl
theorem e126 : (fun F => k126.body.den F) = d126 := by kernel_rfl
theorem e127 : (fun F => k127.body.den F) = d127 := by kernel_rfl
theorem e139 : (fun F => k139.body.den F) = d139 := by kernel_rfl
theorem e140 : (fun F => k140.body.den F) = d140 := by kernel_rfl
theorem e141 : (fun F => k141.body.den F) = d141 := by kernel_rfl
theorem e142 : (fun F => k142.body.den F) = d142 := by kernel_rfl
theorem e143 : (fun F => k143.body.den F) = d143 := by kernel_rfl
theorem e158 : (fun F => k158.body.den F) = d158 := by kernel_rfl
theorem e159 : (fun F => k159.body.den F) = d159 := by kernel_rfl
theorem e160 : (fun F => k160.body.den F) = d160 := by kernel_rfl
theorem e161 : (fun F => k161.body.den F) = d161 := by kernel_rfl
theorem e162 : (fun F => k162.body.den F) = d162 := by kernel_rfl
theorem e163 : (fun F => k163.body.den F) = d163 := by kernel_rfl
theorem e164 : (fun F => k164.body.den F) = d164 := by kernel_rfl
theorem e165 : (fun F => k165.body.den F) = d165 := by kernel_rfl
theorem e166 : (fun F => k166.body.den F) = d166 := by kernel_rfl
theorem e167 : (fun F => k167.body.den F) = d167 := by kernel_rfl
theorem e168 : (fun F => k168.body.den F) = d168 := by kernel_rfl
theorem e169 : (fun F => k169.body.den F) = d169 := by kernel_rfl
theorem e170 : (fun F => k170.body.den F) = d170 := by kernel_rfl
theorem e171 : (fun F => k171.body.den F) = d171 := by kernel_rfl
theorem e172 : (fun F => k172.body.den F) = d172 := by kernel_rfl
theorem e173 : (fun F => k173.body.den F) = d173 := by kernel_rfl
theorem e174 : (fun F => k174.body.den F) = d174 := by kernel_rfl
theorem e175 : (fun F => k175.body.den F) = d175 := by kernel_rfl
theorem e176 : (fun F => k176.body.den F) = d176 := by kernel_rfl
theorem e177 : (fun F => k177.body.den F) = d177 := by kernel_rfl
theorem e178 : (fun F => k178.body.den F) = d178 := by kernel_rfl
theorem e179 : (fun F => k179.body.den F) = d179 := by kernel_rfl
theorem e180 : (fun F => k180.body.den F) = d180 := by kernel_rfl
theorem e189 : (fun F => k189.body.den F) = d189 := by kernel_rfl
theorem e190 : (fun F => k190.body.den F) = d190 := by kernel_rfl
theorem e191 : (fun F => k191.body.den F) = d191 := by kernel_rfl
theorem e192 : (fun F => k192.body.den F) = d192 := by kernel_rfl
theorem e193 : (fun F => k193.body.den F) = d193 := by kernel_rfl
theorem e215 : (fun F => k215.body.den F) = d215 := by kernel_rfl
theorem e216 : (fun F => k216.body.den F) = d216 := by kernel_rfl
theorem e217 : (fun F => k217.body.den F) = d217 := by kernel_rfl
theorem e218 : (fun F => k218.body.den F) = d218 := by kernel_rfl
theorem e219 : (fun F => k219.body.den F) = d219 := by kernel_rfl
theorem e220 : (fun F => k220.body.den F) = d220 := by kernel_rfl
theorem e221 : (fun F => k221.body.den F) = d221 := by kernel_rfl
theorem e222 : (fun F => k222.body.den F) = d222 := by kernel_rfl
theorem e223 : (fun F => k223.body.den F) = d223 := by kernel_rfl
theorem e224 : (fun F => k224.body.den F) = d224 := by kernel_rfl
theorem e225 : (fun F => k225.body.den F) = d225 := by kernel_rfl
theorem e226 : (fun F => k226.body.den F) = d226 := by kernel_rfl
theorem e227 : (fun F => k227.body.den F) = d227 := by kernel_rfl
theorem e228 : (fun F => k228.body.den F) = d228 := by kernel_rfl
theorem e230 : (fun F => k230.body.den F) = d230 := by kernel_rfl
theorem e231 : (fun F => k231.body.den F) = d231 := by kernel_rfl
theorem e232 : (fun F => k232.body.den F) = d232 := by kernel_rfl
theorem e233 : (fun F => k233.body.den F) = d233 := by kernel_rfl
theorem e239 : (fun F => k239.body.den F) = d239 := by kernel_rfl
theorem e240 : (fun F => k240.body.den F) = d240 := by kernel_rfl
theorem e241 : (fun F => k241.body.den F) = d241 := by kernel_rfl
theorem e257 : (fun F => k257.body.den F) = d257 := by kernel_rfl
theorem e258 : (fun F => k258.body.den F) = d258 := by kernel_rfl
theorem e259 : (fun F => k259.body.den F) = d259 := by kernel_rfl
theorem e260 : (fun F => k260.body.den F) = d260 := by kernel_rfl
theorem e261 : (fun F => k261.body.den F) = d261 := by kernel_rfl
theorem e264 : (fun F => k264.body.den F) = d264 := by kernel_rfl
theorem e265 : (fun F => k265.body.den F) = d265 := by kernel_rfl
theorem e266 : (fun F => k266.body.den F) = d266 := by kernel_rfl
theorem e267 : (fun F => k267.body.den F) = d267 := by kernel_rfl
theorem e268 : (fun F => k268.body.den F) = d268 := by kernel_rfl
theorem e269 : (fun F => k269.body.den F) = d269 := by kernel_rfl
theorem e272 : (fun F => k272.body.den F) = d272 := by kernel_rfl
theorem e273 : (fun F => k273.body.den F) = d273 := by kernel_rfl
theorem e274 : (fun F => k274.body.den F) = d274 := by kernel_rfl
theorem e275 : (fun F => k275.body.den F) = d275 := by kernel_rfl
theorem e276 : (fun F => k276.body.den F) = d276 := by kernel_rfl
theorem e277 : (fun F => k277.body.den F) = d277 := by kernel_rfl
theorem e278 : (fun F => k278.body.den F) = d278 := by kernel_rfl
theorem e279 : (fun F => k279.body.den F) = d279 := by kernel_rfl
theorem e283 : (fun F => k283.body.den F) = d283 := by kernel_rfl
theorem e284 : (fun F => k284.body.den F) = d284 := by kernel_rfl
theorem e291 : (fun F => k291.body.den F) = d291 := by kernel_rfl
theorem e295 : (fun F => k295.body.den F) = d295 := by kernel_rfl
theorem e296 : (fun F => k296.body.den F) = d296 := by kernel_rfl
theorem e297 : (fun F => k297.body.den F) = d297 := by kernel_rfl
theorem e298 : (fun F => k298.body.den F) = d298 := by kernel_rfl
theorem e303 : (fun F => k303.body.den F) = d303 := by kernel_rfl
theorem e304 : (fun F => k304.body.den F) = d304 := by kernel_rfl
theorem e318 : (fun F => k318.body.den F) = d318 := by kernel_rfl
theorem e322 : (fun F => k322.body.den F) = d322 := by kernel_rfl
theorem e323 : (fun F => k323.body.den F) = d323 := by kernel_rfl
theorem mixed : Tryz.prog.follows .mixedOrders = true := by kernel_rfl
end Go.Ab.Tryz
