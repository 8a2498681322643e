/- Made by program: the K code is the program. -/
import Derived.Test.YtofnienidjdldaaGreatDoorMeKg1
import Derived.Test.YtofnienidjdldaaGreatDoorProg
import Derived.KernelRfl
namespace Go.Ab.Tryz
open Go Go.Ab Go.Proofs
theorem c3 : k3.ok Tryz.prog dchk 3 = true := by kernel_rfl
theorem c6 : k6.ok Tryz.prog dchk 6 = true := by kernel_rfl
theorem c7 : k7.ok Tryz.prog dchk 7 = true := by kernel_rfl
theorem c8 : k8.ok Tryz.prog dchk 8 = true := by kernel_rfl
theorem c9 : k9.ok Tryz.prog dchk 9 = true := by kernel_rfl
theorem c17 : k17.ok Tryz.prog dchk 17 = true := by kernel_rfl
theorem c18 : k18.ok Tryz.prog dchk 18 = true := by kernel_rfl
theorem c19 : k19.ok Tryz.prog dchk 19 = true := by kernel_rfl
theorem c20 : k20.ok Tryz.prog dchk 20 = true := by kernel_rfl
theorem c21 : k21.ok Tryz.prog dchk 21 = true := by kernel_rfl
theorem c22 : k22.ok Tryz.prog dchk 22 = true := by kernel_rfl
theorem c23 : k23.ok Tryz.prog dchk 23 = true := by kernel_rfl
theorem c24 : k24.ok Tryz.prog dchk 24 = true := by kernel_rfl
theorem c37 : k37.ok Tryz.prog dchk 37 = true := by kernel_rfl
theorem c39 : k39.ok Tryz.prog dchk 39 = true := by kernel_rfl
theorem c40 : k40.ok Tryz.prog dchk 40 = true := by kernel_rfl
theorem c41 : k41.ok Tryz.prog dchk 41 = true := by kernel_rfl
theorem c42 : k42.ok Tryz.prog dchk 42 = true := by kernel_rfl
theorem c43 : k43.ok Tryz.prog dchk 43 = true := by kernel_rfl
theorem c44 : k44.ok Tryz.prog dchk 44 = true := by kernel_rfl
theorem c45 : k45.ok Tryz.prog dchk 45 = true := by kernel_rfl
theorem c46 : k46.ok Tryz.prog dchk 46 = true := by kernel_rfl
theorem c47 : k47.ok Tryz.prog dchk 47 = true := by kernel_rfl
theorem c48 : k48.ok Tryz.prog dchk 48 = true := by kernel_rfl
theorem c49 : k49.ok Tryz.prog dchk 49 = true := by kernel_rfl
theorem c50 : k50.ok Tryz.prog dchk 50 = true := by kernel_rfl
theorem c51 : k51.ok Tryz.prog dchk 51 = true := by kernel_rfl
theorem c52 : k52.ok Tryz.prog dchk 52 = true := by kernel_rfl
theorem c53 : k53.ok Tryz.prog dchk 53 = true := by kernel_rfl
theorem c54 : k54.ok Tryz.prog dchk 54 = true := by kernel_rfl
theorem c57 : k57.ok Tryz.prog dchk 57 = true := by kernel_rfl
theorem c58 : k58.ok Tryz.prog dchk 58 = true := by kernel_rfl
theorem c79 : k79.ok Tryz.prog dchk 79 = true := by kernel_rfl
theorem c80 : k80.ok Tryz.prog dchk 80 = true := by kernel_rfl
theorem c81 : k81.ok Tryz.prog dchk 81 = true := by kernel_rfl
theorem c82 : k82.ok Tryz.prog dchk 82 = true := by kernel_rfl
theorem c83 : k83.ok Tryz.prog dchk 83 = true := by kernel_rfl
theorem c84 : k84.ok Tryz.prog dchk 84 = true := by kernel_rfl
theorem c85 : k85.ok Tryz.prog dchk 85 = true := by kernel_rfl
theorem c86 : k86.ok Tryz.prog dchk 86 = true := by kernel_rfl
theorem c87 : k87.ok Tryz.prog dchk 87 = true := by kernel_rfl
theorem c88 : k88.ok Tryz.prog dchk 88 = true := by kernel_rfl
theorem c89 : k89.ok Tryz.prog dchk 89 = true := by kernel_rfl
theorem c90 : k90.ok Tryz.prog dchk 90 = true := by kernel_rfl
theorem c91 : k91.ok Tryz.prog dchk 91 = true := by kernel_rfl
theorem c92 : k92.ok Tryz.prog dchk 92 = true := by kernel_rfl
theorem c93 : k93.ok Tryz.prog dchk 93 = true := by kernel_rfl
theorem c94 : k94.ok Tryz.prog dchk 94 = true := by kernel_rfl
theorem c95 : k95.ok Tryz.prog dchk 95 = true := by kernel_rfl
theorem c96 : k96.ok Tryz.prog dchk 96 = true := by kernel_rfl
theorem c97 : k97.ok Tryz.prog dchk 97 = true := by kernel_rfl
theorem c98 : k98.ok Tryz.prog dchk 98 = true := by kernel_rfl
theorem c99 : k99.ok Tryz.prog dchk 99 = true := by kernel_rfl
theorem c100 : k100.ok Tryz.prog dchk 100 = true := by kernel_rfl
theorem c101 : k101.ok Tryz.prog dchk 101 = true := by kernel_rfl
theorem c102 : k102.ok Tryz.prog dchk 102 = true := by kernel_rfl
theorem c103 : k103.ok Tryz.prog dchk 103 = true := by kernel_rfl
theorem c118 : k118.ok Tryz.prog dchk 118 = true := by kernel_rfl
theorem c131 : k131.ok Tryz.prog dchk 131 = true := by kernel_rfl
theorem c132 : k132.ok Tryz.prog dchk 132 = true := by kernel_rfl
theorem c133 : k133.ok Tryz.prog dchk 133 = true := by kernel_rfl
theorem c134 : k134.ok Tryz.prog dchk 134 = true := by kernel_rfl
theorem c135 : k135.ok Tryz.prog dchk 135 = true := by kernel_rfl
theorem c136 : k136.ok Tryz.prog dchk 136 = true := by kernel_rfl
theorem c137 : k137.ok Tryz.prog dchk 137 = true := by kernel_rfl
theorem c138 : k138.ok Tryz.prog dchk 138 = true := by kernel_rfl
theorem c139 : k139.ok Tryz.prog dchk 139 = true := by kernel_rfl
theorem c140 : k140.ok Tryz.prog dchk 140 = true := by kernel_rfl
theorem c141 : k141.ok Tryz.prog dchk 141 = true := by kernel_rfl
theorem c142 : k142.ok Tryz.prog dchk 142 = true := by kernel_rfl
theorem c143 : k143.ok Tryz.prog dchk 143 = true := by kernel_rfl
theorem c144 : k144.ok Tryz.prog dchk 144 = true := by kernel_rfl
theorem c145 : k145.ok Tryz.prog dchk 145 = true := by kernel_rfl
theorem c146 : k146.ok Tryz.prog dchk 146 = true := by kernel_rfl
theorem c147 : k147.ok Tryz.prog dchk 147 = true := by kernel_rfl
theorem c148 : k148.ok Tryz.prog dchk 148 = true := by kernel_rfl
theorem c149 : k149.ok Tryz.prog dchk 149 = true := by kernel_rfl
theorem c150 : k150.ok Tryz.prog dchk 150 = true := by kernel_rfl
theorem c151 : k151.ok Tryz.prog dchk 151 = true := by kernel_rfl
theorem c152 : k152.ok Tryz.prog dchk 152 = true := by kernel_rfl
theorem c153 : k153.ok Tryz.prog dchk 153 = true := by kernel_rfl
theorem c154 : k154.ok Tryz.prog dchk 154 = true := by kernel_rfl
theorem c155 : k155.ok Tryz.prog dchk 155 = true := by kernel_rfl
theorem c156 : k156.ok Tryz.prog dchk 156 = true := by kernel_rfl
theorem c157 : k157.okN Tryz.prog dchk 157 n157 = true := by kernel_rfl
theorem c158 : k158.ok Tryz.prog dchk 158 = true := by kernel_rfl
theorem c159 : k159.ok Tryz.prog dchk 159 = true := by kernel_rfl
theorem c160 : k160.ok Tryz.prog dchk 160 = true := by kernel_rfl
theorem c161 : k161.ok Tryz.prog dchk 161 = true := by kernel_rfl
theorem c162 : k162.ok Tryz.prog dchk 162 = true := by kernel_rfl
theorem c163 : k163.ok Tryz.prog dchk 163 = true := by kernel_rfl
theorem c178 : k178.ok Tryz.prog dchk 178 = true := by kernel_rfl
theorem c179 : k179.ok Tryz.prog dchk 179 = true := by kernel_rfl
theorem c180 : k180.ok Tryz.prog dchk 180 = true := by kernel_rfl
theorem c189 : k189.ok Tryz.prog dchk 189 = true := by kernel_rfl
theorem c190 : k190.ok Tryz.prog dchk 190 = true := by kernel_rfl
theorem c191 : k191.ok Tryz.prog dchk 191 = true := by kernel_rfl
theorem c192 : k192.ok Tryz.prog dchk 192 = true := by kernel_rfl
theorem c193 : k193.ok Tryz.prog dchk 193 = true := by kernel_rfl
theorem c194 : k194.ok Tryz.prog dchk 194 = true := by kernel_rfl
theorem c196 : k196.ok Tryz.prog dchk 196 = true := by kernel_rfl
theorem c197 : k197.ok Tryz.prog dchk 197 = true := by kernel_rfl
theorem c198 : k198.ok Tryz.prog dchk 198 = true := by kernel_rfl
theorem c199 : k199.ok Tryz.prog dchk 199 = true := by kernel_rfl
theorem c200 : k200.ok Tryz.prog dchk 200 = true := by kernel_rfl
theorem c201 : k201.ok Tryz.prog dchk 201 = true := by kernel_rfl
theorem c202 : k202.ok Tryz.prog dchk 202 = true := by kernel_rfl
theorem c203 : k203.ok Tryz.prog dchk 203 = true := by kernel_rfl
theorem c204 : k204.ok Tryz.prog dchk 204 = true := by kernel_rfl
theorem c205 : k205.ok Tryz.prog dchk 205 = true := by kernel_rfl
theorem c206 : k206.ok Tryz.prog dchk 206 = true := by kernel_rfl
theorem c207 : k207.ok Tryz.prog dchk 207 = true := by kernel_rfl
theorem c208 : k208.ok Tryz.prog dchk 208 = true := by kernel_rfl
theorem c209 : k209.ok Tryz.prog dchk 209 = true := by kernel_rfl
theorem c210 : k210.ok Tryz.prog dchk 210 = true := by kernel_rfl
theorem c211 : k211.ok Tryz.prog dchk 211 = true := by kernel_rfl
theorem c212 : k212.ok Tryz.prog dchk 212 = true := by kernel_rfl
theorem c213 : k213.ok Tryz.prog dchk 213 = true := by kernel_rfl
theorem c214 : k214.ok Tryz.prog dchk 214 = true := by kernel_rfl
theorem c215 : k215.ok Tryz.prog dchk 215 = true := by kernel_rfl
theorem c216 : k216.ok Tryz.prog dchk 216 = true := by kernel_rfl
theorem c217 : k217.ok Tryz.prog dchk 217 = true := by kernel_rfl
theorem c218 : k218.ok Tryz.prog dchk 218 = true := by kernel_rfl
theorem c219 : k219.ok Tryz.prog dchk 219 = true := by kernel_rfl
theorem c252 : k252.ok Tryz.prog dchk 252 = true := by kernel_rfl
theorem c253 : k253.ok Tryz.prog dchk 253 = true := by kernel_rfl
theorem c256 : k256.ok Tryz.prog dchk 256 = true := by kernel_rfl
theorem c257 : k257.ok Tryz.prog dchk 257 = true := by kernel_rfl
theorem c258 : k258.ok Tryz.prog dchk 258 = true := by kernel_rfl
theorem c261 : k261.ok Tryz.prog dchk 261 = true := by kernel_rfl
theorem c270 : k270.ok Tryz.prog dchk 270 = true := by kernel_rfl
theorem c271 : k271.ok Tryz.prog dchk 271 = true := by kernel_rfl
theorem c272 : k272.ok Tryz.prog dchk 272 = true := by kernel_rfl
theorem c273 : k273.ok Tryz.prog dchk 273 = true := by kernel_rfl
theorem c274 : k274.ok Tryz.prog dchk 274 = true := by kernel_rfl
theorem c275 : k275.ok Tryz.prog dchk 275 = true := by kernel_rfl
theorem c292 : k292.ok Tryz.prog dchk 292 = true := by kernel_rfl
theorem c296 : k296.ok Tryz.prog dchk 296 = true := by kernel_rfl
theorem c304 : k304.ok Tryz.prog dchk 304 = true := by kernel_rfl
theorem c305 : k305.ok Tryz.prog dchk 305 = true := by kernel_rfl
theorem c306 : k306.ok Tryz.prog dchk 306 = true := by kernel_rfl
theorem cX : kIdx.ok Tryz.prog dchk 271 = true := by kernel_rfl
theorem e6 : (fun F => k6.body.den F) = d6 := cod_of (by kernel_rfl)
theorem e7 : (fun F => k7.body.den F) = d7 := cod_of (by kernel_rfl)
theorem e8 : (fun F => k8.body.den F) = d8 := cod_of (by kernel_rfl)
theorem e9 : (fun F => k9.body.den F) = d9 := cod_of (by kernel_rfl)
theorem e18 : (fun F => k18.body.den F) = d18 := cod_of (by kernel_rfl)
theorem e19 : (fun F => k19.body.den F) = d19 := cod_of (by kernel_rfl)
theorem e20 : (fun F => k20.body.den F) = d20 := cod_of (by kernel_rfl)
theorem e21 : (fun F => k21.body.den F) = d21 := cod_of (by kernel_rfl)
theorem e22 : (fun F => k22.body.den F) = d22 := cod_of (by kernel_rfl)
theorem e23 : (fun F => k23.body.den F) = d23 := cod_of (by kernel_rfl)
theorem e24 : (fun F => k24.body.den F) = d24 := cod_of (by kernel_rfl)
theorem e37 : (fun F => k37.body.den F) = d37 := cod_of (by kernel_rfl)
theorem e39 : (fun F => k39.body.den F) = d39 := cod_of (by kernel_rfl)
theorem e40 : (fun F => k40.body.den F) = d40 := cod_of (by kernel_rfl)
theorem e41 : (fun F => k41.body.den F) = d41 := cod_of (by kernel_rfl)
theorem e42 : (fun F => k42.body.den F) = d42 := cod_of (by kernel_rfl)
theorem e43 : (fun F => k43.body.den F) = d43 := cod_of (by kernel_rfl)
theorem e44 : (fun F => k44.body.den F) = d44 := cod_of (by kernel_rfl)
theorem e45 : (fun F => k45.body.den F) = d45 := cod_of (by kernel_rfl)
theorem e46 : (fun F => k46.body.den F) = d46 := cod_of (by kernel_rfl)
theorem e47 : (fun F => k47.body.den F) = d47 := cod_of (by kernel_rfl)
theorem e48 : (fun F => k48.body.den F) = d48 := cod_of (by kernel_rfl)
theorem e49 : (fun F => k49.body.den F) = d49 := cod_of (by kernel_rfl)
theorem e50 : (fun F => k50.body.den F) = d50 := cod_of (by kernel_rfl)
theorem e51 : (fun F => k51.body.den F) = d51 := cod_of (by kernel_rfl)
theorem e52 : (fun F => k52.body.den F) = d52 := cod_of (by kernel_rfl)
theorem e53 : (fun F => k53.body.den F) = d53 := cod_of (by kernel_rfl)
theorem e54 : (fun F => k54.body.den F) = d54 := cod_of (by kernel_rfl)
theorem e57 : (fun F => k57.body.den F) = d57 := cod_of (by kernel_rfl)
theorem e58 : (fun F => k58.body.den F) = d58 := cod_of (by kernel_rfl)
theorem e79 : (fun F => k79.body.den F) = d79 := cod_of (by kernel_rfl)
theorem e80 : (fun F => k80.body.den F) = d80 := cod_of (by kernel_rfl)
theorem e81 : (fun F => k81.body.den F) = d81 := cod_of (by kernel_rfl)
theorem e82 : (fun F => k82.body.den F) = d82 := cod_of (by kernel_rfl)
theorem e83 : (fun F => k83.body.den F) = d83 := cod_of (by kernel_rfl)
theorem e84 : (fun F => k84.body.den F) = d84 := cod_of (by kernel_rfl)
theorem e85 : (fun F => k85.body.den F) = d85 := cod_of (by kernel_rfl)
theorem e86 : (fun F => k86.body.den F) = d86 := cod_of (by kernel_rfl)
theorem e87 : (fun F => k87.body.den F) = d87 := cod_of (by kernel_rfl)
theorem e88 : (fun F => k88.body.den F) = d88 := cod_of (by kernel_rfl)
theorem e89 : (fun F => k89.body.den F) = d89 := cod_of (by kernel_rfl)
theorem e90 : (fun F => k90.body.den F) = d90 := cod_of (by kernel_rfl)
theorem e91 : (fun F => k91.body.den F) = d91 := cod_of (by kernel_rfl)
theorem e92 : (fun F => k92.body.den F) = d92 := cod_of (by kernel_rfl)
theorem e93 : (fun F => k93.body.den F) = d93 := cod_of (by kernel_rfl)
theorem e94 : (fun F => k94.body.den F) = d94 := cod_of (by kernel_rfl)
theorem e95 : (fun F => k95.body.den F) = d95 := cod_of (by kernel_rfl)
theorem e96 : (fun F => k96.body.den F) = d96 := cod_of (by kernel_rfl)
theorem e97 : (fun F => k97.body.den F) = d97 := cod_of (by kernel_rfl)
theorem e98 : (fun F => k98.body.den F) = d98 := cod_of (by kernel_rfl)
theorem e99 : (fun F => k99.body.den F) = d99 := cod_of (by kernel_rfl)
theorem e100 : (fun F => k100.body.den F) = d100 := cod_of (by kernel_rfl)
theorem e101 : (fun F => k101.body.den F) = d101 := cod_of (by kernel_rfl)
theorem e102 : (fun F => k102.body.den F) = d102 := cod_of (by kernel_rfl)
theorem e103 : (fun F => k103.body.den F) = d103 := cod_of (by kernel_rfl)
theorem e118 : (fun F => k118.body.den F) = d118 := cod_of (by kernel_rfl)
theorem e131 : (fun F => k131.body.den F) = d131 := cod_of (by kernel_rfl)
theorem e132 : (fun F => k132.body.den F) = d132 := cod_of (by kernel_rfl)
theorem e133 : (fun F => k133.body.den F) = d133 := cod_of (by kernel_rfl)
theorem e134 : (fun F => k134.body.den F) = d134 := cod_of (by kernel_rfl)
theorem e135 : (fun F => k135.body.den F) = d135 := cod_of (by kernel_rfl)
theorem e136 : (fun F => k136.body.den F) = d136 := cod_of (by kernel_rfl)
theorem e137 : (fun F => k137.body.den F) = d137 := cod_of (by kernel_rfl)
theorem e138 : (fun F => k138.body.den F) = d138 := cod_of (by kernel_rfl)
theorem e139 : (fun F => k139.body.den F) = d139 := cod_of (by kernel_rfl)
theorem e140 : (fun F => k140.body.den F) = d140 := cod_of (by kernel_rfl)
theorem e141 : (fun F => k141.body.den F) = d141 := cod_of (by kernel_rfl)
theorem e142 : (fun F => k142.body.den F) = d142 := cod_of (by kernel_rfl)
theorem e143 : (fun F => k143.body.den F) = d143 := cod_of (by kernel_rfl)
theorem e144 : (fun F => k144.body.den F) = d144 := cod_of (by kernel_rfl)
theorem e145 : (fun F => k145.body.den F) = d145 := cod_of (by kernel_rfl)
theorem e146 : (fun F => k146.body.den F) = d146 := cod_of (by kernel_rfl)
theorem e147 : (fun F => k147.body.den F) = d147 := cod_of (by kernel_rfl)
theorem e148 : (fun F => k148.body.den F) = d148 := cod_of (by kernel_rfl)
theorem e149 : (fun F => k149.body.den F) = d149 := cod_of (by kernel_rfl)
theorem e150 : (fun F => k150.body.den F) = d150 := cod_of (by kernel_rfl)
theorem e151 : (fun F => k151.body.den F) = d151 := cod_of (by kernel_rfl)
theorem e152 : (fun F => k152.body.den F) = d152 := cod_of (by kernel_rfl)
theorem e153 : (fun F => k153.body.den F) = d153 := cod_of (by kernel_rfl)
theorem e154 : (fun F => k154.body.den F) = d154 := cod_of (by kernel_rfl)
theorem e155 : (fun F => k155.body.den F) = d155 := cod_of (by kernel_rfl)
theorem e156 : (fun F => k156.body.den F) = d156 := cod_of (by kernel_rfl)
theorem e158 : (fun F => k158.body.den F) = d158 := cod_of (by kernel_rfl)
theorem e159 : (fun F => k159.body.den F) = d159 := cod_of (by kernel_rfl)
theorem e160 : (fun F => k160.body.den F) = d160 := cod_of (by kernel_rfl)
theorem e161 : (fun F => k161.body.den F) = d161 := cod_of (by kernel_rfl)
theorem e162 : (fun F => k162.body.den F) = d162 := cod_of (by kernel_rfl)
theorem e163 : (fun F => k163.body.den F) = d163 := cod_of (by kernel_rfl)
theorem e178 : (fun F => k178.body.den F) = d178 := cod_of (by kernel_rfl)
theorem e179 : (fun F => k179.body.den F) = d179 := cod_of (by kernel_rfl)
theorem e180 : (fun F => k180.body.den F) = d180 := cod_of (by kernel_rfl)
theorem e189 : (fun F => k189.body.den F) = d189 := cod_of (by kernel_rfl)
theorem e190 : (fun F => k190.body.den F) = d190 := cod_of (by kernel_rfl)
theorem e191 : (fun F => k191.body.den F) = d191 := cod_of (by kernel_rfl)
theorem e192 : (fun F => k192.body.den F) = d192 := cod_of (by kernel_rfl)
theorem e193 : (fun F => k193.body.den F) = d193 := cod_of (by kernel_rfl)
theorem e194 : (fun F => k194.body.den F) = d194 := cod_of (by kernel_rfl)
theorem e196 : (fun F => k196.body.den F) = d196 := cod_of (by kernel_rfl)
theorem e197 : (fun F => k197.body.den F) = d197 := cod_of (by kernel_rfl)
theorem e198 : (fun F => k198.body.den F) = d198 := cod_of (by kernel_rfl)
theorem e199 : (fun F => k199.body.den F) = d199 := cod_of (by kernel_rfl)
theorem e200 : (fun F => k200.body.den F) = d200 := cod_of (by kernel_rfl)
theorem e201 : (fun F => k201.body.den F) = d201 := cod_of (by kernel_rfl)
theorem e202 : (fun F => k202.body.den F) = d202 := cod_of (by kernel_rfl)
theorem e203 : (fun F => k203.body.den F) = d203 := cod_of (by kernel_rfl)
theorem e204 : (fun F => k204.body.den F) = d204 := cod_of (by kernel_rfl)
theorem e205 : (fun F => k205.body.den F) = d205 := cod_of (by kernel_rfl)
theorem e206 : (fun F => k206.body.den F) = d206 := cod_of (by kernel_rfl)
theorem e207 : (fun F => k207.body.den F) = d207 := cod_of (by kernel_rfl)
theorem e209 : (fun F => k209.body.den F) = d209 := cod_of (by kernel_rfl)
theorem e210 : (fun F => k210.body.den F) = d210 := cod_of (by kernel_rfl)
theorem e211 : (fun F => k211.body.den F) = d211 := cod_of (by kernel_rfl)
theorem e212 : (fun F => k212.body.den F) = d212 := cod_of (by kernel_rfl)
theorem e213 : (fun F => k213.body.den F) = d213 := cod_of (by kernel_rfl)
theorem e214 : (fun F => k214.body.den F) = d214 := cod_of (by kernel_rfl)
theorem e215 : (fun F => k215.body.den F) = d215 := cod_of (by kernel_rfl)
theorem e216 : (fun F => k216.body.den F) = d216 := cod_of (by kernel_rfl)
theorem e217 : (fun F => k217.body.den F) = d217 := cod_of (by kernel_rfl)
theorem e218 : (fun F => k218.body.den F) = d218 := cod_of (by kernel_rfl)
theorem e219 : (fun F => k219.body.den F) = d219 := cod_of (by kernel_rfl)
theorem e252 : (fun F => k252.body.den F) = d252 := cod_of (by kernel_rfl)
theorem e253 : (fun F => k253.body.den F) = d253 := cod_of (by kernel_rfl)
theorem e256 : (fun F => k256.body.den F) = d256 := cod_of (by kernel_rfl)
theorem e257 : (fun F => k257.body.den F) = d257 := cod_of (by kernel_rfl)
theorem e258 : (fun F => k258.body.den F) = d258 := cod_of (by kernel_rfl)
theorem e261 : (fun F => k261.body.den F) = d261 := cod_of (by kernel_rfl)
theorem e270 : (fun F => k270.body.den F) = d270 := cod_of (by kernel_rfl)
theorem e271 : (fun F => k271.body.den F) = d271 := cod_of (by kernel_rfl)
theorem e272 : (fun F => k272.body.den F) = d272 := cod_of (by kernel_rfl)
theorem e273 : (fun F => k273.body.den F) = d273 := cod_of (by kernel_rfl)
theorem e274 : (fun F => k274.body.den F) = d274 := cod_of (by kernel_rfl)
theorem e275 : (fun F => k275.body.den F) = d275 := cod_of (by kernel_rfl)
theorem e292 : (fun F => k292.body.den F) = d292 := cod_of (by kernel_rfl)
theorem e296 : (fun F => k296.body.den F) = d296 := cod_of (by kernel_rfl)
theorem e304 : (fun F => k304.body.den F) = d304 := cod_of (by kernel_rfl)
theorem e305 : (fun F => k305.body.den F) = d305 := cod_of (by kernel_rfl)
theorem e306 : (fun F => k306.body.den F) = d306 := cod_of (by kernel_rfl)
theorem mixed : Tryz.prog.follows .mixedOrders = true := by kernel_rfl
end Go.Ab.Tryz
