/- Made by program: the K code is the program. -/
import Derived.Test.YtocibeohfbdndaaGreatDoorPvKg0
import Derived.Test.YtocibeohfbdndaaGreatDoorProg
import Derived.KernelRfl
namespace Go.Ab.Tryz
open Go Go.Ab Go.Proofs
theorem c6 : k6.ok Tryz.prog dchk 6 = true := by kernel_rfl
theorem c10 : k10.ok Tryz.prog dchk 10 = true := by kernel_rfl
theorem c11 : k11.ok Tryz.prog dchk 11 = true := by kernel_rfl
theorem c12 : k12.ok Tryz.prog dchk 12 = true := by kernel_rfl
theorem c13 : k13.ok Tryz.prog dchk 13 = true := by kernel_rfl
theorem c14 : k14.ok Tryz.prog dchk 14 = true := by kernel_rfl
theorem c15 : k15.ok Tryz.prog dchk 15 = true := by kernel_rfl
theorem c27 : k27.ok Tryz.prog dchk 27 = true := by kernel_rfl
theorem c29 : k29.ok Tryz.prog dchk 29 = true := by kernel_rfl
theorem c30 : k30.ok Tryz.prog dchk 30 = true := by kernel_rfl
theorem c31 : k31.ok Tryz.prog dchk 31 = true := by kernel_rfl
theorem c32 : k32.ok Tryz.prog dchk 32 = true := by kernel_rfl
theorem c33 : k33.ok Tryz.prog dchk 33 = true := by kernel_rfl
theorem c34 : k34.ok Tryz.prog dchk 34 = true := by kernel_rfl
theorem c35 : k35.ok Tryz.prog dchk 35 = true := by kernel_rfl
theorem c46 : k46.ok Tryz.prog dchk 46 = true := by kernel_rfl
theorem c47 : k47.ok Tryz.prog dchk 47 = true := by kernel_rfl
theorem c48 : k48.ok Tryz.prog dchk 48 = true := by kernel_rfl
theorem c49 : k49.ok Tryz.prog dchk 49 = true := by kernel_rfl
theorem c50 : k50.ok Tryz.prog dchk 50 = true := by kernel_rfl
theorem c51 : k51.ok Tryz.prog dchk 51 = true := by kernel_rfl
theorem c52 : k52.ok Tryz.prog dchk 52 = true := by kernel_rfl
theorem c53 : k53.ok Tryz.prog dchk 53 = true := by kernel_rfl
theorem c54 : k54.ok Tryz.prog dchk 54 = true := by kernel_rfl
theorem c55 : k55.ok Tryz.prog dchk 55 = true := by kernel_rfl
theorem c56 : k56.ok Tryz.prog dchk 56 = true := by kernel_rfl
theorem c57 : k57.ok Tryz.prog dchk 57 = true := by kernel_rfl
theorem c59 : k59.ok Tryz.prog dchk 59 = true := by kernel_rfl
theorem c61 : k61.ok Tryz.prog dchk 61 = true := by kernel_rfl
theorem c68 : k68.ok Tryz.prog dchk 68 = true := by kernel_rfl
theorem c69 : k69.ok Tryz.prog dchk 69 = true := by kernel_rfl
theorem c70 : k70.ok Tryz.prog dchk 70 = true := by kernel_rfl
theorem c71 : k71.ok Tryz.prog dchk 71 = true := by kernel_rfl
theorem c72 : k72.ok Tryz.prog dchk 72 = true := by kernel_rfl
theorem c73 : k73.ok Tryz.prog dchk 73 = true := by kernel_rfl
theorem c74 : k74.ok Tryz.prog dchk 74 = true := by kernel_rfl
theorem c75 : k75.ok Tryz.prog dchk 75 = true := by kernel_rfl
theorem c76 : k76.ok Tryz.prog dchk 76 = true := by kernel_rfl
theorem c77 : k77.ok Tryz.prog dchk 77 = true := by kernel_rfl
theorem c78 : k78.ok Tryz.prog dchk 78 = true := by kernel_rfl
theorem c79 : k79.ok Tryz.prog dchk 79 = true := by kernel_rfl
theorem c83 : k83.ok Tryz.prog dchk 83 = true := by kernel_rfl
theorem c90 : k90.ok Tryz.prog dchk 90 = true := by kernel_rfl
theorem c91 : k91.ok Tryz.prog dchk 91 = true := by kernel_rfl
theorem c92 : k92.ok Tryz.prog dchk 92 = true := by kernel_rfl
theorem c93 : k93.ok Tryz.prog dchk 93 = true := by kernel_rfl
theorem c94 : k94.ok Tryz.prog dchk 94 = true := by kernel_rfl
theorem c95 : k95.ok Tryz.prog dchk 95 = true := by kernel_rfl
theorem c96 : k96.ok Tryz.prog dchk 96 = true := by kernel_rfl
theorem c97 : k97.ok Tryz.prog dchk 97 = true := by kernel_rfl
theorem c98 : k98.ok Tryz.prog dchk 98 = true := by kernel_rfl
theorem c99 : k99.ok Tryz.prog dchk 99 = true := by kernel_rfl
theorem c100 : k100.ok Tryz.prog dchk 100 = true := by kernel_rfl
theorem c101 : k101.ok Tryz.prog dchk 101 = true := by kernel_rfl
theorem c102 : k102.ok Tryz.prog dchk 102 = true := by kernel_rfl
theorem c103 : k103.ok Tryz.prog dchk 103 = true := by kernel_rfl
theorem c105 : k105.ok Tryz.prog dchk 105 = true := by kernel_rfl
theorem c109 : k109.ok Tryz.prog dchk 109 = true := by kernel_rfl
theorem c113 : k113.ok Tryz.prog dchk 113 = true := by kernel_rfl
theorem c114 : k114.ok Tryz.prog dchk 114 = true := by kernel_rfl
theorem c115 : k115.ok Tryz.prog dchk 115 = true := by kernel_rfl
theorem c116 : k116.ok Tryz.prog dchk 116 = true := by kernel_rfl
theorem c117 : k117.ok Tryz.prog dchk 117 = true := by kernel_rfl
theorem c118 : k118.ok Tryz.prog dchk 118 = true := by kernel_rfl
theorem c119 : k119.ok Tryz.prog dchk 119 = true := by kernel_rfl
theorem c120 : k120.ok Tryz.prog dchk 120 = true := by kernel_rfl
theorem c121 : k121.ok Tryz.prog dchk 121 = true := by kernel_rfl
theorem c122 : k122.ok Tryz.prog dchk 122 = true := by kernel_rfl
theorem c123 : k123.ok Tryz.prog dchk 123 = true := by kernel_rfl
theorem c124 : k124.ok Tryz.prog dchk 124 = true := by kernel_rfl
theorem c125 : k125.ok Tryz.prog dchk 125 = true := by kernel_rfl
theorem c126 : k126.ok Tryz.prog dchk 126 = true := by kernel_rfl
theorem c127 : k127.ok Tryz.prog dchk 127 = true := by kernel_rfl
theorem c128 : k128.ok Tryz.prog dchk 128 = true := by kernel_rfl
theorem c137 : k137.ok Tryz.prog dchk 137 = true := by kernel_rfl
theorem c138 : k138.ok Tryz.prog dchk 138 = true := by kernel_rfl
theorem c139 : k139.ok Tryz.prog dchk 139 = true := by kernel_rfl
theorem c140 : k140.ok Tryz.prog dchk 140 = true := by kernel_rfl
theorem c141 : k141.ok Tryz.prog dchk 141 = true := by kernel_rfl
theorem c142 : k142.ok Tryz.prog dchk 142 = true := by kernel_rfl
theorem c143 : k143.ok Tryz.prog dchk 143 = true := by kernel_rfl
theorem c144 : k144.ok Tryz.prog dchk 144 = true := by kernel_rfl
theorem c145 : k145.ok Tryz.prog dchk 145 = true := by kernel_rfl
theorem c146 : k146.ok Tryz.prog dchk 146 = true := by kernel_rfl
theorem c147 : k147.ok Tryz.prog dchk 147 = true := by kernel_rfl
theorem c148 : k148.ok Tryz.prog dchk 148 = true := by kernel_rfl
theorem c149 : k149.ok Tryz.prog dchk 149 = true := by kernel_rfl
theorem c150 : k150.ok Tryz.prog dchk 150 = true := by kernel_rfl
theorem c151 : k151.ok Tryz.prog dchk 151 = true := by kernel_rfl
theorem c152 : k152.ok Tryz.prog dchk 152 = true := by kernel_rfl
theorem c153 : k153.ok Tryz.prog dchk 153 = true := by kernel_rfl
theorem c154 : k154.ok Tryz.prog dchk 154 = true := by kernel_rfl
theorem c155 : k155.ok Tryz.prog dchk 155 = true := by kernel_rfl
theorem c156 : k156.ok Tryz.prog dchk 156 = true := by kernel_rfl
theorem c157 : k157.ok Tryz.prog dchk 157 = true := by kernel_rfl
theorem c160 : k160.ok Tryz.prog dchk 160 = true := by kernel_rfl
theorem c161 : k161.ok Tryz.prog dchk 161 = true := by kernel_rfl
theorem c162 : k162.ok Tryz.prog dchk 162 = true := by kernel_rfl
theorem c165 : k165.ok Tryz.prog dchk 165 = true := by kernel_rfl
theorem c166 : k166.ok Tryz.prog dchk 166 = true := by kernel_rfl
theorem c167 : k167.ok Tryz.prog dchk 167 = true := by kernel_rfl
theorem c168 : k168.ok Tryz.prog dchk 168 = true := by kernel_rfl
theorem c169 : k169.ok Tryz.prog dchk 169 = true := by kernel_rfl
theorem c170 : k170.ok Tryz.prog dchk 170 = true := by kernel_rfl
theorem c171 : k171.ok Tryz.prog dchk 171 = true := by kernel_rfl
theorem c172 : k172.ok Tryz.prog dchk 172 = true := by kernel_rfl
theorem c173 : k173.ok Tryz.prog dchk 173 = true := by kernel_rfl
theorem c174 : k174.ok Tryz.prog dchk 174 = true := by kernel_rfl
theorem c175 : k175.ok Tryz.prog dchk 175 = true := by kernel_rfl
theorem c176 : k176.ok Tryz.prog dchk 176 = true := by kernel_rfl
theorem c177 : k177.ok Tryz.prog dchk 177 = true := by kernel_rfl
theorem c178 : k178.ok Tryz.prog dchk 178 = true := by kernel_rfl
theorem c179 : k179.ok Tryz.prog dchk 179 = true := by kernel_rfl
theorem c180 : k180.ok Tryz.prog dchk 180 = true := by kernel_rfl
theorem c181 : k181.ok Tryz.prog dchk 181 = true := by kernel_rfl
theorem c182 : k182.ok Tryz.prog dchk 182 = true := by kernel_rfl
theorem c183 : k183.ok Tryz.prog dchk 183 = true := by kernel_rfl
theorem c184 : k184.ok Tryz.prog dchk 184 = true := by kernel_rfl
theorem c185 : k185.ok Tryz.prog dchk 185 = true := by kernel_rfl
theorem c186 : k186.ok Tryz.prog dchk 186 = true := by kernel_rfl
theorem c192 : k192.ok Tryz.prog dchk 192 = true := by kernel_rfl
theorem c193 : k193.ok Tryz.prog dchk 193 = true := by kernel_rfl
theorem c194 : k194.ok Tryz.prog dchk 194 = true := by kernel_rfl
theorem c195 : k195.ok Tryz.prog dchk 195 = true := by kernel_rfl
theorem c196 : k196.ok Tryz.prog dchk 196 = true := by kernel_rfl
theorem c197 : k197.ok Tryz.prog dchk 197 = true := by kernel_rfl
theorem c198 : k198.ok Tryz.prog dchk 198 = true := by kernel_rfl
theorem c199 : k199.ok Tryz.prog dchk 199 = true := by kernel_rfl
theorem c200 : k200.ok Tryz.prog dchk 200 = true := by kernel_rfl
theorem c201 : k201.ok Tryz.prog dchk 201 = true := by kernel_rfl
theorem c202 : k202.ok Tryz.prog dchk 202 = true := by kernel_rfl
theorem c203 : k203.ok Tryz.prog dchk 203 = true := by kernel_rfl
theorem c204 : k204.ok Tryz.prog dchk 204 = true := by kernel_rfl
theorem c205 : k205.ok Tryz.prog dchk 205 = true := by kernel_rfl
theorem c206 : k206.ok Tryz.prog dchk 206 = true := by kernel_rfl
theorem c207 : k207.ok Tryz.prog dchk 207 = true := by kernel_rfl
theorem c208 : k208.ok Tryz.prog dchk 208 = true := by kernel_rfl
theorem c209 : k209.ok Tryz.prog dchk 209 = true := by kernel_rfl
theorem c210 : k210.ok Tryz.prog dchk 210 = true := by kernel_rfl
theorem c211 : k211.ok Tryz.prog dchk 211 = true := by kernel_rfl
theorem c212 : k212.ok Tryz.prog dchk 212 = true := by kernel_rfl
theorem c213 : k213.ok Tryz.prog dchk 213 = true := by kernel_rfl
theorem c215 : k215.ok Tryz.prog dchk 215 = true := by kernel_rfl
theorem c216 : k216.ok Tryz.prog dchk 216 = true := by kernel_rfl
theorem c217 : k217.ok Tryz.prog dchk 217 = true := by kernel_rfl
theorem c218 : k218.ok Tryz.prog dchk 218 = true := by kernel_rfl
theorem c219 : k219.ok Tryz.prog dchk 219 = true := by kernel_rfl
theorem c220 : k220.ok Tryz.prog dchk 220 = true := by kernel_rfl
theorem c221 : k221.ok Tryz.prog dchk 221 = true := by kernel_rfl
theorem c222 : k222.ok Tryz.prog dchk 222 = true := by kernel_rfl
theorem c223 : k223.ok Tryz.prog dchk 223 = true := by kernel_rfl
theorem c224 : k224.ok Tryz.prog dchk 224 = true := by kernel_rfl
theorem c225 : k225.ok Tryz.prog dchk 225 = true := by kernel_rfl
theorem c226 : k226.ok Tryz.prog dchk 226 = true := by kernel_rfl
theorem c227 : k227.ok Tryz.prog dchk 227 = true := by kernel_rfl
theorem c228 : k228.ok Tryz.prog dchk 228 = true := by kernel_rfl
theorem c229 : k229.ok Tryz.prog dchk 229 = true := by kernel_rfl
theorem c233 : k233.ok Tryz.prog dchk 233 = true := by kernel_rfl
theorem c234 : k234.ok Tryz.prog dchk 234 = true := by kernel_rfl
theorem c235 : k235.ok Tryz.prog dchk 235 = true := by kernel_rfl
theorem c236 : k236.ok Tryz.prog dchk 236 = true := by kernel_rfl
theorem c237 : k237.ok Tryz.prog dchk 237 = true := by kernel_rfl
theorem c240 : k240.ok Tryz.prog dchk 240 = true := by kernel_rfl
theorem c241 : k241.ok Tryz.prog dchk 241 = true := by kernel_rfl
theorem c242 : k242.ok Tryz.prog dchk 242 = true := by kernel_rfl
theorem c243 : k243.ok Tryz.prog dchk 243 = true := by kernel_rfl
theorem c244 : k244.ok Tryz.prog dchk 244 = true := by kernel_rfl
theorem c245 : k245.ok Tryz.prog dchk 245 = true := by kernel_rfl
theorem c246 : k246.ok Tryz.prog dchk 246 = true := by kernel_rfl
theorem c247 : k247.ok Tryz.prog dchk 247 = true := by kernel_rfl
theorem c250 : k250.ok Tryz.prog dchk 250 = true := by kernel_rfl
theorem c251 : k251.ok Tryz.prog dchk 251 = true := by kernel_rfl
theorem c252 : k252.ok Tryz.prog dchk 252 = true := by kernel_rfl
theorem c253 : k253.ok Tryz.prog dchk 253 = true := by kernel_rfl
theorem c254 : k254.ok Tryz.prog dchk 254 = true := by kernel_rfl
theorem c255 : k255.ok Tryz.prog dchk 255 = true := by kernel_rfl
theorem c256 : k256.ok Tryz.prog dchk 256 = true := by kernel_rfl
theorem c257 : k257.ok Tryz.prog dchk 257 = true := by kernel_rfl
theorem c258 : k258.ok Tryz.prog dchk 258 = true := by kernel_rfl
theorem c259 : k259.ok Tryz.prog dchk 259 = true := by kernel_rfl
theorem c260 : k260.ok Tryz.prog dchk 260 = true := by kernel_rfl
theorem c261 : k261.ok Tryz.prog dchk 261 = true := by kernel_rfl
theorem c262 : k262.ok Tryz.prog dchk 262 = true := by kernel_rfl
theorem c263 : k263.ok Tryz.prog dchk 263 = true := by kernel_rfl
theorem c264 : k264.ok Tryz.prog dchk 264 = true := by kernel_rfl
theorem c275 : k275.ok Tryz.prog dchk 275 = true := by kernel_rfl
theorem c279 : k279.ok Tryz.prog dchk 279 = true := by kernel_rfl
theorem c280 : k280.ok Tryz.prog dchk 280 = true := by kernel_rfl
theorem c281 : k281.ok Tryz.prog dchk 281 = true := by kernel_rfl
theorem c282 : k282.ok Tryz.prog dchk 282 = true := by kernel_rfl
theorem c283 : k283.ok Tryz.prog dchk 283 = true := by kernel_rfl
theorem c287 : k287.ok Tryz.prog dchk 287 = true := by kernel_rfl
theorem c288 : k288.ok Tryz.prog dchk 288 = true := by kernel_rfl
theorem c295 : k295.ok Tryz.prog dchk 295 = true := by kernel_rfl
theorem c299 : k299.ok Tryz.prog dchk 299 = true := by kernel_rfl
theorem c300 : k300.ok Tryz.prog dchk 300 = true := by kernel_rfl
theorem cX : kIdx.ok Tryz.prog dchk 258 = true := by kernel_rfl
theorem e13 : (fun F => k13.body.den F) = d13 := cod_of (by kernel_rfl)
theorem e55 : (fun F => k55.body.den F) = d55 := cod_of (by kernel_rfl)
theorem e56 : (fun F => k56.body.den F) = d56 := cod_of (by kernel_rfl)
theorem e57 : (fun F => k57.body.den F) = d57 := cod_of (by kernel_rfl)
theorem e59 : (fun F => k59.body.den F) = d59 := cod_of (by kernel_rfl)
theorem e101 : (fun F => k101.body.den F) = d101 := cod_of (by kernel_rfl)
theorem e103 : (fun F => k103.body.den F) = d103 := cod_of (by kernel_rfl)
theorem e105 : (fun F => k105.body.den F) = d105 := cod_of (by kernel_rfl)
theorem e121 : (fun F => k121.body.den F) = d121 := cod_of (by kernel_rfl)
theorem e126 : (fun F => k126.body.den F) = d126 := cod_of (by kernel_rfl)
theorem e141 : (fun F => k141.body.den F) = d141 := cod_of (by kernel_rfl)
theorem e142 : (fun F => k142.body.den F) = d142 := cod_of (by kernel_rfl)
theorem e143 : (fun F => k143.body.den F) = d143 := cod_of (by kernel_rfl)
theorem e144 : (fun F => k144.body.den F) = d144 := cod_of (by kernel_rfl)
theorem e148 : (fun F => k148.body.den F) = d148 := cod_of (by kernel_rfl)
theorem e150 : (fun F => k150.body.den F) = d150 := cod_of (by kernel_rfl)
theorem e151 : (fun F => k151.body.den F) = d151 := cod_of (by kernel_rfl)
theorem e152 : (fun F => k152.body.den F) = d152 := cod_of (by kernel_rfl)
theorem e153 : (fun F => k153.body.den F) = d153 := cod_of (by kernel_rfl)
theorem e156 : (fun F => k156.body.den F) = d156 := cod_of (by kernel_rfl)
theorem e157 : (fun F => k157.body.den F) = d157 := cod_of (by kernel_rfl)
theorem e168 : (fun F => k168.body.den F) = d168 := cod_of (by kernel_rfl)
theorem e173 : (fun F => k173.body.den F) = d173 := cod_of (by kernel_rfl)
theorem e177 : (fun F => k177.body.den F) = d177 := cod_of (by kernel_rfl)
theorem e196 : (fun F => k196.body.den F) = d196 := cod_of (by kernel_rfl)
theorem e200 : (fun F => k200.body.den F) = d200 := cod_of (by kernel_rfl)
theorem e202 : (fun F => k202.body.den F) = d202 := cod_of (by kernel_rfl)
theorem e203 : (fun F => k203.body.den F) = d203 := cod_of (by kernel_rfl)
theorem e204 : (fun F => k204.body.den F) = d204 := cod_of (by kernel_rfl)
theorem e205 : (fun F => k205.body.den F) = d205 := cod_of (by kernel_rfl)
theorem e207 : (fun F => k207.body.den F) = d207 := cod_of (by kernel_rfl)
theorem e211 : (fun F => k211.body.den F) = d211 := cod_of (by kernel_rfl)
theorem e212 : (fun F => k212.body.den F) = d212 := cod_of (by kernel_rfl)
theorem e213 : (fun F => k213.body.den F) = d213 := cod_of (by kernel_rfl)
theorem e218 : (fun F => k218.body.den F) = d218 := cod_of (by kernel_rfl)
theorem e219 : (fun F => k219.body.den F) = d219 := cod_of (by kernel_rfl)
theorem e220 : (fun F => k220.body.den F) = d220 := cod_of (by kernel_rfl)
theorem e223 : (fun F => k223.body.den F) = d223 := cod_of (by kernel_rfl)
theorem e224 : (fun F => k224.body.den F) = d224 := cod_of (by kernel_rfl)
theorem e235 : (fun F => k235.body.den F) = d235 := cod_of (by kernel_rfl)
theorem e241 : (fun F => k241.body.den F) = d241 := cod_of (by kernel_rfl)
theorem e257 : (fun F => k257.body.den F) = d257 := cod_of (by kernel_rfl)
theorem e258 : (fun F => k258.body.den F) = d258 := cod_of (by kernel_rfl)
theorem e260 : (fun F => k260.body.den F) = d260 := cod_of (by kernel_rfl)
theorem e262 : (fun F => k262.body.den F) = d262 := cod_of (by kernel_rfl)
theorem e263 : (fun F => k263.body.den F) = d263 := cod_of (by kernel_rfl)
theorem mixed : Tryz.prog.follows .mixedOrders = true := by kernel_rfl
end Go.Ab.Tryz
