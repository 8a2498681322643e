/- Made by program: what maker.Generate comes to (rows that may be moved). -/
import Derived.Test.YtjleffkdaiaknaaGreatDoorCdCxq
import Derived.Test.YtjleffkdaiaknaaGreatDoorAbMv
namespace Go.Ab.Tryz
open Go Go.Ab
noncomputable section
def gz_0 : ABlk := hB [.s 1 97, .s 1 98] true 1
def gz_1 : ABlk := hB [.s 1 83] true 1
def gz_2 : ABlk := hB [hI 1, hI 100] true 1
def gz_3 : ABlk := hB [hI 2] true 1
def gz_4 : ABlk := hB [hI 100, hS 11 0 2 2, hI 100, hS 12 0 1 1] true 2
def gz_5 : ABlk := hB [hS 9 0 2 2, hS 10 0 1 1, hS 13 0 2 2, hS 24 0 5 5, hS 25 0 5 5, hS 27 0 5 5] true 0
def gz_6 : ABlk := hB [hI 18446744073709551615, hI 0, hI 0, hI 0, hI 0, hI 0, hI 1, hI 0, hI 0] true 3
def gz_7 : ABlk := .m [(hI 1, hI 1), (hI 2, hI 2), (hI 100, hI 3)]
def gz_8 : ABlk := hB [hI 0, hI 0, hI 0, hI 0, hI 1, hI 0, hI 1, hI 0, hI 0] true 3
def gz_9 : ABlk := .m [(hI 1, hI 1), (hI 2, hI 2), (hI 100, hI 4)]
def gz_10 : ABlk := hB [hI 1, hI 1, hI 0] true 3
def gz_11 : ABlk := .m []
def gz_12 : ABlk := hB [hI 18446744073709551615, hI 1, hI 0] true 3
def gz_13 : ABlk := hB [hI 0, hI 2, hI 0] true 3
def gz_14 : ABlk := hB [hS 15 0 3 3, hS 17 0 3 3, hS 19 0 1 1, hS 21 0 1 1, hS 23 0 1 1] true 1
def gz_15 : ABlk := hB [hI 0, hI 1, hI 2, hI 100, hI 100] true 1
def gz_16 : ABlk := hB [.x (.m 16), .x (.m 18), .x (.m 20), .x (.m 22), .x (.m 26)] true 1
def gz_17 : ABlk := hB [.p 14 0, hS 41 0 5 5] true 0
def gz_18 : ABlk := hB [hI 1, hI 1] true 2
def gz_19 : ABlk := hB [hI 1, hI 2] true 2
def gz_20 : ABlk := hB [hN, hS 29 0 1 1, hS 30 0 1 1] true 1
def gz_21 : ABlk := hB [hN, hS 32 0 1 1, hS 33 0 1 1] true 1
def gz_22 : ABlk := hB [hI 2, hI 1] true 2
def gz_23 : ABlk := hB [hS 35 0 1 1, hN, hN] true 1
def gz_24 : ABlk := hB [hI 3, hI 0] true 2
def gz_25 : ABlk := hB [hS 37 0 1 1, hN, hN] true 1
def gz_26 : ABlk := hB [hI 2, hI 0] true 2
def gz_27 : ABlk := hB [hS 39 0 1 1, hN, hN] true 1
def gz_28 : ABlk := hB [hS 31 0 3 3, hS 34 0 3 3, hS 36 0 3 3, hS 38 0 3 3, hS 40 0 3 3] true 1
def gz_29 : ABlk := hB [hI 0] true 1
def gz_30 : ABlk := hB [hI 1, hI 0] true 1
def gz_31 : ABlk := hB [hI 2, hI 1] true 1
def gz_32 : ABlk := hB [hI 0, hS 42 0 1 1, hI 1, hS 43 0 2 2, hI 2, hS 44 0 2 2] true 2
def m0 : MRow := ⟨[.s 11 12552649351518134175021651, hI 9, hI 100], 9, bs, .x (.tup [.x (.agg [.p 14 0, .p 28 0, hN, hN, hS 45 0 3 3]), hI 0, hI 0, hI 0]), [gz_0, gz_1, gz_2, gz_3, gz_4, gz_5, gz_6, gz_7, gz_8, gz_9, gz_10, gz_11, gz_12, gz_11, gz_13, gz_14, gz_15, gz_11, gz_16, gz_17, gz_18, gz_19, gz_20, gz_18, gz_19, gz_21, gz_22, gz_23, gz_24, gz_25, gz_26, gz_27, gz_28, gz_29, gz_30, gz_31, gz_32]⟩
def ks0 : List Nat := [101, 102, 105, 109, 111, 112, 116, 121, 125, 130, 133, 138, 141, 146, 152, 154, 156, 157, 159, 163, 181, 184, 186, 191, 194, 196, 199, 205, 208, 214, 217, 223, 225, 421, 427, 433, 435]
def m1 : MRow := ⟨[.s 16 13796586411167588154313834322659916371, hI 9, hI 100], 9, bs, .x (.tup [.x (.agg [.x .nilp, .x .nilp, hN, hN, hN]), hI 2, hI 1, hI 4]), []⟩
def ks1 : List Nat := []
def m2 : MRow := ⟨[.s 0 0, hI 9, hI 100], 9, bs, .x (.tup [.x (.agg [.x .nilp, .x .nilp, hN, hN, hN]), hI 0, hI 0, hI 2]), []⟩
def ks2 : List Nat := []
def gz_33 : ABlk := hB [.s 1 112, .s 1 105] true 1
def gz_34 : ABlk := hB [.s 1 69] true 1
def gz_35 : ABlk := hB [hI 100, hI 1, hI 100] true 1
def gz_36 : ABlk := hB [hI 100, hS 11 0 3 3, hI 100, hS 12 0 1 1] true 2
def gz_37 : ABlk := hB [hI 18446744073709551615, hI 0, hI 0, hI 0, hI 0, hI 0, hI 0, hI 0, hI 1, hI 1, hI 0, hI 0, hI 1, hI 0, hI 1] true 3
def gz_38 : ABlk := .m [(hI 2, hI 1), (hI 100, hI 2)]
def gz_39 : ABlk := hB [hI 1, hI 1, hI 0, hI 1, hI 1, hI 1] true 3
def gz_40 : ABlk := hB [hI 18446744073709551615, hI 1, hI 0, hI 0, hI 1, hI 0, hI 0, hI 1, hI 1] true 3
def gz_41 : ABlk := .m [(hI 1, hI 3)]
def gz_42 : ABlk := hB [hI 0, hI 0, hI 0, hI 0, hI 0, hI 1, hI 0, hI 2, hI 0, hI 0, hI 2, hI 1, hI 1, hI 0, hI 0, hI 1, hI 0, hI 1] true 3
def gz_43 : ABlk := .m [(hI 2, hI 1), (hI 100, hI 4)]
def gz_44 : ABlk := hB [hI 0, hI 1, hI 0, hI 0, hI 1, hI 1, hI 0, hI 3, hI 0, hI 0, hI 3, hI 1] true 3
def gz_45 : ABlk := hB [hS 15 0 5 5, hS 17 0 2 2, hS 19 0 3 3, hS 21 0 6 6, hS 23 0 4 4] true 1
def gz_46 : ABlk := hB [hI 0, hI 2, hI 100, hI 1, hI 100] true 1
def gz_47 : ABlk := hB [.p 14 0, hS 42 0 5 5] true 0
def gz_48 : ABlk := hB [hN, hN, hS 29 0 1 1] true 1
def gz_49 : ABlk := hB [hS 31 0 1 1, hS 32 0 1 1, hN] true 1
def gz_50 : ABlk := hB [hI 1, hI 3] true 2
def gz_51 : ABlk := hB [hS 34 0 1 1, hS 35 0 1 1, hN] true 1
def gz_52 : ABlk := hB [hN, hN, hS 37 0 1 1] true 1
def gz_53 : ABlk := hB [hI 1, hI 3, hI 2, hI 0] true 2
def gz_54 : ABlk := hB [hS 39 0 1 1, hS 40 0 2 2, hN] true 1
def gz_55 : ABlk := hB [hS 30 0 3 3, hS 33 0 3 3, hS 36 0 3 3, hS 38 0 3 3, hS 41 0 3 3] true 1
def gz_56 : ABlk := hB [hI 4, hI 1, hI 1, hI 3, hI 2, hI 0] true 6
def gz_57 : ABlk := hB [hI 100, hI 18446744073709551615, hN, hI 1, hI 18446744073709551615, hN, hI 100, hI 18446744073709551615, hN] true 3
def gz_58 : ABlk := hB [hI 100, hI 18446744073709551615, hN, hI 1, hI 18446744073709551615, hN, hI 100, hI 0, hS 44 0 3 3] true 3
def gz_59 : ABlk := hB [hI 100, hI 0, hS 46 0 3 3, hI 1, hI 18446744073709551615, hN, hI 100, hI 18446744073709551615, hN] true 3
def gz_60 : ABlk := hB [hI 4, hI 1, hI 1, hI 3, hI 2, hI 0, hT, hI 100, hI 100, hI 0, hS 45 0 3 3, hI 100, hI 0, hS 47 0 3 3, hN, hI 0, hI 0, hN, hI 0, hI 0, hN] true 21
def m3 : MRow := ⟨[.s 13 824816822968833066951617034821, hI 30, hI 100], 9, bs, .x (.tup [.x (.agg [.p 14 0, .p 28 0, hS 43 0 1 1, hS 48 0 1 1, hN]), hI 0, hI 0, hI 0]), [gz_33, gz_34, gz_35, gz_3, gz_36, gz_5, gz_37, gz_38, gz_39, gz_11, gz_40, gz_41, gz_42, gz_43, gz_44, gz_45, gz_46, gz_41, gz_16, gz_47, gz_18, gz_48, gz_22, gz_22, gz_49, gz_24, gz_50, gz_51, gz_18, gz_52, gz_26, gz_53, gz_54, gz_55, gz_56, gz_57, gz_58, gz_57, gz_59, gz_60]⟩
def ks3 : List Nat := [106, 107, 110, 114, 116, 117, 121, 126, 130, 135, 138, 143, 148, 153, 158, 160, 162, 163, 165, 168, 188, 190, 193, 196, 200, 203, 206, 210, 217, 219, 222, 225, 229, 231, 232, 765, 767, 790, 802, 821]
def Tz : BT KFn := BT.set (.prim (pMov [m0, m1, m2, m3])) Tx_11 24
end
end Go.Ab.Tryz
