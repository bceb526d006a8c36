import Derived.Test.YtabghncdppfllaaTNums
set_option linter.unusedVariables false
set_option linter.unusedSimpArgs false
set_option linter.defProp false
set_option maxRecDepth 100000
namespace TT
open Go
def k_laws_FnExactAlign : F := ⟨92, [.tmp 4],
  (.seq (.h [.kill [4]] (.reg false [oo 4 (.mv (.c (.bool false)))]))
  (.seq (.reg false [oo 5 (.mv (.c (.int .i64 1048576)))])
  (.seq (.h [.kill [14, 15, 16]] (.reg false [oo 14 (.mv (.s 0)),
   oo 15 (.mv (.s 5)),
   oo 16 (.call n_laws_szNodeS [] [] [(.s 14), (.s 15)]),
   oo 5 (.mv (.s 16))]))
  (.seq (.seq (.h [.kill [17]] (.reg false [oo 17 (.mv (.s 5)),
   oo 18 (.bin .lss (.s 17) (.c (.int .i64 0)))]))
  (.cond (.s 18)
   (.seq (.h [.kill [0, 1, 5, 18]] (.reg false [oo 4 (.mv (.c (.bool true)))]))
   .ret)
   .skip))
  (.seq (.h [.kill [18, 19, 20, 21]] (.reg false [oo 19 (.mv (.s 1)),
   oo 20 (.mv (.s 5)),
   oo 21 (.call n_laws_szNodeS [] [] [(.s 19), (.s 20)]),
   oo 5 (.mv (.s 21))]))
  (.seq (.seq (.h [.kill [5, 22]] (.reg false [oo 22 (.mv (.s 5)),
   oo 23 (.bin .lss (.s 22) (.c (.int .i64 0)))]))
  (.cond (.s 23)
   (.seq (.h [.kill [0, 1, 23]] (.reg false [oo 4 (.mv (.c (.bool true)))]))
   .ret)
   .skip))
  (.seq (.h [.kill [23, 24, 25, 26, 27, 28]] (.reg false [oo 24 (.mv (.s 0)),
   oo 25 (.call n_laws_toNodeS [] [true] [(.s 24)]),
   oo 26 (.mv (.s 1)),
   oo 27 (.call n_laws_toNodeS [] [true] [(.s 26)]),
   oo 28 (.call n_spec_Align [] [true] [(.s 25), (.s 27)]),
   oo 6 (.mv (.s 28))]))
  (.seq (.h [.kill [29, 30]] (.reg false [oo 29 (.mv (.s 0)),
   oo 30 (.call n_laws_toNodeS [] [true] [(.s 29)]),
   oo 7 (.mv (.s 30))]))
  (.seq (.h [.kill [31, 32]] (.reg false [oo 31 (.mv (.s 1)),
   oo 32 (.call n_laws_toNodeS [] [true] [(.s 31)]),
   oo 8 (.mv (.s 32))]))
  (.seq (.h [.kill [33, 34, 35]] (.reg false [oo 33 (.mv (.s 7)),
   oo 34 (.mv (.s 8)),
   oo 35 (.call n_impl_Align [] [true] [(.s 33), (.s 34)]),
   oo 9 (.mv (.s 35))]))
  (.seq (.seq (.h [.kill [36, 37, 38]] (.reg false [oo 36 (.mv (.s 9)),
   oo 37 (.mv (.s 6)),
   oo 38 (.call n_laws_eqIntS [] [] [(.s 36), (.s 37)]),
   oo 39 (.un .not (.s 38))]))
  (.cond (.s 39)
   (.seq (.h [.kill [0, 1, 6, 7, 8, 9, 39]] (.reg false [oo 4 (.mv (.c (.bool false)))]))
   .ret)
   .skip))
  (.seq (.seq (.h [.kill [39, 40, 41, 42, 43]] (.reg false [oo 40 (.mv (.s 7)),
   oo 41 (.mv (.s 0)),
   oo 42 (.call n_laws_toNodeS [] [true] [(.s 41)]),
   oo 43 (.call n_laws_eqNodeS [] [] [(.s 40), (.s 42)]),
   oo 44 (.un .not (.s 43))]))
  (.cond (.s 44)
   (.seq (.h [.kill [0, 1, 6, 7, 8, 9, 44]] (.reg false [oo 4 (.mv (.c (.bool false)))]))
   .ret)
   .skip))
  (.seq (.seq (.h [.kill [44, 45, 46, 47, 48]] (.reg false [oo 45 (.mv (.s 8)),
   oo 46 (.mv (.s 1)),
   oo 47 (.call n_laws_toNodeS [] [true] [(.s 46)]),
   oo 48 (.call n_laws_eqNodeS [] [] [(.s 45), (.s 47)]),
   oo 49 (.un .not (.s 48))]))
  (.cond (.s 49)
   (.seq (.h [.kill [0, 1, 6, 7, 8, 9, 49]] (.reg false [oo 4 (.mv (.c (.bool false)))]))
   .ret)
   .skip))
  (.seq (.h [.kill [49]] (.reg false [oo 10 (.mv (.c (.int .i64 1)))]))
  (.seq (.h [.kill [7, 50, 51, 52]] (.reg false [oo 50 (.mv (.s 7)),
   oo 51 (.mv (.s 10)),
   oo 52 (.call n_laws_markNodeS [.ref] [] [(.s 50), (.s 51)]),
   oo 10 (.mv (.s 52))]))
  (.seq (.h [.kill [8, 53, 54, 55]] (.reg false [oo 53 (.mv (.s 8)),
   oo 54 (.mv (.s 10)),
   oo 55 (.call n_laws_markNodeS [.ref] [] [(.s 53), (.s 54)]),
   oo 10 (.mv (.s 55))]))
  (.seq (.seq (.h [.kill [10, 56, 57, 58, 59, 60, 61, 62]] (.reg false [oo 56 (.mv (.s 10)),
   oo 57 (.bin .lss (.s 56) (.c (.int .i64 0))),
   oo 58 (.mv (.s 57)),
   ow 59 58 false (.mv (.s 9)),
   ow 60 58 false (.mv (.s 6)),
   ow 61 58 false (.call n_laws_eqIntS [] [] [(.s 59), (.s 60)]),
   ow 62 58 false (.un .not (.s 61)),
   oo 63 (.pick (.s 58) (.c (.bool true)) (.s 62))]))
  (.cond (.s 63)
   (.seq (.h [.kill [0, 1, 6, 9, 63]] (.reg false [oo 4 (.mv (.c (.bool false)))]))
   .ret)
   .skip))
  (.seq (.h [.kill [63]] (.reg false [oo 11 (.mv (.c (.int .i64 1)))]))
  (.seq (.h [.kill [64, 65, 66]] (.reg false [oo 64 (.mv (.s 9)),
   oo 65 (.mv (.s 11)),
   oo 66 (.call n_laws_markIntS [.ref] [] [(.s 64), (.s 65)]),
   oo 11 (.mv (.s 66))]))
  (.seq (.reg false [oo 12 (.mv (.c (.int .i64 1)))])
  (.seq (.h [.kill [67, 68, 69]] (.reg false [oo 67 (.mv (.s 9)),
   oo 68 (.mv (.s 12)),
   oo 69 (.call n_laws_heldIntS [] [] [(.s 67), (.s 68)]),
   oo 12 (.mv (.s 69))]))
  (.seq (.seq (.h [.kill [70]] (.reg false [oo 70 (.mv (.s 12)),
   oo 71 (.bin .lss (.s 70) (.c (.int .i64 0)))]))
  (.cond (.s 71)
   (.seq (.h [.kill [0, 1, 6, 9, 11, 12, 71]] (.reg false [oo 4 (.mv (.c (.bool false)))]))
   .ret)
   .skip))
  (.seq (.seq (.h [.kill [12, 71, 72, 73]] (.reg false [oo 72 (.mv (.s 12)),
   oo 73 (.mv (.s 11)),
   oo 74 (.bin .neq (.s 72) (.s 73))]))
  (.cond (.s 74)
   (.seq (.h [.kill [0, 1, 6, 9, 11, 74]] (.reg false [oo 4 (.mv (.c (.bool false)))]))
   .ret)
   .skip))
  (.seq (.h [.kill [0, 1, 74, 75, 76, 77, 78, 79]] (.reg false [oo 75 (.mv (.s 0)),
   oo 76 (.call n_laws_toNodeS [] [true] [(.s 75)]),
   oo 77 (.mv (.s 1)),
   oo 78 (.call n_laws_toNodeS [] [true] [(.s 77)]),
   oo 79 (.call n_impl_Align [] [true] [(.s 76), (.s 78)]),
   oo 13 (.mv (.s 79))]))
  (.seq (.seq (.h [.kill [6, 13, 80, 81, 82]] (.reg false [oo 80 (.mv (.s 13)),
   oo 81 (.mv (.s 6)),
   oo 82 (.call n_laws_eqIntS [] [] [(.s 80), (.s 81)]),
   oo 83 (.un .not (.s 82))]))
  (.cond (.s 83)
   (.seq (.h [.kill [9, 11, 83]] (.reg false [oo 4 (.mv (.c (.bool false)))]))
   .ret)
   .skip))
  (.seq (.h [.kill [83]] (.reg false [oo 12 (.mv (.c (.int .i64 1)))]))
  (.seq (.h [.kill [9, 84, 85, 86]] (.reg false [oo 84 (.mv (.s 9)),
   oo 85 (.mv (.s 12)),
   oo 86 (.call n_laws_heldIntS [] [] [(.s 84), (.s 85)]),
   oo 12 (.mv (.s 86))]))
  (.seq (.seq (.h [.kill [87]] (.reg false [oo 87 (.mv (.s 12)),
   oo 88 (.bin .lss (.s 87) (.c (.int .i64 0)))]))
  (.cond (.s 88)
   (.seq (.h [.kill [11, 12, 88]] (.reg false [oo 4 (.mv (.c (.bool false)))]))
   .ret)
   .skip))
  (.seq (.seq (.h [.kill [11, 12, 88, 89, 90]] (.reg false [oo 89 (.mv (.s 12)),
   oo 90 (.mv (.s 11)),
   oo 91 (.bin .neq (.s 89) (.s 90))]))
  (.cond (.s 91)
   (.seq (.h [.kill [91]] (.reg false [oo 4 (.mv (.c (.bool false)))]))
   .ret)
   .skip))
  (.seq (.h [.kill [91]] (.reg false [oo 4 (.mv (.c (.bool true)))]))
  .ret))))))))))))))))))))))))))))))⟩

def k_laws_szNodeS_l16 : K :=
  (.h [.clean []] (.seq (.seq (.h [.kill [12, 13, 14]] (.reg false [oo 12 (.mv (.s 5)),
   oo 13 (.mv (.s 0)),
   oo 14 (.len false (.s 13)),
   oo 15 (.bin .lss (.s 12) (.s 14))]))
  (.cond (.s 15)
   .skip
   (.ex 0)))
  (.seq (.blk 1
   (.seq (.h [.kill [15, 18, 19, 20, 21, 22, 23]] (.reg false [oo 18 (.mv (.s 0)),
    oo 19 (.mv (.s 5)),
    oo 20 (.ia 8 (.s 18) (.s 19)),
    oo 21 (.ld 8 true (.s 20)),
    oo 22 (.mv (.s 1)),
    oo 23 (.call n_laws_szNode [] [] [(.s 21), (.s 22)]),
    oo 1 (.mv (.s 23))]))
   (.seq (.h [.kill [24]] (.reg false [oo 24 (.mv (.s 1)),
    oo 25 (.bin .lss (.s 24) (.c (.int .i64 0)))]))
   (.cond (.s 25)
    (.seq (.h [.kill [0, 1, 5, 25]] (.reg false [oo 4 (.mv (.c (.int .i64 (-1))))]))
    .ret)
    .skip))))
  (.h [.kill [16, 17, 25]] (.reg false [oo 16 (.mv (.s 5)),
   oo 17 (.bin .add (.s 16) (.c (.int .i64 1))),
   oo 5 (.mv (.s 17))])))))
def k_laws_szNodeS_r12 : K :=
  (.seq (.h [.kill [0, 1, 5, 15, 26]] (.reg false [oo 26 (.mv (.s 1)),
   oo 4 (.mv (.s 26))]))
  .ret)
def k_laws_szNodeS : F := ⟨27, [.tmp 4],
  (.seq (.h [.kill [4]] (.reg false [oo 4 (.mv (.c (.int .i64 0)))]))
  (.seq (.h [.kill [6, 7, 8, 9]] (.reg false [oo 6 (.mv (.s 1)),
   oo 7 (.mv (.s 0)),
   oo 8 (.len false (.s 7)),
   oo 9 (.bin .sub (.s 6) (.s 8)),
   oo 1 (.mv (.s 9))]))
  (.seq (.seq (.h [.kill [10]] (.reg false [oo 10 (.mv (.s 1)),
   oo 11 (.bin .lss (.s 10) (.c (.int .i64 0)))]))
  (.cond (.s 11)
   (.seq (.h [.kill [0, 1, 11]] (.reg false [oo 4 (.mv (.c (.int .i64 (-1))))]))
   .ret)
   .skip))
  (.seq (.seq (.h [.clean []] (.h [.kill [11]] (.reg false [oo 5 (.mv (.c (.int .i64 0)))])))
  (.blk 0
   (.loop k_laws_szNodeS_l16)))
  k_laws_szNodeS_r12))))⟩

def k_laws_toNodeS_l8 : K :=
  (.h [.clean [20]] (.seq (.seq (.h [.kill [8, 9, 10]] (.reg false [oo 8 (.mv (.s 4)),
   oo 9 (.mv (.s 0)),
   oo 10 (.len false (.s 9)),
   oo 11 (.bin .lss (.s 8) (.s 10))]))
  (.cond (.s 11)
   .skip
   (.ex 0)))
  (.seq (.blk 1
   (.h [.kill [11, 14, 15, 16, 17, 18, 19, 20, 21]] (.reg false [oo 14 (.mv (.s 3)),
    oo 15 (.mv (.s 4)),
    oo 16 (.mv (.s 0)),
    oo 17 (.mv (.s 4)),
    oo 18 (.ia 8 (.s 16) (.s 17)),
    oo 19 (.ld 8 true (.s 18)),
    oo 20 (.call n_laws_toNode [] [true] [(.s 19)]),
    oo 21 (.ia 8 (.s 14) (.s 15)),
    on (.st 8 (.s 21) (.s 20))])))
  (.h [.kill [12, 13]] (.reg false [oo 12 (.mv (.s 4)),
   oo 13 (.bin .add (.s 12) (.c (.int .i64 1))),
   oo 4 (.mv (.s 13))])))))
def k_laws_toNodeS_r4 : K :=
  (.seq (.h [.kill [0, 3, 4, 11, 22]] (.reg false [oo 22 (.mv (.s 3)),
   oo 2 (.mv (.s 22))]))
  .ret)
def k_laws_toNodeS : F := ⟨23, [.tmp 2],
  (.seq (.h [.kill [2]] (.reg false [oo 2 (.mv (.c (.slice none 0 0)))]))
  (.seq (.h [.kill [5, 6, 7]] (.reg false [oo 5 (.mv (.s 0)),
   oo 6 (.len false (.s 5)),
   oo 7 (.mks [.v (.int .i64 0), .v (.string ⟨#[]⟩), .v (.string ⟨#[]⟩), .v (.string ⟨#[]⟩), .sl true [], .sl true [], .sl true [], .v (.string ⟨#[]⟩)] 144 (.s 6)),
   oo 3 (.mv (.s 7))]))
  (.seq (.seq (.h [.clean []] (.reg false [oo 4 (.mv (.c (.int .i64 0)))]))
  (.blk 0
   (.loop k_laws_toNodeS_l8)))
  k_laws_toNodeS_r4)))⟩

def k_spec_Align_l12 : K :=
  (.h [.clean [22, 40, 65]] (.seq (.seq (.h [.kill [13, 14, 15]] (.reg false [oo 13 (.mv (.s 8)),
   oo 14 (.mv (.s 0)),
   oo 15 (.len false (.s 14)),
   oo 16 (.bin .lss (.s 13) (.s 15))]))
  (.cond (.s 16)
   .skip
   (.ex 0)))
  (.blk 1
   (.seq (.seq (.h [.kill [16, 17, 18, 19]] (.reg false [oo 17 (.mv (.s 7)),
    oo 18 (.mv (.s 1)),
    oo 19 (.len false (.s 18)),
    oo 20 (.bin .eql (.s 17) (.s 19))]))
   (.cond (.s 20)
    (.seq (.h [.kill [20, 21, 22, 23]] (.reg false [oo 21 (.mv (.s 6)),
     oo 22 (.bsl 1 [(.c (.int .i64 (-1)))]),
     oo 23 (.app 1 8 (.s 21) (.s 22)),
     oo 6 (.mv (.s 23))]))
    (.seq (.h [.kill [24, 25]] (.reg false [oo 24 (.mv (.s 8)),
     oo 25 (.bin .add (.s 24) (.c (.int .i64 1))),
     oo 8 (.mv (.s 25))]))
    (.ex 1)))
    .skip))
   (.blk 2
    (.seq (.h [.kill [20, 29, 30, 31, 32, 33, 34, 35, 36, 37]] (.reg true [⟨some 29, none, .mv (.s 0), [], []⟩,
     ⟨some 30, none, .mv (.s 8), [], []⟩,
     ⟨some 31, none, .ia 8 (.s 29) (.s 30), [0], []⟩,
     ⟨some 32, none, .ld 8 true (.s 31), [0], []⟩,
     ⟨some 33, none, .mv (.s 1), [], []⟩,
     ⟨some 34, none, .mv (.s 7), [], []⟩,
     ⟨some 35, none, .ia 8 (.s 33) (.s 34), [1], []⟩,
     ⟨some 36, none, .ld 8 true (.s 35), [1], []⟩,
     ⟨some 37, none, .call n_spec_SameNode [] [] [(.s 32), (.s 36)], [0, 1], []⟩,
     ⟨some 28, none, .mv (.s 37), [], []⟩]))
    (.cond (.s 28)
     (.seq (.h [.kill [28, 38, 39, 40, 41]] (.reg false [oo 38 (.mv (.s 6)),
      oo 39 (.mv (.s 7)),
      oo 40 (.bsl 1 [(.s 39)]),
      oo 41 (.app 1 8 (.s 38) (.s 40)),
      oo 6 (.mv (.s 41))]))
     (.seq (.h [.kill [42, 43]] (.reg false [oo 42 (.mv (.s 8)),
      oo 43 (.bin .add (.s 42) (.c (.int .i64 1))),
      oo 8 (.mv (.s 43))]))
     (.h [.kill [44, 45]] (.reg false [oo 44 (.mv (.s 7)),
      oo 45 (.bin .add (.s 44) (.c (.int .i64 1))),
      oo 7 (.mv (.s 45))]))))
     (.seq (.h [.kill [28, 47, 48, 49, 50, 51, 52, 53, 54, 55, 56, 57, 58, 59, 60, 61, 62, 63]] (.reg true [⟨some 47, none, .mv (.s 5), [], []⟩,
      ⟨some 48, none, .mv (.s 8), [], []⟩,
      ⟨some 49, none, .bin .add (.s 48) (.c (.int .i64 1)), [], []⟩,
      ⟨some 50, none, .ia 1 (.s 47) (.s 49), [11], []⟩,
      ⟨some 51, none, .ld 1 false (.s 50), [11], []⟩,
      ⟨some 52, none, .mv (.s 7), [], []⟩,
      ⟨some 53, none, .ia 1 (.s 51) (.s 52), [11], []⟩,
      ⟨some 54, none, .ld 1 false (.s 53), [11], []⟩,
      ⟨some 55, none, .mv (.s 5), [], []⟩,
      ⟨some 56, none, .mv (.s 8), [], []⟩,
      ⟨some 57, none, .ia 1 (.s 55) (.s 56), [11], []⟩,
      ⟨some 58, none, .ld 1 false (.s 57), [11], []⟩,
      ⟨some 59, none, .mv (.s 7), [], []⟩,
      ⟨some 60, none, .bin .add (.s 59) (.c (.int .i64 1)), [], []⟩,
      ⟨some 61, none, .ia 1 (.s 58) (.s 60), [11], []⟩,
      ⟨some 62, none, .ld 1 false (.s 61), [11], []⟩,
      ⟨some 63, none, .bin .geq (.s 54) (.s 62), [], []⟩,
      ⟨some 46, none, .mv (.s 63), [], []⟩]))
     (.cond (.s 46)
      (.seq (.h [.kill [46, 64, 65, 66]] (.reg false [oo 64 (.mv (.s 6)),
       oo 65 (.bsl 1 [(.c (.int .i64 (-1)))]),
       oo 66 (.app 1 8 (.s 64) (.s 65)),
       oo 6 (.mv (.s 66))]))
      (.h [.kill [67, 68]] (.reg false [oo 67 (.mv (.s 8)),
       oo 68 (.bin .add (.s 67) (.c (.int .i64 1))),
       oo 8 (.mv (.s 68))])))
      (.h [.kill [26, 27, 46]] (.reg false [oo 26 (.mv (.s 7)),
       oo 27 (.bin .add (.s 26) (.c (.int .i64 1))),
       oo 7 (.mv (.s 27))])))))))))))
def k_spec_Align_r8 : K :=
  (.seq (.h [.kill [0, 1, 5, 6, 7, 8, 16, 69]] (.reg false [oo 69 (.mv (.s 6)),
   oo 4 (.mv (.s 69))]))
  .ret)
def k_spec_Align : F := ⟨70, [.tmp 4],
  (.seq (.h [.kill [4]] (.reg false [oo 4 (.mv (.c (.slice none 0 0)))]))
  (.seq (.h [.kill [9, 10, 11]] (.reg false [oo 9 (.mv (.s 0)),
   oo 10 (.mv (.s 1)),
   oo 11 (.call n_spec_l17Table [] [true] [(.s 9), (.s 10)]),
   oo 5 (.mv (.s 11))]))
  (.seq (.h [.kill [12]] (.reg false [oo 12 (.bsl 1 []),
   oo 6 (.mv (.s 12))]))
  (.seq (.reg false [oo 7 (.mv (.c (.int .i64 0)))])
  (.seq (.seq (.h [.clean []] (.reg false [oo 8 (.mv (.c (.int .i64 0)))]))
  (.blk 0
   (.loop k_spec_Align_l12)))
  k_spec_Align_r8)))))⟩

def k_impl_Align_l12 : K :=
  (.h [.clean [25, 41, 66]] (.seq (.seq (.h [.kill [13, 14, 15]] (.reg false [oo 13 (.mv (.s 8)),
   oo 14 (.mv (.s 0)),
   oo 15 (.len false (.s 14)),
   oo 16 (.bin .lss (.s 13) (.s 15))]))
  (.cond (.s 16)
   .skip
   (.ex 0)))
  (.blk 1
   (.blk 2
    (.seq (.h [.kill [16, 20, 21, 22, 23]] (.reg false [oo 20 (.mv (.s 7)),
     oo 21 (.mv (.s 1)),
     oo 22 (.len false (.s 21)),
     oo 23 (.bin .eql (.s 20) (.s 22)),
     oo 19 (.mv (.s 23))]))
    (.cond (.s 19)
     (.seq (.h [.kill [19, 24, 25, 26]] (.reg false [oo 24 (.mv (.s 6)),
      oo 25 (.bsl 1 [(.c (.int .i64 (-1)))]),
      oo 26 (.app 1 8 (.s 24) (.s 25)),
      oo 6 (.mv (.s 26))]))
     (.h [.kill [27, 28]] (.reg false [oo 27 (.mv (.s 8)),
      oo 28 (.bin .add (.s 27) (.c (.int .i64 1))),
      oo 8 (.mv (.s 28))])))
     (.seq (.h [.kill [19, 30, 31, 32, 33, 34, 35, 36, 37, 38]] (.reg true [⟨some 30, none, .mv (.s 0), [], []⟩,
      ⟨some 31, none, .mv (.s 8), [], []⟩,
      ⟨some 32, none, .ia 8 (.s 30) (.s 31), [0], []⟩,
      ⟨some 33, none, .ld 8 true (.s 32), [0], []⟩,
      ⟨some 34, none, .mv (.s 1), [], []⟩,
      ⟨some 35, none, .mv (.s 7), [], []⟩,
      ⟨some 36, none, .ia 8 (.s 34) (.s 35), [1], []⟩,
      ⟨some 37, none, .ld 8 true (.s 36), [1], []⟩,
      ⟨some 38, none, .call n_impl_SameNode [] [] [(.s 33), (.s 37)], [0, 1], []⟩,
      ⟨some 29, none, .mv (.s 38), [], []⟩]))
     (.cond (.s 29)
      (.seq (.h [.kill [29, 39, 40, 41, 42]] (.reg false [oo 39 (.mv (.s 6)),
       oo 40 (.mv (.s 7)),
       oo 41 (.bsl 1 [(.s 40)]),
       oo 42 (.app 1 8 (.s 39) (.s 41)),
       oo 6 (.mv (.s 42))]))
      (.seq (.h [.kill [43, 44]] (.reg false [oo 43 (.mv (.s 8)),
       oo 44 (.bin .add (.s 43) (.c (.int .i64 1))),
       oo 8 (.mv (.s 44))]))
      (.h [.kill [45, 46]] (.reg false [oo 45 (.mv (.s 7)),
       oo 46 (.bin .add (.s 45) (.c (.int .i64 1))),
       oo 7 (.mv (.s 46))]))))
      (.seq (.h [.kill [29, 48, 49, 50, 51, 52, 53, 54, 55, 56, 57, 58, 59, 60, 61, 62, 63, 64]] (.reg true [⟨some 48, none, .mv (.s 5), [], []⟩,
       ⟨some 49, none, .mv (.s 8), [], []⟩,
       ⟨some 50, none, .bin .add (.s 49) (.c (.int .i64 1)), [], []⟩,
       ⟨some 51, none, .ia 1 (.s 48) (.s 50), [11], []⟩,
       ⟨some 52, none, .ld 1 false (.s 51), [11], []⟩,
       ⟨some 53, none, .mv (.s 7), [], []⟩,
       ⟨some 54, none, .ia 1 (.s 52) (.s 53), [11], []⟩,
       ⟨some 55, none, .ld 1 false (.s 54), [11], []⟩,
       ⟨some 56, none, .mv (.s 5), [], []⟩,
       ⟨some 57, none, .mv (.s 8), [], []⟩,
       ⟨some 58, none, .ia 1 (.s 56) (.s 57), [11], []⟩,
       ⟨some 59, none, .ld 1 false (.s 58), [11], []⟩,
       ⟨some 60, none, .mv (.s 7), [], []⟩,
       ⟨some 61, none, .bin .add (.s 60) (.c (.int .i64 1)), [], []⟩,
       ⟨some 62, none, .ia 1 (.s 59) (.s 61), [11], []⟩,
       ⟨some 63, none, .ld 1 false (.s 62), [11], []⟩,
       ⟨some 64, none, .bin .geq (.s 55) (.s 63), [], []⟩,
       ⟨some 47, none, .mv (.s 64), [], []⟩]))
      (.cond (.s 47)
       (.seq (.h [.kill [47, 65, 66, 67]] (.reg false [oo 65 (.mv (.s 6)),
        oo 66 (.bsl 1 [(.c (.int .i64 (-1)))]),
        oo 67 (.app 1 8 (.s 65) (.s 66)),
        oo 6 (.mv (.s 67))]))
       (.h [.kill [68, 69]] (.reg false [oo 68 (.mv (.s 8)),
        oo 69 (.bin .add (.s 68) (.c (.int .i64 1))),
        oo 8 (.mv (.s 69))])))
       (.h [.kill [17, 18, 47]] (.reg false [oo 17 (.mv (.s 7)),
        oo 18 (.bin .add (.s 17) (.c (.int .i64 1))),
        oo 7 (.mv (.s 18))]))))))))))))
def k_impl_Align_r8 : K :=
  (.seq (.h [.kill [0, 1, 5, 6, 7, 8, 16, 70]] (.reg false [oo 70 (.mv (.s 6)),
   oo 4 (.mv (.s 70))]))
  .ret)
def k_impl_Align : F := ⟨71, [.tmp 4],
  (.seq (.h [.kill [4]] (.reg false [oo 4 (.mv (.c (.slice none 0 0)))]))
  (.seq (.h [.kill [9, 10, 11]] (.reg false [oo 9 (.mv (.s 0)),
   oo 10 (.mv (.s 1)),
   oo 11 (.call n_impl_longest [] [true] [(.s 9), (.s 10)]),
   oo 5 (.mv (.s 11))]))
  (.seq (.h [.kill [12]] (.reg false [oo 12 (.bsl 1 []),
   oo 6 (.mv (.s 12))]))
  (.seq (.reg false [oo 7 (.mv (.c (.int .i64 0)))])
  (.seq (.seq (.h [.clean []] (.reg false [oo 8 (.mv (.c (.int .i64 0)))]))
  (.blk 0
   (.loop k_impl_Align_l12)))
  k_impl_Align_r8)))))⟩

def k_laws_eqIntS_l14 : K :=
  (.h [.clean []] (.seq (.seq (.h [.kill [11, 12, 13]] (.reg false [oo 11 (.mv (.s 5)),
   oo 12 (.mv (.s 0)),
   oo 13 (.len false (.s 12)),
   oo 14 (.bin .lss (.s 11) (.s 13))]))
  (.cond (.s 14)
   .skip
   (.ex 0)))
  (.seq (.blk 1
   (.seq (.h [.kill [14, 17, 18, 19, 20, 21, 22, 23, 24]] (.reg true [⟨some 17, none, .mv (.s 0), [], []⟩,
    ⟨some 18, none, .mv (.s 5), [], []⟩,
    ⟨some 19, none, .ia 1 (.s 17) (.s 18), [0], []⟩,
    ⟨some 20, none, .ld 1 false (.s 19), [0], []⟩,
    ⟨some 21, none, .mv (.s 1), [], []⟩,
    ⟨some 22, none, .mv (.s 5), [], []⟩,
    ⟨some 23, none, .ia 1 (.s 21) (.s 22), [1], []⟩,
    ⟨some 24, none, .ld 1 false (.s 23), [1], []⟩,
    ⟨some 25, none, .bin .neq (.s 20) (.s 24), [], []⟩]))
   (.cond (.s 25)
    (.seq (.h [.kill [0, 1, 5, 25]] (.reg false [oo 4 (.mv (.c (.bool false)))]))
    .ret)
    .skip)))
  (.h [.kill [15, 16, 25]] (.reg false [oo 15 (.mv (.s 5)),
   oo 16 (.bin .add (.s 15) (.c (.int .i64 1))),
   oo 5 (.mv (.s 16))])))))
def k_laws_eqIntS_r10 : K :=
  (.seq (.h [.kill [0, 1, 5, 14]] (.reg false [oo 4 (.mv (.c (.bool true)))]))
  .ret)
def k_laws_eqIntS : F := ⟨26, [.tmp 4],
  (.seq (.h [.kill [4]] (.reg false [oo 4 (.mv (.c (.bool false)))]))
  (.seq (.seq (.h [.kill [6, 7, 8, 9]] (.reg false [oo 6 (.mv (.s 0)),
   oo 7 (.len false (.s 6)),
   oo 8 (.mv (.s 1)),
   oo 9 (.len false (.s 8)),
   oo 10 (.bin .neq (.s 7) (.s 9))]))
  (.cond (.s 10)
   (.seq (.h [.kill [0, 1, 10]] (.reg false [oo 4 (.mv (.c (.bool false)))]))
   .ret)
   .skip))
  (.seq (.seq (.h [.clean []] (.h [.kill [10]] (.reg false [oo 5 (.mv (.c (.int .i64 0)))])))
  (.blk 0
   (.loop k_laws_eqIntS_l14)))
  k_laws_eqIntS_r10)))⟩

def k_laws_eqNodeS_l14 : K :=
  (.h [.clean []] (.seq (.seq (.h [.kill [11, 12, 13]] (.reg false [oo 11 (.mv (.s 5)),
   oo 12 (.mv (.s 0)),
   oo 13 (.len false (.s 12)),
   oo 14 (.bin .lss (.s 11) (.s 13))]))
  (.cond (.s 14)
   .skip
   (.ex 0)))
  (.seq (.blk 1
   (.seq (.h [.kill [14, 17, 18, 19, 20, 21, 22, 23, 24, 25]] (.reg true [⟨some 17, none, .mv (.s 0), [], []⟩,
    ⟨some 18, none, .mv (.s 5), [], []⟩,
    ⟨some 19, none, .ia 8 (.s 17) (.s 18), [0], []⟩,
    ⟨some 20, none, .ld 8 true (.s 19), [0], []⟩,
    ⟨some 21, none, .mv (.s 1), [], []⟩,
    ⟨some 22, none, .mv (.s 5), [], []⟩,
    ⟨some 23, none, .ia 8 (.s 21) (.s 22), [1], []⟩,
    ⟨some 24, none, .ld 8 true (.s 23), [1], []⟩,
    ⟨some 25, none, .call n_laws_eqNode [] [] [(.s 20), (.s 24)], [0, 1], []⟩,
    ⟨some 26, none, .un .not (.s 25), [], []⟩]))
   (.cond (.s 26)
    (.seq (.h [.kill [0, 1, 5, 26]] (.reg false [oo 4 (.mv (.c (.bool false)))]))
    .ret)
    .skip)))
  (.h [.kill [15, 16, 26]] (.reg false [oo 15 (.mv (.s 5)),
   oo 16 (.bin .add (.s 15) (.c (.int .i64 1))),
   oo 5 (.mv (.s 16))])))))
def k_laws_eqNodeS_r10 : K :=
  (.seq (.h [.kill [0, 1, 5, 14]] (.reg false [oo 4 (.mv (.c (.bool true)))]))
  .ret)
def k_laws_eqNodeS : F := ⟨27, [.tmp 4],
  (.seq (.h [.kill [4]] (.reg false [oo 4 (.mv (.c (.bool false)))]))
  (.seq (.seq (.h [.kill [6, 7, 8, 9]] (.reg false [oo 6 (.mv (.s 0)),
   oo 7 (.len false (.s 6)),
   oo 8 (.mv (.s 1)),
   oo 9 (.len false (.s 8)),
   oo 10 (.bin .neq (.s 7) (.s 9))]))
  (.cond (.s 10)
   (.seq (.h [.kill [0, 1, 10]] (.reg false [oo 4 (.mv (.c (.bool false)))]))
   .ret)
   .skip))
  (.seq (.seq (.h [.clean []] (.h [.kill [10]] (.reg false [oo 5 (.mv (.c (.int .i64 0)))])))
  (.blk 0
   (.loop k_laws_eqNodeS_l14)))
  k_laws_eqNodeS_r10)))⟩

def k_laws_markNodeS_l6 : K :=
  (.h [.clean []] (.seq (.seq (.h [.kill [6, 7, 8]] (.reg false [oo 6 (.mv (.s 5)),
   oo 7 (.mv (.s 0)),
   oo 8 (.len false (.s 7)),
   oo 9 (.bin .lss (.s 6) (.s 8))]))
  (.cond (.s 9)
   .skip
   (.ex 0)))
  (.seq (.blk 1
   (.seq (.h [.kill [9, 12, 13, 14, 15, 16]] (.reg false [oo 12 (.mv (.s 0)),
    oo 13 (.mv (.s 5)),
    oo 14 (.mv (.s 1)),
    oo 15 (.ia 8 (.s 12) (.s 13)),
    oo 16 (.fa 0 (.s 15)),
    on (.st 1 (.s 16) (.s 14))]))
   (.seq (.h [.kill [17, 18]] (.reg false [oo 17 (.mv (.s 1)),
    oo 18 (.bin .add (.s 17) (.c (.int .i64 1))),
    oo 1 (.mv (.s 18))]))
   (.seq (.h [.kill [19, 20, 21, 22, 23, 24]] (.reg false [oo 19 (.mv (.s 0)),
    oo 20 (.mv (.s 5)),
    oo 21 (.mv (.s 1)),
    oo 22 (.call n_laws_markText [] [] [(.s 21)]),
    oo 23 (.ia 8 (.s 19) (.s 20)),
    oo 24 (.fa 1 (.s 23)),
    on (.st 1 (.s 24) (.s 22))]))
   (.seq (.h [.kill [25, 26]] (.reg false [oo 25 (.mv (.s 1)),
    oo 26 (.bin .add (.s 25) (.c (.int .i64 1))),
    oo 1 (.mv (.s 26))]))
   (.seq (.h [.kill [27, 28, 29, 30, 31, 32]] (.reg false [oo 27 (.mv (.s 0)),
    oo 28 (.mv (.s 5)),
    oo 29 (.mv (.s 1)),
    oo 30 (.call n_laws_markText [] [] [(.s 29)]),
    oo 31 (.ia 8 (.s 27) (.s 28)),
    oo 32 (.fa 2 (.s 31)),
    on (.st 1 (.s 32) (.s 30))]))
   (.seq (.h [.kill [33, 34]] (.reg false [oo 33 (.mv (.s 1)),
    oo 34 (.bin .add (.s 33) (.c (.int .i64 1))),
    oo 1 (.mv (.s 34))]))
   (.seq (.h [.kill [35, 36, 37, 38, 39, 40]] (.reg false [oo 35 (.mv (.s 0)),
    oo 36 (.mv (.s 5)),
    oo 37 (.mv (.s 1)),
    oo 38 (.call n_laws_markText [] [] [(.s 37)]),
    oo 39 (.ia 8 (.s 35) (.s 36)),
    oo 40 (.fa 3 (.s 39)),
    on (.st 1 (.s 40) (.s 38))]))
   (.seq (.h [.kill [41, 42]] (.reg false [oo 41 (.mv (.s 1)),
    oo 42 (.bin .add (.s 41) (.c (.int .i64 1))),
    oo 1 (.mv (.s 42))]))
   (.seq (.h [.kill [43, 44, 45, 46, 47, 48, 49]] (.reg false [oo 43 (.mv (.s 0)),
    oo 44 (.mv (.s 5)),
    oo 45 (.ia 8 (.s 43) (.s 44)),
    oo 46 (.fa 4 (.s 45)),
    oo 47 (.ld 1 false (.s 46)),
    oo 48 (.mv (.s 1)),
    oo 49 (.call n_laws_markDeclS [.ref] [] [(.s 47), (.s 48)]),
    oo 1 (.mv (.s 49))]))
   (.seq (.h [.kill [50, 51, 52, 53, 54, 55, 56]] (.reg false [oo 50 (.mv (.s 0)),
    oo 51 (.mv (.s 5)),
    oo 52 (.ia 8 (.s 50) (.s 51)),
    oo 53 (.fa 5 (.s 52)),
    oo 54 (.ld 1 false (.s 53)),
    oo 55 (.mv (.s 1)),
    oo 56 (.call n_laws_markAttrS [.ref] [] [(.s 54), (.s 55)]),
    oo 1 (.mv (.s 56))]))
   (.seq (.h [.kill [57, 58, 59, 60, 61, 62, 63]] (.reg false [oo 57 (.mv (.s 0)),
    oo 58 (.mv (.s 5)),
    oo 59 (.ia 8 (.s 57) (.s 58)),
    oo 60 (.fa 6 (.s 59)),
    oo 61 (.ld 1 false (.s 60)),
    oo 62 (.mv (.s 1)),
    oo 63 (.call n_laws_markNodeS [.ref] [] [(.s 61), (.s 62)]),
    oo 1 (.mv (.s 63))]))
   (.seq (.h [.kill [64, 65, 66, 67, 68, 69]] (.reg false [oo 64 (.mv (.s 0)),
    oo 65 (.mv (.s 5)),
    oo 66 (.mv (.s 1)),
    oo 67 (.call n_laws_markText [] [] [(.s 66)]),
    oo 68 (.ia 8 (.s 64) (.s 65)),
    oo 69 (.fa 7 (.s 68)),
    on (.st 1 (.s 69) (.s 67))]))
   (.h [.kill [70, 71]] (.reg false [oo 70 (.mv (.s 1)),
    oo 71 (.bin .add (.s 70) (.c (.int .i64 1))),
    oo 1 (.mv (.s 71))])))))))))))))))
  (.h [.kill [10, 11]] (.reg false [oo 10 (.mv (.s 5)),
   oo 11 (.bin .add (.s 10) (.c (.int .i64 1))),
   oo 5 (.mv (.s 11))])))))
def k_laws_markNodeS_r2 : K :=
  (.seq (.h [.kill [0, 1, 5, 9, 72]] (.reg false [oo 72 (.mv (.s 1)),
   oo 4 (.mv (.s 72))]))
  .ret)
def k_laws_markNodeS : F := ⟨73, [.tmp 4],
  (.seq (.h [.kill [4]] (.reg false [oo 4 (.mv (.c (.int .i64 0)))]))
  (.seq (.seq (.h [.clean []] (.reg false [oo 5 (.mv (.c (.int .i64 0)))]))
  (.blk 0
   (.loop k_laws_markNodeS_l6)))
  k_laws_markNodeS_r2))⟩

def k_laws_markIntS_l6 : K :=
  (.h [.clean []] (.seq (.seq (.h [.kill [6, 7, 8]] (.reg false [oo 6 (.mv (.s 5)),
   oo 7 (.mv (.s 0)),
   oo 8 (.len false (.s 7)),
   oo 9 (.bin .lss (.s 6) (.s 8))]))
  (.cond (.s 9)
   .skip
   (.ex 0)))
  (.seq (.blk 1
   (.seq (.h [.kill [9, 12, 13, 14, 15]] (.reg false [oo 12 (.mv (.s 0)),
    oo 13 (.mv (.s 5)),
    oo 14 (.mv (.s 1)),
    oo 15 (.ia 1 (.s 12) (.s 13)),
    on (.st 1 (.s 15) (.s 14))]))
   (.h [.kill [16, 17]] (.reg false [oo 16 (.mv (.s 1)),
    oo 17 (.bin .add (.s 16) (.c (.int .i64 1))),
    oo 1 (.mv (.s 17))]))))
  (.h [.kill [10, 11]] (.reg false [oo 10 (.mv (.s 5)),
   oo 11 (.bin .add (.s 10) (.c (.int .i64 1))),
   oo 5 (.mv (.s 11))])))))
def k_laws_markIntS_r2 : K :=
  (.seq (.h [.kill [0, 1, 5, 9, 18]] (.reg false [oo 18 (.mv (.s 1)),
   oo 4 (.mv (.s 18))]))
  .ret)
def k_laws_markIntS : F := ⟨19, [.tmp 4],
  (.seq (.h [.kill [4]] (.reg false [oo 4 (.mv (.c (.int .i64 0)))]))
  (.seq (.seq (.h [.clean []] (.reg false [oo 5 (.mv (.c (.int .i64 0)))]))
  (.blk 0
   (.loop k_laws_markIntS_l6)))
  k_laws_markIntS_r2))⟩

def k_laws_heldIntS_l6 : K :=
  (.h [.clean []] (.seq (.seq (.h [.kill [6, 7, 8]] (.reg false [oo 6 (.mv (.s 5)),
   oo 7 (.mv (.s 0)),
   oo 8 (.len false (.s 7)),
   oo 9 (.bin .lss (.s 6) (.s 8))]))
  (.cond (.s 9)
   .skip
   (.ex 0)))
  (.seq (.blk 1
   (.seq (.seq (.h [.kill [9, 12, 13, 14, 15, 16]] (.reg false [oo 12 (.mv (.s 0)),
    oo 13 (.mv (.s 5)),
    oo 14 (.ia 1 (.s 12) (.s 13)),
    oo 15 (.ld 1 false (.s 14)),
    oo 16 (.mv (.s 1)),
    oo 17 (.bin .neq (.s 15) (.s 16))]))
   (.cond (.s 17)
    (.seq (.h [.kill [0, 1, 5, 17]] (.reg false [oo 4 (.mv (.c (.int .i64 (-1))))]))
    .ret)
    .skip))
   (.h [.kill [17, 18, 19]] (.reg false [oo 18 (.mv (.s 1)),
    oo 19 (.bin .add (.s 18) (.c (.int .i64 1))),
    oo 1 (.mv (.s 19))]))))
  (.h [.kill [10, 11]] (.reg false [oo 10 (.mv (.s 5)),
   oo 11 (.bin .add (.s 10) (.c (.int .i64 1))),
   oo 5 (.mv (.s 11))])))))
def k_laws_heldIntS_r2 : K :=
  (.seq (.h [.kill [0, 1, 5, 9, 20]] (.reg false [oo 20 (.mv (.s 1)),
   oo 4 (.mv (.s 20))]))
  .ret)
def k_laws_heldIntS : F := ⟨21, [.tmp 4],
  (.seq (.h [.kill [4]] (.reg false [oo 4 (.mv (.c (.int .i64 0)))]))
  (.seq (.seq (.h [.clean []] (.reg false [oo 5 (.mv (.c (.int .i64 0)))]))
  (.blk 0
   (.loop k_laws_heldIntS_l6)))
  k_laws_heldIntS_r2))⟩

def k_laws_szNode : F := ⟨52, [.tmp 4],
  (.seq (.h [.kill [0, 4]] (.reg false [oo 2 (.box (.s 0)),
   oo 4 (.mv (.c (.int .i64 0)))]))
  (.seq (.h [.kill [5, 6, 7, 8, 9]] (.reg false [oo 5 (.mv (.s 1)),
   oo 6 (.fa 1 (.s 2)),
   oo 7 (.ld 1 false (.s 6)),
   oo 8 (.len true (.s 7)),
   oo 9 (.bin .sub (.s 5) (.s 8)),
   oo 1 (.mv (.s 9))]))
  (.seq (.seq (.h [.kill [10]] (.reg false [oo 10 (.mv (.s 1)),
   oo 11 (.bin .lss (.s 10) (.c (.int .i64 0)))]))
  (.cond (.s 11)
   (.seq (.h [.kill [1, 2, 11]] (.reg false [oo 4 (.mv (.c (.int .i64 (-1))))]))
   .ret)
   .skip))
  (.seq (.h [.kill [11, 12, 13, 14, 15, 16]] (.reg false [oo 12 (.mv (.s 1)),
   oo 13 (.fa 2 (.s 2)),
   oo 14 (.ld 1 false (.s 13)),
   oo 15 (.len true (.s 14)),
   oo 16 (.bin .sub (.s 12) (.s 15)),
   oo 1 (.mv (.s 16))]))
  (.seq (.seq (.h [.kill [17]] (.reg false [oo 17 (.mv (.s 1)),
   oo 18 (.bin .lss (.s 17) (.c (.int .i64 0)))]))
  (.cond (.s 18)
   (.seq (.h [.kill [1, 2, 18]] (.reg false [oo 4 (.mv (.c (.int .i64 (-1))))]))
   .ret)
   .skip))
  (.seq (.h [.kill [18, 19, 20, 21, 22, 23]] (.reg false [oo 19 (.mv (.s 1)),
   oo 20 (.fa 3 (.s 2)),
   oo 21 (.ld 1 false (.s 20)),
   oo 22 (.len true (.s 21)),
   oo 23 (.bin .sub (.s 19) (.s 22)),
   oo 1 (.mv (.s 23))]))
  (.seq (.seq (.h [.kill [24]] (.reg false [oo 24 (.mv (.s 1)),
   oo 25 (.bin .lss (.s 24) (.c (.int .i64 0)))]))
  (.cond (.s 25)
   (.seq (.h [.kill [1, 2, 25]] (.reg false [oo 4 (.mv (.c (.int .i64 (-1))))]))
   .ret)
   .skip))
  (.seq (.h [.kill [25, 26, 27, 28, 29]] (.reg false [oo 26 (.fa 4 (.s 2)),
   oo 27 (.ld 1 false (.s 26)),
   oo 28 (.mv (.s 1)),
   oo 29 (.call n_laws_szDeclS [] [] [(.s 27), (.s 28)]),
   oo 1 (.mv (.s 29))]))
  (.seq (.seq (.h [.kill [30]] (.reg false [oo 30 (.mv (.s 1)),
   oo 31 (.bin .lss (.s 30) (.c (.int .i64 0)))]))
  (.cond (.s 31)
   (.seq (.h [.kill [1, 2, 31]] (.reg false [oo 4 (.mv (.c (.int .i64 (-1))))]))
   .ret)
   .skip))
  (.seq (.h [.kill [31, 32, 33, 34, 35]] (.reg false [oo 32 (.fa 5 (.s 2)),
   oo 33 (.ld 1 false (.s 32)),
   oo 34 (.mv (.s 1)),
   oo 35 (.call n_laws_szAttrS [] [] [(.s 33), (.s 34)]),
   oo 1 (.mv (.s 35))]))
  (.seq (.seq (.h [.kill [36]] (.reg false [oo 36 (.mv (.s 1)),
   oo 37 (.bin .lss (.s 36) (.c (.int .i64 0)))]))
  (.cond (.s 37)
   (.seq (.h [.kill [1, 2, 37]] (.reg false [oo 4 (.mv (.c (.int .i64 (-1))))]))
   .ret)
   .skip))
  (.seq (.h [.kill [37, 38, 39, 40, 41]] (.reg false [oo 38 (.fa 6 (.s 2)),
   oo 39 (.ld 1 false (.s 38)),
   oo 40 (.mv (.s 1)),
   oo 41 (.call n_laws_szNodeS [] [] [(.s 39), (.s 40)]),
   oo 1 (.mv (.s 41))]))
  (.seq (.seq (.h [.kill [42]] (.reg false [oo 42 (.mv (.s 1)),
   oo 43 (.bin .lss (.s 42) (.c (.int .i64 0)))]))
  (.cond (.s 43)
   (.seq (.h [.kill [1, 2, 43]] (.reg false [oo 4 (.mv (.c (.int .i64 (-1))))]))
   .ret)
   .skip))
  (.seq (.h [.kill [2, 43, 44, 45, 46, 47, 48]] (.reg false [oo 44 (.mv (.s 1)),
   oo 45 (.fa 7 (.s 2)),
   oo 46 (.ld 1 false (.s 45)),
   oo 47 (.len true (.s 46)),
   oo 48 (.bin .sub (.s 44) (.s 47)),
   oo 1 (.mv (.s 48))]))
  (.seq (.seq (.h [.kill [49]] (.reg false [oo 49 (.mv (.s 1)),
   oo 50 (.bin .lss (.s 49) (.c (.int .i64 0)))]))
  (.cond (.s 50)
   (.seq (.h [.kill [1, 50]] (.reg false [oo 4 (.mv (.c (.int .i64 (-1))))]))
   .ret)
   .skip))
  (.seq (.h [.kill [1, 50, 51]] (.reg false [oo 51 (.mv (.s 1)),
   oo 4 (.mv (.s 51))]))
  .ret))))))))))))))))⟩

def k_laws_toNode : F := ⟨32, [.cell 2 8 true],
  (.seq (.h [.kill [0]] (.reg false [oo 1 (.box (.s 0)),
   oo 2 (.alloc [.v (.int .i64 0), .v (.string ⟨#[]⟩), .v (.string ⟨#[]⟩), .v (.string ⟨#[]⟩), .sl true [], .sl true [], .sl true [], .v (.string ⟨#[]⟩)])]))
  (.seq (.reg false [oo 3 (.alloc [.v (.int .i64 0), .v (.string ⟨#[]⟩), .v (.string ⟨#[]⟩), .v (.string ⟨#[]⟩), .sl true [], .sl true [], .sl true [], .v (.string ⟨#[]⟩)])])
  (.seq (.h [.kill [4, 5, 6]] (.reg false [oo 4 (.fa 0 (.s 1)),
   oo 5 (.ld 1 false (.s 4)),
   oo 6 (.fa 0 (.s 3)),
   on (.st 1 (.s 6) (.s 5))]))
  (.seq (.h [.kill [7, 8, 9]] (.reg false [oo 7 (.fa 1 (.s 1)),
   oo 8 (.ld 1 false (.s 7)),
   oo 9 (.fa 1 (.s 3)),
   on (.st 1 (.s 9) (.s 8))]))
  (.seq (.h [.kill [10, 11, 12]] (.reg false [oo 10 (.fa 2 (.s 1)),
   oo 11 (.ld 1 false (.s 10)),
   oo 12 (.fa 2 (.s 3)),
   on (.st 1 (.s 12) (.s 11))]))
  (.seq (.h [.kill [13, 14, 15]] (.reg false [oo 13 (.fa 3 (.s 1)),
   oo 14 (.ld 1 false (.s 13)),
   oo 15 (.fa 3 (.s 3)),
   on (.st 1 (.s 15) (.s 14))]))
  (.seq (.h [.kill [16, 17, 18, 19]] (.reg false [oo 16 (.fa 4 (.s 1)),
   oo 17 (.ld 1 false (.s 16)),
   oo 18 (.call n_laws_toDeclS [] [true] [(.s 17)]),
   oo 19 (.fa 4 (.s 3)),
   on (.st 1 (.s 19) (.s 18))]))
  (.seq (.h [.kill [20, 21, 22, 23]] (.reg false [oo 20 (.fa 5 (.s 1)),
   oo 21 (.ld 1 false (.s 20)),
   oo 22 (.call n_laws_toAttrS [] [true] [(.s 21)]),
   oo 23 (.fa 5 (.s 3)),
   on (.st 1 (.s 23) (.s 22))]))
  (.seq (.h [.kill [24, 25, 26, 27]] (.reg false [oo 24 (.fa 6 (.s 1)),
   oo 25 (.ld 1 false (.s 24)),
   oo 26 (.call n_laws_toNodeS [] [true] [(.s 25)]),
   oo 27 (.fa 6 (.s 3)),
   on (.st 1 (.s 27) (.s 26))]))
  (.seq (.h [.kill [1, 28, 29, 30]] (.reg false [oo 28 (.fa 7 (.s 1)),
   oo 29 (.ld 1 false (.s 28)),
   oo 30 (.fa 7 (.s 3)),
   on (.st 1 (.s 30) (.s 29))]))
  (.seq (.h [.kill [3, 31]] (.reg false [oo 31 (.ld 8 true (.s 3)),
   on (.st 8 (.s 2) (.s 31))]))
  .ret)))))))))))⟩

def k_spec_l17Table_l23 : K :=
  (.h [.clean [27]] (.seq (.seq (.h [.kill [20, 21, 22]] (.reg false [oo 20 (.mv (.s 8)),
   oo 21 (.mv (.s 1)),
   oo 22 (.len false (.s 21)),
   oo 23 (.bin .leq (.s 20) (.s 22))]))
  (.cond (.s 23)
   .skip
   (.ex 2)))
  (.seq (.blk 3
   (.h [.kill [23, 26, 27, 28]] (.reg false [oo 26 (.mv (.s 7)),
    oo 27 (.bsl 1 [(.c (.int .i64 0))]),
    oo 28 (.app 1 8 (.s 26) (.s 27)),
    oo 7 (.mv (.s 28))])))
  (.h [.kill [24, 25]] (.reg false [oo 24 (.mv (.s 8)),
   oo 25 (.bin .add (.s 24) (.c (.int .i64 1))),
   oo 8 (.mv (.s 25))])))))
def k_spec_l17Table_r19 : K :=
  (.h [.kill [7, 8, 23, 29, 30, 31, 32]] (.reg false [oo 29 (.mv (.s 5)),
   oo 30 (.mv (.s 7)),
   oo 31 (.bsl 1 [(.s 30)]),
   oo 32 (.app 1 24 (.s 29) (.s 31)),
   oo 5 (.mv (.s 32))]))
def k_spec_l17Table_r15 : K :=
  (.h [.kill [17, 18]] (.reg false [oo 17 (.mv (.s 6)),
   oo 18 (.bin .add (.s 17) (.c (.int .i64 1))),
   oo 6 (.mv (.s 18))]))
def k_spec_l17Table_l8 : K :=
  (.h [.clean [19, 31]] (.seq (.seq (.h [.kill [13, 14, 15]] (.reg false [oo 13 (.mv (.s 6)),
   oo 14 (.mv (.s 0)),
   oo 15 (.len false (.s 14)),
   oo 16 (.bin .leq (.s 13) (.s 15))]))
  (.cond (.s 16)
   .skip
   (.ex 0)))
  (.seq (.blk 1
   (.seq (.h [.kill [16, 19]] (.reg false [oo 19 (.bsl 1 []),
    oo 7 (.mv (.s 19))]))
   (.seq (.seq (.h [.clean []] (.reg false [oo 8 (.mv (.c (.int .i64 0)))]))
   (.blk 2
    (.loop k_spec_l17Table_l23)))
   k_spec_l17Table_r19)))
  k_spec_l17Table_r15)))
def k_spec_l17Table_r63 : K :=
  (.seq (.seq (.h [.kill [64, 73, 74, 75, 76, 77, 78, 79, 80]] (.reg true [⟨some 73, none, .mv (.s 0), [], []⟩,
   ⟨some 74, none, .mv (.s 9), [], []⟩,
   ⟨some 75, none, .ia 8 (.s 73) (.s 74), [0], []⟩,
   ⟨some 76, none, .ld 8 true (.s 75), [0], []⟩,
   ⟨some 77, none, .mv (.s 1), [], []⟩,
   ⟨some 78, none, .mv (.s 10), [], []⟩,
   ⟨some 79, none, .ia 8 (.s 77) (.s 78), [1], []⟩,
   ⟨some 80, none, .ld 8 true (.s 79), [1], []⟩,
   ⟨some 81, none, .call n_spec_SameNode [] [] [(.s 76), (.s 80)], [0, 1], []⟩]))
  (.cond (.s 81)
   (.h [.kill [81, 82, 83, 84, 85, 86, 87, 88, 89, 90, 91]] (.reg false [oo 82 (.mv (.s 5)),
    oo 83 (.mv (.s 9)),
    oo 84 (.bin .add (.s 83) (.c (.int .i64 1))),
    oo 85 (.ia 1 (.s 82) (.s 84)),
    oo 86 (.ld 1 false (.s 85)),
    oo 87 (.mv (.s 10)),
    oo 88 (.bin .add (.s 87) (.c (.int .i64 1))),
    oo 89 (.ia 1 (.s 86) (.s 88)),
    oo 90 (.ld 1 false (.s 89)),
    oo 91 (.bin .add (.s 90) (.c (.int .i64 1))),
    oo 11 (.mv (.s 91))]))
   .skip))
  (.h [.kill [11, 81, 92, 93, 94, 95, 96, 97, 98]] (.reg false [oo 92 (.mv (.s 5)),
   oo 93 (.mv (.s 9)),
   oo 94 (.ia 1 (.s 92) (.s 93)),
   oo 95 (.ld 1 false (.s 94)),
   oo 96 (.mv (.s 10)),
   oo 97 (.mv (.s 11)),
   oo 98 (.ia 1 (.s 95) (.s 96)),
   on (.st 1 (.s 98) (.s 97))])))
def k_spec_l17Table_r59 : K :=
  (.h [.kill [45, 46]] (.reg false [oo 45 (.mv (.s 10)),
   oo 46 (.bin .sub (.s 45) (.c (.int .i64 1))),
   oo 10 (.mv (.s 46))]))
def k_spec_l17Table_l52 : K :=
  (.h [.clean []] (.seq (.seq (.h [.kill [43]] (.reg false [oo 43 (.mv (.s 10)),
   oo 44 (.bin .geq (.s 43) (.c (.int .i64 0)))]))
  (.cond (.s 44)
   .skip
   (.ex 6)))
  (.seq (.blk 7
   (.seq (.h [.kill [44, 47, 48, 49, 50, 51, 52, 53, 54]] (.reg false [oo 47 (.mv (.s 5)),
    oo 48 (.mv (.s 9)),
    oo 49 (.bin .add (.s 48) (.c (.int .i64 1))),
    oo 50 (.ia 1 (.s 47) (.s 49)),
    oo 51 (.ld 1 false (.s 50)),
    oo 52 (.mv (.s 10)),
    oo 53 (.ia 1 (.s 51) (.s 52)),
    oo 54 (.ld 1 false (.s 53)),
    oo 11 (.mv (.s 54))]))
   (.seq (.h [.kill [64], .clean []] (.seq (.h [.kill [55, 56, 57, 58, 59, 60, 61, 62, 63]] (.reg false [oo 55 (.mv (.s 5)),
    oo 56 (.mv (.s 9)),
    oo 57 (.ia 1 (.s 55) (.s 56)),
    oo 58 (.ld 1 false (.s 57)),
    oo 59 (.mv (.s 10)),
    oo 60 (.bin .add (.s 59) (.c (.int .i64 1))),
    oo 61 (.ia 1 (.s 58) (.s 60)),
    oo 62 (.ld 1 false (.s 61)),
    oo 63 (.mv (.s 11)),
    oo 64 (.bin .gtr (.s 62) (.s 63))]))
   (.cond (.s 64)
    (.h [.kill [64, 65, 66, 67, 68, 69, 70, 71, 72]] (.reg false [oo 65 (.mv (.s 5)),
     oo 66 (.mv (.s 9)),
     oo 67 (.ia 1 (.s 65) (.s 66)),
     oo 68 (.ld 1 false (.s 67)),
     oo 69 (.mv (.s 10)),
     oo 70 (.bin .add (.s 69) (.c (.int .i64 1))),
     oo 71 (.ia 1 (.s 68) (.s 70)),
     oo 72 (.ld 1 false (.s 71)),
     oo 11 (.mv (.s 72))]))
    .skip)))
   k_spec_l17Table_r63)))
  k_spec_l17Table_r59)))
def k_spec_l17Table_r47 : K :=
  (.h [.kill [10, 38, 39, 44]] (.reg false [oo 38 (.mv (.s 9)),
   oo 39 (.bin .sub (.s 38) (.c (.int .i64 1))),
   oo 9 (.mv (.s 39))]))
def k_spec_l17Table_l40 : K :=
  (.h [.clean []] (.seq (.seq (.h [.kill [36]] (.reg false [oo 36 (.mv (.s 9)),
   oo 37 (.bin .geq (.s 36) (.c (.int .i64 0)))]))
  (.cond (.s 37)
   .skip
   (.ex 4)))
  (.seq (.blk 5
   (.seq (.h [.clean []] (.h [.kill [37, 40, 41, 42]] (.reg false [oo 40 (.mv (.s 1)),
    oo 41 (.len false (.s 40)),
    oo 42 (.bin .sub (.s 41) (.c (.int .i64 1))),
    oo 10 (.mv (.s 42))])))
   (.blk 6
    (.loop k_spec_l17Table_l52))))
  k_spec_l17Table_r47)))
def k_spec_l17Table_r36 : K :=
  (.seq (.h [.kill [0, 1, 5, 9, 37, 99]] (.reg false [oo 99 (.mv (.s 5)),
   oo 4 (.mv (.s 99))]))
  .ret)
def k_spec_l17Table_r4 : K :=
  (.seq (.seq (.h [.clean []] (.h [.kill [6, 16, 33, 34, 35]] (.reg false [oo 33 (.mv (.s 0)),
   oo 34 (.len false (.s 33)),
   oo 35 (.bin .sub (.s 34) (.c (.int .i64 1))),
   oo 9 (.mv (.s 35))])))
  (.blk 4
   (.loop k_spec_l17Table_l40)))
  k_spec_l17Table_r36)
def k_spec_l17Table : F := ⟨100, [.tmp 4],
  (.seq (.h [.kill [4]] (.reg false [oo 4 (.mv (.c (.slice none 0 0)))]))
  (.seq (.h [.kill [12]] (.reg false [oo 12 (.bsl 1 []),
   oo 5 (.mv (.s 12))]))
  (.seq (.seq (.h [.clean []] (.reg false [oo 6 (.mv (.c (.int .i64 0)))]))
  (.blk 0
   (.loop k_spec_l17Table_l8)))
  k_spec_l17Table_r4)))⟩

def k_spec_SameNode_l14 : K :=
  (.h [.clean []] (.seq (.seq (.h [.kill [68, 69, 70, 71]] (.reg false [oo 68 (.mv (.s 5)),
   oo 69 (.fa 4 (.s 2)),
   oo 70 (.ld 1 false (.s 69)),
   oo 71 (.len false (.s 70)),
   oo 72 (.bin .lss (.s 68) (.s 71))]))
  (.cond (.s 72)
   .skip
   (.ex 0)))
  (.seq (.blk 1
   (.seq (.h [.kill [72, 75, 76, 77, 78, 79, 80, 81, 82, 83, 84]] (.reg true [⟨some 75, none, .fa 4 (.s 2), [], []⟩,
    ⟨some 76, none, .ld 1 false (.s 75), [2], []⟩,
    ⟨some 77, none, .mv (.s 5), [], []⟩,
    ⟨some 78, none, .ia 2 (.s 76) (.s 77), [2], []⟩,
    ⟨some 79, none, .ld 2 true (.s 78), [2], []⟩,
    ⟨some 80, none, .fa 4 (.s 3), [], []⟩,
    ⟨some 81, none, .ld 1 false (.s 80), [3], []⟩,
    ⟨some 82, none, .mv (.s 5), [], []⟩,
    ⟨some 83, none, .ia 2 (.s 81) (.s 82), [3], []⟩,
    ⟨some 84, none, .ld 2 true (.s 83), [3], []⟩,
    ⟨some 85, none, .eqs true [.str, .str] (.s 79) (.s 84), [], []⟩]))
   (.cond (.s 85)
    (.seq (.h [.kill [2, 3, 5, 85]] (.reg false [oo 4 (.mv (.c (.bool false)))]))
    .ret)
    .skip)))
  (.h [.kill [73, 74, 85]] (.reg false [oo 73 (.mv (.s 5)),
   oo 74 (.bin .add (.s 73) (.c (.int .i64 1))),
   oo 5 (.mv (.s 74))])))))
def k_spec_SameNode_l35 : K :=
  (.h [.clean []] (.seq (.seq (.h [.kill [86, 87, 88, 89]] (.reg false [oo 86 (.mv (.s 6)),
   oo 87 (.fa 5 (.s 2)),
   oo 88 (.ld 1 false (.s 87)),
   oo 89 (.len false (.s 88)),
   oo 90 (.bin .lss (.s 86) (.s 89))]))
  (.cond (.s 90)
   .skip
   (.ex 2)))
  (.seq (.blk 3
   (.seq (.h [.kill [90, 93, 94, 95, 96, 97, 98, 99, 100, 101, 102]] (.reg true [⟨some 93, none, .fa 5 (.s 2), [], []⟩,
    ⟨some 94, none, .ld 1 false (.s 93), [2], []⟩,
    ⟨some 95, none, .mv (.s 6), [], []⟩,
    ⟨some 96, none, .ia 4 (.s 94) (.s 95), [2], []⟩,
    ⟨some 97, none, .ld 4 true (.s 96), [2], []⟩,
    ⟨some 98, none, .fa 5 (.s 3), [], []⟩,
    ⟨some 99, none, .ld 1 false (.s 98), [3], []⟩,
    ⟨some 100, none, .mv (.s 6), [], []⟩,
    ⟨some 101, none, .ia 4 (.s 99) (.s 100), [3], []⟩,
    ⟨some 102, none, .ld 4 true (.s 101), [3], []⟩,
    ⟨some 103, none, .eqs true [.str, .str, .str, .str] (.s 97) (.s 102), [], []⟩]))
   (.cond (.s 103)
    (.seq (.h [.kill [2, 3, 6, 103]] (.reg false [oo 4 (.mv (.c (.bool false)))]))
    .ret)
    .skip)))
  (.h [.kill [91, 92, 103]] (.reg false [oo 91 (.mv (.s 6)),
   oo 92 (.bin .add (.s 91) (.c (.int .i64 1))),
   oo 6 (.mv (.s 92))])))))
def k_spec_SameNode_l56 : K :=
  (.h [.clean []] (.seq (.seq (.h [.kill [104, 105, 106, 107]] (.reg false [oo 104 (.mv (.s 7)),
   oo 105 (.fa 6 (.s 2)),
   oo 106 (.ld 1 false (.s 105)),
   oo 107 (.len false (.s 106)),
   oo 108 (.bin .lss (.s 104) (.s 107))]))
  (.cond (.s 108)
   .skip
   (.ex 4)))
  (.seq (.blk 5
   (.seq (.h [.kill [108, 111, 112, 113, 114, 115, 116, 117, 118, 119, 120, 121]] (.reg true [⟨some 111, none, .fa 6 (.s 2), [], []⟩,
    ⟨some 112, none, .ld 1 false (.s 111), [2], []⟩,
    ⟨some 113, none, .mv (.s 7), [], []⟩,
    ⟨some 114, none, .ia 8 (.s 112) (.s 113), [2], []⟩,
    ⟨some 115, none, .ld 8 true (.s 114), [2], []⟩,
    ⟨some 116, none, .fa 6 (.s 3), [], []⟩,
    ⟨some 117, none, .ld 1 false (.s 116), [3], []⟩,
    ⟨some 118, none, .mv (.s 7), [], []⟩,
    ⟨some 119, none, .ia 8 (.s 117) (.s 118), [3], []⟩,
    ⟨some 120, none, .ld 8 true (.s 119), [3], []⟩,
    ⟨some 121, none, .call n_spec_SameNode [] [] [(.s 115), (.s 120)], [2, 3], []⟩,
    ⟨some 122, none, .un .not (.s 121), [], []⟩]))
   (.cond (.s 122)
    (.seq (.h [.kill [2, 3, 7, 122]] (.reg false [oo 4 (.mv (.c (.bool false)))]))
    .ret)
    .skip)))
  (.h [.kill [109, 110, 122]] (.reg false [oo 109 (.mv (.s 7)),
   oo 110 (.bin .add (.s 109) (.c (.int .i64 1))),
   oo 7 (.mv (.s 110))])))))
def k_spec_SameNode_r52 : K :=
  (.seq (.h [.kill [2, 3, 7, 108]] (.reg false [oo 4 (.mv (.c (.bool true)))]))
  .ret)
def k_spec_SameNode_r31 : K :=
  (.seq (.seq (.h [.clean []] (.h [.kill [6, 90]] (.reg false [oo 7 (.mv (.c (.int .i64 0)))])))
  (.blk 4
   (.loop k_spec_SameNode_l56)))
  k_spec_SameNode_r52)
def k_spec_SameNode_r10 : K :=
  (.seq (.seq (.h [.clean []] (.h [.kill [5, 72]] (.reg false [oo 6 (.mv (.c (.int .i64 0)))])))
  (.blk 2
   (.loop k_spec_SameNode_l35)))
  k_spec_SameNode_r31)
def k_spec_SameNode : F := ⟨123, [.tmp 4],
  (.seq (.h [.kill [0, 1, 4]] (.reg false [oo 2 (.box (.s 0)),
   oo 3 (.box (.s 1)),
   oo 4 (.mv (.c (.bool false)))]))
  (.seq (.seq (.h [.kill [8, 9, 10, 11, 12, 13, 14, 15, 16, 17, 18, 19, 20, 21, 22, 23, 24, 25, 26, 27, 28, 29, 30, 31, 32, 33, 34, 35, 36, 37, 38, 39, 40, 41, 42, 43, 44, 45, 46, 47, 48, 49, 50, 51, 52, 53, 54, 55, 56, 57, 58, 59, 60, 61, 62, 63, 64, 65, 66]] (.reg false [oo 8 (.fa 0 (.s 2)),
   oo 9 (.ld 1 false (.s 8)),
   oo 10 (.fa 0 (.s 3)),
   oo 11 (.ld 1 false (.s 10)),
   oo 12 (.bin .neq (.s 9) (.s 11)),
   oo 13 (.mv (.s 12)),
   ow 14 13 false (.fa 1 (.s 2)),
   ow 15 13 false (.ld 1 false (.s 14)),
   ow 16 13 false (.fa 1 (.s 3)),
   ow 17 13 false (.ld 1 false (.s 16)),
   ow 18 13 false (.bin .neq (.s 15) (.s 17)),
   oo 19 (.pick (.s 13) (.c (.bool true)) (.s 18)),
   oo 20 (.mv (.s 19)),
   ow 21 20 false (.fa 2 (.s 2)),
   ow 22 20 false (.ld 1 false (.s 21)),
   ow 23 20 false (.fa 2 (.s 3)),
   ow 24 20 false (.ld 1 false (.s 23)),
   ow 25 20 false (.bin .neq (.s 22) (.s 24)),
   oo 26 (.pick (.s 20) (.c (.bool true)) (.s 25)),
   oo 27 (.mv (.s 26)),
   ow 28 27 false (.fa 3 (.s 2)),
   ow 29 27 false (.ld 1 false (.s 28)),
   ow 30 27 false (.fa 3 (.s 3)),
   ow 31 27 false (.ld 1 false (.s 30)),
   ow 32 27 false (.bin .neq (.s 29) (.s 31)),
   oo 33 (.pick (.s 27) (.c (.bool true)) (.s 32)),
   oo 34 (.mv (.s 33)),
   ow 35 34 false (.fa 7 (.s 2)),
   ow 36 34 false (.ld 1 false (.s 35)),
   ow 37 34 false (.fa 7 (.s 3)),
   ow 38 34 false (.ld 1 false (.s 37)),
   ow 39 34 false (.bin .neq (.s 36) (.s 38)),
   oo 40 (.pick (.s 34) (.c (.bool true)) (.s 39)),
   oo 41 (.mv (.s 40)),
   ow 42 41 false (.fa 4 (.s 2)),
   ow 43 41 false (.ld 1 false (.s 42)),
   ow 44 41 false (.len false (.s 43)),
   ow 45 41 false (.fa 4 (.s 3)),
   ow 46 41 false (.ld 1 false (.s 45)),
   ow 47 41 false (.len false (.s 46)),
   ow 48 41 false (.bin .neq (.s 44) (.s 47)),
   oo 49 (.pick (.s 41) (.c (.bool true)) (.s 48)),
   oo 50 (.mv (.s 49)),
   ow 51 50 false (.fa 5 (.s 2)),
   ow 52 50 false (.ld 1 false (.s 51)),
   ow 53 50 false (.len false (.s 52)),
   ow 54 50 false (.fa 5 (.s 3)),
   ow 55 50 false (.ld 1 false (.s 54)),
   ow 56 50 false (.len false (.s 55)),
   ow 57 50 false (.bin .neq (.s 53) (.s 56)),
   oo 58 (.pick (.s 50) (.c (.bool true)) (.s 57)),
   oo 59 (.mv (.s 58)),
   ow 60 59 false (.fa 6 (.s 2)),
   ow 61 59 false (.ld 1 false (.s 60)),
   ow 62 59 false (.len false (.s 61)),
   ow 63 59 false (.fa 6 (.s 3)),
   ow 64 59 false (.ld 1 false (.s 63)),
   ow 65 59 false (.len false (.s 64)),
   ow 66 59 false (.bin .neq (.s 62) (.s 65)),
   oo 67 (.pick (.s 59) (.c (.bool true)) (.s 66))]))
  (.cond (.s 67)
   (.seq (.h [.kill [2, 3, 67]] (.reg false [oo 4 (.mv (.c (.bool false)))]))
   .ret)
   .skip))
  (.seq (.seq (.h [.clean []] (.h [.kill [67]] (.reg false [oo 5 (.mv (.c (.int .i64 0)))])))
  (.blk 0
   (.loop k_spec_SameNode_l14)))
  k_spec_SameNode_r10)))⟩

def k_impl_longest_l8 : K :=
  (.h [.clean [23]] (.seq (.reg false [oo 16 (.bin .lss (.s 15) (.s 14))])
  (.seq (.cond (.s 16)
   .skip
   (.ex 0))
  (.seq (.blk 1
   (.seq (.h [.kill [16, 17]] (.reg false [oo 17 (.mv (.s 15)),
    oo 6 (.mv (.s 17))]))
   (.h [.kill [6, 18, 19, 20, 21, 22, 23, 24]] (.reg false [oo 18 (.mv (.s 5)),
    oo 19 (.mv (.s 6)),
    oo 20 (.mv (.s 1)),
    oo 21 (.len false (.s 20)),
    oo 22 (.bin .add (.s 21) (.c (.int .i64 1))),
    oo 23 (.mks [.v (.int .i64 0)] 8 (.s 22)),
    oo 24 (.ia 1 (.s 18) (.s 19)),
    on (.st 1 (.s 24) (.s 23))]))))
  (.h [.kill [25]] (.reg false [oo 25 (.bin .add (.s 15) (.c (.int .i64 1))),
   oo 15 (.mv (.s 25))]))))))
def k_impl_longest_l37 : K :=
  (.h [.clean []] (.seq (.seq (.h [.kill [36]] (.reg false [oo 36 (.mv (.s 8)),
   oo 37 (.bin .geq (.s 36) (.c (.int .i64 0)))]))
  (.cond (.s 37)
   .skip
   (.ex 4)))
  (.seq (.blk 5
   (.seq (.h [.kill [37, 40, 41, 42, 43, 44, 45, 46, 47, 48, 49, 50, 51, 52, 53, 54, 55, 56, 57, 58, 59, 60, 61, 62]] (.reg true [⟨some 40, none, .mv (.s 5), [], []⟩,
    ⟨some 41, none, .mv (.s 7), [], []⟩,
    ⟨some 42, none, .ia 1 (.s 40) (.s 41), [12], []⟩,
    ⟨some 43, none, .ld 1 false (.s 42), [12], []⟩,
    ⟨some 44, none, .mv (.s 8), [], []⟩,
    ⟨some 45, none, .mv (.s 5), [], []⟩,
    ⟨some 46, none, .mv (.s 7), [], []⟩,
    ⟨some 47, none, .bin .add (.s 46) (.c (.int .i64 1)), [], []⟩,
    ⟨some 48, none, .ia 1 (.s 45) (.s 47), [12], []⟩,
    ⟨some 49, none, .ld 1 false (.s 48), [12], []⟩,
    ⟨some 50, none, .mv (.s 8), [], []⟩,
    ⟨some 51, none, .ia 1 (.s 49) (.s 50), [12], []⟩,
    ⟨some 52, none, .ld 1 false (.s 51), [12], []⟩,
    ⟨some 53, none, .mv (.s 5), [], []⟩,
    ⟨some 54, none, .mv (.s 7), [], []⟩,
    ⟨some 55, none, .ia 1 (.s 53) (.s 54), [12], []⟩,
    ⟨some 56, none, .ld 1 false (.s 55), [12], []⟩,
    ⟨some 57, none, .mv (.s 8), [], []⟩,
    ⟨some 58, none, .bin .add (.s 57) (.c (.int .i64 1)), [], []⟩,
    ⟨some 59, none, .ia 1 (.s 56) (.s 58), [12], []⟩,
    ⟨some 60, none, .ld 1 false (.s 59), [12], []⟩,
    ⟨some 61, none, .mm true (.s 52) (.s 60), [], []⟩,
    ⟨some 62, none, .ia 1 (.s 43) (.s 44), [12], []⟩,
    ⟨none, none, .st 1 (.s 62) (.s 61), [], [12]⟩]))
   (.seq (.h [.kill [63, 64, 65, 66, 67, 68, 69, 70]] (.reg true [⟨some 63, none, .mv (.s 0), [], []⟩,
    ⟨some 64, none, .mv (.s 7), [], []⟩,
    ⟨some 65, none, .ia 8 (.s 63) (.s 64), [0], []⟩,
    ⟨some 66, none, .ld 8 true (.s 65), [0], []⟩,
    ⟨some 67, none, .mv (.s 1), [], []⟩,
    ⟨some 68, none, .mv (.s 8), [], []⟩,
    ⟨some 69, none, .ia 8 (.s 67) (.s 68), [1], []⟩,
    ⟨some 70, none, .ld 8 true (.s 69), [1], []⟩,
    ⟨some 71, none, .call n_impl_SameNode [] [] [(.s 66), (.s 70)], [0, 1], []⟩]))
   (.cond (.s 71)
    (.h [.kill [71, 72, 73, 74, 75, 76, 77, 78, 79, 80, 81, 82, 83, 84, 85, 86, 87, 88, 89, 90, 91, 92, 93, 94, 95]] (.reg true [⟨some 72, none, .mv (.s 5), [], []⟩,
     ⟨some 73, none, .mv (.s 7), [], []⟩,
     ⟨some 74, none, .ia 1 (.s 72) (.s 73), [12], []⟩,
     ⟨some 75, none, .ld 1 false (.s 74), [12], []⟩,
     ⟨some 76, none, .mv (.s 8), [], []⟩,
     ⟨some 77, none, .mv (.s 5), [], []⟩,
     ⟨some 78, none, .mv (.s 7), [], []⟩,
     ⟨some 79, none, .ia 1 (.s 77) (.s 78), [12], []⟩,
     ⟨some 80, none, .ld 1 false (.s 79), [12], []⟩,
     ⟨some 81, none, .mv (.s 8), [], []⟩,
     ⟨some 82, none, .ia 1 (.s 80) (.s 81), [12], []⟩,
     ⟨some 83, none, .ld 1 false (.s 82), [12], []⟩,
     ⟨some 84, none, .mv (.s 5), [], []⟩,
     ⟨some 85, none, .mv (.s 7), [], []⟩,
     ⟨some 86, none, .bin .add (.s 85) (.c (.int .i64 1)), [], []⟩,
     ⟨some 87, none, .ia 1 (.s 84) (.s 86), [12], []⟩,
     ⟨some 88, none, .ld 1 false (.s 87), [12], []⟩,
     ⟨some 89, none, .mv (.s 8), [], []⟩,
     ⟨some 90, none, .bin .add (.s 89) (.c (.int .i64 1)), [], []⟩,
     ⟨some 91, none, .ia 1 (.s 88) (.s 90), [12], []⟩,
     ⟨some 92, none, .ld 1 false (.s 91), [12], []⟩,
     ⟨some 93, none, .bin .add (.c (.int .i64 1)) (.s 92), [], []⟩,
     ⟨some 94, none, .mm true (.s 83) (.s 93), [], []⟩,
     ⟨some 95, none, .ia 1 (.s 75) (.s 76), [12], []⟩,
     ⟨none, none, .st 1 (.s 95) (.s 94), [], [12]⟩]))
    .skip))))
  (.h [.kill [38, 39, 71]] (.reg false [oo 38 (.mv (.s 8)),
   oo 39 (.bin .sub (.s 38) (.c (.int .i64 1))),
   oo 8 (.mv (.s 39))])))))
def k_impl_longest_r32 : K :=
  (.h [.kill [8, 31, 32, 37]] (.reg false [oo 31 (.mv (.s 7)),
   oo 32 (.bin .sub (.s 31) (.c (.int .i64 1))),
   oo 7 (.mv (.s 32))]))
def k_impl_longest_l25 : K :=
  (.h [.clean []] (.seq (.seq (.h [.kill [29]] (.reg false [oo 29 (.mv (.s 7)),
   oo 30 (.bin .geq (.s 29) (.c (.int .i64 0)))]))
  (.cond (.s 30)
   .skip
   (.ex 2)))
  (.seq (.blk 3
   (.seq (.h [.clean []] (.h [.kill [30, 33, 34, 35]] (.reg false [oo 33 (.mv (.s 1)),
    oo 34 (.len false (.s 33)),
    oo 35 (.bin .sub (.s 34) (.c (.int .i64 1))),
    oo 8 (.mv (.s 35))])))
   (.blk 4
    (.loop k_impl_longest_l37))))
  k_impl_longest_r32)))
def k_impl_longest_r21 : K :=
  (.seq (.h [.kill [0, 1, 5, 7, 30, 96]] (.reg false [oo 96 (.mv (.s 5)),
   oo 4 (.mv (.s 96))]))
  .ret)
def k_impl_longest_r4 : K :=
  (.seq (.seq (.h [.clean []] (.h [.kill [14, 15, 16, 26, 27, 28]] (.reg false [oo 26 (.mv (.s 0)),
   oo 27 (.len false (.s 26)),
   oo 28 (.bin .sub (.s 27) (.c (.int .i64 1))),
   oo 7 (.mv (.s 28))])))
  (.blk 2
   (.loop k_impl_longest_l25)))
  k_impl_longest_r21)
def k_impl_longest : F := ⟨97, [.tmp 4],
  (.seq (.h [.kill [4]] (.reg false [oo 4 (.mv (.c (.slice none 0 0)))]))
  (.seq (.h [.kill [9, 10, 11, 12]] (.reg false [oo 9 (.mv (.s 0)),
   oo 10 (.len false (.s 9)),
   oo 11 (.bin .add (.s 10) (.c (.int .i64 1))),
   oo 12 (.mks [.sl true []] 24 (.s 11)),
   oo 5 (.mv (.s 12))]))
  (.seq (.seq (.h [.clean []] (.h [.kill [13]] (.reg false [oo 13 (.mv (.s 5)),
   oo 14 (.len false (.s 13)),
   oo 15 (.mv (.c (.int .i64 0)))])))
  (.blk 0
   (.loop k_impl_longest_l8)))
  k_impl_longest_r4)))⟩

def k_impl_SameNode : F := ⟨15, [.tmp 4],
  (.seq (.h [.kill [0, 1, 4]] (.reg false [oo 2 (.box (.s 0)),
   oo 3 (.box (.s 1)),
   oo 4 (.mv (.c (.bool false)))]))
  (.seq (.h [.kill [2, 3, 5, 6, 7, 8, 9, 10, 11, 12, 13, 14]] (.reg false [oo 5 (.ld 8 true (.s 2)),
   oo 6 (.ld 8 true (.s 3)),
   oo 7 (.call n_impl_sameAlone [] [] [(.s 5), (.s 6)]),
   oo 8 (.mv (.s 7)),
   ow 9 8 true (.fa 6 (.s 2)),
   ow 10 8 true (.ld 1 false (.s 9)),
   ow 11 8 true (.fa 6 (.s 3)),
   ow 12 8 true (.ld 1 false (.s 11)),
   ow 13 8 true (.call n_slices_EqualFunc_Node [] [] [(.s 10), (.s 12), (.f 88)]),
   oo 14 (.pick (.s 8) (.s 13) (.c (.bool false))),
   oo 4 (.mv (.s 14))]))
  .ret))⟩

def k_laws_eqNode : F := ⟨48, [.tmp 4],
  (.seq (.h [.kill [0, 1, 4]] (.reg false [oo 2 (.box (.s 0)),
   oo 3 (.box (.s 1)),
   oo 4 (.mv (.c (.bool false)))]))
  (.seq (.seq (.h [.kill [5, 6, 7, 8]] (.reg false [oo 5 (.fa 0 (.s 2)),
   oo 6 (.ld 1 false (.s 5)),
   oo 7 (.fa 0 (.s 3)),
   oo 8 (.ld 1 false (.s 7)),
   oo 9 (.bin .neq (.s 6) (.s 8))]))
  (.cond (.s 9)
   (.seq (.h [.kill [2, 3, 9]] (.reg false [oo 4 (.mv (.c (.bool false)))]))
   .ret)
   .skip))
  (.seq (.seq (.h [.kill [9, 10, 11, 12, 13]] (.reg false [oo 10 (.fa 1 (.s 2)),
   oo 11 (.ld 1 false (.s 10)),
   oo 12 (.fa 1 (.s 3)),
   oo 13 (.ld 1 false (.s 12)),
   oo 14 (.bin .neq (.s 11) (.s 13))]))
  (.cond (.s 14)
   (.seq (.h [.kill [2, 3, 14]] (.reg false [oo 4 (.mv (.c (.bool false)))]))
   .ret)
   .skip))
  (.seq (.seq (.h [.kill [14, 15, 16, 17, 18]] (.reg false [oo 15 (.fa 2 (.s 2)),
   oo 16 (.ld 1 false (.s 15)),
   oo 17 (.fa 2 (.s 3)),
   oo 18 (.ld 1 false (.s 17)),
   oo 19 (.bin .neq (.s 16) (.s 18))]))
  (.cond (.s 19)
   (.seq (.h [.kill [2, 3, 19]] (.reg false [oo 4 (.mv (.c (.bool false)))]))
   .ret)
   .skip))
  (.seq (.seq (.h [.kill [19, 20, 21, 22, 23]] (.reg false [oo 20 (.fa 3 (.s 2)),
   oo 21 (.ld 1 false (.s 20)),
   oo 22 (.fa 3 (.s 3)),
   oo 23 (.ld 1 false (.s 22)),
   oo 24 (.bin .neq (.s 21) (.s 23))]))
  (.cond (.s 24)
   (.seq (.h [.kill [2, 3, 24]] (.reg false [oo 4 (.mv (.c (.bool false)))]))
   .ret)
   .skip))
  (.seq (.seq (.h [.kill [24, 25, 26, 27, 28, 29]] (.reg false [oo 25 (.fa 4 (.s 2)),
   oo 26 (.ld 1 false (.s 25)),
   oo 27 (.fa 4 (.s 3)),
   oo 28 (.ld 1 false (.s 27)),
   oo 29 (.call n_laws_eqDeclS [] [] [(.s 26), (.s 28)]),
   oo 30 (.un .not (.s 29))]))
  (.cond (.s 30)
   (.seq (.h [.kill [2, 3, 30]] (.reg false [oo 4 (.mv (.c (.bool false)))]))
   .ret)
   .skip))
  (.seq (.seq (.h [.kill [30, 31, 32, 33, 34, 35]] (.reg false [oo 31 (.fa 5 (.s 2)),
   oo 32 (.ld 1 false (.s 31)),
   oo 33 (.fa 5 (.s 3)),
   oo 34 (.ld 1 false (.s 33)),
   oo 35 (.call n_laws_eqAttrS [] [] [(.s 32), (.s 34)]),
   oo 36 (.un .not (.s 35))]))
  (.cond (.s 36)
   (.seq (.h [.kill [2, 3, 36]] (.reg false [oo 4 (.mv (.c (.bool false)))]))
   .ret)
   .skip))
  (.seq (.seq (.h [.kill [36, 37, 38, 39, 40, 41]] (.reg false [oo 37 (.fa 6 (.s 2)),
   oo 38 (.ld 1 false (.s 37)),
   oo 39 (.fa 6 (.s 3)),
   oo 40 (.ld 1 false (.s 39)),
   oo 41 (.call n_laws_eqNodeS [] [] [(.s 38), (.s 40)]),
   oo 42 (.un .not (.s 41))]))
  (.cond (.s 42)
   (.seq (.h [.kill [2, 3, 42]] (.reg false [oo 4 (.mv (.c (.bool false)))]))
   .ret)
   .skip))
  (.seq (.seq (.h [.kill [2, 3, 42, 43, 44, 45, 46]] (.reg false [oo 43 (.fa 7 (.s 2)),
   oo 44 (.ld 1 false (.s 43)),
   oo 45 (.fa 7 (.s 3)),
   oo 46 (.ld 1 false (.s 45)),
   oo 47 (.bin .neq (.s 44) (.s 46))]))
  (.cond (.s 47)
   (.seq (.h [.kill [47]] (.reg false [oo 4 (.mv (.c (.bool false)))]))
   .ret)
   .skip))
  (.seq (.h [.kill [47]] (.reg false [oo 4 (.mv (.c (.bool true)))]))
  .ret))))))))))⟩

def k_laws_markText_l14 : K :=
  (.h [.clean [12]] (.seq (.seq (.h [.kill [6]] (.reg false [oo 6 (.mv (.s 0)),
   oo 7 (.bin .gtr (.s 6) (.c (.int .i64 0)))]))
  (.cond (.s 7)
   .skip
   (.ex 0)))
  (.blk 1
   (.seq (.h [.kill [7, 8, 9, 10, 11, 12, 13, 14, 15]] (.reg false [oo 8 (.mv (.s 0)),
    oo 9 (.bin .rem (.s 8) (.c (.int .i64 10))),
    oo 10 (.bin .add (.c (.int .i64 48)) (.s 9)),
    oo 11 (.conv (.int .u8) (.s 10)),
    oo 12 (.bsl 1 [(.s 11)]),
    oo 13 (.conv .str (.s 12)),
    oo 14 (.mv (.s 3)),
    oo 15 (.bin .add (.s 13) (.s 14)),
    oo 3 (.mv (.s 15))]))
   (.h [.kill [16, 17]] (.reg false [oo 16 (.mv (.s 0)),
    oo 17 (.bin .quo (.s 16) (.c (.int .i64 10))),
    oo 0 (.mv (.s 17))]))))))
def k_laws_markText_r12 : K :=
  (.seq (.h [.kill [0, 3, 7, 18, 19]] (.reg false [oo 18 (.mv (.s 3)),
   oo 19 (.bin .add (.c (.string ⟨#[109]⟩)) (.s 18)),
   oo 2 (.mv (.s 19))]))
  .ret)
def k_laws_markText : F := ⟨20, [.tmp 2],
  (.seq (.h [.kill [2]] (.reg false [oo 2 (.mv (.c (.string ⟨#[]⟩)))]))
  (.seq (.seq (.h [.kill [4]] (.reg false [oo 4 (.mv (.s 0)),
   oo 5 (.bin .leq (.s 4) (.c (.int .i64 0)))]))
  (.cond (.s 5)
   (.seq (.h [.kill [0, 5]] (.reg false [oo 2 (.mv (.c (.string ⟨#[109, 48]⟩)))]))
   .ret)
   .skip))
  (.seq (.h [.clean []] (.h [.kill [5]] (.reg false [oo 3 (.mv (.c (.string ⟨#[]⟩)))])))
  (.seq (.blk 0
   (.loop k_laws_markText_l14))
  k_laws_markText_r12))))⟩

def k_laws_markDeclS_l6 : K :=
  (.h [.clean []] (.seq (.seq (.h [.kill [6, 7, 8]] (.reg false [oo 6 (.mv (.s 5)),
   oo 7 (.mv (.s 0)),
   oo 8 (.len false (.s 7)),
   oo 9 (.bin .lss (.s 6) (.s 8))]))
  (.cond (.s 9)
   .skip
   (.ex 0)))
  (.seq (.blk 1
   (.seq (.h [.kill [9, 12, 13, 14, 15, 16, 17]] (.reg false [oo 12 (.mv (.s 0)),
    oo 13 (.mv (.s 5)),
    oo 14 (.mv (.s 1)),
    oo 15 (.call n_laws_markText [] [] [(.s 14)]),
    oo 16 (.ia 2 (.s 12) (.s 13)),
    oo 17 (.fa 0 (.s 16)),
    on (.st 1 (.s 17) (.s 15))]))
   (.seq (.h [.kill [18, 19]] (.reg false [oo 18 (.mv (.s 1)),
    oo 19 (.bin .add (.s 18) (.c (.int .i64 1))),
    oo 1 (.mv (.s 19))]))
   (.seq (.h [.kill [20, 21, 22, 23, 24, 25]] (.reg false [oo 20 (.mv (.s 0)),
    oo 21 (.mv (.s 5)),
    oo 22 (.mv (.s 1)),
    oo 23 (.call n_laws_markText [] [] [(.s 22)]),
    oo 24 (.ia 2 (.s 20) (.s 21)),
    oo 25 (.fa 1 (.s 24)),
    on (.st 1 (.s 25) (.s 23))]))
   (.h [.kill [26, 27]] (.reg false [oo 26 (.mv (.s 1)),
    oo 27 (.bin .add (.s 26) (.c (.int .i64 1))),
    oo 1 (.mv (.s 27))]))))))
  (.h [.kill [10, 11]] (.reg false [oo 10 (.mv (.s 5)),
   oo 11 (.bin .add (.s 10) (.c (.int .i64 1))),
   oo 5 (.mv (.s 11))])))))
def k_laws_markDeclS_r2 : K :=
  (.seq (.h [.kill [0, 1, 5, 9, 28]] (.reg false [oo 28 (.mv (.s 1)),
   oo 4 (.mv (.s 28))]))
  .ret)
def k_laws_markDeclS : F := ⟨29, [.tmp 4],
  (.seq (.h [.kill [4]] (.reg false [oo 4 (.mv (.c (.int .i64 0)))]))
  (.seq (.seq (.h [.clean []] (.reg false [oo 5 (.mv (.c (.int .i64 0)))]))
  (.blk 0
   (.loop k_laws_markDeclS_l6)))
  k_laws_markDeclS_r2))⟩

def k_laws_markAttrS_l6 : K :=
  (.h [.clean []] (.seq (.seq (.h [.kill [6, 7, 8]] (.reg false [oo 6 (.mv (.s 5)),
   oo 7 (.mv (.s 0)),
   oo 8 (.len false (.s 7)),
   oo 9 (.bin .lss (.s 6) (.s 8))]))
  (.cond (.s 9)
   .skip
   (.ex 0)))
  (.seq (.blk 1
   (.seq (.h [.kill [9, 12, 13, 14, 15, 16, 17]] (.reg false [oo 12 (.mv (.s 0)),
    oo 13 (.mv (.s 5)),
    oo 14 (.mv (.s 1)),
    oo 15 (.call n_laws_markText [] [] [(.s 14)]),
    oo 16 (.ia 4 (.s 12) (.s 13)),
    oo 17 (.fa 0 (.s 16)),
    on (.st 1 (.s 17) (.s 15))]))
   (.seq (.h [.kill [18, 19]] (.reg false [oo 18 (.mv (.s 1)),
    oo 19 (.bin .add (.s 18) (.c (.int .i64 1))),
    oo 1 (.mv (.s 19))]))
   (.seq (.h [.kill [20, 21, 22, 23, 24, 25]] (.reg false [oo 20 (.mv (.s 0)),
    oo 21 (.mv (.s 5)),
    oo 22 (.mv (.s 1)),
    oo 23 (.call n_laws_markText [] [] [(.s 22)]),
    oo 24 (.ia 4 (.s 20) (.s 21)),
    oo 25 (.fa 1 (.s 24)),
    on (.st 1 (.s 25) (.s 23))]))
   (.seq (.h [.kill [26, 27]] (.reg false [oo 26 (.mv (.s 1)),
    oo 27 (.bin .add (.s 26) (.c (.int .i64 1))),
    oo 1 (.mv (.s 27))]))
   (.seq (.h [.kill [28, 29, 30, 31, 32, 33]] (.reg false [oo 28 (.mv (.s 0)),
    oo 29 (.mv (.s 5)),
    oo 30 (.mv (.s 1)),
    oo 31 (.call n_laws_markText [] [] [(.s 30)]),
    oo 32 (.ia 4 (.s 28) (.s 29)),
    oo 33 (.fa 2 (.s 32)),
    on (.st 1 (.s 33) (.s 31))]))
   (.seq (.h [.kill [34, 35]] (.reg false [oo 34 (.mv (.s 1)),
    oo 35 (.bin .add (.s 34) (.c (.int .i64 1))),
    oo 1 (.mv (.s 35))]))
   (.seq (.h [.kill [36, 37, 38, 39, 40, 41]] (.reg false [oo 36 (.mv (.s 0)),
    oo 37 (.mv (.s 5)),
    oo 38 (.mv (.s 1)),
    oo 39 (.call n_laws_markText [] [] [(.s 38)]),
    oo 40 (.ia 4 (.s 36) (.s 37)),
    oo 41 (.fa 3 (.s 40)),
    on (.st 1 (.s 41) (.s 39))]))
   (.h [.kill [42, 43]] (.reg false [oo 42 (.mv (.s 1)),
    oo 43 (.bin .add (.s 42) (.c (.int .i64 1))),
    oo 1 (.mv (.s 43))]))))))))))
  (.h [.kill [10, 11]] (.reg false [oo 10 (.mv (.s 5)),
   oo 11 (.bin .add (.s 10) (.c (.int .i64 1))),
   oo 5 (.mv (.s 11))])))))
def k_laws_markAttrS_r2 : K :=
  (.seq (.h [.kill [0, 1, 5, 9, 44]] (.reg false [oo 44 (.mv (.s 1)),
   oo 4 (.mv (.s 44))]))
  .ret)
def k_laws_markAttrS : F := ⟨45, [.tmp 4],
  (.seq (.h [.kill [4]] (.reg false [oo 4 (.mv (.c (.int .i64 0)))]))
  (.seq (.seq (.h [.clean []] (.reg false [oo 5 (.mv (.c (.int .i64 0)))]))
  (.blk 0
   (.loop k_laws_markAttrS_l6)))
  k_laws_markAttrS_r2))⟩

def k_laws_szDeclS_l16 : K :=
  (.h [.clean []] (.seq (.seq (.h [.kill [12, 13, 14]] (.reg false [oo 12 (.mv (.s 5)),
   oo 13 (.mv (.s 0)),
   oo 14 (.len false (.s 13)),
   oo 15 (.bin .lss (.s 12) (.s 14))]))
  (.cond (.s 15)
   .skip
   (.ex 0)))
  (.seq (.blk 1
   (.seq (.h [.kill [15, 18, 19, 20, 21, 22, 23]] (.reg false [oo 18 (.mv (.s 0)),
    oo 19 (.mv (.s 5)),
    oo 20 (.ia 2 (.s 18) (.s 19)),
    oo 21 (.ld 2 true (.s 20)),
    oo 22 (.mv (.s 1)),
    oo 23 (.call n_laws_szDecl [] [] [(.s 21), (.s 22)]),
    oo 1 (.mv (.s 23))]))
   (.seq (.h [.kill [24]] (.reg false [oo 24 (.mv (.s 1)),
    oo 25 (.bin .lss (.s 24) (.c (.int .i64 0)))]))
   (.cond (.s 25)
    (.seq (.h [.kill [0, 1, 5, 25]] (.reg false [oo 4 (.mv (.c (.int .i64 (-1))))]))
    .ret)
    .skip))))
  (.h [.kill [16, 17, 25]] (.reg false [oo 16 (.mv (.s 5)),
   oo 17 (.bin .add (.s 16) (.c (.int .i64 1))),
   oo 5 (.mv (.s 17))])))))
def k_laws_szDeclS_r12 : K :=
  (.seq (.h [.kill [0, 1, 5, 15, 26]] (.reg false [oo 26 (.mv (.s 1)),
   oo 4 (.mv (.s 26))]))
  .ret)
def k_laws_szDeclS : F := ⟨27, [.tmp 4],
  (.seq (.h [.kill [4]] (.reg false [oo 4 (.mv (.c (.int .i64 0)))]))
  (.seq (.h [.kill [6, 7, 8, 9]] (.reg false [oo 6 (.mv (.s 1)),
   oo 7 (.mv (.s 0)),
   oo 8 (.len false (.s 7)),
   oo 9 (.bin .sub (.s 6) (.s 8)),
   oo 1 (.mv (.s 9))]))
  (.seq (.seq (.h [.kill [10]] (.reg false [oo 10 (.mv (.s 1)),
   oo 11 (.bin .lss (.s 10) (.c (.int .i64 0)))]))
  (.cond (.s 11)
   (.seq (.h [.kill [0, 1, 11]] (.reg false [oo 4 (.mv (.c (.int .i64 (-1))))]))
   .ret)
   .skip))
  (.seq (.seq (.h [.clean []] (.h [.kill [11]] (.reg false [oo 5 (.mv (.c (.int .i64 0)))])))
  (.blk 0
   (.loop k_laws_szDeclS_l16)))
  k_laws_szDeclS_r12))))⟩

def k_laws_szAttrS_l16 : K :=
  (.h [.clean []] (.seq (.seq (.h [.kill [12, 13, 14]] (.reg false [oo 12 (.mv (.s 5)),
   oo 13 (.mv (.s 0)),
   oo 14 (.len false (.s 13)),
   oo 15 (.bin .lss (.s 12) (.s 14))]))
  (.cond (.s 15)
   .skip
   (.ex 0)))
  (.seq (.blk 1
   (.seq (.h [.kill [15, 18, 19, 20, 21, 22, 23]] (.reg false [oo 18 (.mv (.s 0)),
    oo 19 (.mv (.s 5)),
    oo 20 (.ia 4 (.s 18) (.s 19)),
    oo 21 (.ld 4 true (.s 20)),
    oo 22 (.mv (.s 1)),
    oo 23 (.call n_laws_szAttr [] [] [(.s 21), (.s 22)]),
    oo 1 (.mv (.s 23))]))
   (.seq (.h [.kill [24]] (.reg false [oo 24 (.mv (.s 1)),
    oo 25 (.bin .lss (.s 24) (.c (.int .i64 0)))]))
   (.cond (.s 25)
    (.seq (.h [.kill [0, 1, 5, 25]] (.reg false [oo 4 (.mv (.c (.int .i64 (-1))))]))
    .ret)
    .skip))))
  (.h [.kill [16, 17, 25]] (.reg false [oo 16 (.mv (.s 5)),
   oo 17 (.bin .add (.s 16) (.c (.int .i64 1))),
   oo 5 (.mv (.s 17))])))))
def k_laws_szAttrS_r12 : K :=
  (.seq (.h [.kill [0, 1, 5, 15, 26]] (.reg false [oo 26 (.mv (.s 1)),
   oo 4 (.mv (.s 26))]))
  .ret)
def k_laws_szAttrS : F := ⟨27, [.tmp 4],
  (.seq (.h [.kill [4]] (.reg false [oo 4 (.mv (.c (.int .i64 0)))]))
  (.seq (.h [.kill [6, 7, 8, 9]] (.reg false [oo 6 (.mv (.s 1)),
   oo 7 (.mv (.s 0)),
   oo 8 (.len false (.s 7)),
   oo 9 (.bin .sub (.s 6) (.s 8)),
   oo 1 (.mv (.s 9))]))
  (.seq (.seq (.h [.kill [10]] (.reg false [oo 10 (.mv (.s 1)),
   oo 11 (.bin .lss (.s 10) (.c (.int .i64 0)))]))
  (.cond (.s 11)
   (.seq (.h [.kill [0, 1, 11]] (.reg false [oo 4 (.mv (.c (.int .i64 (-1))))]))
   .ret)
   .skip))
  (.seq (.seq (.h [.clean []] (.h [.kill [11]] (.reg false [oo 5 (.mv (.c (.int .i64 0)))])))
  (.blk 0
   (.loop k_laws_szAttrS_l16)))
  k_laws_szAttrS_r12))))⟩

def k_laws_toDeclS_l8 : K :=
  (.h [.clean []] (.seq (.seq (.h [.kill [8, 9, 10]] (.reg false [oo 8 (.mv (.s 4)),
   oo 9 (.mv (.s 0)),
   oo 10 (.len false (.s 9)),
   oo 11 (.bin .lss (.s 8) (.s 10))]))
  (.cond (.s 11)
   .skip
   (.ex 0)))
  (.seq (.blk 1
   (.h [.kill [11, 14, 15, 16, 17, 18, 19, 20, 21]] (.reg false [oo 14 (.mv (.s 3)),
    oo 15 (.mv (.s 4)),
    oo 16 (.mv (.s 0)),
    oo 17 (.mv (.s 4)),
    oo 18 (.ia 2 (.s 16) (.s 17)),
    oo 19 (.ld 2 true (.s 18)),
    oo 20 (.call n_laws_toDecl [] [] [(.s 19)]),
    oo 21 (.ia 2 (.s 14) (.s 15)),
    on (.st 2 (.s 21) (.s 20))])))
  (.h [.kill [12, 13]] (.reg false [oo 12 (.mv (.s 4)),
   oo 13 (.bin .add (.s 12) (.c (.int .i64 1))),
   oo 4 (.mv (.s 13))])))))
def k_laws_toDeclS_r4 : K :=
  (.seq (.h [.kill [0, 3, 4, 11, 22]] (.reg false [oo 22 (.mv (.s 3)),
   oo 2 (.mv (.s 22))]))
  .ret)
def k_laws_toDeclS : F := ⟨23, [.tmp 2],
  (.seq (.h [.kill [2]] (.reg false [oo 2 (.mv (.c (.slice none 0 0)))]))
  (.seq (.h [.kill [5, 6, 7]] (.reg false [oo 5 (.mv (.s 0)),
   oo 6 (.len false (.s 5)),
   oo 7 (.mks [.v (.string ⟨#[]⟩), .v (.string ⟨#[]⟩)] 32 (.s 6)),
   oo 3 (.mv (.s 7))]))
  (.seq (.seq (.h [.clean []] (.reg false [oo 4 (.mv (.c (.int .i64 0)))]))
  (.blk 0
   (.loop k_laws_toDeclS_l8)))
  k_laws_toDeclS_r4)))⟩

def k_laws_toAttrS_l8 : K :=
  (.h [.clean []] (.seq (.seq (.h [.kill [8, 9, 10]] (.reg false [oo 8 (.mv (.s 4)),
   oo 9 (.mv (.s 0)),
   oo 10 (.len false (.s 9)),
   oo 11 (.bin .lss (.s 8) (.s 10))]))
  (.cond (.s 11)
   .skip
   (.ex 0)))
  (.seq (.blk 1
   (.h [.kill [11, 14, 15, 16, 17, 18, 19, 20, 21]] (.reg false [oo 14 (.mv (.s 3)),
    oo 15 (.mv (.s 4)),
    oo 16 (.mv (.s 0)),
    oo 17 (.mv (.s 4)),
    oo 18 (.ia 4 (.s 16) (.s 17)),
    oo 19 (.ld 4 true (.s 18)),
    oo 20 (.call n_laws_toAttr [] [] [(.s 19)]),
    oo 21 (.ia 4 (.s 14) (.s 15)),
    on (.st 4 (.s 21) (.s 20))])))
  (.h [.kill [12, 13]] (.reg false [oo 12 (.mv (.s 4)),
   oo 13 (.bin .add (.s 12) (.c (.int .i64 1))),
   oo 4 (.mv (.s 13))])))))
def k_laws_toAttrS_r4 : K :=
  (.seq (.h [.kill [0, 3, 4, 11, 22]] (.reg false [oo 22 (.mv (.s 3)),
   oo 2 (.mv (.s 22))]))
  .ret)
def k_laws_toAttrS : F := ⟨23, [.tmp 2],
  (.seq (.h [.kill [2]] (.reg false [oo 2 (.mv (.c (.slice none 0 0)))]))
  (.seq (.h [.kill [5, 6, 7]] (.reg false [oo 5 (.mv (.s 0)),
   oo 6 (.len false (.s 5)),
   oo 7 (.mks [.v (.string ⟨#[]⟩), .v (.string ⟨#[]⟩), .v (.string ⟨#[]⟩), .v (.string ⟨#[]⟩)] 64 (.s 6)),
   oo 3 (.mv (.s 7))]))
  (.seq (.seq (.h [.clean []] (.reg false [oo 4 (.mv (.c (.int .i64 0)))]))
  (.blk 0
   (.loop k_laws_toAttrS_l8)))
  k_laws_toAttrS_r4)))⟩

def k_impl_sameAlone : F := ⟨52, [.tmp 4],
  (.seq (.h [.kill [0, 1, 4]] (.reg false [oo 2 (.box (.s 0)),
   oo 3 (.box (.s 1)),
   oo 4 (.mv (.c (.bool false)))]))
  (.seq (.h [.kill [2, 3, 5, 6, 7, 8, 9, 10, 11, 12, 13, 14, 15, 16, 17, 18, 19, 20, 21, 22, 23, 24, 25, 26, 27, 28, 29, 30, 31, 32, 33, 34, 35, 36, 37, 38, 39, 40, 41, 42, 43, 44, 45, 46, 47, 48, 49, 50, 51]] (.reg false [oo 5 (.fa 0 (.s 2)),
   oo 6 (.ld 1 false (.s 5)),
   oo 7 (.fa 0 (.s 3)),
   oo 8 (.ld 1 false (.s 7)),
   oo 9 (.bin .eql (.s 6) (.s 8)),
   oo 10 (.mv (.s 9)),
   ow 11 10 true (.fa 1 (.s 2)),
   ow 12 10 true (.ld 1 false (.s 11)),
   ow 13 10 true (.fa 1 (.s 3)),
   ow 14 10 true (.ld 1 false (.s 13)),
   ow 15 10 true (.bin .eql (.s 12) (.s 14)),
   oo 16 (.pick (.s 10) (.s 15) (.c (.bool false))),
   oo 17 (.mv (.s 16)),
   ow 18 17 true (.fa 2 (.s 2)),
   ow 19 17 true (.ld 1 false (.s 18)),
   ow 20 17 true (.fa 2 (.s 3)),
   ow 21 17 true (.ld 1 false (.s 20)),
   ow 22 17 true (.bin .eql (.s 19) (.s 21)),
   oo 23 (.pick (.s 17) (.s 22) (.c (.bool false))),
   oo 24 (.mv (.s 23)),
   ow 25 24 true (.fa 3 (.s 2)),
   ow 26 24 true (.ld 1 false (.s 25)),
   ow 27 24 true (.fa 3 (.s 3)),
   ow 28 24 true (.ld 1 false (.s 27)),
   ow 29 24 true (.bin .eql (.s 26) (.s 28)),
   oo 30 (.pick (.s 24) (.s 29) (.c (.bool false))),
   oo 31 (.mv (.s 30)),
   ow 32 31 true (.fa 7 (.s 2)),
   ow 33 31 true (.ld 1 false (.s 32)),
   ow 34 31 true (.fa 7 (.s 3)),
   ow 35 31 true (.ld 1 false (.s 34)),
   ow 36 31 true (.bin .eql (.s 33) (.s 35)),
   oo 37 (.pick (.s 31) (.s 36) (.c (.bool false))),
   oo 38 (.mv (.s 37)),
   ow 39 38 true (.fa 4 (.s 2)),
   ow 40 38 true (.ld 1 false (.s 39)),
   ow 41 38 true (.fa 4 (.s 3)),
   ow 42 38 true (.ld 1 false (.s 41)),
   ow 43 38 true (.call n_slices_Equal_Decl [] [] [(.s 40), (.s 42)]),
   oo 44 (.pick (.s 38) (.s 43) (.c (.bool false))),
   oo 45 (.mv (.s 44)),
   ow 46 45 true (.fa 5 (.s 2)),
   ow 47 45 true (.ld 1 false (.s 46)),
   ow 48 45 true (.fa 5 (.s 3)),
   ow 49 45 true (.ld 1 false (.s 48)),
   ow 50 45 true (.call n_slices_Equal_Attr [] [] [(.s 47), (.s 49)]),
   oo 51 (.pick (.s 45) (.s 50) (.c (.bool false))),
   oo 4 (.mv (.s 51))]))
  .ret))⟩

def k_slices_EqualFunc_Node_l14 : K :=
  (.h [.clean [8, 9]] (.seq (.reg false [oo 18 (.bin .lss (.s 17) (.s 16))])
  (.seq (.cond (.s 18)
   .skip
   (.ex 0))
  (.seq (.blk 1
   (.seq (.h [.kill [18, 19, 20, 21]] (.reg false [oo 19 (.mv (.s 17)),
    oo 20 (.ia 8 (.s 15) (.s 17)),
    oo 21 (.ld 8 true (.s 20)),
    oo 8 (.alloc [.v (.int .i64 0), .v (.string ⟨#[]⟩), .v (.string ⟨#[]⟩), .v (.string ⟨#[]⟩), .sl true [], .sl true [], .sl true [], .v (.string ⟨#[]⟩)]),
    oo 7 (.mv (.s 19)),
    on (.st 8 (.s 8) (.s 21))]))
   (.seq (.h [.kill [7, 22, 23, 24, 25]] (.reg false [oo 22 (.mv (.s 1)),
    oo 23 (.mv (.s 7)),
    oo 24 (.ia 8 (.s 22) (.s 23)),
    oo 25 (.ld 8 true (.s 24)),
    oo 9 (.alloc [.v (.int .i64 0), .v (.string ⟨#[]⟩), .v (.string ⟨#[]⟩), .v (.string ⟨#[]⟩), .sl true [], .sl true [], .sl true [], .v (.string ⟨#[]⟩)]),
    on (.st 8 (.s 9) (.s 25))]))
   (.seq (.h [.kill [8, 9, 26, 27, 28, 29]] (.reg false [oo 26 (.mv (.s 2)),
    oo 27 (.ld 8 true (.s 8)),
    oo 28 (.ld 8 true (.s 9)),
    oo 29 (.callv (.s 26) [] [] [(.s 27), (.s 28)]),
    oo 30 (.un .not (.s 29))]))
   (.cond (.s 30)
    (.seq (.h [.kill [1, 2, 15, 16, 17, 30]] (.reg false [oo 6 (.mv (.c (.bool false)))]))
    .ret)
    .skip)))))
  (.h [.kill [30, 31]] (.reg false [oo 31 (.bin .add (.s 17) (.c (.int .i64 1))),
   oo 17 (.mv (.s 31))]))))))
def k_slices_EqualFunc_Node_r10 : K :=
  (.seq (.h [.kill [1, 2, 15, 16, 17, 18]] (.reg false [oo 6 (.mv (.c (.bool true)))]))
  .ret)
def k_slices_EqualFunc_Node : F := ⟨32, [.tmp 6],
  (.seq (.h [.kill [6]] (.reg false [oo 6 (.mv (.c (.bool false)))]))
  (.seq (.seq (.h [.kill [10, 11, 12, 13]] (.reg false [oo 10 (.mv (.s 0)),
   oo 11 (.len false (.s 10)),
   oo 12 (.mv (.s 1)),
   oo 13 (.len false (.s 12)),
   oo 14 (.bin .neq (.s 11) (.s 13))]))
  (.cond (.s 14)
   (.seq (.h [.kill [0, 1, 2, 14]] (.reg false [oo 6 (.mv (.c (.bool false)))]))
   .ret)
   .skip))
  (.seq (.seq (.h [.clean []] (.h [.kill [0, 14]] (.reg false [oo 15 (.mv (.s 0)),
   oo 16 (.len false (.s 15)),
   oo 17 (.mv (.c (.int .i64 0)))])))
  (.blk 0
   (.loop k_slices_EqualFunc_Node_l14)))
  k_slices_EqualFunc_Node_r10)))⟩

def k_laws_eqDeclS_l14 : K :=
  (.h [.clean []] (.seq (.seq (.h [.kill [11, 12, 13]] (.reg false [oo 11 (.mv (.s 5)),
   oo 12 (.mv (.s 0)),
   oo 13 (.len false (.s 12)),
   oo 14 (.bin .lss (.s 11) (.s 13))]))
  (.cond (.s 14)
   .skip
   (.ex 0)))
  (.seq (.blk 1
   (.seq (.h [.kill [14, 17, 18, 19, 20, 21, 22, 23, 24, 25]] (.reg true [⟨some 17, none, .mv (.s 0), [], []⟩,
    ⟨some 18, none, .mv (.s 5), [], []⟩,
    ⟨some 19, none, .ia 2 (.s 17) (.s 18), [0], []⟩,
    ⟨some 20, none, .ld 2 true (.s 19), [0], []⟩,
    ⟨some 21, none, .mv (.s 1), [], []⟩,
    ⟨some 22, none, .mv (.s 5), [], []⟩,
    ⟨some 23, none, .ia 2 (.s 21) (.s 22), [1], []⟩,
    ⟨some 24, none, .ld 2 true (.s 23), [1], []⟩,
    ⟨some 25, none, .call n_laws_eqDecl [] [] [(.s 20), (.s 24)], [0, 1], []⟩,
    ⟨some 26, none, .un .not (.s 25), [], []⟩]))
   (.cond (.s 26)
    (.seq (.h [.kill [0, 1, 5, 26]] (.reg false [oo 4 (.mv (.c (.bool false)))]))
    .ret)
    .skip)))
  (.h [.kill [15, 16, 26]] (.reg false [oo 15 (.mv (.s 5)),
   oo 16 (.bin .add (.s 15) (.c (.int .i64 1))),
   oo 5 (.mv (.s 16))])))))
def k_laws_eqDeclS_r10 : K :=
  (.seq (.h [.kill [0, 1, 5, 14]] (.reg false [oo 4 (.mv (.c (.bool true)))]))
  .ret)
def k_laws_eqDeclS : F := ⟨27, [.tmp 4],
  (.seq (.h [.kill [4]] (.reg false [oo 4 (.mv (.c (.bool false)))]))
  (.seq (.seq (.h [.kill [6, 7, 8, 9]] (.reg false [oo 6 (.mv (.s 0)),
   oo 7 (.len false (.s 6)),
   oo 8 (.mv (.s 1)),
   oo 9 (.len false (.s 8)),
   oo 10 (.bin .neq (.s 7) (.s 9))]))
  (.cond (.s 10)
   (.seq (.h [.kill [0, 1, 10]] (.reg false [oo 4 (.mv (.c (.bool false)))]))
   .ret)
   .skip))
  (.seq (.seq (.h [.clean []] (.h [.kill [10]] (.reg false [oo 5 (.mv (.c (.int .i64 0)))])))
  (.blk 0
   (.loop k_laws_eqDeclS_l14)))
  k_laws_eqDeclS_r10)))⟩

def k_laws_eqAttrS_l14 : K :=
  (.h [.clean []] (.seq (.seq (.h [.kill [11, 12, 13]] (.reg false [oo 11 (.mv (.s 5)),
   oo 12 (.mv (.s 0)),
   oo 13 (.len false (.s 12)),
   oo 14 (.bin .lss (.s 11) (.s 13))]))
  (.cond (.s 14)
   .skip
   (.ex 0)))
  (.seq (.blk 1
   (.seq (.h [.kill [14, 17, 18, 19, 20, 21, 22, 23, 24, 25]] (.reg true [⟨some 17, none, .mv (.s 0), [], []⟩,
    ⟨some 18, none, .mv (.s 5), [], []⟩,
    ⟨some 19, none, .ia 4 (.s 17) (.s 18), [0], []⟩,
    ⟨some 20, none, .ld 4 true (.s 19), [0], []⟩,
    ⟨some 21, none, .mv (.s 1), [], []⟩,
    ⟨some 22, none, .mv (.s 5), [], []⟩,
    ⟨some 23, none, .ia 4 (.s 21) (.s 22), [1], []⟩,
    ⟨some 24, none, .ld 4 true (.s 23), [1], []⟩,
    ⟨some 25, none, .call n_laws_eqAttr [] [] [(.s 20), (.s 24)], [0, 1], []⟩,
    ⟨some 26, none, .un .not (.s 25), [], []⟩]))
   (.cond (.s 26)
    (.seq (.h [.kill [0, 1, 5, 26]] (.reg false [oo 4 (.mv (.c (.bool false)))]))
    .ret)
    .skip)))
  (.h [.kill [15, 16, 26]] (.reg false [oo 15 (.mv (.s 5)),
   oo 16 (.bin .add (.s 15) (.c (.int .i64 1))),
   oo 5 (.mv (.s 16))])))))
def k_laws_eqAttrS_r10 : K :=
  (.seq (.h [.kill [0, 1, 5, 14]] (.reg false [oo 4 (.mv (.c (.bool true)))]))
  .ret)
def k_laws_eqAttrS : F := ⟨27, [.tmp 4],
  (.seq (.h [.kill [4]] (.reg false [oo 4 (.mv (.c (.bool false)))]))
  (.seq (.seq (.h [.kill [6, 7, 8, 9]] (.reg false [oo 6 (.mv (.s 0)),
   oo 7 (.len false (.s 6)),
   oo 8 (.mv (.s 1)),
   oo 9 (.len false (.s 8)),
   oo 10 (.bin .neq (.s 7) (.s 9))]))
  (.cond (.s 10)
   (.seq (.h [.kill [0, 1, 10]] (.reg false [oo 4 (.mv (.c (.bool false)))]))
   .ret)
   .skip))
  (.seq (.seq (.h [.clean []] (.h [.kill [10]] (.reg false [oo 5 (.mv (.c (.int .i64 0)))])))
  (.blk 0
   (.loop k_laws_eqAttrS_l14)))
  k_laws_eqAttrS_r10)))⟩

def k_laws_szDecl : F := ⟨20, [.tmp 4],
  (.seq (.h [.kill [0, 4]] (.reg false [oo 2 (.box (.s 0)),
   oo 4 (.mv (.c (.int .i64 0)))]))
  (.seq (.h [.kill [5, 6, 7, 8, 9]] (.reg false [oo 5 (.mv (.s 1)),
   oo 6 (.fa 0 (.s 2)),
   oo 7 (.ld 1 false (.s 6)),
   oo 8 (.len true (.s 7)),
   oo 9 (.bin .sub (.s 5) (.s 8)),
   oo 1 (.mv (.s 9))]))
  (.seq (.seq (.h [.kill [10]] (.reg false [oo 10 (.mv (.s 1)),
   oo 11 (.bin .lss (.s 10) (.c (.int .i64 0)))]))
  (.cond (.s 11)
   (.seq (.h [.kill [1, 2, 11]] (.reg false [oo 4 (.mv (.c (.int .i64 (-1))))]))
   .ret)
   .skip))
  (.seq (.h [.kill [2, 11, 12, 13, 14, 15, 16]] (.reg false [oo 12 (.mv (.s 1)),
   oo 13 (.fa 1 (.s 2)),
   oo 14 (.ld 1 false (.s 13)),
   oo 15 (.len true (.s 14)),
   oo 16 (.bin .sub (.s 12) (.s 15)),
   oo 1 (.mv (.s 16))]))
  (.seq (.seq (.h [.kill [17]] (.reg false [oo 17 (.mv (.s 1)),
   oo 18 (.bin .lss (.s 17) (.c (.int .i64 0)))]))
  (.cond (.s 18)
   (.seq (.h [.kill [1, 18]] (.reg false [oo 4 (.mv (.c (.int .i64 (-1))))]))
   .ret)
   .skip))
  (.seq (.h [.kill [1, 18, 19]] (.reg false [oo 19 (.mv (.s 1)),
   oo 4 (.mv (.s 19))]))
  .ret))))))⟩

def k_laws_szAttr : F := ⟨34, [.tmp 4],
  (.seq (.h [.kill [0, 4]] (.reg false [oo 2 (.box (.s 0)),
   oo 4 (.mv (.c (.int .i64 0)))]))
  (.seq (.h [.kill [5, 6, 7, 8, 9]] (.reg false [oo 5 (.mv (.s 1)),
   oo 6 (.fa 0 (.s 2)),
   oo 7 (.ld 1 false (.s 6)),
   oo 8 (.len true (.s 7)),
   oo 9 (.bin .sub (.s 5) (.s 8)),
   oo 1 (.mv (.s 9))]))
  (.seq (.seq (.h [.kill [10]] (.reg false [oo 10 (.mv (.s 1)),
   oo 11 (.bin .lss (.s 10) (.c (.int .i64 0)))]))
  (.cond (.s 11)
   (.seq (.h [.kill [1, 2, 11]] (.reg false [oo 4 (.mv (.c (.int .i64 (-1))))]))
   .ret)
   .skip))
  (.seq (.h [.kill [11, 12, 13, 14, 15, 16]] (.reg false [oo 12 (.mv (.s 1)),
   oo 13 (.fa 1 (.s 2)),
   oo 14 (.ld 1 false (.s 13)),
   oo 15 (.len true (.s 14)),
   oo 16 (.bin .sub (.s 12) (.s 15)),
   oo 1 (.mv (.s 16))]))
  (.seq (.seq (.h [.kill [17]] (.reg false [oo 17 (.mv (.s 1)),
   oo 18 (.bin .lss (.s 17) (.c (.int .i64 0)))]))
  (.cond (.s 18)
   (.seq (.h [.kill [1, 2, 18]] (.reg false [oo 4 (.mv (.c (.int .i64 (-1))))]))
   .ret)
   .skip))
  (.seq (.h [.kill [18, 19, 20, 21, 22, 23]] (.reg false [oo 19 (.mv (.s 1)),
   oo 20 (.fa 2 (.s 2)),
   oo 21 (.ld 1 false (.s 20)),
   oo 22 (.len true (.s 21)),
   oo 23 (.bin .sub (.s 19) (.s 22)),
   oo 1 (.mv (.s 23))]))
  (.seq (.seq (.h [.kill [24]] (.reg false [oo 24 (.mv (.s 1)),
   oo 25 (.bin .lss (.s 24) (.c (.int .i64 0)))]))
  (.cond (.s 25)
   (.seq (.h [.kill [1, 2, 25]] (.reg false [oo 4 (.mv (.c (.int .i64 (-1))))]))
   .ret)
   .skip))
  (.seq (.h [.kill [2, 25, 26, 27, 28, 29, 30]] (.reg false [oo 26 (.mv (.s 1)),
   oo 27 (.fa 3 (.s 2)),
   oo 28 (.ld 1 false (.s 27)),
   oo 29 (.len true (.s 28)),
   oo 30 (.bin .sub (.s 26) (.s 29)),
   oo 1 (.mv (.s 30))]))
  (.seq (.seq (.h [.kill [31]] (.reg false [oo 31 (.mv (.s 1)),
   oo 32 (.bin .lss (.s 31) (.c (.int .i64 0)))]))
  (.cond (.s 32)
   (.seq (.h [.kill [1, 32]] (.reg false [oo 4 (.mv (.c (.int .i64 (-1))))]))
   .ret)
   .skip))
  (.seq (.h [.kill [1, 32, 33]] (.reg false [oo 33 (.mv (.s 1)),
   oo 4 (.mv (.s 33))]))
  .ret))))))))))⟩

def k_laws_toDecl : F := ⟨11, [.cell 2 2 true],
  (.seq (.h [.kill [0]] (.reg false [oo 1 (.box (.s 0)),
   oo 2 (.alloc [.v (.string ⟨#[]⟩), .v (.string ⟨#[]⟩)])]))
  (.seq (.reg false [oo 3 (.alloc [.v (.string ⟨#[]⟩), .v (.string ⟨#[]⟩)])])
  (.seq (.h [.kill [4, 5, 6]] (.reg false [oo 4 (.fa 0 (.s 1)),
   oo 5 (.ld 1 false (.s 4)),
   oo 6 (.fa 0 (.s 3)),
   on (.st 1 (.s 6) (.s 5))]))
  (.seq (.h [.kill [1, 7, 8, 9]] (.reg false [oo 7 (.fa 1 (.s 1)),
   oo 8 (.ld 1 false (.s 7)),
   oo 9 (.fa 1 (.s 3)),
   on (.st 1 (.s 9) (.s 8))]))
  (.seq (.h [.kill [3, 10]] (.reg false [oo 10 (.ld 2 true (.s 3)),
   on (.st 2 (.s 2) (.s 10))]))
  .ret)))))⟩

def k_laws_toAttr : F := ⟨17, [.cell 2 4 true],
  (.seq (.h [.kill [0]] (.reg false [oo 1 (.box (.s 0)),
   oo 2 (.alloc [.v (.string ⟨#[]⟩), .v (.string ⟨#[]⟩), .v (.string ⟨#[]⟩), .v (.string ⟨#[]⟩)])]))
  (.seq (.reg false [oo 3 (.alloc [.v (.string ⟨#[]⟩), .v (.string ⟨#[]⟩), .v (.string ⟨#[]⟩), .v (.string ⟨#[]⟩)])])
  (.seq (.h [.kill [4, 5, 6]] (.reg false [oo 4 (.fa 0 (.s 1)),
   oo 5 (.ld 1 false (.s 4)),
   oo 6 (.fa 0 (.s 3)),
   on (.st 1 (.s 6) (.s 5))]))
  (.seq (.h [.kill [7, 8, 9]] (.reg false [oo 7 (.fa 1 (.s 1)),
   oo 8 (.ld 1 false (.s 7)),
   oo 9 (.fa 1 (.s 3)),
   on (.st 1 (.s 9) (.s 8))]))
  (.seq (.h [.kill [10, 11, 12]] (.reg false [oo 10 (.fa 2 (.s 1)),
   oo 11 (.ld 1 false (.s 10)),
   oo 12 (.fa 2 (.s 3)),
   on (.st 1 (.s 12) (.s 11))]))
  (.seq (.h [.kill [1, 13, 14, 15]] (.reg false [oo 13 (.fa 3 (.s 1)),
   oo 14 (.ld 1 false (.s 13)),
   oo 15 (.fa 3 (.s 3)),
   on (.st 1 (.s 15) (.s 14))]))
  (.seq (.h [.kill [3, 16]] (.reg false [oo 16 (.ld 4 true (.s 3)),
   on (.st 4 (.s 2) (.s 16))]))
  .ret)))))))⟩

def k_slices_Equal_Decl_l14 : K :=
  (.h [.clean []] (.seq (.reg false [oo 14 (.bin .lss (.s 13) (.s 12))])
  (.seq (.cond (.s 14)
   .skip
   (.ex 0))
  (.seq (.blk 1
   (.seq (.h [.kill [14, 15]] (.reg false [oo 15 (.mv (.s 13)),
    oo 5 (.mv (.s 15))]))
   (.seq (.h [.kill [5, 16, 17, 18, 19, 20, 21, 22, 23]] (.reg true [⟨some 16, none, .mv (.s 0), [], []⟩,
    ⟨some 17, none, .mv (.s 5), [], []⟩,
    ⟨some 18, none, .ia 2 (.s 16) (.s 17), [0], []⟩,
    ⟨some 19, none, .ld 2 true (.s 18), [0], []⟩,
    ⟨some 20, none, .mv (.s 1), [], []⟩,
    ⟨some 21, none, .mv (.s 5), [], []⟩,
    ⟨some 22, none, .ia 2 (.s 20) (.s 21), [1], []⟩,
    ⟨some 23, none, .ld 2 true (.s 22), [1], []⟩,
    ⟨some 24, none, .eqs true [.str, .str] (.s 19) (.s 23), [], []⟩]))
   (.cond (.s 24)
    (.seq (.h [.kill [0, 1, 12, 13, 24]] (.reg false [oo 4 (.mv (.c (.bool false)))]))
    .ret)
    .skip))))
  (.h [.kill [24, 25]] (.reg false [oo 25 (.bin .add (.s 13) (.c (.int .i64 1))),
   oo 13 (.mv (.s 25))]))))))
def k_slices_Equal_Decl_r10 : K :=
  (.seq (.h [.kill [0, 1, 12, 13, 14]] (.reg false [oo 4 (.mv (.c (.bool true)))]))
  .ret)
def k_slices_Equal_Decl : F := ⟨26, [.tmp 4],
  (.seq (.h [.kill [4]] (.reg false [oo 4 (.mv (.c (.bool false)))]))
  (.seq (.seq (.h [.kill [6, 7, 8, 9]] (.reg false [oo 6 (.mv (.s 0)),
   oo 7 (.len false (.s 6)),
   oo 8 (.mv (.s 1)),
   oo 9 (.len false (.s 8)),
   oo 10 (.bin .neq (.s 7) (.s 9))]))
  (.cond (.s 10)
   (.seq (.h [.kill [0, 1, 10]] (.reg false [oo 4 (.mv (.c (.bool false)))]))
   .ret)
   .skip))
  (.seq (.seq (.h [.clean []] (.h [.kill [10, 11]] (.reg false [oo 11 (.mv (.s 0)),
   oo 12 (.len false (.s 11)),
   oo 13 (.mv (.c (.int .i64 0)))])))
  (.blk 0
   (.loop k_slices_Equal_Decl_l14)))
  k_slices_Equal_Decl_r10)))⟩

def k_slices_Equal_Attr_l14 : K :=
  (.h [.clean []] (.seq (.reg false [oo 14 (.bin .lss (.s 13) (.s 12))])
  (.seq (.cond (.s 14)
   .skip
   (.ex 0))
  (.seq (.blk 1
   (.seq (.h [.kill [14, 15]] (.reg false [oo 15 (.mv (.s 13)),
    oo 5 (.mv (.s 15))]))
   (.seq (.h [.kill [5, 16, 17, 18, 19, 20, 21, 22, 23]] (.reg true [⟨some 16, none, .mv (.s 0), [], []⟩,
    ⟨some 17, none, .mv (.s 5), [], []⟩,
    ⟨some 18, none, .ia 4 (.s 16) (.s 17), [0], []⟩,
    ⟨some 19, none, .ld 4 true (.s 18), [0], []⟩,
    ⟨some 20, none, .mv (.s 1), [], []⟩,
    ⟨some 21, none, .mv (.s 5), [], []⟩,
    ⟨some 22, none, .ia 4 (.s 20) (.s 21), [1], []⟩,
    ⟨some 23, none, .ld 4 true (.s 22), [1], []⟩,
    ⟨some 24, none, .eqs true [.str, .str, .str, .str] (.s 19) (.s 23), [], []⟩]))
   (.cond (.s 24)
    (.seq (.h [.kill [0, 1, 12, 13, 24]] (.reg false [oo 4 (.mv (.c (.bool false)))]))
    .ret)
    .skip))))
  (.h [.kill [24, 25]] (.reg false [oo 25 (.bin .add (.s 13) (.c (.int .i64 1))),
   oo 13 (.mv (.s 25))]))))))
def k_slices_Equal_Attr_r10 : K :=
  (.seq (.h [.kill [0, 1, 12, 13, 14]] (.reg false [oo 4 (.mv (.c (.bool true)))]))
  .ret)
def k_slices_Equal_Attr : F := ⟨26, [.tmp 4],
  (.seq (.h [.kill [4]] (.reg false [oo 4 (.mv (.c (.bool false)))]))
  (.seq (.seq (.h [.kill [6, 7, 8, 9]] (.reg false [oo 6 (.mv (.s 0)),
   oo 7 (.len false (.s 6)),
   oo 8 (.mv (.s 1)),
   oo 9 (.len false (.s 8)),
   oo 10 (.bin .neq (.s 7) (.s 9))]))
  (.cond (.s 10)
   (.seq (.h [.kill [0, 1, 10]] (.reg false [oo 4 (.mv (.c (.bool false)))]))
   .ret)
   .skip))
  (.seq (.seq (.h [.clean []] (.h [.kill [10, 11]] (.reg false [oo 11 (.mv (.s 0)),
   oo 12 (.len false (.s 11)),
   oo 13 (.mv (.c (.int .i64 0)))])))
  (.blk 0
   (.loop k_slices_Equal_Attr_l14)))
  k_slices_Equal_Attr_r10)))⟩

def k_laws_eqDecl : F := ⟨15, [.tmp 4],
  (.seq (.h [.kill [0, 1, 4]] (.reg false [oo 2 (.box (.s 0)),
   oo 3 (.box (.s 1)),
   oo 4 (.mv (.c (.bool false)))]))
  (.seq (.seq (.h [.kill [5, 6, 7, 8]] (.reg false [oo 5 (.fa 0 (.s 2)),
   oo 6 (.ld 1 false (.s 5)),
   oo 7 (.fa 0 (.s 3)),
   oo 8 (.ld 1 false (.s 7)),
   oo 9 (.bin .neq (.s 6) (.s 8))]))
  (.cond (.s 9)
   (.seq (.h [.kill [2, 3, 9]] (.reg false [oo 4 (.mv (.c (.bool false)))]))
   .ret)
   .skip))
  (.seq (.seq (.h [.kill [2, 3, 9, 10, 11, 12, 13]] (.reg false [oo 10 (.fa 1 (.s 2)),
   oo 11 (.ld 1 false (.s 10)),
   oo 12 (.fa 1 (.s 3)),
   oo 13 (.ld 1 false (.s 12)),
   oo 14 (.bin .neq (.s 11) (.s 13))]))
  (.cond (.s 14)
   (.seq (.h [.kill [14]] (.reg false [oo 4 (.mv (.c (.bool false)))]))
   .ret)
   .skip))
  (.seq (.h [.kill [14]] (.reg false [oo 4 (.mv (.c (.bool true)))]))
  .ret))))⟩

def k_laws_eqAttr : F := ⟨25, [.tmp 4],
  (.seq (.h [.kill [0, 1, 4]] (.reg false [oo 2 (.box (.s 0)),
   oo 3 (.box (.s 1)),
   oo 4 (.mv (.c (.bool false)))]))
  (.seq (.seq (.h [.kill [5, 6, 7, 8]] (.reg false [oo 5 (.fa 0 (.s 2)),
   oo 6 (.ld 1 false (.s 5)),
   oo 7 (.fa 0 (.s 3)),
   oo 8 (.ld 1 false (.s 7)),
   oo 9 (.bin .neq (.s 6) (.s 8))]))
  (.cond (.s 9)
   (.seq (.h [.kill [2, 3, 9]] (.reg false [oo 4 (.mv (.c (.bool false)))]))
   .ret)
   .skip))
  (.seq (.seq (.h [.kill [9, 10, 11, 12, 13]] (.reg false [oo 10 (.fa 1 (.s 2)),
   oo 11 (.ld 1 false (.s 10)),
   oo 12 (.fa 1 (.s 3)),
   oo 13 (.ld 1 false (.s 12)),
   oo 14 (.bin .neq (.s 11) (.s 13))]))
  (.cond (.s 14)
   (.seq (.h [.kill [2, 3, 14]] (.reg false [oo 4 (.mv (.c (.bool false)))]))
   .ret)
   .skip))
  (.seq (.seq (.h [.kill [14, 15, 16, 17, 18]] (.reg false [oo 15 (.fa 2 (.s 2)),
   oo 16 (.ld 1 false (.s 15)),
   oo 17 (.fa 2 (.s 3)),
   oo 18 (.ld 1 false (.s 17)),
   oo 19 (.bin .neq (.s 16) (.s 18))]))
  (.cond (.s 19)
   (.seq (.h [.kill [2, 3, 19]] (.reg false [oo 4 (.mv (.c (.bool false)))]))
   .ret)
   .skip))
  (.seq (.seq (.h [.kill [2, 3, 19, 20, 21, 22, 23]] (.reg false [oo 20 (.fa 3 (.s 2)),
   oo 21 (.ld 1 false (.s 20)),
   oo 22 (.fa 3 (.s 3)),
   oo 23 (.ld 1 false (.s 22)),
   oo 24 (.bin .neq (.s 21) (.s 23))]))
  (.cond (.s 24)
   (.seq (.h [.kill [24]] (.reg false [oo 4 (.mv (.c (.bool false)))]))
   .ret)
   .skip))
  (.seq (.h [.kill [24]] (.reg false [oo 4 (.mv (.c (.bool true)))]))
  .ret))))))⟩

def FTT : FTab
  | 13 => some k_laws_FnExactAlign
  | 20 => some k_laws_eqIntS
  | 26 => some k_laws_szNode
  | 28 => some k_laws_toNode
  | 30 => some k_laws_eqNode
  | 37 => some k_laws_szNodeS
  | 39 => some k_laws_toNodeS
  | 41 => some k_laws_eqNodeS
  | 44 => some k_laws_eqDeclS
  | 46 => some k_laws_markIntS
  | 47 => some k_laws_markDeclS
  | 52 => some k_spec_Align
  | 53 => some k_impl_Align
  | 54 => some k_laws_markNodeS
  | 55 => some k_laws_heldIntS
  | 67 => some k_laws_szDeclS
  | 68 => some k_laws_szAttrS
  | 69 => some k_laws_toDeclS
  | 70 => some k_laws_toAttrS
  | 71 => some k_laws_eqAttrS
  | 74 => some k_spec_l17Table
  | 75 => some k_impl_longest
  | 80 => some k_laws_eqDecl
  | 81 => some k_laws_markAttrS
  | 82 => some k_laws_markText
  | 87 => some k_spec_SameNode
  | 88 => some k_impl_SameNode
  | 98 => some k_laws_szDecl
  | 99 => some k_laws_szAttr
  | 100 => some k_laws_toDecl
  | 101 => some k_laws_toAttr
  | 102 => some k_laws_eqAttr
  | 106 => some k_impl_sameAlone
  | 107 => some k_slices_EqualFunc_Node
  | 113 => some k_slices_Equal_Decl
  | 114 => some k_slices_Equal_Attr
  | _ => none
def FTA : Env := ⟨FTT, []⟩
def SSA := And.intro (SS FTA) S3
end TT
