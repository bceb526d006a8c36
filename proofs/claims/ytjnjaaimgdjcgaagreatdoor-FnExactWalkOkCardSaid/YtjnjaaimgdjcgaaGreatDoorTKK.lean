import Derived.Test.YtjnjaaimgdjcgaaGreatDoorTNums
set_option maxHeartbeats 2000000
set_option linter.unusedVariables false
set_option linter.unusedSimpArgs false
set_option linter.defProp false
set_option maxRecDepth 100000
namespace TT
open Go
def k_laws_FnExactWalkOk : F := ⟨27, [.tmp 2],
  (.seq (.h [.kill [0, 2]] (.reg false [oo 1 (.box (.s 0)),
   oo 2 (.mv (.c (.bool false)))]))
  (.seq (.reg false [oo 3 (.mv (.c (.int .i64 1048576)))])
  (.seq (.h [.kill [7, 8, 9]] (.reg false [oo 7 (.ld 9 true (.s 1)),
   oo 8 (.mv (.s 3)),
   oo 9 (.call n_laws_szWalk [] [] [(.s 7), (.s 8)]),
   oo 3 (.mv (.s 9))]))
  (.seq (.seq (.h [.kill [3, 10]] (.reg false [oo 10 (.mv (.s 3)),
   oo 11 (.bin .lss (.s 10) (.c (.int .i64 0)))]))
  (.cond (.s 11)
   (.seq (.h [.kill [1, 11]] (.reg false [oo 2 (.mv (.c (.bool true)))]))
   .ret)
   .skip))
  (.seq (.h [.kill [11, 12, 13, 14]] (.reg false [oo 12 (.ld 9 true (.s 1)),
   oo 13 (.call n_laws_toWalk [] [true] [(.s 12)]),
   oo 14 (.call n_spec_WalkOk [] [] [(.s 13)]),
   oo 4 (.mv (.s 14))]))
  (.seq (.h [.kill [15, 16]] (.reg false [oo 15 (.ld 9 true (.s 1)),
   oo 16 (.call n_laws_toWalk [] [true] [(.s 15)]),
   oo 5 (.alloc [.v (.int .i64 0), .v (.string ⟨#[]⟩), .v (.string ⟨#[]⟩), .v (.string ⟨#[]⟩), .sl true [], .sl true [], .sl true [], .v (.string ⟨#[]⟩), .sl true []]),
   oo 5 (.vst 9 (.s 5) (.s 16))]))
  (.seq (.h [.kill [17, 18]] (.reg false [oo 17 (.ld 9 true (.s 5)),
   oo 18 (.call n_impl_WalkOk [] [] [(.s 17)]),
   oo 6 (.mv (.s 18))]))
  (.seq (.seq (.h [.kill [4, 6, 19, 20]] (.reg false [oo 19 (.mv (.s 6)),
   oo 20 (.mv (.s 4)),
   oo 21 (.beq true (.s 19) (.s 20))]))
  (.cond (.s 21)
   (.seq (.h [.kill [1, 5, 21]] (.reg false [oo 2 (.mv (.c (.bool false)))]))
   .ret)
   .skip))
  (.seq (.seq (.h [.kill [1, 5, 21, 22, 23, 24, 25]] (.reg true [⟨some 22, none, .ld 9 true (.s 5), [5, 16], []⟩,
   ⟨some 23, none, .ld 9 true (.s 1), [1], []⟩,
   ⟨some 24, none, .call n_laws_toWalk [] [true] [(.s 23)], [1], [24]⟩,
   ⟨some 25, none, .call n_laws_eqWalk [] [] [(.s 22), (.s 24)], [5, 16, 24], []⟩,
   ⟨some 26, none, .un .not (.s 25), [], []⟩]))
  (.cond (.s 26)
   (.seq (.h [.kill [26]] (.reg false [oo 2 (.mv (.c (.bool false)))]))
   .ret)
   .skip))
  (.seq (.h [.kill [26]] (.reg false [oo 2 (.mv (.c (.bool true)))]))
  .ret))))))))))⟩
def k_laws_szWalk : F := ⟨18, [.tmp 4],
  (.seq (.h [.kill [0, 4]] (.reg false [oo 2 (.box (.s 0)),
   oo 4 (.mv (.c (.int .i64 0)))]))
  (.seq (.h [.kill [5, 6, 7, 8]] (.reg false [oo 5 (.fa 0 (.s 2)),
   oo 6 (.ld 8 true (.s 5)),
   oo 7 (.mv (.s 1)),
   oo 8 (.call n_laws_szNode [] [] [(.s 6), (.s 7)]),
   oo 1 (.mv (.s 8))]))
  (.seq (.seq (.h [.kill [9]] (.reg false [oo 9 (.mv (.s 1)),
   oo 10 (.bin .lss (.s 9) (.c (.int .i64 0)))]))
  (.cond (.s 10)
   (.seq (.h [.kill [1, 2, 10]] (.reg false [oo 4 (.mv (.c (.int .i64 (-1))))]))
   .ret)
   .skip))
  (.seq (.h [.kill [2, 10, 11, 12, 13, 14]] (.reg false [oo 11 (.fa 8 (.s 2)),
   oo 12 (.ld 1 false (.s 11)),
   oo 13 (.mv (.s 1)),
   oo 14 (.call n_laws_szIntS [] [] [(.s 12), (.s 13)]),
   oo 1 (.mv (.s 14))]))
  (.seq (.seq (.h [.kill [15]] (.reg false [oo 15 (.mv (.s 1)),
   oo 16 (.bin .lss (.s 15) (.c (.int .i64 0)))]))
  (.cond (.s 16)
   (.seq (.h [.kill [1, 16]] (.reg false [oo 4 (.mv (.c (.int .i64 (-1))))]))
   .ret)
   .skip))
  (.seq (.h [.kill [1, 16, 17]] (.reg false [oo 17 (.mv (.s 1)),
   oo 4 (.mv (.s 17))]))
  .ret))))))⟩
def k_laws_toWalk : F := ⟨13, [.cell 2 9 true],
  (.seq (.h [.kill [0]] (.reg false [oo 1 (.box (.s 0)),
   oo 2 (.alloc [.v (.int .i64 0), .v (.string ⟨#[]⟩), .v (.string ⟨#[]⟩), .v (.string ⟨#[]⟩), .sl true [], .sl true [], .sl true [], .v (.string ⟨#[]⟩), .sl true []])]))
  (.seq (.reg false [oo 3 (.alloc [.v (.int .i64 0), .v (.string ⟨#[]⟩), .v (.string ⟨#[]⟩), .v (.string ⟨#[]⟩), .sl true [], .sl true [], .sl true [], .v (.string ⟨#[]⟩), .sl true []])])
  (.seq (.h [.kill [4, 5, 6, 7]] (.reg false [oo 4 (.fa 0 (.s 1)),
   oo 5 (.ld 8 true (.s 4)),
   oo 6 (.call n_laws_toNode [] [true] [(.s 5)]),
   oo 7 (.fa 0 (.s 3)),
   on (.st 8 (.s 7) (.s 6))]))
  (.seq (.h [.kill [1, 8, 9, 10, 11]] (.reg false [oo 8 (.fa 8 (.s 1)),
   oo 9 (.ld 1 false (.s 8)),
   oo 10 (.call n_laws_toIntS [] [true] [(.s 9)]),
   oo 11 (.fa 8 (.s 3)),
   on (.st 1 (.s 11) (.s 10))]))
  (.seq (.h [.kill [3, 12]] (.reg false [oo 12 (.ld 9 true (.s 3)),
   on (.st 9 (.s 2) (.s 12))]))
  .ret)))))⟩
def k_spec_WalkOk : F := ⟨19, [.tmp 2],
  (.seq (.h [.kill [0, 2]] (.reg false [oo 1 (.box (.s 0)),
   oo 2 (.mv (.c (.bool false)))]))
  (.seq (.h [.kill [3, 5, 6, 7, 8, 9, 10, 11, 12]] (.reg false [oo 6 (.fa 0 (.s 1)),
   oo 7 (.ld 8 true (.s 6)),
   oo 8 (.fa 8 (.s 1)),
   oo 9 (.ld 1 false (.s 8)),
   oo 10 (.call n_spec_NodeAt [] [true] [(.s 7), (.s 9)]),
   oo 5 (.mv (.s 10)),
   oo 11 (.ext (.s 5) 0),
   oo 12 (.ext (.s 5) 1),
   oo 3 (.alloc [.v (.int .i64 0), .v (.string ⟨#[]⟩), .v (.string ⟨#[]⟩), .v (.string ⟨#[]⟩), .sl true [], .sl true [], .sl true [], .v (.string ⟨#[]⟩)]),
   on (.st 8 (.s 3) (.s 11)),
   oo 4 (.mv (.s 12))]))
  (.seq (.h [.kill [1, 4, 13, 14, 15, 16, 17, 18]] (.reg false [oo 13 (.mv (.s 4)),
   oo 14 (.mv (.s 13)),
   ow 15 14 true (.fa 0 (.s 1)),
   ow 16 14 true (.ld 8 true (.s 15)),
   ow 17 14 true (.call n_spec_TreeOk [] [] [(.s 16)]),
   oo 18 (.pick (.s 14) (.s 17) (.c (.bool false))),
   oo 2 (.mv (.s 18))]))
  .ret)))⟩
def k_impl_WalkOk : F := ⟨19, [.tmp 2],
  (.seq (.h [.kill [0, 2]] (.reg false [oo 1 (.box (.s 0)),
   oo 2 (.mv (.c (.bool false)))]))
  (.seq (.h [.kill [3, 5, 6, 7, 8, 9, 10, 11, 12]] (.reg false [oo 6 (.fa 0 (.s 1)),
   oo 7 (.ld 8 true (.s 6)),
   oo 8 (.fa 8 (.s 1)),
   oo 9 (.ld 1 false (.s 8)),
   oo 10 (.call n_impl_NodeAt [] [true] [(.s 7), (.s 9)]),
   oo 5 (.mv (.s 10)),
   oo 11 (.ext (.s 5) 0),
   oo 12 (.ext (.s 5) 1),
   oo 3 (.alloc [.v (.int .i64 0), .v (.string ⟨#[]⟩), .v (.string ⟨#[]⟩), .v (.string ⟨#[]⟩), .sl true [], .sl true [], .sl true [], .v (.string ⟨#[]⟩)]),
   on (.st 8 (.s 3) (.s 11)),
   oo 4 (.mv (.s 12))]))
  (.seq (.h [.kill [1, 4, 13, 14, 15, 16, 17, 18]] (.reg false [oo 13 (.mv (.s 4)),
   oo 14 (.mv (.s 13)),
   ow 15 14 true (.fa 0 (.s 1)),
   ow 16 14 true (.ld 8 true (.s 15)),
   ow 17 14 true (.call n_impl_TreeOk [] [] [(.s 16)]),
   oo 18 (.pick (.s 14) (.s 17) (.c (.bool false))),
   oo 2 (.mv (.s 18))]))
  .ret)))⟩
def k_laws_eqWalk : F := ⟨17, [.tmp 4],
  (.seq (.h [.kill [0, 1, 4]] (.reg false [oo 2 (.box (.s 0)),
   oo 3 (.box (.s 1)),
   oo 4 (.mv (.c (.bool false)))]))
  (.seq (.seq (.h [.kill [5, 6, 7, 8, 9]] (.reg false [oo 5 (.fa 0 (.s 2)),
   oo 6 (.ld 8 true (.s 5)),
   oo 7 (.fa 0 (.s 3)),
   oo 8 (.ld 8 true (.s 7)),
   oo 9 (.call n_laws_eqNode [] [] [(.s 6), (.s 8)]),
   oo 10 (.un .not (.s 9))]))
  (.cond (.s 10)
   (.seq (.h [.kill [2, 3, 10]] (.reg false [oo 4 (.mv (.c (.bool false)))]))
   .ret)
   .skip))
  (.seq (.seq (.h [.kill [2, 3, 10, 11, 12, 13, 14, 15]] (.reg false [oo 11 (.fa 8 (.s 2)),
   oo 12 (.ld 1 false (.s 11)),
   oo 13 (.fa 8 (.s 3)),
   oo 14 (.ld 1 false (.s 13)),
   oo 15 (.call n_laws_eqIntS [] [] [(.s 12), (.s 14)]),
   oo 16 (.un .not (.s 15))]))
  (.cond (.s 16)
   (.seq (.h [.kill [16]] (.reg false [oo 4 (.mv (.c (.bool false)))]))
   .ret)
   .skip))
  (.seq (.h [.kill [16]] (.reg false [oo 4 (.mv (.c (.bool true)))]))
  .ret))))⟩
def k_laws_szNode : F := ⟨52, [.tmp 4],
  (.seq (.h [.kill [0, 4]] (.reg false [oo 2 (.box (.s 0)),
   oo 4 (.mv (.c (.int .i64 0)))]))
  (.seq (.h [.kill [5, 6, 7, 8, 9]] (.reg false [oo 5 (.mv (.s 1)),
   oo 6 (.fa 1 (.s 2)),
   oo 7 (.ld 1 false (.s 6)),
   oo 8 (.len true (.s 7)),
   oo 9 (.bin .sub (.s 5) (.s 8)),
   oo 1 (.mv (.s 9))]))
  (.seq (.seq (.h [.kill [10]] (.reg false [oo 10 (.mv (.s 1)),
   oo 11 (.bin .lss (.s 10) (.c (.int .i64 0)))]))
  (.cond (.s 11)
   (.seq (.h [.kill [1, 2, 11]] (.reg false [oo 4 (.mv (.c (.int .i64 (-1))))]))
   .ret)
   .skip))
  (.seq (.h [.kill [11, 12, 13, 14, 15, 16]] (.reg false [oo 12 (.mv (.s 1)),
   oo 13 (.fa 2 (.s 2)),
   oo 14 (.ld 1 false (.s 13)),
   oo 15 (.len true (.s 14)),
   oo 16 (.bin .sub (.s 12) (.s 15)),
   oo 1 (.mv (.s 16))]))
  (.seq (.seq (.h [.kill [17]] (.reg false [oo 17 (.mv (.s 1)),
   oo 18 (.bin .lss (.s 17) (.c (.int .i64 0)))]))
  (.cond (.s 18)
   (.seq (.h [.kill [1, 2, 18]] (.reg false [oo 4 (.mv (.c (.int .i64 (-1))))]))
   .ret)
   .skip))
  (.seq (.h [.kill [18, 19, 20, 21, 22, 23]] (.reg false [oo 19 (.mv (.s 1)),
   oo 20 (.fa 3 (.s 2)),
   oo 21 (.ld 1 false (.s 20)),
   oo 22 (.len true (.s 21)),
   oo 23 (.bin .sub (.s 19) (.s 22)),
   oo 1 (.mv (.s 23))]))
  (.seq (.seq (.h [.kill [24]] (.reg false [oo 24 (.mv (.s 1)),
   oo 25 (.bin .lss (.s 24) (.c (.int .i64 0)))]))
  (.cond (.s 25)
   (.seq (.h [.kill [1, 2, 25]] (.reg false [oo 4 (.mv (.c (.int .i64 (-1))))]))
   .ret)
   .skip))
  (.seq (.h [.kill [25, 26, 27, 28, 29]] (.reg false [oo 26 (.fa 4 (.s 2)),
   oo 27 (.ld 1 false (.s 26)),
   oo 28 (.mv (.s 1)),
   oo 29 (.call n_laws_szDeclS [] [] [(.s 27), (.s 28)]),
   oo 1 (.mv (.s 29))]))
  (.seq (.seq (.h [.kill [30]] (.reg false [oo 30 (.mv (.s 1)),
   oo 31 (.bin .lss (.s 30) (.c (.int .i64 0)))]))
  (.cond (.s 31)
   (.seq (.h [.kill [1, 2, 31]] (.reg false [oo 4 (.mv (.c (.int .i64 (-1))))]))
   .ret)
   .skip))
  (.seq (.h [.kill [31, 32, 33, 34, 35]] (.reg false [oo 32 (.fa 5 (.s 2)),
   oo 33 (.ld 1 false (.s 32)),
   oo 34 (.mv (.s 1)),
   oo 35 (.call n_laws_szAttrS [] [] [(.s 33), (.s 34)]),
   oo 1 (.mv (.s 35))]))
  (.seq (.seq (.h [.kill [36]] (.reg false [oo 36 (.mv (.s 1)),
   oo 37 (.bin .lss (.s 36) (.c (.int .i64 0)))]))
  (.cond (.s 37)
   (.seq (.h [.kill [1, 2, 37]] (.reg false [oo 4 (.mv (.c (.int .i64 (-1))))]))
   .ret)
   .skip))
  (.seq (.h [.kill [37, 38, 39, 40, 41]] (.reg false [oo 38 (.fa 6 (.s 2)),
   oo 39 (.ld 1 false (.s 38)),
   oo 40 (.mv (.s 1)),
   oo 41 (.call n_laws_szNodeS [] [] [(.s 39), (.s 40)]),
   oo 1 (.mv (.s 41))]))
  (.seq (.seq (.h [.kill [42]] (.reg false [oo 42 (.mv (.s 1)),
   oo 43 (.bin .lss (.s 42) (.c (.int .i64 0)))]))
  (.cond (.s 43)
   (.seq (.h [.kill [1, 2, 43]] (.reg false [oo 4 (.mv (.c (.int .i64 (-1))))]))
   .ret)
   .skip))
  (.seq (.h [.kill [2, 43, 44, 45, 46, 47, 48]] (.reg false [oo 44 (.mv (.s 1)),
   oo 45 (.fa 7 (.s 2)),
   oo 46 (.ld 1 false (.s 45)),
   oo 47 (.len true (.s 46)),
   oo 48 (.bin .sub (.s 44) (.s 47)),
   oo 1 (.mv (.s 48))]))
  (.seq (.seq (.h [.kill [49]] (.reg false [oo 49 (.mv (.s 1)),
   oo 50 (.bin .lss (.s 49) (.c (.int .i64 0)))]))
  (.cond (.s 50)
   (.seq (.h [.kill [1, 50]] (.reg false [oo 4 (.mv (.c (.int .i64 (-1))))]))
   .ret)
   .skip))
  (.seq (.h [.kill [1, 50, 51]] (.reg false [oo 51 (.mv (.s 1)),
   oo 4 (.mv (.s 51))]))
  .ret))))))))))))))))⟩
def k_laws_szIntS : F := ⟨12, [.tmp 4],
  (.seq (.h [.kill [4]] (.reg false [oo 4 (.mv (.c (.int .i64 0)))]))
  (.seq (.h [.kill [0, 5, 6, 7, 8]] (.reg false [oo 5 (.mv (.s 1)),
   oo 6 (.mv (.s 0)),
   oo 7 (.len false (.s 6)),
   oo 8 (.bin .sub (.s 5) (.s 7)),
   oo 1 (.mv (.s 8))]))
  (.seq (.seq (.h [.kill [9]] (.reg false [oo 9 (.mv (.s 1)),
   oo 10 (.bin .lss (.s 9) (.c (.int .i64 0)))]))
  (.cond (.s 10)
   (.seq (.h [.kill [1, 10]] (.reg false [oo 4 (.mv (.c (.int .i64 (-1))))]))
   .ret)
   .skip))
  (.seq (.h [.kill [1, 10, 11]] (.reg false [oo 11 (.mv (.s 1)),
   oo 4 (.mv (.s 11))]))
  .ret))))⟩
def k_laws_toNode : F := ⟨32, [.cell 2 8 true],
  (.seq (.h [.kill [0]] (.reg false [oo 1 (.box (.s 0)),
   oo 2 (.alloc [.v (.int .i64 0), .v (.string ⟨#[]⟩), .v (.string ⟨#[]⟩), .v (.string ⟨#[]⟩), .sl true [], .sl true [], .sl true [], .v (.string ⟨#[]⟩)])]))
  (.seq (.reg false [oo 3 (.alloc [.v (.int .i64 0), .v (.string ⟨#[]⟩), .v (.string ⟨#[]⟩), .v (.string ⟨#[]⟩), .sl true [], .sl true [], .sl true [], .v (.string ⟨#[]⟩)])])
  (.seq (.h [.kill [4, 5, 6]] (.reg false [oo 4 (.fa 0 (.s 1)),
   oo 5 (.ld 1 false (.s 4)),
   oo 6 (.fa 0 (.s 3)),
   on (.st 1 (.s 6) (.s 5))]))
  (.seq (.h [.kill [7, 8, 9]] (.reg false [oo 7 (.fa 1 (.s 1)),
   oo 8 (.ld 1 false (.s 7)),
   oo 9 (.fa 1 (.s 3)),
   on (.st 1 (.s 9) (.s 8))]))
  (.seq (.h [.kill [10, 11, 12]] (.reg false [oo 10 (.fa 2 (.s 1)),
   oo 11 (.ld 1 false (.s 10)),
   oo 12 (.fa 2 (.s 3)),
   on (.st 1 (.s 12) (.s 11))]))
  (.seq (.h [.kill [13, 14, 15]] (.reg false [oo 13 (.fa 3 (.s 1)),
   oo 14 (.ld 1 false (.s 13)),
   oo 15 (.fa 3 (.s 3)),
   on (.st 1 (.s 15) (.s 14))]))
  (.seq (.h [.kill [16, 17, 18, 19]] (.reg false [oo 16 (.fa 4 (.s 1)),
   oo 17 (.ld 1 false (.s 16)),
   oo 18 (.call n_laws_toDeclS [] [true] [(.s 17)]),
   oo 19 (.fa 4 (.s 3)),
   on (.st 1 (.s 19) (.s 18))]))
  (.seq (.h [.kill [20, 21, 22, 23]] (.reg false [oo 20 (.fa 5 (.s 1)),
   oo 21 (.ld 1 false (.s 20)),
   oo 22 (.call n_laws_toAttrS [] [true] [(.s 21)]),
   oo 23 (.fa 5 (.s 3)),
   on (.st 1 (.s 23) (.s 22))]))
  (.seq (.h [.kill [24, 25, 26, 27]] (.reg false [oo 24 (.fa 6 (.s 1)),
   oo 25 (.ld 1 false (.s 24)),
   oo 26 (.call n_laws_toNodeS [] [true] [(.s 25)]),
   oo 27 (.fa 6 (.s 3)),
   on (.st 1 (.s 27) (.s 26))]))
  (.seq (.h [.kill [1, 28, 29, 30]] (.reg false [oo 28 (.fa 7 (.s 1)),
   oo 29 (.ld 1 false (.s 28)),
   oo 30 (.fa 7 (.s 3)),
   on (.st 1 (.s 30) (.s 29))]))
  (.seq (.h [.kill [3, 31]] (.reg false [oo 31 (.ld 8 true (.s 3)),
   on (.st 8 (.s 2) (.s 31))]))
  .ret)))))))))))⟩
def k_laws_toIntS_l8 : K :=
  (.h [.clean []] (.seq (.seq (.h [.kill [8, 9, 10]] (.reg false [oo 8 (.mv (.s 4)),
   oo 9 (.mv (.s 0)),
   oo 10 (.len false (.s 9)),
   oo 11 (.bin .lss (.s 8) (.s 10))]))
  (.cond (.s 11)
   .skip
   (.ex 0)))
  (.seq (.blk 1
   (.h [.kill [11, 14, 15, 16, 17, 18, 19, 20]] (.reg false [oo 14 (.mv (.s 3)),
    oo 15 (.mv (.s 4)),
    oo 16 (.mv (.s 0)),
    oo 17 (.mv (.s 4)),
    oo 18 (.ia 1 (.s 16) (.s 17)),
    oo 19 (.ld 1 false (.s 18)),
    oo 20 (.ia 1 (.s 14) (.s 15)),
    on (.st 1 (.s 20) (.s 19))])))
  (.h [.kill [12, 13]] (.reg false [oo 12 (.mv (.s 4)),
   oo 13 (.bin .add (.s 12) (.c (.int .i64 1))),
   oo 4 (.mv (.s 13))])))))
def k_laws_toIntS_r4 : K :=
  (.seq (.h [.kill [0, 3, 4, 11, 21]] (.reg false [oo 21 (.mv (.s 3)),
   oo 2 (.mv (.s 21))]))
  .ret)
def k_laws_toIntS : F := ⟨22, [.tmp 2],
  (.seq (.h [.kill [2]] (.reg false [oo 2 (.mv (.c (.slice none 0 0)))]))
  (.seq (.h [.kill [5, 6, 7]] (.reg false [oo 5 (.mv (.s 0)),
   oo 6 (.len false (.s 5)),
   oo 7 (.mks [.v (.int .i64 0)] 8 (.s 6)),
   oo 3 (.mv (.s 7))]))
  (.seq (.seq (.h [.clean []] (.reg false [oo 4 (.mv (.c (.int .i64 0)))]))
  (.blk 0
   (.loop k_laws_toIntS_l8)))
  k_laws_toIntS_r4)))⟩
def k_spec_NodeAt_l8 : K :=
  (.h [.clean []] (.seq (.seq (.h [.kill [9, 10, 11]] (.reg false [oo 9 (.mv (.s 7)),
   oo 10 (.mv (.s 1)),
   oo 11 (.len false (.s 10)),
   oo 12 (.bin .lss (.s 9) (.s 11))]))
  (.cond (.s 12)
   .skip
   (.ex 0)))
  (.seq (.blk 1
   (.seq (.seq (.h [.kill [12, 15, 16, 17, 18, 19, 20, 21, 22, 23]] (.reg true [⟨some 15, none, .mv (.s 1), [], []⟩,
    ⟨some 16, none, .mv (.s 7), [], []⟩,
    ⟨some 17, none, .ia 1 (.s 15) (.s 16), [1], []⟩,
    ⟨some 18, none, .ld 1 false (.s 17), [1], []⟩,
    ⟨some 19, none, .fa 6 (.s 6), [], []⟩,
    ⟨some 20, none, .ld 1 false (.s 19), [6], []⟩,
    ⟨some 21, none, .len false (.s 20), [], []⟩,
    ⟨some 22, none, .bin .sub (.s 21) (.c (.int .i64 1)), [], []⟩,
    ⟨some 23, none, .call n_spec_l1In [] [] [(.s 18), (.c (.int .i64 0)), (.s 22)], [1], []⟩,
    ⟨some 24, none, .un .not (.s 23), [], []⟩]))
   (.cond (.s 24)
    (.seq (.h [.kill [1, 6, 7, 24, 25]] (.reg false [oo 25 (.build [.v (.int .i64 0), .v (.string ⟨#[]⟩), .v (.string ⟨#[]⟩), .v (.string ⟨#[]⟩), .sl true [], .sl true [], .sl true [], .v (.string ⟨#[]⟩)] []),
     on (.st 8 (.s 4) (.s 25)),
     oo 5 (.mv (.c (.bool false)))]))
    .ret)
    .skip))
   (.h [.kill [24, 26, 27, 28, 29, 30, 31, 32, 33]] (.reg true [⟨some 26, none, .fa 6 (.s 6), [], []⟩,
    ⟨some 27, none, .ld 1 false (.s 26), [6], []⟩,
    ⟨some 28, none, .mv (.s 1), [], []⟩,
    ⟨some 29, none, .mv (.s 7), [], []⟩,
    ⟨some 30, none, .ia 1 (.s 28) (.s 29), [1], []⟩,
    ⟨some 31, none, .ld 1 false (.s 30), [1], []⟩,
    ⟨some 32, none, .ia 8 (.s 27) (.s 31), [6], []⟩,
    ⟨some 33, none, .ld 8 true (.s 32), [1, 6], []⟩,
    ⟨none, none, .st 8 (.s 6) (.s 33), [], [1, 6]⟩]))))
  (.h [.kill [13, 14]] (.reg false [oo 13 (.mv (.s 7)),
   oo 14 (.bin .add (.s 13) (.c (.int .i64 1))),
   oo 7 (.mv (.s 14))])))))
def k_spec_NodeAt_r4 : K :=
  (.seq (.h [.kill [1, 6, 7, 12, 34, 35]] (.reg false [oo 34 (.ld 8 true (.s 6)),
   oo 35 (.call n_spec_l5Copy [] [true] [(.s 34)]),
   on (.st 8 (.s 4) (.s 35)),
   oo 5 (.mv (.c (.bool true)))]))
  .ret)
def k_spec_NodeAt : F := ⟨36, [.cell 4 8 true, .tmp 5],
  (.seq (.h [.kill [0, 5]] (.reg false [oo 2 (.box (.s 0)),
   oo 4 (.alloc [.v (.int .i64 0), .v (.string ⟨#[]⟩), .v (.string ⟨#[]⟩), .v (.string ⟨#[]⟩), .sl true [], .sl true [], .sl true [], .v (.string ⟨#[]⟩)]),
   oo 5 (.mv (.c (.bool false)))]))
  (.seq (.h [.kill [2, 8]] (.reg false [oo 8 (.ld 8 true (.s 2)),
   oo 6 (.alloc [.v (.int .i64 0), .v (.string ⟨#[]⟩), .v (.string ⟨#[]⟩), .v (.string ⟨#[]⟩), .sl true [], .sl true [], .sl true [], .v (.string ⟨#[]⟩)]),
   on (.st 8 (.s 6) (.s 8))]))
  (.seq (.seq (.h [.clean [2]] (.reg false [oo 7 (.mv (.c (.int .i64 0)))]))
  (.blk 0
   (.loop k_spec_NodeAt_l8)))
  k_spec_NodeAt_r4)))⟩
def k_spec_TreeOk : F := ⟨15, [.tmp 2],
  (.seq (.h [.kill [0, 2]] (.reg false [oo 1 (.box (.s 0)),
   oo 2 (.mv (.c (.bool false)))]))
  (.seq (.h [.kill [1, 3, 4, 5, 6, 7, 8, 9, 10, 11, 12, 13, 14]] (.reg false [oo 3 (.fa 0 (.s 1)),
   oo 4 (.ld 1 false (.s 3)),
   oo 5 (.bin .eql (.s 4) (.c (.int .i64 0))),
   oo 6 (.mv (.s 5)),
   ow 7 6 true (.ld 8 true (.s 1)),
   ow 8 6 true (.call n_spec_NodeOk [] [] [(.s 7)]),
   oo 9 (.pick (.s 6) (.s 8) (.c (.bool false))),
   oo 10 (.mv (.s 9)),
   ow 11 10 true (.ld 8 true (.s 1)),
   ow 12 10 true (.bsl 2 []),
   ow 13 10 true (.call n_spec_FitsIn [.val, .give] [] [(.s 11), (.s 12)]),
   oo 14 (.pick (.s 10) (.s 13) (.c (.bool false))),
   oo 2 (.mv (.s 14))]))
  .ret))⟩
def k_impl_NodeAt_l6 : K :=
  (.h [.clean []] (.seq (.reg false [oo 11 (.bin .lss (.s 10) (.s 9))])
  (.seq (.cond (.s 11)
   .skip
   (.ex 0))
  (.seq (.blk 1
   (.seq (.h [.kill [11, 12, 13]] (.reg false [oo 12 (.ia 1 (.s 8) (.s 10)),
    oo 13 (.ld 1 false (.s 12)),
    oo 7 (.mv (.s 13))]))
   (.seq (.seq (.h [.kill [14, 15, 16, 17, 18, 19]] (.reg false [oo 14 (.mv (.s 7)),
    oo 15 (.fa 6 (.s 2)),
    oo 16 (.ld 1 false (.s 15)),
    oo 17 (.len false (.s 16)),
    oo 18 (.bin .sub (.s 17) (.c (.int .i64 1))),
    oo 19 (.call n_impl_in [] [] [(.s 14), (.c (.int .i64 0)), (.s 18)]),
    oo 20 (.un .not (.s 19))]))
   (.cond (.s 20)
    (.seq (.h [.kill [2, 7, 8, 9, 10, 20, 21]] (.reg false [oo 21 (.build [.v (.int .i64 0), .v (.string ⟨#[]⟩), .v (.string ⟨#[]⟩), .v (.string ⟨#[]⟩), .sl true [], .sl true [], .sl true [], .v (.string ⟨#[]⟩)] []),
     on (.st 8 (.s 4) (.s 21)),
     oo 5 (.mv (.c (.bool false)))]))
    .ret)
    .skip))
   (.h [.kill [7, 20, 22, 23, 24, 25, 26]] (.reg false [oo 22 (.fa 6 (.s 2)),
    oo 23 (.ld 1 false (.s 22)),
    oo 24 (.mv (.s 7)),
    oo 25 (.ia 8 (.s 23) (.s 24)),
    oo 26 (.ld 8 true (.s 25)),
    on (.st 8 (.s 2) (.s 26))])))))
  (.h [.kill [27]] (.reg false [oo 27 (.bin .add (.s 10) (.c (.int .i64 1))),
   oo 10 (.mv (.s 27))]))))))
def k_impl_NodeAt_r2 : K :=
  (.seq (.h [.kill [2, 8, 9, 10, 11, 28, 29]] (.reg false [oo 28 (.ld 8 true (.s 2)),
   oo 29 (.call n_impl_cloneNode [] [true] [(.s 28)]),
   on (.st 8 (.s 4) (.s 29)),
   oo 5 (.mv (.c (.bool true)))]))
  .ret)
def k_impl_NodeAt : F := ⟨30, [.cell 4 8 true, .tmp 5],
  (.seq (.h [.kill [0, 5]] (.reg false [oo 2 (.box (.s 0)),
   oo 4 (.alloc [.v (.int .i64 0), .v (.string ⟨#[]⟩), .v (.string ⟨#[]⟩), .v (.string ⟨#[]⟩), .sl true [], .sl true [], .sl true [], .v (.string ⟨#[]⟩)]),
   oo 5 (.mv (.c (.bool false)))]))
  (.seq (.seq (.h [.clean []] (.h [.kill [1]] (.reg false [oo 8 (.mv (.s 1)),
   oo 9 (.len false (.s 8)),
   oo 10 (.mv (.c (.int .i64 0)))])))
  (.blk 0
   (.loop k_impl_NodeAt_l6)))
  k_impl_NodeAt_r2))⟩
def k_impl_TreeOk : F := ⟨14, [.tmp 2],
  (.seq (.h [.kill [0, 2]] (.reg false [oo 1 (.box (.s 0)),
   oo 2 (.mv (.c (.bool false)))]))
  (.seq (.h [.kill [1, 3, 4, 5, 6, 7, 8, 9, 10, 11, 12, 13]] (.reg false [oo 3 (.fa 0 (.s 1)),
   oo 4 (.ld 1 false (.s 3)),
   oo 5 (.bin .eql (.s 4) (.c (.int .i64 0))),
   oo 6 (.mv (.s 5)),
   ow 7 6 true (.ld 8 true (.s 1)),
   ow 8 6 true (.call n_impl_NodeOk [] [] [(.s 7)]),
   oo 9 (.pick (.s 6) (.s 8) (.c (.bool false))),
   oo 10 (.mv (.s 9)),
   ow 11 10 true (.ld 8 true (.s 1)),
   ow 12 10 true (.call n_impl_FitsIn [] [] [(.s 11), (.c (.slice none 0 0))]),
   oo 13 (.pick (.s 10) (.s 12) (.c (.bool false))),
   oo 2 (.mv (.s 13))]))
  .ret))⟩
def k_laws_eqNode : F := ⟨48, [.tmp 4],
  (.seq (.h [.kill [0, 1, 4]] (.reg false [oo 2 (.box (.s 0)),
   oo 3 (.box (.s 1)),
   oo 4 (.mv (.c (.bool false)))]))
  (.seq (.seq (.h [.kill [5, 6, 7, 8]] (.reg false [oo 5 (.fa 0 (.s 2)),
   oo 6 (.ld 1 false (.s 5)),
   oo 7 (.fa 0 (.s 3)),
   oo 8 (.ld 1 false (.s 7)),
   oo 9 (.bin .neq (.s 6) (.s 8))]))
  (.cond (.s 9)
   (.seq (.h [.kill [2, 3, 9]] (.reg false [oo 4 (.mv (.c (.bool false)))]))
   .ret)
   .skip))
  (.seq (.seq (.h [.kill [9, 10, 11, 12, 13]] (.reg false [oo 10 (.fa 1 (.s 2)),
   oo 11 (.ld 1 false (.s 10)),
   oo 12 (.fa 1 (.s 3)),
   oo 13 (.ld 1 false (.s 12)),
   oo 14 (.bin .neq (.s 11) (.s 13))]))
  (.cond (.s 14)
   (.seq (.h [.kill [2, 3, 14]] (.reg false [oo 4 (.mv (.c (.bool false)))]))
   .ret)
   .skip))
  (.seq (.seq (.h [.kill [14, 15, 16, 17, 18]] (.reg false [oo 15 (.fa 2 (.s 2)),
   oo 16 (.ld 1 false (.s 15)),
   oo 17 (.fa 2 (.s 3)),
   oo 18 (.ld 1 false (.s 17)),
   oo 19 (.bin .neq (.s 16) (.s 18))]))
  (.cond (.s 19)
   (.seq (.h [.kill [2, 3, 19]] (.reg false [oo 4 (.mv (.c (.bool false)))]))
   .ret)
   .skip))
  (.seq (.seq (.h [.kill [19, 20, 21, 22, 23]] (.reg false [oo 20 (.fa 3 (.s 2)),
   oo 21 (.ld 1 false (.s 20)),
   oo 22 (.fa 3 (.s 3)),
   oo 23 (.ld 1 false (.s 22)),
   oo 24 (.bin .neq (.s 21) (.s 23))]))
  (.cond (.s 24)
   (.seq (.h [.kill [2, 3, 24]] (.reg false [oo 4 (.mv (.c (.bool false)))]))
   .ret)
   .skip))
  (.seq (.seq (.h [.kill [24, 25, 26, 27, 28, 29]] (.reg false [oo 25 (.fa 4 (.s 2)),
   oo 26 (.ld 1 false (.s 25)),
   oo 27 (.fa 4 (.s 3)),
   oo 28 (.ld 1 false (.s 27)),
   oo 29 (.call n_laws_eqDeclS [] [] [(.s 26), (.s 28)]),
   oo 30 (.un .not (.s 29))]))
  (.cond (.s 30)
   (.seq (.h [.kill [2, 3, 30]] (.reg false [oo 4 (.mv (.c (.bool false)))]))
   .ret)
   .skip))
  (.seq (.seq (.h [.kill [30, 31, 32, 33, 34, 35]] (.reg false [oo 31 (.fa 5 (.s 2)),
   oo 32 (.ld 1 false (.s 31)),
   oo 33 (.fa 5 (.s 3)),
   oo 34 (.ld 1 false (.s 33)),
   oo 35 (.call n_laws_eqAttrS [] [] [(.s 32), (.s 34)]),
   oo 36 (.un .not (.s 35))]))
  (.cond (.s 36)
   (.seq (.h [.kill [2, 3, 36]] (.reg false [oo 4 (.mv (.c (.bool false)))]))
   .ret)
   .skip))
  (.seq (.seq (.h [.kill [36, 37, 38, 39, 40, 41]] (.reg false [oo 37 (.fa 6 (.s 2)),
   oo 38 (.ld 1 false (.s 37)),
   oo 39 (.fa 6 (.s 3)),
   oo 40 (.ld 1 false (.s 39)),
   oo 41 (.call n_laws_eqNodeS [] [] [(.s 38), (.s 40)]),
   oo 42 (.un .not (.s 41))]))
  (.cond (.s 42)
   (.seq (.h [.kill [2, 3, 42]] (.reg false [oo 4 (.mv (.c (.bool false)))]))
   .ret)
   .skip))
  (.seq (.seq (.h [.kill [2, 3, 42, 43, 44, 45, 46]] (.reg false [oo 43 (.fa 7 (.s 2)),
   oo 44 (.ld 1 false (.s 43)),
   oo 45 (.fa 7 (.s 3)),
   oo 46 (.ld 1 false (.s 45)),
   oo 47 (.bin .neq (.s 44) (.s 46))]))
  (.cond (.s 47)
   (.seq (.h [.kill [47]] (.reg false [oo 4 (.mv (.c (.bool false)))]))
   .ret)
   .skip))
  (.seq (.h [.kill [47]] (.reg false [oo 4 (.mv (.c (.bool true)))]))
  .ret))))))))))⟩
def k_laws_eqIntS_l14 : K :=
  (.h [.clean []] (.seq (.seq (.h [.kill [11, 12, 13]] (.reg false [oo 11 (.mv (.s 5)),
   oo 12 (.mv (.s 0)),
   oo 13 (.len false (.s 12)),
   oo 14 (.bin .lss (.s 11) (.s 13))]))
  (.cond (.s 14)
   .skip
   (.ex 0)))
  (.seq (.blk 1
   (.seq (.h [.kill [14, 17, 18, 19, 20, 21, 22, 23, 24]] (.reg true [⟨some 17, none, .mv (.s 0), [], []⟩,
    ⟨some 18, none, .mv (.s 5), [], []⟩,
    ⟨some 19, none, .ia 1 (.s 17) (.s 18), [0], []⟩,
    ⟨some 20, none, .ld 1 false (.s 19), [0], []⟩,
    ⟨some 21, none, .mv (.s 1), [], []⟩,
    ⟨some 22, none, .mv (.s 5), [], []⟩,
    ⟨some 23, none, .ia 1 (.s 21) (.s 22), [1], []⟩,
    ⟨some 24, none, .ld 1 false (.s 23), [1], []⟩,
    ⟨some 25, none, .bin .neq (.s 20) (.s 24), [], []⟩]))
   (.cond (.s 25)
    (.seq (.h [.kill [0, 1, 5, 25]] (.reg false [oo 4 (.mv (.c (.bool false)))]))
    .ret)
    .skip)))
  (.h [.kill [15, 16, 25]] (.reg false [oo 15 (.mv (.s 5)),
   oo 16 (.bin .add (.s 15) (.c (.int .i64 1))),
   oo 5 (.mv (.s 16))])))))
def k_laws_eqIntS_r10 : K :=
  (.seq (.h [.kill [0, 1, 5, 14]] (.reg false [oo 4 (.mv (.c (.bool true)))]))
  .ret)
def k_laws_eqIntS : F := ⟨26, [.tmp 4],
  (.seq (.h [.kill [4]] (.reg false [oo 4 (.mv (.c (.bool false)))]))
  (.seq (.seq (.h [.kill [6, 7, 8, 9]] (.reg false [oo 6 (.mv (.s 0)),
   oo 7 (.len false (.s 6)),
   oo 8 (.mv (.s 1)),
   oo 9 (.len false (.s 8)),
   oo 10 (.bin .neq (.s 7) (.s 9))]))
  (.cond (.s 10)
   (.seq (.h [.kill [0, 1, 10]] (.reg false [oo 4 (.mv (.c (.bool false)))]))
   .ret)
   .skip))
  (.seq (.seq (.h [.clean []] (.h [.kill [10]] (.reg false [oo 5 (.mv (.c (.int .i64 0)))])))
  (.blk 0
   (.loop k_laws_eqIntS_l14)))
  k_laws_eqIntS_r10)))⟩
def k_laws_szDeclS_l16 : K :=
  (.h [.clean []] (.seq (.seq (.h [.kill [12, 13, 14]] (.reg false [oo 12 (.mv (.s 5)),
   oo 13 (.mv (.s 0)),
   oo 14 (.len false (.s 13)),
   oo 15 (.bin .lss (.s 12) (.s 14))]))
  (.cond (.s 15)
   .skip
   (.ex 0)))
  (.seq (.blk 1
   (.seq (.h [.kill [15, 18, 19, 20, 21, 22, 23]] (.reg false [oo 18 (.mv (.s 0)),
    oo 19 (.mv (.s 5)),
    oo 20 (.ia 2 (.s 18) (.s 19)),
    oo 21 (.ld 2 true (.s 20)),
    oo 22 (.mv (.s 1)),
    oo 23 (.call n_laws_szDecl [] [] [(.s 21), (.s 22)]),
    oo 1 (.mv (.s 23))]))
   (.seq (.h [.kill [24]] (.reg false [oo 24 (.mv (.s 1)),
    oo 25 (.bin .lss (.s 24) (.c (.int .i64 0)))]))
   (.cond (.s 25)
    (.seq (.h [.kill [0, 1, 5, 25]] (.reg false [oo 4 (.mv (.c (.int .i64 (-1))))]))
    .ret)
    .skip))))
  (.h [.kill [16, 17, 25]] (.reg false [oo 16 (.mv (.s 5)),
   oo 17 (.bin .add (.s 16) (.c (.int .i64 1))),
   oo 5 (.mv (.s 17))])))))
def k_laws_szDeclS_r12 : K :=
  (.seq (.h [.kill [0, 1, 5, 15, 26]] (.reg false [oo 26 (.mv (.s 1)),
   oo 4 (.mv (.s 26))]))
  .ret)
def k_laws_szDeclS : F := ⟨27, [.tmp 4],
  (.seq (.h [.kill [4]] (.reg false [oo 4 (.mv (.c (.int .i64 0)))]))
  (.seq (.h [.kill [6, 7, 8, 9]] (.reg false [oo 6 (.mv (.s 1)),
   oo 7 (.mv (.s 0)),
   oo 8 (.len false (.s 7)),
   oo 9 (.bin .sub (.s 6) (.s 8)),
   oo 1 (.mv (.s 9))]))
  (.seq (.seq (.h [.kill [10]] (.reg false [oo 10 (.mv (.s 1)),
   oo 11 (.bin .lss (.s 10) (.c (.int .i64 0)))]))
  (.cond (.s 11)
   (.seq (.h [.kill [0, 1, 11]] (.reg false [oo 4 (.mv (.c (.int .i64 (-1))))]))
   .ret)
   .skip))
  (.seq (.seq (.h [.clean []] (.h [.kill [11]] (.reg false [oo 5 (.mv (.c (.int .i64 0)))])))
  (.blk 0
   (.loop k_laws_szDeclS_l16)))
  k_laws_szDeclS_r12))))⟩
def k_laws_szAttrS_l16 : K :=
  (.h [.clean []] (.seq (.seq (.h [.kill [12, 13, 14]] (.reg false [oo 12 (.mv (.s 5)),
   oo 13 (.mv (.s 0)),
   oo 14 (.len false (.s 13)),
   oo 15 (.bin .lss (.s 12) (.s 14))]))
  (.cond (.s 15)
   .skip
   (.ex 0)))
  (.seq (.blk 1
   (.seq (.h [.kill [15, 18, 19, 20, 21, 22, 23]] (.reg false [oo 18 (.mv (.s 0)),
    oo 19 (.mv (.s 5)),
    oo 20 (.ia 4 (.s 18) (.s 19)),
    oo 21 (.ld 4 true (.s 20)),
    oo 22 (.mv (.s 1)),
    oo 23 (.call n_laws_szAttr [] [] [(.s 21), (.s 22)]),
    oo 1 (.mv (.s 23))]))
   (.seq (.h [.kill [24]] (.reg false [oo 24 (.mv (.s 1)),
    oo 25 (.bin .lss (.s 24) (.c (.int .i64 0)))]))
   (.cond (.s 25)
    (.seq (.h [.kill [0, 1, 5, 25]] (.reg false [oo 4 (.mv (.c (.int .i64 (-1))))]))
    .ret)
    .skip))))
  (.h [.kill [16, 17, 25]] (.reg false [oo 16 (.mv (.s 5)),
   oo 17 (.bin .add (.s 16) (.c (.int .i64 1))),
   oo 5 (.mv (.s 17))])))))
def k_laws_szAttrS_r12 : K :=
  (.seq (.h [.kill [0, 1, 5, 15, 26]] (.reg false [oo 26 (.mv (.s 1)),
   oo 4 (.mv (.s 26))]))
  .ret)
def k_laws_szAttrS : F := ⟨27, [.tmp 4],
  (.seq (.h [.kill [4]] (.reg false [oo 4 (.mv (.c (.int .i64 0)))]))
  (.seq (.h [.kill [6, 7, 8, 9]] (.reg false [oo 6 (.mv (.s 1)),
   oo 7 (.mv (.s 0)),
   oo 8 (.len false (.s 7)),
   oo 9 (.bin .sub (.s 6) (.s 8)),
   oo 1 (.mv (.s 9))]))
  (.seq (.seq (.h [.kill [10]] (.reg false [oo 10 (.mv (.s 1)),
   oo 11 (.bin .lss (.s 10) (.c (.int .i64 0)))]))
  (.cond (.s 11)
   (.seq (.h [.kill [0, 1, 11]] (.reg false [oo 4 (.mv (.c (.int .i64 (-1))))]))
   .ret)
   .skip))
  (.seq (.seq (.h [.clean []] (.h [.kill [11]] (.reg false [oo 5 (.mv (.c (.int .i64 0)))])))
  (.blk 0
   (.loop k_laws_szAttrS_l16)))
  k_laws_szAttrS_r12))))⟩
def k_laws_szNodeS_l16 : K :=
  (.h [.clean []] (.seq (.seq (.h [.kill [12, 13, 14]] (.reg false [oo 12 (.mv (.s 5)),
   oo 13 (.mv (.s 0)),
   oo 14 (.len false (.s 13)),
   oo 15 (.bin .lss (.s 12) (.s 14))]))
  (.cond (.s 15)
   .skip
   (.ex 0)))
  (.seq (.blk 1
   (.seq (.h [.kill [15, 18, 19, 20, 21, 22, 23]] (.reg false [oo 18 (.mv (.s 0)),
    oo 19 (.mv (.s 5)),
    oo 20 (.ia 8 (.s 18) (.s 19)),
    oo 21 (.ld 8 true (.s 20)),
    oo 22 (.mv (.s 1)),
    oo 23 (.call n_laws_szNode [] [] [(.s 21), (.s 22)]),
    oo 1 (.mv (.s 23))]))
   (.seq (.h [.kill [24]] (.reg false [oo 24 (.mv (.s 1)),
    oo 25 (.bin .lss (.s 24) (.c (.int .i64 0)))]))
   (.cond (.s 25)
    (.seq (.h [.kill [0, 1, 5, 25]] (.reg false [oo 4 (.mv (.c (.int .i64 (-1))))]))
    .ret)
    .skip))))
  (.h [.kill [16, 17, 25]] (.reg false [oo 16 (.mv (.s 5)),
   oo 17 (.bin .add (.s 16) (.c (.int .i64 1))),
   oo 5 (.mv (.s 17))])))))
def k_laws_szNodeS_r12 : K :=
  (.seq (.h [.kill [0, 1, 5, 15, 26]] (.reg false [oo 26 (.mv (.s 1)),
   oo 4 (.mv (.s 26))]))
  .ret)
def k_laws_szNodeS : F := ⟨27, [.tmp 4],
  (.seq (.h [.kill [4]] (.reg false [oo 4 (.mv (.c (.int .i64 0)))]))
  (.seq (.h [.kill [6, 7, 8, 9]] (.reg false [oo 6 (.mv (.s 1)),
   oo 7 (.mv (.s 0)),
   oo 8 (.len false (.s 7)),
   oo 9 (.bin .sub (.s 6) (.s 8)),
   oo 1 (.mv (.s 9))]))
  (.seq (.seq (.h [.kill [10]] (.reg false [oo 10 (.mv (.s 1)),
   oo 11 (.bin .lss (.s 10) (.c (.int .i64 0)))]))
  (.cond (.s 11)
   (.seq (.h [.kill [0, 1, 11]] (.reg false [oo 4 (.mv (.c (.int .i64 (-1))))]))
   .ret)
   .skip))
  (.seq (.seq (.h [.clean []] (.h [.kill [11]] (.reg false [oo 5 (.mv (.c (.int .i64 0)))])))
  (.blk 0
   (.loop k_laws_szNodeS_l16)))
  k_laws_szNodeS_r12))))⟩
def k_laws_toDeclS_l8 : K :=
  (.h [.clean []] (.seq (.seq (.h [.kill [8, 9, 10]] (.reg false [oo 8 (.mv (.s 4)),
   oo 9 (.mv (.s 0)),
   oo 10 (.len false (.s 9)),
   oo 11 (.bin .lss (.s 8) (.s 10))]))
  (.cond (.s 11)
   .skip
   (.ex 0)))
  (.seq (.blk 1
   (.h [.kill [11, 14, 15, 16, 17, 18, 19, 20, 21]] (.reg false [oo 14 (.mv (.s 3)),
    oo 15 (.mv (.s 4)),
    oo 16 (.mv (.s 0)),
    oo 17 (.mv (.s 4)),
    oo 18 (.ia 2 (.s 16) (.s 17)),
    oo 19 (.ld 2 true (.s 18)),
    oo 20 (.call n_laws_toDecl [] [] [(.s 19)]),
    oo 21 (.ia 2 (.s 14) (.s 15)),
    on (.st 2 (.s 21) (.s 20))])))
  (.h [.kill [12, 13]] (.reg false [oo 12 (.mv (.s 4)),
   oo 13 (.bin .add (.s 12) (.c (.int .i64 1))),
   oo 4 (.mv (.s 13))])))))
def k_laws_toDeclS_r4 : K :=
  (.seq (.h [.kill [0, 3, 4, 11, 22]] (.reg false [oo 22 (.mv (.s 3)),
   oo 2 (.mv (.s 22))]))
  .ret)
def k_laws_toDeclS : F := ⟨23, [.tmp 2],
  (.seq (.h [.kill [2]] (.reg false [oo 2 (.mv (.c (.slice none 0 0)))]))
  (.seq (.h [.kill [5, 6, 7]] (.reg false [oo 5 (.mv (.s 0)),
   oo 6 (.len false (.s 5)),
   oo 7 (.mks [.v (.string ⟨#[]⟩), .v (.string ⟨#[]⟩)] 32 (.s 6)),
   oo 3 (.mv (.s 7))]))
  (.seq (.seq (.h [.clean []] (.reg false [oo 4 (.mv (.c (.int .i64 0)))]))
  (.blk 0
   (.loop k_laws_toDeclS_l8)))
  k_laws_toDeclS_r4)))⟩
def k_laws_toAttrS_l8 : K :=
  (.h [.clean []] (.seq (.seq (.h [.kill [8, 9, 10]] (.reg false [oo 8 (.mv (.s 4)),
   oo 9 (.mv (.s 0)),
   oo 10 (.len false (.s 9)),
   oo 11 (.bin .lss (.s 8) (.s 10))]))
  (.cond (.s 11)
   .skip
   (.ex 0)))
  (.seq (.blk 1
   (.h [.kill [11, 14, 15, 16, 17, 18, 19, 20, 21]] (.reg false [oo 14 (.mv (.s 3)),
    oo 15 (.mv (.s 4)),
    oo 16 (.mv (.s 0)),
    oo 17 (.mv (.s 4)),
    oo 18 (.ia 4 (.s 16) (.s 17)),
    oo 19 (.ld 4 true (.s 18)),
    oo 20 (.call n_laws_toAttr [] [] [(.s 19)]),
    oo 21 (.ia 4 (.s 14) (.s 15)),
    on (.st 4 (.s 21) (.s 20))])))
  (.h [.kill [12, 13]] (.reg false [oo 12 (.mv (.s 4)),
   oo 13 (.bin .add (.s 12) (.c (.int .i64 1))),
   oo 4 (.mv (.s 13))])))))
def k_laws_toAttrS_r4 : K :=
  (.seq (.h [.kill [0, 3, 4, 11, 22]] (.reg false [oo 22 (.mv (.s 3)),
   oo 2 (.mv (.s 22))]))
  .ret)
def k_laws_toAttrS : F := ⟨23, [.tmp 2],
  (.seq (.h [.kill [2]] (.reg false [oo 2 (.mv (.c (.slice none 0 0)))]))
  (.seq (.h [.kill [5, 6, 7]] (.reg false [oo 5 (.mv (.s 0)),
   oo 6 (.len false (.s 5)),
   oo 7 (.mks [.v (.string ⟨#[]⟩), .v (.string ⟨#[]⟩), .v (.string ⟨#[]⟩), .v (.string ⟨#[]⟩)] 64 (.s 6)),
   oo 3 (.mv (.s 7))]))
  (.seq (.seq (.h [.clean []] (.reg false [oo 4 (.mv (.c (.int .i64 0)))]))
  (.blk 0
   (.loop k_laws_toAttrS_l8)))
  k_laws_toAttrS_r4)))⟩
def k_laws_toNodeS_l8 : K :=
  (.h [.clean [20]] (.seq (.seq (.h [.kill [8, 9, 10]] (.reg false [oo 8 (.mv (.s 4)),
   oo 9 (.mv (.s 0)),
   oo 10 (.len false (.s 9)),
   oo 11 (.bin .lss (.s 8) (.s 10))]))
  (.cond (.s 11)
   .skip
   (.ex 0)))
  (.seq (.blk 1
   (.h [.kill [11, 14, 15, 16, 17, 18, 19, 20, 21]] (.reg false [oo 14 (.mv (.s 3)),
    oo 15 (.mv (.s 4)),
    oo 16 (.mv (.s 0)),
    oo 17 (.mv (.s 4)),
    oo 18 (.ia 8 (.s 16) (.s 17)),
    oo 19 (.ld 8 true (.s 18)),
    oo 20 (.call n_laws_toNode [] [true] [(.s 19)]),
    oo 21 (.ia 8 (.s 14) (.s 15)),
    on (.st 8 (.s 21) (.s 20))])))
  (.h [.kill [12, 13]] (.reg false [oo 12 (.mv (.s 4)),
   oo 13 (.bin .add (.s 12) (.c (.int .i64 1))),
   oo 4 (.mv (.s 13))])))))
def k_laws_toNodeS_r4 : K :=
  (.seq (.h [.kill [0, 3, 4, 11, 22]] (.reg false [oo 22 (.mv (.s 3)),
   oo 2 (.mv (.s 22))]))
  .ret)
def k_laws_toNodeS : F := ⟨23, [.tmp 2],
  (.seq (.h [.kill [2]] (.reg false [oo 2 (.mv (.c (.slice none 0 0)))]))
  (.seq (.h [.kill [5, 6, 7]] (.reg false [oo 5 (.mv (.s 0)),
   oo 6 (.len false (.s 5)),
   oo 7 (.mks [.v (.int .i64 0), .v (.string ⟨#[]⟩), .v (.string ⟨#[]⟩), .v (.string ⟨#[]⟩), .sl true [], .sl true [], .sl true [], .v (.string ⟨#[]⟩)] 144 (.s 6)),
   oo 3 (.mv (.s 7))]))
  (.seq (.seq (.h [.clean []] (.reg false [oo 4 (.mv (.c (.int .i64 0)))]))
  (.blk 0
   (.loop k_laws_toNodeS_l8)))
  k_laws_toNodeS_r4)))⟩
def k_spec_l1In : F := ⟨15, [.tmp 6],
  (.seq (.h [.kill [6]] (.reg false [oo 6 (.mv (.c (.bool false)))]))
  (.seq (.h [.kill [0, 1, 2, 7, 8, 9, 10, 11, 12, 13, 14]] (.reg false [oo 7 (.mv (.s 0)),
   oo 8 (.mv (.s 1)),
   oo 9 (.bin .geq (.s 7) (.s 8)),
   oo 10 (.mv (.s 9)),
   ow 11 10 true (.mv (.s 0)),
   ow 12 10 true (.mv (.s 2)),
   ow 13 10 true (.bin .leq (.s 11) (.s 12)),
   oo 14 (.pick (.s 10) (.s 13) (.c (.bool false))),
   oo 6 (.mv (.s 14))]))
  .ret))⟩
def k_spec_l5Copy : F := ⟨20, [.cell 2 8 true],
  (.seq (.h [.kill [0]] (.reg false [oo 1 (.box (.s 0)),
   oo 2 (.alloc [.v (.int .i64 0), .v (.string ⟨#[]⟩), .v (.string ⟨#[]⟩), .v (.string ⟨#[]⟩), .sl true [], .sl true [], .sl true [], .v (.string ⟨#[]⟩)])]))
  (.seq (.h [.kill [4]] (.reg false [oo 4 (.ld 8 true (.s 1)),
   oo 3 (.alloc [.v (.int .i64 0), .v (.string ⟨#[]⟩), .v (.string ⟨#[]⟩), .v (.string ⟨#[]⟩), .sl true [], .sl true [], .sl true [], .v (.string ⟨#[]⟩)]),
   on (.st 8 (.s 3) (.s 4))]))
  (.seq (.h [.kill [5, 6, 7, 8, 9]] (.reg false [oo 5 (.bsl 2 []),
   oo 6 (.fa 4 (.s 1)),
   oo 7 (.ld 1 false (.s 6)),
   oo 8 (.app 2 32 (.s 5) (.s 7)),
   oo 9 (.fa 4 (.s 3)),
   on (.st 1 (.s 9) (.s 8))]))
  (.seq (.h [.kill [10, 11, 12, 13, 14]] (.reg false [oo 10 (.bsl 4 []),
   oo 11 (.fa 5 (.s 1)),
   oo 12 (.ld 1 false (.s 11)),
   oo 13 (.app 4 64 (.s 10) (.s 12)),
   oo 14 (.fa 5 (.s 3)),
   on (.st 1 (.s 14) (.s 13))]))
  (.seq (.h [.kill [1, 15, 16, 17, 18]] (.reg false [oo 15 (.fa 6 (.s 1)),
   oo 16 (.ld 1 false (.s 15)),
   oo 17 (.call n_spec_l5All [] [true] [(.s 16)]),
   oo 18 (.fa 6 (.s 3)),
   on (.st 1 (.s 18) (.s 17))]))
  (.seq (.h [.kill [3, 19]] (.reg false [oo 19 (.ld 8 true (.s 3)),
   on (.st 8 (.s 2) (.s 19))]))
  .ret))))))⟩
def k_spec_NodeOk_r33 : K :=
  (.seq (.h [.kill [27, 30, 31, 32, 33, 34, 35]] (.reg false [oo 30 (.fa 6 (.s 1)),
   oo 31 (.ld 1 false (.s 30)),
   oo 32 (.mv (.s 4)),
   oo 33 (.ia 8 (.s 31) (.s 32)),
   oo 34 (.fa 0 (.s 33)),
   oo 35 (.ld 1 false (.s 34)),
   oo 36 (.bin .eql (.s 35) (.c (.int .i64 2)))]))
  (.cond (.s 36)
   (.seq (.h [.kill [1, 3, 4, 36]] (.reg false [oo 2 (.mv (.c (.bool false)))]))
   .ret)
   .skip))
def k_spec_NodeOk_r31 : K :=
  (.h [.kill [19, 20, 36]] (.reg false [oo 19 (.mv (.s 4)),
   oo 20 (.bin .add (.s 19) (.c (.int .i64 1))),
   oo 4 (.mv (.s 20))]))
def k_spec_NodeOk_l24 : K :=
  (.h [.clean []] (.seq (.seq (.h [.kill [14, 15, 16, 17]] (.reg false [oo 14 (.mv (.s 4)),
   oo 15 (.fa 6 (.s 1)),
   oo 16 (.ld 1 false (.s 15)),
   oo 17 (.len false (.s 16)),
   oo 18 (.bin .lss (.s 14) (.s 17))]))
  (.cond (.s 18)
   .skip
   (.ex 0)))
  (.seq (.blk 1
   (.seq (.h [.kill [27], .clean []] (.seq (.h [.kill [18, 21, 22, 23, 24, 25, 26]] (.reg false [oo 21 (.fa 6 (.s 1)),
    oo 22 (.ld 1 false (.s 21)),
    oo 23 (.mv (.s 4)),
    oo 24 (.ia 8 (.s 22) (.s 23)),
    oo 25 (.fa 0 (.s 24)),
    oo 26 (.ld 1 false (.s 25)),
    oo 27 (.bin .eql (.s 26) (.c (.int .i64 1)))]))
   (.cond (.s 27)
    (.h [.kill [27, 28, 29]] (.reg false [oo 28 (.mv (.s 3)),
     oo 29 (.bin .add (.s 28) (.c (.int .i64 1))),
     oo 3 (.mv (.s 29))]))
    .skip)))
   k_spec_NodeOk_r33))
  k_spec_NodeOk_r31)))
def k_spec_NodeOk_r20 : K :=
  (.seq (.h [.kill [1, 3, 4, 18, 37, 38, 39, 40, 41, 42, 43, 44, 45, 46, 47, 48, 49, 50, 51, 52, 53, 54, 55, 56, 57, 58, 59, 60, 61, 62, 63, 64, 65, 66, 67, 68, 69, 70, 71, 72, 73, 74, 75]] (.reg false [oo 37 (.mv (.s 3)),
   oo 38 (.bin .eql (.s 37) (.c (.int .i64 1))),
   oo 39 (.mv (.s 38)),
   ow 40 39 true (.fa 1 (.s 1)),
   ow 41 39 true (.ld 1 false (.s 40)),
   ow 42 39 true (.bin .eql (.s 41) (.c (.string ⟨#[]⟩))),
   oo 43 (.pick (.s 39) (.s 42) (.c (.bool false))),
   oo 44 (.mv (.s 43)),
   ow 45 44 true (.fa 2 (.s 1)),
   ow 46 44 true (.ld 1 false (.s 45)),
   ow 47 44 true (.bin .eql (.s 46) (.c (.string ⟨#[]⟩))),
   oo 48 (.pick (.s 44) (.s 47) (.c (.bool false))),
   oo 49 (.mv (.s 48)),
   ow 50 49 true (.fa 3 (.s 1)),
   ow 51 49 true (.ld 1 false (.s 50)),
   ow 52 49 true (.bin .eql (.s 51) (.c (.string ⟨#[]⟩))),
   oo 53 (.pick (.s 49) (.s 52) (.c (.bool false))),
   oo 54 (.mv (.s 53)),
   ow 55 54 true (.fa 7 (.s 1)),
   ow 56 54 true (.ld 1 false (.s 55)),
   ow 57 54 true (.bin .eql (.s 56) (.c (.string ⟨#[]⟩))),
   oo 58 (.pick (.s 54) (.s 57) (.c (.bool false))),
   oo 59 (.mv (.s 58)),
   ow 60 59 true (.fa 4 (.s 1)),
   ow 61 59 true (.ld 1 false (.s 60)),
   ow 62 59 true (.len false (.s 61)),
   ow 63 59 true (.bin .eql (.s 62) (.c (.int .i64 0))),
   oo 64 (.pick (.s 59) (.s 63) (.c (.bool false))),
   oo 65 (.mv (.s 64)),
   ow 66 65 true (.fa 5 (.s 1)),
   ow 67 65 true (.ld 1 false (.s 66)),
   ow 68 65 true (.len false (.s 67)),
   ow 69 65 true (.bin .eql (.s 68) (.c (.int .i64 0))),
   oo 70 (.pick (.s 65) (.s 69) (.c (.bool false))),
   oo 71 (.mv (.s 70)),
   ow 72 71 true (.fa 6 (.s 1)),
   ow 73 71 true (.ld 1 false (.s 72)),
   ow 74 71 true (.call n_spec_l5Kids [] [] [(.s 73), (.c (.int .i64 0))]),
   oo 75 (.pick (.s 71) (.s 74) (.c (.bool false))),
   oo 2 (.mv (.s 75))]))
  .ret)
def k_spec_NodeOk : F := ⟨76, [.tmp 2],
  (.seq (.h [.kill [0, 2]] (.reg false [oo 1 (.box (.s 0)),
   oo 2 (.mv (.c (.bool false)))]))
  (.seq (.seq (.h [.kill [5, 6]] (.reg false [oo 5 (.ld 8 true (.s 1)),
   oo 6 (.call n_spec_CountOf [] [] [(.s 5)]),
   oo 7 (.bin .gtr (.s 6) (.c (.int .i64 60)))]))
  (.cond (.s 7)
   (.seq (.h [.kill [1, 7]] (.reg false [oo 2 (.mv (.c (.bool false)))]))
   .ret)
   .skip))
  (.seq (.seq (.h [.kill [7, 8, 9]] (.reg false [oo 8 (.fa 0 (.s 1)),
   oo 9 (.ld 1 false (.s 8)),
   oo 10 (.bin .neq (.s 9) (.c (.int .i64 0)))]))
  (.cond (.s 10)
   (.seq (.h [.kill [1, 10, 11, 12, 13]] (.reg false [oo 11 (.ld 8 true (.s 1)),
    oo 12 (.bsl 8 [(.s 11)]),
    oo 13 (.call n_spec_l5Kids [.give] [] [(.s 12), (.c (.int .i64 0))]),
    oo 2 (.mv (.s 13))]))
   .ret)
   .skip))
  (.seq (.h [.kill [10]] (.reg false [oo 3 (.mv (.c (.int .i64 0)))]))
  (.seq (.seq (.h [.clean []] (.reg false [oo 4 (.mv (.c (.int .i64 0)))]))
  (.blk 0
   (.loop k_spec_NodeOk_l24)))
  k_spec_NodeOk_r20)))))⟩
def k_spec_FitsIn_l22 : K :=
  (.h [.clean []] (.seq (.seq (.h [.kill [34, 35, 36, 37]] (.reg false [oo 34 (.mv (.s 8)),
   oo 35 (.fa 5 (.s 2)),
   oo 36 (.ld 1 false (.s 35)),
   oo 37 (.len false (.s 36)),
   oo 38 (.bin .lss (.s 34) (.s 37))]))
  (.cond (.s 38)
   .skip
   (.ex 0)))
  (.seq (.blk 1
   (.seq (.h [.kill [38, 41, 42, 43, 44, 45, 46, 47, 48, 49, 50, 51]] (.reg false [oo 42 (.mv (.s 5)),
    oo 43 (.fa 5 (.s 2)),
    oo 44 (.ld 1 false (.s 43)),
    oo 45 (.mv (.s 8)),
    oo 46 (.ia 4 (.s 44) (.s 45)),
    oo 47 (.fa 0 (.s 46)),
    oo 48 (.ld 1 false (.s 47)),
    oo 49 (.call n_spec_SpaceOf [] [] [(.s 42), (.s 48)]),
    oo 41 (.mv (.s 49)),
    oo 50 (.ext (.s 41) 0),
    oo 51 (.ext (.s 41) 1),
    oo 9 (.mv (.s 50)),
    oo 10 (.mv (.s 51))]))
   (.seq (.h [.kill [9, 10, 52, 53, 54, 55, 56, 57, 58, 59, 60, 61, 62, 63, 64, 65, 66, 67, 68, 69, 70, 71]] (.reg false [oo 52 (.fa 5 (.s 2)),
    oo 53 (.ld 1 false (.s 52)),
    oo 54 (.mv (.s 8)),
    oo 55 (.ia 4 (.s 53) (.s 54)),
    oo 56 (.fa 0 (.s 55)),
    oo 57 (.ld 1 false (.s 56)),
    oo 58 (.bin .neq (.s 57) (.c (.string ⟨#[]⟩))),
    oo 59 (.mv (.s 58)),
    ow 60 59 true (.mv (.s 10)),
    ow 61 59 true (.un .not (.s 60)),
    ow 62 59 true (.mv (.s 61)),
    ow 63 62 false (.mv (.s 9)),
    ow 64 62 false (.fa 5 (.s 2)),
    ow 65 62 false (.ld 1 false (.s 64)),
    ow 66 62 false (.mv (.s 8)),
    ow 67 62 false (.ia 4 (.s 65) (.s 66)),
    ow 68 62 false (.fa 2 (.s 67)),
    ow 69 62 false (.ld 1 false (.s 68)),
    ow 70 62 false (.bin .neq (.s 63) (.s 69)),
    ow 71 59 true (.pick (.s 62) (.c (.bool true)) (.s 70)),
    oo 72 (.pick (.s 59) (.s 71) (.c (.bool false)))]))
   (.cond (.s 72)
    (.seq (.h [.kill [2, 5, 8, 72]] (.reg false [oo 4 (.mv (.c (.bool false)))]))
    .ret)
    .skip))))
  (.h [.kill [39, 40, 72]] (.reg false [oo 39 (.mv (.s 8)),
   oo 40 (.bin .add (.s 39) (.c (.int .i64 1))),
   oo 8 (.mv (.s 40))])))))
def k_spec_FitsIn_l45 : K :=
  (.h [.clean []] (.seq (.seq (.h [.kill [73, 74, 75, 76]] (.reg false [oo 73 (.mv (.s 11)),
   oo 74 (.fa 6 (.s 2)),
   oo 75 (.ld 1 false (.s 74)),
   oo 76 (.len false (.s 75)),
   oo 77 (.bin .lss (.s 73) (.s 76))]))
  (.cond (.s 77)
   .skip
   (.ex 2)))
  (.seq (.blk 3
   (.seq (.h [.kill [77, 80, 81, 82, 83, 84, 85, 86]] (.reg false [oo 80 (.fa 6 (.s 2)),
    oo 81 (.ld 1 false (.s 80)),
    oo 82 (.mv (.s 11)),
    oo 83 (.ia 8 (.s 81) (.s 82)),
    oo 84 (.ld 8 true (.s 83)),
    oo 85 (.mv (.s 5)),
    oo 86 (.call n_spec_FitsIn [] [] [(.s 84), (.s 85)]),
    oo 87 (.un .not (.s 86))]))
   (.cond (.s 87)
    (.seq (.h [.kill [2, 5, 11, 87]] (.reg false [oo 4 (.mv (.c (.bool false)))]))
    .ret)
    .skip)))
  (.h [.kill [78, 79, 87]] (.reg false [oo 78 (.mv (.s 11)),
   oo 79 (.bin .add (.s 78) (.c (.int .i64 1))),
   oo 11 (.mv (.s 79))])))))
def k_spec_FitsIn_r41 : K :=
  (.seq (.h [.kill [2, 5, 11, 77]] (.reg false [oo 4 (.mv (.c (.bool true)))]))
  .ret)
def k_spec_FitsIn_r18 : K :=
  (.seq (.seq (.h [.clean []] (.h [.kill [8, 38]] (.reg false [oo 11 (.mv (.c (.int .i64 0)))])))
  (.blk 2
   (.loop k_spec_FitsIn_l45)))
  k_spec_FitsIn_r41)
def k_spec_FitsIn_r4 : K :=
  (.seq (.seq (.h [.clean []] (.h [.kill [18, 33]] (.reg false [oo 8 (.mv (.c (.int .i64 0)))])))
  (.blk 0
   (.loop k_spec_FitsIn_l22)))
  k_spec_FitsIn_r18)
def k_spec_FitsIn : F := ⟨88, [.tmp 4],
  (.seq (.h [.kill [0, 4]] (.reg false [oo 2 (.box (.s 0)),
   oo 4 (.mv (.c (.bool false)))]))
  (.seq (.h [.kill [1, 12, 13, 14, 15]] (.reg false [oo 12 (.mv (.s 1)),
   oo 13 (.fa 4 (.s 2)),
   oo 14 (.ld 1 false (.s 13)),
   oo 15 (.call n_spec_Inner [] [true] [(.s 12), (.s 14)]),
   oo 5 (.mv (.s 15))]))
  (.seq (.h [.kill [18, 33], .clean []] (.seq (.h [.kill [16, 17]] (.reg false [oo 16 (.fa 0 (.s 2)),
   oo 17 (.ld 1 false (.s 16)),
   oo 18 (.bin .eql (.s 17) (.c (.int .i64 1)))]))
  (.cond (.s 18)
   (.seq (.h [.kill [18, 19, 20, 21, 22, 23, 24, 25]] (.reg false [oo 20 (.mv (.s 5)),
    oo 21 (.fa 1 (.s 2)),
    oo 22 (.ld 1 false (.s 21)),
    oo 23 (.call n_spec_SpaceOf [] [] [(.s 20), (.s 22)]),
    oo 19 (.mv (.s 23)),
    oo 24 (.ext (.s 19) 0),
    oo 25 (.ext (.s 19) 1),
    oo 6 (.mv (.s 24)),
    oo 7 (.mv (.s 25))]))
   (.seq (.h [.kill [6, 7, 26, 27, 28, 29, 30, 31, 32]] (.reg false [oo 26 (.mv (.s 7)),
    oo 27 (.un .not (.s 26)),
    oo 28 (.mv (.s 27)),
    ow 29 28 false (.mv (.s 6)),
    ow 30 28 false (.fa 3 (.s 2)),
    ow 31 28 false (.ld 1 false (.s 30)),
    ow 32 28 false (.bin .neq (.s 29) (.s 31)),
    oo 33 (.pick (.s 28) (.c (.bool true)) (.s 32))]))
   (.cond (.s 33)
    (.seq (.h [.kill [2, 5, 33]] (.reg false [oo 4 (.mv (.c (.bool false)))]))
    .ret)
    .skip)))
   .skip)))
  k_spec_FitsIn_r4)))⟩
def k_impl_in : F := ⟨15, [.tmp 6],
  (.seq (.h [.kill [6]] (.reg false [oo 6 (.mv (.c (.bool false)))]))
  (.seq (.h [.kill [0, 1, 2, 7, 8, 9, 10, 11, 12, 13, 14]] (.reg false [oo 7 (.mv (.s 0)),
   oo 8 (.mv (.s 1)),
   oo 9 (.bin .geq (.s 7) (.s 8)),
   oo 10 (.mv (.s 9)),
   ow 11 10 true (.mv (.s 0)),
   ow 12 10 true (.mv (.s 2)),
   ow 13 10 true (.bin .leq (.s 11) (.s 12)),
   oo 14 (.pick (.s 10) (.s 13) (.c (.bool false))),
   oo 6 (.mv (.s 14))]))
  .ret))⟩
def k_impl_cloneNode : F := ⟨16, [.cell 2 8 true],
  (.seq (.h [.kill [0]] (.reg false [oo 1 (.box (.s 0)),
   oo 2 (.alloc [.v (.int .i64 0), .v (.string ⟨#[]⟩), .v (.string ⟨#[]⟩), .v (.string ⟨#[]⟩), .sl true [], .sl true [], .sl true [], .v (.string ⟨#[]⟩)])]))
  (.seq (.h [.kill [3, 4, 5, 6, 7, 8, 9, 10, 11, 12, 13, 14]] (.reg true [⟨some 3, none, .fa 4 (.s 1), [], []⟩,
   ⟨some 4, none, .ld 1 false (.s 3), [1], []⟩,
   ⟨some 5, none, .call n_slices_Clone_Decl [] [true] [(.s 4)], [1], [5]⟩,
   ⟨some 6, none, .fa 5 (.s 1), [], []⟩,
   ⟨some 7, none, .ld 1 false (.s 6), [1], []⟩,
   ⟨some 8, none, .call n_slices_Clone_Attr [] [true] [(.s 7)], [1], [8]⟩,
   ⟨some 9, none, .fa 6 (.s 1), [], []⟩,
   ⟨some 10, none, .ld 1 false (.s 9), [1], []⟩,
   ⟨some 11, none, .call n_impl_cloneNodes [] [true] [(.s 10)], [1], [11]⟩,
   ⟨some 12, none, .fa 4 (.s 1), [], []⟩,
   ⟨none, none, .st 1 (.s 12) (.s 5), [], [1, 5]⟩,
   ⟨some 13, none, .fa 5 (.s 1), [], []⟩,
   ⟨none, none, .st 1 (.s 13) (.s 8), [], [1, 8]⟩,
   ⟨some 14, none, .fa 6 (.s 1), [], []⟩,
   ⟨none, none, .st 1 (.s 14) (.s 11), [], [1, 11]⟩]))
  (.seq (.h [.kill [1, 15]] (.reg false [oo 15 (.ld 8 true (.s 1)),
   on (.st 8 (.s 2) (.s 15))]))
  .ret)))⟩
def k_impl_NodeOk_r18 : K :=
  (.seq (.h [.kill [1, 3, 42, 43, 44, 45, 46, 47, 48, 49, 50, 51, 52, 53, 54, 55, 56, 57, 58]] (.reg false [oo 42 (.mv (.s 3)),
   oo 43 (.mv (.s 42)),
   ow 44 43 true (.fa 6 (.s 1)),
   ow 45 43 true (.ld 1 false (.s 44)),
   ow 46 43 true (.call n_impl_ofKind [] [] [(.s 45), (.c (.int .i64 1))]),
   ow 47 43 true (.bin .eql (.s 46) (.c (.int .i64 1))),
   oo 48 (.pick (.s 43) (.s 47) (.c (.bool false))),
   oo 49 (.mv (.s 48)),
   ow 50 49 true (.fa 6 (.s 1)),
   ow 51 49 true (.ld 1 false (.s 50)),
   ow 52 49 true (.call n_impl_ofKind [] [] [(.s 51), (.c (.int .i64 2))]),
   ow 53 49 true (.bin .eql (.s 52) (.c (.int .i64 0))),
   oo 54 (.pick (.s 49) (.s 53) (.c (.bool false))),
   oo 55 (.mv (.s 54)),
   ow 56 55 true (.ld 8 true (.s 1)),
   ow 57 55 true (.call n_impl_kidsOk [] [] [(.s 56), (.c (.int .i64 0))]),
   oo 58 (.pick (.s 55) (.s 57) (.c (.bool false))),
   oo 2 (.mv (.s 58))]))
  .ret)
def k_impl_NodeOk : F := ⟨59, [.tmp 2],
  (.seq (.h [.kill [0, 2]] (.reg false [oo 1 (.box (.s 0)),
   oo 2 (.mv (.c (.bool false)))]))
  (.seq (.seq (.h [.kill [4, 5]] (.reg false [oo 4 (.ld 8 true (.s 1)),
   oo 5 (.call n_impl_CountOf [] [] [(.s 4)]),
   oo 6 (.bin .gtr (.s 5) (.c (.int .i64 60)))]))
  (.cond (.s 6)
   (.seq (.h [.kill [1, 6]] (.reg false [oo 2 (.mv (.c (.bool false)))]))
   .ret)
   .skip))
  (.seq (.seq (.h [.kill [6, 7, 8]] (.reg false [oo 7 (.fa 0 (.s 1)),
   oo 8 (.ld 1 false (.s 7)),
   oo 9 (.bin .neq (.s 8) (.c (.int .i64 0)))]))
  (.cond (.s 9)
   (.seq (.h [.kill [1, 9, 10, 11]] (.reg false [oo 10 (.ld 8 true (.s 1)),
    oo 11 (.call n_impl_partOk [] [] [(.s 10), (.c (.int .i64 0))]),
    oo 2 (.mv (.s 11))]))
   .ret)
   .skip))
  (.seq (.h [.clean []] (.h [.kill [9, 12, 13, 14, 15, 16, 17, 18, 19, 20, 21, 22, 23, 24, 25, 26, 27, 28, 29, 30, 31, 32, 33, 34, 35, 36, 37, 38, 39, 40, 41]] (.reg false [oo 12 (.fa 1 (.s 1)),
   oo 13 (.ld 1 false (.s 12)),
   oo 14 (.bin .eql (.s 13) (.c (.string ⟨#[]⟩))),
   oo 15 (.mv (.s 14)),
   ow 16 15 true (.fa 2 (.s 1)),
   ow 17 15 true (.ld 1 false (.s 16)),
   ow 18 15 true (.bin .eql (.s 17) (.c (.string ⟨#[]⟩))),
   oo 19 (.pick (.s 15) (.s 18) (.c (.bool false))),
   oo 20 (.mv (.s 19)),
   ow 21 20 true (.fa 3 (.s 1)),
   ow 22 20 true (.ld 1 false (.s 21)),
   ow 23 20 true (.bin .eql (.s 22) (.c (.string ⟨#[]⟩))),
   oo 24 (.pick (.s 20) (.s 23) (.c (.bool false))),
   oo 25 (.mv (.s 24)),
   ow 26 25 true (.fa 7 (.s 1)),
   ow 27 25 true (.ld 1 false (.s 26)),
   ow 28 25 true (.bin .eql (.s 27) (.c (.string ⟨#[]⟩))),
   oo 29 (.pick (.s 25) (.s 28) (.c (.bool false))),
   oo 30 (.mv (.s 29)),
   ow 31 30 true (.fa 4 (.s 1)),
   ow 32 30 true (.ld 1 false (.s 31)),
   ow 33 30 true (.len false (.s 32)),
   ow 34 30 true (.bin .eql (.s 33) (.c (.int .i64 0))),
   oo 35 (.pick (.s 30) (.s 34) (.c (.bool false))),
   oo 36 (.mv (.s 35)),
   ow 37 36 true (.fa 5 (.s 1)),
   ow 38 36 true (.ld 1 false (.s 37)),
   ow 39 36 true (.len false (.s 38)),
   ow 40 36 true (.bin .eql (.s 39) (.c (.int .i64 0))),
   oo 41 (.pick (.s 36) (.s 40) (.c (.bool false))),
   oo 3 (.mv (.s 41))])))
  k_impl_NodeOk_r18))))⟩
def k_laws_eqDeclS_l14 : K :=
  (.h [.clean []] (.seq (.seq (.h [.kill [11, 12, 13]] (.reg false [oo 11 (.mv (.s 5)),
   oo 12 (.mv (.s 0)),
   oo 13 (.len false (.s 12)),
   oo 14 (.bin .lss (.s 11) (.s 13))]))
  (.cond (.s 14)
   .skip
   (.ex 0)))
  (.seq (.blk 1
   (.seq (.h [.kill [14, 17, 18, 19, 20, 21, 22, 23, 24, 25]] (.reg true [⟨some 17, none, .mv (.s 0), [], []⟩,
    ⟨some 18, none, .mv (.s 5), [], []⟩,
    ⟨some 19, none, .ia 2 (.s 17) (.s 18), [0], []⟩,
    ⟨some 20, none, .ld 2 true (.s 19), [0], []⟩,
    ⟨some 21, none, .mv (.s 1), [], []⟩,
    ⟨some 22, none, .mv (.s 5), [], []⟩,
    ⟨some 23, none, .ia 2 (.s 21) (.s 22), [1], []⟩,
    ⟨some 24, none, .ld 2 true (.s 23), [1], []⟩,
    ⟨some 25, none, .call n_laws_eqDecl [] [] [(.s 20), (.s 24)], [0, 1], []⟩,
    ⟨some 26, none, .un .not (.s 25), [], []⟩]))
   (.cond (.s 26)
    (.seq (.h [.kill [0, 1, 5, 26]] (.reg false [oo 4 (.mv (.c (.bool false)))]))
    .ret)
    .skip)))
  (.h [.kill [15, 16, 26]] (.reg false [oo 15 (.mv (.s 5)),
   oo 16 (.bin .add (.s 15) (.c (.int .i64 1))),
   oo 5 (.mv (.s 16))])))))
def k_laws_eqDeclS_r10 : K :=
  (.seq (.h [.kill [0, 1, 5, 14]] (.reg false [oo 4 (.mv (.c (.bool true)))]))
  .ret)
def k_laws_eqDeclS : F := ⟨27, [.tmp 4],
  (.seq (.h [.kill [4]] (.reg false [oo 4 (.mv (.c (.bool false)))]))
  (.seq (.seq (.h [.kill [6, 7, 8, 9]] (.reg false [oo 6 (.mv (.s 0)),
   oo 7 (.len false (.s 6)),
   oo 8 (.mv (.s 1)),
   oo 9 (.len false (.s 8)),
   oo 10 (.bin .neq (.s 7) (.s 9))]))
  (.cond (.s 10)
   (.seq (.h [.kill [0, 1, 10]] (.reg false [oo 4 (.mv (.c (.bool false)))]))
   .ret)
   .skip))
  (.seq (.seq (.h [.clean []] (.h [.kill [10]] (.reg false [oo 5 (.mv (.c (.int .i64 0)))])))
  (.blk 0
   (.loop k_laws_eqDeclS_l14)))
  k_laws_eqDeclS_r10)))⟩
def k_laws_eqAttrS_l14 : K :=
  (.h [.clean []] (.seq (.seq (.h [.kill [11, 12, 13]] (.reg false [oo 11 (.mv (.s 5)),
   oo 12 (.mv (.s 0)),
   oo 13 (.len false (.s 12)),
   oo 14 (.bin .lss (.s 11) (.s 13))]))
  (.cond (.s 14)
   .skip
   (.ex 0)))
  (.seq (.blk 1
   (.seq (.h [.kill [14, 17, 18, 19, 20, 21, 22, 23, 24, 25]] (.reg true [⟨some 17, none, .mv (.s 0), [], []⟩,
    ⟨some 18, none, .mv (.s 5), [], []⟩,
    ⟨some 19, none, .ia 4 (.s 17) (.s 18), [0], []⟩,
    ⟨some 20, none, .ld 4 true (.s 19), [0], []⟩,
    ⟨some 21, none, .mv (.s 1), [], []⟩,
    ⟨some 22, none, .mv (.s 5), [], []⟩,
    ⟨some 23, none, .ia 4 (.s 21) (.s 22), [1], []⟩,
    ⟨some 24, none, .ld 4 true (.s 23), [1], []⟩,
    ⟨some 25, none, .call n_laws_eqAttr [] [] [(.s 20), (.s 24)], [0, 1], []⟩,
    ⟨some 26, none, .un .not (.s 25), [], []⟩]))
   (.cond (.s 26)
    (.seq (.h [.kill [0, 1, 5, 26]] (.reg false [oo 4 (.mv (.c (.bool false)))]))
    .ret)
    .skip)))
  (.h [.kill [15, 16, 26]] (.reg false [oo 15 (.mv (.s 5)),
   oo 16 (.bin .add (.s 15) (.c (.int .i64 1))),
   oo 5 (.mv (.s 16))])))))
def k_laws_eqAttrS_r10 : K :=
  (.seq (.h [.kill [0, 1, 5, 14]] (.reg false [oo 4 (.mv (.c (.bool true)))]))
  .ret)
def k_laws_eqAttrS : F := ⟨27, [.tmp 4],
  (.seq (.h [.kill [4]] (.reg false [oo 4 (.mv (.c (.bool false)))]))
  (.seq (.seq (.h [.kill [6, 7, 8, 9]] (.reg false [oo 6 (.mv (.s 0)),
   oo 7 (.len false (.s 6)),
   oo 8 (.mv (.s 1)),
   oo 9 (.len false (.s 8)),
   oo 10 (.bin .neq (.s 7) (.s 9))]))
  (.cond (.s 10)
   (.seq (.h [.kill [0, 1, 10]] (.reg false [oo 4 (.mv (.c (.bool false)))]))
   .ret)
   .skip))
  (.seq (.seq (.h [.clean []] (.h [.kill [10]] (.reg false [oo 5 (.mv (.c (.int .i64 0)))])))
  (.blk 0
   (.loop k_laws_eqAttrS_l14)))
  k_laws_eqAttrS_r10)))⟩
def k_laws_eqNodeS_l14 : K :=
  (.h [.clean []] (.seq (.seq (.h [.kill [11, 12, 13]] (.reg false [oo 11 (.mv (.s 5)),
   oo 12 (.mv (.s 0)),
   oo 13 (.len false (.s 12)),
   oo 14 (.bin .lss (.s 11) (.s 13))]))
  (.cond (.s 14)
   .skip
   (.ex 0)))
  (.seq (.blk 1
   (.seq (.h [.kill [14, 17, 18, 19, 20, 21, 22, 23, 24, 25]] (.reg true [⟨some 17, none, .mv (.s 0), [], []⟩,
    ⟨some 18, none, .mv (.s 5), [], []⟩,
    ⟨some 19, none, .ia 8 (.s 17) (.s 18), [0], []⟩,
    ⟨some 20, none, .ld 8 true (.s 19), [0], []⟩,
    ⟨some 21, none, .mv (.s 1), [], []⟩,
    ⟨some 22, none, .mv (.s 5), [], []⟩,
    ⟨some 23, none, .ia 8 (.s 21) (.s 22), [1], []⟩,
    ⟨some 24, none, .ld 8 true (.s 23), [1], []⟩,
    ⟨some 25, none, .call n_laws_eqNode [] [] [(.s 20), (.s 24)], [0, 1], []⟩,
    ⟨some 26, none, .un .not (.s 25), [], []⟩]))
   (.cond (.s 26)
    (.seq (.h [.kill [0, 1, 5, 26]] (.reg false [oo 4 (.mv (.c (.bool false)))]))
    .ret)
    .skip)))
  (.h [.kill [15, 16, 26]] (.reg false [oo 15 (.mv (.s 5)),
   oo 16 (.bin .add (.s 15) (.c (.int .i64 1))),
   oo 5 (.mv (.s 16))])))))
def k_laws_eqNodeS_r10 : K :=
  (.seq (.h [.kill [0, 1, 5, 14]] (.reg false [oo 4 (.mv (.c (.bool true)))]))
  .ret)
def k_laws_eqNodeS : F := ⟨27, [.tmp 4],
  (.seq (.h [.kill [4]] (.reg false [oo 4 (.mv (.c (.bool false)))]))
  (.seq (.seq (.h [.kill [6, 7, 8, 9]] (.reg false [oo 6 (.mv (.s 0)),
   oo 7 (.len false (.s 6)),
   oo 8 (.mv (.s 1)),
   oo 9 (.len false (.s 8)),
   oo 10 (.bin .neq (.s 7) (.s 9))]))
  (.cond (.s 10)
   (.seq (.h [.kill [0, 1, 10]] (.reg false [oo 4 (.mv (.c (.bool false)))]))
   .ret)
   .skip))
  (.seq (.seq (.h [.clean []] (.h [.kill [10]] (.reg false [oo 5 (.mv (.c (.int .i64 0)))])))
  (.blk 0
   (.loop k_laws_eqNodeS_l14)))
  k_laws_eqNodeS_r10)))⟩
def k_laws_szDecl : F := ⟨20, [.tmp 4],
  (.seq (.h [.kill [0, 4]] (.reg false [oo 2 (.box (.s 0)),
   oo 4 (.mv (.c (.int .i64 0)))]))
  (.seq (.h [.kill [5, 6, 7, 8, 9]] (.reg false [oo 5 (.mv (.s 1)),
   oo 6 (.fa 0 (.s 2)),
   oo 7 (.ld 1 false (.s 6)),
   oo 8 (.len true (.s 7)),
   oo 9 (.bin .sub (.s 5) (.s 8)),
   oo 1 (.mv (.s 9))]))
  (.seq (.seq (.h [.kill [10]] (.reg false [oo 10 (.mv (.s 1)),
   oo 11 (.bin .lss (.s 10) (.c (.int .i64 0)))]))
  (.cond (.s 11)
   (.seq (.h [.kill [1, 2, 11]] (.reg false [oo 4 (.mv (.c (.int .i64 (-1))))]))
   .ret)
   .skip))
  (.seq (.h [.kill [2, 11, 12, 13, 14, 15, 16]] (.reg false [oo 12 (.mv (.s 1)),
   oo 13 (.fa 1 (.s 2)),
   oo 14 (.ld 1 false (.s 13)),
   oo 15 (.len true (.s 14)),
   oo 16 (.bin .sub (.s 12) (.s 15)),
   oo 1 (.mv (.s 16))]))
  (.seq (.seq (.h [.kill [17]] (.reg false [oo 17 (.mv (.s 1)),
   oo 18 (.bin .lss (.s 17) (.c (.int .i64 0)))]))
  (.cond (.s 18)
   (.seq (.h [.kill [1, 18]] (.reg false [oo 4 (.mv (.c (.int .i64 (-1))))]))
   .ret)
   .skip))
  (.seq (.h [.kill [1, 18, 19]] (.reg false [oo 19 (.mv (.s 1)),
   oo 4 (.mv (.s 19))]))
  .ret))))))⟩
def k_laws_szAttr : F := ⟨34, [.tmp 4],
  (.seq (.h [.kill [0, 4]] (.reg false [oo 2 (.box (.s 0)),
   oo 4 (.mv (.c (.int .i64 0)))]))
  (.seq (.h [.kill [5, 6, 7, 8, 9]] (.reg false [oo 5 (.mv (.s 1)),
   oo 6 (.fa 0 (.s 2)),
   oo 7 (.ld 1 false (.s 6)),
   oo 8 (.len true (.s 7)),
   oo 9 (.bin .sub (.s 5) (.s 8)),
   oo 1 (.mv (.s 9))]))
  (.seq (.seq (.h [.kill [10]] (.reg false [oo 10 (.mv (.s 1)),
   oo 11 (.bin .lss (.s 10) (.c (.int .i64 0)))]))
  (.cond (.s 11)
   (.seq (.h [.kill [1, 2, 11]] (.reg false [oo 4 (.mv (.c (.int .i64 (-1))))]))
   .ret)
   .skip))
  (.seq (.h [.kill [11, 12, 13, 14, 15, 16]] (.reg false [oo 12 (.mv (.s 1)),
   oo 13 (.fa 1 (.s 2)),
   oo 14 (.ld 1 false (.s 13)),
   oo 15 (.len true (.s 14)),
   oo 16 (.bin .sub (.s 12) (.s 15)),
   oo 1 (.mv (.s 16))]))
  (.seq (.seq (.h [.kill [17]] (.reg false [oo 17 (.mv (.s 1)),
   oo 18 (.bin .lss (.s 17) (.c (.int .i64 0)))]))
  (.cond (.s 18)
   (.seq (.h [.kill [1, 2, 18]] (.reg false [oo 4 (.mv (.c (.int .i64 (-1))))]))
   .ret)
   .skip))
  (.seq (.h [.kill [18, 19, 20, 21, 22, 23]] (.reg false [oo 19 (.mv (.s 1)),
   oo 20 (.fa 2 (.s 2)),
   oo 21 (.ld 1 false (.s 20)),
   oo 22 (.len true (.s 21)),
   oo 23 (.bin .sub (.s 19) (.s 22)),
   oo 1 (.mv (.s 23))]))
  (.seq (.seq (.h [.kill [24]] (.reg false [oo 24 (.mv (.s 1)),
   oo 25 (.bin .lss (.s 24) (.c (.int .i64 0)))]))
  (.cond (.s 25)
   (.seq (.h [.kill [1, 2, 25]] (.reg false [oo 4 (.mv (.c (.int .i64 (-1))))]))
   .ret)
   .skip))
  (.seq (.h [.kill [2, 25, 26, 27, 28, 29, 30]] (.reg false [oo 26 (.mv (.s 1)),
   oo 27 (.fa 3 (.s 2)),
   oo 28 (.ld 1 false (.s 27)),
   oo 29 (.len true (.s 28)),
   oo 30 (.bin .sub (.s 26) (.s 29)),
   oo 1 (.mv (.s 30))]))
  (.seq (.seq (.h [.kill [31]] (.reg false [oo 31 (.mv (.s 1)),
   oo 32 (.bin .lss (.s 31) (.c (.int .i64 0)))]))
  (.cond (.s 32)
   (.seq (.h [.kill [1, 32]] (.reg false [oo 4 (.mv (.c (.int .i64 (-1))))]))
   .ret)
   .skip))
  (.seq (.h [.kill [1, 32, 33]] (.reg false [oo 33 (.mv (.s 1)),
   oo 4 (.mv (.s 33))]))
  .ret))))))))))⟩
def k_laws_toDecl : F := ⟨11, [.cell 2 2 true],
  (.seq (.h [.kill [0]] (.reg false [oo 1 (.box (.s 0)),
   oo 2 (.alloc [.v (.string ⟨#[]⟩), .v (.string ⟨#[]⟩)])]))
  (.seq (.reg false [oo 3 (.alloc [.v (.string ⟨#[]⟩), .v (.string ⟨#[]⟩)])])
  (.seq (.h [.kill [4, 5, 6]] (.reg false [oo 4 (.fa 0 (.s 1)),
   oo 5 (.ld 1 false (.s 4)),
   oo 6 (.fa 0 (.s 3)),
   on (.st 1 (.s 6) (.s 5))]))
  (.seq (.h [.kill [1, 7, 8, 9]] (.reg false [oo 7 (.fa 1 (.s 1)),
   oo 8 (.ld 1 false (.s 7)),
   oo 9 (.fa 1 (.s 3)),
   on (.st 1 (.s 9) (.s 8))]))
  (.seq (.h [.kill [3, 10]] (.reg false [oo 10 (.ld 2 true (.s 3)),
   on (.st 2 (.s 2) (.s 10))]))
  .ret)))))⟩
def k_laws_toAttr : F := ⟨17, [.cell 2 4 true],
  (.seq (.h [.kill [0]] (.reg false [oo 1 (.box (.s 0)),
   oo 2 (.alloc [.v (.string ⟨#[]⟩), .v (.string ⟨#[]⟩), .v (.string ⟨#[]⟩), .v (.string ⟨#[]⟩)])]))
  (.seq (.reg false [oo 3 (.alloc [.v (.string ⟨#[]⟩), .v (.string ⟨#[]⟩), .v (.string ⟨#[]⟩), .v (.string ⟨#[]⟩)])])
  (.seq (.h [.kill [4, 5, 6]] (.reg false [oo 4 (.fa 0 (.s 1)),
   oo 5 (.ld 1 false (.s 4)),
   oo 6 (.fa 0 (.s 3)),
   on (.st 1 (.s 6) (.s 5))]))
  (.seq (.h [.kill [7, 8, 9]] (.reg false [oo 7 (.fa 1 (.s 1)),
   oo 8 (.ld 1 false (.s 7)),
   oo 9 (.fa 1 (.s 3)),
   on (.st 1 (.s 9) (.s 8))]))
  (.seq (.h [.kill [10, 11, 12]] (.reg false [oo 10 (.fa 2 (.s 1)),
   oo 11 (.ld 1 false (.s 10)),
   oo 12 (.fa 2 (.s 3)),
   on (.st 1 (.s 12) (.s 11))]))
  (.seq (.h [.kill [1, 13, 14, 15]] (.reg false [oo 13 (.fa 3 (.s 1)),
   oo 14 (.ld 1 false (.s 13)),
   oo 15 (.fa 3 (.s 3)),
   on (.st 1 (.s 15) (.s 14))]))
  (.seq (.h [.kill [3, 16]] (.reg false [oo 16 (.ld 4 true (.s 3)),
   on (.st 4 (.s 2) (.s 16))]))
  .ret)))))))⟩
def k_spec_l5All_l8 : K :=
  (.h [.clean [5, 17, 20]] (.seq (.seq (.h [.kill [7, 8, 9]] (.reg false [oo 7 (.mv (.s 4)),
   oo 8 (.mv (.s 0)),
   oo 9 (.len false (.s 8)),
   oo 10 (.bin .lss (.s 7) (.s 9))]))
  (.cond (.s 10)
   .skip
   (.ex 0)))
  (.seq (.blk 1
   (.seq (.h [.kill [10, 13, 14, 15, 16, 17]] (.reg false [oo 13 (.mv (.s 0)),
    oo 14 (.mv (.s 4)),
    oo 15 (.ia 8 (.s 13) (.s 14)),
    oo 16 (.ld 8 true (.s 15)),
    oo 17 (.call n_spec_l5Copy [] [true] [(.s 16)]),
    oo 5 (.alloc [.v (.int .i64 0), .v (.string ⟨#[]⟩), .v (.string ⟨#[]⟩), .v (.string ⟨#[]⟩), .sl true [], .sl true [], .sl true [], .v (.string ⟨#[]⟩)]),
    on (.st 8 (.s 5) (.s 17))]))
   (.h [.kill [5, 18, 19, 20, 21]] (.reg false [oo 18 (.mv (.s 3)),
    oo 19 (.ld 8 true (.s 5)),
    oo 20 (.bsl 8 [(.s 19)]),
    oo 21 (.app 8 144 (.s 18) (.s 20)),
    oo 3 (.mv (.s 21))]))))
  (.h [.kill [11, 12]] (.reg false [oo 11 (.mv (.s 4)),
   oo 12 (.bin .add (.s 11) (.c (.int .i64 1))),
   oo 4 (.mv (.s 12))])))))
def k_spec_l5All_r4 : K :=
  (.seq (.h [.kill [0, 3, 4, 10, 22]] (.reg false [oo 22 (.mv (.s 3)),
   oo 2 (.mv (.s 22))]))
  .ret)
def k_spec_l5All : F := ⟨23, [.tmp 2],
  (.seq (.h [.kill [2]] (.reg false [oo 2 (.mv (.c (.slice none 0 0)))]))
  (.seq (.h [.kill [6]] (.reg false [oo 6 (.bsl 8 []),
   oo 3 (.mv (.s 6))]))
  (.seq (.seq (.h [.clean []] (.reg false [oo 4 (.mv (.c (.int .i64 0)))]))
  (.blk 0
   (.loop k_spec_l5All_l8)))
  k_spec_l5All_r4)))⟩
def k_spec_CountOf_l8 : K :=
  (.h [.clean []] (.seq (.seq (.h [.kill [9, 10, 11, 12]] (.reg false [oo 9 (.mv (.s 4)),
   oo 10 (.fa 6 (.s 1)),
   oo 11 (.ld 1 false (.s 10)),
   oo 12 (.len false (.s 11)),
   oo 13 (.bin .lss (.s 9) (.s 12))]))
  (.cond (.s 13)
   .skip
   (.ex 0)))
  (.seq (.blk 1
   (.h [.kill [13, 16, 17, 18, 19, 20, 21, 22, 23]] (.reg false [oo 16 (.mv (.s 3)),
    oo 17 (.fa 6 (.s 1)),
    oo 18 (.ld 1 false (.s 17)),
    oo 19 (.mv (.s 4)),
    oo 20 (.ia 8 (.s 18) (.s 19)),
    oo 21 (.ld 8 true (.s 20)),
    oo 22 (.call n_spec_CountOf [] [] [(.s 21)]),
    oo 23 (.bin .add (.s 16) (.s 22)),
    oo 3 (.mv (.s 23))])))
  (.h [.kill [14, 15]] (.reg false [oo 14 (.mv (.s 4)),
   oo 15 (.bin .add (.s 14) (.c (.int .i64 1))),
   oo 4 (.mv (.s 15))])))))
def k_spec_CountOf_r4 : K :=
  (.seq (.h [.kill [1, 3, 4, 13, 24]] (.reg false [oo 24 (.mv (.s 3)),
   oo 2 (.mv (.s 24))]))
  .ret)
def k_spec_CountOf : F := ⟨25, [.tmp 2],
  (.seq (.h [.kill [0, 2]] (.reg false [oo 1 (.box (.s 0)),
   oo 2 (.mv (.c (.int .i64 0)))]))
  (.seq (.h [.kill [5, 6, 7, 8]] (.reg false [oo 5 (.fa 5 (.s 1)),
   oo 6 (.ld 1 false (.s 5)),
   oo 7 (.len false (.s 6)),
   oo 8 (.bin .add (.c (.int .i64 1)) (.s 7)),
   oo 3 (.mv (.s 8))]))
  (.seq (.seq (.h [.clean []] (.reg false [oo 4 (.mv (.c (.int .i64 0)))]))
  (.blk 0
   (.loop k_spec_CountOf_l8)))
  k_spec_CountOf_r4)))⟩
def k_spec_l5Kids_r17 : K :=
  (.seq (.h [.kill [6, 37, 38, 39, 40, 41, 42, 43, 44, 45, 46, 47, 48, 49, 50, 51]] (.reg false [oo 38 (.fa 0 (.s 6)),
   oo 39 (.ld 1 false (.s 38)),
   oo 40 (.bin .eql (.s 39) (.c (.int .i64 1))),
   oo 41 (.mv (.s 40)),
   ow 42 41 true (.mv (.s 1)),
   ow 43 41 true (.bin .eql (.s 42) (.c (.int .i64 7))),
   ow 44 41 true (.mv (.s 43)),
   ow 45 44 false (.fa 6 (.s 6)),
   ow 46 44 false (.ld 1 false (.s 45)),
   ow 47 44 false (.mv (.s 1)),
   ow 48 44 false (.bin .add (.s 47) (.c (.int .i64 1))),
   ow 49 44 false (.call n_spec_l5Kids [] [] [(.s 46), (.s 48)]),
   ow 50 44 false (.un .not (.s 49)),
   ow 51 41 true (.pick (.s 44) (.c (.bool true)) (.s 50)),
   oo 52 (.pick (.s 41) (.s 51) (.c (.bool false)))]))
  (.cond (.s 52)
   (.seq (.h [.kill [0, 1, 5, 52]] (.reg false [oo 4 (.mv (.c (.bool false)))]))
   .ret)
   .skip))
def k_spec_l5Kids_r13 : K :=
  (.h [.kill [11, 12, 52]] (.reg false [oo 11 (.mv (.s 5)),
   oo 12 (.bin .add (.s 11) (.c (.int .i64 1))),
   oo 5 (.mv (.s 12))]))
def k_spec_l5Kids_l6 : K :=
  (.h [.clean [6]] (.seq (.seq (.h [.kill [7, 8, 9]] (.reg false [oo 7 (.mv (.s 5)),
   oo 8 (.mv (.s 0)),
   oo 9 (.len false (.s 8)),
   oo 10 (.bin .lss (.s 7) (.s 9))]))
  (.cond (.s 10)
   .skip
   (.ex 0)))
  (.seq (.blk 1
   (.seq (.h [.kill [10, 13, 14, 15, 16]] (.reg false [oo 13 (.mv (.s 0)),
    oo 14 (.mv (.s 5)),
    oo 15 (.ia 8 (.s 13) (.s 14)),
    oo 16 (.ld 8 true (.s 15)),
    oo 6 (.alloc [.v (.int .i64 0), .v (.string ⟨#[]⟩), .v (.string ⟨#[]⟩), .v (.string ⟨#[]⟩), .sl true [], .sl true [], .sl true [], .v (.string ⟨#[]⟩)]),
    on (.st 8 (.s 6) (.s 16))]))
   (.seq (.h [.kill [37], .clean []] (.seq (.h [.kill [17, 18, 19, 20, 21, 22, 23, 24, 25, 26, 27, 28, 29, 30, 31, 32, 33, 34, 35, 36]] (.reg false [oo 17 (.ld 8 true (.s 6)),
    oo 18 (.call n_spec_l5One [] [] [(.s 17)]),
    oo 19 (.un .not (.s 18)),
    oo 20 (.mv (.s 19)),
    ow 21 20 false (.fa 0 (.s 6)),
    ow 22 20 false (.ld 1 false (.s 21)),
    ow 23 20 false (.bin .eql (.s 22) (.c (.int .i64 2))),
    ow 24 20 false (.mv (.s 23)),
    ow 25 24 true (.mv (.s 5)),
    ow 26 24 true (.bin .gtr (.s 25) (.c (.int .i64 0))),
    ow 27 20 false (.pick (.s 24) (.s 26) (.c (.bool false))),
    ow 28 20 false (.mv (.s 27)),
    ow 29 28 true (.mv (.s 0)),
    ow 30 28 true (.mv (.s 5)),
    ow 31 28 true (.bin .sub (.s 30) (.c (.int .i64 1))),
    ow 32 28 true (.ia 8 (.s 29) (.s 31)),
    ow 33 28 true (.fa 0 (.s 32)),
    ow 34 28 true (.ld 1 false (.s 33)),
    ow 35 28 true (.bin .eql (.s 34) (.c (.int .i64 2))),
    ow 36 20 false (.pick (.s 28) (.s 35) (.c (.bool false))),
    oo 37 (.pick (.s 20) (.c (.bool true)) (.s 36))]))
   (.cond (.s 37)
    (.seq (.h [.kill [0, 1, 5, 6, 37]] (.reg false [oo 4 (.mv (.c (.bool false)))]))
    .ret)
    .skip)))
   k_spec_l5Kids_r17)))
  k_spec_l5Kids_r13)))
def k_spec_l5Kids_r2 : K :=
  (.seq (.h [.kill [0, 1, 5, 10]] (.reg false [oo 4 (.mv (.c (.bool true)))]))
  .ret)
def k_spec_l5Kids : F := ⟨53, [.tmp 4],
  (.seq (.h [.kill [4]] (.reg false [oo 4 (.mv (.c (.bool false)))]))
  (.seq (.seq (.h [.clean []] (.reg false [oo 5 (.mv (.c (.int .i64 0)))]))
  (.blk 0
   (.loop k_spec_l5Kids_l6)))
  k_spec_l5Kids_r2))⟩
def k_spec_Inner : F := ⟨10, [.tmp 4],
  (.seq (.h [.kill [4]] (.reg false [oo 4 (.mv (.c (.slice none 0 0)))]))
  (.seq (.h [.kill [0, 1, 5, 6, 7, 8, 9]] (.reg false [oo 5 (.bsl 2 []),
   oo 6 (.mv (.s 0)),
   oo 7 (.app 2 32 (.s 5) (.s 6)),
   oo 8 (.mv (.s 1)),
   oo 9 (.app 2 32 (.s 7) (.s 8)),
   oo 4 (.mv (.s 9))]))
  .ret))⟩
def k_spec_SpaceOf_l6 : K :=
  (.h [.clean []] (.seq (.seq (.h [.kill [10]] (.reg false [oo 10 (.mv (.s 6)),
   oo 11 (.bin .geq (.s 10) (.c (.int .i64 0)))]))
  (.cond (.s 11)
   .skip
   (.ex 0)))
  (.seq (.blk 1
   (.seq (.h [.kill [11, 14, 15, 16, 17, 18, 19]] (.reg false [oo 14 (.mv (.s 0)),
    oo 15 (.mv (.s 6)),
    oo 16 (.ia 2 (.s 14) (.s 15)),
    oo 17 (.fa 0 (.s 16)),
    oo 18 (.ld 1 false (.s 17)),
    oo 19 (.mv (.s 1)),
    oo 20 (.bin .eql (.s 18) (.s 19))]))
   (.cond (.s 20)
    (.seq (.h [.kill [0, 1, 6, 20, 21, 22, 23, 24, 25]] (.reg false [oo 21 (.mv (.s 0)),
     oo 22 (.mv (.s 6)),
     oo 23 (.ia 2 (.s 21) (.s 22)),
     oo 24 (.fa 1 (.s 23)),
     oo 25 (.ld 1 false (.s 24)),
     oo 4 (.mv (.s 25)),
     oo 5 (.mv (.c (.bool true)))]))
    .ret)
    .skip)))
  (.h [.kill [12, 13, 20]] (.reg false [oo 12 (.mv (.s 6)),
   oo 13 (.bin .sub (.s 12) (.c (.int .i64 1))),
   oo 6 (.mv (.s 13))])))))
def k_spec_SpaceOf_r2 : K :=
  (.seq (.h [.kill [0, 1, 6, 11, 26, 27]] (.reg false [oo 26 (.mv (.s 1)),
   oo 27 (.bin .eql (.s 26) (.c (.string ⟨#[]⟩))),
   oo 4 (.mv (.c (.string ⟨#[]⟩))),
   oo 5 (.mv (.s 27))]))
  .ret)
def k_spec_SpaceOf : F := ⟨28, [.tmp 4, .tmp 5],
  (.seq (.h [.kill [4, 5]] (.reg false [oo 4 (.mv (.c (.string ⟨#[]⟩))),
   oo 5 (.mv (.c (.bool false)))]))
  (.seq (.seq (.h [.clean []] (.h [.kill [7, 8, 9]] (.reg false [oo 7 (.mv (.s 0)),
   oo 8 (.len false (.s 7)),
   oo 9 (.bin .sub (.s 8) (.c (.int .i64 1))),
   oo 6 (.mv (.s 9))])))
  (.blk 0
   (.loop k_spec_SpaceOf_l6)))
  k_spec_SpaceOf_r2))⟩
def k_slices_Clone_Decl : F := ⟨8, [.tmp 2],
  (.seq (.reg false [oo 2 (.mv (.c (.slice none 0 0)))])
  (.seq (.seq (.reg false [oo 3 (.mv (.s 0)),
   oo 4 (.eqn false (.s 3))])
  (.cond (.s 4)
   (.seq (.reg false [oo 2 (.mv (.c (.slice none 0 0)))])
   .ret)
   .skip))
  (.seq (.reg false [oo 5 (.bsl 2 []),
   oo 6 (.mv (.s 0)),
   oo 7 (.app 2 32 (.s 5) (.s 6)),
   oo 2 (.mv (.s 7))])
  .ret)))⟩
def k_slices_Clone_Attr : F := ⟨8, [.tmp 2],
  (.seq (.reg false [oo 2 (.mv (.c (.slice none 0 0)))])
  (.seq (.seq (.reg false [oo 3 (.mv (.s 0)),
   oo 4 (.eqn false (.s 3))])
  (.cond (.s 4)
   (.seq (.reg false [oo 2 (.mv (.c (.slice none 0 0)))])
   .ret)
   .skip))
  (.seq (.reg false [oo 5 (.bsl 4 []),
   oo 6 (.mv (.s 0)),
   oo 7 (.app 4 64 (.s 5) (.s 6)),
   oo 2 (.mv (.s 7))])
  .ret)))⟩
def k_impl_cloneNodes_l8 : K :=
  (.h [.clean [5, 14, 15]] (.seq (.reg false [oo 9 (.bin .lss (.s 8) (.s 7))])
  (.seq (.cond (.s 9)
   .skip
   (.ex 0))
  (.seq (.blk 1
   (.seq (.h [.kill [9, 10, 11]] (.reg false [oo 10 (.ia 8 (.s 6) (.s 8)),
    oo 11 (.ld 8 true (.s 10)),
    oo 5 (.alloc [.v (.int .i64 0), .v (.string ⟨#[]⟩), .v (.string ⟨#[]⟩), .v (.string ⟨#[]⟩), .sl true [], .sl true [], .sl true [], .v (.string ⟨#[]⟩)]),
    on (.st 8 (.s 5) (.s 11))]))
   (.h [.kill [5, 12, 13, 14, 15, 16]] (.reg false [oo 12 (.mv (.s 3)),
    oo 13 (.ld 8 true (.s 5)),
    oo 14 (.call n_impl_cloneNode [] [true] [(.s 13)]),
    oo 15 (.bsl 8 [(.s 14)]),
    oo 16 (.app 8 144 (.s 12) (.s 15)),
    oo 3 (.mv (.s 16))]))))
  (.h [.kill [17]] (.reg false [oo 17 (.bin .add (.s 8) (.c (.int .i64 1))),
   oo 8 (.mv (.s 17))]))))))
def k_impl_cloneNodes_r4 : K :=
  (.seq (.h [.kill [3, 6, 7, 8, 9, 18]] (.reg false [oo 18 (.mv (.s 3)),
   oo 2 (.mv (.s 18))]))
  .ret)
def k_impl_cloneNodes : F := ⟨19, [.tmp 2],
  (.seq (.h [.kill [2]] (.reg false [oo 2 (.mv (.c (.slice none 0 0)))]))
  (.seq (.reg false [oo 3 (.mv (.c (.slice none 0 0)))])
  (.seq (.seq (.h [.own 3 16, .clean []] (.h [.kill [0]] (.reg false [oo 6 (.mv (.s 0)),
   oo 7 (.len false (.s 6)),
   oo 8 (.mv (.c (.int .i64 0)))])))
  (.blk 0
   (.loop k_impl_cloneNodes_l8)))
  k_impl_cloneNodes_r4)))⟩
def k_impl_CountOf_l8 : K :=
  (.h [.clean [5]] (.seq (.reg false [oo 14 (.bin .lss (.s 13) (.s 12))])
  (.seq (.cond (.s 14)
   .skip
   (.ex 0))
  (.seq (.blk 1
   (.seq (.h [.kill [14, 15, 16]] (.reg false [oo 15 (.ia 8 (.s 11) (.s 13)),
    oo 16 (.ld 8 true (.s 15)),
    oo 5 (.alloc [.v (.int .i64 0), .v (.string ⟨#[]⟩), .v (.string ⟨#[]⟩), .v (.string ⟨#[]⟩), .sl true [], .sl true [], .sl true [], .v (.string ⟨#[]⟩)]),
    on (.st 8 (.s 5) (.s 16))]))
   (.h [.kill [5, 17, 18, 19, 20]] (.reg false [oo 17 (.mv (.s 3)),
    oo 18 (.ld 8 true (.s 5)),
    oo 19 (.call n_impl_CountOf [] [] [(.s 18)]),
    oo 20 (.bin .add (.s 17) (.s 19)),
    oo 3 (.mv (.s 20))]))))
  (.h [.kill [21]] (.reg false [oo 21 (.bin .add (.s 13) (.c (.int .i64 1))),
   oo 13 (.mv (.s 21))]))))))
def k_impl_CountOf_r4 : K :=
  (.seq (.h [.kill [3, 11, 12, 13, 14, 22]] (.reg false [oo 22 (.mv (.s 3)),
   oo 2 (.mv (.s 22))]))
  .ret)
def k_impl_CountOf : F := ⟨23, [.tmp 2],
  (.seq (.h [.kill [0, 2]] (.reg false [oo 1 (.box (.s 0)),
   oo 2 (.mv (.c (.int .i64 0)))]))
  (.seq (.h [.kill [6, 7, 8, 9]] (.reg false [oo 6 (.fa 5 (.s 1)),
   oo 7 (.ld 1 false (.s 6)),
   oo 8 (.len false (.s 7)),
   oo 9 (.bin .add (.c (.int .i64 1)) (.s 8)),
   oo 3 (.mv (.s 9))]))
  (.seq (.seq (.h [.clean [1]] (.h [.kill [1, 10]] (.reg false [oo 10 (.fa 6 (.s 1)),
   oo 11 (.ld 1 false (.s 10)),
   oo 12 (.len false (.s 11)),
   oo 13 (.mv (.c (.int .i64 0)))])))
  (.blk 0
   (.loop k_impl_CountOf_l8)))
  k_impl_CountOf_r4)))⟩
def k_impl_partOk : F := ⟨51, [.tmp 4],
  (.seq (.h [.kill [0, 4]] (.reg false [oo 2 (.box (.s 0)),
   oo 4 (.mv (.c (.bool false)))]))
  (.seq (.seq (.h [.kill [5, 6]] (.reg false [oo 5 (.fa 0 (.s 2)),
   oo 6 (.ld 1 false (.s 5)),
   oo 7 (.bin .neq (.s 6) (.c (.int .i64 1)))]))
  (.cond (.s 7)
   (.seq (.h [.kill [1, 2, 7, 8, 9]] (.reg false [oo 8 (.ld 8 true (.s 2)),
    oo 9 (.call n_impl_leafOk [] [] [(.s 8)]),
    oo 4 (.mv (.s 9))]))
   .ret)
   .skip))
  (.seq (.seq (.h [.kill [7, 10, 11, 12, 13, 14, 15, 16, 17, 18, 19, 20, 21, 22, 23, 24, 25, 26, 27, 28, 29, 30, 31, 32, 33, 34, 35]] (.reg false [oo 10 (.mv (.s 1)),
   oo 11 (.bin .geq (.s 10) (.c (.int .i64 7))),
   oo 12 (.mv (.s 11)),
   ow 13 12 false (.fa 7 (.s 2)),
   ow 14 12 false (.ld 1 false (.s 13)),
   ow 15 12 false (.bin .neq (.s 14) (.c (.string ⟨#[]⟩))),
   oo 16 (.pick (.s 12) (.c (.bool true)) (.s 15)),
   oo 17 (.mv (.s 16)),
   ow 18 17 false (.fa 1 (.s 2)),
   ow 19 17 false (.ld 1 false (.s 18)),
   ow 20 17 false (.call n_impl_preOk [] [] [(.s 19)]),
   ow 21 17 false (.un .not (.s 20)),
   oo 22 (.pick (.s 17) (.c (.bool true)) (.s 21)),
   oo 23 (.mv (.s 22)),
   ow 24 23 false (.fa 3 (.s 2)),
   ow 25 23 false (.ld 1 false (.s 24)),
   ow 26 23 false (.fa 1 (.s 2)),
   ow 27 23 false (.ld 1 false (.s 26)),
   ow 28 23 false (.call n_impl_uriOk [] [] [(.s 25), (.s 27)]),
   ow 29 23 false (.un .not (.s 28)),
   oo 30 (.pick (.s 23) (.c (.bool true)) (.s 29)),
   oo 31 (.mv (.s 30)),
   ow 32 31 false (.fa 2 (.s 2)),
   ow 33 31 false (.ld 1 false (.s 32)),
   ow 34 31 false (.call n_impl_PlainOk [] [] [(.s 33)]),
   ow 35 31 false (.un .not (.s 34)),
   oo 36 (.pick (.s 31) (.c (.bool true)) (.s 35))]))
  (.cond (.s 36)
   (.seq (.h [.kill [1, 2, 36]] (.reg false [oo 4 (.mv (.c (.bool false)))]))
   .ret)
   .skip))
  (.seq (.h [.kill [1, 2, 36, 37, 38, 39, 40, 41, 42, 43, 44, 45, 46, 47, 48, 49, 50]] (.reg false [oo 37 (.fa 4 (.s 2)),
   oo 38 (.ld 1 false (.s 37)),
   oo 39 (.call n_impl_DeclsOk [] [] [(.s 38)]),
   oo 40 (.mv (.s 39)),
   ow 41 40 true (.fa 5 (.s 2)),
   ow 42 40 true (.ld 1 false (.s 41)),
   ow 43 40 true (.call n_impl_attrsOk [] [] [(.s 42)]),
   oo 44 (.pick (.s 40) (.s 43) (.c (.bool false))),
   oo 45 (.mv (.s 44)),
   ow 46 45 true (.ld 8 true (.s 2)),
   ow 47 45 true (.mv (.s 1)),
   ow 48 45 true (.bin .add (.s 47) (.c (.int .i64 1))),
   ow 49 45 true (.call n_impl_kidsOk [] [] [(.s 46), (.s 48)]),
   oo 50 (.pick (.s 45) (.s 49) (.c (.bool false))),
   oo 4 (.mv (.s 50))]))
  .ret))))⟩
def k_impl_ofKind_l8 : K :=
  (.h [.clean [7]] (.seq (.reg false [oo 11 (.bin .lss (.s 10) (.s 9))])
  (.seq (.cond (.s 11)
   .skip
   (.ex 0))
  (.seq (.blk 1
   (.seq (.h [.kill [11, 12, 13]] (.reg false [oo 12 (.ia 8 (.s 8) (.s 10)),
    oo 13 (.ld 8 true (.s 12)),
    oo 7 (.alloc [.v (.int .i64 0), .v (.string ⟨#[]⟩), .v (.string ⟨#[]⟩), .v (.string ⟨#[]⟩), .sl true [], .sl true [], .sl true [], .v (.string ⟨#[]⟩)]),
    on (.st 8 (.s 7) (.s 13))]))
   (.seq (.h [.kill [7, 14, 15, 16]] (.reg false [oo 14 (.fa 0 (.s 7)),
    oo 15 (.ld 1 false (.s 14)),
    oo 16 (.mv (.s 1)),
    oo 17 (.bin .eql (.s 15) (.s 16))]))
   (.cond (.s 17)
    (.h [.kill [17, 18, 19]] (.reg false [oo 18 (.mv (.s 5)),
     oo 19 (.bin .add (.s 18) (.c (.int .i64 1))),
     oo 5 (.mv (.s 19))]))
    .skip))))
  (.h [.kill [17, 20]] (.reg false [oo 20 (.bin .add (.s 10) (.c (.int .i64 1))),
   oo 10 (.mv (.s 20))]))))))
def k_impl_ofKind_r4 : K :=
  (.seq (.h [.kill [1, 5, 8, 9, 10, 11, 21]] (.reg false [oo 21 (.mv (.s 5)),
   oo 4 (.mv (.s 21))]))
  .ret)
def k_impl_ofKind : F := ⟨22, [.tmp 4],
  (.seq (.h [.kill [4]] (.reg false [oo 4 (.mv (.c (.int .i64 0)))]))
  (.seq (.reg false [oo 5 (.mv (.c (.int .i64 0)))])
  (.seq (.seq (.h [.clean []] (.h [.kill [0]] (.reg false [oo 8 (.mv (.s 0)),
   oo 9 (.len false (.s 8)),
   oo 10 (.mv (.c (.int .i64 0)))])))
  (.blk 0
   (.loop k_impl_ofKind_l8)))
  k_impl_ofKind_r4)))⟩
def k_impl_kidsOk : F := ⟨15, [.tmp 4],
  (.seq (.h [.kill [0, 1, 4]] (.reg false [oo 2 (.box (.s 0)),
   oo 3 (.box (.s 1)),
   oo 4 (.mv (.c (.bool false)))]))
  (.seq (.h [.kill [2, 3, 5, 6, 7, 8, 9, 10, 11, 12, 13, 14]] (.reg false [oo 5 (.fa 6 (.s 2)),
   oo 6 (.ld 1 false (.s 5)),
   oo 7 (.call n_impl_noTwoTexts [] [] [(.s 6)]),
   oo 8 (.mv (.s 7)),
   ow 9 8 true (.fa 6 (.s 2)),
   ow 10 8 true (.ld 1 false (.s 9)),
   ow 11 8 true (.mkf n_impl_kidsOk_1 [(.s 3)]),
   ow 12 8 true (.call n_slices_ContainsFunc_Node [] [] [(.s 10), (.s 11)]),
   ow 13 8 true (.un .not (.s 12)),
   oo 14 (.pick (.s 8) (.s 13) (.c (.bool false))),
   oo 4 (.mv (.s 14))]))
  .ret))⟩
def k_laws_eqDecl : F := ⟨15, [.tmp 4],
  (.seq (.h [.kill [0, 1, 4]] (.reg false [oo 2 (.box (.s 0)),
   oo 3 (.box (.s 1)),
   oo 4 (.mv (.c (.bool false)))]))
  (.seq (.seq (.h [.kill [5, 6, 7, 8]] (.reg false [oo 5 (.fa 0 (.s 2)),
   oo 6 (.ld 1 false (.s 5)),
   oo 7 (.fa 0 (.s 3)),
   oo 8 (.ld 1 false (.s 7)),
   oo 9 (.bin .neq (.s 6) (.s 8))]))
  (.cond (.s 9)
   (.seq (.h [.kill [2, 3, 9]] (.reg false [oo 4 (.mv (.c (.bool false)))]))
   .ret)
   .skip))
  (.seq (.seq (.h [.kill [2, 3, 9, 10, 11, 12, 13]] (.reg false [oo 10 (.fa 1 (.s 2)),
   oo 11 (.ld 1 false (.s 10)),
   oo 12 (.fa 1 (.s 3)),
   oo 13 (.ld 1 false (.s 12)),
   oo 14 (.bin .neq (.s 11) (.s 13))]))
  (.cond (.s 14)
   (.seq (.h [.kill [14]] (.reg false [oo 4 (.mv (.c (.bool false)))]))
   .ret)
   .skip))
  (.seq (.h [.kill [14]] (.reg false [oo 4 (.mv (.c (.bool true)))]))
  .ret))))⟩
def k_laws_eqAttr : F := ⟨25, [.tmp 4],
  (.seq (.h [.kill [0, 1, 4]] (.reg false [oo 2 (.box (.s 0)),
   oo 3 (.box (.s 1)),
   oo 4 (.mv (.c (.bool false)))]))
  (.seq (.seq (.h [.kill [5, 6, 7, 8]] (.reg false [oo 5 (.fa 0 (.s 2)),
   oo 6 (.ld 1 false (.s 5)),
   oo 7 (.fa 0 (.s 3)),
   oo 8 (.ld 1 false (.s 7)),
   oo 9 (.bin .neq (.s 6) (.s 8))]))
  (.cond (.s 9)
   (.seq (.h [.kill [2, 3, 9]] (.reg false [oo 4 (.mv (.c (.bool false)))]))
   .ret)
   .skip))
  (.seq (.seq (.h [.kill [9, 10, 11, 12, 13]] (.reg false [oo 10 (.fa 1 (.s 2)),
   oo 11 (.ld 1 false (.s 10)),
   oo 12 (.fa 1 (.s 3)),
   oo 13 (.ld 1 false (.s 12)),
   oo 14 (.bin .neq (.s 11) (.s 13))]))
  (.cond (.s 14)
   (.seq (.h [.kill [2, 3, 14]] (.reg false [oo 4 (.mv (.c (.bool false)))]))
   .ret)
   .skip))
  (.seq (.seq (.h [.kill [14, 15, 16, 17, 18]] (.reg false [oo 15 (.fa 2 (.s 2)),
   oo 16 (.ld 1 false (.s 15)),
   oo 17 (.fa 2 (.s 3)),
   oo 18 (.ld 1 false (.s 17)),
   oo 19 (.bin .neq (.s 16) (.s 18))]))
  (.cond (.s 19)
   (.seq (.h [.kill [2, 3, 19]] (.reg false [oo 4 (.mv (.c (.bool false)))]))
   .ret)
   .skip))
  (.seq (.seq (.h [.kill [2, 3, 19, 20, 21, 22, 23]] (.reg false [oo 20 (.fa 3 (.s 2)),
   oo 21 (.ld 1 false (.s 20)),
   oo 22 (.fa 3 (.s 3)),
   oo 23 (.ld 1 false (.s 22)),
   oo 24 (.bin .neq (.s 21) (.s 23))]))
  (.cond (.s 24)
   (.seq (.h [.kill [24]] (.reg false [oo 4 (.mv (.c (.bool false)))]))
   .ret)
   .skip))
  (.seq (.h [.kill [24]] (.reg false [oo 4 (.mv (.c (.bool true)))]))
  .ret))))))⟩
def k_spec_l5One_l21 : K :=
  (.h [.clean []] (.seq (.seq (.h [.kill [57, 58, 59, 60]] (.reg false [oo 57 (.mv (.s 3)),
   oo 58 (.fa 5 (.s 1)),
   oo 59 (.ld 1 false (.s 58)),
   oo 60 (.len false (.s 59)),
   oo 61 (.bin .lss (.s 57) (.s 60))]))
  (.cond (.s 61)
   .skip
   (.ex 1)))
  (.seq (.blk 2
   (.seq (.h [.kill [61, 64, 65, 66, 67, 68, 69, 70, 71, 72, 73, 74, 75, 76, 77, 78, 79, 80, 81, 82, 83, 84, 85, 86, 87, 88]] (.reg true [⟨some 64, none, .fa 5 (.s 1), [], []⟩,
    ⟨some 65, none, .ld 1 false (.s 64), [1], []⟩,
    ⟨some 66, none, .mv (.s 3), [], []⟩,
    ⟨some 67, none, .ia 4 (.s 65) (.s 66), [1], []⟩,
    ⟨some 68, none, .ld 4 true (.s 67), [1], []⟩,
    ⟨some 69, none, .call n_spec_l5AttrOk [] [] [(.s 68)], [1], []⟩,
    ⟨some 70, none, .un .not (.s 69), [], []⟩,
    ⟨some 71, none, .mv (.s 70), [], []⟩,
    ⟨some 72, some (71, false), .mv (.s 3), [], []⟩,
    ⟨some 73, some (71, false), .bin .gtr (.s 72) (.c (.int .i64 0)), [], []⟩,
    ⟨some 74, some (71, false), .mv (.s 73), [], []⟩,
    ⟨some 75, some (74, true), .fa 5 (.s 1), [], []⟩,
    ⟨some 76, some (74, true), .ld 1 false (.s 75), [1], []⟩,
    ⟨some 77, some (74, true), .mv (.s 3), [], []⟩,
    ⟨some 78, some (74, true), .bin .sub (.s 77) (.c (.int .i64 1)), [], []⟩,
    ⟨some 79, some (74, true), .ia 4 (.s 76) (.s 78), [1], []⟩,
    ⟨some 80, some (74, true), .ld 4 true (.s 79), [1], []⟩,
    ⟨some 81, some (74, true), .fa 5 (.s 1), [], []⟩,
    ⟨some 82, some (74, true), .ld 1 false (.s 81), [1], []⟩,
    ⟨some 83, some (74, true), .mv (.s 3), [], []⟩,
    ⟨some 84, some (74, true), .ia 4 (.s 82) (.s 83), [1], []⟩,
    ⟨some 85, some (74, true), .ld 4 true (.s 84), [1], []⟩,
    ⟨some 86, some (74, true), .call n_spec_l5Less [] [] [(.s 80), (.s 85)], [1], []⟩,
    ⟨some 87, some (74, true), .un .not (.s 86), [], []⟩,
    ⟨some 88, some (71, false), .pick (.s 74) (.s 87) (.c (.bool false)), [], []⟩,
    ⟨some 89, none, .pick (.s 71) (.c (.bool true)) (.s 88), [], []⟩]))
   (.cond (.s 89)
    (.seq (.h [.kill [1, 3, 89]] (.reg false [oo 2 (.mv (.c (.bool false)))]))
    .ret)
    .skip)))
  (.h [.kill [62, 63, 89]] (.reg false [oo 62 (.mv (.s 3)),
   oo 63 (.bin .add (.s 62) (.c (.int .i64 1))),
   oo 3 (.mv (.s 63))])))))
def k_spec_l5One_r17 : K :=
  (.seq (.h [.kill [1, 3, 61]] (.reg false [oo 2 (.mv (.c (.bool true)))]))
  .ret)
def k_spec_l5One_r9 : K :=
  (.seq (.seq (.h [.clean []] (.h [.kill [56]] (.reg false [oo 3 (.mv (.c (.int .i64 0)))])))
  (.blk 1
   (.loop k_spec_l5One_l21)))
  k_spec_l5One_r17)
def k_spec_l5One_r2 : K :=
  (.seq (.h [.kill [1, 150]] (.reg false [oo 2 (.mv (.c (.bool false)))]))
  .ret)
def k_spec_l5One : F := ⟨195, [.tmp 2],
  (.seq (.h [.kill [0, 2]] (.reg false [oo 1 (.box (.s 0)),
   oo 2 (.mv (.c (.bool false)))]))
  (.seq (.seq (.h [.kill [4]] (.reg false [oo 4 (.fa 0 (.s 1)),
   oo 5 (.ld 1 false (.s 4))]))
  (.blk 0
   (.seq (.h [.kill [7]] (.reg false [oo 7 (.bin .eql (.s 5) (.c (.int .i64 1))),
    oo 6 (.mv (.s 7))]))
   (.cond (.s 6)
    (.seq (.h [.kill [56], .clean []] (.seq (.h [.kill [5, 6, 8, 9, 10, 11, 12, 13, 14, 15, 16, 17, 18, 19, 20, 21, 22, 23, 24, 25, 26, 27, 28, 29, 30, 31, 32, 33, 34, 35, 36, 37, 38, 39, 40, 41, 42, 43, 44, 45, 46, 47, 48, 49, 50, 51, 52, 53, 54, 55]] (.reg false [oo 8 (.fa 1 (.s 1)),
     oo 9 (.ld 1 false (.s 8)),
     oo 10 (.call n_spec_l5Pre [] [] [(.s 9)]),
     oo 11 (.un .not (.s 10)),
     oo 12 (.mv (.s 11)),
     ow 13 12 false (.fa 2 (.s 1)),
     ow 14 12 false (.ld 1 false (.s 13)),
     ow 15 12 false (.call n_spec_PlainOk [] [] [(.s 14)]),
     ow 16 12 false (.un .not (.s 15)),
     oo 17 (.pick (.s 12) (.c (.bool true)) (.s 16)),
     oo 18 (.mv (.s 17)),
     ow 19 18 false (.fa 7 (.s 1)),
     ow 20 18 false (.ld 1 false (.s 19)),
     ow 21 18 false (.bin .neq (.s 20) (.c (.string ⟨#[]⟩))),
     oo 22 (.pick (.s 18) (.c (.bool true)) (.s 21)),
     oo 23 (.mv (.s 22)),
     ow 24 23 false (.fa 1 (.s 1)),
     ow 25 23 false (.ld 1 false (.s 24)),
     ow 26 23 false (.bin .neq (.s 25) (.c (.string ⟨#[]⟩))),
     ow 27 23 false (.mv (.s 26)),
     ow 28 27 true (.fa 3 (.s 1)),
     ow 29 27 true (.ld 1 false (.s 28)),
     ow 30 27 true (.bin .eql (.s 29) (.c (.string ⟨#[]⟩))),
     ow 31 23 false (.pick (.s 27) (.s 30) (.c (.bool false))),
     oo 32 (.pick (.s 23) (.c (.bool true)) (.s 31)),
     oo 33 (.mv (.s 32)),
     ow 34 33 false (.fa 3 (.s 1)),
     ow 35 33 false (.ld 1 false (.s 34)),
     ow 36 33 false (.call n_spec_TextOk [] [] [(.s 35)]),
     ow 37 33 false (.un .not (.s 36)),
     oo 38 (.pick (.s 33) (.c (.bool true)) (.s 37)),
     oo 39 (.mv (.s 38)),
     ow 40 39 false (.fa 3 (.s 1)),
     ow 41 39 false (.ld 1 false (.s 40)),
     ow 42 39 false (.len true (.s 41)),
     ow 43 39 false (.bin .gtr (.s 42) (.c (.int .i64 40))),
     oo 44 (.pick (.s 39) (.c (.bool true)) (.s 43)),
     oo 45 (.mv (.s 44)),
     ow 46 45 false (.fa 4 (.s 1)),
     ow 47 45 false (.ld 1 false (.s 46)),
     ow 48 45 false (.call n_spec_DeclsOk [] [] [(.s 47)]),
     ow 49 45 false (.un .not (.s 48)),
     oo 50 (.pick (.s 45) (.c (.bool true)) (.s 49)),
     oo 51 (.mv (.s 50)),
     ow 52 51 false (.fa 5 (.s 1)),
     ow 53 51 false (.ld 1 false (.s 52)),
     ow 54 51 false (.len false (.s 53)),
     ow 55 51 false (.bin .gtr (.s 54) (.c (.int .i64 5))),
     oo 56 (.pick (.s 51) (.c (.bool true)) (.s 55))]))
    (.cond (.s 56)
     (.seq (.h [.kill [1, 56]] (.reg false [oo 2 (.mv (.c (.bool false)))]))
     .ret)
     .skip)))
    k_spec_l5One_r9)
    (.seq (.h [.kill [6, 91]] (.reg false [oo 91 (.bin .eql (.s 5) (.c (.int .i64 2))),
     oo 90 (.mv (.s 91))]))
    (.cond (.s 90)
     (.seq (.h [.kill [1, 5, 90, 92, 93, 94, 95, 96, 97, 98, 99, 100, 101, 102, 103, 104, 105, 106, 107, 108]] (.reg false [oo 92 (.ld 8 true (.s 1)),
      oo 93 (.call n_spec_l5Bare [] [] [(.s 92)]),
      oo 94 (.mv (.s 93)),
      ow 95 94 true (.fa 2 (.s 1)),
      ow 96 94 true (.ld 1 false (.s 95)),
      ow 97 94 true (.bin .eql (.s 96) (.c (.string ⟨#[]⟩))),
      oo 98 (.pick (.s 94) (.s 97) (.c (.bool false))),
      oo 99 (.mv (.s 98)),
      ow 100 99 true (.fa 7 (.s 1)),
      ow 101 99 true (.ld 1 false (.s 100)),
      ow 102 99 true (.bin .neq (.s 101) (.c (.string ⟨#[]⟩))),
      oo 103 (.pick (.s 99) (.s 102) (.c (.bool false))),
      oo 104 (.mv (.s 103)),
      ow 105 104 true (.fa 7 (.s 1)),
      ow 106 104 true (.ld 1 false (.s 105)),
      ow 107 104 true (.call n_spec_TextOk [] [] [(.s 106)]),
      oo 108 (.pick (.s 104) (.s 107) (.c (.bool false))),
      oo 2 (.mv (.s 108))]))
     .ret)
     (.seq (.h [.kill [90, 110]] (.reg false [oo 110 (.bin .eql (.s 5) (.c (.int .i64 3))),
      oo 109 (.mv (.s 110))]))
     (.cond (.s 109)
      (.seq (.h [.kill [1, 5, 109, 111, 112, 113, 114, 115, 116, 117, 118, 119, 120, 121, 122, 123, 124, 125, 126, 127, 128, 129, 130, 131, 132, 133, 134, 135, 136, 137, 138, 139, 140, 141, 142, 143, 144, 145, 146, 147, 148, 149]] (.reg false [oo 111 (.ld 8 true (.s 1)),
       oo 112 (.call n_spec_l5Bare [] [] [(.s 111)]),
       oo 113 (.mv (.s 112)),
       ow 114 113 true (.fa 2 (.s 1)),
       ow 115 113 true (.ld 1 false (.s 114)),
       ow 116 113 true (.bin .eql (.s 115) (.c (.string ⟨#[]⟩))),
       oo 117 (.pick (.s 113) (.s 116) (.c (.bool false))),
       oo 118 (.mv (.s 117)),
       ow 119 118 true (.fa 7 (.s 1)),
       ow 120 118 true (.ld 1 false (.s 119)),
       ow 121 118 true (.call n_spec_TextOk [] [] [(.s 120)]),
       oo 122 (.pick (.s 118) (.s 121) (.c (.bool false))),
       oo 123 (.mv (.s 122)),
       ow 124 123 true (.fa 7 (.s 1)),
       ow 125 123 true (.ld 1 false (.s 124)),
       ow 126 123 true (.call n_spec_l5Has [] [] [(.s 125), (.c (.string ⟨#[45, 45]⟩))]),
       ow 127 123 true (.un .not (.s 126)),
       oo 128 (.pick (.s 123) (.s 127) (.c (.bool false))),
       oo 129 (.mv (.s 128)),
       ow 130 129 true (.fa 7 (.s 1)),
       ow 131 129 true (.ld 1 false (.s 130)),
       ow 132 129 true (.call n_spec_l5Has [] [] [(.s 131), (.c (.string ⟨#[13]⟩))]),
       ow 133 129 true (.un .not (.s 132)),
       oo 134 (.pick (.s 129) (.s 133) (.c (.bool false))),
       oo 135 (.mv (.s 134)),
       ow 136 135 true (.fa 7 (.s 1)),
       ow 137 135 true (.ld 1 false (.s 136)),
       ow 138 135 true (.bin .eql (.s 137) (.c (.string ⟨#[]⟩))),
       ow 139 135 true (.mv (.s 138)),
       ow 140 139 false (.fa 7 (.s 1)),
       ow 141 139 false (.ld 1 false (.s 140)),
       ow 142 139 false (.fa 7 (.s 1)),
       ow 143 139 false (.ld 1 false (.s 142)),
       ow 144 139 false (.len true (.s 143)),
       ow 145 139 false (.bin .sub (.s 144) (.c (.int .i64 1))),
       ow 146 139 false (.ix (.s 141) (.s 145)),
       ow 147 139 false (.bin .neq (.s 146) (.c (.int .u8 45))),
       ow 148 135 true (.pick (.s 139) (.c (.bool true)) (.s 147)),
       oo 149 (.pick (.s 135) (.s 148) (.c (.bool false))),
       oo 2 (.mv (.s 149))]))
      .ret)
      (.seq (.h [.kill [5, 109, 151]] (.reg false [oo 151 (.bin .eql (.s 5) (.c (.int .i64 4))),
       oo 150 (.mv (.s 151))]))
      (.cond (.s 150)
       (.seq (.h [.kill [1, 150, 152, 153, 154, 155, 156, 157, 158, 159, 160, 161, 162, 163, 164, 165, 166, 167, 168, 169, 170, 171, 172, 173, 174, 175, 176, 177, 178, 179, 180, 181, 182, 183, 184, 185, 186, 187, 188, 189, 190, 191, 192, 193, 194]] (.reg false [oo 152 (.ld 8 true (.s 1)),
        oo 153 (.call n_spec_l5Bare [] [] [(.s 152)]),
        oo 154 (.mv (.s 153)),
        ow 155 154 true (.fa 2 (.s 1)),
        ow 156 154 true (.ld 1 false (.s 155)),
        ow 157 154 true (.call n_spec_PlainOk [] [] [(.s 156)]),
        oo 158 (.pick (.s 154) (.s 157) (.c (.bool false))),
        oo 159 (.mv (.s 158)),
        ow 160 159 true (.fa 2 (.s 1)),
        ow 161 159 true (.ld 1 false (.s 160)),
        ow 162 159 true (.call n_spec_l5Xml [] [] [(.s 161)]),
        ow 163 159 true (.un .not (.s 162)),
        oo 164 (.pick (.s 159) (.s 163) (.c (.bool false))),
        oo 165 (.mv (.s 164)),
        ow 166 165 true (.fa 7 (.s 1)),
        ow 167 165 true (.ld 1 false (.s 166)),
        ow 168 165 true (.call n_spec_TextOk [] [] [(.s 167)]),
        oo 169 (.pick (.s 165) (.s 168) (.c (.bool false))),
        oo 170 (.mv (.s 169)),
        ow 171 170 true (.fa 7 (.s 1)),
        ow 172 170 true (.ld 1 false (.s 171)),
        ow 173 170 true (.call n_spec_l5Has [] [] [(.s 172), (.c (.string ⟨#[63, 62]⟩))]),
        ow 174 170 true (.un .not (.s 173)),
        oo 175 (.pick (.s 170) (.s 174) (.c (.bool false))),
        oo 176 (.mv (.s 175)),
        ow 177 176 true (.fa 7 (.s 1)),
        ow 178 176 true (.ld 1 false (.s 177)),
        ow 179 176 true (.call n_spec_l5Has [] [] [(.s 178), (.c (.string ⟨#[13]⟩))]),
        ow 180 176 true (.un .not (.s 179)),
        oo 181 (.pick (.s 176) (.s 180) (.c (.bool false))),
        oo 182 (.mv (.s 181)),
        ow 183 182 true (.fa 7 (.s 1)),
        ow 184 182 true (.ld 1 false (.s 183)),
        ow 185 182 true (.bin .eql (.s 184) (.c (.string ⟨#[]⟩))),
        ow 186 182 true (.mv (.s 185)),
        ow 187 186 false (.fa 7 (.s 1)),
        ow 188 186 false (.ld 1 false (.s 187)),
        ow 189 186 false (.ix (.s 188) (.c (.int .i64 0))),
        ow 190 186 false (.conv (.int .i64) (.s 189)),
        ow 191 186 false (.call n_spec_IsBlank [] [] [(.s 190)]),
        ow 192 186 false (.un .not (.s 191)),
        ow 193 182 true (.pick (.s 186) (.c (.bool true)) (.s 192)),
        oo 194 (.pick (.s 182) (.s 193) (.c (.bool false))),
        oo 2 (.mv (.s 194))]))
       .ret)
       .skip))))))))))
  k_spec_l5One_r2))⟩
def k_impl_leafOk_r2 : K :=
  (.seq (.seq (.h [.kill [38, 39]] (.reg false [oo 39 (.fa 0 (.s 1)),
   oo 40 (.ld 1 false (.s 39))]))
  (.blk 0
   (.seq (.h [.kill [42]] (.reg false [oo 42 (.bin .eql (.s 40) (.c (.int .i64 2))),
    oo 41 (.mv (.s 42))]))
   (.cond (.s 41)
    (.seq (.h [.kill [1, 40, 41, 43, 44, 45, 46, 47, 48, 49, 50]] (.reg false [oo 43 (.fa 7 (.s 1)),
     oo 44 (.ld 1 false (.s 43)),
     oo 45 (.bin .neq (.s 44) (.c (.string ⟨#[]⟩))),
     oo 46 (.mv (.s 45)),
     ow 47 46 true (.fa 7 (.s 1)),
     ow 48 46 true (.ld 1 false (.s 47)),
     ow 49 46 true (.call n_impl_TextOk [] [] [(.s 48)]),
     oo 50 (.pick (.s 46) (.s 49) (.c (.bool false))),
     oo 2 (.mv (.s 50))]))
    .ret)
    (.seq (.h [.kill [41, 52]] (.reg false [oo 52 (.bin .eql (.s 40) (.c (.int .i64 3))),
     oo 51 (.mv (.s 52))]))
    (.cond (.s 51)
     (.seq (.h [.kill [1, 40, 51, 53, 54, 55]] (.reg false [oo 53 (.fa 7 (.s 1)),
      oo 54 (.ld 1 false (.s 53)),
      oo 55 (.call n_impl_noteOk [] [] [(.s 54)]),
      oo 2 (.mv (.s 55))]))
     .ret)
     (.seq (.h [.kill [40, 51, 57]] (.reg false [oo 57 (.bin .eql (.s 40) (.c (.int .i64 4))),
      oo 56 (.mv (.s 57))]))
     (.cond (.s 56)
      (.seq (.h [.kill [1, 56, 58, 59, 60, 61, 62]] (.reg false [oo 58 (.fa 2 (.s 1)),
       oo 59 (.ld 1 false (.s 58)),
       oo 60 (.fa 7 (.s 1)),
       oo 61 (.ld 1 false (.s 60)),
       oo 62 (.call n_impl_toldOk [] [] [(.s 59), (.s 61)]),
       oo 2 (.mv (.s 62))]))
      .ret)
      .skip))))))))
  (.seq (.h [.kill [1, 56]] (.reg false [oo 2 (.mv (.c (.bool false)))]))
  .ret))
def k_impl_leafOk : F := ⟨63, [.tmp 2],
  (.seq (.h [.kill [0, 2]] (.reg false [oo 1 (.box (.s 0)),
   oo 2 (.mv (.c (.bool false)))]))
  (.seq (.h [.kill [38], .clean []] (.seq (.h [.kill [3, 4, 5, 6, 7, 8, 9, 10, 11, 12, 13, 14, 15, 16, 17, 18, 19, 20, 21, 22, 23, 24, 25, 26, 27, 28, 29, 30, 31, 32, 33, 34, 35, 36, 37]] (.reg false [oo 3 (.fa 1 (.s 1)),
   oo 4 (.ld 1 false (.s 3)),
   oo 5 (.bin .neq (.s 4) (.c (.string ⟨#[]⟩))),
   oo 6 (.mv (.s 5)),
   ow 7 6 false (.fa 3 (.s 1)),
   ow 8 6 false (.ld 1 false (.s 7)),
   ow 9 6 false (.bin .neq (.s 8) (.c (.string ⟨#[]⟩))),
   oo 10 (.pick (.s 6) (.c (.bool true)) (.s 9)),
   oo 11 (.mv (.s 10)),
   ow 12 11 false (.fa 4 (.s 1)),
   ow 13 11 false (.ld 1 false (.s 12)),
   ow 14 11 false (.len false (.s 13)),
   ow 15 11 false (.bin .gtr (.s 14) (.c (.int .i64 0))),
   oo 16 (.pick (.s 11) (.c (.bool true)) (.s 15)),
   oo 17 (.mv (.s 16)),
   ow 18 17 false (.fa 5 (.s 1)),
   ow 19 17 false (.ld 1 false (.s 18)),
   ow 20 17 false (.len false (.s 19)),
   ow 21 17 false (.bin .gtr (.s 20) (.c (.int .i64 0))),
   oo 22 (.pick (.s 17) (.c (.bool true)) (.s 21)),
   oo 23 (.mv (.s 22)),
   ow 24 23 false (.fa 6 (.s 1)),
   ow 25 23 false (.ld 1 false (.s 24)),
   ow 26 23 false (.len false (.s 25)),
   ow 27 23 false (.bin .gtr (.s 26) (.c (.int .i64 0))),
   oo 28 (.pick (.s 23) (.c (.bool true)) (.s 27)),
   oo 29 (.mv (.s 28)),
   ow 30 29 false (.fa 2 (.s 1)),
   ow 31 29 false (.ld 1 false (.s 30)),
   ow 32 29 false (.bin .neq (.s 31) (.c (.string ⟨#[]⟩))),
   ow 33 29 false (.mv (.s 32)),
   ow 34 33 true (.fa 0 (.s 1)),
   ow 35 33 true (.ld 1 false (.s 34)),
   ow 36 33 true (.bin .neq (.s 35) (.c (.int .i64 4))),
   ow 37 29 false (.pick (.s 33) (.s 36) (.c (.bool false))),
   oo 38 (.pick (.s 29) (.c (.bool true)) (.s 37))]))
  (.cond (.s 38)
   (.seq (.h [.kill [1, 38]] (.reg false [oo 2 (.mv (.c (.bool false)))]))
   .ret)
   .skip)))
  k_impl_leafOk_r2))⟩
def k_impl_preOk : F := ⟨14, [.tmp 2],
  (.seq (.h [.kill [2]] (.reg false [oo 2 (.mv (.c (.bool false)))]))
  (.seq (.h [.kill [0, 3, 4, 5, 6, 7, 8, 9, 10, 11, 12, 13]] (.reg false [oo 3 (.mv (.s 0)),
   oo 4 (.bin .eql (.s 3) (.c (.string ⟨#[]⟩))),
   oo 5 (.mv (.s 4)),
   ow 6 5 false (.mv (.s 0)),
   ow 7 5 false (.call n_impl_PlainOk [] [] [(.s 6)]),
   ow 8 5 false (.mv (.s 7)),
   ow 9 8 true (.mv (.s 0)),
   ow 10 8 true (.call n_strings_HasPrefix [] [] [(.s 9), (.c (.string ⟨#[120, 109, 108]⟩))]),
   ow 11 8 true (.un .not (.s 10)),
   ow 12 5 false (.pick (.s 8) (.s 11) (.c (.bool false))),
   oo 13 (.pick (.s 5) (.c (.bool true)) (.s 12)),
   oo 2 (.mv (.s 13))]))
  .ret))⟩
def k_impl_uriOk : F := ⟨20, [.tmp 4],
  (.seq (.h [.kill [4]] (.reg false [oo 4 (.mv (.c (.bool false)))]))
  (.seq (.h [.kill [0, 1, 5, 6, 7, 8, 9, 10, 11, 12, 13, 14, 15, 16, 17, 18, 19]] (.reg false [oo 5 (.mv (.s 0)),
   oo 6 (.call n_impl_TextOk [] [] [(.s 5)]),
   oo 7 (.mv (.s 6)),
   ow 8 7 true (.mv (.s 0)),
   ow 9 7 true (.len true (.s 8)),
   ow 10 7 true (.bin .leq (.s 9) (.c (.int .i64 40))),
   oo 11 (.pick (.s 7) (.s 10) (.c (.bool false))),
   oo 12 (.mv (.s 11)),
   ow 13 12 true (.mv (.s 0)),
   ow 14 12 true (.bin .neq (.s 13) (.c (.string ⟨#[]⟩))),
   ow 15 12 true (.mv (.s 14)),
   ow 16 15 false (.mv (.s 1)),
   ow 17 15 false (.bin .eql (.s 16) (.c (.string ⟨#[]⟩))),
   ow 18 12 true (.pick (.s 15) (.c (.bool true)) (.s 17)),
   oo 19 (.pick (.s 12) (.s 18) (.c (.bool false))),
   oo 4 (.mv (.s 19))]))
  .ret))⟩
def k_impl_PlainOk_l6 : K :=
  (.h [.clean []] (.seq (.seq (.h [.kill [7, 8, 9]] (.reg false [oo 7 (.mv (.s 3)),
   oo 8 (.mv (.s 0)),
   oo 9 (.len true (.s 8)),
   oo 10 (.bin .lss (.s 7) (.s 9))]))
  (.cond (.s 10)
   .skip
   (.ex 0)))
  (.blk 1
   (.seq (.h [.kill [10, 11, 12, 13, 14, 15, 16, 17]] (.reg false [oo 12 (.mv (.s 0)),
    oo 13 (.mv (.s 3)),
    oo 14 (.call n_impl_SignAt [] [] [(.s 12), (.s 13)]),
    oo 11 (.mv (.s 14)),
    oo 15 (.ext (.s 11) 0),
    oo 16 (.ext (.s 11) 1),
    oo 17 (.ext (.s 11) 2),
    oo 4 (.mv (.s 15)),
    oo 5 (.mv (.s 16)),
    oo 6 (.mv (.s 17))]))
   (.seq (.seq (.h [.kill [3, 4, 6, 18, 19, 20, 21, 22, 23, 24, 25, 26, 27, 28, 29, 30, 31, 32]] (.reg false [oo 18 (.mv (.s 6)),
    oo 19 (.un .not (.s 18)),
    oo 20 (.mv (.s 19)),
    ow 21 20 false (.mv (.s 3)),
    ow 22 20 false (.bin .eql (.s 21) (.c (.int .i64 0))),
    ow 23 20 false (.mv (.s 22)),
    ow 24 23 true (.mv (.s 4)),
    ow 25 23 true (.call n_impl_IsStart [] [] [(.s 24)]),
    ow 26 23 true (.un .not (.s 25)),
    ow 27 20 false (.pick (.s 23) (.s 26) (.c (.bool false))),
    oo 28 (.pick (.s 20) (.c (.bool true)) (.s 27)),
    oo 29 (.mv (.s 28)),
    ow 30 29 false (.mv (.s 4)),
    ow 31 29 false (.call n_impl_IsPart [] [] [(.s 30)]),
    ow 32 29 false (.un .not (.s 31)),
    oo 33 (.pick (.s 29) (.c (.bool true)) (.s 32))]))
   (.cond (.s 33)
    (.seq (.h [.kill [0, 5, 33]] (.reg false [oo 2 (.mv (.c (.bool false)))]))
    .ret)
    .skip))
   (.h [.kill [5, 33, 34]] (.reg false [oo 34 (.mv (.s 5)),
    oo 3 (.mv (.s 34))])))))))
def k_impl_PlainOk_r2 : K :=
  (.seq (.h [.kill [0, 3, 10, 35, 36, 37]] (.reg false [oo 35 (.mv (.s 0)),
   oo 36 (.len true (.s 35)),
   oo 37 (.call n_impl_in [] [] [(.s 36), (.c (.int .i64 1)), (.c (.int .i64 16))]),
   oo 2 (.mv (.s 37))]))
  .ret)
def k_impl_PlainOk : F := ⟨38, [.tmp 2],
  (.seq (.h [.kill [2]] (.reg false [oo 2 (.mv (.c (.bool false)))]))
  (.seq (.seq (.h [.clean []] (.reg false [oo 3 (.mv (.c (.int .i64 0)))]))
  (.blk 0
   (.loop k_impl_PlainOk_l6)))
  k_impl_PlainOk_r2))⟩
def k_impl_DeclsOk_l6 : K :=
  (.h [.clean [4]] (.seq (.reg false [oo 8 (.bin .lss (.s 7) (.s 6))])
  (.seq (.cond (.s 8)
   .skip
   (.ex 0))
  (.seq (.blk 1
   (.seq (.h [.kill [8, 9, 10, 11]] (.reg false [oo 9 (.mv (.s 7)),
    oo 10 (.ia 2 (.s 5) (.s 7)),
    oo 11 (.ld 2 true (.s 10)),
    oo 4 (.alloc [.v (.string ⟨#[]⟩), .v (.string ⟨#[]⟩)]),
    oo 3 (.mv (.s 9)),
    on (.st 2 (.s 4) (.s 11))]))
   (.seq (.h [.kill [3, 4, 12, 13, 14, 15, 16, 17, 18, 19, 20, 21, 22, 23, 24, 25, 26, 27, 28]] (.reg true [⟨some 12, none, .ld 2 true (.s 4), [4], []⟩,
    ⟨some 13, none, .call n_impl_DeclOk [] [] [(.s 12)], [4], []⟩,
    ⟨some 14, none, .un .not (.s 13), [], []⟩,
    ⟨some 15, none, .mv (.s 14), [], []⟩,
    ⟨some 16, some (15, false), .mv (.s 3), [], []⟩,
    ⟨some 17, some (15, false), .bin .gtr (.s 16) (.c (.int .i64 0)), [], []⟩,
    ⟨some 18, some (15, false), .mv (.s 17), [], []⟩,
    ⟨some 19, some (18, true), .mv (.s 0), [], []⟩,
    ⟨some 20, some (18, true), .mv (.s 3), [], []⟩,
    ⟨some 21, some (18, true), .bin .sub (.s 20) (.c (.int .i64 1)), [], []⟩,
    ⟨some 22, some (18, true), .ia 2 (.s 19) (.s 21), [0], []⟩,
    ⟨some 23, some (18, true), .fa 0 (.s 22), [], []⟩,
    ⟨some 24, some (18, true), .ld 1 false (.s 23), [0], []⟩,
    ⟨some 25, some (18, true), .fa 0 (.s 4), [], []⟩,
    ⟨some 26, some (18, true), .ld 1 false (.s 25), [4], []⟩,
    ⟨some 27, some (18, true), .bin .geq (.s 24) (.s 26), [], []⟩,
    ⟨some 28, some (15, false), .pick (.s 18) (.s 27) (.c (.bool false)), [], []⟩,
    ⟨some 29, none, .pick (.s 15) (.c (.bool true)) (.s 28), [], []⟩]))
   (.cond (.s 29)
    (.seq (.h [.kill [0, 5, 6, 7, 29]] (.reg false [oo 2 (.mv (.c (.bool false)))]))
    .ret)
    .skip))))
  (.h [.kill [29, 30]] (.reg false [oo 30 (.bin .add (.s 7) (.c (.int .i64 1))),
   oo 7 (.mv (.s 30))]))))))
def k_impl_DeclsOk_r2 : K :=
  (.seq (.h [.kill [0, 5, 6, 7, 8, 31, 32, 33]] (.reg false [oo 31 (.mv (.s 0)),
   oo 32 (.len false (.s 31)),
   oo 33 (.bin .leq (.s 32) (.c (.int .i64 4))),
   oo 2 (.mv (.s 33))]))
  .ret)
def k_impl_DeclsOk : F := ⟨34, [.tmp 2],
  (.seq (.h [.kill [2]] (.reg false [oo 2 (.mv (.c (.bool false)))]))
  (.seq (.seq (.h [.clean []] (.reg false [oo 5 (.mv (.s 0)),
   oo 6 (.len false (.s 5)),
   oo 7 (.mv (.c (.int .i64 0)))]))
  (.blk 0
   (.loop k_impl_DeclsOk_l6)))
  k_impl_DeclsOk_r2))⟩
def k_impl_attrsOk_l6 : K :=
  (.h [.clean [4]] (.seq (.reg false [oo 8 (.bin .lss (.s 7) (.s 6))])
  (.seq (.cond (.s 8)
   .skip
   (.ex 0))
  (.seq (.blk 1
   (.seq (.h [.kill [8, 9, 10, 11]] (.reg false [oo 9 (.mv (.s 7)),
    oo 10 (.ia 4 (.s 5) (.s 7)),
    oo 11 (.ld 4 true (.s 10)),
    oo 4 (.alloc [.v (.string ⟨#[]⟩), .v (.string ⟨#[]⟩), .v (.string ⟨#[]⟩), .v (.string ⟨#[]⟩)]),
    oo 3 (.mv (.s 9)),
    on (.st 4 (.s 4) (.s 11))]))
   (.seq (.h [.kill [3, 4, 12, 13, 14, 15, 16, 17, 18, 19, 20, 21, 22, 23, 24, 25, 26, 27]] (.reg true [⟨some 12, none, .ld 4 true (.s 4), [4], []⟩,
    ⟨some 13, none, .call n_impl_attrOk [] [] [(.s 12)], [4], []⟩,
    ⟨some 14, none, .un .not (.s 13), [], []⟩,
    ⟨some 15, none, .mv (.s 14), [], []⟩,
    ⟨some 16, some (15, false), .mv (.s 3), [], []⟩,
    ⟨some 17, some (15, false), .bin .gtr (.s 16) (.c (.int .i64 0)), [], []⟩,
    ⟨some 18, some (15, false), .mv (.s 17), [], []⟩,
    ⟨some 19, some (18, true), .mv (.s 0), [], []⟩,
    ⟨some 20, some (18, true), .mv (.s 3), [], []⟩,
    ⟨some 21, some (18, true), .bin .sub (.s 20) (.c (.int .i64 1)), [], []⟩,
    ⟨some 22, some (18, true), .ia 4 (.s 19) (.s 21), [0], []⟩,
    ⟨some 23, some (18, true), .ld 4 true (.s 22), [0], []⟩,
    ⟨some 24, some (18, true), .ld 4 true (.s 4), [4], []⟩,
    ⟨some 25, some (18, true), .call n_impl_compareAttrs [] [] [(.s 23), (.s 24)], [0, 4], []⟩,
    ⟨some 26, some (18, true), .bin .geq (.s 25) (.c (.int .i64 0)), [], []⟩,
    ⟨some 27, some (15, false), .pick (.s 18) (.s 26) (.c (.bool false)), [], []⟩,
    ⟨some 28, none, .pick (.s 15) (.c (.bool true)) (.s 27), [], []⟩]))
   (.cond (.s 28)
    (.seq (.h [.kill [0, 5, 6, 7, 28]] (.reg false [oo 2 (.mv (.c (.bool false)))]))
    .ret)
    .skip))))
  (.h [.kill [28, 29]] (.reg false [oo 29 (.bin .add (.s 7) (.c (.int .i64 1))),
   oo 7 (.mv (.s 29))]))))))
def k_impl_attrsOk_r2 : K :=
  (.seq (.h [.kill [0, 5, 6, 7, 8, 30, 31, 32]] (.reg false [oo 30 (.mv (.s 0)),
   oo 31 (.len false (.s 30)),
   oo 32 (.bin .leq (.s 31) (.c (.int .i64 5))),
   oo 2 (.mv (.s 32))]))
  .ret)
def k_impl_attrsOk : F := ⟨33, [.tmp 2],
  (.seq (.h [.kill [2]] (.reg false [oo 2 (.mv (.c (.bool false)))]))
  (.seq (.seq (.h [.clean []] (.reg false [oo 5 (.mv (.s 0)),
   oo 6 (.len false (.s 5)),
   oo 7 (.mv (.c (.int .i64 0)))]))
  (.blk 0
   (.loop k_impl_attrsOk_l6)))
  k_impl_attrsOk_r2))⟩
def k_impl_noTwoTexts_l6 : K :=
  (.h [.clean [4]] (.seq (.reg false [oo 8 (.bin .lss (.s 7) (.s 6))])
  (.seq (.cond (.s 8)
   .skip
   (.ex 0))
  (.seq (.blk 1
   (.seq (.h [.kill [8, 9, 10, 11]] (.reg false [oo 9 (.mv (.s 7)),
    oo 10 (.ia 8 (.s 5) (.s 7)),
    oo 11 (.ld 8 true (.s 10)),
    oo 4 (.alloc [.v (.int .i64 0), .v (.string ⟨#[]⟩), .v (.string ⟨#[]⟩), .v (.string ⟨#[]⟩), .sl true [], .sl true [], .sl true [], .v (.string ⟨#[]⟩)]),
    oo 3 (.mv (.s 9)),
    on (.st 8 (.s 4) (.s 11))]))
   (.seq (.h [.kill [3, 4, 12, 13, 14, 15, 16, 17, 18, 19, 20, 21, 22, 23, 24, 25, 26]] (.reg false [oo 12 (.mv (.s 3)),
    oo 13 (.bin .gtr (.s 12) (.c (.int .i64 0))),
    oo 14 (.mv (.s 13)),
    ow 15 14 true (.fa 0 (.s 4)),
    ow 16 14 true (.ld 1 false (.s 15)),
    ow 17 14 true (.bin .eql (.s 16) (.c (.int .i64 2))),
    oo 18 (.pick (.s 14) (.s 17) (.c (.bool false))),
    oo 19 (.mv (.s 18)),
    ow 20 19 true (.mv (.s 0)),
    ow 21 19 true (.mv (.s 3)),
    ow 22 19 true (.bin .sub (.s 21) (.c (.int .i64 1))),
    ow 23 19 true (.ia 8 (.s 20) (.s 22)),
    ow 24 19 true (.fa 0 (.s 23)),
    ow 25 19 true (.ld 1 false (.s 24)),
    ow 26 19 true (.bin .eql (.s 25) (.c (.int .i64 2))),
    oo 27 (.pick (.s 19) (.s 26) (.c (.bool false)))]))
   (.cond (.s 27)
    (.seq (.h [.kill [0, 5, 6, 7, 27]] (.reg false [oo 2 (.mv (.c (.bool false)))]))
    .ret)
    .skip))))
  (.h [.kill [27, 28]] (.reg false [oo 28 (.bin .add (.s 7) (.c (.int .i64 1))),
   oo 7 (.mv (.s 28))]))))))
def k_impl_noTwoTexts_r2 : K :=
  (.seq (.h [.kill [0, 5, 6, 7, 8]] (.reg false [oo 2 (.mv (.c (.bool true)))]))
  .ret)
def k_impl_noTwoTexts : F := ⟨29, [.tmp 2],
  (.seq (.h [.kill [2]] (.reg false [oo 2 (.mv (.c (.bool false)))]))
  (.seq (.seq (.h [.clean []] (.reg false [oo 5 (.mv (.s 0)),
   oo 6 (.len false (.s 5)),
   oo 7 (.mv (.c (.int .i64 0)))]))
  (.blk 0
   (.loop k_impl_noTwoTexts_l6)))
  k_impl_noTwoTexts_r2))⟩
def k_slices_ContainsFunc_Node : F := ⟨9, [.tmp 4],
  (.seq (.h [.kill [4]] (.reg false [oo 4 (.mv (.c (.bool false)))]))
  (.seq (.h [.kill [0, 1, 5, 6, 7, 8]] (.reg false [oo 5 (.mv (.s 0)),
   oo 6 (.mv (.s 1)),
   oo 7 (.call n_slices_IndexFunc_Node [] [] [(.s 5), (.s 6)]),
   oo 8 (.bin .geq (.s 7) (.c (.int .i64 0))),
   oo 4 (.mv (.s 8))]))
  .ret))⟩
def k_spec_l5Pre : F := ⟨14, [.tmp 2],
  (.seq (.h [.kill [2]] (.reg false [oo 2 (.mv (.c (.bool false)))]))
  (.seq (.h [.kill [0, 3, 4, 5, 6, 7, 8, 9, 10, 11, 12, 13]] (.reg false [oo 3 (.mv (.s 0)),
   oo 4 (.bin .eql (.s 3) (.c (.string ⟨#[]⟩))),
   oo 5 (.mv (.s 4)),
   ow 6 5 false (.mv (.s 0)),
   ow 7 5 false (.call n_spec_PlainOk [] [] [(.s 6)]),
   ow 8 5 false (.mv (.s 7)),
   ow 9 8 true (.mv (.s 0)),
   ow 10 8 true (.call n_spec_l4Xml [] [] [(.s 9)]),
   ow 11 8 true (.un .not (.s 10)),
   ow 12 5 false (.pick (.s 8) (.s 11) (.c (.bool false))),
   oo 13 (.pick (.s 5) (.c (.bool true)) (.s 12)),
   oo 2 (.mv (.s 13))]))
  .ret))⟩
def k_spec_PlainOk_l14 : K :=
  (.h [.clean []] (.seq (.seq (.h [.kill [11, 12, 13]] (.reg false [oo 11 (.mv (.s 3)),
   oo 12 (.mv (.s 0)),
   oo 13 (.len true (.s 12)),
   oo 14 (.bin .lss (.s 11) (.s 13))]))
  (.cond (.s 14)
   .skip
   (.ex 0)))
  (.blk 1
   (.seq (.h [.kill [14, 15, 16, 17, 18, 19, 20, 21]] (.reg false [oo 16 (.mv (.s 0)),
    oo 17 (.mv (.s 3)),
    oo 18 (.call n_spec_SignAt [] [] [(.s 16), (.s 17)]),
    oo 15 (.mv (.s 18)),
    oo 19 (.ext (.s 15) 0),
    oo 20 (.ext (.s 15) 1),
    oo 21 (.ext (.s 15) 2),
    oo 4 (.mv (.s 19)),
    oo 5 (.mv (.s 20)),
    oo 6 (.mv (.s 21))]))
   (.seq (.seq (.h [.kill [3, 4, 6, 22, 23, 24, 25, 26, 27, 28, 29, 30, 31, 32, 33, 34, 35, 36]] (.reg false [oo 22 (.mv (.s 6)),
    oo 23 (.un .not (.s 22)),
    oo 24 (.mv (.s 23)),
    ow 25 24 false (.mv (.s 3)),
    ow 26 24 false (.bin .eql (.s 25) (.c (.int .i64 0))),
    ow 27 24 false (.mv (.s 26)),
    ow 28 27 true (.mv (.s 4)),
    ow 29 27 true (.call n_spec_IsStart [] [] [(.s 28)]),
    ow 30 27 true (.un .not (.s 29)),
    ow 31 24 false (.pick (.s 27) (.s 30) (.c (.bool false))),
    oo 32 (.pick (.s 24) (.c (.bool true)) (.s 31)),
    oo 33 (.mv (.s 32)),
    ow 34 33 false (.mv (.s 4)),
    ow 35 33 false (.call n_spec_IsPart [] [] [(.s 34)]),
    ow 36 33 false (.un .not (.s 35)),
    oo 37 (.pick (.s 33) (.c (.bool true)) (.s 36))]))
   (.cond (.s 37)
    (.seq (.h [.kill [0, 5, 37]] (.reg false [oo 2 (.mv (.c (.bool false)))]))
    .ret)
    .skip))
   (.h [.kill [5, 37, 38]] (.reg false [oo 38 (.mv (.s 5)),
    oo 3 (.mv (.s 38))])))))))
def k_spec_PlainOk_r10 : K :=
  (.seq (.h [.kill [0, 3, 14]] (.reg false [oo 2 (.mv (.c (.bool true)))]))
  .ret)
def k_spec_PlainOk : F := ⟨39, [.tmp 2],
  (.seq (.h [.kill [2]] (.reg false [oo 2 (.mv (.c (.bool false)))]))
  (.seq (.seq (.h [.kill [7, 8, 9]] (.reg false [oo 7 (.mv (.s 0)),
   oo 8 (.len true (.s 7)),
   oo 9 (.call n_spec_l1In [] [] [(.s 8), (.c (.int .i64 1)), (.c (.int .i64 16))]),
   oo 10 (.un .not (.s 9))]))
  (.cond (.s 10)
   (.seq (.h [.kill [0, 10]] (.reg false [oo 2 (.mv (.c (.bool false)))]))
   .ret)
   .skip))
  (.seq (.seq (.h [.clean []] (.h [.kill [10]] (.reg false [oo 3 (.mv (.c (.int .i64 0)))])))
  (.blk 0
   (.loop k_spec_PlainOk_l14)))
  k_spec_PlainOk_r10)))⟩
def k_spec_TextOk : F := ⟨10, [.tmp 2],
  (.seq (.h [.kill [2]] (.reg false [oo 2 (.mv (.c (.bool false)))]))
  (.seq (.h [.kill [0, 3, 4, 5, 6, 7, 8, 9]] (.reg false [oo 3 (.mv (.s 0)),
   oo 4 (.len true (.s 3)),
   oo 5 (.bin .leq (.s 4) (.c (.int .i64 600))),
   oo 6 (.mv (.s 5)),
   ow 7 6 true (.mv (.s 0)),
   ow 8 6 true (.call n_spec_l1Signs [] [] [(.s 7)]),
   oo 9 (.pick (.s 6) (.s 8) (.c (.bool false))),
   oo 2 (.mv (.s 9))]))
  .ret))⟩
def k_spec_DeclsOk_l6 : K :=
  (.h [.clean []] (.seq (.seq (.h [.kill [4, 5, 6]] (.reg false [oo 4 (.mv (.s 3)),
   oo 5 (.mv (.s 0)),
   oo 6 (.len false (.s 5)),
   oo 7 (.bin .lss (.s 4) (.s 6))]))
  (.cond (.s 7)
   .skip
   (.ex 0)))
  (.seq (.blk 1
   (.seq (.h [.kill [7, 10, 11, 12, 13, 14, 15, 16, 17, 18, 19, 20, 21, 22, 23, 24, 25, 26, 27, 28, 29, 30, 31, 32]] (.reg true [⟨some 10, none, .mv (.s 0), [], []⟩,
    ⟨some 11, none, .mv (.s 3), [], []⟩,
    ⟨some 12, none, .ia 2 (.s 10) (.s 11), [0], []⟩,
    ⟨some 13, none, .ld 2 true (.s 12), [0], []⟩,
    ⟨some 14, none, .call n_spec_DeclOk [] [] [(.s 13)], [0], []⟩,
    ⟨some 15, none, .un .not (.s 14), [], []⟩,
    ⟨some 16, none, .mv (.s 15), [], []⟩,
    ⟨some 17, some (16, false), .mv (.s 3), [], []⟩,
    ⟨some 18, some (16, false), .bin .gtr (.s 17) (.c (.int .i64 0)), [], []⟩,
    ⟨some 19, some (16, false), .mv (.s 18), [], []⟩,
    ⟨some 20, some (19, true), .mv (.s 0), [], []⟩,
    ⟨some 21, some (19, true), .mv (.s 3), [], []⟩,
    ⟨some 22, some (19, true), .bin .sub (.s 21) (.c (.int .i64 1)), [], []⟩,
    ⟨some 23, some (19, true), .ia 2 (.s 20) (.s 22), [0], []⟩,
    ⟨some 24, some (19, true), .fa 0 (.s 23), [], []⟩,
    ⟨some 25, some (19, true), .ld 1 false (.s 24), [0], []⟩,
    ⟨some 26, some (19, true), .mv (.s 0), [], []⟩,
    ⟨some 27, some (19, true), .mv (.s 3), [], []⟩,
    ⟨some 28, some (19, true), .ia 2 (.s 26) (.s 27), [0], []⟩,
    ⟨some 29, some (19, true), .fa 0 (.s 28), [], []⟩,
    ⟨some 30, some (19, true), .ld 1 false (.s 29), [0], []⟩,
    ⟨some 31, some (19, true), .bin .geq (.s 25) (.s 30), [], []⟩,
    ⟨some 32, some (16, false), .pick (.s 19) (.s 31) (.c (.bool false)), [], []⟩,
    ⟨some 33, none, .pick (.s 16) (.c (.bool true)) (.s 32), [], []⟩]))
   (.cond (.s 33)
    (.seq (.h [.kill [0, 3, 33]] (.reg false [oo 2 (.mv (.c (.bool false)))]))
    .ret)
    .skip)))
  (.h [.kill [8, 9, 33]] (.reg false [oo 8 (.mv (.s 3)),
   oo 9 (.bin .add (.s 8) (.c (.int .i64 1))),
   oo 3 (.mv (.s 9))])))))
def k_spec_DeclsOk_r2 : K :=
  (.seq (.h [.kill [0, 3, 7, 34, 35, 36]] (.reg false [oo 34 (.mv (.s 0)),
   oo 35 (.len false (.s 34)),
   oo 36 (.bin .leq (.s 35) (.c (.int .i64 4))),
   oo 2 (.mv (.s 36))]))
  .ret)
def k_spec_DeclsOk : F := ⟨37, [.tmp 2],
  (.seq (.h [.kill [2]] (.reg false [oo 2 (.mv (.c (.bool false)))]))
  (.seq (.seq (.h [.clean []] (.reg false [oo 3 (.mv (.c (.int .i64 0)))]))
  (.blk 0
   (.loop k_spec_DeclsOk_l6)))
  k_spec_DeclsOk_r2))⟩
def k_spec_l5Bare : F := ⟨29, [.tmp 2],
  (.seq (.h [.kill [0, 2]] (.reg false [oo 1 (.box (.s 0)),
   oo 2 (.mv (.c (.bool false)))]))
  (.seq (.h [.kill [1, 3, 4, 5, 6, 7, 8, 9, 10, 11, 12, 13, 14, 15, 16, 17, 18, 19, 20, 21, 22, 23, 24, 25, 26, 27, 28]] (.reg false [oo 3 (.fa 1 (.s 1)),
   oo 4 (.ld 1 false (.s 3)),
   oo 5 (.bin .eql (.s 4) (.c (.string ⟨#[]⟩))),
   oo 6 (.mv (.s 5)),
   ow 7 6 true (.fa 3 (.s 1)),
   ow 8 6 true (.ld 1 false (.s 7)),
   ow 9 6 true (.bin .eql (.s 8) (.c (.string ⟨#[]⟩))),
   oo 10 (.pick (.s 6) (.s 9) (.c (.bool false))),
   oo 11 (.mv (.s 10)),
   ow 12 11 true (.fa 4 (.s 1)),
   ow 13 11 true (.ld 1 false (.s 12)),
   ow 14 11 true (.len false (.s 13)),
   ow 15 11 true (.bin .eql (.s 14) (.c (.int .i64 0))),
   oo 16 (.pick (.s 11) (.s 15) (.c (.bool false))),
   oo 17 (.mv (.s 16)),
   ow 18 17 true (.fa 5 (.s 1)),
   ow 19 17 true (.ld 1 false (.s 18)),
   ow 20 17 true (.len false (.s 19)),
   ow 21 17 true (.bin .eql (.s 20) (.c (.int .i64 0))),
   oo 22 (.pick (.s 17) (.s 21) (.c (.bool false))),
   oo 23 (.mv (.s 22)),
   ow 24 23 true (.fa 6 (.s 1)),
   ow 25 23 true (.ld 1 false (.s 24)),
   ow 26 23 true (.len false (.s 25)),
   ow 27 23 true (.bin .eql (.s 26) (.c (.int .i64 0))),
   oo 28 (.pick (.s 23) (.s 27) (.c (.bool false))),
   oo 2 (.mv (.s 28))]))
  .ret))⟩
def k_spec_l5Has_l6 : K :=
  (.h [.clean []] (.seq (.seq (.h [.kill [6, 7, 8, 9, 10, 11]] (.reg false [oo 6 (.mv (.s 5)),
   oo 7 (.mv (.s 1)),
   oo 8 (.len true (.s 7)),
   oo 9 (.bin .add (.s 6) (.s 8)),
   oo 10 (.mv (.s 0)),
   oo 11 (.len true (.s 10)),
   oo 12 (.bin .leq (.s 9) (.s 11))]))
  (.cond (.s 12)
   .skip
   (.ex 0)))
  (.seq (.blk 1
   (.seq (.h [.kill [12, 15, 16, 17, 18, 19, 20, 21, 22]] (.reg false [oo 15 (.mv (.s 0)),
    oo 16 (.mv (.s 5)),
    oo 17 (.mv (.s 5)),
    oo 18 (.mv (.s 1)),
    oo 19 (.len true (.s 18)),
    oo 20 (.bin .add (.s 17) (.s 19)),
    oo 21 (.slc 0 (.s 15) (some (.s 16)) (some (.s 20))),
    oo 22 (.mv (.s 1)),
    oo 23 (.bin .eql (.s 21) (.s 22))]))
   (.cond (.s 23)
    (.seq (.h [.kill [0, 1, 5, 23]] (.reg false [oo 4 (.mv (.c (.bool true)))]))
    .ret)
    .skip)))
  (.h [.kill [13, 14, 23]] (.reg false [oo 13 (.mv (.s 5)),
   oo 14 (.bin .add (.s 13) (.c (.int .i64 1))),
   oo 5 (.mv (.s 14))])))))
def k_spec_l5Has_r2 : K :=
  (.seq (.h [.kill [0, 1, 5, 12]] (.reg false [oo 4 (.mv (.c (.bool false)))]))
  .ret)
def k_spec_l5Has : F := ⟨24, [.tmp 4],
  (.seq (.h [.kill [4]] (.reg false [oo 4 (.mv (.c (.bool false)))]))
  (.seq (.seq (.h [.clean []] (.reg false [oo 5 (.mv (.c (.int .i64 0)))]))
  (.blk 0
   (.loop k_spec_l5Has_l6)))
  k_spec_l5Has_r2))⟩
def k_spec_l5Xml : F := ⟨34, [.tmp 2],
  (.seq (.h [.kill [2]] (.reg false [oo 2 (.mv (.c (.bool false)))]))
  (.seq (.seq (.h [.kill [3, 4]] (.reg false [oo 3 (.mv (.s 0)),
   oo 4 (.len true (.s 3)),
   oo 5 (.bin .neq (.s 4) (.c (.int .i64 3)))]))
  (.cond (.s 5)
   (.seq (.h [.kill [0, 5]] (.reg false [oo 2 (.mv (.c (.bool false)))]))
   .ret)
   .skip))
  (.seq (.h [.kill [0, 5, 6, 7, 8, 9, 10, 11, 12, 13, 14, 15, 16, 17, 18, 19, 20, 21, 22, 23, 24, 25, 26, 27, 28, 29, 30, 31, 32, 33]] (.reg false [oo 6 (.mv (.s 0)),
   oo 7 (.ix (.s 6) (.c (.int .i64 0))),
   oo 8 (.bin .eql (.s 7) (.c (.int .u8 120))),
   oo 9 (.mv (.s 8)),
   ow 10 9 false (.mv (.s 0)),
   ow 11 9 false (.ix (.s 10) (.c (.int .i64 0))),
   ow 12 9 false (.bin .eql (.s 11) (.c (.int .u8 88))),
   oo 13 (.pick (.s 9) (.c (.bool true)) (.s 12)),
   oo 14 (.mv (.s 13)),
   ow 15 14 true (.mv (.s 0)),
   ow 16 14 true (.ix (.s 15) (.c (.int .i64 1))),
   ow 17 14 true (.bin .eql (.s 16) (.c (.int .u8 109))),
   ow 18 14 true (.mv (.s 17)),
   ow 19 18 false (.mv (.s 0)),
   ow 20 18 false (.ix (.s 19) (.c (.int .i64 1))),
   ow 21 18 false (.bin .eql (.s 20) (.c (.int .u8 77))),
   ow 22 14 true (.pick (.s 18) (.c (.bool true)) (.s 21)),
   oo 23 (.pick (.s 14) (.s 22) (.c (.bool false))),
   oo 24 (.mv (.s 23)),
   ow 25 24 true (.mv (.s 0)),
   ow 26 24 true (.ix (.s 25) (.c (.int .i64 2))),
   ow 27 24 true (.bin .eql (.s 26) (.c (.int .u8 108))),
   ow 28 24 true (.mv (.s 27)),
   ow 29 28 false (.mv (.s 0)),
   ow 30 28 false (.ix (.s 29) (.c (.int .i64 2))),
   ow 31 28 false (.bin .eql (.s 30) (.c (.int .u8 76))),
   ow 32 24 true (.pick (.s 28) (.c (.bool true)) (.s 31)),
   oo 33 (.pick (.s 24) (.s 32) (.c (.bool false))),
   oo 2 (.mv (.s 33))]))
  .ret)))⟩
def k_spec_IsBlank : F := ⟨17, [.tmp 2],
  (.seq (.h [.kill [2]] (.reg false [oo 2 (.mv (.c (.bool false)))]))
  (.seq (.h [.kill [0, 3, 4, 5, 6, 7, 8, 9, 10, 11, 12, 13, 14, 15, 16]] (.reg false [oo 3 (.mv (.s 0)),
   oo 4 (.bin .eql (.s 3) (.c (.int .i64 9))),
   oo 5 (.mv (.s 4)),
   ow 6 5 false (.mv (.s 0)),
   ow 7 5 false (.bin .eql (.s 6) (.c (.int .i64 10))),
   oo 8 (.pick (.s 5) (.c (.bool true)) (.s 7)),
   oo 9 (.mv (.s 8)),
   ow 10 9 false (.mv (.s 0)),
   ow 11 9 false (.bin .eql (.s 10) (.c (.int .i64 13))),
   oo 12 (.pick (.s 9) (.c (.bool true)) (.s 11)),
   oo 13 (.mv (.s 12)),
   ow 14 13 false (.mv (.s 0)),
   ow 15 13 false (.bin .eql (.s 14) (.c (.int .i64 32))),
   oo 16 (.pick (.s 13) (.c (.bool true)) (.s 15)),
   oo 2 (.mv (.s 16))]))
  .ret))⟩
def k_spec_l5AttrOk_r2 : K :=
  (.seq (.h [.kill [1, 31, 32, 33, 34, 35, 36, 37, 38, 39, 40, 41, 42, 43, 44, 45]] (.reg false [oo 32 (.fa 3 (.s 1)),
   oo 33 (.ld 1 false (.s 32)),
   oo 34 (.call n_spec_TextOk [] [] [(.s 33)]),
   oo 35 (.mv (.s 34)),
   ow 36 35 true (.fa 2 (.s 1)),
   ow 37 35 true (.ld 1 false (.s 36)),
   ow 38 35 true (.call n_spec_TextOk [] [] [(.s 37)]),
   oo 39 (.pick (.s 35) (.s 38) (.c (.bool false))),
   oo 40 (.mv (.s 39)),
   ow 41 40 true (.fa 2 (.s 1)),
   ow 42 40 true (.ld 1 false (.s 41)),
   ow 43 40 true (.len true (.s 42)),
   ow 44 40 true (.bin .leq (.s 43) (.c (.int .i64 40))),
   oo 45 (.pick (.s 40) (.s 44) (.c (.bool false))),
   oo 2 (.mv (.s 45))]))
  .ret)
def k_spec_l5AttrOk : F := ⟨46, [.tmp 2],
  (.seq (.h [.kill [0, 2]] (.reg false [oo 1 (.box (.s 0)),
   oo 2 (.mv (.c (.bool false)))]))
  (.seq (.h [.kill [31], .clean []] (.seq (.h [.kill [3, 4, 5, 6, 7, 8, 9, 10, 11, 12, 13, 14, 15, 16, 17, 18, 19, 20, 21, 22, 23, 24, 25, 26, 27, 28, 29, 30]] (.reg false [oo 3 (.fa 0 (.s 1)),
   oo 4 (.ld 1 false (.s 3)),
   oo 5 (.call n_spec_l5Pre [] [] [(.s 4)]),
   oo 6 (.un .not (.s 5)),
   oo 7 (.mv (.s 6)),
   ow 8 7 false (.fa 0 (.s 1)),
   ow 9 7 false (.ld 1 false (.s 8)),
   ow 10 7 false (.bin .eql (.s 9) (.c (.string ⟨#[]⟩))),
   ow 11 7 false (.fa 2 (.s 1)),
   ow 12 7 false (.ld 1 false (.s 11)),
   ow 13 7 false (.bin .eql (.s 12) (.c (.string ⟨#[]⟩))),
   ow 14 7 false (.beq true (.s 10) (.s 13)),
   oo 15 (.pick (.s 7) (.c (.bool true)) (.s 14)),
   oo 16 (.mv (.s 15)),
   ow 17 16 false (.fa 1 (.s 1)),
   ow 18 16 false (.ld 1 false (.s 17)),
   ow 19 16 false (.call n_spec_PlainOk [] [] [(.s 18)]),
   ow 20 16 false (.un .not (.s 19)),
   oo 21 (.pick (.s 16) (.c (.bool true)) (.s 20)),
   oo 22 (.mv (.s 21)),
   ow 23 22 false (.fa 0 (.s 1)),
   ow 24 22 false (.ld 1 false (.s 23)),
   ow 25 22 false (.bin .eql (.s 24) (.c (.string ⟨#[]⟩))),
   ow 26 22 false (.mv (.s 25)),
   ow 27 26 true (.fa 1 (.s 1)),
   ow 28 26 true (.ld 1 false (.s 27)),
   ow 29 26 true (.bin .eql (.s 28) (.c (.string ⟨#[120, 109, 108, 110, 115]⟩))),
   ow 30 22 false (.pick (.s 26) (.s 29) (.c (.bool false))),
   oo 31 (.pick (.s 22) (.c (.bool true)) (.s 30))]))
  (.cond (.s 31)
   (.seq (.h [.kill [1, 31]] (.reg false [oo 2 (.mv (.c (.bool false)))]))
   .ret)
   .skip)))
  k_spec_l5AttrOk_r2))⟩
def k_spec_l5Less : F := ⟨24, [.tmp 4],
  (.seq (.h [.kill [0, 1, 4]] (.reg false [oo 2 (.box (.s 0)),
   oo 3 (.box (.s 1)),
   oo 4 (.mv (.c (.bool false)))]))
  (.seq (.h [.kill [2, 3, 5, 6, 7, 8, 9, 10, 11, 12, 13, 14, 15, 16, 17, 18, 19, 20, 21, 22, 23]] (.reg false [oo 5 (.fa 2 (.s 2)),
   oo 6 (.ld 1 false (.s 5)),
   oo 7 (.fa 2 (.s 3)),
   oo 8 (.ld 1 false (.s 7)),
   oo 9 (.bin .lss (.s 6) (.s 8)),
   oo 10 (.mv (.s 9)),
   ow 11 10 false (.fa 2 (.s 2)),
   ow 12 10 false (.ld 1 false (.s 11)),
   ow 13 10 false (.fa 2 (.s 3)),
   ow 14 10 false (.ld 1 false (.s 13)),
   ow 15 10 false (.bin .eql (.s 12) (.s 14)),
   ow 16 10 false (.mv (.s 15)),
   ow 17 16 true (.fa 1 (.s 2)),
   ow 18 16 true (.ld 1 false (.s 17)),
   ow 19 16 true (.fa 1 (.s 3)),
   ow 20 16 true (.ld 1 false (.s 19)),
   ow 21 16 true (.bin .lss (.s 18) (.s 20)),
   ow 22 10 false (.pick (.s 16) (.s 21) (.c (.bool false))),
   oo 23 (.pick (.s 10) (.c (.bool true)) (.s 22)),
   oo 4 (.mv (.s 23))]))
  .ret))⟩
def k_impl_TextOk : F := ⟨10, [.tmp 2],
  (.seq (.h [.kill [2]] (.reg false [oo 2 (.mv (.c (.bool false)))]))
  (.seq (.h [.kill [0, 3, 4, 5, 6, 7, 8, 9]] (.reg false [oo 3 (.mv (.s 0)),
   oo 4 (.len true (.s 3)),
   oo 5 (.bin .leq (.s 4) (.c (.int .i64 600))),
   oo 6 (.mv (.s 5)),
   ow 7 6 true (.mv (.s 0)),
   ow 8 6 true (.call n_impl_signsOk [] [] [(.s 7)]),
   oo 9 (.pick (.s 6) (.s 8) (.c (.bool false))),
   oo 2 (.mv (.s 9))]))
  .ret))⟩
def k_impl_noteOk : F := ⟨20, [.tmp 2],
  (.seq (.h [.kill [2]] (.reg false [oo 2 (.mv (.c (.bool false)))]))
  (.seq (.h [.kill [0, 3, 4, 5, 6, 7, 8, 9, 10, 11, 12, 13, 14, 15, 16, 17, 18, 19]] (.reg false [oo 3 (.mv (.s 0)),
   oo 4 (.call n_impl_TextOk [] [] [(.s 3)]),
   oo 5 (.mv (.s 4)),
   ow 6 5 true (.mv (.s 0)),
   ow 7 5 true (.call n_strings_Contains [] [] [(.s 6), (.c (.string ⟨#[45, 45]⟩))]),
   ow 8 5 true (.un .not (.s 7)),
   oo 9 (.pick (.s 5) (.s 8) (.c (.bool false))),
   oo 10 (.mv (.s 9)),
   ow 11 10 true (.mv (.s 0)),
   ow 12 10 true (.call n_strings_HasSuffix [] [] [(.s 11), (.c (.string ⟨#[45]⟩))]),
   ow 13 10 true (.un .not (.s 12)),
   oo 14 (.pick (.s 10) (.s 13) (.c (.bool false))),
   oo 15 (.mv (.s 14)),
   ow 16 15 true (.mv (.s 0)),
   ow 17 15 true (.call n_strings_Contains [] [] [(.s 16), (.c (.string ⟨#[13]⟩))]),
   ow 18 15 true (.un .not (.s 17)),
   oo 19 (.pick (.s 15) (.s 18) (.c (.bool false))),
   oo 2 (.mv (.s 19))]))
  .ret))⟩
def k_impl_toldOk : F := ⟨34, [.tmp 4],
  (.seq (.h [.kill [4]] (.reg false [oo 4 (.mv (.c (.bool false)))]))
  (.seq (.seq (.h [.kill [0, 5, 6, 7, 8, 9, 10, 11, 12, 13, 14, 15, 16, 17, 18, 19, 20, 21, 22, 23]] (.reg false [oo 5 (.mv (.s 0)),
   oo 6 (.call n_impl_PlainOk [] [] [(.s 5)]),
   oo 7 (.un .not (.s 6)),
   oo 8 (.mv (.s 7)),
   ow 9 8 false (.mv (.s 0)),
   ow 10 8 false (.call n_strings_EqualFold [] [] [(.s 9), (.c (.string ⟨#[120, 109, 108]⟩))]),
   oo 11 (.pick (.s 8) (.c (.bool true)) (.s 10)),
   oo 12 (.mv (.s 11)),
   ow 13 12 false (.mv (.s 1)),
   ow 14 12 false (.call n_impl_TextOk [] [] [(.s 13)]),
   ow 15 12 false (.un .not (.s 14)),
   oo 16 (.pick (.s 12) (.c (.bool true)) (.s 15)),
   oo 17 (.mv (.s 16)),
   ow 18 17 false (.mv (.s 1)),
   ow 19 17 false (.call n_strings_Contains [] [] [(.s 18), (.c (.string ⟨#[63, 62]⟩))]),
   oo 20 (.pick (.s 17) (.c (.bool true)) (.s 19)),
   oo 21 (.mv (.s 20)),
   ow 22 21 false (.mv (.s 1)),
   ow 23 21 false (.call n_strings_Contains [] [] [(.s 22), (.c (.string ⟨#[13]⟩))]),
   oo 24 (.pick (.s 21) (.c (.bool true)) (.s 23))]))
  (.cond (.s 24)
   (.seq (.h [.kill [1, 24]] (.reg false [oo 4 (.mv (.c (.bool false)))]))
   .ret)
   .skip))
  (.seq (.h [.kill [1, 24, 25, 26, 27, 28, 29, 30, 31, 32, 33]] (.reg false [oo 25 (.mv (.s 1)),
   oo 26 (.bin .eql (.s 25) (.c (.string ⟨#[]⟩))),
   oo 27 (.mv (.s 26)),
   ow 28 27 false (.mv (.s 1)),
   ow 29 27 false (.ix (.s 28) (.c (.int .i64 0))),
   ow 30 27 false (.conv (.int .i64) (.s 29)),
   ow 31 27 false (.call n_impl_IsBlank [] [] [(.s 30)]),
   ow 32 27 false (.un .not (.s 31)),
   oo 33 (.pick (.s 27) (.c (.bool true)) (.s 32)),
   oo 4 (.mv (.s 33))]))
  .ret)))⟩
def k_strings_HasPrefix : F := ⟨8, [.tmp 4],
  (.seq (.h [.kill [4]] (.reg false [oo 4 (.mv (.c (.bool false)))]))
  (.seq (.h [.kill [0, 1, 5, 6, 7]] (.reg false [oo 5 (.mv (.s 0)),
   oo 6 (.mv (.s 1)),
   oo 7 (.call n_internal_stringslite_HasPrefix [] [] [(.s 5), (.s 6)]),
   oo 4 (.mv (.s 7))]))
  .ret))⟩
def k_impl_SignAt : F := ⟨33, [.tmp 4, .tmp 5, .tmp 6],
  (.seq (.h [.kill [4, 5, 6]] (.reg false [oo 4 (.mv (.c (.int .i64 0))),
   oo 5 (.mv (.c (.int .i64 0))),
   oo 6 (.mv (.c (.bool false)))]))
  (.seq (.seq (.h [.kill [9, 10, 11, 12, 13]] (.reg false [oo 9 (.mv (.s 1)),
   oo 10 (.mv (.s 0)),
   oo 11 (.len true (.s 10)),
   oo 12 (.bin .sub (.s 11) (.c (.int .i64 1))),
   oo 13 (.call n_impl_in [] [] [(.s 9), (.c (.int .i64 0)), (.s 12)]),
   oo 14 (.un .not (.s 13))]))
  (.cond (.s 14)
   (.seq (.h [.kill [0, 1, 14]] (.reg false [oo 4 (.mv (.c (.int .i64 0))),
    oo 5 (.mv (.c (.int .i64 0))),
    oo 6 (.mv (.c (.bool false)))]))
   .ret)
   .skip))
  (.seq (.h [.kill [0, 14, 15, 16, 17, 18, 19, 20, 21]] (.reg false [oo 16 (.mv (.s 0)),
   oo 17 (.mv (.s 1)),
   oo 18 (.slc 0 (.s 16) (some (.s 17)) none),
   oo 19 (.call n_unicode_utf8_DecodeRuneInString [] [] [(.s 18)]),
   oo 15 (.mv (.s 19)),
   oo 20 (.ext (.s 15) 0),
   oo 21 (.ext (.s 15) 1),
   oo 7 (.mv (.s 20)),
   oo 8 (.mv (.s 21))]))
  (.seq (.seq (.h [.kill [22, 23, 24, 25, 26]] (.reg false [oo 22 (.mv (.s 7)),
   oo 23 (.bin .eql (.s 22) (.c (.int .i32 65533))),
   oo 24 (.mv (.s 23)),
   ow 25 24 true (.mv (.s 8)),
   ow 26 24 true (.bin .leq (.s 25) (.c (.int .i64 1))),
   oo 27 (.pick (.s 24) (.s 26) (.c (.bool false)))]))
  (.cond (.s 27)
   (.seq (.h [.kill [1, 7, 8, 27]] (.reg false [oo 4 (.mv (.c (.int .i64 0))),
    oo 5 (.mv (.c (.int .i64 0))),
    oo 6 (.mv (.c (.bool false)))]))
   .ret)
   .skip))
  (.seq (.h [.kill [1, 7, 8, 27, 28, 29, 30, 31, 32]] (.reg false [oo 28 (.mv (.s 7)),
   oo 29 (.conv (.int .i64) (.s 28)),
   oo 30 (.mv (.s 1)),
   oo 31 (.mv (.s 8)),
   oo 32 (.bin .add (.s 30) (.s 31)),
   oo 4 (.mv (.s 29)),
   oo 5 (.mv (.s 32)),
   oo 6 (.mv (.c (.bool true)))]))
  .ret)))))⟩
def k_impl_IsStart : F := ⟨21, [.tmp 2],
  (.seq (.h [.kill [2]] (.reg false [oo 2 (.mv (.c (.bool false)))]))
  (.seq (.h [.kill [0, 3, 4, 5, 6, 7, 8, 9, 10, 11, 12, 13, 14, 15, 16, 17, 18, 19, 20]] (.reg false [oo 3 (.mv (.s 0)),
   oo 4 (.build [.v (.int .i64 0), .v (.int .i64 0)] [(0, 1, (.c (.int .i64 65))), (1, 1, (.c (.int .i64 90)))]),
   oo 5 (.build [.v (.int .i64 0), .v (.int .i64 0)] [(0, 1, (.c (.int .i64 95))), (1, 1, (.c (.int .i64 95)))]),
   oo 6 (.build [.v (.int .i64 0), .v (.int .i64 0)] [(0, 1, (.c (.int .i64 97))), (1, 1, (.c (.int .i64 122)))]),
   oo 7 (.build [.v (.int .i64 0), .v (.int .i64 0)] [(0, 1, (.c (.int .i64 192))), (1, 1, (.c (.int .i64 214)))]),
   oo 8 (.build [.v (.int .i64 0), .v (.int .i64 0)] [(0, 1, (.c (.int .i64 216))), (1, 1, (.c (.int .i64 246)))]),
   oo 9 (.build [.v (.int .i64 0), .v (.int .i64 0)] [(0, 1, (.c (.int .i64 248))), (1, 1, (.c (.int .i64 767)))]),
   oo 10 (.build [.v (.int .i64 0), .v (.int .i64 0)] [(0, 1, (.c (.int .i64 880))), (1, 1, (.c (.int .i64 893)))]),
   oo 11 (.build [.v (.int .i64 0), .v (.int .i64 0)] [(0, 1, (.c (.int .i64 895))), (1, 1, (.c (.int .i64 8191)))]),
   oo 12 (.build [.v (.int .i64 0), .v (.int .i64 0)] [(0, 1, (.c (.int .i64 8204))), (1, 1, (.c (.int .i64 8205)))]),
   oo 13 (.build [.v (.int .i64 0), .v (.int .i64 0)] [(0, 1, (.c (.int .i64 8304))), (1, 1, (.c (.int .i64 8591)))]),
   oo 14 (.build [.v (.int .i64 0), .v (.int .i64 0)] [(0, 1, (.c (.int .i64 11264))), (1, 1, (.c (.int .i64 12271)))]),
   oo 15 (.build [.v (.int .i64 0), .v (.int .i64 0)] [(0, 1, (.c (.int .i64 12289))), (1, 1, (.c (.int .i64 55295)))]),
   oo 16 (.build [.v (.int .i64 0), .v (.int .i64 0)] [(0, 1, (.c (.int .i64 63744))), (1, 1, (.c (.int .i64 64975)))]),
   oo 17 (.build [.v (.int .i64 0), .v (.int .i64 0)] [(0, 1, (.c (.int .i64 65008))), (1, 1, (.c (.int .i64 65533)))]),
   oo 18 (.build [.v (.int .i64 0), .v (.int .i64 0)] [(0, 1, (.c (.int .i64 65536))), (1, 1, (.c (.int .i64 983039)))]),
   oo 19 (.bsl 2 [(.s 4), (.s 5), (.s 6), (.s 7), (.s 8), (.s 9), (.s 10), (.s 11), (.s 12), (.s 13), (.s 14), (.s 15), (.s 16), (.s 17), (.s 18)]),
   oo 20 (.call n_impl_inAny [.val, .give] [] [(.s 3), (.s 19)]),
   oo 2 (.mv (.s 20))]))
  .ret))⟩
def k_impl_IsPart : F := ⟨15, [.tmp 2],
  (.seq (.h [.kill [2]] (.reg false [oo 2 (.mv (.c (.bool false)))]))
  (.seq (.h [.kill [0, 3, 4, 5, 6, 7, 8, 9, 10, 11, 12, 13, 14]] (.reg false [oo 3 (.mv (.s 0)),
   oo 4 (.call n_impl_IsStart [] [] [(.s 3)]),
   oo 5 (.mv (.s 4)),
   ow 6 5 false (.mv (.s 0)),
   ow 7 5 false (.build [.v (.int .i64 0), .v (.int .i64 0)] [(0, 1, (.c (.int .i64 45))), (1, 1, (.c (.int .i64 46)))]),
   ow 8 5 false (.build [.v (.int .i64 0), .v (.int .i64 0)] [(0, 1, (.c (.int .i64 48))), (1, 1, (.c (.int .i64 57)))]),
   ow 9 5 false (.build [.v (.int .i64 0), .v (.int .i64 0)] [(0, 1, (.c (.int .i64 183))), (1, 1, (.c (.int .i64 183)))]),
   ow 10 5 false (.build [.v (.int .i64 0), .v (.int .i64 0)] [(0, 1, (.c (.int .i64 768))), (1, 1, (.c (.int .i64 879)))]),
   ow 11 5 false (.build [.v (.int .i64 0), .v (.int .i64 0)] [(0, 1, (.c (.int .i64 8255))), (1, 1, (.c (.int .i64 8256)))]),
   ow 12 5 false (.bsl 2 [(.s 7), (.s 8), (.s 9), (.s 10), (.s 11)]),
   ow 13 5 false (.call n_impl_inAny [.val, .give] [] [(.s 6), (.s 12)]),
   oo 14 (.pick (.s 5) (.c (.bool true)) (.s 13)),
   oo 2 (.mv (.s 14))]))
  .ret))⟩
def k_impl_DeclOk : F := ⟨13, [.tmp 2],
  (.seq (.h [.kill [0, 2]] (.reg false [oo 1 (.box (.s 0)),
   oo 2 (.mv (.c (.bool false)))]))
  (.seq (.h [.kill [1, 3, 4, 5, 6, 7, 8, 9, 10, 11, 12]] (.reg false [oo 3 (.fa 0 (.s 1)),
   oo 4 (.ld 1 false (.s 3)),
   oo 5 (.call n_impl_preOk [] [] [(.s 4)]),
   oo 6 (.mv (.s 5)),
   ow 7 6 true (.fa 1 (.s 1)),
   ow 8 6 true (.ld 1 false (.s 7)),
   ow 9 6 true (.fa 0 (.s 1)),
   ow 10 6 true (.ld 1 false (.s 9)),
   ow 11 6 true (.call n_impl_uriOk [] [] [(.s 8), (.s 10)]),
   oo 12 (.pick (.s 6) (.s 11) (.c (.bool false))),
   oo 2 (.mv (.s 12))]))
  .ret))⟩
def k_impl_attrOk : F := ⟨44, [.tmp 2],
  (.seq (.h [.kill [0, 2]] (.reg false [oo 1 (.box (.s 0)),
   oo 2 (.mv (.c (.bool false)))]))
  (.seq (.seq (.h [.kill [3, 4, 5, 6, 7, 8, 9, 10, 11, 12, 13, 14, 15, 16, 17, 18, 19, 20, 21, 22, 23, 24, 25, 26, 27, 28, 29, 30, 31, 32, 33, 34]] (.reg false [oo 3 (.fa 0 (.s 1)),
   oo 4 (.ld 1 false (.s 3)),
   oo 5 (.call n_impl_preOk [] [] [(.s 4)]),
   oo 6 (.un .not (.s 5)),
   oo 7 (.mv (.s 6)),
   ow 8 7 false (.fa 0 (.s 1)),
   ow 9 7 false (.ld 1 false (.s 8)),
   ow 10 7 false (.bin .eql (.s 9) (.c (.string ⟨#[]⟩))),
   ow 11 7 false (.fa 2 (.s 1)),
   ow 12 7 false (.ld 1 false (.s 11)),
   ow 13 7 false (.bin .eql (.s 12) (.c (.string ⟨#[]⟩))),
   ow 14 7 false (.beq true (.s 10) (.s 13)),
   oo 15 (.pick (.s 7) (.c (.bool true)) (.s 14)),
   oo 16 (.mv (.s 15)),
   ow 17 16 false (.fa 2 (.s 1)),
   ow 18 16 false (.ld 1 false (.s 17)),
   ow 19 16 false (.fa 0 (.s 1)),
   ow 20 16 false (.ld 1 false (.s 19)),
   ow 21 16 false (.call n_impl_uriOk [] [] [(.s 18), (.s 20)]),
   ow 22 16 false (.un .not (.s 21)),
   oo 23 (.pick (.s 16) (.c (.bool true)) (.s 22)),
   oo 24 (.mv (.s 23)),
   ow 25 24 false (.fa 1 (.s 1)),
   ow 26 24 false (.ld 1 false (.s 25)),
   ow 27 24 false (.call n_impl_PlainOk [] [] [(.s 26)]),
   ow 28 24 false (.un .not (.s 27)),
   oo 29 (.pick (.s 24) (.c (.bool true)) (.s 28)),
   oo 30 (.mv (.s 29)),
   ow 31 30 false (.fa 3 (.s 1)),
   ow 32 30 false (.ld 1 false (.s 31)),
   ow 33 30 false (.call n_impl_TextOk [] [] [(.s 32)]),
   ow 34 30 false (.un .not (.s 33)),
   oo 35 (.pick (.s 30) (.c (.bool true)) (.s 34))]))
  (.cond (.s 35)
   (.seq (.h [.kill [1, 35]] (.reg false [oo 2 (.mv (.c (.bool false)))]))
   .ret)
   .skip))
  (.seq (.h [.kill [1, 35, 36, 37, 38, 39, 40, 41, 42, 43]] (.reg false [oo 36 (.fa 0 (.s 1)),
   oo 37 (.ld 1 false (.s 36)),
   oo 38 (.bin .neq (.s 37) (.c (.string ⟨#[]⟩))),
   oo 39 (.mv (.s 38)),
   ow 40 39 false (.fa 1 (.s 1)),
   ow 41 39 false (.ld 1 false (.s 40)),
   ow 42 39 false (.bin .neq (.s 41) (.c (.string ⟨#[120, 109, 108, 110, 115]⟩))),
   oo 43 (.pick (.s 39) (.c (.bool true)) (.s 42)),
   oo 2 (.mv (.s 43))]))
  .ret)))⟩
def k_impl_compareAttrs : F := ⟨19, [.tmp 4],
  (.seq (.h [.kill [0, 1, 4]] (.reg false [oo 2 (.box (.s 0)),
   oo 3 (.box (.s 1)),
   oo 4 (.mv (.c (.int .i64 0)))]))
  (.seq (.seq (.h [.kill [6, 7, 8, 9, 10]] (.reg false [oo 6 (.fa 2 (.s 2)),
   oo 7 (.ld 1 false (.s 6)),
   oo 8 (.fa 2 (.s 3)),
   oo 9 (.ld 1 false (.s 8)),
   oo 10 (.call n_strings_Compare [] [] [(.s 7), (.s 9)]),
   oo 5 (.mv (.s 10))]))
  (.seq (.h [.kill [11]] (.reg false [oo 11 (.mv (.s 5)),
   oo 12 (.bin .neq (.s 11) (.c (.int .i64 0)))]))
  (.cond (.s 12)
   (.seq (.h [.kill [2, 3, 5, 12, 13]] (.reg false [oo 13 (.mv (.s 5)),
    oo 4 (.mv (.s 13))]))
   .ret)
   .skip)))
  (.seq (.h [.kill [2, 3, 5, 12, 14, 15, 16, 17, 18]] (.reg false [oo 14 (.fa 1 (.s 2)),
   oo 15 (.ld 1 false (.s 14)),
   oo 16 (.fa 1 (.s 3)),
   oo 17 (.ld 1 false (.s 16)),
   oo 18 (.call n_strings_Compare [] [] [(.s 15), (.s 17)]),
   oo 4 (.mv (.s 18))]))
  .ret)))⟩
def k_slices_IndexFunc_Node_l6 : K :=
  (.h [.clean []] (.seq (.reg false [oo 9 (.bin .lss (.s 8) (.s 7))])
  (.seq (.cond (.s 9)
   .skip
   (.ex 0))
  (.seq (.blk 1
   (.seq (.h [.kill [9, 10]] (.reg false [oo 10 (.mv (.s 8)),
    oo 5 (.mv (.s 10))]))
   (.seq (.h [.kill [11, 12, 13, 14, 15]] (.reg false [oo 11 (.mv (.s 1)),
    oo 12 (.mv (.s 0)),
    oo 13 (.mv (.s 5)),
    oo 14 (.ia 8 (.s 12) (.s 13)),
    oo 15 (.ld 8 true (.s 14)),
    oo 16 (.callv (.s 11) [] [] [(.s 15)])]))
   (.cond (.s 16)
    (.seq (.h [.kill [0, 1, 5, 7, 8, 16, 17]] (.reg false [oo 17 (.mv (.s 5)),
     oo 4 (.mv (.s 17))]))
    .ret)
    .skip))))
  (.h [.kill [5, 16, 18]] (.reg false [oo 18 (.bin .add (.s 8) (.c (.int .i64 1))),
   oo 8 (.mv (.s 18))]))))))
def k_slices_IndexFunc_Node_r2 : K :=
  (.seq (.h [.kill [0, 1, 7, 8, 9]] (.reg false [oo 4 (.mv (.c (.int .i64 (-1))))]))
  .ret)
def k_slices_IndexFunc_Node : F := ⟨19, [.tmp 4],
  (.seq (.h [.kill [4]] (.reg false [oo 4 (.mv (.c (.int .i64 0)))]))
  (.seq (.seq (.h [.clean []] (.h [.kill [6]] (.reg false [oo 6 (.mv (.s 0)),
   oo 7 (.len false (.s 6)),
   oo 8 (.mv (.c (.int .i64 0)))])))
  (.blk 0
   (.loop k_slices_IndexFunc_Node_l6)))
  k_slices_IndexFunc_Node_r2))⟩
def k_spec_l4Xml : F := ⟨11, [.tmp 2],
  (.seq (.h [.kill [2]] (.reg false [oo 2 (.mv (.c (.bool false)))]))
  (.seq (.h [.kill [0, 3, 4, 5, 6, 7, 8, 9, 10]] (.reg false [oo 3 (.mv (.s 0)),
   oo 4 (.len true (.s 3)),
   oo 5 (.bin .geq (.s 4) (.c (.int .i64 3))),
   oo 6 (.mv (.s 5)),
   ow 7 6 true (.mv (.s 0)),
   ow 8 6 true (.slc 0 (.s 7) none (some (.c (.int .i64 3)))),
   ow 9 6 true (.bin .eql (.s 8) (.c (.string ⟨#[120, 109, 108]⟩))),
   oo 10 (.pick (.s 6) (.s 9) (.c (.bool false))),
   oo 2 (.mv (.s 10))]))
  .ret))⟩
def k_spec_SignAt_r32 : K :=
  (.cond (.s 39)
   (.h [.kill [7, 39, 46, 47]] (.reg false [oo 46 (.mv (.s 7)),
    oo 47 (.bin .and (.s 46) (.c (.int .i64 15))),
    oo 8 (.mv (.c (.int .i64 2))),
    oo 9 (.mv (.c (.int .i64 2048))),
    oo 10 (.mv (.s 47))]))
   (.seq (.h [.kill [39, 49, 50, 51, 52, 53, 54]] (.reg false [oo 49 (.mv (.s 7)),
    oo 50 (.bin .geq (.s 49) (.c (.int .i64 240))),
    oo 51 (.mv (.s 50)),
    ow 52 51 true (.mv (.s 7)),
    ow 53 51 true (.bin .lss (.s 52) (.c (.int .i64 248))),
    oo 54 (.pick (.s 51) (.s 53) (.c (.bool false))),
    oo 48 (.mv (.s 54))]))
   (.cond (.s 48)
    (.h [.kill [7, 48, 55, 56]] (.reg false [oo 55 (.mv (.s 7)),
     oo 56 (.bin .and (.s 55) (.c (.int .i64 7))),
     oo 8 (.mv (.c (.int .i64 3))),
     oo 9 (.mv (.c (.int .i64 65536))),
     oo 10 (.mv (.s 56))]))
    (.seq (.h [.kill [0, 1, 7, 48]] (.reg false [oo 4 (.mv (.c (.int .i64 0))),
     oo 5 (.mv (.c (.int .i64 0))),
     oo 6 (.mv (.c (.bool false)))]))
    .ret))))
def k_spec_SignAt_r28 : K :=
  (.cond (.s 30)
   (.h [.kill [7, 30, 37, 38]] (.reg false [oo 37 (.mv (.s 7)),
    oo 38 (.bin .and (.s 37) (.c (.int .i64 31))),
    oo 8 (.mv (.c (.int .i64 1))),
    oo 9 (.mv (.c (.int .i64 128))),
    oo 10 (.mv (.s 38))]))
   (.seq (.h [.clean []] (.h [.kill [30, 40, 41, 42, 43, 44, 45]] (.reg false [oo 40 (.mv (.s 7)),
    oo 41 (.bin .geq (.s 40) (.c (.int .i64 224))),
    oo 42 (.mv (.s 41)),
    ow 43 42 true (.mv (.s 7)),
    ow 44 42 true (.bin .lss (.s 43) (.c (.int .i64 240))),
    oo 45 (.pick (.s 42) (.s 44) (.c (.bool false))),
    oo 39 (.mv (.s 45))])))
   k_spec_SignAt_r32))
def k_spec_SignAt_l55 : K :=
  (.h [.clean []] (.seq (.seq (.h [.kill [64, 65]] (.reg false [oo 64 (.mv (.s 11)),
   oo 65 (.mv (.s 8)),
   oo 66 (.bin .leq (.s 64) (.s 65))]))
  (.cond (.s 66)
   .skip
   (.ex 1)))
  (.seq (.blk 2
   (.seq (.h [.kill [66, 69, 70, 71, 72, 73, 74]] (.reg false [oo 69 (.mv (.s 0)),
    oo 70 (.mv (.s 1)),
    oo 71 (.mv (.s 11)),
    oo 72 (.bin .add (.s 70) (.s 71)),
    oo 73 (.ix (.s 69) (.s 72)),
    oo 74 (.conv (.int .i64) (.s 73)),
    oo 12 (.mv (.s 74))]))
   (.seq (.seq (.h [.kill [75, 76, 77, 78, 79]] (.reg false [oo 75 (.mv (.s 12)),
    oo 76 (.bin .lss (.s 75) (.c (.int .i64 128))),
    oo 77 (.mv (.s 76)),
    ow 78 77 false (.mv (.s 12)),
    ow 79 77 false (.bin .gtr (.s 78) (.c (.int .i64 191))),
    oo 80 (.pick (.s 77) (.c (.bool true)) (.s 79))]))
   (.cond (.s 80)
    (.seq (.h [.kill [0, 1, 8, 9, 10, 11, 12, 80]] (.reg false [oo 4 (.mv (.c (.int .i64 0))),
     oo 5 (.mv (.c (.int .i64 0))),
     oo 6 (.mv (.c (.bool false)))]))
    .ret)
    .skip))
   (.h [.kill [12, 80, 81, 82, 83, 84, 85]] (.reg false [oo 81 (.mv (.s 10)),
    oo 82 (.bin .mul (.s 81) (.c (.int .i64 64))),
    oo 83 (.mv (.s 12)),
    oo 84 (.bin .add (.s 82) (.s 83)),
    oo 85 (.bin .sub (.s 84) (.c (.int .i64 128))),
    oo 10 (.mv (.s 85))])))))
  (.h [.kill [67, 68]] (.reg false [oo 67 (.mv (.s 11)),
   oo 68 (.bin .add (.s 67) (.c (.int .i64 1))),
   oo 11 (.mv (.s 68))])))))
def k_spec_SignAt_r51 : K :=
  (.seq (.seq (.h [.kill [0, 9, 11, 66, 86, 87, 88, 89, 90, 91, 92, 93, 94, 95]] (.reg false [oo 86 (.mv (.s 10)),
   oo 87 (.mv (.s 9)),
   oo 88 (.bin .lss (.s 86) (.s 87)),
   oo 89 (.mv (.s 88)),
   ow 90 89 false (.mv (.s 10)),
   ow 91 89 false (.bin .gtr (.s 90) (.c (.int .i64 1114111))),
   oo 92 (.pick (.s 89) (.c (.bool true)) (.s 91)),
   oo 93 (.mv (.s 92)),
   ow 94 93 false (.mv (.s 10)),
   ow 95 93 false (.call n_spec_l1In [] [] [(.s 94), (.c (.int .i64 55296)), (.c (.int .i64 57343))]),
   oo 96 (.pick (.s 93) (.c (.bool true)) (.s 95))]))
  (.cond (.s 96)
   (.seq (.h [.kill [1, 8, 10, 96]] (.reg false [oo 4 (.mv (.c (.int .i64 0))),
    oo 5 (.mv (.c (.int .i64 0))),
    oo 6 (.mv (.c (.bool false)))]))
   .ret)
   .skip))
  (.seq (.h [.kill [1, 8, 10, 96, 97, 98, 99, 100, 101]] (.reg false [oo 97 (.mv (.s 10)),
   oo 98 (.mv (.s 1)),
   oo 99 (.bin .add (.s 98) (.c (.int .i64 1))),
   oo 100 (.mv (.s 8)),
   oo 101 (.bin .add (.s 99) (.s 100)),
   oo 4 (.mv (.s 97)),
   oo 5 (.mv (.s 101)),
   oo 6 (.mv (.c (.bool true)))]))
  .ret))
def k_spec_SignAt_r26 : K :=
  (.seq (.seq (.h [.kill [57, 58, 59, 60, 61, 62]] (.reg false [oo 57 (.mv (.s 1)),
   oo 58 (.mv (.s 0)),
   oo 59 (.len true (.s 58)),
   oo 60 (.bin .sub (.s 59) (.c (.int .i64 1))),
   oo 61 (.mv (.s 8)),
   oo 62 (.bin .sub (.s 60) (.s 61)),
   oo 63 (.bin .gtr (.s 57) (.s 62))]))
  (.cond (.s 63)
   (.seq (.h [.kill [0, 1, 8, 9, 10, 63]] (.reg false [oo 4 (.mv (.c (.int .i64 0))),
    oo 5 (.mv (.c (.int .i64 0))),
    oo 6 (.mv (.c (.bool false)))]))
   .ret)
   .skip))
  (.seq (.seq (.h [.clean []] (.h [.kill [63]] (.reg false [oo 11 (.mv (.c (.int .i64 1)))])))
  (.blk 1
   (.loop k_spec_SignAt_l55)))
  k_spec_SignAt_r51))
def k_spec_SignAt : F := ⟨102, [.tmp 4, .tmp 5, .tmp 6],
  (.seq (.h [.kill [4, 5, 6]] (.reg false [oo 4 (.mv (.c (.int .i64 0))),
   oo 5 (.mv (.c (.int .i64 0))),
   oo 6 (.mv (.c (.bool false)))]))
  (.seq (.seq (.h [.kill [13, 14, 15, 16, 17, 18, 19]] (.reg false [oo 13 (.mv (.s 1)),
   oo 14 (.bin .lss (.s 13) (.c (.int .i64 0))),
   oo 15 (.mv (.s 14)),
   ow 16 15 false (.mv (.s 1)),
   ow 17 15 false (.mv (.s 0)),
   ow 18 15 false (.len true (.s 17)),
   ow 19 15 false (.bin .geq (.s 16) (.s 18)),
   oo 20 (.pick (.s 15) (.c (.bool true)) (.s 19))]))
  (.cond (.s 20)
   (.seq (.h [.kill [0, 1, 20]] (.reg false [oo 4 (.mv (.c (.int .i64 0))),
    oo 5 (.mv (.c (.int .i64 0))),
    oo 6 (.mv (.c (.bool false)))]))
   .ret)
   .skip))
  (.seq (.h [.kill [20, 21, 22, 23, 24]] (.reg false [oo 21 (.mv (.s 0)),
   oo 22 (.mv (.s 1)),
   oo 23 (.ix (.s 21) (.s 22)),
   oo 24 (.conv (.int .i64) (.s 23)),
   oo 7 (.mv (.s 24))]))
  (.seq (.seq (.h [.kill [25]] (.reg false [oo 25 (.mv (.s 7)),
   oo 26 (.bin .lss (.s 25) (.c (.int .i64 128)))]))
  (.cond (.s 26)
   (.seq (.h [.kill [0, 1, 7, 26, 27, 28, 29]] (.reg false [oo 27 (.mv (.s 7)),
    oo 28 (.mv (.s 1)),
    oo 29 (.bin .add (.s 28) (.c (.int .i64 1))),
    oo 4 (.mv (.s 27)),
    oo 5 (.mv (.s 29)),
    oo 6 (.mv (.c (.bool true)))]))
   .ret)
   .skip))
  (.seq (.h [.kill [8, 26]] (.reg false [oo 8 (.mv (.c (.int .i64 0)))]))
  (.seq (.h [.kill [9]] (.reg false [oo 9 (.mv (.c (.int .i64 0)))]))
  (.seq (.h [.kill [10]] (.reg false [oo 10 (.mv (.c (.int .i64 0)))]))
  (.seq (.h [.clean []] (.blk 0
   (.seq (.h [.clean []] (.h [.kill [31, 32, 33, 34, 35, 36]] (.reg false [oo 31 (.mv (.s 7)),
    oo 32 (.bin .geq (.s 31) (.c (.int .i64 192))),
    oo 33 (.mv (.s 32)),
    ow 34 33 true (.mv (.s 7)),
    ow 35 33 true (.bin .lss (.s 34) (.c (.int .i64 224))),
    oo 36 (.pick (.s 33) (.s 35) (.c (.bool false))),
    oo 30 (.mv (.s 36))])))
   k_spec_SignAt_r28)))
  k_spec_SignAt_r26))))))))⟩
def k_spec_IsStart : F := ⟨6, [.tmp 2],
  (.seq (.h [.kill [2]] (.reg false [oo 2 (.mv (.c (.bool false)))]))
  (.seq (.h [.kill [0, 3, 4, 5]] (.reg false [oo 3 (.mv (.s 0)),
   oo 4 (.bsl 1 [(.c (.int .i64 65)), (.c (.int .i64 90)), (.c (.int .i64 95)), (.c (.int .i64 95)), (.c (.int .i64 97)), (.c (.int .i64 122)), (.c (.int .i64 192)), (.c (.int .i64 214)), (.c (.int .i64 216)), (.c (.int .i64 246)), (.c (.int .i64 248)), (.c (.int .i64 767)), (.c (.int .i64 880)), (.c (.int .i64 893)), (.c (.int .i64 895)), (.c (.int .i64 8191)), (.c (.int .i64 8204)), (.c (.int .i64 8205)), (.c (.int .i64 8304)), (.c (.int .i64 8591)), (.c (.int .i64 11264)), (.c (.int .i64 12271)), (.c (.int .i64 12289)), (.c (.int .i64 55295)), (.c (.int .i64 63744)), (.c (.int .i64 64975)), (.c (.int .i64 65008)), (.c (.int .i64 65533)), (.c (.int .i64 65536)), (.c (.int .i64 983039))]),
   oo 5 (.call n_spec_l1Ranges [.val, .give] [] [(.s 3), (.s 4)]),
   oo 2 (.mv (.s 5))]))
  .ret))⟩
def k_spec_IsPart : F := ⟨10, [.tmp 2],
  (.seq (.h [.kill [2]] (.reg false [oo 2 (.mv (.c (.bool false)))]))
  (.seq (.h [.kill [0, 3, 4, 5, 6, 7, 8, 9]] (.reg false [oo 3 (.mv (.s 0)),
   oo 4 (.call n_spec_IsStart [] [] [(.s 3)]),
   oo 5 (.mv (.s 4)),
   ow 6 5 false (.mv (.s 0)),
   ow 7 5 false (.bsl 1 [(.c (.int .i64 45)), (.c (.int .i64 46)), (.c (.int .i64 48)), (.c (.int .i64 57)), (.c (.int .i64 183)), (.c (.int .i64 183)), (.c (.int .i64 768)), (.c (.int .i64 879)), (.c (.int .i64 8255)), (.c (.int .i64 8256))]),
   ow 8 5 false (.call n_spec_l1Ranges [.val, .give] [] [(.s 6), (.s 7)]),
   oo 9 (.pick (.s 5) (.c (.bool true)) (.s 8)),
   oo 2 (.mv (.s 9))]))
  .ret))⟩
def k_spec_l1Signs_l6 : K :=
  (.h [.clean []] (.seq (.seq (.h [.kill [7, 8, 9]] (.reg false [oo 7 (.mv (.s 3)),
   oo 8 (.mv (.s 0)),
   oo 9 (.len true (.s 8)),
   oo 10 (.bin .lss (.s 7) (.s 9))]))
  (.cond (.s 10)
   .skip
   (.ex 0)))
  (.blk 1
   (.seq (.h [.kill [3, 10, 11, 12, 13, 14, 15, 16, 17]] (.reg false [oo 12 (.mv (.s 0)),
    oo 13 (.mv (.s 3)),
    oo 14 (.call n_spec_SignAt [] [] [(.s 12), (.s 13)]),
    oo 11 (.mv (.s 14)),
    oo 15 (.ext (.s 11) 0),
    oo 16 (.ext (.s 11) 1),
    oo 17 (.ext (.s 11) 2),
    oo 4 (.mv (.s 15)),
    oo 5 (.mv (.s 16)),
    oo 6 (.mv (.s 17))]))
   (.seq (.seq (.h [.kill [4, 6, 18, 19, 20, 21, 22, 23]] (.reg false [oo 18 (.mv (.s 6)),
    oo 19 (.un .not (.s 18)),
    oo 20 (.mv (.s 19)),
    ow 21 20 false (.mv (.s 4)),
    ow 22 20 false (.call n_spec_IsSign [] [] [(.s 21)]),
    ow 23 20 false (.un .not (.s 22)),
    oo 24 (.pick (.s 20) (.c (.bool true)) (.s 23))]))
   (.cond (.s 24)
    (.seq (.h [.kill [0, 5, 24]] (.reg false [oo 2 (.mv (.c (.bool false)))]))
    .ret)
    .skip))
   (.h [.kill [5, 24, 25]] (.reg false [oo 25 (.mv (.s 5)),
    oo 3 (.mv (.s 25))])))))))
def k_spec_l1Signs_r2 : K :=
  (.seq (.h [.kill [0, 3, 10, 26, 27, 28]] (.reg false [oo 26 (.mv (.s 0)),
   oo 27 (.len true (.s 26)),
   oo 28 (.bin .leq (.s 27) (.c (.int .i64 1500))),
   oo 2 (.mv (.s 28))]))
  .ret)
def k_spec_l1Signs : F := ⟨29, [.tmp 2],
  (.seq (.h [.kill [2]] (.reg false [oo 2 (.mv (.c (.bool false)))]))
  (.seq (.seq (.h [.clean []] (.reg false [oo 3 (.mv (.c (.int .i64 0)))]))
  (.blk 0
   (.loop k_spec_l1Signs_l6)))
  k_spec_l1Signs_r2))⟩
def k_spec_DeclOk_r2 : K :=
  (.seq (.h [.kill [1, 21, 22, 23, 24, 25, 26, 27, 28, 29, 30]] (.reg false [oo 22 (.fa 1 (.s 1)),
   oo 23 (.ld 1 false (.s 22)),
   oo 24 (.call n_spec_TextOk [] [] [(.s 23)]),
   oo 25 (.mv (.s 24)),
   ow 26 25 true (.fa 1 (.s 1)),
   ow 27 25 true (.ld 1 false (.s 26)),
   ow 28 25 true (.len true (.s 27)),
   ow 29 25 true (.bin .leq (.s 28) (.c (.int .i64 40))),
   oo 30 (.pick (.s 25) (.s 29) (.c (.bool false))),
   oo 2 (.mv (.s 30))]))
  .ret)
def k_spec_DeclOk : F := ⟨31, [.tmp 2],
  (.seq (.h [.kill [0, 2]] (.reg false [oo 1 (.box (.s 0)),
   oo 2 (.mv (.c (.bool false)))]))
  (.seq (.h [.kill [21], .clean []] (.seq (.h [.kill [3, 4, 5, 6, 7, 8, 9, 10, 11, 12, 13, 14, 15, 16, 17, 18, 19, 20]] (.reg false [oo 3 (.fa 0 (.s 1)),
   oo 4 (.ld 1 false (.s 3)),
   oo 5 (.bin .neq (.s 4) (.c (.string ⟨#[]⟩))),
   oo 6 (.mv (.s 5)),
   ow 7 6 true (.fa 0 (.s 1)),
   ow 8 6 true (.ld 1 false (.s 7)),
   ow 9 6 true (.call n_spec_PlainOk [] [] [(.s 8)]),
   ow 10 6 true (.un .not (.s 9)),
   ow 11 6 true (.mv (.s 10)),
   ow 12 11 false (.fa 0 (.s 1)),
   ow 13 11 false (.ld 1 false (.s 12)),
   ow 14 11 false (.call n_spec_l4Xml [] [] [(.s 13)]),
   ow 15 6 true (.pick (.s 11) (.c (.bool true)) (.s 14)),
   ow 16 6 true (.mv (.s 15)),
   ow 17 16 false (.fa 1 (.s 1)),
   ow 18 16 false (.ld 1 false (.s 17)),
   ow 19 16 false (.bin .eql (.s 18) (.c (.string ⟨#[]⟩))),
   ow 20 6 true (.pick (.s 16) (.c (.bool true)) (.s 19)),
   oo 21 (.pick (.s 6) (.s 20) (.c (.bool false)))]))
  (.cond (.s 21)
   (.seq (.h [.kill [1, 21]] (.reg false [oo 2 (.mv (.c (.bool false)))]))
   .ret)
   .skip)))
  k_spec_DeclOk_r2))⟩
def k_impl_signsOk_l6 : K :=
  (.h [.clean []] (.seq (.seq (.h [.kill [7, 8, 9]] (.reg false [oo 7 (.mv (.s 3)),
   oo 8 (.mv (.s 0)),
   oo 9 (.len true (.s 8)),
   oo 10 (.bin .lss (.s 7) (.s 9))]))
  (.cond (.s 10)
   .skip
   (.ex 0)))
  (.blk 1
   (.seq (.h [.kill [3, 10, 11, 12, 13, 14, 15, 16, 17]] (.reg false [oo 12 (.mv (.s 0)),
    oo 13 (.mv (.s 3)),
    oo 14 (.call n_impl_SignAt [] [] [(.s 12), (.s 13)]),
    oo 11 (.mv (.s 14)),
    oo 15 (.ext (.s 11) 0),
    oo 16 (.ext (.s 11) 1),
    oo 17 (.ext (.s 11) 2),
    oo 4 (.mv (.s 15)),
    oo 5 (.mv (.s 16)),
    oo 6 (.mv (.s 17))]))
   (.seq (.seq (.h [.kill [4, 6, 18, 19, 20, 21, 22, 23]] (.reg false [oo 18 (.mv (.s 6)),
    oo 19 (.un .not (.s 18)),
    oo 20 (.mv (.s 19)),
    ow 21 20 false (.mv (.s 4)),
    ow 22 20 false (.call n_impl_IsSign [] [] [(.s 21)]),
    ow 23 20 false (.un .not (.s 22)),
    oo 24 (.pick (.s 20) (.c (.bool true)) (.s 23))]))
   (.cond (.s 24)
    (.seq (.h [.kill [0, 5, 24]] (.reg false [oo 2 (.mv (.c (.bool false)))]))
    .ret)
    .skip))
   (.h [.kill [5, 24, 25]] (.reg false [oo 25 (.mv (.s 5)),
    oo 3 (.mv (.s 25))])))))))
def k_impl_signsOk_r2 : K :=
  (.seq (.h [.kill [0, 3, 10]] (.reg false [oo 2 (.mv (.c (.bool true)))]))
  .ret)
def k_impl_signsOk : F := ⟨26, [.tmp 2],
  (.seq (.h [.kill [2]] (.reg false [oo 2 (.mv (.c (.bool false)))]))
  (.seq (.seq (.h [.clean []] (.reg false [oo 3 (.mv (.c (.int .i64 0)))]))
  (.blk 0
   (.loop k_impl_signsOk_l6)))
  k_impl_signsOk_r2))⟩
def k_strings_HasSuffix : F := ⟨8, [.tmp 4],
  (.seq (.h [.kill [4]] (.reg false [oo 4 (.mv (.c (.bool false)))]))
  (.seq (.h [.kill [0, 1, 5, 6, 7]] (.reg false [oo 5 (.mv (.s 0)),
   oo 6 (.mv (.s 1)),
   oo 7 (.call n_internal_stringslite_HasSuffix [] [] [(.s 5), (.s 6)]),
   oo 4 (.mv (.s 7))]))
  .ret))⟩
def k_impl_IsBlank : F := ⟨17, [.tmp 2],
  (.seq (.h [.kill [2]] (.reg false [oo 2 (.mv (.c (.bool false)))]))
  (.seq (.h [.kill [0, 3, 4, 5, 6, 7, 8, 9, 10, 11, 12, 13, 14, 15, 16]] (.reg false [oo 3 (.mv (.s 0)),
   oo 4 (.bin .eql (.s 3) (.c (.int .i64 9))),
   oo 5 (.mv (.s 4)),
   ow 6 5 false (.mv (.s 0)),
   ow 7 5 false (.bin .eql (.s 6) (.c (.int .i64 10))),
   oo 8 (.pick (.s 5) (.c (.bool true)) (.s 7)),
   oo 9 (.mv (.s 8)),
   ow 10 9 false (.mv (.s 0)),
   ow 11 9 false (.bin .eql (.s 10) (.c (.int .i64 13))),
   oo 12 (.pick (.s 9) (.c (.bool true)) (.s 11)),
   oo 13 (.mv (.s 12)),
   ow 14 13 false (.mv (.s 0)),
   ow 15 13 false (.bin .eql (.s 14) (.c (.int .i64 32))),
   oo 16 (.pick (.s 13) (.c (.bool true)) (.s 15)),
   oo 2 (.mv (.s 16))]))
  .ret))⟩
def k_internal_stringslite_HasPrefix : F := ⟨18, [.tmp 4],
  (.seq (.h [.kill [4]] (.reg false [oo 4 (.mv (.c (.bool false)))]))
  (.seq (.h [.kill [0, 1, 5, 6, 7, 8, 9, 10, 11, 12, 13, 14, 15, 16, 17]] (.reg false [oo 5 (.mv (.s 0)),
   oo 6 (.len true (.s 5)),
   oo 7 (.mv (.s 1)),
   oo 8 (.len true (.s 7)),
   oo 9 (.bin .geq (.s 6) (.s 8)),
   oo 10 (.mv (.s 9)),
   ow 11 10 true (.mv (.s 0)),
   ow 12 10 true (.mv (.s 1)),
   ow 13 10 true (.len true (.s 12)),
   ow 14 10 true (.slc 0 (.s 11) none (some (.s 13))),
   ow 15 10 true (.mv (.s 1)),
   ow 16 10 true (.bin .eql (.s 14) (.s 15)),
   oo 17 (.pick (.s 10) (.s 16) (.c (.bool false))),
   oo 4 (.mv (.s 17))]))
  .ret))⟩
def k_impl_inAny : F := ⟨8, [.tmp 4],
  (.seq (.h [.kill [0, 4]] (.reg false [oo 2 (.box (.s 0)),
   oo 4 (.mv (.c (.bool false)))]))
  (.seq (.h [.kill [1, 2, 5, 6, 7]] (.reg false [oo 5 (.mv (.s 1)),
   oo 6 (.mkf n_impl_inAny_1 [(.s 2)]),
   oo 7 (.call n_slices_ContainsFunc_A2int [] [] [(.s 5), (.s 6)]),
   oo 4 (.mv (.s 7))]))
  .ret))⟩
def k_impl_kidsOk_1 : F := ⟨8, [.tmp 3],
  (.seq (.h [.kill [0, 3]] (.reg false [oo 2 (.box (.s 0)),
   oo 3 (.mv (.c (.bool false)))]))
  (.seq (.h [.kill [1, 2, 4, 5, 6, 7]] (.reg false [oo 4 (.ld 8 true (.s 2)),
   oo 5 (.ld 1 false (.s 1)),
   oo 6 (.call n_impl_partOk [] [] [(.s 4), (.s 5)]),
   oo 7 (.un .not (.s 6)),
   oo 3 (.mv (.s 7))]))
  .ret))⟩
def k_spec_l1Ranges_l6 : K :=
  (.h [.clean []] (.seq (.seq (.h [.kill [6, 7, 8, 9]] (.reg false [oo 6 (.mv (.s 5)),
   oo 7 (.bin .add (.s 6) (.c (.int .i64 1))),
   oo 8 (.mv (.s 1)),
   oo 9 (.len false (.s 8)),
   oo 10 (.bin .lss (.s 7) (.s 9))]))
  (.cond (.s 10)
   .skip
   (.ex 0)))
  (.seq (.blk 1
   (.seq (.h [.kill [10, 13, 14, 15, 16, 17, 18, 19, 20, 21, 22]] (.reg true [⟨some 13, none, .mv (.s 0), [], []⟩,
    ⟨some 14, none, .mv (.s 1), [], []⟩,
    ⟨some 15, none, .mv (.s 5), [], []⟩,
    ⟨some 16, none, .ia 1 (.s 14) (.s 15), [1], []⟩,
    ⟨some 17, none, .ld 1 false (.s 16), [1], []⟩,
    ⟨some 18, none, .mv (.s 1), [], []⟩,
    ⟨some 19, none, .mv (.s 5), [], []⟩,
    ⟨some 20, none, .bin .add (.s 19) (.c (.int .i64 1)), [], []⟩,
    ⟨some 21, none, .ia 1 (.s 18) (.s 20), [1], []⟩,
    ⟨some 22, none, .ld 1 false (.s 21), [1], []⟩,
    ⟨some 23, none, .call n_spec_l1In [] [] [(.s 13), (.s 17), (.s 22)], [0, 1], []⟩]))
   (.cond (.s 23)
    (.seq (.h [.kill [0, 1, 5, 23]] (.reg false [oo 4 (.mv (.c (.bool true)))]))
    .ret)
    .skip)))
  (.h [.kill [11, 12, 23]] (.reg false [oo 11 (.mv (.s 5)),
   oo 12 (.bin .add (.s 11) (.c (.int .i64 2))),
   oo 5 (.mv (.s 12))])))))
def k_spec_l1Ranges_r2 : K :=
  (.seq (.h [.kill [0, 1, 5, 10]] (.reg false [oo 4 (.mv (.c (.bool false)))]))
  .ret)
def k_spec_l1Ranges : F := ⟨24, [.tmp 4],
  (.seq (.h [.kill [4]] (.reg false [oo 4 (.mv (.c (.bool false)))]))
  (.seq (.seq (.h [.clean []] (.reg false [oo 5 (.mv (.c (.int .i64 0)))]))
  (.blk 0
   (.loop k_spec_l1Ranges_l6)))
  k_spec_l1Ranges_r2))⟩
def k_spec_IsSign : F := ⟨25, [.tmp 2],
  (.seq (.h [.kill [2]] (.reg false [oo 2 (.mv (.c (.bool false)))]))
  (.seq (.h [.kill [0, 3, 4, 5, 6, 7, 8, 9, 10, 11, 12, 13, 14, 15, 16, 17, 18, 19, 20, 21, 22, 23, 24]] (.reg false [oo 3 (.mv (.s 0)),
   oo 4 (.bin .eql (.s 3) (.c (.int .i64 9))),
   oo 5 (.mv (.s 4)),
   ow 6 5 false (.mv (.s 0)),
   ow 7 5 false (.bin .eql (.s 6) (.c (.int .i64 10))),
   oo 8 (.pick (.s 5) (.c (.bool true)) (.s 7)),
   oo 9 (.mv (.s 8)),
   ow 10 9 false (.mv (.s 0)),
   ow 11 9 false (.bin .eql (.s 10) (.c (.int .i64 13))),
   oo 12 (.pick (.s 9) (.c (.bool true)) (.s 11)),
   oo 13 (.mv (.s 12)),
   ow 14 13 false (.mv (.s 0)),
   ow 15 13 false (.call n_spec_l1In [] [] [(.s 14), (.c (.int .i64 32)), (.c (.int .i64 55295))]),
   oo 16 (.pick (.s 13) (.c (.bool true)) (.s 15)),
   oo 17 (.mv (.s 16)),
   ow 18 17 false (.mv (.s 0)),
   ow 19 17 false (.call n_spec_l1In [] [] [(.s 18), (.c (.int .i64 57344)), (.c (.int .i64 65533))]),
   oo 20 (.pick (.s 17) (.c (.bool true)) (.s 19)),
   oo 21 (.mv (.s 20)),
   ow 22 21 false (.mv (.s 0)),
   ow 23 21 false (.call n_spec_l1In [] [] [(.s 22), (.c (.int .i64 65536)), (.c (.int .i64 1114111))]),
   oo 24 (.pick (.s 21) (.c (.bool true)) (.s 23)),
   oo 2 (.mv (.s 24))]))
  .ret))⟩
def k_impl_IsSign : F := ⟨11, [.tmp 2],
  (.seq (.h [.kill [2]] (.reg false [oo 2 (.mv (.c (.bool false)))]))
  (.seq (.h [.kill [0, 3, 4, 5, 6, 7, 8, 9, 10]] (.reg false [oo 3 (.mv (.s 0)),
   oo 4 (.build [.v (.int .i64 0), .v (.int .i64 0)] [(0, 1, (.c (.int .i64 9))), (1, 1, (.c (.int .i64 10)))]),
   oo 5 (.build [.v (.int .i64 0), .v (.int .i64 0)] [(0, 1, (.c (.int .i64 13))), (1, 1, (.c (.int .i64 13)))]),
   oo 6 (.build [.v (.int .i64 0), .v (.int .i64 0)] [(0, 1, (.c (.int .i64 32))), (1, 1, (.c (.int .i64 55295)))]),
   oo 7 (.build [.v (.int .i64 0), .v (.int .i64 0)] [(0, 1, (.c (.int .i64 57344))), (1, 1, (.c (.int .i64 65533)))]),
   oo 8 (.build [.v (.int .i64 0), .v (.int .i64 0)] [(0, 1, (.c (.int .i64 65536))), (1, 1, (.c (.int .i64 1114111)))]),
   oo 9 (.bsl 2 [(.s 4), (.s 5), (.s 6), (.s 7), (.s 8)]),
   oo 10 (.call n_impl_inAny [.val, .give] [] [(.s 3), (.s 9)]),
   oo 2 (.mv (.s 10))]))
  .ret))⟩
def k_internal_stringslite_HasSuffix : F := ⟨21, [.tmp 4],
  (.seq (.h [.kill [4]] (.reg false [oo 4 (.mv (.c (.bool false)))]))
  (.seq (.h [.kill [0, 1, 5, 6, 7, 8, 9, 10, 11, 12, 13, 14, 15, 16, 17, 18, 19, 20]] (.reg false [oo 5 (.mv (.s 0)),
   oo 6 (.len true (.s 5)),
   oo 7 (.mv (.s 1)),
   oo 8 (.len true (.s 7)),
   oo 9 (.bin .geq (.s 6) (.s 8)),
   oo 10 (.mv (.s 9)),
   ow 11 10 true (.mv (.s 0)),
   ow 12 10 true (.mv (.s 0)),
   ow 13 10 true (.len true (.s 12)),
   ow 14 10 true (.mv (.s 1)),
   ow 15 10 true (.len true (.s 14)),
   ow 16 10 true (.bin .sub (.s 13) (.s 15)),
   ow 17 10 true (.slc 0 (.s 11) (some (.s 16)) none),
   ow 18 10 true (.mv (.s 1)),
   ow 19 10 true (.bin .eql (.s 17) (.s 18)),
   oo 20 (.pick (.s 10) (.s 19) (.c (.bool false))),
   oo 4 (.mv (.s 20))]))
  .ret))⟩
def k_slices_ContainsFunc_A2int : F := ⟨9, [.tmp 4],
  (.seq (.h [.kill [4]] (.reg false [oo 4 (.mv (.c (.bool false)))]))
  (.seq (.h [.kill [0, 1, 5, 6, 7, 8]] (.reg false [oo 5 (.mv (.s 0)),
   oo 6 (.mv (.s 1)),
   oo 7 (.call n_slices_IndexFunc_A2int [] [] [(.s 5), (.s 6)]),
   oo 8 (.bin .geq (.s 7) (.c (.int .i64 0))),
   oo 4 (.mv (.s 8))]))
  .ret))⟩
def k_slices_IndexFunc_A2int_l6 : K :=
  (.h [.clean []] (.seq (.reg false [oo 9 (.bin .lss (.s 8) (.s 7))])
  (.seq (.cond (.s 9)
   .skip
   (.ex 0))
  (.seq (.blk 1
   (.seq (.h [.kill [9, 10]] (.reg false [oo 10 (.mv (.s 8)),
    oo 5 (.mv (.s 10))]))
   (.seq (.h [.kill [11, 12, 13, 14, 15]] (.reg false [oo 11 (.mv (.s 1)),
    oo 12 (.mv (.s 0)),
    oo 13 (.mv (.s 5)),
    oo 14 (.ia 2 (.s 12) (.s 13)),
    oo 15 (.ld 2 true (.s 14)),
    oo 16 (.callv (.s 11) [] [] [(.s 15)])]))
   (.cond (.s 16)
    (.seq (.h [.kill [0, 1, 5, 7, 8, 16, 17]] (.reg false [oo 17 (.mv (.s 5)),
     oo 4 (.mv (.s 17))]))
    .ret)
    .skip))))
  (.h [.kill [5, 16, 18]] (.reg false [oo 18 (.bin .add (.s 8) (.c (.int .i64 1))),
   oo 8 (.mv (.s 18))]))))))
def k_slices_IndexFunc_A2int_r2 : K :=
  (.seq (.h [.kill [0, 1, 7, 8, 9]] (.reg false [oo 4 (.mv (.c (.int .i64 (-1))))]))
  .ret)
def k_slices_IndexFunc_A2int : F := ⟨19, [.tmp 4],
  (.seq (.h [.kill [4]] (.reg false [oo 4 (.mv (.c (.int .i64 0)))]))
  (.seq (.seq (.h [.clean []] (.h [.kill [6]] (.reg false [oo 6 (.mv (.s 0)),
   oo 7 (.len false (.s 6)),
   oo 8 (.mv (.c (.int .i64 0)))])))
  (.blk 0
   (.loop k_slices_IndexFunc_A2int_l6)))
  k_slices_IndexFunc_A2int_r2))⟩
def k_impl_inAny_1 : F := ⟨10, [.tmp 3],
  (.seq (.h [.kill [0, 3]] (.reg false [oo 2 (.box (.s 0)),
   oo 3 (.mv (.c (.bool false)))]))
  (.seq (.h [.kill [1, 2, 4, 5, 6, 7, 8, 9]] (.reg false [oo 4 (.ld 1 false (.s 1)),
   oo 5 (.fa 0 (.s 2)),
   oo 6 (.ld 1 false (.s 5)),
   oo 7 (.fa 1 (.s 2)),
   oo 8 (.ld 1 false (.s 7)),
   oo 9 (.call n_impl_in [] [] [(.s 4), (.s 6), (.s 8)]),
   oo 3 (.mv (.s 9))]))
  .ret))⟩
def FTT : FTab
  | 3 => some k_laws_FnExactWalkOk
  | 15 => some k_laws_szWalk
  | 16 => some k_spec_WalkOk
  | 17 => some k_laws_toWalk
  | 18 => some k_impl_WalkOk
  | 19 => some k_laws_eqWalk
  | 22 => some k_laws_szNode
  | 24 => some k_laws_toNode
  | 26 => some k_laws_eqNode
  | 52 => some k_laws_szIntS
  | 53 => some k_spec_NodeAt
  | 54 => some k_spec_TreeOk
  | 55 => some k_laws_toIntS
  | 56 => some k_impl_NodeAt
  | 57 => some k_impl_TreeOk
  | 58 => some k_laws_eqIntS
  | 59 => some k_laws_szDeclS
  | 60 => some k_laws_szAttrS
  | 61 => some k_laws_szNodeS
  | 62 => some k_spec_l5Copy
  | 63 => some k_laws_toDeclS
  | 64 => some k_laws_toAttrS
  | 65 => some k_laws_toNodeS
  | 66 => some k_impl_cloneNode
  | 67 => some k_laws_eqDeclS
  | 68 => some k_laws_eqAttrS
  | 69 => some k_laws_eqNodeS
  | 89 => some k_spec_l1In
  | 91 => some k_spec_DeclOk
  | 92 => some k_spec_CountOf
  | 93 => some k_spec_NodeOk
  | 94 => some k_spec_FitsIn
  | 96 => some k_spec_l4Xml
  | 102 => some k_impl_DeclOk
  | 104 => some k_impl_in
  | 108 => some k_impl_NodeOk
  | 111 => some k_laws_szDecl
  | 112 => some k_laws_szAttr
  | 113 => some k_spec_l5All
  | 114 => some k_laws_toDecl
  | 115 => some k_laws_toAttr
  | 116 => some k_slices_Clone_Decl
  | 117 => some k_slices_Clone_Attr
  | 118 => some k_impl_cloneNodes
  | 119 => some k_laws_eqDecl
  | 120 => some k_laws_eqAttr
  | 133 => some k_spec_PlainOk
  | 134 => some k_spec_TextOk
  | 135 => some k_spec_l5Kids
  | 136 => some k_spec_Inner
  | 137 => some k_spec_SpaceOf
  | 144 => some k_impl_preOk
  | 145 => some k_impl_uriOk
  | 146 => some k_impl_CountOf
  | 147 => some k_impl_noTwoTexts
  | 149 => some k_strings_HasPrefix
  | 152 => some k_impl_partOk
  | 153 => some k_impl_ofKind
  | 154 => some k_impl_kidsOk
  | 163 => some k_slices_ContainsFunc_Node
  | 172 => some k_spec_l5Has
  | 173 => some k_spec_SignAt
  | 174 => some k_spec_IsStart
  | 175 => some k_spec_IsPart
  | 176 => some k_spec_l1Signs
  | 177 => some k_spec_l5One
  | 183 => some k_impl_PlainOk
  | 184 => some k_impl_TextOk
  | 187 => some k_internal_stringslite_HasPrefix
  | 190 => some k_impl_leafOk
  | 191 => some k_impl_DeclsOk
  | 192 => some k_impl_attrsOk
  | 193 => some k_impl_kidsOk_1
  | 199 => some k_slices_IndexFunc_Node
  | 201 => some k_spec_l1Ranges
  | 202 => some k_spec_IsSign
  | 203 => some k_spec_l5Pre
  | 204 => some k_spec_DeclsOk
  | 205 => some k_spec_l5AttrOk
  | 206 => some k_spec_l5Less
  | 207 => some k_spec_l5Bare
  | 208 => some k_spec_l5Xml
  | 209 => some k_spec_IsBlank
  | 212 => some k_impl_SignAt
  | 213 => some k_impl_IsStart
  | 214 => some k_impl_IsPart
  | 215 => some k_impl_signsOk
  | 219 => some k_impl_noteOk
  | 220 => some k_impl_toldOk
  | 221 => some k_impl_attrOk
  | 222 => some k_impl_compareAttrs
  | 229 => some k_impl_inAny
  | 230 => some k_impl_IsSign
  | 234 => some k_strings_HasSuffix
  | 236 => some k_impl_IsBlank
  | 239 => some k_slices_ContainsFunc_A2int
  | 240 => some k_impl_inAny_1
  | 245 => some k_internal_stringslite_HasSuffix
  | 248 => some k_slices_IndexFunc_A2int
  | _ => none
def FTA : Env := ⟨FTT, [n_slices_Clone_Decl, n_slices_Clone_Attr], [(n_impl_FitsIn, x_fits), (n_strings_Contains, x_contains), (n_strings_EqualFold, x_fold), (n_unicode_utf8_DecodeRuneInString, x_decode), (n_strings_Compare, x_compare)]⟩
def SSA := And.intro (SS FTA) S3
end TT
