import Derived.Test.YtabghncdppfllaaTNums
set_option linter.unusedVariables false
set_option linter.unusedSimpArgs false
set_option linter.defProp false
set_option maxRecDepth 100000
namespace TT
open Go
def k_laws_FnExactLeast : F := ⟨45, [.tmp 4],
  (.seq (.h [.kill [0, 1, 4]] (.reg false [oo 2 (.box (.s 0)),
   oo 3 (.box (.s 1)),
   oo 4 (.mv (.c (.bool false)))]))
  (.seq (.reg false [oo 5 (.mv (.c (.int .i64 1048576)))])
  (.seq (.h [.kill [10, 11, 12]] (.reg false [oo 10 (.ld 8 true (.s 2)),
   oo 11 (.mv (.s 5)),
   oo 12 (.call n_laws_szNode [] [] [(.s 10), (.s 11)]),
   oo 5 (.mv (.s 12))]))
  (.seq (.seq (.h [.kill [13]] (.reg false [oo 13 (.mv (.s 5)),
   oo 14 (.bin .lss (.s 13) (.c (.int .i64 0)))]))
  (.cond (.s 14)
   (.seq (.h [.kill [2, 3, 5, 14]] (.reg false [oo 4 (.mv (.c (.bool true)))]))
   .ret)
   .skip))
  (.seq (.h [.kill [14, 15, 16, 17]] (.reg false [oo 15 (.ld 8 true (.s 3)),
   oo 16 (.mv (.s 5)),
   oo 17 (.call n_laws_szNode [] [] [(.s 15), (.s 16)]),
   oo 5 (.mv (.s 17))]))
  (.seq (.seq (.h [.kill [5, 18]] (.reg false [oo 18 (.mv (.s 5)),
   oo 19 (.bin .lss (.s 18) (.c (.int .i64 0)))]))
  (.cond (.s 19)
   (.seq (.h [.kill [2, 3, 19]] (.reg false [oo 4 (.mv (.c (.bool true)))]))
   .ret)
   .skip))
  (.seq (.h [.kill [19, 20, 21, 22, 23, 24]] (.reg true [⟨some 20, none, .ld 8 true (.s 2), [2], []⟩,
   ⟨some 21, none, .call n_laws_toNode [] [true] [(.s 20)], [2], [21]⟩,
   ⟨some 22, none, .ld 8 true (.s 3), [3], []⟩,
   ⟨some 23, none, .call n_laws_toNode [] [true] [(.s 22)], [3], [23]⟩,
   ⟨some 24, none, .call n_spec_Least [] [] [(.s 21), (.s 23)], [21, 23], []⟩,
   ⟨some 6, none, .mv (.s 24), [], []⟩]))
  (.seq (.h [.kill [25, 26]] (.reg false [oo 25 (.ld 8 true (.s 2)),
   oo 26 (.call n_laws_toNode [] [true] [(.s 25)]),
   oo 7 (.alloc [.v (.int .i64 0), .v (.string ⟨#[]⟩), .v (.string ⟨#[]⟩), .v (.string ⟨#[]⟩), .sl true [], .sl true [], .sl true [], .v (.string ⟨#[]⟩)]),
   on (.st 8 (.s 7) (.s 26))]))
  (.seq (.h [.kill [27, 28]] (.reg false [oo 27 (.ld 8 true (.s 3)),
   oo 28 (.call n_laws_toNode [] [true] [(.s 27)]),
   oo 8 (.alloc [.v (.int .i64 0), .v (.string ⟨#[]⟩), .v (.string ⟨#[]⟩), .v (.string ⟨#[]⟩), .sl true [], .sl true [], .sl true [], .v (.string ⟨#[]⟩)]),
   on (.st 8 (.s 8) (.s 28))]))
  (.seq (.h [.kill [29, 30, 31]] (.reg false [oo 29 (.ld 8 true (.s 7)),
   oo 30 (.ld 8 true (.s 8)),
   oo 31 (.call n_impl_Least [] [] [(.s 29), (.s 30)]),
   oo 9 (.mv (.s 31))]))
  (.seq (.seq (.h [.kill [6, 9, 32, 33]] (.reg false [oo 32 (.mv (.s 9)),
   oo 33 (.mv (.s 6)),
   oo 34 (.bin .neq (.s 32) (.s 33))]))
  (.cond (.s 34)
   (.seq (.h [.kill [2, 3, 7, 8, 34]] (.reg false [oo 4 (.mv (.c (.bool false)))]))
   .ret)
   .skip))
  (.seq (.seq (.h [.kill [2, 7, 34, 35, 36, 37, 38]] (.reg true [⟨some 35, none, .ld 8 true (.s 7), [7], []⟩,
   ⟨some 36, none, .ld 8 true (.s 2), [2], []⟩,
   ⟨some 37, none, .call n_laws_toNode [] [true] [(.s 36)], [2], [37]⟩,
   ⟨some 38, none, .call n_laws_eqNode [] [] [(.s 35), (.s 37)], [7, 37], []⟩,
   ⟨some 39, none, .un .not (.s 38), [], []⟩]))
  (.cond (.s 39)
   (.seq (.h [.kill [3, 8, 39]] (.reg false [oo 4 (.mv (.c (.bool false)))]))
   .ret)
   .skip))
  (.seq (.seq (.h [.kill [3, 8, 39, 40, 41, 42, 43]] (.reg true [⟨some 40, none, .ld 8 true (.s 8), [8], []⟩,
   ⟨some 41, none, .ld 8 true (.s 3), [3], []⟩,
   ⟨some 42, none, .call n_laws_toNode [] [true] [(.s 41)], [3], [42]⟩,
   ⟨some 43, none, .call n_laws_eqNode [] [] [(.s 40), (.s 42)], [8, 42], []⟩,
   ⟨some 44, none, .un .not (.s 43), [], []⟩]))
  (.cond (.s 44)
   (.seq (.h [.kill [44]] (.reg false [oo 4 (.mv (.c (.bool false)))]))
   .ret)
   .skip))
  (.seq (.h [.kill [44]] (.reg false [oo 4 (.mv (.c (.bool true)))]))
  .ret))))))))))))))⟩

def k_laws_szNode : F := ⟨52, [.tmp 4],
  (.seq (.h [.kill [0, 4]] (.reg false [oo 2 (.box (.s 0)),
   oo 4 (.mv (.c (.int .i64 0)))]))
  (.seq (.h [.kill [5, 6, 7, 8, 9]] (.reg false [oo 5 (.mv (.s 1)),
   oo 6 (.fa 1 (.s 2)),
   oo 7 (.ld 1 false (.s 6)),
   oo 8 (.len true (.s 7)),
   oo 9 (.bin .sub (.s 5) (.s 8)),
   oo 1 (.mv (.s 9))]))
  (.seq (.seq (.h [.kill [10]] (.reg false [oo 10 (.mv (.s 1)),
   oo 11 (.bin .lss (.s 10) (.c (.int .i64 0)))]))
  (.cond (.s 11)
   (.seq (.h [.kill [1, 2, 11]] (.reg false [oo 4 (.mv (.c (.int .i64 (-1))))]))
   .ret)
   .skip))
  (.seq (.h [.kill [11, 12, 13, 14, 15, 16]] (.reg false [oo 12 (.mv (.s 1)),
   oo 13 (.fa 2 (.s 2)),
   oo 14 (.ld 1 false (.s 13)),
   oo 15 (.len true (.s 14)),
   oo 16 (.bin .sub (.s 12) (.s 15)),
   oo 1 (.mv (.s 16))]))
  (.seq (.seq (.h [.kill [17]] (.reg false [oo 17 (.mv (.s 1)),
   oo 18 (.bin .lss (.s 17) (.c (.int .i64 0)))]))
  (.cond (.s 18)
   (.seq (.h [.kill [1, 2, 18]] (.reg false [oo 4 (.mv (.c (.int .i64 (-1))))]))
   .ret)
   .skip))
  (.seq (.h [.kill [18, 19, 20, 21, 22, 23]] (.reg false [oo 19 (.mv (.s 1)),
   oo 20 (.fa 3 (.s 2)),
   oo 21 (.ld 1 false (.s 20)),
   oo 22 (.len true (.s 21)),
   oo 23 (.bin .sub (.s 19) (.s 22)),
   oo 1 (.mv (.s 23))]))
  (.seq (.seq (.h [.kill [24]] (.reg false [oo 24 (.mv (.s 1)),
   oo 25 (.bin .lss (.s 24) (.c (.int .i64 0)))]))
  (.cond (.s 25)
   (.seq (.h [.kill [1, 2, 25]] (.reg false [oo 4 (.mv (.c (.int .i64 (-1))))]))
   .ret)
   .skip))
  (.seq (.h [.kill [25, 26, 27, 28, 29]] (.reg false [oo 26 (.fa 4 (.s 2)),
   oo 27 (.ld 1 false (.s 26)),
   oo 28 (.mv (.s 1)),
   oo 29 (.call n_laws_szDeclS [] [] [(.s 27), (.s 28)]),
   oo 1 (.mv (.s 29))]))
  (.seq (.seq (.h [.kill [30]] (.reg false [oo 30 (.mv (.s 1)),
   oo 31 (.bin .lss (.s 30) (.c (.int .i64 0)))]))
  (.cond (.s 31)
   (.seq (.h [.kill [1, 2, 31]] (.reg false [oo 4 (.mv (.c (.int .i64 (-1))))]))
   .ret)
   .skip))
  (.seq (.h [.kill [31, 32, 33, 34, 35]] (.reg false [oo 32 (.fa 5 (.s 2)),
   oo 33 (.ld 1 false (.s 32)),
   oo 34 (.mv (.s 1)),
   oo 35 (.call n_laws_szAttrS [] [] [(.s 33), (.s 34)]),
   oo 1 (.mv (.s 35))]))
  (.seq (.seq (.h [.kill [36]] (.reg false [oo 36 (.mv (.s 1)),
   oo 37 (.bin .lss (.s 36) (.c (.int .i64 0)))]))
  (.cond (.s 37)
   (.seq (.h [.kill [1, 2, 37]] (.reg false [oo 4 (.mv (.c (.int .i64 (-1))))]))
   .ret)
   .skip))
  (.seq (.h [.kill [37, 38, 39, 40, 41]] (.reg false [oo 38 (.fa 6 (.s 2)),
   oo 39 (.ld 1 false (.s 38)),
   oo 40 (.mv (.s 1)),
   oo 41 (.call n_laws_szNodeS [] [] [(.s 39), (.s 40)]),
   oo 1 (.mv (.s 41))]))
  (.seq (.seq (.h [.kill [42]] (.reg false [oo 42 (.mv (.s 1)),
   oo 43 (.bin .lss (.s 42) (.c (.int .i64 0)))]))
  (.cond (.s 43)
   (.seq (.h [.kill [1, 2, 43]] (.reg false [oo 4 (.mv (.c (.int .i64 (-1))))]))
   .ret)
   .skip))
  (.seq (.h [.kill [2, 43, 44, 45, 46, 47, 48]] (.reg false [oo 44 (.mv (.s 1)),
   oo 45 (.fa 7 (.s 2)),
   oo 46 (.ld 1 false (.s 45)),
   oo 47 (.len true (.s 46)),
   oo 48 (.bin .sub (.s 44) (.s 47)),
   oo 1 (.mv (.s 48))]))
  (.seq (.seq (.h [.kill [49]] (.reg false [oo 49 (.mv (.s 1)),
   oo 50 (.bin .lss (.s 49) (.c (.int .i64 0)))]))
  (.cond (.s 50)
   (.seq (.h [.kill [1, 50]] (.reg false [oo 4 (.mv (.c (.int .i64 (-1))))]))
   .ret)
   .skip))
  (.seq (.h [.kill [1, 50, 51]] (.reg false [oo 51 (.mv (.s 1)),
   oo 4 (.mv (.s 51))]))
  .ret))))))))))))))))⟩

def k_laws_toNode : F := ⟨32, [.cell 2 8 true],
  (.seq (.h [.kill [0]] (.reg false [oo 1 (.box (.s 0)),
   oo 2 (.alloc [.v (.int .i64 0), .v (.string ⟨#[]⟩), .v (.string ⟨#[]⟩), .v (.string ⟨#[]⟩), .sl true [], .sl true [], .sl true [], .v (.string ⟨#[]⟩)])]))
  (.seq (.reg false [oo 3 (.alloc [.v (.int .i64 0), .v (.string ⟨#[]⟩), .v (.string ⟨#[]⟩), .v (.string ⟨#[]⟩), .sl true [], .sl true [], .sl true [], .v (.string ⟨#[]⟩)])])
  (.seq (.h [.kill [4, 5, 6]] (.reg false [oo 4 (.fa 0 (.s 1)),
   oo 5 (.ld 1 false (.s 4)),
   oo 6 (.fa 0 (.s 3)),
   on (.st 1 (.s 6) (.s 5))]))
  (.seq (.h [.kill [7, 8, 9]] (.reg false [oo 7 (.fa 1 (.s 1)),
   oo 8 (.ld 1 false (.s 7)),
   oo 9 (.fa 1 (.s 3)),
   on (.st 1 (.s 9) (.s 8))]))
  (.seq (.h [.kill [10, 11, 12]] (.reg false [oo 10 (.fa 2 (.s 1)),
   oo 11 (.ld 1 false (.s 10)),
   oo 12 (.fa 2 (.s 3)),
   on (.st 1 (.s 12) (.s 11))]))
  (.seq (.h [.kill [13, 14, 15]] (.reg false [oo 13 (.fa 3 (.s 1)),
   oo 14 (.ld 1 false (.s 13)),
   oo 15 (.fa 3 (.s 3)),
   on (.st 1 (.s 15) (.s 14))]))
  (.seq (.h [.kill [16, 17, 18, 19]] (.reg false [oo 16 (.fa 4 (.s 1)),
   oo 17 (.ld 1 false (.s 16)),
   oo 18 (.call n_laws_toDeclS [] [true] [(.s 17)]),
   oo 19 (.fa 4 (.s 3)),
   on (.st 1 (.s 19) (.s 18))]))
  (.seq (.h [.kill [20, 21, 22, 23]] (.reg false [oo 20 (.fa 5 (.s 1)),
   oo 21 (.ld 1 false (.s 20)),
   oo 22 (.call n_laws_toAttrS [] [true] [(.s 21)]),
   oo 23 (.fa 5 (.s 3)),
   on (.st 1 (.s 23) (.s 22))]))
  (.seq (.h [.kill [24, 25, 26, 27]] (.reg false [oo 24 (.fa 6 (.s 1)),
   oo 25 (.ld 1 false (.s 24)),
   oo 26 (.call n_laws_toNodeS [] [true] [(.s 25)]),
   oo 27 (.fa 6 (.s 3)),
   on (.st 1 (.s 27) (.s 26))]))
  (.seq (.h [.kill [1, 28, 29, 30]] (.reg false [oo 28 (.fa 7 (.s 1)),
   oo 29 (.ld 1 false (.s 28)),
   oo 30 (.fa 7 (.s 3)),
   on (.st 1 (.s 30) (.s 29))]))
  (.seq (.h [.kill [3, 31]] (.reg false [oo 31 (.ld 8 true (.s 3)),
   on (.st 8 (.s 2) (.s 31))]))
  .ret)))))))))))⟩

def k_spec_Least : F := ⟨11, [.tmp 4],
  (.seq (.h [.kill [0, 1, 4]] (.reg false [oo 2 (.box (.s 0)),
   oo 3 (.box (.s 1)),
   oo 4 (.mv (.c (.int .i64 0)))]))
  (.seq (.h [.kill [2, 3, 5, 6, 7, 8, 9, 10]] (.reg true [⟨some 5, none, .ld 8 true (.s 2), [2], []⟩,
   ⟨some 6, none, .call n_spec_CountOf [] [] [(.s 5)], [2], []⟩,
   ⟨some 7, none, .bin .add (.c (.int .i64 1)) (.s 6), [], []⟩,
   ⟨some 8, none, .ld 8 true (.s 3), [3], []⟩,
   ⟨some 9, none, .call n_spec_CountOf [] [] [(.s 8)], [3], []⟩,
   ⟨some 10, none, .bin .add (.s 7) (.s 9), [], []⟩,
   ⟨some 4, none, .mv (.s 10), [], []⟩]))
  .ret))⟩

def k_impl_Least : F := ⟨11, [.tmp 4],
  (.seq (.h [.kill [0, 1, 4]] (.reg false [oo 2 (.box (.s 0)),
   oo 3 (.box (.s 1)),
   oo 4 (.mv (.c (.int .i64 0)))]))
  (.seq (.h [.kill [2, 3, 5, 6, 7, 8, 9, 10]] (.reg true [⟨some 5, none, .ld 8 true (.s 2), [2], []⟩,
   ⟨some 6, none, .call n_impl_CountOf [] [] [(.s 5)], [2], []⟩,
   ⟨some 7, none, .bin .add (.c (.int .i64 1)) (.s 6), [], []⟩,
   ⟨some 8, none, .ld 8 true (.s 3), [3], []⟩,
   ⟨some 9, none, .call n_impl_CountOf [] [] [(.s 8)], [3], []⟩,
   ⟨some 10, none, .bin .add (.s 7) (.s 9), [], []⟩,
   ⟨some 4, none, .mv (.s 10), [], []⟩]))
  .ret))⟩

def k_laws_eqNode : F := ⟨48, [.tmp 4],
  (.seq (.h [.kill [0, 1, 4]] (.reg false [oo 2 (.box (.s 0)),
   oo 3 (.box (.s 1)),
   oo 4 (.mv (.c (.bool false)))]))
  (.seq (.seq (.h [.kill [5, 6, 7, 8]] (.reg false [oo 5 (.fa 0 (.s 2)),
   oo 6 (.ld 1 false (.s 5)),
   oo 7 (.fa 0 (.s 3)),
   oo 8 (.ld 1 false (.s 7)),
   oo 9 (.bin .neq (.s 6) (.s 8))]))
  (.cond (.s 9)
   (.seq (.h [.kill [2, 3, 9]] (.reg false [oo 4 (.mv (.c (.bool false)))]))
   .ret)
   .skip))
  (.seq (.seq (.h [.kill [9, 10, 11, 12, 13]] (.reg false [oo 10 (.fa 1 (.s 2)),
   oo 11 (.ld 1 false (.s 10)),
   oo 12 (.fa 1 (.s 3)),
   oo 13 (.ld 1 false (.s 12)),
   oo 14 (.bin .neq (.s 11) (.s 13))]))
  (.cond (.s 14)
   (.seq (.h [.kill [2, 3, 14]] (.reg false [oo 4 (.mv (.c (.bool false)))]))
   .ret)
   .skip))
  (.seq (.seq (.h [.kill [14, 15, 16, 17, 18]] (.reg false [oo 15 (.fa 2 (.s 2)),
   oo 16 (.ld 1 false (.s 15)),
   oo 17 (.fa 2 (.s 3)),
   oo 18 (.ld 1 false (.s 17)),
   oo 19 (.bin .neq (.s 16) (.s 18))]))
  (.cond (.s 19)
   (.seq (.h [.kill [2, 3, 19]] (.reg false [oo 4 (.mv (.c (.bool false)))]))
   .ret)
   .skip))
  (.seq (.seq (.h [.kill [19, 20, 21, 22, 23]] (.reg false [oo 20 (.fa 3 (.s 2)),
   oo 21 (.ld 1 false (.s 20)),
   oo 22 (.fa 3 (.s 3)),
   oo 23 (.ld 1 false (.s 22)),
   oo 24 (.bin .neq (.s 21) (.s 23))]))
  (.cond (.s 24)
   (.seq (.h [.kill [2, 3, 24]] (.reg false [oo 4 (.mv (.c (.bool false)))]))
   .ret)
   .skip))
  (.seq (.seq (.h [.kill [24, 25, 26, 27, 28, 29]] (.reg false [oo 25 (.fa 4 (.s 2)),
   oo 26 (.ld 1 false (.s 25)),
   oo 27 (.fa 4 (.s 3)),
   oo 28 (.ld 1 false (.s 27)),
   oo 29 (.call n_laws_eqDeclS [] [] [(.s 26), (.s 28)]),
   oo 30 (.un .not (.s 29))]))
  (.cond (.s 30)
   (.seq (.h [.kill [2, 3, 30]] (.reg false [oo 4 (.mv (.c (.bool false)))]))
   .ret)
   .skip))
  (.seq (.seq (.h [.kill [30, 31, 32, 33, 34, 35]] (.reg false [oo 31 (.fa 5 (.s 2)),
   oo 32 (.ld 1 false (.s 31)),
   oo 33 (.fa 5 (.s 3)),
   oo 34 (.ld 1 false (.s 33)),
   oo 35 (.call n_laws_eqAttrS [] [] [(.s 32), (.s 34)]),
   oo 36 (.un .not (.s 35))]))
  (.cond (.s 36)
   (.seq (.h [.kill [2, 3, 36]] (.reg false [oo 4 (.mv (.c (.bool false)))]))
   .ret)
   .skip))
  (.seq (.seq (.h [.kill [36, 37, 38, 39, 40, 41]] (.reg false [oo 37 (.fa 6 (.s 2)),
   oo 38 (.ld 1 false (.s 37)),
   oo 39 (.fa 6 (.s 3)),
   oo 40 (.ld 1 false (.s 39)),
   oo 41 (.call n_laws_eqNodeS [] [] [(.s 38), (.s 40)]),
   oo 42 (.un .not (.s 41))]))
  (.cond (.s 42)
   (.seq (.h [.kill [2, 3, 42]] (.reg false [oo 4 (.mv (.c (.bool false)))]))
   .ret)
   .skip))
  (.seq (.seq (.h [.kill [2, 3, 42, 43, 44, 45, 46]] (.reg false [oo 43 (.fa 7 (.s 2)),
   oo 44 (.ld 1 false (.s 43)),
   oo 45 (.fa 7 (.s 3)),
   oo 46 (.ld 1 false (.s 45)),
   oo 47 (.bin .neq (.s 44) (.s 46))]))
  (.cond (.s 47)
   (.seq (.h [.kill [47]] (.reg false [oo 4 (.mv (.c (.bool false)))]))
   .ret)
   .skip))
  (.seq (.h [.kill [47]] (.reg false [oo 4 (.mv (.c (.bool true)))]))
  .ret))))))))))⟩

def k_laws_szDeclS_l16 : K :=
  (.h [.clean []] (.seq (.seq (.h [.kill [12, 13, 14]] (.reg false [oo 12 (.mv (.s 5)),
   oo 13 (.mv (.s 0)),
   oo 14 (.len false (.s 13)),
   oo 15 (.bin .lss (.s 12) (.s 14))]))
  (.cond (.s 15)
   .skip
   (.ex 0)))
  (.seq (.blk 1
   (.seq (.h [.kill [15, 18, 19, 20, 21, 22, 23]] (.reg false [oo 18 (.mv (.s 0)),
    oo 19 (.mv (.s 5)),
    oo 20 (.ia 2 (.s 18) (.s 19)),
    oo 21 (.ld 2 true (.s 20)),
    oo 22 (.mv (.s 1)),
    oo 23 (.call n_laws_szDecl [] [] [(.s 21), (.s 22)]),
    oo 1 (.mv (.s 23))]))
   (.seq (.h [.kill [24]] (.reg false [oo 24 (.mv (.s 1)),
    oo 25 (.bin .lss (.s 24) (.c (.int .i64 0)))]))
   (.cond (.s 25)
    (.seq (.h [.kill [0, 1, 5, 25]] (.reg false [oo 4 (.mv (.c (.int .i64 (-1))))]))
    .ret)
    .skip))))
  (.h [.kill [16, 17, 25]] (.reg false [oo 16 (.mv (.s 5)),
   oo 17 (.bin .add (.s 16) (.c (.int .i64 1))),
   oo 5 (.mv (.s 17))])))))
def k_laws_szDeclS_r12 : K :=
  (.seq (.h [.kill [0, 1, 5, 15, 26]] (.reg false [oo 26 (.mv (.s 1)),
   oo 4 (.mv (.s 26))]))
  .ret)
def k_laws_szDeclS : F := ⟨27, [.tmp 4],
  (.seq (.h [.kill [4]] (.reg false [oo 4 (.mv (.c (.int .i64 0)))]))
  (.seq (.h [.kill [6, 7, 8, 9]] (.reg false [oo 6 (.mv (.s 1)),
   oo 7 (.mv (.s 0)),
   oo 8 (.len false (.s 7)),
   oo 9 (.bin .sub (.s 6) (.s 8)),
   oo 1 (.mv (.s 9))]))
  (.seq (.seq (.h [.kill [10]] (.reg false [oo 10 (.mv (.s 1)),
   oo 11 (.bin .lss (.s 10) (.c (.int .i64 0)))]))
  (.cond (.s 11)
   (.seq (.h [.kill [0, 1, 11]] (.reg false [oo 4 (.mv (.c (.int .i64 (-1))))]))
   .ret)
   .skip))
  (.seq (.seq (.h [.clean []] (.h [.kill [11]] (.reg false [oo 5 (.mv (.c (.int .i64 0)))])))
  (.blk 0
   (.loop k_laws_szDeclS_l16)))
  k_laws_szDeclS_r12))))⟩

def k_laws_szAttrS_l16 : K :=
  (.h [.clean []] (.seq (.seq (.h [.kill [12, 13, 14]] (.reg false [oo 12 (.mv (.s 5)),
   oo 13 (.mv (.s 0)),
   oo 14 (.len false (.s 13)),
   oo 15 (.bin .lss (.s 12) (.s 14))]))
  (.cond (.s 15)
   .skip
   (.ex 0)))
  (.seq (.blk 1
   (.seq (.h [.kill [15, 18, 19, 20, 21, 22, 23]] (.reg false [oo 18 (.mv (.s 0)),
    oo 19 (.mv (.s 5)),
    oo 20 (.ia 4 (.s 18) (.s 19)),
    oo 21 (.ld 4 true (.s 20)),
    oo 22 (.mv (.s 1)),
    oo 23 (.call n_laws_szAttr [] [] [(.s 21), (.s 22)]),
    oo 1 (.mv (.s 23))]))
   (.seq (.h [.kill [24]] (.reg false [oo 24 (.mv (.s 1)),
    oo 25 (.bin .lss (.s 24) (.c (.int .i64 0)))]))
   (.cond (.s 25)
    (.seq (.h [.kill [0, 1, 5, 25]] (.reg false [oo 4 (.mv (.c (.int .i64 (-1))))]))
    .ret)
    .skip))))
  (.h [.kill [16, 17, 25]] (.reg false [oo 16 (.mv (.s 5)),
   oo 17 (.bin .add (.s 16) (.c (.int .i64 1))),
   oo 5 (.mv (.s 17))])))))
def k_laws_szAttrS_r12 : K :=
  (.seq (.h [.kill [0, 1, 5, 15, 26]] (.reg false [oo 26 (.mv (.s 1)),
   oo 4 (.mv (.s 26))]))
  .ret)
def k_laws_szAttrS : F := ⟨27, [.tmp 4],
  (.seq (.h [.kill [4]] (.reg false [oo 4 (.mv (.c (.int .i64 0)))]))
  (.seq (.h [.kill [6, 7, 8, 9]] (.reg false [oo 6 (.mv (.s 1)),
   oo 7 (.mv (.s 0)),
   oo 8 (.len false (.s 7)),
   oo 9 (.bin .sub (.s 6) (.s 8)),
   oo 1 (.mv (.s 9))]))
  (.seq (.seq (.h [.kill [10]] (.reg false [oo 10 (.mv (.s 1)),
   oo 11 (.bin .lss (.s 10) (.c (.int .i64 0)))]))
  (.cond (.s 11)
   (.seq (.h [.kill [0, 1, 11]] (.reg false [oo 4 (.mv (.c (.int .i64 (-1))))]))
   .ret)
   .skip))
  (.seq (.seq (.h [.clean []] (.h [.kill [11]] (.reg false [oo 5 (.mv (.c (.int .i64 0)))])))
  (.blk 0
   (.loop k_laws_szAttrS_l16)))
  k_laws_szAttrS_r12))))⟩

def k_laws_szNodeS_l16 : K :=
  (.h [.clean []] (.seq (.seq (.h [.kill [12, 13, 14]] (.reg false [oo 12 (.mv (.s 5)),
   oo 13 (.mv (.s 0)),
   oo 14 (.len false (.s 13)),
   oo 15 (.bin .lss (.s 12) (.s 14))]))
  (.cond (.s 15)
   .skip
   (.ex 0)))
  (.seq (.blk 1
   (.seq (.h [.kill [15, 18, 19, 20, 21, 22, 23]] (.reg false [oo 18 (.mv (.s 0)),
    oo 19 (.mv (.s 5)),
    oo 20 (.ia 8 (.s 18) (.s 19)),
    oo 21 (.ld 8 true (.s 20)),
    oo 22 (.mv (.s 1)),
    oo 23 (.call n_laws_szNode [] [] [(.s 21), (.s 22)]),
    oo 1 (.mv (.s 23))]))
   (.seq (.h [.kill [24]] (.reg false [oo 24 (.mv (.s 1)),
    oo 25 (.bin .lss (.s 24) (.c (.int .i64 0)))]))
   (.cond (.s 25)
    (.seq (.h [.kill [0, 1, 5, 25]] (.reg false [oo 4 (.mv (.c (.int .i64 (-1))))]))
    .ret)
    .skip))))
  (.h [.kill [16, 17, 25]] (.reg false [oo 16 (.mv (.s 5)),
   oo 17 (.bin .add (.s 16) (.c (.int .i64 1))),
   oo 5 (.mv (.s 17))])))))
def k_laws_szNodeS_r12 : K :=
  (.seq (.h [.kill [0, 1, 5, 15, 26]] (.reg false [oo 26 (.mv (.s 1)),
   oo 4 (.mv (.s 26))]))
  .ret)
def k_laws_szNodeS : F := ⟨27, [.tmp 4],
  (.seq (.h [.kill [4]] (.reg false [oo 4 (.mv (.c (.int .i64 0)))]))
  (.seq (.h [.kill [6, 7, 8, 9]] (.reg false [oo 6 (.mv (.s 1)),
   oo 7 (.mv (.s 0)),
   oo 8 (.len false (.s 7)),
   oo 9 (.bin .sub (.s 6) (.s 8)),
   oo 1 (.mv (.s 9))]))
  (.seq (.seq (.h [.kill [10]] (.reg false [oo 10 (.mv (.s 1)),
   oo 11 (.bin .lss (.s 10) (.c (.int .i64 0)))]))
  (.cond (.s 11)
   (.seq (.h [.kill [0, 1, 11]] (.reg false [oo 4 (.mv (.c (.int .i64 (-1))))]))
   .ret)
   .skip))
  (.seq (.seq (.h [.clean []] (.h [.kill [11]] (.reg false [oo 5 (.mv (.c (.int .i64 0)))])))
  (.blk 0
   (.loop k_laws_szNodeS_l16)))
  k_laws_szNodeS_r12))))⟩

def k_laws_toDeclS_l8 : K :=
  (.h [.clean []] (.seq (.seq (.h [.kill [8, 9, 10]] (.reg false [oo 8 (.mv (.s 4)),
   oo 9 (.mv (.s 0)),
   oo 10 (.len false (.s 9)),
   oo 11 (.bin .lss (.s 8) (.s 10))]))
  (.cond (.s 11)
   .skip
   (.ex 0)))
  (.seq (.blk 1
   (.h [.kill [11, 14, 15, 16, 17, 18, 19, 20, 21]] (.reg false [oo 14 (.mv (.s 3)),
    oo 15 (.mv (.s 4)),
    oo 16 (.mv (.s 0)),
    oo 17 (.mv (.s 4)),
    oo 18 (.ia 2 (.s 16) (.s 17)),
    oo 19 (.ld 2 true (.s 18)),
    oo 20 (.call n_laws_toDecl [] [] [(.s 19)]),
    oo 21 (.ia 2 (.s 14) (.s 15)),
    on (.st 2 (.s 21) (.s 20))])))
  (.h [.kill [12, 13]] (.reg false [oo 12 (.mv (.s 4)),
   oo 13 (.bin .add (.s 12) (.c (.int .i64 1))),
   oo 4 (.mv (.s 13))])))))
def k_laws_toDeclS_r4 : K :=
  (.seq (.h [.kill [0, 3, 4, 11, 22]] (.reg false [oo 22 (.mv (.s 3)),
   oo 2 (.mv (.s 22))]))
  .ret)
def k_laws_toDeclS : F := ⟨23, [.tmp 2],
  (.seq (.h [.kill [2]] (.reg false [oo 2 (.mv (.c (.slice none 0 0)))]))
  (.seq (.h [.kill [5, 6, 7]] (.reg false [oo 5 (.mv (.s 0)),
   oo 6 (.len false (.s 5)),
   oo 7 (.mks [.v (.string ⟨#[]⟩), .v (.string ⟨#[]⟩)] 32 (.s 6)),
   oo 3 (.mv (.s 7))]))
  (.seq (.seq (.h [.clean []] (.reg false [oo 4 (.mv (.c (.int .i64 0)))]))
  (.blk 0
   (.loop k_laws_toDeclS_l8)))
  k_laws_toDeclS_r4)))⟩

def k_laws_toAttrS_l8 : K :=
  (.h [.clean []] (.seq (.seq (.h [.kill [8, 9, 10]] (.reg false [oo 8 (.mv (.s 4)),
   oo 9 (.mv (.s 0)),
   oo 10 (.len false (.s 9)),
   oo 11 (.bin .lss (.s 8) (.s 10))]))
  (.cond (.s 11)
   .skip
   (.ex 0)))
  (.seq (.blk 1
   (.h [.kill [11, 14, 15, 16, 17, 18, 19, 20, 21]] (.reg false [oo 14 (.mv (.s 3)),
    oo 15 (.mv (.s 4)),
    oo 16 (.mv (.s 0)),
    oo 17 (.mv (.s 4)),
    oo 18 (.ia 4 (.s 16) (.s 17)),
    oo 19 (.ld 4 true (.s 18)),
    oo 20 (.call n_laws_toAttr [] [] [(.s 19)]),
    oo 21 (.ia 4 (.s 14) (.s 15)),
    on (.st 4 (.s 21) (.s 20))])))
  (.h [.kill [12, 13]] (.reg false [oo 12 (.mv (.s 4)),
   oo 13 (.bin .add (.s 12) (.c (.int .i64 1))),
   oo 4 (.mv (.s 13))])))))
def k_laws_toAttrS_r4 : K :=
  (.seq (.h [.kill [0, 3, 4, 11, 22]] (.reg false [oo 22 (.mv (.s 3)),
   oo 2 (.mv (.s 22))]))
  .ret)
def k_laws_toAttrS : F := ⟨23, [.tmp 2],
  (.seq (.h [.kill [2]] (.reg false [oo 2 (.mv (.c (.slice none 0 0)))]))
  (.seq (.h [.kill [5, 6, 7]] (.reg false [oo 5 (.mv (.s 0)),
   oo 6 (.len false (.s 5)),
   oo 7 (.mks [.v (.string ⟨#[]⟩), .v (.string ⟨#[]⟩), .v (.string ⟨#[]⟩), .v (.string ⟨#[]⟩)] 64 (.s 6)),
   oo 3 (.mv (.s 7))]))
  (.seq (.seq (.h [.clean []] (.reg false [oo 4 (.mv (.c (.int .i64 0)))]))
  (.blk 0
   (.loop k_laws_toAttrS_l8)))
  k_laws_toAttrS_r4)))⟩

def k_laws_toNodeS_l8 : K :=
  (.h [.clean [20]] (.seq (.seq (.h [.kill [8, 9, 10]] (.reg false [oo 8 (.mv (.s 4)),
   oo 9 (.mv (.s 0)),
   oo 10 (.len false (.s 9)),
   oo 11 (.bin .lss (.s 8) (.s 10))]))
  (.cond (.s 11)
   .skip
   (.ex 0)))
  (.seq (.blk 1
   (.h [.kill [11, 14, 15, 16, 17, 18, 19, 20, 21]] (.reg false [oo 14 (.mv (.s 3)),
    oo 15 (.mv (.s 4)),
    oo 16 (.mv (.s 0)),
    oo 17 (.mv (.s 4)),
    oo 18 (.ia 8 (.s 16) (.s 17)),
    oo 19 (.ld 8 true (.s 18)),
    oo 20 (.call n_laws_toNode [] [true] [(.s 19)]),
    oo 21 (.ia 8 (.s 14) (.s 15)),
    on (.st 8 (.s 21) (.s 20))])))
  (.h [.kill [12, 13]] (.reg false [oo 12 (.mv (.s 4)),
   oo 13 (.bin .add (.s 12) (.c (.int .i64 1))),
   oo 4 (.mv (.s 13))])))))
def k_laws_toNodeS_r4 : K :=
  (.seq (.h [.kill [0, 3, 4, 11, 22]] (.reg false [oo 22 (.mv (.s 3)),
   oo 2 (.mv (.s 22))]))
  .ret)
def k_laws_toNodeS : F := ⟨23, [.tmp 2],
  (.seq (.h [.kill [2]] (.reg false [oo 2 (.mv (.c (.slice none 0 0)))]))
  (.seq (.h [.kill [5, 6, 7]] (.reg false [oo 5 (.mv (.s 0)),
   oo 6 (.len false (.s 5)),
   oo 7 (.mks [.v (.int .i64 0), .v (.string ⟨#[]⟩), .v (.string ⟨#[]⟩), .v (.string ⟨#[]⟩), .sl true [], .sl true [], .sl true [], .v (.string ⟨#[]⟩)] 144 (.s 6)),
   oo 3 (.mv (.s 7))]))
  (.seq (.seq (.h [.clean []] (.reg false [oo 4 (.mv (.c (.int .i64 0)))]))
  (.blk 0
   (.loop k_laws_toNodeS_l8)))
  k_laws_toNodeS_r4)))⟩

def k_spec_CountOf_l8 : K :=
  (.h [.clean []] (.seq (.seq (.h [.kill [9, 10, 11, 12]] (.reg false [oo 9 (.mv (.s 4)),
   oo 10 (.fa 6 (.s 1)),
   oo 11 (.ld 1 false (.s 10)),
   oo 12 (.len false (.s 11)),
   oo 13 (.bin .lss (.s 9) (.s 12))]))
  (.cond (.s 13)
   .skip
   (.ex 0)))
  (.seq (.blk 1
   (.h [.kill [13, 16, 17, 18, 19, 20, 21, 22, 23]] (.reg false [oo 16 (.mv (.s 3)),
    oo 17 (.fa 6 (.s 1)),
    oo 18 (.ld 1 false (.s 17)),
    oo 19 (.mv (.s 4)),
    oo 20 (.ia 8 (.s 18) (.s 19)),
    oo 21 (.ld 8 true (.s 20)),
    oo 22 (.call n_spec_CountOf [] [] [(.s 21)]),
    oo 23 (.bin .add (.s 16) (.s 22)),
    oo 3 (.mv (.s 23))])))
  (.h [.kill [14, 15]] (.reg false [oo 14 (.mv (.s 4)),
   oo 15 (.bin .add (.s 14) (.c (.int .i64 1))),
   oo 4 (.mv (.s 15))])))))
def k_spec_CountOf_r4 : K :=
  (.seq (.h [.kill [1, 3, 4, 13, 24]] (.reg false [oo 24 (.mv (.s 3)),
   oo 2 (.mv (.s 24))]))
  .ret)
def k_spec_CountOf : F := ⟨25, [.tmp 2],
  (.seq (.h [.kill [0, 2]] (.reg false [oo 1 (.box (.s 0)),
   oo 2 (.mv (.c (.int .i64 0)))]))
  (.seq (.h [.kill [5, 6, 7, 8]] (.reg false [oo 5 (.fa 5 (.s 1)),
   oo 6 (.ld 1 false (.s 5)),
   oo 7 (.len false (.s 6)),
   oo 8 (.bin .add (.c (.int .i64 1)) (.s 7)),
   oo 3 (.mv (.s 8))]))
  (.seq (.seq (.h [.clean []] (.reg false [oo 4 (.mv (.c (.int .i64 0)))]))
  (.blk 0
   (.loop k_spec_CountOf_l8)))
  k_spec_CountOf_r4)))⟩

def k_impl_CountOf_l8 : K :=
  (.h [.clean [5]] (.seq (.reg false [oo 14 (.bin .lss (.s 13) (.s 12))])
  (.seq (.cond (.s 14)
   .skip
   (.ex 0))
  (.seq (.blk 1
   (.seq (.h [.kill [14, 15, 16]] (.reg false [oo 15 (.ia 8 (.s 11) (.s 13)),
    oo 16 (.ld 8 true (.s 15)),
    oo 5 (.alloc [.v (.int .i64 0), .v (.string ⟨#[]⟩), .v (.string ⟨#[]⟩), .v (.string ⟨#[]⟩), .sl true [], .sl true [], .sl true [], .v (.string ⟨#[]⟩)]),
    on (.st 8 (.s 5) (.s 16))]))
   (.h [.kill [5, 17, 18, 19, 20]] (.reg false [oo 17 (.mv (.s 3)),
    oo 18 (.ld 8 true (.s 5)),
    oo 19 (.call n_impl_CountOf [] [] [(.s 18)]),
    oo 20 (.bin .add (.s 17) (.s 19)),
    oo 3 (.mv (.s 20))]))))
  (.h [.kill [21]] (.reg false [oo 21 (.bin .add (.s 13) (.c (.int .i64 1))),
   oo 13 (.mv (.s 21))]))))))
def k_impl_CountOf_r4 : K :=
  (.seq (.h [.kill [3, 11, 12, 13, 14, 22]] (.reg false [oo 22 (.mv (.s 3)),
   oo 2 (.mv (.s 22))]))
  .ret)
def k_impl_CountOf : F := ⟨23, [.tmp 2],
  (.seq (.h [.kill [0, 2]] (.reg false [oo 1 (.box (.s 0)),
   oo 2 (.mv (.c (.int .i64 0)))]))
  (.seq (.h [.kill [6, 7, 8, 9]] (.reg false [oo 6 (.fa 5 (.s 1)),
   oo 7 (.ld 1 false (.s 6)),
   oo 8 (.len false (.s 7)),
   oo 9 (.bin .add (.c (.int .i64 1)) (.s 8)),
   oo 3 (.mv (.s 9))]))
  (.seq (.seq (.h [.clean [1]] (.h [.kill [1, 10]] (.reg false [oo 10 (.fa 6 (.s 1)),
   oo 11 (.ld 1 false (.s 10)),
   oo 12 (.len false (.s 11)),
   oo 13 (.mv (.c (.int .i64 0)))])))
  (.blk 0
   (.loop k_impl_CountOf_l8)))
  k_impl_CountOf_r4)))⟩

def k_laws_eqDeclS_l14 : K :=
  (.h [.clean []] (.seq (.seq (.h [.kill [11, 12, 13]] (.reg false [oo 11 (.mv (.s 5)),
   oo 12 (.mv (.s 0)),
   oo 13 (.len false (.s 12)),
   oo 14 (.bin .lss (.s 11) (.s 13))]))
  (.cond (.s 14)
   .skip
   (.ex 0)))
  (.seq (.blk 1
   (.seq (.h [.kill [14, 17, 18, 19, 20, 21, 22, 23, 24, 25]] (.reg true [⟨some 17, none, .mv (.s 0), [], []⟩,
    ⟨some 18, none, .mv (.s 5), [], []⟩,
    ⟨some 19, none, .ia 2 (.s 17) (.s 18), [0], []⟩,
    ⟨some 20, none, .ld 2 true (.s 19), [0], []⟩,
    ⟨some 21, none, .mv (.s 1), [], []⟩,
    ⟨some 22, none, .mv (.s 5), [], []⟩,
    ⟨some 23, none, .ia 2 (.s 21) (.s 22), [1], []⟩,
    ⟨some 24, none, .ld 2 true (.s 23), [1], []⟩,
    ⟨some 25, none, .call n_laws_eqDecl [] [] [(.s 20), (.s 24)], [0, 1], []⟩,
    ⟨some 26, none, .un .not (.s 25), [], []⟩]))
   (.cond (.s 26)
    (.seq (.h [.kill [0, 1, 5, 26]] (.reg false [oo 4 (.mv (.c (.bool false)))]))
    .ret)
    .skip)))
  (.h [.kill [15, 16, 26]] (.reg false [oo 15 (.mv (.s 5)),
   oo 16 (.bin .add (.s 15) (.c (.int .i64 1))),
   oo 5 (.mv (.s 16))])))))
def k_laws_eqDeclS_r10 : K :=
  (.seq (.h [.kill [0, 1, 5, 14]] (.reg false [oo 4 (.mv (.c (.bool true)))]))
  .ret)
def k_laws_eqDeclS : F := ⟨27, [.tmp 4],
  (.seq (.h [.kill [4]] (.reg false [oo 4 (.mv (.c (.bool false)))]))
  (.seq (.seq (.h [.kill [6, 7, 8, 9]] (.reg false [oo 6 (.mv (.s 0)),
   oo 7 (.len false (.s 6)),
   oo 8 (.mv (.s 1)),
   oo 9 (.len false (.s 8)),
   oo 10 (.bin .neq (.s 7) (.s 9))]))
  (.cond (.s 10)
   (.seq (.h [.kill [0, 1, 10]] (.reg false [oo 4 (.mv (.c (.bool false)))]))
   .ret)
   .skip))
  (.seq (.seq (.h [.clean []] (.h [.kill [10]] (.reg false [oo 5 (.mv (.c (.int .i64 0)))])))
  (.blk 0
   (.loop k_laws_eqDeclS_l14)))
  k_laws_eqDeclS_r10)))⟩

def k_laws_eqAttrS_l14 : K :=
  (.h [.clean []] (.seq (.seq (.h [.kill [11, 12, 13]] (.reg false [oo 11 (.mv (.s 5)),
   oo 12 (.mv (.s 0)),
   oo 13 (.len false (.s 12)),
   oo 14 (.bin .lss (.s 11) (.s 13))]))
  (.cond (.s 14)
   .skip
   (.ex 0)))
  (.seq (.blk 1
   (.seq (.h [.kill [14, 17, 18, 19, 20, 21, 22, 23, 24, 25]] (.reg true [⟨some 17, none, .mv (.s 0), [], []⟩,
    ⟨some 18, none, .mv (.s 5), [], []⟩,
    ⟨some 19, none, .ia 4 (.s 17) (.s 18), [0], []⟩,
    ⟨some 20, none, .ld 4 true (.s 19), [0], []⟩,
    ⟨some 21, none, .mv (.s 1), [], []⟩,
    ⟨some 22, none, .mv (.s 5), [], []⟩,
    ⟨some 23, none, .ia 4 (.s 21) (.s 22), [1], []⟩,
    ⟨some 24, none, .ld 4 true (.s 23), [1], []⟩,
    ⟨some 25, none, .call n_laws_eqAttr [] [] [(.s 20), (.s 24)], [0, 1], []⟩,
    ⟨some 26, none, .un .not (.s 25), [], []⟩]))
   (.cond (.s 26)
    (.seq (.h [.kill [0, 1, 5, 26]] (.reg false [oo 4 (.mv (.c (.bool false)))]))
    .ret)
    .skip)))
  (.h [.kill [15, 16, 26]] (.reg false [oo 15 (.mv (.s 5)),
   oo 16 (.bin .add (.s 15) (.c (.int .i64 1))),
   oo 5 (.mv (.s 16))])))))
def k_laws_eqAttrS_r10 : K :=
  (.seq (.h [.kill [0, 1, 5, 14]] (.reg false [oo 4 (.mv (.c (.bool true)))]))
  .ret)
def k_laws_eqAttrS : F := ⟨27, [.tmp 4],
  (.seq (.h [.kill [4]] (.reg false [oo 4 (.mv (.c (.bool false)))]))
  (.seq (.seq (.h [.kill [6, 7, 8, 9]] (.reg false [oo 6 (.mv (.s 0)),
   oo 7 (.len false (.s 6)),
   oo 8 (.mv (.s 1)),
   oo 9 (.len false (.s 8)),
   oo 10 (.bin .neq (.s 7) (.s 9))]))
  (.cond (.s 10)
   (.seq (.h [.kill [0, 1, 10]] (.reg false [oo 4 (.mv (.c (.bool false)))]))
   .ret)
   .skip))
  (.seq (.seq (.h [.clean []] (.h [.kill [10]] (.reg false [oo 5 (.mv (.c (.int .i64 0)))])))
  (.blk 0
   (.loop k_laws_eqAttrS_l14)))
  k_laws_eqAttrS_r10)))⟩

def k_laws_eqNodeS_l14 : K :=
  (.h [.clean []] (.seq (.seq (.h [.kill [11, 12, 13]] (.reg false [oo 11 (.mv (.s 5)),
   oo 12 (.mv (.s 0)),
   oo 13 (.len false (.s 12)),
   oo 14 (.bin .lss (.s 11) (.s 13))]))
  (.cond (.s 14)
   .skip
   (.ex 0)))
  (.seq (.blk 1
   (.seq (.h [.kill [14, 17, 18, 19, 20, 21, 22, 23, 24, 25]] (.reg true [⟨some 17, none, .mv (.s 0), [], []⟩,
    ⟨some 18, none, .mv (.s 5), [], []⟩,
    ⟨some 19, none, .ia 8 (.s 17) (.s 18), [0], []⟩,
    ⟨some 20, none, .ld 8 true (.s 19), [0], []⟩,
    ⟨some 21, none, .mv (.s 1), [], []⟩,
    ⟨some 22, none, .mv (.s 5), [], []⟩,
    ⟨some 23, none, .ia 8 (.s 21) (.s 22), [1], []⟩,
    ⟨some 24, none, .ld 8 true (.s 23), [1], []⟩,
    ⟨some 25, none, .call n_laws_eqNode [] [] [(.s 20), (.s 24)], [0, 1], []⟩,
    ⟨some 26, none, .un .not (.s 25), [], []⟩]))
   (.cond (.s 26)
    (.seq (.h [.kill [0, 1, 5, 26]] (.reg false [oo 4 (.mv (.c (.bool false)))]))
    .ret)
    .skip)))
  (.h [.kill [15, 16, 26]] (.reg false [oo 15 (.mv (.s 5)),
   oo 16 (.bin .add (.s 15) (.c (.int .i64 1))),
   oo 5 (.mv (.s 16))])))))
def k_laws_eqNodeS_r10 : K :=
  (.seq (.h [.kill [0, 1, 5, 14]] (.reg false [oo 4 (.mv (.c (.bool true)))]))
  .ret)
def k_laws_eqNodeS : F := ⟨27, [.tmp 4],
  (.seq (.h [.kill [4]] (.reg false [oo 4 (.mv (.c (.bool false)))]))
  (.seq (.seq (.h [.kill [6, 7, 8, 9]] (.reg false [oo 6 (.mv (.s 0)),
   oo 7 (.len false (.s 6)),
   oo 8 (.mv (.s 1)),
   oo 9 (.len false (.s 8)),
   oo 10 (.bin .neq (.s 7) (.s 9))]))
  (.cond (.s 10)
   (.seq (.h [.kill [0, 1, 10]] (.reg false [oo 4 (.mv (.c (.bool false)))]))
   .ret)
   .skip))
  (.seq (.seq (.h [.clean []] (.h [.kill [10]] (.reg false [oo 5 (.mv (.c (.int .i64 0)))])))
  (.blk 0
   (.loop k_laws_eqNodeS_l14)))
  k_laws_eqNodeS_r10)))⟩

def k_laws_szDecl : F := ⟨20, [.tmp 4],
  (.seq (.h [.kill [0, 4]] (.reg false [oo 2 (.box (.s 0)),
   oo 4 (.mv (.c (.int .i64 0)))]))
  (.seq (.h [.kill [5, 6, 7, 8, 9]] (.reg false [oo 5 (.mv (.s 1)),
   oo 6 (.fa 0 (.s 2)),
   oo 7 (.ld 1 false (.s 6)),
   oo 8 (.len true (.s 7)),
   oo 9 (.bin .sub (.s 5) (.s 8)),
   oo 1 (.mv (.s 9))]))
  (.seq (.seq (.h [.kill [10]] (.reg false [oo 10 (.mv (.s 1)),
   oo 11 (.bin .lss (.s 10) (.c (.int .i64 0)))]))
  (.cond (.s 11)
   (.seq (.h [.kill [1, 2, 11]] (.reg false [oo 4 (.mv (.c (.int .i64 (-1))))]))
   .ret)
   .skip))
  (.seq (.h [.kill [2, 11, 12, 13, 14, 15, 16]] (.reg false [oo 12 (.mv (.s 1)),
   oo 13 (.fa 1 (.s 2)),
   oo 14 (.ld 1 false (.s 13)),
   oo 15 (.len true (.s 14)),
   oo 16 (.bin .sub (.s 12) (.s 15)),
   oo 1 (.mv (.s 16))]))
  (.seq (.seq (.h [.kill [17]] (.reg false [oo 17 (.mv (.s 1)),
   oo 18 (.bin .lss (.s 17) (.c (.int .i64 0)))]))
  (.cond (.s 18)
   (.seq (.h [.kill [1, 18]] (.reg false [oo 4 (.mv (.c (.int .i64 (-1))))]))
   .ret)
   .skip))
  (.seq (.h [.kill [1, 18, 19]] (.reg false [oo 19 (.mv (.s 1)),
   oo 4 (.mv (.s 19))]))
  .ret))))))⟩

def k_laws_szAttr : F := ⟨34, [.tmp 4],
  (.seq (.h [.kill [0, 4]] (.reg false [oo 2 (.box (.s 0)),
   oo 4 (.mv (.c (.int .i64 0)))]))
  (.seq (.h [.kill [5, 6, 7, 8, 9]] (.reg false [oo 5 (.mv (.s 1)),
   oo 6 (.fa 0 (.s 2)),
   oo 7 (.ld 1 false (.s 6)),
   oo 8 (.len true (.s 7)),
   oo 9 (.bin .sub (.s 5) (.s 8)),
   oo 1 (.mv (.s 9))]))
  (.seq (.seq (.h [.kill [10]] (.reg false [oo 10 (.mv (.s 1)),
   oo 11 (.bin .lss (.s 10) (.c (.int .i64 0)))]))
  (.cond (.s 11)
   (.seq (.h [.kill [1, 2, 11]] (.reg false [oo 4 (.mv (.c (.int .i64 (-1))))]))
   .ret)
   .skip))
  (.seq (.h [.kill [11, 12, 13, 14, 15, 16]] (.reg false [oo 12 (.mv (.s 1)),
   oo 13 (.fa 1 (.s 2)),
   oo 14 (.ld 1 false (.s 13)),
   oo 15 (.len true (.s 14)),
   oo 16 (.bin .sub (.s 12) (.s 15)),
   oo 1 (.mv (.s 16))]))
  (.seq (.seq (.h [.kill [17]] (.reg false [oo 17 (.mv (.s 1)),
   oo 18 (.bin .lss (.s 17) (.c (.int .i64 0)))]))
  (.cond (.s 18)
   (.seq (.h [.kill [1, 2, 18]] (.reg false [oo 4 (.mv (.c (.int .i64 (-1))))]))
   .ret)
   .skip))
  (.seq (.h [.kill [18, 19, 20, 21, 22, 23]] (.reg false [oo 19 (.mv (.s 1)),
   oo 20 (.fa 2 (.s 2)),
   oo 21 (.ld 1 false (.s 20)),
   oo 22 (.len true (.s 21)),
   oo 23 (.bin .sub (.s 19) (.s 22)),
   oo 1 (.mv (.s 23))]))
  (.seq (.seq (.h [.kill [24]] (.reg false [oo 24 (.mv (.s 1)),
   oo 25 (.bin .lss (.s 24) (.c (.int .i64 0)))]))
  (.cond (.s 25)
   (.seq (.h [.kill [1, 2, 25]] (.reg false [oo 4 (.mv (.c (.int .i64 (-1))))]))
   .ret)
   .skip))
  (.seq (.h [.kill [2, 25, 26, 27, 28, 29, 30]] (.reg false [oo 26 (.mv (.s 1)),
   oo 27 (.fa 3 (.s 2)),
   oo 28 (.ld 1 false (.s 27)),
   oo 29 (.len true (.s 28)),
   oo 30 (.bin .sub (.s 26) (.s 29)),
   oo 1 (.mv (.s 30))]))
  (.seq (.seq (.h [.kill [31]] (.reg false [oo 31 (.mv (.s 1)),
   oo 32 (.bin .lss (.s 31) (.c (.int .i64 0)))]))
  (.cond (.s 32)
   (.seq (.h [.kill [1, 32]] (.reg false [oo 4 (.mv (.c (.int .i64 (-1))))]))
   .ret)
   .skip))
  (.seq (.h [.kill [1, 32, 33]] (.reg false [oo 33 (.mv (.s 1)),
   oo 4 (.mv (.s 33))]))
  .ret))))))))))⟩

def k_laws_toDecl : F := ⟨11, [.cell 2 2 true],
  (.seq (.h [.kill [0]] (.reg false [oo 1 (.box (.s 0)),
   oo 2 (.alloc [.v (.string ⟨#[]⟩), .v (.string ⟨#[]⟩)])]))
  (.seq (.reg false [oo 3 (.alloc [.v (.string ⟨#[]⟩), .v (.string ⟨#[]⟩)])])
  (.seq (.h [.kill [4, 5, 6]] (.reg false [oo 4 (.fa 0 (.s 1)),
   oo 5 (.ld 1 false (.s 4)),
   oo 6 (.fa 0 (.s 3)),
   on (.st 1 (.s 6) (.s 5))]))
  (.seq (.h [.kill [1, 7, 8, 9]] (.reg false [oo 7 (.fa 1 (.s 1)),
   oo 8 (.ld 1 false (.s 7)),
   oo 9 (.fa 1 (.s 3)),
   on (.st 1 (.s 9) (.s 8))]))
  (.seq (.h [.kill [3, 10]] (.reg false [oo 10 (.ld 2 true (.s 3)),
   on (.st 2 (.s 2) (.s 10))]))
  .ret)))))⟩

def k_laws_toAttr : F := ⟨17, [.cell 2 4 true],
  (.seq (.h [.kill [0]] (.reg false [oo 1 (.box (.s 0)),
   oo 2 (.alloc [.v (.string ⟨#[]⟩), .v (.string ⟨#[]⟩), .v (.string ⟨#[]⟩), .v (.string ⟨#[]⟩)])]))
  (.seq (.reg false [oo 3 (.alloc [.v (.string ⟨#[]⟩), .v (.string ⟨#[]⟩), .v (.string ⟨#[]⟩), .v (.string ⟨#[]⟩)])])
  (.seq (.h [.kill [4, 5, 6]] (.reg false [oo 4 (.fa 0 (.s 1)),
   oo 5 (.ld 1 false (.s 4)),
   oo 6 (.fa 0 (.s 3)),
   on (.st 1 (.s 6) (.s 5))]))
  (.seq (.h [.kill [7, 8, 9]] (.reg false [oo 7 (.fa 1 (.s 1)),
   oo 8 (.ld 1 false (.s 7)),
   oo 9 (.fa 1 (.s 3)),
   on (.st 1 (.s 9) (.s 8))]))
  (.seq (.h [.kill [10, 11, 12]] (.reg false [oo 10 (.fa 2 (.s 1)),
   oo 11 (.ld 1 false (.s 10)),
   oo 12 (.fa 2 (.s 3)),
   on (.st 1 (.s 12) (.s 11))]))
  (.seq (.h [.kill [1, 13, 14, 15]] (.reg false [oo 13 (.fa 3 (.s 1)),
   oo 14 (.ld 1 false (.s 13)),
   oo 15 (.fa 3 (.s 3)),
   on (.st 1 (.s 15) (.s 14))]))
  (.seq (.h [.kill [3, 16]] (.reg false [oo 16 (.ld 4 true (.s 3)),
   on (.st 4 (.s 2) (.s 16))]))
  .ret)))))))⟩

def k_laws_eqDecl : F := ⟨15, [.tmp 4],
  (.seq (.h [.kill [0, 1, 4]] (.reg false [oo 2 (.box (.s 0)),
   oo 3 (.box (.s 1)),
   oo 4 (.mv (.c (.bool false)))]))
  (.seq (.seq (.h [.kill [5, 6, 7, 8]] (.reg false [oo 5 (.fa 0 (.s 2)),
   oo 6 (.ld 1 false (.s 5)),
   oo 7 (.fa 0 (.s 3)),
   oo 8 (.ld 1 false (.s 7)),
   oo 9 (.bin .neq (.s 6) (.s 8))]))
  (.cond (.s 9)
   (.seq (.h [.kill [2, 3, 9]] (.reg false [oo 4 (.mv (.c (.bool false)))]))
   .ret)
   .skip))
  (.seq (.seq (.h [.kill [2, 3, 9, 10, 11, 12, 13]] (.reg false [oo 10 (.fa 1 (.s 2)),
   oo 11 (.ld 1 false (.s 10)),
   oo 12 (.fa 1 (.s 3)),
   oo 13 (.ld 1 false (.s 12)),
   oo 14 (.bin .neq (.s 11) (.s 13))]))
  (.cond (.s 14)
   (.seq (.h [.kill [14]] (.reg false [oo 4 (.mv (.c (.bool false)))]))
   .ret)
   .skip))
  (.seq (.h [.kill [14]] (.reg false [oo 4 (.mv (.c (.bool true)))]))
  .ret))))⟩

def k_laws_eqAttr : F := ⟨25, [.tmp 4],
  (.seq (.h [.kill [0, 1, 4]] (.reg false [oo 2 (.box (.s 0)),
   oo 3 (.box (.s 1)),
   oo 4 (.mv (.c (.bool false)))]))
  (.seq (.seq (.h [.kill [5, 6, 7, 8]] (.reg false [oo 5 (.fa 0 (.s 2)),
   oo 6 (.ld 1 false (.s 5)),
   oo 7 (.fa 0 (.s 3)),
   oo 8 (.ld 1 false (.s 7)),
   oo 9 (.bin .neq (.s 6) (.s 8))]))
  (.cond (.s 9)
   (.seq (.h [.kill [2, 3, 9]] (.reg false [oo 4 (.mv (.c (.bool false)))]))
   .ret)
   .skip))
  (.seq (.seq (.h [.kill [9, 10, 11, 12, 13]] (.reg false [oo 10 (.fa 1 (.s 2)),
   oo 11 (.ld 1 false (.s 10)),
   oo 12 (.fa 1 (.s 3)),
   oo 13 (.ld 1 false (.s 12)),
   oo 14 (.bin .neq (.s 11) (.s 13))]))
  (.cond (.s 14)
   (.seq (.h [.kill [2, 3, 14]] (.reg false [oo 4 (.mv (.c (.bool false)))]))
   .ret)
   .skip))
  (.seq (.seq (.h [.kill [14, 15, 16, 17, 18]] (.reg false [oo 15 (.fa 2 (.s 2)),
   oo 16 (.ld 1 false (.s 15)),
   oo 17 (.fa 2 (.s 3)),
   oo 18 (.ld 1 false (.s 17)),
   oo 19 (.bin .neq (.s 16) (.s 18))]))
  (.cond (.s 19)
   (.seq (.h [.kill [2, 3, 19]] (.reg false [oo 4 (.mv (.c (.bool false)))]))
   .ret)
   .skip))
  (.seq (.seq (.h [.kill [2, 3, 19, 20, 21, 22, 23]] (.reg false [oo 20 (.fa 3 (.s 2)),
   oo 21 (.ld 1 false (.s 20)),
   oo 22 (.fa 3 (.s 3)),
   oo 23 (.ld 1 false (.s 22)),
   oo 24 (.bin .neq (.s 21) (.s 23))]))
  (.cond (.s 24)
   (.seq (.h [.kill [24]] (.reg false [oo 4 (.mv (.c (.bool false)))]))
   .ret)
   .skip))
  (.seq (.h [.kill [24]] (.reg false [oo 4 (.mv (.c (.bool true)))]))
  .ret))))))⟩

def FTT : FTab
  | 7 => some k_laws_FnExactLeast
  | 26 => some k_laws_szNode
  | 28 => some k_laws_toNode
  | 30 => some k_laws_eqNode
  | 31 => some k_spec_Least
  | 32 => some k_impl_Least
  | 37 => some k_laws_szNodeS
  | 39 => some k_laws_toNodeS
  | 41 => some k_laws_eqNodeS
  | 44 => some k_laws_eqDeclS
  | 67 => some k_laws_szDeclS
  | 68 => some k_laws_szAttrS
  | 69 => some k_laws_toDeclS
  | 70 => some k_laws_toAttrS
  | 71 => some k_laws_eqAttrS
  | 72 => some k_spec_CountOf
  | 73 => some k_impl_CountOf
  | 80 => some k_laws_eqDecl
  | 98 => some k_laws_szDecl
  | 99 => some k_laws_szAttr
  | 100 => some k_laws_toDecl
  | 101 => some k_laws_toAttr
  | 102 => some k_laws_eqAttr
  | _ => none
def FTA : Env := ⟨FTT, []⟩
def SSA := And.intro (SS FTA) S3
end TT
