import Derived.Test.YtabghncdppfllaaTNums
set_option linter.unusedVariables false
set_option linter.unusedSimpArgs false
set_option linter.defProp false
set_option maxRecDepth 100000
namespace TT
open Go
def k_laws_FnExactHolds : F := ⟨90, [.tmp 4],
  (.seq (.h [.kill [0, 4]] (.reg false [oo 2 (.box (.s 0)),
   oo 4 (.mv (.c (.bool false)))]))
  (.seq (.seq (.h [.kill [14, 15]] (.reg false [oo 14 (.mv (.s 1)),
   oo 15 (.len false (.s 14)),
   oo 16 (.bin .gtr (.s 15) (.c (.int .i64 1048576)))]))
  (.cond (.s 16)
   (.seq (.h [.kill [1, 2, 16]] (.reg false [oo 4 (.mv (.c (.bool true)))]))
   .ret)
   .skip))
  (.seq (.h [.kill [16]] (.reg false [oo 5 (.mv (.c (.int .i64 1048576)))]))
  (.seq (.h [.kill [17, 18, 19]] (.reg false [oo 17 (.ld 8 true (.s 2)),
   oo 18 (.mv (.s 5)),
   oo 19 (.call n_laws_szNode [] [] [(.s 17), (.s 18)]),
   oo 5 (.mv (.s 19))]))
  (.seq (.seq (.h [.kill [5, 20]] (.reg false [oo 20 (.mv (.s 5)),
   oo 21 (.bin .lss (.s 20) (.c (.int .i64 0)))]))
  (.cond (.s 21)
   (.seq (.h [.kill [1, 2, 21]] (.reg false [oo 4 (.mv (.c (.bool true)))]))
   .ret)
   .skip))
  (.seq (.h [.kill [21, 22, 23, 24, 25, 26]] (.reg false [oo 22 (.ld 8 true (.s 2)),
   oo 23 (.call n_laws_toNode [] [] [(.s 22)]),
   oo 24 (.mv (.s 1)),
   oo 25 (.call n_laws_toIntS [] [] [(.s 24)]),
   oo 26 (.call n_spec_Holds [] [] [(.s 23), (.s 25)]),
   oo 6 (.mv (.s 26))]))
  (.seq (.h [.kill [27, 28]] (.reg false [oo 27 (.ld 8 true (.s 2)),
   oo 28 (.call n_laws_toNode [] [true] [(.s 27)]),
   oo 7 (.alloc [.v (.int .i64 0), .v (.string ⟨#[]⟩), .v (.string ⟨#[]⟩), .v (.string ⟨#[]⟩), .sl true [], .sl true [], .sl true [], .v (.string ⟨#[]⟩)]),
   oo 7 (.vst 8 (.s 7) (.s 28))]))
  (.seq (.h [.kill [29, 30]] (.reg false [oo 29 (.mv (.s 1)),
   oo 30 (.call n_laws_toIntS [] [true] [(.s 29)]),
   oo 8 (.mv (.s 30))]))
  (.seq (.h [.kill [31, 32, 33]] (.reg false [oo 31 (.ld 8 true (.s 7)),
   oo 32 (.mv (.s 8)),
   oo 33 (.call n_impl_Holds [] [true] [(.s 31), (.s 32)]),
   oo 9 (.mv (.s 33))]))
  (.seq (.seq (.h [.kill [34, 35, 36]] (.reg false [oo 34 (.mv (.s 9)),
   oo 35 (.mv (.s 6)),
   oo 36 (.call n_laws_eqDeclS [] [] [(.s 34), (.s 35)]),
   oo 37 (.un .not (.s 36))]))
  (.cond (.s 37)
   (.seq (.h [.kill [1, 2, 6, 7, 8, 9, 37]] (.reg false [oo 4 (.mv (.c (.bool false)))]))
   .ret)
   .skip))
  (.seq (.seq (.h [.kill [37, 38, 39, 40, 41]] (.reg true [⟨some 38, none, .ld 8 true (.s 7), [7, 28], []⟩,
   ⟨some 39, none, .ld 8 true (.s 2), [2], []⟩,
   ⟨some 40, none, .call n_laws_toNode [] [true] [(.s 39)], [2], [40]⟩,
   ⟨some 41, none, .call n_laws_eqNode [] [] [(.s 38), (.s 40)], [7, 28, 40], []⟩,
   ⟨some 42, none, .un .not (.s 41), [], []⟩]))
  (.cond (.s 42)
   (.seq (.h [.kill [1, 2, 6, 7, 8, 9, 42]] (.reg false [oo 4 (.mv (.c (.bool false)))]))
   .ret)
   .skip))
  (.seq (.seq (.h [.kill [42, 43, 44, 45, 46]] (.reg false [oo 43 (.mv (.s 8)),
   oo 44 (.mv (.s 1)),
   oo 45 (.call n_laws_toIntS [] [true] [(.s 44)]),
   oo 46 (.call n_laws_eqIntS [] [] [(.s 43), (.s 45)]),
   oo 47 (.un .not (.s 46))]))
  (.cond (.s 47)
   (.seq (.h [.kill [1, 2, 6, 7, 8, 9, 47]] (.reg false [oo 4 (.mv (.c (.bool false)))]))
   .ret)
   .skip))
  (.seq (.h [.kill [47]] (.reg false [oo 10 (.mv (.c (.int .i64 1)))]))
  (.seq (.h [.kill [7, 48, 49, 50]] (.reg false [oo 48 (.ld 8 true (.s 7)),
   oo 49 (.mv (.s 10)),
   oo 50 (.call n_laws_markNode [.ref] [] [(.s 48), (.s 49)]),
   oo 10 (.mv (.s 50))]))
  (.seq (.h [.kill [8, 51, 52, 53]] (.reg false [oo 51 (.mv (.s 8)),
   oo 52 (.mv (.s 10)),
   oo 53 (.call n_laws_markIntS [.ref] [] [(.s 51), (.s 52)]),
   oo 10 (.mv (.s 53))]))
  (.seq (.seq (.h [.kill [10, 54, 55, 56, 57, 58, 59, 60]] (.reg false [oo 54 (.mv (.s 10)),
   oo 55 (.bin .lss (.s 54) (.c (.int .i64 0))),
   oo 56 (.mv (.s 55)),
   ow 57 56 false (.mv (.s 9)),
   ow 58 56 false (.mv (.s 6)),
   ow 59 56 false (.call n_laws_eqDeclS [] [] [(.s 57), (.s 58)]),
   ow 60 56 false (.un .not (.s 59)),
   oo 61 (.pick (.s 56) (.c (.bool true)) (.s 60))]))
  (.cond (.s 61)
   (.seq (.h [.kill [1, 2, 6, 9, 61]] (.reg false [oo 4 (.mv (.c (.bool false)))]))
   .ret)
   .skip))
  (.seq (.h [.kill [61]] (.reg false [oo 11 (.mv (.c (.int .i64 1)))]))
  (.seq (.h [.kill [62, 63, 64]] (.reg false [oo 62 (.mv (.s 9)),
   oo 63 (.mv (.s 11)),
   oo 64 (.call n_laws_markDeclS [.ref] [] [(.s 62), (.s 63)]),
   oo 11 (.mv (.s 64))]))
  (.seq (.reg false [oo 12 (.mv (.c (.int .i64 1)))])
  (.seq (.h [.kill [65, 66, 67]] (.reg false [oo 65 (.mv (.s 9)),
   oo 66 (.mv (.s 12)),
   oo 67 (.call n_laws_heldDeclS [] [] [(.s 65), (.s 66)]),
   oo 12 (.mv (.s 67))]))
  (.seq (.seq (.h [.kill [68]] (.reg false [oo 68 (.mv (.s 12)),
   oo 69 (.bin .lss (.s 68) (.c (.int .i64 0)))]))
  (.cond (.s 69)
   (.seq (.h [.kill [1, 2, 6, 9, 11, 12, 69]] (.reg false [oo 4 (.mv (.c (.bool false)))]))
   .ret)
   .skip))
  (.seq (.seq (.h [.kill [12, 69, 70, 71]] (.reg false [oo 70 (.mv (.s 12)),
   oo 71 (.mv (.s 11)),
   oo 72 (.bin .neq (.s 70) (.s 71))]))
  (.cond (.s 72)
   (.seq (.h [.kill [1, 2, 6, 9, 11, 72]] (.reg false [oo 4 (.mv (.c (.bool false)))]))
   .ret)
   .skip))
  (.seq (.h [.kill [1, 2, 72, 73, 74, 75, 76, 77]] (.reg false [oo 73 (.ld 8 true (.s 2)),
   oo 74 (.call n_laws_toNode [] [true] [(.s 73)]),
   oo 75 (.mv (.s 1)),
   oo 76 (.call n_laws_toIntS [] [true] [(.s 75)]),
   oo 77 (.call n_impl_Holds [] [true] [(.s 74), (.s 76)]),
   oo 13 (.mv (.s 77))]))
  (.seq (.seq (.h [.kill [6, 13, 78, 79, 80]] (.reg false [oo 78 (.mv (.s 13)),
   oo 79 (.mv (.s 6)),
   oo 80 (.call n_laws_eqDeclS [] [] [(.s 78), (.s 79)]),
   oo 81 (.un .not (.s 80))]))
  (.cond (.s 81)
   (.seq (.h [.kill [9, 11, 81]] (.reg false [oo 4 (.mv (.c (.bool false)))]))
   .ret)
   .skip))
  (.seq (.h [.kill [81]] (.reg false [oo 12 (.mv (.c (.int .i64 1)))]))
  (.seq (.h [.kill [9, 82, 83, 84]] (.reg false [oo 82 (.mv (.s 9)),
   oo 83 (.mv (.s 12)),
   oo 84 (.call n_laws_heldDeclS [] [] [(.s 82), (.s 83)]),
   oo 12 (.mv (.s 84))]))
  (.seq (.seq (.h [.kill [85]] (.reg false [oo 85 (.mv (.s 12)),
   oo 86 (.bin .lss (.s 85) (.c (.int .i64 0)))]))
  (.cond (.s 86)
   (.seq (.h [.kill [11, 12, 86]] (.reg false [oo 4 (.mv (.c (.bool false)))]))
   .ret)
   .skip))
  (.seq (.seq (.h [.kill [11, 12, 86, 87, 88]] (.reg false [oo 87 (.mv (.s 12)),
   oo 88 (.mv (.s 11)),
   oo 89 (.bin .neq (.s 87) (.s 88))]))
  (.cond (.s 89)
   (.seq (.h [.kill [89]] (.reg false [oo 4 (.mv (.c (.bool false)))]))
   .ret)
   .skip))
  (.seq (.h [.kill [89]] (.reg false [oo 4 (.mv (.c (.bool true)))]))
  .ret)))))))))))))))))))))))))))))⟩

def k_laws_szNode : F := ⟨52, [.tmp 4],
  (.seq (.h [.kill [0, 4]] (.reg false [oo 2 (.box (.s 0)),
   oo 4 (.mv (.c (.int .i64 0)))]))
  (.seq (.h [.kill [5, 6, 7, 8, 9]] (.reg false [oo 5 (.mv (.s 1)),
   oo 6 (.fa 1 (.s 2)),
   oo 7 (.ld 1 false (.s 6)),
   oo 8 (.len true (.s 7)),
   oo 9 (.bin .sub (.s 5) (.s 8)),
   oo 1 (.mv (.s 9))]))
  (.seq (.seq (.h [.kill [10]] (.reg false [oo 10 (.mv (.s 1)),
   oo 11 (.bin .lss (.s 10) (.c (.int .i64 0)))]))
  (.cond (.s 11)
   (.seq (.h [.kill [1, 2, 11]] (.reg false [oo 4 (.mv (.c (.int .i64 (-1))))]))
   .ret)
   .skip))
  (.seq (.h [.kill [11, 12, 13, 14, 15, 16]] (.reg false [oo 12 (.mv (.s 1)),
   oo 13 (.fa 2 (.s 2)),
   oo 14 (.ld 1 false (.s 13)),
   oo 15 (.len true (.s 14)),
   oo 16 (.bin .sub (.s 12) (.s 15)),
   oo 1 (.mv (.s 16))]))
  (.seq (.seq (.h [.kill [17]] (.reg false [oo 17 (.mv (.s 1)),
   oo 18 (.bin .lss (.s 17) (.c (.int .i64 0)))]))
  (.cond (.s 18)
   (.seq (.h [.kill [1, 2, 18]] (.reg false [oo 4 (.mv (.c (.int .i64 (-1))))]))
   .ret)
   .skip))
  (.seq (.h [.kill [18, 19, 20, 21, 22, 23]] (.reg false [oo 19 (.mv (.s 1)),
   oo 20 (.fa 3 (.s 2)),
   oo 21 (.ld 1 false (.s 20)),
   oo 22 (.len true (.s 21)),
   oo 23 (.bin .sub (.s 19) (.s 22)),
   oo 1 (.mv (.s 23))]))
  (.seq (.seq (.h [.kill [24]] (.reg false [oo 24 (.mv (.s 1)),
   oo 25 (.bin .lss (.s 24) (.c (.int .i64 0)))]))
  (.cond (.s 25)
   (.seq (.h [.kill [1, 2, 25]] (.reg false [oo 4 (.mv (.c (.int .i64 (-1))))]))
   .ret)
   .skip))
  (.seq (.h [.kill [25, 26, 27, 28, 29]] (.reg false [oo 26 (.fa 4 (.s 2)),
   oo 27 (.ld 1 false (.s 26)),
   oo 28 (.mv (.s 1)),
   oo 29 (.call n_laws_szDeclS [] [] [(.s 27), (.s 28)]),
   oo 1 (.mv (.s 29))]))
  (.seq (.seq (.h [.kill [30]] (.reg false [oo 30 (.mv (.s 1)),
   oo 31 (.bin .lss (.s 30) (.c (.int .i64 0)))]))
  (.cond (.s 31)
   (.seq (.h [.kill [1, 2, 31]] (.reg false [oo 4 (.mv (.c (.int .i64 (-1))))]))
   .ret)
   .skip))
  (.seq (.h [.kill [31, 32, 33, 34, 35]] (.reg false [oo 32 (.fa 5 (.s 2)),
   oo 33 (.ld 1 false (.s 32)),
   oo 34 (.mv (.s 1)),
   oo 35 (.call n_laws_szAttrS [] [] [(.s 33), (.s 34)]),
   oo 1 (.mv (.s 35))]))
  (.seq (.seq (.h [.kill [36]] (.reg false [oo 36 (.mv (.s 1)),
   oo 37 (.bin .lss (.s 36) (.c (.int .i64 0)))]))
  (.cond (.s 37)
   (.seq (.h [.kill [1, 2, 37]] (.reg false [oo 4 (.mv (.c (.int .i64 (-1))))]))
   .ret)
   .skip))
  (.seq (.h [.kill [37, 38, 39, 40, 41]] (.reg false [oo 38 (.fa 6 (.s 2)),
   oo 39 (.ld 1 false (.s 38)),
   oo 40 (.mv (.s 1)),
   oo 41 (.call n_laws_szNodeS [] [] [(.s 39), (.s 40)]),
   oo 1 (.mv (.s 41))]))
  (.seq (.seq (.h [.kill [42]] (.reg false [oo 42 (.mv (.s 1)),
   oo 43 (.bin .lss (.s 42) (.c (.int .i64 0)))]))
  (.cond (.s 43)
   (.seq (.h [.kill [1, 2, 43]] (.reg false [oo 4 (.mv (.c (.int .i64 (-1))))]))
   .ret)
   .skip))
  (.seq (.h [.kill [2, 43, 44, 45, 46, 47, 48]] (.reg false [oo 44 (.mv (.s 1)),
   oo 45 (.fa 7 (.s 2)),
   oo 46 (.ld 1 false (.s 45)),
   oo 47 (.len true (.s 46)),
   oo 48 (.bin .sub (.s 44) (.s 47)),
   oo 1 (.mv (.s 48))]))
  (.seq (.seq (.h [.kill [49]] (.reg false [oo 49 (.mv (.s 1)),
   oo 50 (.bin .lss (.s 49) (.c (.int .i64 0)))]))
  (.cond (.s 50)
   (.seq (.h [.kill [1, 50]] (.reg false [oo 4 (.mv (.c (.int .i64 (-1))))]))
   .ret)
   .skip))
  (.seq (.h [.kill [1, 50, 51]] (.reg false [oo 51 (.mv (.s 1)),
   oo 4 (.mv (.s 51))]))
  .ret))))))))))))))))⟩

def k_laws_toNode : F := ⟨32, [.cell 2 8 true],
  (.seq (.h [.kill [0]] (.reg false [oo 1 (.box (.s 0)),
   oo 2 (.alloc [.v (.int .i64 0), .v (.string ⟨#[]⟩), .v (.string ⟨#[]⟩), .v (.string ⟨#[]⟩), .sl true [], .sl true [], .sl true [], .v (.string ⟨#[]⟩)])]))
  (.seq (.reg false [oo 3 (.alloc [.v (.int .i64 0), .v (.string ⟨#[]⟩), .v (.string ⟨#[]⟩), .v (.string ⟨#[]⟩), .sl true [], .sl true [], .sl true [], .v (.string ⟨#[]⟩)])])
  (.seq (.h [.kill [4, 5, 6]] (.reg false [oo 4 (.fa 0 (.s 1)),
   oo 5 (.ld 1 false (.s 4)),
   oo 6 (.fa 0 (.s 3)),
   on (.st 1 (.s 6) (.s 5))]))
  (.seq (.h [.kill [7, 8, 9]] (.reg false [oo 7 (.fa 1 (.s 1)),
   oo 8 (.ld 1 false (.s 7)),
   oo 9 (.fa 1 (.s 3)),
   on (.st 1 (.s 9) (.s 8))]))
  (.seq (.h [.kill [10, 11, 12]] (.reg false [oo 10 (.fa 2 (.s 1)),
   oo 11 (.ld 1 false (.s 10)),
   oo 12 (.fa 2 (.s 3)),
   on (.st 1 (.s 12) (.s 11))]))
  (.seq (.h [.kill [13, 14, 15]] (.reg false [oo 13 (.fa 3 (.s 1)),
   oo 14 (.ld 1 false (.s 13)),
   oo 15 (.fa 3 (.s 3)),
   on (.st 1 (.s 15) (.s 14))]))
  (.seq (.h [.kill [16, 17, 18, 19]] (.reg false [oo 16 (.fa 4 (.s 1)),
   oo 17 (.ld 1 false (.s 16)),
   oo 18 (.call n_laws_toDeclS [] [true] [(.s 17)]),
   oo 19 (.fa 4 (.s 3)),
   on (.st 1 (.s 19) (.s 18))]))
  (.seq (.h [.kill [20, 21, 22, 23]] (.reg false [oo 20 (.fa 5 (.s 1)),
   oo 21 (.ld 1 false (.s 20)),
   oo 22 (.call n_laws_toAttrS [] [true] [(.s 21)]),
   oo 23 (.fa 5 (.s 3)),
   on (.st 1 (.s 23) (.s 22))]))
  (.seq (.h [.kill [24, 25, 26, 27]] (.reg false [oo 24 (.fa 6 (.s 1)),
   oo 25 (.ld 1 false (.s 24)),
   oo 26 (.call n_laws_toNodeS [] [true] [(.s 25)]),
   oo 27 (.fa 6 (.s 3)),
   on (.st 1 (.s 27) (.s 26))]))
  (.seq (.h [.kill [1, 28, 29, 30]] (.reg false [oo 28 (.fa 7 (.s 1)),
   oo 29 (.ld 1 false (.s 28)),
   oo 30 (.fa 7 (.s 3)),
   on (.st 1 (.s 30) (.s 29))]))
  (.seq (.h [.kill [3, 31]] (.reg false [oo 31 (.ld 8 true (.s 3)),
   on (.st 8 (.s 2) (.s 31))]))
  .ret)))))))))))⟩

def k_laws_toIntS_l8 : K :=
  (.h [.clean []] (.seq (.seq (.h [.kill [8, 9, 10]] (.reg false [oo 8 (.mv (.s 4)),
   oo 9 (.mv (.s 0)),
   oo 10 (.len false (.s 9)),
   oo 11 (.bin .lss (.s 8) (.s 10))]))
  (.cond (.s 11)
   .skip
   (.ex 0)))
  (.seq (.blk 1
   (.h [.kill [11, 14, 15, 16, 17, 18, 19, 20]] (.reg false [oo 14 (.mv (.s 3)),
    oo 15 (.mv (.s 4)),
    oo 16 (.mv (.s 0)),
    oo 17 (.mv (.s 4)),
    oo 18 (.ia 1 (.s 16) (.s 17)),
    oo 19 (.ld 1 false (.s 18)),
    oo 20 (.ia 1 (.s 14) (.s 15)),
    on (.st 1 (.s 20) (.s 19))])))
  (.h [.kill [12, 13]] (.reg false [oo 12 (.mv (.s 4)),
   oo 13 (.bin .add (.s 12) (.c (.int .i64 1))),
   oo 4 (.mv (.s 13))])))))
def k_laws_toIntS_r4 : K :=
  (.seq (.h [.kill [0, 3, 4, 11, 21]] (.reg false [oo 21 (.mv (.s 3)),
   oo 2 (.mv (.s 21))]))
  .ret)
def k_laws_toIntS : F := ⟨22, [.tmp 2],
  (.seq (.h [.kill [2]] (.reg false [oo 2 (.mv (.c (.slice none 0 0)))]))
  (.seq (.h [.kill [5, 6, 7]] (.reg false [oo 5 (.mv (.s 0)),
   oo 6 (.len false (.s 5)),
   oo 7 (.mks [.v (.int .i64 0)] 8 (.s 6)),
   oo 3 (.mv (.s 7))]))
  (.seq (.seq (.h [.clean []] (.reg false [oo 4 (.mv (.c (.int .i64 0)))]))
  (.blk 0
   (.loop k_laws_toIntS_l8)))
  k_laws_toIntS_r4)))⟩

def k_spec_Holds_l20 : K :=
  (.h [.freeze 5, .clean [10, 30]] (.seq (.seq (.h [.kill [21, 22, 23]] (.reg false [oo 21 (.mv (.s 9)),
   oo 22 (.mv (.s 1)),
   oo 23 (.len false (.s 22)),
   oo 24 (.bin .leq (.s 21) (.s 23))]))
  (.cond (.s 24)
   .skip
   (.ex 0)))
  (.seq (.blk 1
   (.seq (.h [.kill [24, 27, 28, 29, 30]] (.reg false [oo 27 (.mv (.s 5)),
    oo 28 (.fa 4 (.s 8)),
    oo 29 (.ld 1 false (.s 28)),
    oo 30 (.call n_spec_Inner [] [true] [(.s 27), (.s 29)]),
    oo 5 (.mv (.s 30))]))
   (.seq (.h [.kill [31, 32, 33]] (.reg false [oo 31 (.mv (.s 9)),
    oo 32 (.mv (.s 1)),
    oo 33 (.len false (.s 32)),
    oo 34 (.bin .lss (.s 31) (.s 33))]))
   (.cond (.s 34)
    (.h [.kill [34, 35, 36, 37, 38, 39, 40, 41, 42]] (.reg true [⟨some 35, none, .fa 6 (.s 8), [], []⟩,
     ⟨some 36, none, .ld 1 false (.s 35), [8], []⟩,
     ⟨some 37, none, .mv (.s 1), [], []⟩,
     ⟨some 38, none, .mv (.s 9), [], []⟩,
     ⟨some 39, none, .ia 1 (.s 37) (.s 38), [1], []⟩,
     ⟨some 40, none, .ld 1 false (.s 39), [1], []⟩,
     ⟨some 41, none, .ia 8 (.s 36) (.s 40), [8], []⟩,
     ⟨some 42, none, .ld 8 true (.s 41), [1, 8], []⟩,
     ⟨none, none, .st 8 (.s 8) (.s 42), [], [1, 8]⟩]))
    .skip))))
  (.h [.kill [25, 26, 34]] (.reg false [oo 25 (.mv (.s 9)),
   oo 26 (.bin .add (.s 25) (.c (.int .i64 1))),
   oo 9 (.mv (.s 26))])))))
def k_spec_Holds_r16 : K :=
  (.seq (.h [.kill [1, 5, 8, 9, 24, 43]] (.reg false [oo 43 (.mv (.s 5)),
   oo 4 (.mv (.s 43))]))
  .ret)
def k_spec_Holds : F := ⟨44, [.tmp 4],
  (.seq (.h [.kill [0, 4]] (.reg false [oo 2 (.box (.s 0)),
   oo 4 (.mv (.c (.slice none 0 0)))]))
  (.seq (.h [.kill [10]] (.reg false [oo 10 (.bsl 2 []),
   oo 5 (.mv (.s 10))]))
  (.seq (.seq (.h [.kill [6, 11, 12, 13, 14, 15, 16]] (.reg false [oo 12 (.ld 8 true (.s 2)),
   oo 13 (.mv (.s 1)),
   oo 14 (.call n_spec_NodeAt [] [true] [(.s 12), (.s 13)]),
   oo 11 (.mv (.s 14)),
   oo 15 (.ext (.s 11) 0),
   oo 16 (.ext (.s 11) 1),
   oo 6 (.alloc [.v (.int .i64 0), .v (.string ⟨#[]⟩), .v (.string ⟨#[]⟩), .v (.string ⟨#[]⟩), .sl true [], .sl true [], .sl true [], .v (.string ⟨#[]⟩)]),
   on (.st 8 (.s 6) (.s 15)),
   oo 7 (.mv (.s 16))]))
  (.seq (.h [.kill [7, 17]] (.reg false [oo 17 (.mv (.s 7)),
   oo 18 (.un .not (.s 17))]))
  (.cond (.s 18)
   (.seq (.h [.freeze 4, .kill [1, 2, 5, 18, 19]] (.reg false [oo 19 (.mv (.s 5)),
    oo 4 (.mv (.s 19))]))
   .ret)
   .skip)))
  (.seq (.h [.kill [2, 18, 20]] (.reg false [oo 20 (.ld 8 true (.s 2)),
   oo 8 (.alloc [.v (.int .i64 0), .v (.string ⟨#[]⟩), .v (.string ⟨#[]⟩), .v (.string ⟨#[]⟩), .sl true [], .sl true [], .sl true [], .v (.string ⟨#[]⟩)]),
   on (.st 8 (.s 8) (.s 20))]))
  (.seq (.seq (.h [.freeze 5, .clean [2, 6, 10, 14]] (.reg false [oo 9 (.mv (.c (.int .i64 0)))]))
  (.blk 0
   (.loop k_spec_Holds_l20)))
  k_spec_Holds_r16)))))⟩

def k_impl_Holds_l18 : K :=
  (.h [.clean []] (.seq (.reg false [oo 24 (.bin .lss (.s 23) (.s 22))])
  (.seq (.cond (.s 24)
   .skip
   (.ex 0))
  (.seq (.blk 1
   (.seq (.h [.kill [24, 25, 26]] (.reg false [oo 25 (.ia 1 (.s 21) (.s 23)),
    oo 26 (.ld 1 false (.s 25)),
    oo 9 (.mv (.s 26))]))
   (.seq (.h [.kill [9, 27, 28, 29, 30, 31]] (.reg false [oo 27 (.fa 6 (.s 2)),
    oo 28 (.ld 1 false (.s 27)),
    oo 29 (.mv (.s 9)),
    oo 30 (.ia 8 (.s 28) (.s 29)),
    oo 31 (.ld 8 true (.s 30)),
    on (.st 8 (.s 2) (.s 31))]))
   (.h [.kill [32, 33, 34, 35]] (.reg false [oo 32 (.mv (.s 7)),
    oo 33 (.fa 4 (.s 2)),
    oo 34 (.ld 1 false (.s 33)),
    oo 35 (.app 2 32 (.s 32) (.s 34)),
    oo 7 (.mv (.s 35))])))))
  (.h [.kill [36]] (.reg false [oo 36 (.bin .add (.s 23) (.c (.int .i64 1))),
   oo 23 (.mv (.s 36))]))))))
def k_impl_Holds_r14 : K :=
  (.seq (.h [.kill [2, 7, 21, 22, 23, 24, 37]] (.reg false [oo 37 (.mv (.s 7)),
   oo 4 (.mv (.s 37))]))
  .ret)
def k_impl_Holds : F := ⟨38, [.tmp 4],
  (.seq (.h [.kill [0, 4]] (.reg false [oo 2 (.box (.s 0)),
   oo 4 (.mv (.c (.slice none 0 0)))]))
  (.seq (.seq (.h [.kill [5, 10, 11, 12, 13, 14, 15]] (.reg false [oo 11 (.ld 8 true (.s 2)),
   oo 12 (.mv (.s 1)),
   oo 13 (.call n_impl_NodeAt [] [true] [(.s 11), (.s 12)]),
   oo 10 (.mv (.s 13)),
   oo 14 (.ext (.s 10) 0),
   oo 15 (.ext (.s 10) 1),
   oo 5 (.alloc [.v (.int .i64 0), .v (.string ⟨#[]⟩), .v (.string ⟨#[]⟩), .v (.string ⟨#[]⟩), .sl true [], .sl true [], .sl true [], .v (.string ⟨#[]⟩)]),
   on (.st 8 (.s 5) (.s 14)),
   oo 6 (.mv (.s 15))]))
  (.seq (.h [.kill [6, 16]] (.reg false [oo 16 (.mv (.s 6)),
   oo 17 (.un .not (.s 16))]))
  (.cond (.s 17)
   (.seq (.h [.kill [1, 2, 17]] (.reg false [oo 4 (.mv (.c (.slice none 0 0)))]))
   .ret)
   .skip)))
  (.seq (.h [.kill [17, 18, 19, 20]] (.reg false [oo 18 (.fa 4 (.s 2)),
   oo 19 (.ld 1 false (.s 18)),
   oo 20 (.call n_slices_Clone_Decl [] [true] [(.s 19)]),
   oo 7 (.mv (.s 20))]))
  (.seq (.seq (.h [.clean [5, 13]] (.h [.kill [1]] (.reg false [oo 21 (.mv (.s 1)),
   oo 22 (.len false (.s 21)),
   oo 23 (.mv (.c (.int .i64 0)))])))
  (.blk 0
   (.loop k_impl_Holds_l18)))
  k_impl_Holds_r14))))⟩

def k_laws_eqDeclS_l14 : K :=
  (.h [.clean []] (.seq (.seq (.h [.kill [11, 12, 13]] (.reg false [oo 11 (.mv (.s 5)),
   oo 12 (.mv (.s 0)),
   oo 13 (.len false (.s 12)),
   oo 14 (.bin .lss (.s 11) (.s 13))]))
  (.cond (.s 14)
   .skip
   (.ex 0)))
  (.seq (.blk 1
   (.seq (.h [.kill [14, 17, 18, 19, 20, 21, 22, 23, 24, 25]] (.reg true [⟨some 17, none, .mv (.s 0), [], []⟩,
    ⟨some 18, none, .mv (.s 5), [], []⟩,
    ⟨some 19, none, .ia 2 (.s 17) (.s 18), [0], []⟩,
    ⟨some 20, none, .ld 2 true (.s 19), [0], []⟩,
    ⟨some 21, none, .mv (.s 1), [], []⟩,
    ⟨some 22, none, .mv (.s 5), [], []⟩,
    ⟨some 23, none, .ia 2 (.s 21) (.s 22), [1], []⟩,
    ⟨some 24, none, .ld 2 true (.s 23), [1], []⟩,
    ⟨some 25, none, .call n_laws_eqDecl [] [] [(.s 20), (.s 24)], [0, 1], []⟩,
    ⟨some 26, none, .un .not (.s 25), [], []⟩]))
   (.cond (.s 26)
    (.seq (.h [.kill [0, 1, 5, 26]] (.reg false [oo 4 (.mv (.c (.bool false)))]))
    .ret)
    .skip)))
  (.h [.kill [15, 16, 26]] (.reg false [oo 15 (.mv (.s 5)),
   oo 16 (.bin .add (.s 15) (.c (.int .i64 1))),
   oo 5 (.mv (.s 16))])))))
def k_laws_eqDeclS_r10 : K :=
  (.seq (.h [.kill [0, 1, 5, 14]] (.reg false [oo 4 (.mv (.c (.bool true)))]))
  .ret)
def k_laws_eqDeclS : F := ⟨27, [.tmp 4],
  (.seq (.h [.kill [4]] (.reg false [oo 4 (.mv (.c (.bool false)))]))
  (.seq (.seq (.h [.kill [6, 7, 8, 9]] (.reg false [oo 6 (.mv (.s 0)),
   oo 7 (.len false (.s 6)),
   oo 8 (.mv (.s 1)),
   oo 9 (.len false (.s 8)),
   oo 10 (.bin .neq (.s 7) (.s 9))]))
  (.cond (.s 10)
   (.seq (.h [.kill [0, 1, 10]] (.reg false [oo 4 (.mv (.c (.bool false)))]))
   .ret)
   .skip))
  (.seq (.seq (.h [.clean []] (.h [.kill [10]] (.reg false [oo 5 (.mv (.c (.int .i64 0)))])))
  (.blk 0
   (.loop k_laws_eqDeclS_l14)))
  k_laws_eqDeclS_r10)))⟩

def k_laws_eqNode : F := ⟨48, [.tmp 4],
  (.seq (.h [.kill [0, 1, 4]] (.reg false [oo 2 (.box (.s 0)),
   oo 3 (.box (.s 1)),
   oo 4 (.mv (.c (.bool false)))]))
  (.seq (.seq (.h [.kill [5, 6, 7, 8]] (.reg false [oo 5 (.fa 0 (.s 2)),
   oo 6 (.ld 1 false (.s 5)),
   oo 7 (.fa 0 (.s 3)),
   oo 8 (.ld 1 false (.s 7)),
   oo 9 (.bin .neq (.s 6) (.s 8))]))
  (.cond (.s 9)
   (.seq (.h [.kill [2, 3, 9]] (.reg false [oo 4 (.mv (.c (.bool false)))]))
   .ret)
   .skip))
  (.seq (.seq (.h [.kill [9, 10, 11, 12, 13]] (.reg false [oo 10 (.fa 1 (.s 2)),
   oo 11 (.ld 1 false (.s 10)),
   oo 12 (.fa 1 (.s 3)),
   oo 13 (.ld 1 false (.s 12)),
   oo 14 (.bin .neq (.s 11) (.s 13))]))
  (.cond (.s 14)
   (.seq (.h [.kill [2, 3, 14]] (.reg false [oo 4 (.mv (.c (.bool false)))]))
   .ret)
   .skip))
  (.seq (.seq (.h [.kill [14, 15, 16, 17, 18]] (.reg false [oo 15 (.fa 2 (.s 2)),
   oo 16 (.ld 1 false (.s 15)),
   oo 17 (.fa 2 (.s 3)),
   oo 18 (.ld 1 false (.s 17)),
   oo 19 (.bin .neq (.s 16) (.s 18))]))
  (.cond (.s 19)
   (.seq (.h [.kill [2, 3, 19]] (.reg false [oo 4 (.mv (.c (.bool false)))]))
   .ret)
   .skip))
  (.seq (.seq (.h [.kill [19, 20, 21, 22, 23]] (.reg false [oo 20 (.fa 3 (.s 2)),
   oo 21 (.ld 1 false (.s 20)),
   oo 22 (.fa 3 (.s 3)),
   oo 23 (.ld 1 false (.s 22)),
   oo 24 (.bin .neq (.s 21) (.s 23))]))
  (.cond (.s 24)
   (.seq (.h [.kill [2, 3, 24]] (.reg false [oo 4 (.mv (.c (.bool false)))]))
   .ret)
   .skip))
  (.seq (.seq (.h [.kill [24, 25, 26, 27, 28, 29]] (.reg false [oo 25 (.fa 4 (.s 2)),
   oo 26 (.ld 1 false (.s 25)),
   oo 27 (.fa 4 (.s 3)),
   oo 28 (.ld 1 false (.s 27)),
   oo 29 (.call n_laws_eqDeclS [] [] [(.s 26), (.s 28)]),
   oo 30 (.un .not (.s 29))]))
  (.cond (.s 30)
   (.seq (.h [.kill [2, 3, 30]] (.reg false [oo 4 (.mv (.c (.bool false)))]))
   .ret)
   .skip))
  (.seq (.seq (.h [.kill [30, 31, 32, 33, 34, 35]] (.reg false [oo 31 (.fa 5 (.s 2)),
   oo 32 (.ld 1 false (.s 31)),
   oo 33 (.fa 5 (.s 3)),
   oo 34 (.ld 1 false (.s 33)),
   oo 35 (.call n_laws_eqAttrS [] [] [(.s 32), (.s 34)]),
   oo 36 (.un .not (.s 35))]))
  (.cond (.s 36)
   (.seq (.h [.kill [2, 3, 36]] (.reg false [oo 4 (.mv (.c (.bool false)))]))
   .ret)
   .skip))
  (.seq (.seq (.h [.kill [36, 37, 38, 39, 40, 41]] (.reg false [oo 37 (.fa 6 (.s 2)),
   oo 38 (.ld 1 false (.s 37)),
   oo 39 (.fa 6 (.s 3)),
   oo 40 (.ld 1 false (.s 39)),
   oo 41 (.call n_laws_eqNodeS [] [] [(.s 38), (.s 40)]),
   oo 42 (.un .not (.s 41))]))
  (.cond (.s 42)
   (.seq (.h [.kill [2, 3, 42]] (.reg false [oo 4 (.mv (.c (.bool false)))]))
   .ret)
   .skip))
  (.seq (.seq (.h [.kill [2, 3, 42, 43, 44, 45, 46]] (.reg false [oo 43 (.fa 7 (.s 2)),
   oo 44 (.ld 1 false (.s 43)),
   oo 45 (.fa 7 (.s 3)),
   oo 46 (.ld 1 false (.s 45)),
   oo 47 (.bin .neq (.s 44) (.s 46))]))
  (.cond (.s 47)
   (.seq (.h [.kill [47]] (.reg false [oo 4 (.mv (.c (.bool false)))]))
   .ret)
   .skip))
  (.seq (.h [.kill [47]] (.reg false [oo 4 (.mv (.c (.bool true)))]))
  .ret))))))))))⟩

def k_laws_eqIntS_l14 : K :=
  (.h [.clean []] (.seq (.seq (.h [.kill [11, 12, 13]] (.reg false [oo 11 (.mv (.s 5)),
   oo 12 (.mv (.s 0)),
   oo 13 (.len false (.s 12)),
   oo 14 (.bin .lss (.s 11) (.s 13))]))
  (.cond (.s 14)
   .skip
   (.ex 0)))
  (.seq (.blk 1
   (.seq (.h [.kill [14, 17, 18, 19, 20, 21, 22, 23, 24]] (.reg true [⟨some 17, none, .mv (.s 0), [], []⟩,
    ⟨some 18, none, .mv (.s 5), [], []⟩,
    ⟨some 19, none, .ia 1 (.s 17) (.s 18), [0], []⟩,
    ⟨some 20, none, .ld 1 false (.s 19), [0], []⟩,
    ⟨some 21, none, .mv (.s 1), [], []⟩,
    ⟨some 22, none, .mv (.s 5), [], []⟩,
    ⟨some 23, none, .ia 1 (.s 21) (.s 22), [1], []⟩,
    ⟨some 24, none, .ld 1 false (.s 23), [1], []⟩,
    ⟨some 25, none, .bin .neq (.s 20) (.s 24), [], []⟩]))
   (.cond (.s 25)
    (.seq (.h [.kill [0, 1, 5, 25]] (.reg false [oo 4 (.mv (.c (.bool false)))]))
    .ret)
    .skip)))
  (.h [.kill [15, 16, 25]] (.reg false [oo 15 (.mv (.s 5)),
   oo 16 (.bin .add (.s 15) (.c (.int .i64 1))),
   oo 5 (.mv (.s 16))])))))
def k_laws_eqIntS_r10 : K :=
  (.seq (.h [.kill [0, 1, 5, 14]] (.reg false [oo 4 (.mv (.c (.bool true)))]))
  .ret)
def k_laws_eqIntS : F := ⟨26, [.tmp 4],
  (.seq (.h [.kill [4]] (.reg false [oo 4 (.mv (.c (.bool false)))]))
  (.seq (.seq (.h [.kill [6, 7, 8, 9]] (.reg false [oo 6 (.mv (.s 0)),
   oo 7 (.len false (.s 6)),
   oo 8 (.mv (.s 1)),
   oo 9 (.len false (.s 8)),
   oo 10 (.bin .neq (.s 7) (.s 9))]))
  (.cond (.s 10)
   (.seq (.h [.kill [0, 1, 10]] (.reg false [oo 4 (.mv (.c (.bool false)))]))
   .ret)
   .skip))
  (.seq (.seq (.h [.clean []] (.h [.kill [10]] (.reg false [oo 5 (.mv (.c (.int .i64 0)))])))
  (.blk 0
   (.loop k_laws_eqIntS_l14)))
  k_laws_eqIntS_r10)))⟩

def k_laws_markNode : F := ⟨18, [.tmp 4],
  (.seq (.h [.kill [0, 4]] (.reg false [oo 2 (.vbox (.s 0)),
   oo 4 (.mv (.c (.int .i64 0)))]))
  (.seq (.h [.kill [5, 6, 7, 8]] (.reg false [oo 5 (.fa 4 (.s 2)),
   oo 6 (.ld 1 false (.s 5)),
   oo 7 (.mv (.s 1)),
   oo 8 (.call n_laws_markDeclS [.ref] [] [(.s 6), (.s 7)]),
   oo 1 (.mv (.s 8))]))
  (.seq (.h [.kill [9, 10, 11, 12]] (.reg false [oo 9 (.fa 5 (.s 2)),
   oo 10 (.ld 1 false (.s 9)),
   oo 11 (.mv (.s 1)),
   oo 12 (.call n_laws_markAttrS [.ref] [] [(.s 10), (.s 11)]),
   oo 1 (.mv (.s 12))]))
  (.seq (.h [.kill [2, 13, 14, 15, 16]] (.reg false [oo 13 (.fa 6 (.s 2)),
   oo 14 (.ld 1 false (.s 13)),
   oo 15 (.mv (.s 1)),
   oo 16 (.call n_laws_markNodeS [.ref] [] [(.s 14), (.s 15)]),
   oo 1 (.mv (.s 16))]))
  (.seq (.h [.kill [1, 17]] (.reg false [oo 17 (.mv (.s 1)),
   oo 4 (.mv (.s 17))]))
  .ret)))))⟩

def k_laws_markIntS_l6 : K :=
  (.h [.clean []] (.seq (.seq (.h [.kill [6, 7, 8]] (.reg false [oo 6 (.mv (.s 5)),
   oo 7 (.mv (.s 0)),
   oo 8 (.len false (.s 7)),
   oo 9 (.bin .lss (.s 6) (.s 8))]))
  (.cond (.s 9)
   .skip
   (.ex 0)))
  (.seq (.blk 1
   (.seq (.h [.kill [9, 12, 13, 14, 15]] (.reg false [oo 12 (.mv (.s 0)),
    oo 13 (.mv (.s 5)),
    oo 14 (.mv (.s 1)),
    oo 15 (.ia 1 (.s 12) (.s 13)),
    on (.st 1 (.s 15) (.s 14))]))
   (.h [.kill [16, 17]] (.reg false [oo 16 (.mv (.s 1)),
    oo 17 (.bin .add (.s 16) (.c (.int .i64 1))),
    oo 1 (.mv (.s 17))]))))
  (.h [.kill [10, 11]] (.reg false [oo 10 (.mv (.s 5)),
   oo 11 (.bin .add (.s 10) (.c (.int .i64 1))),
   oo 5 (.mv (.s 11))])))))
def k_laws_markIntS_r2 : K :=
  (.seq (.h [.kill [0, 1, 5, 9, 18]] (.reg false [oo 18 (.mv (.s 1)),
   oo 4 (.mv (.s 18))]))
  .ret)
def k_laws_markIntS : F := ⟨19, [.tmp 4],
  (.seq (.h [.kill [4]] (.reg false [oo 4 (.mv (.c (.int .i64 0)))]))
  (.seq (.seq (.h [.clean []] (.reg false [oo 5 (.mv (.c (.int .i64 0)))]))
  (.blk 0
   (.loop k_laws_markIntS_l6)))
  k_laws_markIntS_r2))⟩

def k_laws_markDeclS_l6 : K :=
  (.h [.clean []] (.seq (.seq (.h [.kill [6, 7, 8]] (.reg false [oo 6 (.mv (.s 5)),
   oo 7 (.mv (.s 0)),
   oo 8 (.len false (.s 7)),
   oo 9 (.bin .lss (.s 6) (.s 8))]))
  (.cond (.s 9)
   .skip
   (.ex 0)))
  (.seq (.blk 1
   (.seq (.h [.kill [9, 12, 13, 14, 15, 16, 17]] (.reg false [oo 12 (.mv (.s 0)),
    oo 13 (.mv (.s 5)),
    oo 14 (.mv (.s 1)),
    oo 15 (.call n_laws_markText [] [] [(.s 14)]),
    oo 16 (.ia 2 (.s 12) (.s 13)),
    oo 17 (.fa 0 (.s 16)),
    on (.st 1 (.s 17) (.s 15))]))
   (.seq (.h [.kill [18, 19]] (.reg false [oo 18 (.mv (.s 1)),
    oo 19 (.bin .add (.s 18) (.c (.int .i64 1))),
    oo 1 (.mv (.s 19))]))
   (.seq (.h [.kill [20, 21, 22, 23, 24, 25]] (.reg false [oo 20 (.mv (.s 0)),
    oo 21 (.mv (.s 5)),
    oo 22 (.mv (.s 1)),
    oo 23 (.call n_laws_markText [] [] [(.s 22)]),
    oo 24 (.ia 2 (.s 20) (.s 21)),
    oo 25 (.fa 1 (.s 24)),
    on (.st 1 (.s 25) (.s 23))]))
   (.h [.kill [26, 27]] (.reg false [oo 26 (.mv (.s 1)),
    oo 27 (.bin .add (.s 26) (.c (.int .i64 1))),
    oo 1 (.mv (.s 27))]))))))
  (.h [.kill [10, 11]] (.reg false [oo 10 (.mv (.s 5)),
   oo 11 (.bin .add (.s 10) (.c (.int .i64 1))),
   oo 5 (.mv (.s 11))])))))
def k_laws_markDeclS_r2 : K :=
  (.seq (.h [.kill [0, 1, 5, 9, 28]] (.reg false [oo 28 (.mv (.s 1)),
   oo 4 (.mv (.s 28))]))
  .ret)
def k_laws_markDeclS : F := ⟨29, [.tmp 4],
  (.seq (.h [.kill [4]] (.reg false [oo 4 (.mv (.c (.int .i64 0)))]))
  (.seq (.seq (.h [.clean []] (.reg false [oo 5 (.mv (.c (.int .i64 0)))]))
  (.blk 0
   (.loop k_laws_markDeclS_l6)))
  k_laws_markDeclS_r2))⟩

def k_laws_heldDeclS_l6 : K :=
  (.h [.clean []] (.seq (.seq (.h [.kill [6, 7, 8]] (.reg false [oo 6 (.mv (.s 5)),
   oo 7 (.mv (.s 0)),
   oo 8 (.len false (.s 7)),
   oo 9 (.bin .lss (.s 6) (.s 8))]))
  (.cond (.s 9)
   .skip
   (.ex 0)))
  (.seq (.blk 1
   (.seq (.seq (.h [.kill [9, 12, 13, 14, 15, 16, 17, 18]] (.reg true [⟨some 12, none, .mv (.s 0), [], []⟩,
    ⟨some 13, none, .mv (.s 5), [], []⟩,
    ⟨some 14, none, .ia 2 (.s 12) (.s 13), [0], []⟩,
    ⟨some 15, none, .fa 0 (.s 14), [], []⟩,
    ⟨some 16, none, .ld 1 false (.s 15), [0], []⟩,
    ⟨some 17, none, .mv (.s 1), [], []⟩,
    ⟨some 18, none, .call n_laws_markText [] [] [(.s 17)], [1], []⟩,
    ⟨some 19, none, .bin .neq (.s 16) (.s 18), [], []⟩]))
   (.cond (.s 19)
    (.seq (.h [.kill [0, 1, 5, 19]] (.reg false [oo 4 (.mv (.c (.int .i64 (-1))))]))
    .ret)
    .skip))
   (.seq (.h [.kill [19, 20, 21]] (.reg false [oo 20 (.mv (.s 1)),
    oo 21 (.bin .add (.s 20) (.c (.int .i64 1))),
    oo 1 (.mv (.s 21))]))
   (.seq (.seq (.h [.kill [22, 23, 24, 25, 26, 27, 28]] (.reg true [⟨some 22, none, .mv (.s 0), [], []⟩,
    ⟨some 23, none, .mv (.s 5), [], []⟩,
    ⟨some 24, none, .ia 2 (.s 22) (.s 23), [0], []⟩,
    ⟨some 25, none, .fa 1 (.s 24), [], []⟩,
    ⟨some 26, none, .ld 1 false (.s 25), [0], []⟩,
    ⟨some 27, none, .mv (.s 1), [], []⟩,
    ⟨some 28, none, .call n_laws_markText [] [] [(.s 27)], [1], []⟩,
    ⟨some 29, none, .bin .neq (.s 26) (.s 28), [], []⟩]))
   (.cond (.s 29)
    (.seq (.h [.kill [0, 1, 5, 29]] (.reg false [oo 4 (.mv (.c (.int .i64 (-1))))]))
    .ret)
    .skip))
   (.h [.kill [29, 30, 31]] (.reg false [oo 30 (.mv (.s 1)),
    oo 31 (.bin .add (.s 30) (.c (.int .i64 1))),
    oo 1 (.mv (.s 31))]))))))
  (.h [.kill [10, 11]] (.reg false [oo 10 (.mv (.s 5)),
   oo 11 (.bin .add (.s 10) (.c (.int .i64 1))),
   oo 5 (.mv (.s 11))])))))
def k_laws_heldDeclS_r2 : K :=
  (.seq (.h [.kill [0, 1, 5, 9, 32]] (.reg false [oo 32 (.mv (.s 1)),
   oo 4 (.mv (.s 32))]))
  .ret)
def k_laws_heldDeclS : F := ⟨33, [.tmp 4],
  (.seq (.h [.kill [4]] (.reg false [oo 4 (.mv (.c (.int .i64 0)))]))
  (.seq (.seq (.h [.clean []] (.reg false [oo 5 (.mv (.c (.int .i64 0)))]))
  (.blk 0
   (.loop k_laws_heldDeclS_l6)))
  k_laws_heldDeclS_r2))⟩

def k_laws_szDeclS_l16 : K :=
  (.h [.clean []] (.seq (.seq (.h [.kill [12, 13, 14]] (.reg false [oo 12 (.mv (.s 5)),
   oo 13 (.mv (.s 0)),
   oo 14 (.len false (.s 13)),
   oo 15 (.bin .lss (.s 12) (.s 14))]))
  (.cond (.s 15)
   .skip
   (.ex 0)))
  (.seq (.blk 1
   (.seq (.h [.kill [15, 18, 19, 20, 21, 22, 23]] (.reg false [oo 18 (.mv (.s 0)),
    oo 19 (.mv (.s 5)),
    oo 20 (.ia 2 (.s 18) (.s 19)),
    oo 21 (.ld 2 true (.s 20)),
    oo 22 (.mv (.s 1)),
    oo 23 (.call n_laws_szDecl [] [] [(.s 21), (.s 22)]),
    oo 1 (.mv (.s 23))]))
   (.seq (.h [.kill [24]] (.reg false [oo 24 (.mv (.s 1)),
    oo 25 (.bin .lss (.s 24) (.c (.int .i64 0)))]))
   (.cond (.s 25)
    (.seq (.h [.kill [0, 1, 5, 25]] (.reg false [oo 4 (.mv (.c (.int .i64 (-1))))]))
    .ret)
    .skip))))
  (.h [.kill [16, 17, 25]] (.reg false [oo 16 (.mv (.s 5)),
   oo 17 (.bin .add (.s 16) (.c (.int .i64 1))),
   oo 5 (.mv (.s 17))])))))
def k_laws_szDeclS_r12 : K :=
  (.seq (.h [.kill [0, 1, 5, 15, 26]] (.reg false [oo 26 (.mv (.s 1)),
   oo 4 (.mv (.s 26))]))
  .ret)
def k_laws_szDeclS : F := ⟨27, [.tmp 4],
  (.seq (.h [.kill [4]] (.reg false [oo 4 (.mv (.c (.int .i64 0)))]))
  (.seq (.h [.kill [6, 7, 8, 9]] (.reg false [oo 6 (.mv (.s 1)),
   oo 7 (.mv (.s 0)),
   oo 8 (.len false (.s 7)),
   oo 9 (.bin .sub (.s 6) (.s 8)),
   oo 1 (.mv (.s 9))]))
  (.seq (.seq (.h [.kill [10]] (.reg false [oo 10 (.mv (.s 1)),
   oo 11 (.bin .lss (.s 10) (.c (.int .i64 0)))]))
  (.cond (.s 11)
   (.seq (.h [.kill [0, 1, 11]] (.reg false [oo 4 (.mv (.c (.int .i64 (-1))))]))
   .ret)
   .skip))
  (.seq (.seq (.h [.clean []] (.h [.kill [11]] (.reg false [oo 5 (.mv (.c (.int .i64 0)))])))
  (.blk 0
   (.loop k_laws_szDeclS_l16)))
  k_laws_szDeclS_r12))))⟩

def k_laws_szAttrS_l16 : K :=
  (.h [.clean []] (.seq (.seq (.h [.kill [12, 13, 14]] (.reg false [oo 12 (.mv (.s 5)),
   oo 13 (.mv (.s 0)),
   oo 14 (.len false (.s 13)),
   oo 15 (.bin .lss (.s 12) (.s 14))]))
  (.cond (.s 15)
   .skip
   (.ex 0)))
  (.seq (.blk 1
   (.seq (.h [.kill [15, 18, 19, 20, 21, 22, 23]] (.reg false [oo 18 (.mv (.s 0)),
    oo 19 (.mv (.s 5)),
    oo 20 (.ia 4 (.s 18) (.s 19)),
    oo 21 (.ld 4 true (.s 20)),
    oo 22 (.mv (.s 1)),
    oo 23 (.call n_laws_szAttr [] [] [(.s 21), (.s 22)]),
    oo 1 (.mv (.s 23))]))
   (.seq (.h [.kill [24]] (.reg false [oo 24 (.mv (.s 1)),
    oo 25 (.bin .lss (.s 24) (.c (.int .i64 0)))]))
   (.cond (.s 25)
    (.seq (.h [.kill [0, 1, 5, 25]] (.reg false [oo 4 (.mv (.c (.int .i64 (-1))))]))
    .ret)
    .skip))))
  (.h [.kill [16, 17, 25]] (.reg false [oo 16 (.mv (.s 5)),
   oo 17 (.bin .add (.s 16) (.c (.int .i64 1))),
   oo 5 (.mv (.s 17))])))))
def k_laws_szAttrS_r12 : K :=
  (.seq (.h [.kill [0, 1, 5, 15, 26]] (.reg false [oo 26 (.mv (.s 1)),
   oo 4 (.mv (.s 26))]))
  .ret)
def k_laws_szAttrS : F := ⟨27, [.tmp 4],
  (.seq (.h [.kill [4]] (.reg false [oo 4 (.mv (.c (.int .i64 0)))]))
  (.seq (.h [.kill [6, 7, 8, 9]] (.reg false [oo 6 (.mv (.s 1)),
   oo 7 (.mv (.s 0)),
   oo 8 (.len false (.s 7)),
   oo 9 (.bin .sub (.s 6) (.s 8)),
   oo 1 (.mv (.s 9))]))
  (.seq (.seq (.h [.kill [10]] (.reg false [oo 10 (.mv (.s 1)),
   oo 11 (.bin .lss (.s 10) (.c (.int .i64 0)))]))
  (.cond (.s 11)
   (.seq (.h [.kill [0, 1, 11]] (.reg false [oo 4 (.mv (.c (.int .i64 (-1))))]))
   .ret)
   .skip))
  (.seq (.seq (.h [.clean []] (.h [.kill [11]] (.reg false [oo 5 (.mv (.c (.int .i64 0)))])))
  (.blk 0
   (.loop k_laws_szAttrS_l16)))
  k_laws_szAttrS_r12))))⟩

def k_laws_szNodeS_l16 : K :=
  (.h [.clean []] (.seq (.seq (.h [.kill [12, 13, 14]] (.reg false [oo 12 (.mv (.s 5)),
   oo 13 (.mv (.s 0)),
   oo 14 (.len false (.s 13)),
   oo 15 (.bin .lss (.s 12) (.s 14))]))
  (.cond (.s 15)
   .skip
   (.ex 0)))
  (.seq (.blk 1
   (.seq (.h [.kill [15, 18, 19, 20, 21, 22, 23]] (.reg false [oo 18 (.mv (.s 0)),
    oo 19 (.mv (.s 5)),
    oo 20 (.ia 8 (.s 18) (.s 19)),
    oo 21 (.ld 8 true (.s 20)),
    oo 22 (.mv (.s 1)),
    oo 23 (.call n_laws_szNode [] [] [(.s 21), (.s 22)]),
    oo 1 (.mv (.s 23))]))
   (.seq (.h [.kill [24]] (.reg false [oo 24 (.mv (.s 1)),
    oo 25 (.bin .lss (.s 24) (.c (.int .i64 0)))]))
   (.cond (.s 25)
    (.seq (.h [.kill [0, 1, 5, 25]] (.reg false [oo 4 (.mv (.c (.int .i64 (-1))))]))
    .ret)
    .skip))))
  (.h [.kill [16, 17, 25]] (.reg false [oo 16 (.mv (.s 5)),
   oo 17 (.bin .add (.s 16) (.c (.int .i64 1))),
   oo 5 (.mv (.s 17))])))))
def k_laws_szNodeS_r12 : K :=
  (.seq (.h [.kill [0, 1, 5, 15, 26]] (.reg false [oo 26 (.mv (.s 1)),
   oo 4 (.mv (.s 26))]))
  .ret)
def k_laws_szNodeS : F := ⟨27, [.tmp 4],
  (.seq (.h [.kill [4]] (.reg false [oo 4 (.mv (.c (.int .i64 0)))]))
  (.seq (.h [.kill [6, 7, 8, 9]] (.reg false [oo 6 (.mv (.s 1)),
   oo 7 (.mv (.s 0)),
   oo 8 (.len false (.s 7)),
   oo 9 (.bin .sub (.s 6) (.s 8)),
   oo 1 (.mv (.s 9))]))
  (.seq (.seq (.h [.kill [10]] (.reg false [oo 10 (.mv (.s 1)),
   oo 11 (.bin .lss (.s 10) (.c (.int .i64 0)))]))
  (.cond (.s 11)
   (.seq (.h [.kill [0, 1, 11]] (.reg false [oo 4 (.mv (.c (.int .i64 (-1))))]))
   .ret)
   .skip))
  (.seq (.seq (.h [.clean []] (.h [.kill [11]] (.reg false [oo 5 (.mv (.c (.int .i64 0)))])))
  (.blk 0
   (.loop k_laws_szNodeS_l16)))
  k_laws_szNodeS_r12))))⟩

def k_laws_toDeclS_l8 : K :=
  (.h [.clean []] (.seq (.seq (.h [.kill [8, 9, 10]] (.reg false [oo 8 (.mv (.s 4)),
   oo 9 (.mv (.s 0)),
   oo 10 (.len false (.s 9)),
   oo 11 (.bin .lss (.s 8) (.s 10))]))
  (.cond (.s 11)
   .skip
   (.ex 0)))
  (.seq (.blk 1
   (.h [.kill [11, 14, 15, 16, 17, 18, 19, 20, 21]] (.reg false [oo 14 (.mv (.s 3)),
    oo 15 (.mv (.s 4)),
    oo 16 (.mv (.s 0)),
    oo 17 (.mv (.s 4)),
    oo 18 (.ia 2 (.s 16) (.s 17)),
    oo 19 (.ld 2 true (.s 18)),
    oo 20 (.call n_laws_toDecl [] [] [(.s 19)]),
    oo 21 (.ia 2 (.s 14) (.s 15)),
    on (.st 2 (.s 21) (.s 20))])))
  (.h [.kill [12, 13]] (.reg false [oo 12 (.mv (.s 4)),
   oo 13 (.bin .add (.s 12) (.c (.int .i64 1))),
   oo 4 (.mv (.s 13))])))))
def k_laws_toDeclS_r4 : K :=
  (.seq (.h [.kill [0, 3, 4, 11, 22]] (.reg false [oo 22 (.mv (.s 3)),
   oo 2 (.mv (.s 22))]))
  .ret)
def k_laws_toDeclS : F := ⟨23, [.tmp 2],
  (.seq (.h [.kill [2]] (.reg false [oo 2 (.mv (.c (.slice none 0 0)))]))
  (.seq (.h [.kill [5, 6, 7]] (.reg false [oo 5 (.mv (.s 0)),
   oo 6 (.len false (.s 5)),
   oo 7 (.mks [.v (.string ⟨#[]⟩), .v (.string ⟨#[]⟩)] 32 (.s 6)),
   oo 3 (.mv (.s 7))]))
  (.seq (.seq (.h [.clean []] (.reg false [oo 4 (.mv (.c (.int .i64 0)))]))
  (.blk 0
   (.loop k_laws_toDeclS_l8)))
  k_laws_toDeclS_r4)))⟩

def k_laws_toAttrS_l8 : K :=
  (.h [.clean []] (.seq (.seq (.h [.kill [8, 9, 10]] (.reg false [oo 8 (.mv (.s 4)),
   oo 9 (.mv (.s 0)),
   oo 10 (.len false (.s 9)),
   oo 11 (.bin .lss (.s 8) (.s 10))]))
  (.cond (.s 11)
   .skip
   (.ex 0)))
  (.seq (.blk 1
   (.h [.kill [11, 14, 15, 16, 17, 18, 19, 20, 21]] (.reg false [oo 14 (.mv (.s 3)),
    oo 15 (.mv (.s 4)),
    oo 16 (.mv (.s 0)),
    oo 17 (.mv (.s 4)),
    oo 18 (.ia 4 (.s 16) (.s 17)),
    oo 19 (.ld 4 true (.s 18)),
    oo 20 (.call n_laws_toAttr [] [] [(.s 19)]),
    oo 21 (.ia 4 (.s 14) (.s 15)),
    on (.st 4 (.s 21) (.s 20))])))
  (.h [.kill [12, 13]] (.reg false [oo 12 (.mv (.s 4)),
   oo 13 (.bin .add (.s 12) (.c (.int .i64 1))),
   oo 4 (.mv (.s 13))])))))
def k_laws_toAttrS_r4 : K :=
  (.seq (.h [.kill [0, 3, 4, 11, 22]] (.reg false [oo 22 (.mv (.s 3)),
   oo 2 (.mv (.s 22))]))
  .ret)
def k_laws_toAttrS : F := ⟨23, [.tmp 2],
  (.seq (.h [.kill [2]] (.reg false [oo 2 (.mv (.c (.slice none 0 0)))]))
  (.seq (.h [.kill [5, 6, 7]] (.reg false [oo 5 (.mv (.s 0)),
   oo 6 (.len false (.s 5)),
   oo 7 (.mks [.v (.string ⟨#[]⟩), .v (.string ⟨#[]⟩), .v (.string ⟨#[]⟩), .v (.string ⟨#[]⟩)] 64 (.s 6)),
   oo 3 (.mv (.s 7))]))
  (.seq (.seq (.h [.clean []] (.reg false [oo 4 (.mv (.c (.int .i64 0)))]))
  (.blk 0
   (.loop k_laws_toAttrS_l8)))
  k_laws_toAttrS_r4)))⟩

def k_laws_toNodeS_l8 : K :=
  (.h [.clean [20]] (.seq (.seq (.h [.kill [8, 9, 10]] (.reg false [oo 8 (.mv (.s 4)),
   oo 9 (.mv (.s 0)),
   oo 10 (.len false (.s 9)),
   oo 11 (.bin .lss (.s 8) (.s 10))]))
  (.cond (.s 11)
   .skip
   (.ex 0)))
  (.seq (.blk 1
   (.h [.kill [11, 14, 15, 16, 17, 18, 19, 20, 21]] (.reg false [oo 14 (.mv (.s 3)),
    oo 15 (.mv (.s 4)),
    oo 16 (.mv (.s 0)),
    oo 17 (.mv (.s 4)),
    oo 18 (.ia 8 (.s 16) (.s 17)),
    oo 19 (.ld 8 true (.s 18)),
    oo 20 (.call n_laws_toNode [] [true] [(.s 19)]),
    oo 21 (.ia 8 (.s 14) (.s 15)),
    on (.st 8 (.s 21) (.s 20))])))
  (.h [.kill [12, 13]] (.reg false [oo 12 (.mv (.s 4)),
   oo 13 (.bin .add (.s 12) (.c (.int .i64 1))),
   oo 4 (.mv (.s 13))])))))
def k_laws_toNodeS_r4 : K :=
  (.seq (.h [.kill [0, 3, 4, 11, 22]] (.reg false [oo 22 (.mv (.s 3)),
   oo 2 (.mv (.s 22))]))
  .ret)
def k_laws_toNodeS : F := ⟨23, [.tmp 2],
  (.seq (.h [.kill [2]] (.reg false [oo 2 (.mv (.c (.slice none 0 0)))]))
  (.seq (.h [.kill [5, 6, 7]] (.reg false [oo 5 (.mv (.s 0)),
   oo 6 (.len false (.s 5)),
   oo 7 (.mks [.v (.int .i64 0), .v (.string ⟨#[]⟩), .v (.string ⟨#[]⟩), .v (.string ⟨#[]⟩), .sl true [], .sl true [], .sl true [], .v (.string ⟨#[]⟩)] 144 (.s 6)),
   oo 3 (.mv (.s 7))]))
  (.seq (.seq (.h [.clean []] (.reg false [oo 4 (.mv (.c (.int .i64 0)))]))
  (.blk 0
   (.loop k_laws_toNodeS_l8)))
  k_laws_toNodeS_r4)))⟩

def k_spec_NodeAt_l8 : K :=
  (.h [.clean []] (.seq (.seq (.h [.kill [9, 10, 11]] (.reg false [oo 9 (.mv (.s 7)),
   oo 10 (.mv (.s 1)),
   oo 11 (.len false (.s 10)),
   oo 12 (.bin .lss (.s 9) (.s 11))]))
  (.cond (.s 12)
   .skip
   (.ex 0)))
  (.seq (.blk 1
   (.seq (.seq (.h [.kill [12, 15, 16, 17, 18, 19, 20, 21, 22, 23]] (.reg true [⟨some 15, none, .mv (.s 1), [], []⟩,
    ⟨some 16, none, .mv (.s 7), [], []⟩,
    ⟨some 17, none, .ia 1 (.s 15) (.s 16), [1], []⟩,
    ⟨some 18, none, .ld 1 false (.s 17), [1], []⟩,
    ⟨some 19, none, .fa 6 (.s 6), [], []⟩,
    ⟨some 20, none, .ld 1 false (.s 19), [6], []⟩,
    ⟨some 21, none, .len false (.s 20), [], []⟩,
    ⟨some 22, none, .bin .sub (.s 21) (.c (.int .i64 1)), [], []⟩,
    ⟨some 23, none, .call n_spec_l1In [] [] [(.s 18), (.c (.int .i64 0)), (.s 22)], [1], []⟩,
    ⟨some 24, none, .un .not (.s 23), [], []⟩]))
   (.cond (.s 24)
    (.seq (.h [.kill [1, 6, 7, 24, 25]] (.reg false [oo 25 (.build [.v (.int .i64 0), .v (.string ⟨#[]⟩), .v (.string ⟨#[]⟩), .v (.string ⟨#[]⟩), .sl true [], .sl true [], .sl true [], .v (.string ⟨#[]⟩)] []),
     on (.st 8 (.s 4) (.s 25)),
     oo 5 (.mv (.c (.bool false)))]))
    .ret)
    .skip))
   (.h [.kill [24, 26, 27, 28, 29, 30, 31, 32, 33]] (.reg true [⟨some 26, none, .fa 6 (.s 6), [], []⟩,
    ⟨some 27, none, .ld 1 false (.s 26), [6], []⟩,
    ⟨some 28, none, .mv (.s 1), [], []⟩,
    ⟨some 29, none, .mv (.s 7), [], []⟩,
    ⟨some 30, none, .ia 1 (.s 28) (.s 29), [1], []⟩,
    ⟨some 31, none, .ld 1 false (.s 30), [1], []⟩,
    ⟨some 32, none, .ia 8 (.s 27) (.s 31), [6], []⟩,
    ⟨some 33, none, .ld 8 true (.s 32), [1, 6], []⟩,
    ⟨none, none, .st 8 (.s 6) (.s 33), [], [1, 6]⟩]))))
  (.h [.kill [13, 14]] (.reg false [oo 13 (.mv (.s 7)),
   oo 14 (.bin .add (.s 13) (.c (.int .i64 1))),
   oo 7 (.mv (.s 14))])))))
def k_spec_NodeAt_r4 : K :=
  (.seq (.h [.kill [1, 6, 7, 12, 34, 35]] (.reg false [oo 34 (.ld 8 true (.s 6)),
   oo 35 (.call n_spec_l5Copy [] [true] [(.s 34)]),
   on (.st 8 (.s 4) (.s 35)),
   oo 5 (.mv (.c (.bool true)))]))
  .ret)
def k_spec_NodeAt : F := ⟨36, [.cell 4 8 true, .tmp 5],
  (.seq (.h [.kill [0, 5]] (.reg false [oo 2 (.box (.s 0)),
   oo 4 (.alloc [.v (.int .i64 0), .v (.string ⟨#[]⟩), .v (.string ⟨#[]⟩), .v (.string ⟨#[]⟩), .sl true [], .sl true [], .sl true [], .v (.string ⟨#[]⟩)]),
   oo 5 (.mv (.c (.bool false)))]))
  (.seq (.h [.kill [2, 8]] (.reg false [oo 8 (.ld 8 true (.s 2)),
   oo 6 (.alloc [.v (.int .i64 0), .v (.string ⟨#[]⟩), .v (.string ⟨#[]⟩), .v (.string ⟨#[]⟩), .sl true [], .sl true [], .sl true [], .v (.string ⟨#[]⟩)]),
   on (.st 8 (.s 6) (.s 8))]))
  (.seq (.seq (.h [.clean [2]] (.reg false [oo 7 (.mv (.c (.int .i64 0)))]))
  (.blk 0
   (.loop k_spec_NodeAt_l8)))
  k_spec_NodeAt_r4)))⟩

def k_spec_Inner : F := ⟨10, [.tmp 4],
  (.seq (.h [.kill [4]] (.reg false [oo 4 (.mv (.c (.slice none 0 0)))]))
  (.seq (.h [.kill [0, 1, 5, 6, 7, 8, 9]] (.reg false [oo 5 (.bsl 2 []),
   oo 6 (.mv (.s 0)),
   oo 7 (.app 2 32 (.s 5) (.s 6)),
   oo 8 (.mv (.s 1)),
   oo 9 (.app 2 32 (.s 7) (.s 8)),
   oo 4 (.mv (.s 9))]))
  .ret))⟩

def k_impl_NodeAt_l6 : K :=
  (.h [.clean []] (.seq (.reg false [oo 11 (.bin .lss (.s 10) (.s 9))])
  (.seq (.cond (.s 11)
   .skip
   (.ex 0))
  (.seq (.blk 1
   (.seq (.h [.kill [11, 12, 13]] (.reg false [oo 12 (.ia 1 (.s 8) (.s 10)),
    oo 13 (.ld 1 false (.s 12)),
    oo 7 (.mv (.s 13))]))
   (.seq (.seq (.h [.kill [14, 15, 16, 17, 18, 19]] (.reg false [oo 14 (.mv (.s 7)),
    oo 15 (.fa 6 (.s 2)),
    oo 16 (.ld 1 false (.s 15)),
    oo 17 (.len false (.s 16)),
    oo 18 (.bin .sub (.s 17) (.c (.int .i64 1))),
    oo 19 (.call n_impl_in [] [] [(.s 14), (.c (.int .i64 0)), (.s 18)]),
    oo 20 (.un .not (.s 19))]))
   (.cond (.s 20)
    (.seq (.h [.kill [2, 7, 8, 9, 10, 20, 21]] (.reg false [oo 21 (.build [.v (.int .i64 0), .v (.string ⟨#[]⟩), .v (.string ⟨#[]⟩), .v (.string ⟨#[]⟩), .sl true [], .sl true [], .sl true [], .v (.string ⟨#[]⟩)] []),
     on (.st 8 (.s 4) (.s 21)),
     oo 5 (.mv (.c (.bool false)))]))
    .ret)
    .skip))
   (.h [.kill [7, 20, 22, 23, 24, 25, 26]] (.reg false [oo 22 (.fa 6 (.s 2)),
    oo 23 (.ld 1 false (.s 22)),
    oo 24 (.mv (.s 7)),
    oo 25 (.ia 8 (.s 23) (.s 24)),
    oo 26 (.ld 8 true (.s 25)),
    on (.st 8 (.s 2) (.s 26))])))))
  (.h [.kill [27]] (.reg false [oo 27 (.bin .add (.s 10) (.c (.int .i64 1))),
   oo 10 (.mv (.s 27))]))))))
def k_impl_NodeAt_r2 : K :=
  (.seq (.h [.kill [2, 8, 9, 10, 11, 28, 29]] (.reg false [oo 28 (.ld 8 true (.s 2)),
   oo 29 (.call n_impl_cloneNode [] [true] [(.s 28)]),
   on (.st 8 (.s 4) (.s 29)),
   oo 5 (.mv (.c (.bool true)))]))
  .ret)
def k_impl_NodeAt : F := ⟨30, [.cell 4 8 true, .tmp 5],
  (.seq (.h [.kill [0, 5]] (.reg false [oo 2 (.box (.s 0)),
   oo 4 (.alloc [.v (.int .i64 0), .v (.string ⟨#[]⟩), .v (.string ⟨#[]⟩), .v (.string ⟨#[]⟩), .sl true [], .sl true [], .sl true [], .v (.string ⟨#[]⟩)]),
   oo 5 (.mv (.c (.bool false)))]))
  (.seq (.seq (.h [.clean []] (.h [.kill [1]] (.reg false [oo 8 (.mv (.s 1)),
   oo 9 (.len false (.s 8)),
   oo 10 (.mv (.c (.int .i64 0)))])))
  (.blk 0
   (.loop k_impl_NodeAt_l6)))
  k_impl_NodeAt_r2))⟩

def k_slices_Clone_Decl : F := ⟨8, [.tmp 2],
  (.seq (.reg false [oo 2 (.mv (.c (.slice none 0 0)))])
  (.seq (.seq (.reg false [oo 3 (.mv (.s 0)),
   oo 4 (.eqn false (.s 3))])
  (.cond (.s 4)
   (.seq (.reg false [oo 2 (.mv (.c (.slice none 0 0)))])
   .ret)
   .skip))
  (.seq (.reg false [oo 5 (.bsl 2 []),
   oo 6 (.mv (.s 0)),
   oo 7 (.app 2 32 (.s 5) (.s 6)),
   oo 2 (.mv (.s 7))])
  .ret)))⟩

def k_laws_eqDecl : F := ⟨15, [.tmp 4],
  (.seq (.h [.kill [0, 1, 4]] (.reg false [oo 2 (.box (.s 0)),
   oo 3 (.box (.s 1)),
   oo 4 (.mv (.c (.bool false)))]))
  (.seq (.seq (.h [.kill [5, 6, 7, 8]] (.reg false [oo 5 (.fa 0 (.s 2)),
   oo 6 (.ld 1 false (.s 5)),
   oo 7 (.fa 0 (.s 3)),
   oo 8 (.ld 1 false (.s 7)),
   oo 9 (.bin .neq (.s 6) (.s 8))]))
  (.cond (.s 9)
   (.seq (.h [.kill [2, 3, 9]] (.reg false [oo 4 (.mv (.c (.bool false)))]))
   .ret)
   .skip))
  (.seq (.seq (.h [.kill [2, 3, 9, 10, 11, 12, 13]] (.reg false [oo 10 (.fa 1 (.s 2)),
   oo 11 (.ld 1 false (.s 10)),
   oo 12 (.fa 1 (.s 3)),
   oo 13 (.ld 1 false (.s 12)),
   oo 14 (.bin .neq (.s 11) (.s 13))]))
  (.cond (.s 14)
   (.seq (.h [.kill [14]] (.reg false [oo 4 (.mv (.c (.bool false)))]))
   .ret)
   .skip))
  (.seq (.h [.kill [14]] (.reg false [oo 4 (.mv (.c (.bool true)))]))
  .ret))))⟩

def k_laws_eqAttrS_l14 : K :=
  (.h [.clean []] (.seq (.seq (.h [.kill [11, 12, 13]] (.reg false [oo 11 (.mv (.s 5)),
   oo 12 (.mv (.s 0)),
   oo 13 (.len false (.s 12)),
   oo 14 (.bin .lss (.s 11) (.s 13))]))
  (.cond (.s 14)
   .skip
   (.ex 0)))
  (.seq (.blk 1
   (.seq (.h [.kill [14, 17, 18, 19, 20, 21, 22, 23, 24, 25]] (.reg true [⟨some 17, none, .mv (.s 0), [], []⟩,
    ⟨some 18, none, .mv (.s 5), [], []⟩,
    ⟨some 19, none, .ia 4 (.s 17) (.s 18), [0], []⟩,
    ⟨some 20, none, .ld 4 true (.s 19), [0], []⟩,
    ⟨some 21, none, .mv (.s 1), [], []⟩,
    ⟨some 22, none, .mv (.s 5), [], []⟩,
    ⟨some 23, none, .ia 4 (.s 21) (.s 22), [1], []⟩,
    ⟨some 24, none, .ld 4 true (.s 23), [1], []⟩,
    ⟨some 25, none, .call n_laws_eqAttr [] [] [(.s 20), (.s 24)], [0, 1], []⟩,
    ⟨some 26, none, .un .not (.s 25), [], []⟩]))
   (.cond (.s 26)
    (.seq (.h [.kill [0, 1, 5, 26]] (.reg false [oo 4 (.mv (.c (.bool false)))]))
    .ret)
    .skip)))
  (.h [.kill [15, 16, 26]] (.reg false [oo 15 (.mv (.s 5)),
   oo 16 (.bin .add (.s 15) (.c (.int .i64 1))),
   oo 5 (.mv (.s 16))])))))
def k_laws_eqAttrS_r10 : K :=
  (.seq (.h [.kill [0, 1, 5, 14]] (.reg false [oo 4 (.mv (.c (.bool true)))]))
  .ret)
def k_laws_eqAttrS : F := ⟨27, [.tmp 4],
  (.seq (.h [.kill [4]] (.reg false [oo 4 (.mv (.c (.bool false)))]))
  (.seq (.seq (.h [.kill [6, 7, 8, 9]] (.reg false [oo 6 (.mv (.s 0)),
   oo 7 (.len false (.s 6)),
   oo 8 (.mv (.s 1)),
   oo 9 (.len false (.s 8)),
   oo 10 (.bin .neq (.s 7) (.s 9))]))
  (.cond (.s 10)
   (.seq (.h [.kill [0, 1, 10]] (.reg false [oo 4 (.mv (.c (.bool false)))]))
   .ret)
   .skip))
  (.seq (.seq (.h [.clean []] (.h [.kill [10]] (.reg false [oo 5 (.mv (.c (.int .i64 0)))])))
  (.blk 0
   (.loop k_laws_eqAttrS_l14)))
  k_laws_eqAttrS_r10)))⟩

def k_laws_eqNodeS_l14 : K :=
  (.h [.clean []] (.seq (.seq (.h [.kill [11, 12, 13]] (.reg false [oo 11 (.mv (.s 5)),
   oo 12 (.mv (.s 0)),
   oo 13 (.len false (.s 12)),
   oo 14 (.bin .lss (.s 11) (.s 13))]))
  (.cond (.s 14)
   .skip
   (.ex 0)))
  (.seq (.blk 1
   (.seq (.h [.kill [14, 17, 18, 19, 20, 21, 22, 23, 24, 25]] (.reg true [⟨some 17, none, .mv (.s 0), [], []⟩,
    ⟨some 18, none, .mv (.s 5), [], []⟩,
    ⟨some 19, none, .ia 8 (.s 17) (.s 18), [0], []⟩,
    ⟨some 20, none, .ld 8 true (.s 19), [0], []⟩,
    ⟨some 21, none, .mv (.s 1), [], []⟩,
    ⟨some 22, none, .mv (.s 5), [], []⟩,
    ⟨some 23, none, .ia 8 (.s 21) (.s 22), [1], []⟩,
    ⟨some 24, none, .ld 8 true (.s 23), [1], []⟩,
    ⟨some 25, none, .call n_laws_eqNode [] [] [(.s 20), (.s 24)], [0, 1], []⟩,
    ⟨some 26, none, .un .not (.s 25), [], []⟩]))
   (.cond (.s 26)
    (.seq (.h [.kill [0, 1, 5, 26]] (.reg false [oo 4 (.mv (.c (.bool false)))]))
    .ret)
    .skip)))
  (.h [.kill [15, 16, 26]] (.reg false [oo 15 (.mv (.s 5)),
   oo 16 (.bin .add (.s 15) (.c (.int .i64 1))),
   oo 5 (.mv (.s 16))])))))
def k_laws_eqNodeS_r10 : K :=
  (.seq (.h [.kill [0, 1, 5, 14]] (.reg false [oo 4 (.mv (.c (.bool true)))]))
  .ret)
def k_laws_eqNodeS : F := ⟨27, [.tmp 4],
  (.seq (.h [.kill [4]] (.reg false [oo 4 (.mv (.c (.bool false)))]))
  (.seq (.seq (.h [.kill [6, 7, 8, 9]] (.reg false [oo 6 (.mv (.s 0)),
   oo 7 (.len false (.s 6)),
   oo 8 (.mv (.s 1)),
   oo 9 (.len false (.s 8)),
   oo 10 (.bin .neq (.s 7) (.s 9))]))
  (.cond (.s 10)
   (.seq (.h [.kill [0, 1, 10]] (.reg false [oo 4 (.mv (.c (.bool false)))]))
   .ret)
   .skip))
  (.seq (.seq (.h [.clean []] (.h [.kill [10]] (.reg false [oo 5 (.mv (.c (.int .i64 0)))])))
  (.blk 0
   (.loop k_laws_eqNodeS_l14)))
  k_laws_eqNodeS_r10)))⟩

def k_laws_markAttrS_l6 : K :=
  (.h [.clean []] (.seq (.seq (.h [.kill [6, 7, 8]] (.reg false [oo 6 (.mv (.s 5)),
   oo 7 (.mv (.s 0)),
   oo 8 (.len false (.s 7)),
   oo 9 (.bin .lss (.s 6) (.s 8))]))
  (.cond (.s 9)
   .skip
   (.ex 0)))
  (.seq (.blk 1
   (.seq (.h [.kill [9, 12, 13, 14, 15, 16, 17]] (.reg false [oo 12 (.mv (.s 0)),
    oo 13 (.mv (.s 5)),
    oo 14 (.mv (.s 1)),
    oo 15 (.call n_laws_markText [] [] [(.s 14)]),
    oo 16 (.ia 4 (.s 12) (.s 13)),
    oo 17 (.fa 0 (.s 16)),
    on (.st 1 (.s 17) (.s 15))]))
   (.seq (.h [.kill [18, 19]] (.reg false [oo 18 (.mv (.s 1)),
    oo 19 (.bin .add (.s 18) (.c (.int .i64 1))),
    oo 1 (.mv (.s 19))]))
   (.seq (.h [.kill [20, 21, 22, 23, 24, 25]] (.reg false [oo 20 (.mv (.s 0)),
    oo 21 (.mv (.s 5)),
    oo 22 (.mv (.s 1)),
    oo 23 (.call n_laws_markText [] [] [(.s 22)]),
    oo 24 (.ia 4 (.s 20) (.s 21)),
    oo 25 (.fa 1 (.s 24)),
    on (.st 1 (.s 25) (.s 23))]))
   (.seq (.h [.kill [26, 27]] (.reg false [oo 26 (.mv (.s 1)),
    oo 27 (.bin .add (.s 26) (.c (.int .i64 1))),
    oo 1 (.mv (.s 27))]))
   (.seq (.h [.kill [28, 29, 30, 31, 32, 33]] (.reg false [oo 28 (.mv (.s 0)),
    oo 29 (.mv (.s 5)),
    oo 30 (.mv (.s 1)),
    oo 31 (.call n_laws_markText [] [] [(.s 30)]),
    oo 32 (.ia 4 (.s 28) (.s 29)),
    oo 33 (.fa 2 (.s 32)),
    on (.st 1 (.s 33) (.s 31))]))
   (.seq (.h [.kill [34, 35]] (.reg false [oo 34 (.mv (.s 1)),
    oo 35 (.bin .add (.s 34) (.c (.int .i64 1))),
    oo 1 (.mv (.s 35))]))
   (.seq (.h [.kill [36, 37, 38, 39, 40, 41]] (.reg false [oo 36 (.mv (.s 0)),
    oo 37 (.mv (.s 5)),
    oo 38 (.mv (.s 1)),
    oo 39 (.call n_laws_markText [] [] [(.s 38)]),
    oo 40 (.ia 4 (.s 36) (.s 37)),
    oo 41 (.fa 3 (.s 40)),
    on (.st 1 (.s 41) (.s 39))]))
   (.h [.kill [42, 43]] (.reg false [oo 42 (.mv (.s 1)),
    oo 43 (.bin .add (.s 42) (.c (.int .i64 1))),
    oo 1 (.mv (.s 43))]))))))))))
  (.h [.kill [10, 11]] (.reg false [oo 10 (.mv (.s 5)),
   oo 11 (.bin .add (.s 10) (.c (.int .i64 1))),
   oo 5 (.mv (.s 11))])))))
def k_laws_markAttrS_r2 : K :=
  (.seq (.h [.kill [0, 1, 5, 9, 44]] (.reg false [oo 44 (.mv (.s 1)),
   oo 4 (.mv (.s 44))]))
  .ret)
def k_laws_markAttrS : F := ⟨45, [.tmp 4],
  (.seq (.h [.kill [4]] (.reg false [oo 4 (.mv (.c (.int .i64 0)))]))
  (.seq (.seq (.h [.clean []] (.reg false [oo 5 (.mv (.c (.int .i64 0)))]))
  (.blk 0
   (.loop k_laws_markAttrS_l6)))
  k_laws_markAttrS_r2))⟩

def k_laws_markNodeS_l6 : K :=
  (.h [.clean []] (.seq (.seq (.h [.kill [6, 7, 8]] (.reg false [oo 6 (.mv (.s 5)),
   oo 7 (.mv (.s 0)),
   oo 8 (.len false (.s 7)),
   oo 9 (.bin .lss (.s 6) (.s 8))]))
  (.cond (.s 9)
   .skip
   (.ex 0)))
  (.seq (.blk 1
   (.seq (.h [.kill [9, 12, 13, 14, 15, 16]] (.reg false [oo 12 (.mv (.s 0)),
    oo 13 (.mv (.s 5)),
    oo 14 (.mv (.s 1)),
    oo 15 (.ia 8 (.s 12) (.s 13)),
    oo 16 (.fa 0 (.s 15)),
    on (.st 1 (.s 16) (.s 14))]))
   (.seq (.h [.kill [17, 18]] (.reg false [oo 17 (.mv (.s 1)),
    oo 18 (.bin .add (.s 17) (.c (.int .i64 1))),
    oo 1 (.mv (.s 18))]))
   (.seq (.h [.kill [19, 20, 21, 22, 23, 24]] (.reg false [oo 19 (.mv (.s 0)),
    oo 20 (.mv (.s 5)),
    oo 21 (.mv (.s 1)),
    oo 22 (.call n_laws_markText [] [] [(.s 21)]),
    oo 23 (.ia 8 (.s 19) (.s 20)),
    oo 24 (.fa 1 (.s 23)),
    on (.st 1 (.s 24) (.s 22))]))
   (.seq (.h [.kill [25, 26]] (.reg false [oo 25 (.mv (.s 1)),
    oo 26 (.bin .add (.s 25) (.c (.int .i64 1))),
    oo 1 (.mv (.s 26))]))
   (.seq (.h [.kill [27, 28, 29, 30, 31, 32]] (.reg false [oo 27 (.mv (.s 0)),
    oo 28 (.mv (.s 5)),
    oo 29 (.mv (.s 1)),
    oo 30 (.call n_laws_markText [] [] [(.s 29)]),
    oo 31 (.ia 8 (.s 27) (.s 28)),
    oo 32 (.fa 2 (.s 31)),
    on (.st 1 (.s 32) (.s 30))]))
   (.seq (.h [.kill [33, 34]] (.reg false [oo 33 (.mv (.s 1)),
    oo 34 (.bin .add (.s 33) (.c (.int .i64 1))),
    oo 1 (.mv (.s 34))]))
   (.seq (.h [.kill [35, 36, 37, 38, 39, 40]] (.reg false [oo 35 (.mv (.s 0)),
    oo 36 (.mv (.s 5)),
    oo 37 (.mv (.s 1)),
    oo 38 (.call n_laws_markText [] [] [(.s 37)]),
    oo 39 (.ia 8 (.s 35) (.s 36)),
    oo 40 (.fa 3 (.s 39)),
    on (.st 1 (.s 40) (.s 38))]))
   (.seq (.h [.kill [41, 42]] (.reg false [oo 41 (.mv (.s 1)),
    oo 42 (.bin .add (.s 41) (.c (.int .i64 1))),
    oo 1 (.mv (.s 42))]))
   (.seq (.h [.kill [43, 44, 45, 46, 47, 48, 49]] (.reg false [oo 43 (.mv (.s 0)),
    oo 44 (.mv (.s 5)),
    oo 45 (.ia 8 (.s 43) (.s 44)),
    oo 46 (.fa 4 (.s 45)),
    oo 47 (.ld 1 false (.s 46)),
    oo 48 (.mv (.s 1)),
    oo 49 (.call n_laws_markDeclS [.ref] [] [(.s 47), (.s 48)]),
    oo 1 (.mv (.s 49))]))
   (.seq (.h [.kill [50, 51, 52, 53, 54, 55, 56]] (.reg false [oo 50 (.mv (.s 0)),
    oo 51 (.mv (.s 5)),
    oo 52 (.ia 8 (.s 50) (.s 51)),
    oo 53 (.fa 5 (.s 52)),
    oo 54 (.ld 1 false (.s 53)),
    oo 55 (.mv (.s 1)),
    oo 56 (.call n_laws_markAttrS [.ref] [] [(.s 54), (.s 55)]),
    oo 1 (.mv (.s 56))]))
   (.seq (.h [.kill [57, 58, 59, 60, 61, 62, 63]] (.reg false [oo 57 (.mv (.s 0)),
    oo 58 (.mv (.s 5)),
    oo 59 (.ia 8 (.s 57) (.s 58)),
    oo 60 (.fa 6 (.s 59)),
    oo 61 (.ld 1 false (.s 60)),
    oo 62 (.mv (.s 1)),
    oo 63 (.call n_laws_markNodeS [.ref] [] [(.s 61), (.s 62)]),
    oo 1 (.mv (.s 63))]))
   (.seq (.h [.kill [64, 65, 66, 67, 68, 69]] (.reg false [oo 64 (.mv (.s 0)),
    oo 65 (.mv (.s 5)),
    oo 66 (.mv (.s 1)),
    oo 67 (.call n_laws_markText [] [] [(.s 66)]),
    oo 68 (.ia 8 (.s 64) (.s 65)),
    oo 69 (.fa 7 (.s 68)),
    on (.st 1 (.s 69) (.s 67))]))
   (.h [.kill [70, 71]] (.reg false [oo 70 (.mv (.s 1)),
    oo 71 (.bin .add (.s 70) (.c (.int .i64 1))),
    oo 1 (.mv (.s 71))])))))))))))))))
  (.h [.kill [10, 11]] (.reg false [oo 10 (.mv (.s 5)),
   oo 11 (.bin .add (.s 10) (.c (.int .i64 1))),
   oo 5 (.mv (.s 11))])))))
def k_laws_markNodeS_r2 : K :=
  (.seq (.h [.kill [0, 1, 5, 9, 72]] (.reg false [oo 72 (.mv (.s 1)),
   oo 4 (.mv (.s 72))]))
  .ret)
def k_laws_markNodeS : F := ⟨73, [.tmp 4],
  (.seq (.h [.kill [4]] (.reg false [oo 4 (.mv (.c (.int .i64 0)))]))
  (.seq (.seq (.h [.clean []] (.reg false [oo 5 (.mv (.c (.int .i64 0)))]))
  (.blk 0
   (.loop k_laws_markNodeS_l6)))
  k_laws_markNodeS_r2))⟩

def k_laws_markText_l14 : K :=
  (.h [.clean [12]] (.seq (.seq (.h [.kill [6]] (.reg false [oo 6 (.mv (.s 0)),
   oo 7 (.bin .gtr (.s 6) (.c (.int .i64 0)))]))
  (.cond (.s 7)
   .skip
   (.ex 0)))
  (.blk 1
   (.seq (.h [.kill [7, 8, 9, 10, 11, 12, 13, 14, 15]] (.reg false [oo 8 (.mv (.s 0)),
    oo 9 (.bin .rem (.s 8) (.c (.int .i64 10))),
    oo 10 (.bin .add (.c (.int .i64 48)) (.s 9)),
    oo 11 (.conv (.int .u8) (.s 10)),
    oo 12 (.bsl 1 [(.s 11)]),
    oo 13 (.conv .str (.s 12)),
    oo 14 (.mv (.s 3)),
    oo 15 (.bin .add (.s 13) (.s 14)),
    oo 3 (.mv (.s 15))]))
   (.h [.kill [16, 17]] (.reg false [oo 16 (.mv (.s 0)),
    oo 17 (.bin .quo (.s 16) (.c (.int .i64 10))),
    oo 0 (.mv (.s 17))]))))))
def k_laws_markText_r12 : K :=
  (.seq (.h [.kill [0, 3, 7, 18, 19]] (.reg false [oo 18 (.mv (.s 3)),
   oo 19 (.bin .add (.c (.string ⟨#[109]⟩)) (.s 18)),
   oo 2 (.mv (.s 19))]))
  .ret)
def k_laws_markText : F := ⟨20, [.tmp 2],
  (.seq (.h [.kill [2]] (.reg false [oo 2 (.mv (.c (.string ⟨#[]⟩)))]))
  (.seq (.seq (.h [.kill [4]] (.reg false [oo 4 (.mv (.s 0)),
   oo 5 (.bin .leq (.s 4) (.c (.int .i64 0)))]))
  (.cond (.s 5)
   (.seq (.h [.kill [0, 5]] (.reg false [oo 2 (.mv (.c (.string ⟨#[109, 48]⟩)))]))
   .ret)
   .skip))
  (.seq (.h [.clean []] (.h [.kill [5]] (.reg false [oo 3 (.mv (.c (.string ⟨#[]⟩)))])))
  (.seq (.blk 0
   (.loop k_laws_markText_l14))
  k_laws_markText_r12))))⟩

def k_laws_szDecl : F := ⟨20, [.tmp 4],
  (.seq (.h [.kill [0, 4]] (.reg false [oo 2 (.box (.s 0)),
   oo 4 (.mv (.c (.int .i64 0)))]))
  (.seq (.h [.kill [5, 6, 7, 8, 9]] (.reg false [oo 5 (.mv (.s 1)),
   oo 6 (.fa 0 (.s 2)),
   oo 7 (.ld 1 false (.s 6)),
   oo 8 (.len true (.s 7)),
   oo 9 (.bin .sub (.s 5) (.s 8)),
   oo 1 (.mv (.s 9))]))
  (.seq (.seq (.h [.kill [10]] (.reg false [oo 10 (.mv (.s 1)),
   oo 11 (.bin .lss (.s 10) (.c (.int .i64 0)))]))
  (.cond (.s 11)
   (.seq (.h [.kill [1, 2, 11]] (.reg false [oo 4 (.mv (.c (.int .i64 (-1))))]))
   .ret)
   .skip))
  (.seq (.h [.kill [2, 11, 12, 13, 14, 15, 16]] (.reg false [oo 12 (.mv (.s 1)),
   oo 13 (.fa 1 (.s 2)),
   oo 14 (.ld 1 false (.s 13)),
   oo 15 (.len true (.s 14)),
   oo 16 (.bin .sub (.s 12) (.s 15)),
   oo 1 (.mv (.s 16))]))
  (.seq (.seq (.h [.kill [17]] (.reg false [oo 17 (.mv (.s 1)),
   oo 18 (.bin .lss (.s 17) (.c (.int .i64 0)))]))
  (.cond (.s 18)
   (.seq (.h [.kill [1, 18]] (.reg false [oo 4 (.mv (.c (.int .i64 (-1))))]))
   .ret)
   .skip))
  (.seq (.h [.kill [1, 18, 19]] (.reg false [oo 19 (.mv (.s 1)),
   oo 4 (.mv (.s 19))]))
  .ret))))))⟩

def k_laws_szAttr : F := ⟨34, [.tmp 4],
  (.seq (.h [.kill [0, 4]] (.reg false [oo 2 (.box (.s 0)),
   oo 4 (.mv (.c (.int .i64 0)))]))
  (.seq (.h [.kill [5, 6, 7, 8, 9]] (.reg false [oo 5 (.mv (.s 1)),
   oo 6 (.fa 0 (.s 2)),
   oo 7 (.ld 1 false (.s 6)),
   oo 8 (.len true (.s 7)),
   oo 9 (.bin .sub (.s 5) (.s 8)),
   oo 1 (.mv (.s 9))]))
  (.seq (.seq (.h [.kill [10]] (.reg false [oo 10 (.mv (.s 1)),
   oo 11 (.bin .lss (.s 10) (.c (.int .i64 0)))]))
  (.cond (.s 11)
   (.seq (.h [.kill [1, 2, 11]] (.reg false [oo 4 (.mv (.c (.int .i64 (-1))))]))
   .ret)
   .skip))
  (.seq (.h [.kill [11, 12, 13, 14, 15, 16]] (.reg false [oo 12 (.mv (.s 1)),
   oo 13 (.fa 1 (.s 2)),
   oo 14 (.ld 1 false (.s 13)),
   oo 15 (.len true (.s 14)),
   oo 16 (.bin .sub (.s 12) (.s 15)),
   oo 1 (.mv (.s 16))]))
  (.seq (.seq (.h [.kill [17]] (.reg false [oo 17 (.mv (.s 1)),
   oo 18 (.bin .lss (.s 17) (.c (.int .i64 0)))]))
  (.cond (.s 18)
   (.seq (.h [.kill [1, 2, 18]] (.reg false [oo 4 (.mv (.c (.int .i64 (-1))))]))
   .ret)
   .skip))
  (.seq (.h [.kill [18, 19, 20, 21, 22, 23]] (.reg false [oo 19 (.mv (.s 1)),
   oo 20 (.fa 2 (.s 2)),
   oo 21 (.ld 1 false (.s 20)),
   oo 22 (.len true (.s 21)),
   oo 23 (.bin .sub (.s 19) (.s 22)),
   oo 1 (.mv (.s 23))]))
  (.seq (.seq (.h [.kill [24]] (.reg false [oo 24 (.mv (.s 1)),
   oo 25 (.bin .lss (.s 24) (.c (.int .i64 0)))]))
  (.cond (.s 25)
   (.seq (.h [.kill [1, 2, 25]] (.reg false [oo 4 (.mv (.c (.int .i64 (-1))))]))
   .ret)
   .skip))
  (.seq (.h [.kill [2, 25, 26, 27, 28, 29, 30]] (.reg false [oo 26 (.mv (.s 1)),
   oo 27 (.fa 3 (.s 2)),
   oo 28 (.ld 1 false (.s 27)),
   oo 29 (.len true (.s 28)),
   oo 30 (.bin .sub (.s 26) (.s 29)),
   oo 1 (.mv (.s 30))]))
  (.seq (.seq (.h [.kill [31]] (.reg false [oo 31 (.mv (.s 1)),
   oo 32 (.bin .lss (.s 31) (.c (.int .i64 0)))]))
  (.cond (.s 32)
   (.seq (.h [.kill [1, 32]] (.reg false [oo 4 (.mv (.c (.int .i64 (-1))))]))
   .ret)
   .skip))
  (.seq (.h [.kill [1, 32, 33]] (.reg false [oo 33 (.mv (.s 1)),
   oo 4 (.mv (.s 33))]))
  .ret))))))))))⟩

def k_laws_toDecl : F := ⟨11, [.cell 2 2 true],
  (.seq (.h [.kill [0]] (.reg false [oo 1 (.box (.s 0)),
   oo 2 (.alloc [.v (.string ⟨#[]⟩), .v (.string ⟨#[]⟩)])]))
  (.seq (.reg false [oo 3 (.alloc [.v (.string ⟨#[]⟩), .v (.string ⟨#[]⟩)])])
  (.seq (.h [.kill [4, 5, 6]] (.reg false [oo 4 (.fa 0 (.s 1)),
   oo 5 (.ld 1 false (.s 4)),
   oo 6 (.fa 0 (.s 3)),
   on (.st 1 (.s 6) (.s 5))]))
  (.seq (.h [.kill [1, 7, 8, 9]] (.reg false [oo 7 (.fa 1 (.s 1)),
   oo 8 (.ld 1 false (.s 7)),
   oo 9 (.fa 1 (.s 3)),
   on (.st 1 (.s 9) (.s 8))]))
  (.seq (.h [.kill [3, 10]] (.reg false [oo 10 (.ld 2 true (.s 3)),
   on (.st 2 (.s 2) (.s 10))]))
  .ret)))))⟩

def k_laws_toAttr : F := ⟨17, [.cell 2 4 true],
  (.seq (.h [.kill [0]] (.reg false [oo 1 (.box (.s 0)),
   oo 2 (.alloc [.v (.string ⟨#[]⟩), .v (.string ⟨#[]⟩), .v (.string ⟨#[]⟩), .v (.string ⟨#[]⟩)])]))
  (.seq (.reg false [oo 3 (.alloc [.v (.string ⟨#[]⟩), .v (.string ⟨#[]⟩), .v (.string ⟨#[]⟩), .v (.string ⟨#[]⟩)])])
  (.seq (.h [.kill [4, 5, 6]] (.reg false [oo 4 (.fa 0 (.s 1)),
   oo 5 (.ld 1 false (.s 4)),
   oo 6 (.fa 0 (.s 3)),
   on (.st 1 (.s 6) (.s 5))]))
  (.seq (.h [.kill [7, 8, 9]] (.reg false [oo 7 (.fa 1 (.s 1)),
   oo 8 (.ld 1 false (.s 7)),
   oo 9 (.fa 1 (.s 3)),
   on (.st 1 (.s 9) (.s 8))]))
  (.seq (.h [.kill [10, 11, 12]] (.reg false [oo 10 (.fa 2 (.s 1)),
   oo 11 (.ld 1 false (.s 10)),
   oo 12 (.fa 2 (.s 3)),
   on (.st 1 (.s 12) (.s 11))]))
  (.seq (.h [.kill [1, 13, 14, 15]] (.reg false [oo 13 (.fa 3 (.s 1)),
   oo 14 (.ld 1 false (.s 13)),
   oo 15 (.fa 3 (.s 3)),
   on (.st 1 (.s 15) (.s 14))]))
  (.seq (.h [.kill [3, 16]] (.reg false [oo 16 (.ld 4 true (.s 3)),
   on (.st 4 (.s 2) (.s 16))]))
  .ret)))))))⟩

def k_spec_l1In : F := ⟨15, [.tmp 6],
  (.seq (.h [.kill [6]] (.reg false [oo 6 (.mv (.c (.bool false)))]))
  (.seq (.h [.kill [0, 1, 2, 7, 8, 9, 10, 11, 12, 13, 14]] (.reg false [oo 7 (.mv (.s 0)),
   oo 8 (.mv (.s 1)),
   oo 9 (.bin .geq (.s 7) (.s 8)),
   oo 10 (.mv (.s 9)),
   ow 11 10 true (.mv (.s 0)),
   ow 12 10 true (.mv (.s 2)),
   ow 13 10 true (.bin .leq (.s 11) (.s 12)),
   oo 14 (.pick (.s 10) (.s 13) (.c (.bool false))),
   oo 6 (.mv (.s 14))]))
  .ret))⟩

def k_spec_l5Copy : F := ⟨20, [.cell 2 8 true],
  (.seq (.h [.kill [0]] (.reg false [oo 1 (.box (.s 0)),
   oo 2 (.alloc [.v (.int .i64 0), .v (.string ⟨#[]⟩), .v (.string ⟨#[]⟩), .v (.string ⟨#[]⟩), .sl true [], .sl true [], .sl true [], .v (.string ⟨#[]⟩)])]))
  (.seq (.h [.kill [4]] (.reg false [oo 4 (.ld 8 true (.s 1)),
   oo 3 (.alloc [.v (.int .i64 0), .v (.string ⟨#[]⟩), .v (.string ⟨#[]⟩), .v (.string ⟨#[]⟩), .sl true [], .sl true [], .sl true [], .v (.string ⟨#[]⟩)]),
   on (.st 8 (.s 3) (.s 4))]))
  (.seq (.h [.kill [5, 6, 7, 8, 9]] (.reg false [oo 5 (.bsl 2 []),
   oo 6 (.fa 4 (.s 1)),
   oo 7 (.ld 1 false (.s 6)),
   oo 8 (.app 2 32 (.s 5) (.s 7)),
   oo 9 (.fa 4 (.s 3)),
   on (.st 1 (.s 9) (.s 8))]))
  (.seq (.h [.kill [10, 11, 12, 13, 14]] (.reg false [oo 10 (.bsl 4 []),
   oo 11 (.fa 5 (.s 1)),
   oo 12 (.ld 1 false (.s 11)),
   oo 13 (.app 4 64 (.s 10) (.s 12)),
   oo 14 (.fa 5 (.s 3)),
   on (.st 1 (.s 14) (.s 13))]))
  (.seq (.h [.kill [1, 15, 16, 17, 18]] (.reg false [oo 15 (.fa 6 (.s 1)),
   oo 16 (.ld 1 false (.s 15)),
   oo 17 (.call n_spec_l5All [] [true] [(.s 16)]),
   oo 18 (.fa 6 (.s 3)),
   on (.st 1 (.s 18) (.s 17))]))
  (.seq (.h [.kill [3, 19]] (.reg false [oo 19 (.ld 8 true (.s 3)),
   on (.st 8 (.s 2) (.s 19))]))
  .ret))))))⟩

def k_impl_in : F := ⟨15, [.tmp 6],
  (.seq (.h [.kill [6]] (.reg false [oo 6 (.mv (.c (.bool false)))]))
  (.seq (.h [.kill [0, 1, 2, 7, 8, 9, 10, 11, 12, 13, 14]] (.reg false [oo 7 (.mv (.s 0)),
   oo 8 (.mv (.s 1)),
   oo 9 (.bin .geq (.s 7) (.s 8)),
   oo 10 (.mv (.s 9)),
   ow 11 10 true (.mv (.s 0)),
   ow 12 10 true (.mv (.s 2)),
   ow 13 10 true (.bin .leq (.s 11) (.s 12)),
   oo 14 (.pick (.s 10) (.s 13) (.c (.bool false))),
   oo 6 (.mv (.s 14))]))
  .ret))⟩

def k_impl_cloneNode : F := ⟨16, [.cell 2 8 true],
  (.seq (.h [.kill [0]] (.reg false [oo 1 (.box (.s 0)),
   oo 2 (.alloc [.v (.int .i64 0), .v (.string ⟨#[]⟩), .v (.string ⟨#[]⟩), .v (.string ⟨#[]⟩), .sl true [], .sl true [], .sl true [], .v (.string ⟨#[]⟩)])]))
  (.seq (.h [.kill [3, 4, 5, 6, 7, 8, 9, 10, 11, 12, 13, 14]] (.reg true [⟨some 3, none, .fa 4 (.s 1), [], []⟩,
   ⟨some 4, none, .ld 1 false (.s 3), [1], []⟩,
   ⟨some 5, none, .call n_slices_Clone_Decl [] [true] [(.s 4)], [1], [5]⟩,
   ⟨some 6, none, .fa 5 (.s 1), [], []⟩,
   ⟨some 7, none, .ld 1 false (.s 6), [1], []⟩,
   ⟨some 8, none, .call n_slices_Clone_Attr [] [true] [(.s 7)], [1], [8]⟩,
   ⟨some 9, none, .fa 6 (.s 1), [], []⟩,
   ⟨some 10, none, .ld 1 false (.s 9), [1], []⟩,
   ⟨some 11, none, .call n_impl_cloneNodes [] [true] [(.s 10)], [1], [11]⟩,
   ⟨some 12, none, .fa 4 (.s 1), [], []⟩,
   ⟨none, none, .st 1 (.s 12) (.s 5), [], [1, 5]⟩,
   ⟨some 13, none, .fa 5 (.s 1), [], []⟩,
   ⟨none, none, .st 1 (.s 13) (.s 8), [], [1, 8]⟩,
   ⟨some 14, none, .fa 6 (.s 1), [], []⟩,
   ⟨none, none, .st 1 (.s 14) (.s 11), [], [1, 11]⟩]))
  (.seq (.h [.kill [1, 15]] (.reg false [oo 15 (.ld 8 true (.s 1)),
   on (.st 8 (.s 2) (.s 15))]))
  .ret)))⟩

def k_laws_eqAttr : F := ⟨25, [.tmp 4],
  (.seq (.h [.kill [0, 1, 4]] (.reg false [oo 2 (.box (.s 0)),
   oo 3 (.box (.s 1)),
   oo 4 (.mv (.c (.bool false)))]))
  (.seq (.seq (.h [.kill [5, 6, 7, 8]] (.reg false [oo 5 (.fa 0 (.s 2)),
   oo 6 (.ld 1 false (.s 5)),
   oo 7 (.fa 0 (.s 3)),
   oo 8 (.ld 1 false (.s 7)),
   oo 9 (.bin .neq (.s 6) (.s 8))]))
  (.cond (.s 9)
   (.seq (.h [.kill [2, 3, 9]] (.reg false [oo 4 (.mv (.c (.bool false)))]))
   .ret)
   .skip))
  (.seq (.seq (.h [.kill [9, 10, 11, 12, 13]] (.reg false [oo 10 (.fa 1 (.s 2)),
   oo 11 (.ld 1 false (.s 10)),
   oo 12 (.fa 1 (.s 3)),
   oo 13 (.ld 1 false (.s 12)),
   oo 14 (.bin .neq (.s 11) (.s 13))]))
  (.cond (.s 14)
   (.seq (.h [.kill [2, 3, 14]] (.reg false [oo 4 (.mv (.c (.bool false)))]))
   .ret)
   .skip))
  (.seq (.seq (.h [.kill [14, 15, 16, 17, 18]] (.reg false [oo 15 (.fa 2 (.s 2)),
   oo 16 (.ld 1 false (.s 15)),
   oo 17 (.fa 2 (.s 3)),
   oo 18 (.ld 1 false (.s 17)),
   oo 19 (.bin .neq (.s 16) (.s 18))]))
  (.cond (.s 19)
   (.seq (.h [.kill [2, 3, 19]] (.reg false [oo 4 (.mv (.c (.bool false)))]))
   .ret)
   .skip))
  (.seq (.seq (.h [.kill [2, 3, 19, 20, 21, 22, 23]] (.reg false [oo 20 (.fa 3 (.s 2)),
   oo 21 (.ld 1 false (.s 20)),
   oo 22 (.fa 3 (.s 3)),
   oo 23 (.ld 1 false (.s 22)),
   oo 24 (.bin .neq (.s 21) (.s 23))]))
  (.cond (.s 24)
   (.seq (.h [.kill [24]] (.reg false [oo 4 (.mv (.c (.bool false)))]))
   .ret)
   .skip))
  (.seq (.h [.kill [24]] (.reg false [oo 4 (.mv (.c (.bool true)))]))
  .ret))))))⟩

def k_spec_l5All_l8 : K :=
  (.h [.clean [5, 17, 20]] (.seq (.seq (.h [.kill [7, 8, 9]] (.reg false [oo 7 (.mv (.s 4)),
   oo 8 (.mv (.s 0)),
   oo 9 (.len false (.s 8)),
   oo 10 (.bin .lss (.s 7) (.s 9))]))
  (.cond (.s 10)
   .skip
   (.ex 0)))
  (.seq (.blk 1
   (.seq (.h [.kill [10, 13, 14, 15, 16, 17]] (.reg false [oo 13 (.mv (.s 0)),
    oo 14 (.mv (.s 4)),
    oo 15 (.ia 8 (.s 13) (.s 14)),
    oo 16 (.ld 8 true (.s 15)),
    oo 17 (.call n_spec_l5Copy [] [true] [(.s 16)]),
    oo 5 (.alloc [.v (.int .i64 0), .v (.string ⟨#[]⟩), .v (.string ⟨#[]⟩), .v (.string ⟨#[]⟩), .sl true [], .sl true [], .sl true [], .v (.string ⟨#[]⟩)]),
    on (.st 8 (.s 5) (.s 17))]))
   (.h [.kill [5, 18, 19, 20, 21]] (.reg false [oo 18 (.mv (.s 3)),
    oo 19 (.ld 8 true (.s 5)),
    oo 20 (.bsl 8 [(.s 19)]),
    oo 21 (.app 8 144 (.s 18) (.s 20)),
    oo 3 (.mv (.s 21))]))))
  (.h [.kill [11, 12]] (.reg false [oo 11 (.mv (.s 4)),
   oo 12 (.bin .add (.s 11) (.c (.int .i64 1))),
   oo 4 (.mv (.s 12))])))))
def k_spec_l5All_r4 : K :=
  (.seq (.h [.kill [0, 3, 4, 10, 22]] (.reg false [oo 22 (.mv (.s 3)),
   oo 2 (.mv (.s 22))]))
  .ret)
def k_spec_l5All : F := ⟨23, [.tmp 2],
  (.seq (.h [.kill [2]] (.reg false [oo 2 (.mv (.c (.slice none 0 0)))]))
  (.seq (.h [.kill [6]] (.reg false [oo 6 (.bsl 8 []),
   oo 3 (.mv (.s 6))]))
  (.seq (.seq (.h [.clean []] (.reg false [oo 4 (.mv (.c (.int .i64 0)))]))
  (.blk 0
   (.loop k_spec_l5All_l8)))
  k_spec_l5All_r4)))⟩

def k_slices_Clone_Attr : F := ⟨8, [.tmp 2],
  (.seq (.reg false [oo 2 (.mv (.c (.slice none 0 0)))])
  (.seq (.seq (.reg false [oo 3 (.mv (.s 0)),
   oo 4 (.eqn false (.s 3))])
  (.cond (.s 4)
   (.seq (.reg false [oo 2 (.mv (.c (.slice none 0 0)))])
   .ret)
   .skip))
  (.seq (.reg false [oo 5 (.bsl 4 []),
   oo 6 (.mv (.s 0)),
   oo 7 (.app 4 64 (.s 5) (.s 6)),
   oo 2 (.mv (.s 7))])
  .ret)))⟩

def k_impl_cloneNodes_l8 : K :=
  (.h [.clean [5, 14, 15]] (.seq (.reg false [oo 9 (.bin .lss (.s 8) (.s 7))])
  (.seq (.cond (.s 9)
   .skip
   (.ex 0))
  (.seq (.blk 1
   (.seq (.h [.kill [9, 10, 11]] (.reg false [oo 10 (.ia 8 (.s 6) (.s 8)),
    oo 11 (.ld 8 true (.s 10)),
    oo 5 (.alloc [.v (.int .i64 0), .v (.string ⟨#[]⟩), .v (.string ⟨#[]⟩), .v (.string ⟨#[]⟩), .sl true [], .sl true [], .sl true [], .v (.string ⟨#[]⟩)]),
    on (.st 8 (.s 5) (.s 11))]))
   (.h [.kill [5, 12, 13, 14, 15, 16]] (.reg false [oo 12 (.mv (.s 3)),
    oo 13 (.ld 8 true (.s 5)),
    oo 14 (.call n_impl_cloneNode [] [true] [(.s 13)]),
    oo 15 (.bsl 8 [(.s 14)]),
    oo 16 (.app 8 144 (.s 12) (.s 15)),
    oo 3 (.mv (.s 16))]))))
  (.h [.kill [17]] (.reg false [oo 17 (.bin .add (.s 8) (.c (.int .i64 1))),
   oo 8 (.mv (.s 17))]))))))
def k_impl_cloneNodes_r4 : K :=
  (.seq (.h [.kill [3, 6, 7, 8, 9, 18]] (.reg false [oo 18 (.mv (.s 3)),
   oo 2 (.mv (.s 18))]))
  .ret)
def k_impl_cloneNodes : F := ⟨19, [.tmp 2],
  (.seq (.h [.kill [2]] (.reg false [oo 2 (.mv (.c (.slice none 0 0)))]))
  (.seq (.reg false [oo 3 (.mv (.c (.slice none 0 0)))])
  (.seq (.seq (.h [.own 3 16, .clean []] (.h [.kill [0]] (.reg false [oo 6 (.mv (.s 0)),
   oo 7 (.len false (.s 6)),
   oo 8 (.mv (.c (.int .i64 0)))])))
  (.blk 0
   (.loop k_impl_cloneNodes_l8)))
  k_impl_cloneNodes_r4)))⟩

def FTT : FTab
  | 11 => some k_laws_FnExactHolds
  | 18 => some k_laws_toIntS
  | 20 => some k_laws_eqIntS
  | 26 => some k_laws_szNode
  | 28 => some k_laws_toNode
  | 30 => some k_laws_eqNode
  | 37 => some k_laws_szNodeS
  | 39 => some k_laws_toNodeS
  | 41 => some k_laws_eqNodeS
  | 42 => some k_spec_Holds
  | 43 => some k_impl_Holds
  | 44 => some k_laws_eqDeclS
  | 45 => some k_laws_markNode
  | 46 => some k_laws_markIntS
  | 47 => some k_laws_markDeclS
  | 48 => some k_laws_heldDeclS
  | 54 => some k_laws_markNodeS
  | 58 => some k_spec_l1In
  | 59 => some k_impl_in
  | 67 => some k_laws_szDeclS
  | 68 => some k_laws_szAttrS
  | 69 => some k_laws_toDeclS
  | 70 => some k_laws_toAttrS
  | 71 => some k_laws_eqAttrS
  | 76 => some k_spec_NodeAt
  | 77 => some k_spec_Inner
  | 78 => some k_impl_NodeAt
  | 79 => some k_slices_Clone_Decl
  | 80 => some k_laws_eqDecl
  | 81 => some k_laws_markAttrS
  | 82 => some k_laws_markText
  | 83 => some k_spec_l5Copy
  | 84 => some k_impl_cloneNode
  | 98 => some k_laws_szDecl
  | 99 => some k_laws_szAttr
  | 100 => some k_laws_toDecl
  | 101 => some k_laws_toAttr
  | 102 => some k_laws_eqAttr
  | 103 => some k_spec_l5All
  | 104 => some k_slices_Clone_Attr
  | 105 => some k_impl_cloneNodes
  | _ => none
def FTA : Env := ⟨FTT, [n_slices_Clone_Decl, n_slices_Clone_Attr]⟩
def SSA := And.intro (SS FTA) S3
end TT
