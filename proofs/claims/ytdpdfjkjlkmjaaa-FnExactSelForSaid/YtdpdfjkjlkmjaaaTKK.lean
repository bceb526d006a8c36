import Derived.Test.YtdpdfjkjlkmjaaaTNums
set_option linter.unusedVariables false
set_option linter.unusedSimpArgs false
set_option linter.defProp false
set_option maxRecDepth 100000
namespace TT
open Go
def k_laws_FnExactSelFor : F := ⟨117, [.tmp 4],
  (.seq (.h [.kill [0, 4]] (.reg false [oo 2 (.box (.s 0)),
   oo 4 (.mv (.c (.bool false)))]))
  (.seq (.seq (.h [.kill [17, 18]] (.reg false [oo 17 (.mv (.s 1)),
   oo 18 (.len false (.s 17)),
   oo 19 (.bin .gtr (.s 18) (.c (.int .i64 1048576)))]))
  (.cond (.s 19)
   (.seq (.h [.kill [1, 2, 19]] (.reg false [oo 4 (.mv (.c (.bool true)))]))
   .ret)
   .skip))
  (.seq (.h [.kill [19]] (.reg false [oo 5 (.mv (.c (.int .i64 1048576)))]))
  (.seq (.h [.kill [20, 21, 22]] (.reg false [oo 20 (.ld 8 true (.s 2)),
   oo 21 (.mv (.s 5)),
   oo 22 (.call n_laws_szNode [] [] [(.s 20), (.s 21)]),
   oo 5 (.mv (.s 22))]))
  (.seq (.seq (.h [.kill [5, 23]] (.reg false [oo 23 (.mv (.s 5)),
   oo 24 (.bin .lss (.s 23) (.c (.int .i64 0)))]))
  (.cond (.s 24)
   (.seq (.h [.kill [1, 2, 24]] (.reg false [oo 4 (.mv (.c (.bool true)))]))
   .ret)
   .skip))
  (.seq (.h [.kill [24, 25, 26, 27, 28, 29, 30, 31, 32]] (.reg false [oo 26 (.ld 8 true (.s 2)),
   oo 27 (.call n_laws_toNode [] [true] [(.s 26)]),
   oo 28 (.mv (.s 1)),
   oo 29 (.call n_laws_toIntS [] [true] [(.s 28)]),
   oo 30 (.call n_spec_SelFor [] [true] [(.s 27), (.s 29)]),
   oo 25 (.mv (.s 30)),
   oo 31 (.ext (.s 25) 0),
   oo 32 (.ext (.s 25) 1),
   oo 6 (.alloc [.v (.string ⟨#[]⟩), .sl true []]),
   oo 6 (.vst 2 (.s 6) (.s 31)),
   oo 7 (.mv (.s 32))]))
  (.seq (.h [.kill [33, 34]] (.reg false [oo 33 (.ld 8 true (.s 2)),
   oo 34 (.call n_laws_toNode [] [true] [(.s 33)]),
   oo 8 (.alloc [.v (.int .i64 0), .v (.string ⟨#[]⟩), .v (.string ⟨#[]⟩), .v (.string ⟨#[]⟩), .sl true [], .sl true [], .sl true [], .v (.string ⟨#[]⟩)]),
   oo 8 (.vst 8 (.s 8) (.s 34))]))
  (.seq (.h [.kill [35, 36]] (.reg false [oo 35 (.mv (.s 1)),
   oo 36 (.call n_laws_toIntS [] [true] [(.s 35)]),
   oo 9 (.mv (.s 36))]))
  (.seq (.h [.kill [37, 38, 39, 40, 41, 42]] (.reg false [oo 38 (.ld 8 true (.s 8)),
   oo 39 (.mv (.s 9)),
   oo 40 (.call n_impl_SelFor [] [true] [(.s 38), (.s 39)]),
   oo 37 (.mv (.s 40)),
   oo 41 (.ext (.s 37) 0),
   oo 42 (.ext (.s 37) 1),
   oo 10 (.alloc [.v (.string ⟨#[]⟩), .sl true []]),
   oo 10 (.vst 2 (.s 10) (.s 41)),
   oo 11 (.mv (.s 42))]))
  (.seq (.seq (.h [.kill [43, 44, 45, 46, 47, 48, 49, 50]] (.reg false [oo 43 (.ld 2 true (.s 10)),
   oo 44 (.ld 2 true (.s 6)),
   oo 45 (.call n_laws_eqSel [] [] [(.s 43), (.s 44)]),
   oo 46 (.un .not (.s 45)),
   oo 47 (.mv (.s 46)),
   ow 48 47 false (.mv (.s 11)),
   ow 49 47 false (.mv (.s 7)),
   ow 50 47 false (.beq true (.s 48) (.s 49)),
   oo 51 (.pick (.s 47) (.c (.bool true)) (.s 50))]))
  (.cond (.s 51)
   (.seq (.h [.kill [1, 2, 6, 7, 8, 9, 10, 11, 51]] (.reg false [oo 4 (.mv (.c (.bool false)))]))
   .ret)
   .skip))
  (.seq (.seq (.h [.kill [51, 52, 53, 54, 55]] (.reg true [⟨some 52, none, .ld 8 true (.s 8), [8, 34], []⟩,
   ⟨some 53, none, .ld 8 true (.s 2), [2], []⟩,
   ⟨some 54, none, .call n_laws_toNode [] [true] [(.s 53)], [2], [54]⟩,
   ⟨some 55, none, .call n_laws_eqNode [] [] [(.s 52), (.s 54)], [8, 34, 54], []⟩,
   ⟨some 56, none, .un .not (.s 55), [], []⟩]))
  (.cond (.s 56)
   (.seq (.h [.kill [1, 2, 6, 7, 8, 9, 10, 11, 56]] (.reg false [oo 4 (.mv (.c (.bool false)))]))
   .ret)
   .skip))
  (.seq (.seq (.h [.kill [56, 57, 58, 59, 60]] (.reg false [oo 57 (.mv (.s 9)),
   oo 58 (.mv (.s 1)),
   oo 59 (.call n_laws_toIntS [] [true] [(.s 58)]),
   oo 60 (.call n_laws_eqIntS [] [] [(.s 57), (.s 59)]),
   oo 61 (.un .not (.s 60))]))
  (.cond (.s 61)
   (.seq (.h [.kill [1, 2, 6, 7, 8, 9, 10, 11, 61]] (.reg false [oo 4 (.mv (.c (.bool false)))]))
   .ret)
   .skip))
  (.seq (.h [.kill [61]] (.reg false [oo 12 (.mv (.c (.int .i64 1)))]))
  (.seq (.h [.kill [8, 62, 63, 64]] (.reg false [oo 62 (.ld 8 true (.s 8)),
   oo 63 (.mv (.s 12)),
   oo 64 (.call n_laws_markNode [.ref] [] [(.s 62), (.s 63)]),
   oo 12 (.mv (.s 64))]))
  (.seq (.h [.kill [9, 65, 66, 67]] (.reg false [oo 65 (.mv (.s 9)),
   oo 66 (.mv (.s 12)),
   oo 67 (.call n_laws_markIntS [.ref] [] [(.s 65), (.s 66)]),
   oo 12 (.mv (.s 67))]))
  (.seq (.seq (.h [.kill [11, 12, 68, 69, 70, 71, 72, 73, 74, 75, 76, 77, 78, 79]] (.reg false [oo 68 (.mv (.s 12)),
   oo 69 (.bin .lss (.s 68) (.c (.int .i64 0))),
   oo 70 (.mv (.s 69)),
   ow 71 70 false (.ld 2 true (.s 10)),
   ow 72 70 false (.ld 2 true (.s 6)),
   ow 73 70 false (.call n_laws_eqSel [] [] [(.s 71), (.s 72)]),
   ow 74 70 false (.un .not (.s 73)),
   oo 75 (.pick (.s 70) (.c (.bool true)) (.s 74)),
   oo 76 (.mv (.s 75)),
   ow 77 76 false (.mv (.s 11)),
   ow 78 76 false (.mv (.s 7)),
   ow 79 76 false (.beq true (.s 77) (.s 78)),
   oo 80 (.pick (.s 76) (.c (.bool true)) (.s 79))]))
  (.cond (.s 80)
   (.seq (.h [.kill [1, 2, 6, 7, 10, 80]] (.reg false [oo 4 (.mv (.c (.bool false)))]))
   .ret)
   .skip))
  (.seq (.h [.kill [80]] (.reg false [oo 13 (.mv (.c (.int .i64 1)))]))
  (.seq (.h [.kill [81, 82, 83]] (.reg false [oo 81 (.ld 2 true (.s 10)),
   oo 82 (.mv (.s 13)),
   oo 83 (.call n_laws_markSel [.ref] [] [(.s 81), (.s 82)]),
   oo 13 (.mv (.s 83))]))
  (.seq (.reg false [oo 14 (.mv (.c (.int .i64 1)))])
  (.seq (.h [.kill [84, 85, 86]] (.reg false [oo 84 (.ld 2 true (.s 10)),
   oo 85 (.mv (.s 14)),
   oo 86 (.call n_laws_heldSel [] [] [(.s 84), (.s 85)]),
   oo 14 (.mv (.s 86))]))
  (.seq (.seq (.h [.kill [87]] (.reg false [oo 87 (.mv (.s 14)),
   oo 88 (.bin .lss (.s 87) (.c (.int .i64 0)))]))
  (.cond (.s 88)
   (.seq (.h [.kill [1, 2, 6, 7, 10, 13, 14, 88]] (.reg false [oo 4 (.mv (.c (.bool false)))]))
   .ret)
   .skip))
  (.seq (.seq (.h [.kill [14, 88, 89, 90]] (.reg false [oo 89 (.mv (.s 14)),
   oo 90 (.mv (.s 13)),
   oo 91 (.bin .neq (.s 89) (.s 90))]))
  (.cond (.s 91)
   (.seq (.h [.kill [1, 2, 6, 7, 10, 13, 91]] (.reg false [oo 4 (.mv (.c (.bool false)))]))
   .ret)
   .skip))
  (.seq (.h [.kill [1, 2, 91, 92, 93, 94, 95, 96, 97, 98, 99]] (.reg false [oo 93 (.ld 8 true (.s 2)),
   oo 94 (.call n_laws_toNode [] [true] [(.s 93)]),
   oo 95 (.mv (.s 1)),
   oo 96 (.call n_laws_toIntS [] [true] [(.s 95)]),
   oo 97 (.call n_impl_SelFor [] [true] [(.s 94), (.s 96)]),
   oo 92 (.mv (.s 97)),
   oo 98 (.ext (.s 92) 0),
   oo 99 (.ext (.s 92) 1),
   oo 15 (.alloc [.v (.string ⟨#[]⟩), .sl true []]),
   oo 15 (.vst 2 (.s 15) (.s 98)),
   oo 16 (.mv (.s 99))]))
  (.seq (.seq (.h [.kill [6, 7, 15, 16, 100, 101, 102, 103, 104, 105, 106, 107]] (.reg false [oo 100 (.ld 2 true (.s 15)),
   oo 101 (.ld 2 true (.s 6)),
   oo 102 (.call n_laws_eqSel [] [] [(.s 100), (.s 101)]),
   oo 103 (.un .not (.s 102)),
   oo 104 (.mv (.s 103)),
   ow 105 104 false (.mv (.s 16)),
   ow 106 104 false (.mv (.s 7)),
   ow 107 104 false (.beq true (.s 105) (.s 106)),
   oo 108 (.pick (.s 104) (.c (.bool true)) (.s 107))]))
  (.cond (.s 108)
   (.seq (.h [.kill [10, 13, 108]] (.reg false [oo 4 (.mv (.c (.bool false)))]))
   .ret)
   .skip))
  (.seq (.h [.kill [108]] (.reg false [oo 14 (.mv (.c (.int .i64 1)))]))
  (.seq (.h [.kill [10, 109, 110, 111]] (.reg false [oo 109 (.ld 2 true (.s 10)),
   oo 110 (.mv (.s 14)),
   oo 111 (.call n_laws_heldSel [] [] [(.s 109), (.s 110)]),
   oo 14 (.mv (.s 111))]))
  (.seq (.seq (.h [.kill [112]] (.reg false [oo 112 (.mv (.s 14)),
   oo 113 (.bin .lss (.s 112) (.c (.int .i64 0)))]))
  (.cond (.s 113)
   (.seq (.h [.kill [13, 14, 113]] (.reg false [oo 4 (.mv (.c (.bool false)))]))
   .ret)
   .skip))
  (.seq (.seq (.h [.kill [13, 14, 113, 114, 115]] (.reg false [oo 114 (.mv (.s 14)),
   oo 115 (.mv (.s 13)),
   oo 116 (.bin .neq (.s 114) (.s 115))]))
  (.cond (.s 116)
   (.seq (.h [.kill [116]] (.reg false [oo 4 (.mv (.c (.bool false)))]))
   .ret)
   .skip))
  (.seq (.h [.kill [116]] (.reg false [oo 4 (.mv (.c (.bool true)))]))
  .ret)))))))))))))))))))))))))))))⟩

def k_laws_szNode : F := ⟨52, [.tmp 4],
  (.seq (.h [.kill [0, 4]] (.reg false [oo 2 (.box (.s 0)),
   oo 4 (.mv (.c (.int .i64 0)))]))
  (.seq (.h [.kill [5, 6, 7, 8, 9]] (.reg false [oo 5 (.mv (.s 1)),
   oo 6 (.fa 1 (.s 2)),
   oo 7 (.ld 1 false (.s 6)),
   oo 8 (.len true (.s 7)),
   oo 9 (.bin .sub (.s 5) (.s 8)),
   oo 1 (.mv (.s 9))]))
  (.seq (.seq (.h [.kill [10]] (.reg false [oo 10 (.mv (.s 1)),
   oo 11 (.bin .lss (.s 10) (.c (.int .i64 0)))]))
  (.cond (.s 11)
   (.seq (.h [.kill [1, 2, 11]] (.reg false [oo 4 (.mv (.c (.int .i64 (-1))))]))
   .ret)
   .skip))
  (.seq (.h [.kill [11, 12, 13, 14, 15, 16]] (.reg false [oo 12 (.mv (.s 1)),
   oo 13 (.fa 2 (.s 2)),
   oo 14 (.ld 1 false (.s 13)),
   oo 15 (.len true (.s 14)),
   oo 16 (.bin .sub (.s 12) (.s 15)),
   oo 1 (.mv (.s 16))]))
  (.seq (.seq (.h [.kill [17]] (.reg false [oo 17 (.mv (.s 1)),
   oo 18 (.bin .lss (.s 17) (.c (.int .i64 0)))]))
  (.cond (.s 18)
   (.seq (.h [.kill [1, 2, 18]] (.reg false [oo 4 (.mv (.c (.int .i64 (-1))))]))
   .ret)
   .skip))
  (.seq (.h [.kill [18, 19, 20, 21, 22, 23]] (.reg false [oo 19 (.mv (.s 1)),
   oo 20 (.fa 3 (.s 2)),
   oo 21 (.ld 1 false (.s 20)),
   oo 22 (.len true (.s 21)),
   oo 23 (.bin .sub (.s 19) (.s 22)),
   oo 1 (.mv (.s 23))]))
  (.seq (.seq (.h [.kill [24]] (.reg false [oo 24 (.mv (.s 1)),
   oo 25 (.bin .lss (.s 24) (.c (.int .i64 0)))]))
  (.cond (.s 25)
   (.seq (.h [.kill [1, 2, 25]] (.reg false [oo 4 (.mv (.c (.int .i64 (-1))))]))
   .ret)
   .skip))
  (.seq (.h [.kill [25, 26, 27, 28, 29]] (.reg false [oo 26 (.fa 4 (.s 2)),
   oo 27 (.ld 1 false (.s 26)),
   oo 28 (.mv (.s 1)),
   oo 29 (.call n_laws_szDeclS [] [] [(.s 27), (.s 28)]),
   oo 1 (.mv (.s 29))]))
  (.seq (.seq (.h [.kill [30]] (.reg false [oo 30 (.mv (.s 1)),
   oo 31 (.bin .lss (.s 30) (.c (.int .i64 0)))]))
  (.cond (.s 31)
   (.seq (.h [.kill [1, 2, 31]] (.reg false [oo 4 (.mv (.c (.int .i64 (-1))))]))
   .ret)
   .skip))
  (.seq (.h [.kill [31, 32, 33, 34, 35]] (.reg false [oo 32 (.fa 5 (.s 2)),
   oo 33 (.ld 1 false (.s 32)),
   oo 34 (.mv (.s 1)),
   oo 35 (.call n_laws_szAttrS [] [] [(.s 33), (.s 34)]),
   oo 1 (.mv (.s 35))]))
  (.seq (.seq (.h [.kill [36]] (.reg false [oo 36 (.mv (.s 1)),
   oo 37 (.bin .lss (.s 36) (.c (.int .i64 0)))]))
  (.cond (.s 37)
   (.seq (.h [.kill [1, 2, 37]] (.reg false [oo 4 (.mv (.c (.int .i64 (-1))))]))
   .ret)
   .skip))
  (.seq (.h [.kill [37, 38, 39, 40, 41]] (.reg false [oo 38 (.fa 6 (.s 2)),
   oo 39 (.ld 1 false (.s 38)),
   oo 40 (.mv (.s 1)),
   oo 41 (.call n_laws_szNodeS [] [] [(.s 39), (.s 40)]),
   oo 1 (.mv (.s 41))]))
  (.seq (.seq (.h [.kill [42]] (.reg false [oo 42 (.mv (.s 1)),
   oo 43 (.bin .lss (.s 42) (.c (.int .i64 0)))]))
  (.cond (.s 43)
   (.seq (.h [.kill [1, 2, 43]] (.reg false [oo 4 (.mv (.c (.int .i64 (-1))))]))
   .ret)
   .skip))
  (.seq (.h [.kill [2, 43, 44, 45, 46, 47, 48]] (.reg false [oo 44 (.mv (.s 1)),
   oo 45 (.fa 7 (.s 2)),
   oo 46 (.ld 1 false (.s 45)),
   oo 47 (.len true (.s 46)),
   oo 48 (.bin .sub (.s 44) (.s 47)),
   oo 1 (.mv (.s 48))]))
  (.seq (.seq (.h [.kill [49]] (.reg false [oo 49 (.mv (.s 1)),
   oo 50 (.bin .lss (.s 49) (.c (.int .i64 0)))]))
  (.cond (.s 50)
   (.seq (.h [.kill [1, 50]] (.reg false [oo 4 (.mv (.c (.int .i64 (-1))))]))
   .ret)
   .skip))
  (.seq (.h [.kill [1, 50, 51]] (.reg false [oo 51 (.mv (.s 1)),
   oo 4 (.mv (.s 51))]))
  .ret))))))))))))))))⟩

def k_laws_toNode : F := ⟨32, [.cell 2 8 true],
  (.seq (.h [.kill [0]] (.reg false [oo 1 (.box (.s 0)),
   oo 2 (.alloc [.v (.int .i64 0), .v (.string ⟨#[]⟩), .v (.string ⟨#[]⟩), .v (.string ⟨#[]⟩), .sl true [], .sl true [], .sl true [], .v (.string ⟨#[]⟩)])]))
  (.seq (.reg false [oo 3 (.alloc [.v (.int .i64 0), .v (.string ⟨#[]⟩), .v (.string ⟨#[]⟩), .v (.string ⟨#[]⟩), .sl true [], .sl true [], .sl true [], .v (.string ⟨#[]⟩)])])
  (.seq (.h [.kill [4, 5, 6]] (.reg false [oo 4 (.fa 0 (.s 1)),
   oo 5 (.ld 1 false (.s 4)),
   oo 6 (.fa 0 (.s 3)),
   on (.st 1 (.s 6) (.s 5))]))
  (.seq (.h [.kill [7, 8, 9]] (.reg false [oo 7 (.fa 1 (.s 1)),
   oo 8 (.ld 1 false (.s 7)),
   oo 9 (.fa 1 (.s 3)),
   on (.st 1 (.s 9) (.s 8))]))
  (.seq (.h [.kill [10, 11, 12]] (.reg false [oo 10 (.fa 2 (.s 1)),
   oo 11 (.ld 1 false (.s 10)),
   oo 12 (.fa 2 (.s 3)),
   on (.st 1 (.s 12) (.s 11))]))
  (.seq (.h [.kill [13, 14, 15]] (.reg false [oo 13 (.fa 3 (.s 1)),
   oo 14 (.ld 1 false (.s 13)),
   oo 15 (.fa 3 (.s 3)),
   on (.st 1 (.s 15) (.s 14))]))
  (.seq (.h [.kill [16, 17, 18, 19]] (.reg false [oo 16 (.fa 4 (.s 1)),
   oo 17 (.ld 1 false (.s 16)),
   oo 18 (.call n_laws_toDeclS [] [true] [(.s 17)]),
   oo 19 (.fa 4 (.s 3)),
   on (.st 1 (.s 19) (.s 18))]))
  (.seq (.h [.kill [20, 21, 22, 23]] (.reg false [oo 20 (.fa 5 (.s 1)),
   oo 21 (.ld 1 false (.s 20)),
   oo 22 (.call n_laws_toAttrS [] [true] [(.s 21)]),
   oo 23 (.fa 5 (.s 3)),
   on (.st 1 (.s 23) (.s 22))]))
  (.seq (.h [.kill [24, 25, 26, 27]] (.reg false [oo 24 (.fa 6 (.s 1)),
   oo 25 (.ld 1 false (.s 24)),
   oo 26 (.call n_laws_toNodeS [] [true] [(.s 25)]),
   oo 27 (.fa 6 (.s 3)),
   on (.st 1 (.s 27) (.s 26))]))
  (.seq (.h [.kill [1, 28, 29, 30]] (.reg false [oo 28 (.fa 7 (.s 1)),
   oo 29 (.ld 1 false (.s 28)),
   oo 30 (.fa 7 (.s 3)),
   on (.st 1 (.s 30) (.s 29))]))
  (.seq (.h [.kill [3, 31]] (.reg false [oo 31 (.ld 8 true (.s 3)),
   on (.st 8 (.s 2) (.s 31))]))
  .ret)))))))))))⟩

def k_laws_toIntS_l8 : K :=
  (.h [.clean []] (.seq (.seq (.h [.kill [8, 9, 10]] (.reg false [oo 8 (.mv (.s 4)),
   oo 9 (.mv (.s 0)),
   oo 10 (.len false (.s 9)),
   oo 11 (.bin .lss (.s 8) (.s 10))]))
  (.cond (.s 11)
   .skip
   (.ex 0)))
  (.seq (.blk 1
   (.h [.kill [11, 14, 15, 16, 17, 18, 19, 20]] (.reg false [oo 14 (.mv (.s 3)),
    oo 15 (.mv (.s 4)),
    oo 16 (.mv (.s 0)),
    oo 17 (.mv (.s 4)),
    oo 18 (.ia 1 (.s 16) (.s 17)),
    oo 19 (.ld 1 false (.s 18)),
    oo 20 (.ia 1 (.s 14) (.s 15)),
    on (.st 1 (.s 20) (.s 19))])))
  (.h [.kill [12, 13]] (.reg false [oo 12 (.mv (.s 4)),
   oo 13 (.bin .add (.s 12) (.c (.int .i64 1))),
   oo 4 (.mv (.s 13))])))))
def k_laws_toIntS_r4 : K :=
  (.seq (.h [.kill [0, 3, 4, 11, 21]] (.reg false [oo 21 (.mv (.s 3)),
   oo 2 (.mv (.s 21))]))
  .ret)
def k_laws_toIntS : F := ⟨22, [.tmp 2],
  (.seq (.h [.kill [2]] (.reg false [oo 2 (.mv (.c (.slice none 0 0)))]))
  (.seq (.h [.kill [5, 6, 7]] (.reg false [oo 5 (.mv (.s 0)),
   oo 6 (.len false (.s 5)),
   oo 7 (.mks [.v (.int .i64 0)] 8 (.s 6)),
   oo 3 (.mv (.s 7))]))
  (.seq (.seq (.h [.clean []] (.reg false [oo 4 (.mv (.c (.int .i64 0)))]))
  (.blk 0
   (.loop k_laws_toIntS_l8)))
  k_laws_toIntS_r4)))⟩

def k_spec_SelFor_l20 : K :=
  (.h [.clean [41, 42, 43]] (.seq (.seq (.h [.kill [28, 29, 30]] (.reg false [oo 28 (.mv (.s 10)),
   oo 29 (.mv (.s 1)),
   oo 30 (.len false (.s 29)),
   oo 31 (.bin .lss (.s 28) (.s 30))]))
  (.cond (.s 31)
   .skip
   (.ex 0)))
  (.seq (.blk 1
   (.seq (.h [.kill [31, 34, 35, 36, 37, 38, 39, 40, 41, 42, 43, 44]] (.reg true [⟨some 34, none, .fa 1 (.s 6), [], []⟩,
    ⟨some 35, none, .ld 1 false (.s 34), [6], []⟩,
    ⟨some 36, none, .ld 8 true (.s 9), [9], []⟩,
    ⟨some 37, none, .mv (.s 1), [], []⟩,
    ⟨some 38, none, .mv (.s 10), [], []⟩,
    ⟨some 39, none, .ia 1 (.s 37) (.s 38), [1], []⟩,
    ⟨some 40, none, .ld 1 false (.s 39), [1], []⟩,
    ⟨some 41, none, .call n_spec_l19Step [] [true] [(.s 36), (.s 40)], [1, 9], [41]⟩,
    ⟨some 42, none, .bsl 5 [(.s 41)], [], [41, 42]⟩,
    ⟨some 43, none, .app 5 72 (.s 35) (.s 42), [], [6, 42, 43]⟩,
    ⟨some 44, none, .fa 1 (.s 6), [], []⟩,
    ⟨none, none, .st 1 (.s 44) (.s 43), [], [6, 42, 43]⟩]))
   (.h [.kill [45, 46, 47, 48, 49, 50, 51, 52]] (.reg true [⟨some 45, none, .fa 6 (.s 9), [], []⟩,
    ⟨some 46, none, .ld 1 false (.s 45), [9], []⟩,
    ⟨some 47, none, .mv (.s 1), [], []⟩,
    ⟨some 48, none, .mv (.s 10), [], []⟩,
    ⟨some 49, none, .ia 1 (.s 47) (.s 48), [1], []⟩,
    ⟨some 50, none, .ld 1 false (.s 49), [1], []⟩,
    ⟨some 51, none, .ia 8 (.s 46) (.s 50), [9], []⟩,
    ⟨some 52, none, .ld 8 true (.s 51), [1, 9], []⟩,
    ⟨none, none, .st 8 (.s 9) (.s 52), [], [1, 9]⟩]))))
  (.h [.kill [32, 33]] (.reg false [oo 32 (.mv (.s 10)),
   oo 33 (.bin .add (.s 32) (.c (.int .i64 1))),
   oo 10 (.mv (.s 33))])))))
def k_spec_SelFor_r16 : K :=
  (.seq (.h [.kill [1, 6, 9, 10, 31, 53]] (.reg false [oo 53 (.ld 2 true (.s 6)),
   on (.st 2 (.s 4) (.s 53)),
   oo 5 (.mv (.c (.bool true)))]))
  .ret)
def k_spec_SelFor : F := ⟨54, [.cell 4 2 true, .tmp 5],
  (.seq (.h [.kill [0, 5]] (.reg false [oo 2 (.box (.s 0)),
   oo 4 (.alloc [.v (.string ⟨#[]⟩), .sl true []]),
   oo 5 (.mv (.c (.bool false)))]))
  (.seq (.h [.kill [11]] (.reg false [oo 11 (.build [.v (.string ⟨#[]⟩), .sl true []] []),
   oo 6 (.alloc [.v (.string ⟨#[]⟩), .sl true []]),
   on (.st 2 (.s 6) (.s 11))]))
  (.seq (.seq (.h [.kill [7, 12, 13, 14, 15, 16, 17]] (.reg false [oo 13 (.ld 8 true (.s 2)),
   oo 14 (.mv (.s 1)),
   oo 15 (.call n_spec_NodeAt [] [true] [(.s 13), (.s 14)]),
   oo 12 (.mv (.s 15)),
   oo 16 (.ext (.s 12) 0),
   oo 17 (.ext (.s 12) 1),
   oo 7 (.alloc [.v (.int .i64 0), .v (.string ⟨#[]⟩), .v (.string ⟨#[]⟩), .v (.string ⟨#[]⟩), .sl true [], .sl true [], .sl true [], .v (.string ⟨#[]⟩)]),
   on (.st 8 (.s 7) (.s 16)),
   oo 8 (.mv (.s 17))]))
  (.seq (.h [.kill [8, 18, 19, 20, 21, 22, 23, 24]] (.reg false [oo 18 (.mv (.s 8)),
   oo 19 (.un .not (.s 18)),
   oo 20 (.mv (.s 19)),
   ow 21 20 false (.mv (.s 1)),
   ow 22 20 false (.len false (.s 21)),
   ow 23 20 false (.call n_spec_l1In [] [] [(.s 22), (.c (.int .i64 1)), (.c (.int .i64 8))]),
   ow 24 20 false (.un .not (.s 23)),
   oo 25 (.pick (.s 20) (.c (.bool true)) (.s 24))]))
  (.cond (.s 25)
   (.seq (.h [.kill [1, 2, 6, 25, 26]] (.reg false [oo 26 (.ld 2 true (.s 6)),
    on (.st 2 (.s 4) (.s 26)),
    oo 5 (.mv (.c (.bool false)))]))
   .ret)
   .skip)))
  (.seq (.h [.kill [2, 25, 27]] (.reg false [oo 27 (.ld 8 true (.s 2)),
   oo 9 (.alloc [.v (.int .i64 0), .v (.string ⟨#[]⟩), .v (.string ⟨#[]⟩), .v (.string ⟨#[]⟩), .sl true [], .sl true [], .sl true [], .v (.string ⟨#[]⟩)]),
   on (.st 8 (.s 9) (.s 27))]))
  (.seq (.seq (.h [.clean [2, 7, 15]] (.reg false [oo 10 (.mv (.c (.int .i64 0)))]))
  (.blk 0
   (.loop k_spec_SelFor_l20)))
  k_spec_SelFor_r16)))))⟩

def k_impl_SelFor_l18 : K :=
  (.h [.clean [54, 56, 57]] (.seq (.reg false [oo 32 (.bin .lss (.s 31) (.s 30))])
  (.seq (.cond (.s 32)
   .skip
   (.ex 0))
  (.seq (.blk 1
   (.seq (.h [.kill [32, 33, 34]] (.reg false [oo 33 (.ia 1 (.s 29) (.s 31)),
    oo 34 (.ld 1 false (.s 33)),
    oo 10 (.mv (.s 34))]))
   (.seq (.h [.kill [35, 36, 37, 38, 39, 40]] (.reg false [oo 35 (.fa 6 (.s 2)),
    oo 36 (.ld 1 false (.s 35)),
    oo 37 (.mv (.s 10)),
    oo 38 (.ia 8 (.s 36) (.s 37)),
    oo 39 (.fa 0 (.s 38)),
    oo 40 (.ld 1 false (.s 39)),
    oo 11 (.mv (.s 40))]))
   (.seq (.h [.kill [41, 42, 43, 44, 45, 46, 47]] (.reg false [oo 41 (.fa 6 (.s 2)),
    oo 42 (.ld 1 false (.s 41)),
    oo 43 (.mv (.s 10)),
    oo 44 (.bin .add (.s 43) (.c (.int .i64 1))),
    oo 45 (.slc 8 (.s 42) none (some (.s 44))),
    oo 46 (.mv (.s 11)),
    oo 47 (.call n_impl_ofKind [] [] [(.s 45), (.s 46)]),
    oo 12 (.mv (.s 47))]))
   (.seq (.h [.kill [11, 12, 48, 49, 50, 51, 52, 53, 54, 55, 56, 57, 58]] (.reg true [⟨some 48, none, .fa 1 (.s 8), [], []⟩,
    ⟨some 49, none, .ld 1 false (.s 48), [8], []⟩,
    ⟨some 50, none, .mv (.s 11), [], []⟩,
    ⟨some 51, none, .call n_impl_stepKind [] [] [(.s 50)], [1, 2], []⟩,
    ⟨some 52, none, .mv (.s 12), [], []⟩,
    ⟨some 53, none, .build [.v (.int .i64 0), .v (.int .i64 0), .v (.string ⟨#[]⟩), .v (.string ⟨#[]⟩), .v (.string ⟨#[]⟩)] [(0, 1, (.c (.int .i64 1))), (1, 1, (.s 52))], [], []⟩,
    ⟨some 54, none, .bsl 5 [(.s 53)], [], [47, 54]⟩,
    ⟨some 55, none, .build [.v (.bool false), .v (.int .i64 0), .v (.string ⟨#[]⟩), .v (.string ⟨#[]⟩), .sl true []] [(1, 1, (.s 51)), (4, 1, (.s 54))], [], []⟩,
    ⟨some 56, none, .bsl 5 [(.s 55)], [], [51, 54, 56]⟩,
    ⟨some 57, none, .app 5 72 (.s 49) (.s 56), [], [8, 56, 57]⟩,
    ⟨some 58, none, .fa 1 (.s 8), [], []⟩,
    ⟨none, none, .st 1 (.s 58) (.s 57), [], [8, 56, 57]⟩]))
   (.h [.kill [10, 59, 60, 61, 62, 63]] (.reg false [oo 59 (.fa 6 (.s 2)),
    oo 60 (.ld 1 false (.s 59)),
    oo 61 (.mv (.s 10)),
    oo 62 (.ia 8 (.s 60) (.s 61)),
    oo 63 (.ld 8 true (.s 62)),
    on (.st 8 (.s 2) (.s 63))])))))))
  (.h [.kill [64]] (.reg false [oo 64 (.bin .add (.s 31) (.c (.int .i64 1))),
   oo 31 (.mv (.s 64))]))))))
def k_impl_SelFor_r14 : K :=
  (.seq (.h [.kill [2, 8, 29, 30, 31, 32, 65]] (.reg false [oo 65 (.ld 2 true (.s 8)),
   on (.st 2 (.s 4) (.s 65)),
   oo 5 (.mv (.c (.bool true)))]))
  .ret)
def k_impl_SelFor : F := ⟨66, [.cell 4 2 true, .tmp 5],
  (.seq (.h [.kill [0, 5]] (.reg false [oo 2 (.box (.s 0)),
   oo 4 (.alloc [.v (.string ⟨#[]⟩), .sl true []]),
   oo 5 (.mv (.c (.bool false)))]))
  (.seq (.seq (.h [.kill [6, 13, 14, 15, 16, 17, 18]] (.reg false [oo 14 (.ld 8 true (.s 2)),
   oo 15 (.mv (.s 1)),
   oo 16 (.call n_impl_NodeAt [] [true] [(.s 14), (.s 15)]),
   oo 13 (.mv (.s 16)),
   oo 17 (.ext (.s 13) 0),
   oo 18 (.ext (.s 13) 1),
   oo 6 (.alloc [.v (.int .i64 0), .v (.string ⟨#[]⟩), .v (.string ⟨#[]⟩), .v (.string ⟨#[]⟩), .sl true [], .sl true [], .sl true [], .v (.string ⟨#[]⟩)]),
   on (.st 8 (.s 6) (.s 17)),
   oo 7 (.mv (.s 18))]))
  (.seq (.h [.kill [7, 19, 20, 21, 22, 23, 24, 25]] (.reg false [oo 19 (.mv (.s 7)),
   oo 20 (.un .not (.s 19)),
   oo 21 (.mv (.s 20)),
   ow 22 21 false (.mv (.s 1)),
   ow 23 21 false (.len false (.s 22)),
   ow 24 21 false (.call n_impl_in [] [] [(.s 23), (.c (.int .i64 1)), (.c (.int .i64 8))]),
   ow 25 21 false (.un .not (.s 24)),
   oo 26 (.pick (.s 21) (.c (.bool true)) (.s 25))]))
  (.cond (.s 26)
   (.seq (.h [.kill [1, 2, 26, 27]] (.reg false [oo 27 (.build [.v (.string ⟨#[]⟩), .sl true []] []),
    on (.st 2 (.s 4) (.s 27)),
    oo 5 (.mv (.c (.bool false)))]))
   .ret)
   .skip)))
  (.seq (.h [.kill [26, 28]] (.reg false [oo 28 (.build [.v (.string ⟨#[]⟩), .sl true []] []),
   oo 8 (.alloc [.v (.string ⟨#[]⟩), .sl true []]),
   on (.st 2 (.s 8) (.s 28))]))
  (.seq (.seq (.h [.clean [6, 16]] (.h [.kill [1]] (.reg false [oo 29 (.mv (.s 1)),
   oo 30 (.len false (.s 29)),
   oo 31 (.mv (.c (.int .i64 0)))])))
  (.blk 0
   (.loop k_impl_SelFor_l18)))
  k_impl_SelFor_r14))))⟩

def k_laws_eqSel : F := ⟨16, [.tmp 4],
  (.seq (.h [.kill [0, 1, 4]] (.reg false [oo 2 (.box (.s 0)),
   oo 3 (.box (.s 1)),
   oo 4 (.mv (.c (.bool false)))]))
  (.seq (.seq (.h [.kill [5, 6, 7, 8]] (.reg false [oo 5 (.fa 0 (.s 2)),
   oo 6 (.ld 1 false (.s 5)),
   oo 7 (.fa 0 (.s 3)),
   oo 8 (.ld 1 false (.s 7)),
   oo 9 (.bin .neq (.s 6) (.s 8))]))
  (.cond (.s 9)
   (.seq (.h [.kill [2, 3, 9]] (.reg false [oo 4 (.mv (.c (.bool false)))]))
   .ret)
   .skip))
  (.seq (.seq (.h [.kill [2, 3, 9, 10, 11, 12, 13, 14]] (.reg false [oo 10 (.fa 1 (.s 2)),
   oo 11 (.ld 1 false (.s 10)),
   oo 12 (.fa 1 (.s 3)),
   oo 13 (.ld 1 false (.s 12)),
   oo 14 (.call n_laws_eqStepS [] [] [(.s 11), (.s 13)]),
   oo 15 (.un .not (.s 14))]))
  (.cond (.s 15)
   (.seq (.h [.kill [15]] (.reg false [oo 4 (.mv (.c (.bool false)))]))
   .ret)
   .skip))
  (.seq (.h [.kill [15]] (.reg false [oo 4 (.mv (.c (.bool true)))]))
  .ret))))⟩

def k_laws_eqNode : F := ⟨48, [.tmp 4],
  (.seq (.h [.kill [0, 1, 4]] (.reg false [oo 2 (.box (.s 0)),
   oo 3 (.box (.s 1)),
   oo 4 (.mv (.c (.bool false)))]))
  (.seq (.seq (.h [.kill [5, 6, 7, 8]] (.reg false [oo 5 (.fa 0 (.s 2)),
   oo 6 (.ld 1 false (.s 5)),
   oo 7 (.fa 0 (.s 3)),
   oo 8 (.ld 1 false (.s 7)),
   oo 9 (.bin .neq (.s 6) (.s 8))]))
  (.cond (.s 9)
   (.seq (.h [.kill [2, 3, 9]] (.reg false [oo 4 (.mv (.c (.bool false)))]))
   .ret)
   .skip))
  (.seq (.seq (.h [.kill [9, 10, 11, 12, 13]] (.reg false [oo 10 (.fa 1 (.s 2)),
   oo 11 (.ld 1 false (.s 10)),
   oo 12 (.fa 1 (.s 3)),
   oo 13 (.ld 1 false (.s 12)),
   oo 14 (.bin .neq (.s 11) (.s 13))]))
  (.cond (.s 14)
   (.seq (.h [.kill [2, 3, 14]] (.reg false [oo 4 (.mv (.c (.bool false)))]))
   .ret)
   .skip))
  (.seq (.seq (.h [.kill [14, 15, 16, 17, 18]] (.reg false [oo 15 (.fa 2 (.s 2)),
   oo 16 (.ld 1 false (.s 15)),
   oo 17 (.fa 2 (.s 3)),
   oo 18 (.ld 1 false (.s 17)),
   oo 19 (.bin .neq (.s 16) (.s 18))]))
  (.cond (.s 19)
   (.seq (.h [.kill [2, 3, 19]] (.reg false [oo 4 (.mv (.c (.bool false)))]))
   .ret)
   .skip))
  (.seq (.seq (.h [.kill [19, 20, 21, 22, 23]] (.reg false [oo 20 (.fa 3 (.s 2)),
   oo 21 (.ld 1 false (.s 20)),
   oo 22 (.fa 3 (.s 3)),
   oo 23 (.ld 1 false (.s 22)),
   oo 24 (.bin .neq (.s 21) (.s 23))]))
  (.cond (.s 24)
   (.seq (.h [.kill [2, 3, 24]] (.reg false [oo 4 (.mv (.c (.bool false)))]))
   .ret)
   .skip))
  (.seq (.seq (.h [.kill [24, 25, 26, 27, 28, 29]] (.reg false [oo 25 (.fa 4 (.s 2)),
   oo 26 (.ld 1 false (.s 25)),
   oo 27 (.fa 4 (.s 3)),
   oo 28 (.ld 1 false (.s 27)),
   oo 29 (.call n_laws_eqDeclS [] [] [(.s 26), (.s 28)]),
   oo 30 (.un .not (.s 29))]))
  (.cond (.s 30)
   (.seq (.h [.kill [2, 3, 30]] (.reg false [oo 4 (.mv (.c (.bool false)))]))
   .ret)
   .skip))
  (.seq (.seq (.h [.kill [30, 31, 32, 33, 34, 35]] (.reg false [oo 31 (.fa 5 (.s 2)),
   oo 32 (.ld 1 false (.s 31)),
   oo 33 (.fa 5 (.s 3)),
   oo 34 (.ld 1 false (.s 33)),
   oo 35 (.call n_laws_eqAttrS [] [] [(.s 32), (.s 34)]),
   oo 36 (.un .not (.s 35))]))
  (.cond (.s 36)
   (.seq (.h [.kill [2, 3, 36]] (.reg false [oo 4 (.mv (.c (.bool false)))]))
   .ret)
   .skip))
  (.seq (.seq (.h [.kill [36, 37, 38, 39, 40, 41]] (.reg false [oo 37 (.fa 6 (.s 2)),
   oo 38 (.ld 1 false (.s 37)),
   oo 39 (.fa 6 (.s 3)),
   oo 40 (.ld 1 false (.s 39)),
   oo 41 (.call n_laws_eqNodeS [] [] [(.s 38), (.s 40)]),
   oo 42 (.un .not (.s 41))]))
  (.cond (.s 42)
   (.seq (.h [.kill [2, 3, 42]] (.reg false [oo 4 (.mv (.c (.bool false)))]))
   .ret)
   .skip))
  (.seq (.seq (.h [.kill [2, 3, 42, 43, 44, 45, 46]] (.reg false [oo 43 (.fa 7 (.s 2)),
   oo 44 (.ld 1 false (.s 43)),
   oo 45 (.fa 7 (.s 3)),
   oo 46 (.ld 1 false (.s 45)),
   oo 47 (.bin .neq (.s 44) (.s 46))]))
  (.cond (.s 47)
   (.seq (.h [.kill [47]] (.reg false [oo 4 (.mv (.c (.bool false)))]))
   .ret)
   .skip))
  (.seq (.h [.kill [47]] (.reg false [oo 4 (.mv (.c (.bool true)))]))
  .ret))))))))))⟩

def k_laws_eqIntS_l14 : K :=
  (.h [.clean []] (.seq (.seq (.h [.kill [11, 12, 13]] (.reg false [oo 11 (.mv (.s 5)),
   oo 12 (.mv (.s 0)),
   oo 13 (.len false (.s 12)),
   oo 14 (.bin .lss (.s 11) (.s 13))]))
  (.cond (.s 14)
   .skip
   (.ex 0)))
  (.seq (.blk 1
   (.seq (.h [.kill [14, 17, 18, 19, 20, 21, 22, 23, 24]] (.reg true [⟨some 17, none, .mv (.s 0), [], []⟩,
    ⟨some 18, none, .mv (.s 5), [], []⟩,
    ⟨some 19, none, .ia 1 (.s 17) (.s 18), [0], []⟩,
    ⟨some 20, none, .ld 1 false (.s 19), [0], []⟩,
    ⟨some 21, none, .mv (.s 1), [], []⟩,
    ⟨some 22, none, .mv (.s 5), [], []⟩,
    ⟨some 23, none, .ia 1 (.s 21) (.s 22), [1], []⟩,
    ⟨some 24, none, .ld 1 false (.s 23), [1], []⟩,
    ⟨some 25, none, .bin .neq (.s 20) (.s 24), [], []⟩]))
   (.cond (.s 25)
    (.seq (.h [.kill [0, 1, 5, 25]] (.reg false [oo 4 (.mv (.c (.bool false)))]))
    .ret)
    .skip)))
  (.h [.kill [15, 16, 25]] (.reg false [oo 15 (.mv (.s 5)),
   oo 16 (.bin .add (.s 15) (.c (.int .i64 1))),
   oo 5 (.mv (.s 16))])))))
def k_laws_eqIntS_r10 : K :=
  (.seq (.h [.kill [0, 1, 5, 14]] (.reg false [oo 4 (.mv (.c (.bool true)))]))
  .ret)
def k_laws_eqIntS : F := ⟨26, [.tmp 4],
  (.seq (.h [.kill [4]] (.reg false [oo 4 (.mv (.c (.bool false)))]))
  (.seq (.seq (.h [.kill [6, 7, 8, 9]] (.reg false [oo 6 (.mv (.s 0)),
   oo 7 (.len false (.s 6)),
   oo 8 (.mv (.s 1)),
   oo 9 (.len false (.s 8)),
   oo 10 (.bin .neq (.s 7) (.s 9))]))
  (.cond (.s 10)
   (.seq (.h [.kill [0, 1, 10]] (.reg false [oo 4 (.mv (.c (.bool false)))]))
   .ret)
   .skip))
  (.seq (.seq (.h [.clean []] (.h [.kill [10]] (.reg false [oo 5 (.mv (.c (.int .i64 0)))])))
  (.blk 0
   (.loop k_laws_eqIntS_l14)))
  k_laws_eqIntS_r10)))⟩

def k_laws_markNode : F := ⟨18, [.tmp 4],
  (.seq (.h [.kill [0, 4]] (.reg false [oo 2 (.vbox (.s 0)),
   oo 4 (.mv (.c (.int .i64 0)))]))
  (.seq (.h [.kill [5, 6, 7, 8]] (.reg false [oo 5 (.fa 4 (.s 2)),
   oo 6 (.ld 1 false (.s 5)),
   oo 7 (.mv (.s 1)),
   oo 8 (.call n_laws_markDeclS [.ref] [] [(.s 6), (.s 7)]),
   oo 1 (.mv (.s 8))]))
  (.seq (.h [.kill [9, 10, 11, 12]] (.reg false [oo 9 (.fa 5 (.s 2)),
   oo 10 (.ld 1 false (.s 9)),
   oo 11 (.mv (.s 1)),
   oo 12 (.call n_laws_markAttrS [.ref] [] [(.s 10), (.s 11)]),
   oo 1 (.mv (.s 12))]))
  (.seq (.h [.kill [2, 13, 14, 15, 16]] (.reg false [oo 13 (.fa 6 (.s 2)),
   oo 14 (.ld 1 false (.s 13)),
   oo 15 (.mv (.s 1)),
   oo 16 (.call n_laws_markNodeS [.ref] [] [(.s 14), (.s 15)]),
   oo 1 (.mv (.s 16))]))
  (.seq (.h [.kill [1, 17]] (.reg false [oo 17 (.mv (.s 1)),
   oo 4 (.mv (.s 17))]))
  .ret)))))⟩

def k_laws_markIntS_l6 : K :=
  (.h [.clean []] (.seq (.seq (.h [.kill [6, 7, 8]] (.reg false [oo 6 (.mv (.s 5)),
   oo 7 (.mv (.s 0)),
   oo 8 (.len false (.s 7)),
   oo 9 (.bin .lss (.s 6) (.s 8))]))
  (.cond (.s 9)
   .skip
   (.ex 0)))
  (.seq (.blk 1
   (.seq (.h [.kill [9, 12, 13, 14, 15]] (.reg false [oo 12 (.mv (.s 0)),
    oo 13 (.mv (.s 5)),
    oo 14 (.mv (.s 1)),
    oo 15 (.ia 1 (.s 12) (.s 13)),
    on (.st 1 (.s 15) (.s 14))]))
   (.h [.kill [16, 17]] (.reg false [oo 16 (.mv (.s 1)),
    oo 17 (.bin .add (.s 16) (.c (.int .i64 1))),
    oo 1 (.mv (.s 17))]))))
  (.h [.kill [10, 11]] (.reg false [oo 10 (.mv (.s 5)),
   oo 11 (.bin .add (.s 10) (.c (.int .i64 1))),
   oo 5 (.mv (.s 11))])))))
def k_laws_markIntS_r2 : K :=
  (.seq (.h [.kill [0, 1, 5, 9, 18]] (.reg false [oo 18 (.mv (.s 1)),
   oo 4 (.mv (.s 18))]))
  .ret)
def k_laws_markIntS : F := ⟨19, [.tmp 4],
  (.seq (.h [.kill [4]] (.reg false [oo 4 (.mv (.c (.int .i64 0)))]))
  (.seq (.seq (.h [.clean []] (.reg false [oo 5 (.mv (.c (.int .i64 0)))]))
  (.blk 0
   (.loop k_laws_markIntS_l6)))
  k_laws_markIntS_r2))⟩

def k_laws_markSel : F := ⟨10, [.tmp 4],
  (.seq (.h [.kill [0, 4]] (.reg false [oo 2 (.vbox (.s 0)),
   oo 4 (.mv (.c (.int .i64 0)))]))
  (.seq (.h [.kill [2, 5, 6, 7, 8]] (.reg false [oo 5 (.fa 1 (.s 2)),
   oo 6 (.ld 1 false (.s 5)),
   oo 7 (.mv (.s 1)),
   oo 8 (.call n_laws_markStepS [.ref] [] [(.s 6), (.s 7)]),
   oo 1 (.mv (.s 8))]))
  (.seq (.h [.kill [1, 9]] (.reg false [oo 9 (.mv (.s 1)),
   oo 4 (.mv (.s 9))]))
  .ret)))⟩

def k_laws_heldSel : F := ⟨12, [.tmp 4],
  (.seq (.h [.kill [0, 4]] (.reg false [oo 2 (.box (.s 0)),
   oo 4 (.mv (.c (.int .i64 0)))]))
  (.seq (.h [.kill [2, 5, 6, 7, 8]] (.reg false [oo 5 (.fa 1 (.s 2)),
   oo 6 (.ld 1 false (.s 5)),
   oo 7 (.mv (.s 1)),
   oo 8 (.call n_laws_heldStepS [] [] [(.s 6), (.s 7)]),
   oo 1 (.mv (.s 8))]))
  (.seq (.seq (.h [.kill [9]] (.reg false [oo 9 (.mv (.s 1)),
   oo 10 (.bin .lss (.s 9) (.c (.int .i64 0)))]))
  (.cond (.s 10)
   (.seq (.h [.kill [1, 10]] (.reg false [oo 4 (.mv (.c (.int .i64 (-1))))]))
   .ret)
   .skip))
  (.seq (.h [.kill [1, 10, 11]] (.reg false [oo 11 (.mv (.s 1)),
   oo 4 (.mv (.s 11))]))
  .ret))))⟩

def k_laws_szDeclS_l16 : K :=
  (.h [.clean []] (.seq (.seq (.h [.kill [12, 13, 14]] (.reg false [oo 12 (.mv (.s 5)),
   oo 13 (.mv (.s 0)),
   oo 14 (.len false (.s 13)),
   oo 15 (.bin .lss (.s 12) (.s 14))]))
  (.cond (.s 15)
   .skip
   (.ex 0)))
  (.seq (.blk 1
   (.seq (.h [.kill [15, 18, 19, 20, 21, 22, 23]] (.reg false [oo 18 (.mv (.s 0)),
    oo 19 (.mv (.s 5)),
    oo 20 (.ia 2 (.s 18) (.s 19)),
    oo 21 (.ld 2 true (.s 20)),
    oo 22 (.mv (.s 1)),
    oo 23 (.call n_laws_szDecl [] [] [(.s 21), (.s 22)]),
    oo 1 (.mv (.s 23))]))
   (.seq (.h [.kill [24]] (.reg false [oo 24 (.mv (.s 1)),
    oo 25 (.bin .lss (.s 24) (.c (.int .i64 0)))]))
   (.cond (.s 25)
    (.seq (.h [.kill [0, 1, 5, 25]] (.reg false [oo 4 (.mv (.c (.int .i64 (-1))))]))
    .ret)
    .skip))))
  (.h [.kill [16, 17, 25]] (.reg false [oo 16 (.mv (.s 5)),
   oo 17 (.bin .add (.s 16) (.c (.int .i64 1))),
   oo 5 (.mv (.s 17))])))))
def k_laws_szDeclS_r12 : K :=
  (.seq (.h [.kill [0, 1, 5, 15, 26]] (.reg false [oo 26 (.mv (.s 1)),
   oo 4 (.mv (.s 26))]))
  .ret)
def k_laws_szDeclS : F := ⟨27, [.tmp 4],
  (.seq (.h [.kill [4]] (.reg false [oo 4 (.mv (.c (.int .i64 0)))]))
  (.seq (.h [.kill [6, 7, 8, 9]] (.reg false [oo 6 (.mv (.s 1)),
   oo 7 (.mv (.s 0)),
   oo 8 (.len false (.s 7)),
   oo 9 (.bin .sub (.s 6) (.s 8)),
   oo 1 (.mv (.s 9))]))
  (.seq (.seq (.h [.kill [10]] (.reg false [oo 10 (.mv (.s 1)),
   oo 11 (.bin .lss (.s 10) (.c (.int .i64 0)))]))
  (.cond (.s 11)
   (.seq (.h [.kill [0, 1, 11]] (.reg false [oo 4 (.mv (.c (.int .i64 (-1))))]))
   .ret)
   .skip))
  (.seq (.seq (.h [.clean []] (.h [.kill [11]] (.reg false [oo 5 (.mv (.c (.int .i64 0)))])))
  (.blk 0
   (.loop k_laws_szDeclS_l16)))
  k_laws_szDeclS_r12))))⟩

def k_laws_szAttrS_l16 : K :=
  (.h [.clean []] (.seq (.seq (.h [.kill [12, 13, 14]] (.reg false [oo 12 (.mv (.s 5)),
   oo 13 (.mv (.s 0)),
   oo 14 (.len false (.s 13)),
   oo 15 (.bin .lss (.s 12) (.s 14))]))
  (.cond (.s 15)
   .skip
   (.ex 0)))
  (.seq (.blk 1
   (.seq (.h [.kill [15, 18, 19, 20, 21, 22, 23]] (.reg false [oo 18 (.mv (.s 0)),
    oo 19 (.mv (.s 5)),
    oo 20 (.ia 4 (.s 18) (.s 19)),
    oo 21 (.ld 4 true (.s 20)),
    oo 22 (.mv (.s 1)),
    oo 23 (.call n_laws_szAttr [] [] [(.s 21), (.s 22)]),
    oo 1 (.mv (.s 23))]))
   (.seq (.h [.kill [24]] (.reg false [oo 24 (.mv (.s 1)),
    oo 25 (.bin .lss (.s 24) (.c (.int .i64 0)))]))
   (.cond (.s 25)
    (.seq (.h [.kill [0, 1, 5, 25]] (.reg false [oo 4 (.mv (.c (.int .i64 (-1))))]))
    .ret)
    .skip))))
  (.h [.kill [16, 17, 25]] (.reg false [oo 16 (.mv (.s 5)),
   oo 17 (.bin .add (.s 16) (.c (.int .i64 1))),
   oo 5 (.mv (.s 17))])))))
def k_laws_szAttrS_r12 : K :=
  (.seq (.h [.kill [0, 1, 5, 15, 26]] (.reg false [oo 26 (.mv (.s 1)),
   oo 4 (.mv (.s 26))]))
  .ret)
def k_laws_szAttrS : F := ⟨27, [.tmp 4],
  (.seq (.h [.kill [4]] (.reg false [oo 4 (.mv (.c (.int .i64 0)))]))
  (.seq (.h [.kill [6, 7, 8, 9]] (.reg false [oo 6 (.mv (.s 1)),
   oo 7 (.mv (.s 0)),
   oo 8 (.len false (.s 7)),
   oo 9 (.bin .sub (.s 6) (.s 8)),
   oo 1 (.mv (.s 9))]))
  (.seq (.seq (.h [.kill [10]] (.reg false [oo 10 (.mv (.s 1)),
   oo 11 (.bin .lss (.s 10) (.c (.int .i64 0)))]))
  (.cond (.s 11)
   (.seq (.h [.kill [0, 1, 11]] (.reg false [oo 4 (.mv (.c (.int .i64 (-1))))]))
   .ret)
   .skip))
  (.seq (.seq (.h [.clean []] (.h [.kill [11]] (.reg false [oo 5 (.mv (.c (.int .i64 0)))])))
  (.blk 0
   (.loop k_laws_szAttrS_l16)))
  k_laws_szAttrS_r12))))⟩

def k_laws_szNodeS_l16 : K :=
  (.h [.clean []] (.seq (.seq (.h [.kill [12, 13, 14]] (.reg false [oo 12 (.mv (.s 5)),
   oo 13 (.mv (.s 0)),
   oo 14 (.len false (.s 13)),
   oo 15 (.bin .lss (.s 12) (.s 14))]))
  (.cond (.s 15)
   .skip
   (.ex 0)))
  (.seq (.blk 1
   (.seq (.h [.kill [15, 18, 19, 20, 21, 22, 23]] (.reg false [oo 18 (.mv (.s 0)),
    oo 19 (.mv (.s 5)),
    oo 20 (.ia 8 (.s 18) (.s 19)),
    oo 21 (.ld 8 true (.s 20)),
    oo 22 (.mv (.s 1)),
    oo 23 (.call n_laws_szNode [] [] [(.s 21), (.s 22)]),
    oo 1 (.mv (.s 23))]))
   (.seq (.h [.kill [24]] (.reg false [oo 24 (.mv (.s 1)),
    oo 25 (.bin .lss (.s 24) (.c (.int .i64 0)))]))
   (.cond (.s 25)
    (.seq (.h [.kill [0, 1, 5, 25]] (.reg false [oo 4 (.mv (.c (.int .i64 (-1))))]))
    .ret)
    .skip))))
  (.h [.kill [16, 17, 25]] (.reg false [oo 16 (.mv (.s 5)),
   oo 17 (.bin .add (.s 16) (.c (.int .i64 1))),
   oo 5 (.mv (.s 17))])))))
def k_laws_szNodeS_r12 : K :=
  (.seq (.h [.kill [0, 1, 5, 15, 26]] (.reg false [oo 26 (.mv (.s 1)),
   oo 4 (.mv (.s 26))]))
  .ret)
def k_laws_szNodeS : F := ⟨27, [.tmp 4],
  (.seq (.h [.kill [4]] (.reg false [oo 4 (.mv (.c (.int .i64 0)))]))
  (.seq (.h [.kill [6, 7, 8, 9]] (.reg false [oo 6 (.mv (.s 1)),
   oo 7 (.mv (.s 0)),
   oo 8 (.len false (.s 7)),
   oo 9 (.bin .sub (.s 6) (.s 8)),
   oo 1 (.mv (.s 9))]))
  (.seq (.seq (.h [.kill [10]] (.reg false [oo 10 (.mv (.s 1)),
   oo 11 (.bin .lss (.s 10) (.c (.int .i64 0)))]))
  (.cond (.s 11)
   (.seq (.h [.kill [0, 1, 11]] (.reg false [oo 4 (.mv (.c (.int .i64 (-1))))]))
   .ret)
   .skip))
  (.seq (.seq (.h [.clean []] (.h [.kill [11]] (.reg false [oo 5 (.mv (.c (.int .i64 0)))])))
  (.blk 0
   (.loop k_laws_szNodeS_l16)))
  k_laws_szNodeS_r12))))⟩

def k_laws_toDeclS_l8 : K :=
  (.h [.clean []] (.seq (.seq (.h [.kill [8, 9, 10]] (.reg false [oo 8 (.mv (.s 4)),
   oo 9 (.mv (.s 0)),
   oo 10 (.len false (.s 9)),
   oo 11 (.bin .lss (.s 8) (.s 10))]))
  (.cond (.s 11)
   .skip
   (.ex 0)))
  (.seq (.blk 1
   (.h [.kill [11, 14, 15, 16, 17, 18, 19, 20, 21]] (.reg false [oo 14 (.mv (.s 3)),
    oo 15 (.mv (.s 4)),
    oo 16 (.mv (.s 0)),
    oo 17 (.mv (.s 4)),
    oo 18 (.ia 2 (.s 16) (.s 17)),
    oo 19 (.ld 2 true (.s 18)),
    oo 20 (.call n_laws_toDecl [] [] [(.s 19)]),
    oo 21 (.ia 2 (.s 14) (.s 15)),
    on (.st 2 (.s 21) (.s 20))])))
  (.h [.kill [12, 13]] (.reg false [oo 12 (.mv (.s 4)),
   oo 13 (.bin .add (.s 12) (.c (.int .i64 1))),
   oo 4 (.mv (.s 13))])))))
def k_laws_toDeclS_r4 : K :=
  (.seq (.h [.kill [0, 3, 4, 11, 22]] (.reg false [oo 22 (.mv (.s 3)),
   oo 2 (.mv (.s 22))]))
  .ret)
def k_laws_toDeclS : F := ⟨23, [.tmp 2],
  (.seq (.h [.kill [2]] (.reg false [oo 2 (.mv (.c (.slice none 0 0)))]))
  (.seq (.h [.kill [5, 6, 7]] (.reg false [oo 5 (.mv (.s 0)),
   oo 6 (.len false (.s 5)),
   oo 7 (.mks [.v (.string ⟨#[]⟩), .v (.string ⟨#[]⟩)] 32 (.s 6)),
   oo 3 (.mv (.s 7))]))
  (.seq (.seq (.h [.clean []] (.reg false [oo 4 (.mv (.c (.int .i64 0)))]))
  (.blk 0
   (.loop k_laws_toDeclS_l8)))
  k_laws_toDeclS_r4)))⟩

def k_laws_toAttrS_l8 : K :=
  (.h [.clean []] (.seq (.seq (.h [.kill [8, 9, 10]] (.reg false [oo 8 (.mv (.s 4)),
   oo 9 (.mv (.s 0)),
   oo 10 (.len false (.s 9)),
   oo 11 (.bin .lss (.s 8) (.s 10))]))
  (.cond (.s 11)
   .skip
   (.ex 0)))
  (.seq (.blk 1
   (.h [.kill [11, 14, 15, 16, 17, 18, 19, 20, 21]] (.reg false [oo 14 (.mv (.s 3)),
    oo 15 (.mv (.s 4)),
    oo 16 (.mv (.s 0)),
    oo 17 (.mv (.s 4)),
    oo 18 (.ia 4 (.s 16) (.s 17)),
    oo 19 (.ld 4 true (.s 18)),
    oo 20 (.call n_laws_toAttr [] [] [(.s 19)]),
    oo 21 (.ia 4 (.s 14) (.s 15)),
    on (.st 4 (.s 21) (.s 20))])))
  (.h [.kill [12, 13]] (.reg false [oo 12 (.mv (.s 4)),
   oo 13 (.bin .add (.s 12) (.c (.int .i64 1))),
   oo 4 (.mv (.s 13))])))))
def k_laws_toAttrS_r4 : K :=
  (.seq (.h [.kill [0, 3, 4, 11, 22]] (.reg false [oo 22 (.mv (.s 3)),
   oo 2 (.mv (.s 22))]))
  .ret)
def k_laws_toAttrS : F := ⟨23, [.tmp 2],
  (.seq (.h [.kill [2]] (.reg false [oo 2 (.mv (.c (.slice none 0 0)))]))
  (.seq (.h [.kill [5, 6, 7]] (.reg false [oo 5 (.mv (.s 0)),
   oo 6 (.len false (.s 5)),
   oo 7 (.mks [.v (.string ⟨#[]⟩), .v (.string ⟨#[]⟩), .v (.string ⟨#[]⟩), .v (.string ⟨#[]⟩)] 64 (.s 6)),
   oo 3 (.mv (.s 7))]))
  (.seq (.seq (.h [.clean []] (.reg false [oo 4 (.mv (.c (.int .i64 0)))]))
  (.blk 0
   (.loop k_laws_toAttrS_l8)))
  k_laws_toAttrS_r4)))⟩

def k_laws_toNodeS_l8 : K :=
  (.h [.clean [20]] (.seq (.seq (.h [.kill [8, 9, 10]] (.reg false [oo 8 (.mv (.s 4)),
   oo 9 (.mv (.s 0)),
   oo 10 (.len false (.s 9)),
   oo 11 (.bin .lss (.s 8) (.s 10))]))
  (.cond (.s 11)
   .skip
   (.ex 0)))
  (.seq (.blk 1
   (.h [.kill [11, 14, 15, 16, 17, 18, 19, 20, 21]] (.reg false [oo 14 (.mv (.s 3)),
    oo 15 (.mv (.s 4)),
    oo 16 (.mv (.s 0)),
    oo 17 (.mv (.s 4)),
    oo 18 (.ia 8 (.s 16) (.s 17)),
    oo 19 (.ld 8 true (.s 18)),
    oo 20 (.call n_laws_toNode [] [true] [(.s 19)]),
    oo 21 (.ia 8 (.s 14) (.s 15)),
    on (.st 8 (.s 21) (.s 20))])))
  (.h [.kill [12, 13]] (.reg false [oo 12 (.mv (.s 4)),
   oo 13 (.bin .add (.s 12) (.c (.int .i64 1))),
   oo 4 (.mv (.s 13))])))))
def k_laws_toNodeS_r4 : K :=
  (.seq (.h [.kill [0, 3, 4, 11, 22]] (.reg false [oo 22 (.mv (.s 3)),
   oo 2 (.mv (.s 22))]))
  .ret)
def k_laws_toNodeS : F := ⟨23, [.tmp 2],
  (.seq (.h [.kill [2]] (.reg false [oo 2 (.mv (.c (.slice none 0 0)))]))
  (.seq (.h [.kill [5, 6, 7]] (.reg false [oo 5 (.mv (.s 0)),
   oo 6 (.len false (.s 5)),
   oo 7 (.mks [.v (.int .i64 0), .v (.string ⟨#[]⟩), .v (.string ⟨#[]⟩), .v (.string ⟨#[]⟩), .sl true [], .sl true [], .sl true [], .v (.string ⟨#[]⟩)] 144 (.s 6)),
   oo 3 (.mv (.s 7))]))
  (.seq (.seq (.h [.clean []] (.reg false [oo 4 (.mv (.c (.int .i64 0)))]))
  (.blk 0
   (.loop k_laws_toNodeS_l8)))
  k_laws_toNodeS_r4)))⟩

def k_spec_NodeAt_l8 : K :=
  (.h [.clean []] (.seq (.seq (.h [.kill [9, 10, 11]] (.reg false [oo 9 (.mv (.s 7)),
   oo 10 (.mv (.s 1)),
   oo 11 (.len false (.s 10)),
   oo 12 (.bin .lss (.s 9) (.s 11))]))
  (.cond (.s 12)
   .skip
   (.ex 0)))
  (.seq (.blk 1
   (.seq (.seq (.h [.kill [12, 15, 16, 17, 18, 19, 20, 21, 22, 23]] (.reg true [⟨some 15, none, .mv (.s 1), [], []⟩,
    ⟨some 16, none, .mv (.s 7), [], []⟩,
    ⟨some 17, none, .ia 1 (.s 15) (.s 16), [1], []⟩,
    ⟨some 18, none, .ld 1 false (.s 17), [1], []⟩,
    ⟨some 19, none, .fa 6 (.s 6), [], []⟩,
    ⟨some 20, none, .ld 1 false (.s 19), [6], []⟩,
    ⟨some 21, none, .len false (.s 20), [], []⟩,
    ⟨some 22, none, .bin .sub (.s 21) (.c (.int .i64 1)), [], []⟩,
    ⟨some 23, none, .call n_spec_l1In [] [] [(.s 18), (.c (.int .i64 0)), (.s 22)], [1], []⟩,
    ⟨some 24, none, .un .not (.s 23), [], []⟩]))
   (.cond (.s 24)
    (.seq (.h [.kill [1, 6, 7, 24, 25]] (.reg false [oo 25 (.build [.v (.int .i64 0), .v (.string ⟨#[]⟩), .v (.string ⟨#[]⟩), .v (.string ⟨#[]⟩), .sl true [], .sl true [], .sl true [], .v (.string ⟨#[]⟩)] []),
     on (.st 8 (.s 4) (.s 25)),
     oo 5 (.mv (.c (.bool false)))]))
    .ret)
    .skip))
   (.h [.kill [24, 26, 27, 28, 29, 30, 31, 32, 33]] (.reg true [⟨some 26, none, .fa 6 (.s 6), [], []⟩,
    ⟨some 27, none, .ld 1 false (.s 26), [6], []⟩,
    ⟨some 28, none, .mv (.s 1), [], []⟩,
    ⟨some 29, none, .mv (.s 7), [], []⟩,
    ⟨some 30, none, .ia 1 (.s 28) (.s 29), [1], []⟩,
    ⟨some 31, none, .ld 1 false (.s 30), [1], []⟩,
    ⟨some 32, none, .ia 8 (.s 27) (.s 31), [6], []⟩,
    ⟨some 33, none, .ld 8 true (.s 32), [1, 6], []⟩,
    ⟨none, none, .st 8 (.s 6) (.s 33), [], [1, 6]⟩]))))
  (.h [.kill [13, 14]] (.reg false [oo 13 (.mv (.s 7)),
   oo 14 (.bin .add (.s 13) (.c (.int .i64 1))),
   oo 7 (.mv (.s 14))])))))
def k_spec_NodeAt_r4 : K :=
  (.seq (.h [.kill [1, 6, 7, 12, 34, 35]] (.reg false [oo 34 (.ld 8 true (.s 6)),
   oo 35 (.call n_spec_l5Copy [] [true] [(.s 34)]),
   on (.st 8 (.s 4) (.s 35)),
   oo 5 (.mv (.c (.bool true)))]))
  .ret)
def k_spec_NodeAt : F := ⟨36, [.cell 4 8 true, .tmp 5],
  (.seq (.h [.kill [0, 5]] (.reg false [oo 2 (.box (.s 0)),
   oo 4 (.alloc [.v (.int .i64 0), .v (.string ⟨#[]⟩), .v (.string ⟨#[]⟩), .v (.string ⟨#[]⟩), .sl true [], .sl true [], .sl true [], .v (.string ⟨#[]⟩)]),
   oo 5 (.mv (.c (.bool false)))]))
  (.seq (.h [.kill [2, 8]] (.reg false [oo 8 (.ld 8 true (.s 2)),
   oo 6 (.alloc [.v (.int .i64 0), .v (.string ⟨#[]⟩), .v (.string ⟨#[]⟩), .v (.string ⟨#[]⟩), .sl true [], .sl true [], .sl true [], .v (.string ⟨#[]⟩)]),
   on (.st 8 (.s 6) (.s 8))]))
  (.seq (.seq (.h [.clean [2]] (.reg false [oo 7 (.mv (.c (.int .i64 0)))]))
  (.blk 0
   (.loop k_spec_NodeAt_l8)))
  k_spec_NodeAt_r4)))⟩

def k_spec_l1In : F := ⟨15, [.tmp 6],
  (.seq (.h [.kill [6]] (.reg false [oo 6 (.mv (.c (.bool false)))]))
  (.seq (.h [.kill [0, 1, 2, 7, 8, 9, 10, 11, 12, 13, 14]] (.reg false [oo 7 (.mv (.s 0)),
   oo 8 (.mv (.s 1)),
   oo 9 (.bin .geq (.s 7) (.s 8)),
   oo 10 (.mv (.s 9)),
   ow 11 10 true (.mv (.s 0)),
   ow 12 10 true (.mv (.s 2)),
   ow 13 10 true (.bin .leq (.s 11) (.s 12)),
   oo 14 (.pick (.s 10) (.s 13) (.c (.bool false))),
   oo 6 (.mv (.s 14))]))
  .ret))⟩

def k_spec_l19Step_l10 : K :=
  (.h [.clean [8]] (.seq (.seq (.h [.kill [15, 16, 17, 18]] (.reg false [oo 15 (.mv (.s 7)),
   oo 16 (.fa 6 (.s 2)),
   oo 17 (.ld 1 false (.s 16)),
   oo 18 (.len false (.s 17)),
   oo 19 (.bin .lss (.s 15) (.s 18))]))
  (.cond (.s 19)
   .skip
   (.ex 0)))
  (.seq (.blk 1
   (.seq (.h [.kill [19, 22, 23, 24, 25, 26]] (.reg false [oo 22 (.fa 6 (.s 2)),
    oo 23 (.ld 1 false (.s 22)),
    oo 24 (.mv (.s 7)),
    oo 25 (.ia 8 (.s 23) (.s 24)),
    oo 26 (.ld 8 true (.s 25)),
    oo 8 (.alloc [.v (.int .i64 0), .v (.string ⟨#[]⟩), .v (.string ⟨#[]⟩), .v (.string ⟨#[]⟩), .sl true [], .sl true [], .sl true [], .v (.string ⟨#[]⟩)]),
    on (.st 8 (.s 8) (.s 26))]))
   (.seq (.h [.kill [8, 27, 28, 29, 30, 31, 32, 33, 34, 35]] (.reg false [oo 27 (.fa 0 (.s 8)),
    oo 28 (.ld 1 false (.s 27)),
    oo 29 (.fa 0 (.s 5)),
    oo 30 (.ld 1 false (.s 29)),
    oo 31 (.bin .eql (.s 28) (.s 30)),
    oo 32 (.mv (.s 31)),
    ow 33 32 true (.mv (.s 7)),
    ow 34 32 true (.mv (.s 1)),
    ow 35 32 true (.bin .leq (.s 33) (.s 34)),
    oo 36 (.pick (.s 32) (.s 35) (.c (.bool false)))]))
   (.cond (.s 36)
    (.h [.kill [36, 37, 38]] (.reg false [oo 37 (.mv (.s 6)),
     oo 38 (.bin .add (.s 37) (.c (.int .i64 1))),
     oo 6 (.mv (.s 38))]))
    .skip))))
  (.h [.kill [20, 21, 36]] (.reg false [oo 20 (.mv (.s 7)),
   oo 21 (.bin .add (.s 20) (.c (.int .i64 1))),
   oo 7 (.mv (.s 21))])))))
def k_spec_l19Step_r6 : K :=
  (.seq (.h [.kill [1, 2, 6, 7, 19, 39, 40, 41, 42]] (.reg false [oo 39 (.mv (.s 6)),
   oo 40 (.build [.v (.int .i64 0), .v (.int .i64 0), .v (.string ⟨#[]⟩), .v (.string ⟨#[]⟩), .v (.string ⟨#[]⟩)] [(0, 1, (.c (.int .i64 1))), (1, 1, (.s 39))]),
   oo 41 (.bsl 5 [(.s 40)]),
   oo 42 (.build [.v (.bool false), .v (.int .i64 0), .v (.string ⟨#[]⟩), .v (.string ⟨#[]⟩), .sl true []] [(1, 1, (.c (.int .i64 2))), (4, 1, (.s 41))]),
   oo 9 (.alloc [.v (.bool false), .v (.int .i64 0), .v (.string ⟨#[]⟩), .v (.string ⟨#[]⟩), .sl true []]),
   on (.st 5 (.s 9) (.s 42))]))
  (.seq (.seq (.h [.kill [5, 43]] (.reg false [oo 43 (.fa 0 (.s 5)),
   oo 44 (.ld 1 false (.s 43))]))
  (.blk 2
   (.seq (.h [.kill [46]] (.reg false [oo 46 (.bin .eql (.s 44) (.c (.int .i64 2))),
    oo 45 (.mv (.s 46))]))
   (.cond (.s 45)
    (.h [.kill [44, 45, 47]] (.reg false [oo 47 (.fa 1 (.s 9)),
     on (.st 1 (.s 47) (.c (.int .i64 3)))]))
    (.seq (.h [.kill [45, 49]] (.reg false [oo 49 (.bin .eql (.s 44) (.c (.int .i64 3))),
     oo 48 (.mv (.s 49))]))
    (.cond (.s 48)
     (.h [.kill [44, 48, 50]] (.reg false [oo 50 (.fa 1 (.s 9)),
      on (.st 1 (.s 50) (.c (.int .i64 4)))]))
     (.seq (.h [.kill [44, 48, 52]] (.reg false [oo 52 (.bin .eql (.s 44) (.c (.int .i64 4))),
      oo 51 (.mv (.s 52))]))
     (.cond (.s 51)
      (.h [.kill [51, 53]] (.reg false [oo 53 (.fa 1 (.s 9)),
       on (.st 1 (.s 53) (.c (.int .i64 5)))]))
      .skip))))))))
  (.seq (.h [.kill [9, 51, 54]] (.reg false [oo 54 (.ld 5 true (.s 9)),
   on (.st 5 (.s 4) (.s 54))]))
  .ret)))
def k_spec_l19Step : F := ⟨55, [.cell 4 5 true],
  (.seq (.h [.kill [0]] (.reg false [oo 2 (.box (.s 0)),
   oo 4 (.alloc [.v (.bool false), .v (.int .i64 0), .v (.string ⟨#[]⟩), .v (.string ⟨#[]⟩), .sl true []])]))
  (.seq (.h [.kill [10, 11, 12, 13, 14]] (.reg false [oo 10 (.fa 6 (.s 2)),
   oo 11 (.ld 1 false (.s 10)),
   oo 12 (.mv (.s 1)),
   oo 13 (.ia 8 (.s 11) (.s 12)),
   oo 14 (.ld 8 true (.s 13)),
   oo 5 (.alloc [.v (.int .i64 0), .v (.string ⟨#[]⟩), .v (.string ⟨#[]⟩), .v (.string ⟨#[]⟩), .sl true [], .sl true [], .sl true [], .v (.string ⟨#[]⟩)]),
   on (.st 8 (.s 5) (.s 14))]))
  (.seq (.reg false [oo 6 (.mv (.c (.int .i64 0)))])
  (.seq (.seq (.h [.clean []] (.reg false [oo 7 (.mv (.c (.int .i64 0)))]))
  (.blk 0
   (.loop k_spec_l19Step_l10)))
  k_spec_l19Step_r6))))⟩

def k_impl_NodeAt_l6 : K :=
  (.h [.clean []] (.seq (.reg false [oo 11 (.bin .lss (.s 10) (.s 9))])
  (.seq (.cond (.s 11)
   .skip
   (.ex 0))
  (.seq (.blk 1
   (.seq (.h [.kill [11, 12, 13]] (.reg false [oo 12 (.ia 1 (.s 8) (.s 10)),
    oo 13 (.ld 1 false (.s 12)),
    oo 7 (.mv (.s 13))]))
   (.seq (.seq (.h [.kill [14, 15, 16, 17, 18, 19]] (.reg false [oo 14 (.mv (.s 7)),
    oo 15 (.fa 6 (.s 2)),
    oo 16 (.ld 1 false (.s 15)),
    oo 17 (.len false (.s 16)),
    oo 18 (.bin .sub (.s 17) (.c (.int .i64 1))),
    oo 19 (.call n_impl_in [] [] [(.s 14), (.c (.int .i64 0)), (.s 18)]),
    oo 20 (.un .not (.s 19))]))
   (.cond (.s 20)
    (.seq (.h [.kill [2, 7, 8, 9, 10, 20, 21]] (.reg false [oo 21 (.build [.v (.int .i64 0), .v (.string ⟨#[]⟩), .v (.string ⟨#[]⟩), .v (.string ⟨#[]⟩), .sl true [], .sl true [], .sl true [], .v (.string ⟨#[]⟩)] []),
     on (.st 8 (.s 4) (.s 21)),
     oo 5 (.mv (.c (.bool false)))]))
    .ret)
    .skip))
   (.h [.kill [7, 20, 22, 23, 24, 25, 26]] (.reg false [oo 22 (.fa 6 (.s 2)),
    oo 23 (.ld 1 false (.s 22)),
    oo 24 (.mv (.s 7)),
    oo 25 (.ia 8 (.s 23) (.s 24)),
    oo 26 (.ld 8 true (.s 25)),
    on (.st 8 (.s 2) (.s 26))])))))
  (.h [.kill [27]] (.reg false [oo 27 (.bin .add (.s 10) (.c (.int .i64 1))),
   oo 10 (.mv (.s 27))]))))))
def k_impl_NodeAt_r2 : K :=
  (.seq (.h [.kill [2, 8, 9, 10, 11, 28, 29]] (.reg false [oo 28 (.ld 8 true (.s 2)),
   oo 29 (.call n_impl_cloneNode [] [true] [(.s 28)]),
   on (.st 8 (.s 4) (.s 29)),
   oo 5 (.mv (.c (.bool true)))]))
  .ret)
def k_impl_NodeAt : F := ⟨30, [.cell 4 8 true, .tmp 5],
  (.seq (.h [.kill [0, 5]] (.reg false [oo 2 (.box (.s 0)),
   oo 4 (.alloc [.v (.int .i64 0), .v (.string ⟨#[]⟩), .v (.string ⟨#[]⟩), .v (.string ⟨#[]⟩), .sl true [], .sl true [], .sl true [], .v (.string ⟨#[]⟩)]),
   oo 5 (.mv (.c (.bool false)))]))
  (.seq (.seq (.h [.clean []] (.h [.kill [1]] (.reg false [oo 8 (.mv (.s 1)),
   oo 9 (.len false (.s 8)),
   oo 10 (.mv (.c (.int .i64 0)))])))
  (.blk 0
   (.loop k_impl_NodeAt_l6)))
  k_impl_NodeAt_r2))⟩

def k_impl_in : F := ⟨15, [.tmp 6],
  (.seq (.h [.kill [6]] (.reg false [oo 6 (.mv (.c (.bool false)))]))
  (.seq (.h [.kill [0, 1, 2, 7, 8, 9, 10, 11, 12, 13, 14]] (.reg false [oo 7 (.mv (.s 0)),
   oo 8 (.mv (.s 1)),
   oo 9 (.bin .geq (.s 7) (.s 8)),
   oo 10 (.mv (.s 9)),
   ow 11 10 true (.mv (.s 0)),
   ow 12 10 true (.mv (.s 2)),
   ow 13 10 true (.bin .leq (.s 11) (.s 12)),
   oo 14 (.pick (.s 10) (.s 13) (.c (.bool false))),
   oo 6 (.mv (.s 14))]))
  .ret))⟩

def k_impl_ofKind_l8 : K :=
  (.h [.clean [7]] (.seq (.reg false [oo 11 (.bin .lss (.s 10) (.s 9))])
  (.seq (.cond (.s 11)
   .skip
   (.ex 0))
  (.seq (.blk 1
   (.seq (.h [.kill [11, 12, 13]] (.reg false [oo 12 (.ia 8 (.s 8) (.s 10)),
    oo 13 (.ld 8 true (.s 12)),
    oo 7 (.alloc [.v (.int .i64 0), .v (.string ⟨#[]⟩), .v (.string ⟨#[]⟩), .v (.string ⟨#[]⟩), .sl true [], .sl true [], .sl true [], .v (.string ⟨#[]⟩)]),
    on (.st 8 (.s 7) (.s 13))]))
   (.seq (.h [.kill [7, 14, 15, 16]] (.reg false [oo 14 (.fa 0 (.s 7)),
    oo 15 (.ld 1 false (.s 14)),
    oo 16 (.mv (.s 1)),
    oo 17 (.bin .eql (.s 15) (.s 16))]))
   (.cond (.s 17)
    (.h [.kill [17, 18, 19]] (.reg false [oo 18 (.mv (.s 5)),
     oo 19 (.bin .add (.s 18) (.c (.int .i64 1))),
     oo 5 (.mv (.s 19))]))
    .skip))))
  (.h [.kill [17, 20]] (.reg false [oo 20 (.bin .add (.s 10) (.c (.int .i64 1))),
   oo 10 (.mv (.s 20))]))))))
def k_impl_ofKind_r4 : K :=
  (.seq (.h [.kill [1, 5, 8, 9, 10, 11, 21]] (.reg false [oo 21 (.mv (.s 5)),
   oo 4 (.mv (.s 21))]))
  .ret)
def k_impl_ofKind : F := ⟨22, [.tmp 4],
  (.seq (.h [.kill [4]] (.reg false [oo 4 (.mv (.c (.int .i64 0)))]))
  (.seq (.reg false [oo 5 (.mv (.c (.int .i64 0)))])
  (.seq (.seq (.h [.clean []] (.h [.kill [0]] (.reg false [oo 8 (.mv (.s 0)),
   oo 9 (.len false (.s 8)),
   oo 10 (.mv (.c (.int .i64 0)))])))
  (.blk 0
   (.loop k_impl_ofKind_l8)))
  k_impl_ofKind_r4)))⟩

def k_impl_stepKind : F := ⟨10, [.tmp 2],
  (.seq (.h [.kill [2]] (.reg false [oo 2 (.mv (.c (.int .i64 0)))]))
  (.seq (.seq (.h [.kill [0]] (.reg false [oo 3 (.mv (.s 0))]))
  (.blk 0
   (.seq (.h [.kill [5]] (.reg false [oo 5 (.bin .eql (.s 3) (.c (.int .i64 2))),
    oo 4 (.mv (.s 5))]))
   (.cond (.s 4)
    (.seq (.h [.kill [3, 4]] (.reg false [oo 2 (.mv (.c (.int .i64 3)))]))
    .ret)
    (.seq (.h [.kill [4, 7]] (.reg false [oo 7 (.bin .eql (.s 3) (.c (.int .i64 3))),
     oo 6 (.mv (.s 7))]))
    (.cond (.s 6)
     (.seq (.h [.kill [3, 6]] (.reg false [oo 2 (.mv (.c (.int .i64 4)))]))
     .ret)
     (.seq (.h [.kill [3, 6, 9]] (.reg false [oo 9 (.bin .eql (.s 3) (.c (.int .i64 4))),
      oo 8 (.mv (.s 9))]))
     (.cond (.s 8)
      (.seq (.h [.kill [8]] (.reg false [oo 2 (.mv (.c (.int .i64 5)))]))
      .ret)
      .skip))))))))
  (.seq (.h [.kill [8]] (.reg false [oo 2 (.mv (.c (.int .i64 2)))]))
  .ret)))⟩

def k_laws_eqStepS_l14 : K :=
  (.h [.clean []] (.seq (.seq (.h [.kill [11, 12, 13]] (.reg false [oo 11 (.mv (.s 5)),
   oo 12 (.mv (.s 0)),
   oo 13 (.len false (.s 12)),
   oo 14 (.bin .lss (.s 11) (.s 13))]))
  (.cond (.s 14)
   .skip
   (.ex 0)))
  (.seq (.blk 1
   (.seq (.h [.kill [14, 17, 18, 19, 20, 21, 22, 23, 24, 25]] (.reg true [⟨some 17, none, .mv (.s 0), [], []⟩,
    ⟨some 18, none, .mv (.s 5), [], []⟩,
    ⟨some 19, none, .ia 5 (.s 17) (.s 18), [0], []⟩,
    ⟨some 20, none, .ld 5 true (.s 19), [0], []⟩,
    ⟨some 21, none, .mv (.s 1), [], []⟩,
    ⟨some 22, none, .mv (.s 5), [], []⟩,
    ⟨some 23, none, .ia 5 (.s 21) (.s 22), [1], []⟩,
    ⟨some 24, none, .ld 5 true (.s 23), [1], []⟩,
    ⟨some 25, none, .call n_laws_eqStep [] [] [(.s 20), (.s 24)], [0, 1], []⟩,
    ⟨some 26, none, .un .not (.s 25), [], []⟩]))
   (.cond (.s 26)
    (.seq (.h [.kill [0, 1, 5, 26]] (.reg false [oo 4 (.mv (.c (.bool false)))]))
    .ret)
    .skip)))
  (.h [.kill [15, 16, 26]] (.reg false [oo 15 (.mv (.s 5)),
   oo 16 (.bin .add (.s 15) (.c (.int .i64 1))),
   oo 5 (.mv (.s 16))])))))
def k_laws_eqStepS_r10 : K :=
  (.seq (.h [.kill [0, 1, 5, 14]] (.reg false [oo 4 (.mv (.c (.bool true)))]))
  .ret)
def k_laws_eqStepS : F := ⟨27, [.tmp 4],
  (.seq (.h [.kill [4]] (.reg false [oo 4 (.mv (.c (.bool false)))]))
  (.seq (.seq (.h [.kill [6, 7, 8, 9]] (.reg false [oo 6 (.mv (.s 0)),
   oo 7 (.len false (.s 6)),
   oo 8 (.mv (.s 1)),
   oo 9 (.len false (.s 8)),
   oo 10 (.bin .neq (.s 7) (.s 9))]))
  (.cond (.s 10)
   (.seq (.h [.kill [0, 1, 10]] (.reg false [oo 4 (.mv (.c (.bool false)))]))
   .ret)
   .skip))
  (.seq (.seq (.h [.clean []] (.h [.kill [10]] (.reg false [oo 5 (.mv (.c (.int .i64 0)))])))
  (.blk 0
   (.loop k_laws_eqStepS_l14)))
  k_laws_eqStepS_r10)))⟩

def k_laws_eqDeclS_l14 : K :=
  (.h [.clean []] (.seq (.seq (.h [.kill [11, 12, 13]] (.reg false [oo 11 (.mv (.s 5)),
   oo 12 (.mv (.s 0)),
   oo 13 (.len false (.s 12)),
   oo 14 (.bin .lss (.s 11) (.s 13))]))
  (.cond (.s 14)
   .skip
   (.ex 0)))
  (.seq (.blk 1
   (.seq (.h [.kill [14, 17, 18, 19, 20, 21, 22, 23, 24, 25]] (.reg true [⟨some 17, none, .mv (.s 0), [], []⟩,
    ⟨some 18, none, .mv (.s 5), [], []⟩,
    ⟨some 19, none, .ia 2 (.s 17) (.s 18), [0], []⟩,
    ⟨some 20, none, .ld 2 true (.s 19), [0], []⟩,
    ⟨some 21, none, .mv (.s 1), [], []⟩,
    ⟨some 22, none, .mv (.s 5), [], []⟩,
    ⟨some 23, none, .ia 2 (.s 21) (.s 22), [1], []⟩,
    ⟨some 24, none, .ld 2 true (.s 23), [1], []⟩,
    ⟨some 25, none, .call n_laws_eqDecl [] [] [(.s 20), (.s 24)], [0, 1], []⟩,
    ⟨some 26, none, .un .not (.s 25), [], []⟩]))
   (.cond (.s 26)
    (.seq (.h [.kill [0, 1, 5, 26]] (.reg false [oo 4 (.mv (.c (.bool false)))]))
    .ret)
    .skip)))
  (.h [.kill [15, 16, 26]] (.reg false [oo 15 (.mv (.s 5)),
   oo 16 (.bin .add (.s 15) (.c (.int .i64 1))),
   oo 5 (.mv (.s 16))])))))
def k_laws_eqDeclS_r10 : K :=
  (.seq (.h [.kill [0, 1, 5, 14]] (.reg false [oo 4 (.mv (.c (.bool true)))]))
  .ret)
def k_laws_eqDeclS : F := ⟨27, [.tmp 4],
  (.seq (.h [.kill [4]] (.reg false [oo 4 (.mv (.c (.bool false)))]))
  (.seq (.seq (.h [.kill [6, 7, 8, 9]] (.reg false [oo 6 (.mv (.s 0)),
   oo 7 (.len false (.s 6)),
   oo 8 (.mv (.s 1)),
   oo 9 (.len false (.s 8)),
   oo 10 (.bin .neq (.s 7) (.s 9))]))
  (.cond (.s 10)
   (.seq (.h [.kill [0, 1, 10]] (.reg false [oo 4 (.mv (.c (.bool false)))]))
   .ret)
   .skip))
  (.seq (.seq (.h [.clean []] (.h [.kill [10]] (.reg false [oo 5 (.mv (.c (.int .i64 0)))])))
  (.blk 0
   (.loop k_laws_eqDeclS_l14)))
  k_laws_eqDeclS_r10)))⟩

def k_laws_eqAttrS_l14 : K :=
  (.h [.clean []] (.seq (.seq (.h [.kill [11, 12, 13]] (.reg false [oo 11 (.mv (.s 5)),
   oo 12 (.mv (.s 0)),
   oo 13 (.len false (.s 12)),
   oo 14 (.bin .lss (.s 11) (.s 13))]))
  (.cond (.s 14)
   .skip
   (.ex 0)))
  (.seq (.blk 1
   (.seq (.h [.kill [14, 17, 18, 19, 20, 21, 22, 23, 24, 25]] (.reg true [⟨some 17, none, .mv (.s 0), [], []⟩,
    ⟨some 18, none, .mv (.s 5), [], []⟩,
    ⟨some 19, none, .ia 4 (.s 17) (.s 18), [0], []⟩,
    ⟨some 20, none, .ld 4 true (.s 19), [0], []⟩,
    ⟨some 21, none, .mv (.s 1), [], []⟩,
    ⟨some 22, none, .mv (.s 5), [], []⟩,
    ⟨some 23, none, .ia 4 (.s 21) (.s 22), [1], []⟩,
    ⟨some 24, none, .ld 4 true (.s 23), [1], []⟩,
    ⟨some 25, none, .call n_laws_eqAttr [] [] [(.s 20), (.s 24)], [0, 1], []⟩,
    ⟨some 26, none, .un .not (.s 25), [], []⟩]))
   (.cond (.s 26)
    (.seq (.h [.kill [0, 1, 5, 26]] (.reg false [oo 4 (.mv (.c (.bool false)))]))
    .ret)
    .skip)))
  (.h [.kill [15, 16, 26]] (.reg false [oo 15 (.mv (.s 5)),
   oo 16 (.bin .add (.s 15) (.c (.int .i64 1))),
   oo 5 (.mv (.s 16))])))))
def k_laws_eqAttrS_r10 : K :=
  (.seq (.h [.kill [0, 1, 5, 14]] (.reg false [oo 4 (.mv (.c (.bool true)))]))
  .ret)
def k_laws_eqAttrS : F := ⟨27, [.tmp 4],
  (.seq (.h [.kill [4]] (.reg false [oo 4 (.mv (.c (.bool false)))]))
  (.seq (.seq (.h [.kill [6, 7, 8, 9]] (.reg false [oo 6 (.mv (.s 0)),
   oo 7 (.len false (.s 6)),
   oo 8 (.mv (.s 1)),
   oo 9 (.len false (.s 8)),
   oo 10 (.bin .neq (.s 7) (.s 9))]))
  (.cond (.s 10)
   (.seq (.h [.kill [0, 1, 10]] (.reg false [oo 4 (.mv (.c (.bool false)))]))
   .ret)
   .skip))
  (.seq (.seq (.h [.clean []] (.h [.kill [10]] (.reg false [oo 5 (.mv (.c (.int .i64 0)))])))
  (.blk 0
   (.loop k_laws_eqAttrS_l14)))
  k_laws_eqAttrS_r10)))⟩

def k_laws_eqNodeS_l14 : K :=
  (.h [.clean []] (.seq (.seq (.h [.kill [11, 12, 13]] (.reg false [oo 11 (.mv (.s 5)),
   oo 12 (.mv (.s 0)),
   oo 13 (.len false (.s 12)),
   oo 14 (.bin .lss (.s 11) (.s 13))]))
  (.cond (.s 14)
   .skip
   (.ex 0)))
  (.seq (.blk 1
   (.seq (.h [.kill [14, 17, 18, 19, 20, 21, 22, 23, 24, 25]] (.reg true [⟨some 17, none, .mv (.s 0), [], []⟩,
    ⟨some 18, none, .mv (.s 5), [], []⟩,
    ⟨some 19, none, .ia 8 (.s 17) (.s 18), [0], []⟩,
    ⟨some 20, none, .ld 8 true (.s 19), [0], []⟩,
    ⟨some 21, none, .mv (.s 1), [], []⟩,
    ⟨some 22, none, .mv (.s 5), [], []⟩,
    ⟨some 23, none, .ia 8 (.s 21) (.s 22), [1], []⟩,
    ⟨some 24, none, .ld 8 true (.s 23), [1], []⟩,
    ⟨some 25, none, .call n_laws_eqNode [] [] [(.s 20), (.s 24)], [0, 1], []⟩,
    ⟨some 26, none, .un .not (.s 25), [], []⟩]))
   (.cond (.s 26)
    (.seq (.h [.kill [0, 1, 5, 26]] (.reg false [oo 4 (.mv (.c (.bool false)))]))
    .ret)
    .skip)))
  (.h [.kill [15, 16, 26]] (.reg false [oo 15 (.mv (.s 5)),
   oo 16 (.bin .add (.s 15) (.c (.int .i64 1))),
   oo 5 (.mv (.s 16))])))))
def k_laws_eqNodeS_r10 : K :=
  (.seq (.h [.kill [0, 1, 5, 14]] (.reg false [oo 4 (.mv (.c (.bool true)))]))
  .ret)
def k_laws_eqNodeS : F := ⟨27, [.tmp 4],
  (.seq (.h [.kill [4]] (.reg false [oo 4 (.mv (.c (.bool false)))]))
  (.seq (.seq (.h [.kill [6, 7, 8, 9]] (.reg false [oo 6 (.mv (.s 0)),
   oo 7 (.len false (.s 6)),
   oo 8 (.mv (.s 1)),
   oo 9 (.len false (.s 8)),
   oo 10 (.bin .neq (.s 7) (.s 9))]))
  (.cond (.s 10)
   (.seq (.h [.kill [0, 1, 10]] (.reg false [oo 4 (.mv (.c (.bool false)))]))
   .ret)
   .skip))
  (.seq (.seq (.h [.clean []] (.h [.kill [10]] (.reg false [oo 5 (.mv (.c (.int .i64 0)))])))
  (.blk 0
   (.loop k_laws_eqNodeS_l14)))
  k_laws_eqNodeS_r10)))⟩

def k_laws_markDeclS_l6 : K :=
  (.h [.clean []] (.seq (.seq (.h [.kill [6, 7, 8]] (.reg false [oo 6 (.mv (.s 5)),
   oo 7 (.mv (.s 0)),
   oo 8 (.len false (.s 7)),
   oo 9 (.bin .lss (.s 6) (.s 8))]))
  (.cond (.s 9)
   .skip
   (.ex 0)))
  (.seq (.blk 1
   (.seq (.h [.kill [9, 12, 13, 14, 15, 16, 17]] (.reg false [oo 12 (.mv (.s 0)),
    oo 13 (.mv (.s 5)),
    oo 14 (.mv (.s 1)),
    oo 15 (.call n_laws_markText [] [] [(.s 14)]),
    oo 16 (.ia 2 (.s 12) (.s 13)),
    oo 17 (.fa 0 (.s 16)),
    on (.st 1 (.s 17) (.s 15))]))
   (.seq (.h [.kill [18, 19]] (.reg false [oo 18 (.mv (.s 1)),
    oo 19 (.bin .add (.s 18) (.c (.int .i64 1))),
    oo 1 (.mv (.s 19))]))
   (.seq (.h [.kill [20, 21, 22, 23, 24, 25]] (.reg false [oo 20 (.mv (.s 0)),
    oo 21 (.mv (.s 5)),
    oo 22 (.mv (.s 1)),
    oo 23 (.call n_laws_markText [] [] [(.s 22)]),
    oo 24 (.ia 2 (.s 20) (.s 21)),
    oo 25 (.fa 1 (.s 24)),
    on (.st 1 (.s 25) (.s 23))]))
   (.h [.kill [26, 27]] (.reg false [oo 26 (.mv (.s 1)),
    oo 27 (.bin .add (.s 26) (.c (.int .i64 1))),
    oo 1 (.mv (.s 27))]))))))
  (.h [.kill [10, 11]] (.reg false [oo 10 (.mv (.s 5)),
   oo 11 (.bin .add (.s 10) (.c (.int .i64 1))),
   oo 5 (.mv (.s 11))])))))
def k_laws_markDeclS_r2 : K :=
  (.seq (.h [.kill [0, 1, 5, 9, 28]] (.reg false [oo 28 (.mv (.s 1)),
   oo 4 (.mv (.s 28))]))
  .ret)
def k_laws_markDeclS : F := ⟨29, [.tmp 4],
  (.seq (.h [.kill [4]] (.reg false [oo 4 (.mv (.c (.int .i64 0)))]))
  (.seq (.seq (.h [.clean []] (.reg false [oo 5 (.mv (.c (.int .i64 0)))]))
  (.blk 0
   (.loop k_laws_markDeclS_l6)))
  k_laws_markDeclS_r2))⟩

def k_laws_markAttrS_l6 : K :=
  (.h [.clean []] (.seq (.seq (.h [.kill [6, 7, 8]] (.reg false [oo 6 (.mv (.s 5)),
   oo 7 (.mv (.s 0)),
   oo 8 (.len false (.s 7)),
   oo 9 (.bin .lss (.s 6) (.s 8))]))
  (.cond (.s 9)
   .skip
   (.ex 0)))
  (.seq (.blk 1
   (.seq (.h [.kill [9, 12, 13, 14, 15, 16, 17]] (.reg false [oo 12 (.mv (.s 0)),
    oo 13 (.mv (.s 5)),
    oo 14 (.mv (.s 1)),
    oo 15 (.call n_laws_markText [] [] [(.s 14)]),
    oo 16 (.ia 4 (.s 12) (.s 13)),
    oo 17 (.fa 0 (.s 16)),
    on (.st 1 (.s 17) (.s 15))]))
   (.seq (.h [.kill [18, 19]] (.reg false [oo 18 (.mv (.s 1)),
    oo 19 (.bin .add (.s 18) (.c (.int .i64 1))),
    oo 1 (.mv (.s 19))]))
   (.seq (.h [.kill [20, 21, 22, 23, 24, 25]] (.reg false [oo 20 (.mv (.s 0)),
    oo 21 (.mv (.s 5)),
    oo 22 (.mv (.s 1)),
    oo 23 (.call n_laws_markText [] [] [(.s 22)]),
    oo 24 (.ia 4 (.s 20) (.s 21)),
    oo 25 (.fa 1 (.s 24)),
    on (.st 1 (.s 25) (.s 23))]))
   (.seq (.h [.kill [26, 27]] (.reg false [oo 26 (.mv (.s 1)),
    oo 27 (.bin .add (.s 26) (.c (.int .i64 1))),
    oo 1 (.mv (.s 27))]))
   (.seq (.h [.kill [28, 29, 30, 31, 32, 33]] (.reg false [oo 28 (.mv (.s 0)),
    oo 29 (.mv (.s 5)),
    oo 30 (.mv (.s 1)),
    oo 31 (.call n_laws_markText [] [] [(.s 30)]),
    oo 32 (.ia 4 (.s 28) (.s 29)),
    oo 33 (.fa 2 (.s 32)),
    on (.st 1 (.s 33) (.s 31))]))
   (.seq (.h [.kill [34, 35]] (.reg false [oo 34 (.mv (.s 1)),
    oo 35 (.bin .add (.s 34) (.c (.int .i64 1))),
    oo 1 (.mv (.s 35))]))
   (.seq (.h [.kill [36, 37, 38, 39, 40, 41]] (.reg false [oo 36 (.mv (.s 0)),
    oo 37 (.mv (.s 5)),
    oo 38 (.mv (.s 1)),
    oo 39 (.call n_laws_markText [] [] [(.s 38)]),
    oo 40 (.ia 4 (.s 36) (.s 37)),
    oo 41 (.fa 3 (.s 40)),
    on (.st 1 (.s 41) (.s 39))]))
   (.h [.kill [42, 43]] (.reg false [oo 42 (.mv (.s 1)),
    oo 43 (.bin .add (.s 42) (.c (.int .i64 1))),
    oo 1 (.mv (.s 43))]))))))))))
  (.h [.kill [10, 11]] (.reg false [oo 10 (.mv (.s 5)),
   oo 11 (.bin .add (.s 10) (.c (.int .i64 1))),
   oo 5 (.mv (.s 11))])))))
def k_laws_markAttrS_r2 : K :=
  (.seq (.h [.kill [0, 1, 5, 9, 44]] (.reg false [oo 44 (.mv (.s 1)),
   oo 4 (.mv (.s 44))]))
  .ret)
def k_laws_markAttrS : F := ⟨45, [.tmp 4],
  (.seq (.h [.kill [4]] (.reg false [oo 4 (.mv (.c (.int .i64 0)))]))
  (.seq (.seq (.h [.clean []] (.reg false [oo 5 (.mv (.c (.int .i64 0)))]))
  (.blk 0
   (.loop k_laws_markAttrS_l6)))
  k_laws_markAttrS_r2))⟩

def k_laws_markNodeS_l6 : K :=
  (.h [.clean []] (.seq (.seq (.h [.kill [6, 7, 8]] (.reg false [oo 6 (.mv (.s 5)),
   oo 7 (.mv (.s 0)),
   oo 8 (.len false (.s 7)),
   oo 9 (.bin .lss (.s 6) (.s 8))]))
  (.cond (.s 9)
   .skip
   (.ex 0)))
  (.seq (.blk 1
   (.seq (.h [.kill [9, 12, 13, 14, 15, 16]] (.reg false [oo 12 (.mv (.s 0)),
    oo 13 (.mv (.s 5)),
    oo 14 (.mv (.s 1)),
    oo 15 (.ia 8 (.s 12) (.s 13)),
    oo 16 (.fa 0 (.s 15)),
    on (.st 1 (.s 16) (.s 14))]))
   (.seq (.h [.kill [17, 18]] (.reg false [oo 17 (.mv (.s 1)),
    oo 18 (.bin .add (.s 17) (.c (.int .i64 1))),
    oo 1 (.mv (.s 18))]))
   (.seq (.h [.kill [19, 20, 21, 22, 23, 24]] (.reg false [oo 19 (.mv (.s 0)),
    oo 20 (.mv (.s 5)),
    oo 21 (.mv (.s 1)),
    oo 22 (.call n_laws_markText [] [] [(.s 21)]),
    oo 23 (.ia 8 (.s 19) (.s 20)),
    oo 24 (.fa 1 (.s 23)),
    on (.st 1 (.s 24) (.s 22))]))
   (.seq (.h [.kill [25, 26]] (.reg false [oo 25 (.mv (.s 1)),
    oo 26 (.bin .add (.s 25) (.c (.int .i64 1))),
    oo 1 (.mv (.s 26))]))
   (.seq (.h [.kill [27, 28, 29, 30, 31, 32]] (.reg false [oo 27 (.mv (.s 0)),
    oo 28 (.mv (.s 5)),
    oo 29 (.mv (.s 1)),
    oo 30 (.call n_laws_markText [] [] [(.s 29)]),
    oo 31 (.ia 8 (.s 27) (.s 28)),
    oo 32 (.fa 2 (.s 31)),
    on (.st 1 (.s 32) (.s 30))]))
   (.seq (.h [.kill [33, 34]] (.reg false [oo 33 (.mv (.s 1)),
    oo 34 (.bin .add (.s 33) (.c (.int .i64 1))),
    oo 1 (.mv (.s 34))]))
   (.seq (.h [.kill [35, 36, 37, 38, 39, 40]] (.reg false [oo 35 (.mv (.s 0)),
    oo 36 (.mv (.s 5)),
    oo 37 (.mv (.s 1)),
    oo 38 (.call n_laws_markText [] [] [(.s 37)]),
    oo 39 (.ia 8 (.s 35) (.s 36)),
    oo 40 (.fa 3 (.s 39)),
    on (.st 1 (.s 40) (.s 38))]))
   (.seq (.h [.kill [41, 42]] (.reg false [oo 41 (.mv (.s 1)),
    oo 42 (.bin .add (.s 41) (.c (.int .i64 1))),
    oo 1 (.mv (.s 42))]))
   (.seq (.h [.kill [43, 44, 45, 46, 47, 48, 49]] (.reg false [oo 43 (.mv (.s 0)),
    oo 44 (.mv (.s 5)),
    oo 45 (.ia 8 (.s 43) (.s 44)),
    oo 46 (.fa 4 (.s 45)),
    oo 47 (.ld 1 false (.s 46)),
    oo 48 (.mv (.s 1)),
    oo 49 (.call n_laws_markDeclS [.ref] [] [(.s 47), (.s 48)]),
    oo 1 (.mv (.s 49))]))
   (.seq (.h [.kill [50, 51, 52, 53, 54, 55, 56]] (.reg false [oo 50 (.mv (.s 0)),
    oo 51 (.mv (.s 5)),
    oo 52 (.ia 8 (.s 50) (.s 51)),
    oo 53 (.fa 5 (.s 52)),
    oo 54 (.ld 1 false (.s 53)),
    oo 55 (.mv (.s 1)),
    oo 56 (.call n_laws_markAttrS [.ref] [] [(.s 54), (.s 55)]),
    oo 1 (.mv (.s 56))]))
   (.seq (.h [.kill [57, 58, 59, 60, 61, 62, 63]] (.reg false [oo 57 (.mv (.s 0)),
    oo 58 (.mv (.s 5)),
    oo 59 (.ia 8 (.s 57) (.s 58)),
    oo 60 (.fa 6 (.s 59)),
    oo 61 (.ld 1 false (.s 60)),
    oo 62 (.mv (.s 1)),
    oo 63 (.call n_laws_markNodeS [.ref] [] [(.s 61), (.s 62)]),
    oo 1 (.mv (.s 63))]))
   (.seq (.h [.kill [64, 65, 66, 67, 68, 69]] (.reg false [oo 64 (.mv (.s 0)),
    oo 65 (.mv (.s 5)),
    oo 66 (.mv (.s 1)),
    oo 67 (.call n_laws_markText [] [] [(.s 66)]),
    oo 68 (.ia 8 (.s 64) (.s 65)),
    oo 69 (.fa 7 (.s 68)),
    on (.st 1 (.s 69) (.s 67))]))
   (.h [.kill [70, 71]] (.reg false [oo 70 (.mv (.s 1)),
    oo 71 (.bin .add (.s 70) (.c (.int .i64 1))),
    oo 1 (.mv (.s 71))])))))))))))))))
  (.h [.kill [10, 11]] (.reg false [oo 10 (.mv (.s 5)),
   oo 11 (.bin .add (.s 10) (.c (.int .i64 1))),
   oo 5 (.mv (.s 11))])))))
def k_laws_markNodeS_r2 : K :=
  (.seq (.h [.kill [0, 1, 5, 9, 72]] (.reg false [oo 72 (.mv (.s 1)),
   oo 4 (.mv (.s 72))]))
  .ret)
def k_laws_markNodeS : F := ⟨73, [.tmp 4],
  (.seq (.h [.kill [4]] (.reg false [oo 4 (.mv (.c (.int .i64 0)))]))
  (.seq (.seq (.h [.clean []] (.reg false [oo 5 (.mv (.c (.int .i64 0)))]))
  (.blk 0
   (.loop k_laws_markNodeS_l6)))
  k_laws_markNodeS_r2))⟩

def k_laws_markStepS_l6 : K :=
  (.h [.clean []] (.seq (.seq (.h [.kill [6, 7, 8]] (.reg false [oo 6 (.mv (.s 5)),
   oo 7 (.mv (.s 0)),
   oo 8 (.len false (.s 7)),
   oo 9 (.bin .lss (.s 6) (.s 8))]))
  (.cond (.s 9)
   .skip
   (.ex 0)))
  (.seq (.blk 1
   (.seq (.h [.kill [9, 12, 13, 14, 15, 16, 17, 18]] (.reg false [oo 12 (.mv (.s 0)),
    oo 13 (.mv (.s 5)),
    oo 14 (.mv (.s 1)),
    oo 15 (.bin .rem (.s 14) (.c (.int .i64 3))),
    oo 16 (.bin .eql (.s 15) (.c (.int .i64 0))),
    oo 17 (.ia 5 (.s 12) (.s 13)),
    oo 18 (.fa 0 (.s 17)),
    on (.st 1 (.s 18) (.s 16))]))
   (.seq (.h [.kill [19, 20]] (.reg false [oo 19 (.mv (.s 1)),
    oo 20 (.bin .add (.s 19) (.c (.int .i64 1))),
    oo 1 (.mv (.s 20))]))
   (.seq (.h [.kill [21, 22, 23, 24, 25]] (.reg false [oo 21 (.mv (.s 0)),
    oo 22 (.mv (.s 5)),
    oo 23 (.mv (.s 1)),
    oo 24 (.ia 5 (.s 21) (.s 22)),
    oo 25 (.fa 1 (.s 24)),
    on (.st 1 (.s 25) (.s 23))]))
   (.seq (.h [.kill [26, 27]] (.reg false [oo 26 (.mv (.s 1)),
    oo 27 (.bin .add (.s 26) (.c (.int .i64 1))),
    oo 1 (.mv (.s 27))]))
   (.seq (.h [.kill [28, 29, 30, 31, 32, 33]] (.reg false [oo 28 (.mv (.s 0)),
    oo 29 (.mv (.s 5)),
    oo 30 (.mv (.s 1)),
    oo 31 (.call n_laws_markText [] [] [(.s 30)]),
    oo 32 (.ia 5 (.s 28) (.s 29)),
    oo 33 (.fa 2 (.s 32)),
    on (.st 1 (.s 33) (.s 31))]))
   (.seq (.h [.kill [34, 35]] (.reg false [oo 34 (.mv (.s 1)),
    oo 35 (.bin .add (.s 34) (.c (.int .i64 1))),
    oo 1 (.mv (.s 35))]))
   (.seq (.h [.kill [36, 37, 38, 39, 40, 41]] (.reg false [oo 36 (.mv (.s 0)),
    oo 37 (.mv (.s 5)),
    oo 38 (.mv (.s 1)),
    oo 39 (.call n_laws_markText [] [] [(.s 38)]),
    oo 40 (.ia 5 (.s 36) (.s 37)),
    oo 41 (.fa 3 (.s 40)),
    on (.st 1 (.s 41) (.s 39))]))
   (.seq (.h [.kill [42, 43]] (.reg false [oo 42 (.mv (.s 1)),
    oo 43 (.bin .add (.s 42) (.c (.int .i64 1))),
    oo 1 (.mv (.s 43))]))
   (.h [.kill [44, 45, 46, 47, 48, 49, 50]] (.reg false [oo 44 (.mv (.s 0)),
    oo 45 (.mv (.s 5)),
    oo 46 (.ia 5 (.s 44) (.s 45)),
    oo 47 (.fa 4 (.s 46)),
    oo 48 (.ld 1 false (.s 47)),
    oo 49 (.mv (.s 1)),
    oo 50 (.call n_laws_markPredS [.ref] [] [(.s 48), (.s 49)]),
    oo 1 (.mv (.s 50))])))))))))))
  (.h [.kill [10, 11]] (.reg false [oo 10 (.mv (.s 5)),
   oo 11 (.bin .add (.s 10) (.c (.int .i64 1))),
   oo 5 (.mv (.s 11))])))))
def k_laws_markStepS_r2 : K :=
  (.seq (.h [.kill [0, 1, 5, 9, 51]] (.reg false [oo 51 (.mv (.s 1)),
   oo 4 (.mv (.s 51))]))
  .ret)
def k_laws_markStepS : F := ⟨52, [.tmp 4],
  (.seq (.h [.kill [4]] (.reg false [oo 4 (.mv (.c (.int .i64 0)))]))
  (.seq (.seq (.h [.clean []] (.reg false [oo 5 (.mv (.c (.int .i64 0)))]))
  (.blk 0
   (.loop k_laws_markStepS_l6)))
  k_laws_markStepS_r2))⟩

def k_laws_heldStepS_l6 : K :=
  (.h [.clean []] (.seq (.seq (.h [.kill [6, 7, 8]] (.reg false [oo 6 (.mv (.s 5)),
   oo 7 (.mv (.s 0)),
   oo 8 (.len false (.s 7)),
   oo 9 (.bin .lss (.s 6) (.s 8))]))
  (.cond (.s 9)
   .skip
   (.ex 0)))
  (.seq (.blk 1
   (.seq (.seq (.h [.kill [9, 12, 13, 14, 15, 16, 17, 18, 19]] (.reg false [oo 12 (.mv (.s 0)),
    oo 13 (.mv (.s 5)),
    oo 14 (.ia 5 (.s 12) (.s 13)),
    oo 15 (.fa 0 (.s 14)),
    oo 16 (.ld 1 false (.s 15)),
    oo 17 (.mv (.s 1)),
    oo 18 (.bin .rem (.s 17) (.c (.int .i64 3))),
    oo 19 (.bin .eql (.s 18) (.c (.int .i64 0))),
    oo 20 (.beq true (.s 16) (.s 19))]))
   (.cond (.s 20)
    (.seq (.h [.kill [0, 1, 5, 20]] (.reg false [oo 4 (.mv (.c (.int .i64 (-1))))]))
    .ret)
    .skip))
   (.seq (.h [.kill [20, 21, 22]] (.reg false [oo 21 (.mv (.s 1)),
    oo 22 (.bin .add (.s 21) (.c (.int .i64 1))),
    oo 1 (.mv (.s 22))]))
   (.seq (.seq (.h [.kill [23, 24, 25, 26, 27, 28]] (.reg false [oo 23 (.mv (.s 0)),
    oo 24 (.mv (.s 5)),
    oo 25 (.ia 5 (.s 23) (.s 24)),
    oo 26 (.fa 1 (.s 25)),
    oo 27 (.ld 1 false (.s 26)),
    oo 28 (.mv (.s 1)),
    oo 29 (.bin .neq (.s 27) (.s 28))]))
   (.cond (.s 29)
    (.seq (.h [.kill [0, 1, 5, 29]] (.reg false [oo 4 (.mv (.c (.int .i64 (-1))))]))
    .ret)
    .skip))
   (.seq (.h [.kill [29, 30, 31]] (.reg false [oo 30 (.mv (.s 1)),
    oo 31 (.bin .add (.s 30) (.c (.int .i64 1))),
    oo 1 (.mv (.s 31))]))
   (.seq (.seq (.h [.kill [32, 33, 34, 35, 36, 37, 38]] (.reg true [⟨some 32, none, .mv (.s 0), [], []⟩,
    ⟨some 33, none, .mv (.s 5), [], []⟩,
    ⟨some 34, none, .ia 5 (.s 32) (.s 33), [0], []⟩,
    ⟨some 35, none, .fa 2 (.s 34), [], []⟩,
    ⟨some 36, none, .ld 1 false (.s 35), [0], []⟩,
    ⟨some 37, none, .mv (.s 1), [], []⟩,
    ⟨some 38, none, .call n_laws_markText [] [] [(.s 37)], [1, 58], []⟩,
    ⟨some 39, none, .bin .neq (.s 36) (.s 38), [], []⟩]))
   (.cond (.s 39)
    (.seq (.h [.kill [0, 1, 5, 39]] (.reg false [oo 4 (.mv (.c (.int .i64 (-1))))]))
    .ret)
    .skip))
   (.seq (.h [.kill [39, 40, 41]] (.reg false [oo 40 (.mv (.s 1)),
    oo 41 (.bin .add (.s 40) (.c (.int .i64 1))),
    oo 1 (.mv (.s 41))]))
   (.seq (.seq (.h [.kill [42, 43, 44, 45, 46, 47, 48]] (.reg true [⟨some 42, none, .mv (.s 0), [], []⟩,
    ⟨some 43, none, .mv (.s 5), [], []⟩,
    ⟨some 44, none, .ia 5 (.s 42) (.s 43), [0], []⟩,
    ⟨some 45, none, .fa 3 (.s 44), [], []⟩,
    ⟨some 46, none, .ld 1 false (.s 45), [0], []⟩,
    ⟨some 47, none, .mv (.s 1), [], []⟩,
    ⟨some 48, none, .call n_laws_markText [] [] [(.s 47)], [1, 58], []⟩,
    ⟨some 49, none, .bin .neq (.s 46) (.s 48), [], []⟩]))
   (.cond (.s 49)
    (.seq (.h [.kill [0, 1, 5, 49]] (.reg false [oo 4 (.mv (.c (.int .i64 (-1))))]))
    .ret)
    .skip))
   (.seq (.h [.kill [49, 50, 51]] (.reg false [oo 50 (.mv (.s 1)),
    oo 51 (.bin .add (.s 50) (.c (.int .i64 1))),
    oo 1 (.mv (.s 51))]))
   (.seq (.h [.kill [52, 53, 54, 55, 56, 57, 58]] (.reg false [oo 52 (.mv (.s 0)),
    oo 53 (.mv (.s 5)),
    oo 54 (.ia 5 (.s 52) (.s 53)),
    oo 55 (.fa 4 (.s 54)),
    oo 56 (.ld 1 false (.s 55)),
    oo 57 (.mv (.s 1)),
    oo 58 (.call n_laws_heldPredS [] [] [(.s 56), (.s 57)]),
    oo 1 (.mv (.s 58))]))
   (.seq (.h [.kill [59]] (.reg false [oo 59 (.mv (.s 1)),
    oo 60 (.bin .lss (.s 59) (.c (.int .i64 0)))]))
   (.cond (.s 60)
    (.seq (.h [.kill [0, 1, 5, 60]] (.reg false [oo 4 (.mv (.c (.int .i64 (-1))))]))
    .ret)
    .skip))))))))))))
  (.h [.kill [10, 11, 60]] (.reg false [oo 10 (.mv (.s 5)),
   oo 11 (.bin .add (.s 10) (.c (.int .i64 1))),
   oo 5 (.mv (.s 11))])))))
def k_laws_heldStepS_r2 : K :=
  (.seq (.h [.kill [0, 1, 5, 9, 61]] (.reg false [oo 61 (.mv (.s 1)),
   oo 4 (.mv (.s 61))]))
  .ret)
def k_laws_heldStepS : F := ⟨62, [.tmp 4],
  (.seq (.h [.kill [4]] (.reg false [oo 4 (.mv (.c (.int .i64 0)))]))
  (.seq (.seq (.h [.clean []] (.reg false [oo 5 (.mv (.c (.int .i64 0)))]))
  (.blk 0
   (.loop k_laws_heldStepS_l6)))
  k_laws_heldStepS_r2))⟩

def k_laws_szDecl : F := ⟨20, [.tmp 4],
  (.seq (.h [.kill [0, 4]] (.reg false [oo 2 (.box (.s 0)),
   oo 4 (.mv (.c (.int .i64 0)))]))
  (.seq (.h [.kill [5, 6, 7, 8, 9]] (.reg false [oo 5 (.mv (.s 1)),
   oo 6 (.fa 0 (.s 2)),
   oo 7 (.ld 1 false (.s 6)),
   oo 8 (.len true (.s 7)),
   oo 9 (.bin .sub (.s 5) (.s 8)),
   oo 1 (.mv (.s 9))]))
  (.seq (.seq (.h [.kill [10]] (.reg false [oo 10 (.mv (.s 1)),
   oo 11 (.bin .lss (.s 10) (.c (.int .i64 0)))]))
  (.cond (.s 11)
   (.seq (.h [.kill [1, 2, 11]] (.reg false [oo 4 (.mv (.c (.int .i64 (-1))))]))
   .ret)
   .skip))
  (.seq (.h [.kill [2, 11, 12, 13, 14, 15, 16]] (.reg false [oo 12 (.mv (.s 1)),
   oo 13 (.fa 1 (.s 2)),
   oo 14 (.ld 1 false (.s 13)),
   oo 15 (.len true (.s 14)),
   oo 16 (.bin .sub (.s 12) (.s 15)),
   oo 1 (.mv (.s 16))]))
  (.seq (.seq (.h [.kill [17]] (.reg false [oo 17 (.mv (.s 1)),
   oo 18 (.bin .lss (.s 17) (.c (.int .i64 0)))]))
  (.cond (.s 18)
   (.seq (.h [.kill [1, 18]] (.reg false [oo 4 (.mv (.c (.int .i64 (-1))))]))
   .ret)
   .skip))
  (.seq (.h [.kill [1, 18, 19]] (.reg false [oo 19 (.mv (.s 1)),
   oo 4 (.mv (.s 19))]))
  .ret))))))⟩

def k_laws_szAttr : F := ⟨34, [.tmp 4],
  (.seq (.h [.kill [0, 4]] (.reg false [oo 2 (.box (.s 0)),
   oo 4 (.mv (.c (.int .i64 0)))]))
  (.seq (.h [.kill [5, 6, 7, 8, 9]] (.reg false [oo 5 (.mv (.s 1)),
   oo 6 (.fa 0 (.s 2)),
   oo 7 (.ld 1 false (.s 6)),
   oo 8 (.len true (.s 7)),
   oo 9 (.bin .sub (.s 5) (.s 8)),
   oo 1 (.mv (.s 9))]))
  (.seq (.seq (.h [.kill [10]] (.reg false [oo 10 (.mv (.s 1)),
   oo 11 (.bin .lss (.s 10) (.c (.int .i64 0)))]))
  (.cond (.s 11)
   (.seq (.h [.kill [1, 2, 11]] (.reg false [oo 4 (.mv (.c (.int .i64 (-1))))]))
   .ret)
   .skip))
  (.seq (.h [.kill [11, 12, 13, 14, 15, 16]] (.reg false [oo 12 (.mv (.s 1)),
   oo 13 (.fa 1 (.s 2)),
   oo 14 (.ld 1 false (.s 13)),
   oo 15 (.len true (.s 14)),
   oo 16 (.bin .sub (.s 12) (.s 15)),
   oo 1 (.mv (.s 16))]))
  (.seq (.seq (.h [.kill [17]] (.reg false [oo 17 (.mv (.s 1)),
   oo 18 (.bin .lss (.s 17) (.c (.int .i64 0)))]))
  (.cond (.s 18)
   (.seq (.h [.kill [1, 2, 18]] (.reg false [oo 4 (.mv (.c (.int .i64 (-1))))]))
   .ret)
   .skip))
  (.seq (.h [.kill [18, 19, 20, 21, 22, 23]] (.reg false [oo 19 (.mv (.s 1)),
   oo 20 (.fa 2 (.s 2)),
   oo 21 (.ld 1 false (.s 20)),
   oo 22 (.len true (.s 21)),
   oo 23 (.bin .sub (.s 19) (.s 22)),
   oo 1 (.mv (.s 23))]))
  (.seq (.seq (.h [.kill [24]] (.reg false [oo 24 (.mv (.s 1)),
   oo 25 (.bin .lss (.s 24) (.c (.int .i64 0)))]))
  (.cond (.s 25)
   (.seq (.h [.kill [1, 2, 25]] (.reg false [oo 4 (.mv (.c (.int .i64 (-1))))]))
   .ret)
   .skip))
  (.seq (.h [.kill [2, 25, 26, 27, 28, 29, 30]] (.reg false [oo 26 (.mv (.s 1)),
   oo 27 (.fa 3 (.s 2)),
   oo 28 (.ld 1 false (.s 27)),
   oo 29 (.len true (.s 28)),
   oo 30 (.bin .sub (.s 26) (.s 29)),
   oo 1 (.mv (.s 30))]))
  (.seq (.seq (.h [.kill [31]] (.reg false [oo 31 (.mv (.s 1)),
   oo 32 (.bin .lss (.s 31) (.c (.int .i64 0)))]))
  (.cond (.s 32)
   (.seq (.h [.kill [1, 32]] (.reg false [oo 4 (.mv (.c (.int .i64 (-1))))]))
   .ret)
   .skip))
  (.seq (.h [.kill [1, 32, 33]] (.reg false [oo 33 (.mv (.s 1)),
   oo 4 (.mv (.s 33))]))
  .ret))))))))))⟩

def k_laws_toDecl : F := ⟨11, [.cell 2 2 true],
  (.seq (.h [.kill [0]] (.reg false [oo 1 (.box (.s 0)),
   oo 2 (.alloc [.v (.string ⟨#[]⟩), .v (.string ⟨#[]⟩)])]))
  (.seq (.reg false [oo 3 (.alloc [.v (.string ⟨#[]⟩), .v (.string ⟨#[]⟩)])])
  (.seq (.h [.kill [4, 5, 6]] (.reg false [oo 4 (.fa 0 (.s 1)),
   oo 5 (.ld 1 false (.s 4)),
   oo 6 (.fa 0 (.s 3)),
   on (.st 1 (.s 6) (.s 5))]))
  (.seq (.h [.kill [1, 7, 8, 9]] (.reg false [oo 7 (.fa 1 (.s 1)),
   oo 8 (.ld 1 false (.s 7)),
   oo 9 (.fa 1 (.s 3)),
   on (.st 1 (.s 9) (.s 8))]))
  (.seq (.h [.kill [3, 10]] (.reg false [oo 10 (.ld 2 true (.s 3)),
   on (.st 2 (.s 2) (.s 10))]))
  .ret)))))⟩

def k_laws_toAttr : F := ⟨17, [.cell 2 4 true],
  (.seq (.h [.kill [0]] (.reg false [oo 1 (.box (.s 0)),
   oo 2 (.alloc [.v (.string ⟨#[]⟩), .v (.string ⟨#[]⟩), .v (.string ⟨#[]⟩), .v (.string ⟨#[]⟩)])]))
  (.seq (.reg false [oo 3 (.alloc [.v (.string ⟨#[]⟩), .v (.string ⟨#[]⟩), .v (.string ⟨#[]⟩), .v (.string ⟨#[]⟩)])])
  (.seq (.h [.kill [4, 5, 6]] (.reg false [oo 4 (.fa 0 (.s 1)),
   oo 5 (.ld 1 false (.s 4)),
   oo 6 (.fa 0 (.s 3)),
   on (.st 1 (.s 6) (.s 5))]))
  (.seq (.h [.kill [7, 8, 9]] (.reg false [oo 7 (.fa 1 (.s 1)),
   oo 8 (.ld 1 false (.s 7)),
   oo 9 (.fa 1 (.s 3)),
   on (.st 1 (.s 9) (.s 8))]))
  (.seq (.h [.kill [10, 11, 12]] (.reg false [oo 10 (.fa 2 (.s 1)),
   oo 11 (.ld 1 false (.s 10)),
   oo 12 (.fa 2 (.s 3)),
   on (.st 1 (.s 12) (.s 11))]))
  (.seq (.h [.kill [1, 13, 14, 15]] (.reg false [oo 13 (.fa 3 (.s 1)),
   oo 14 (.ld 1 false (.s 13)),
   oo 15 (.fa 3 (.s 3)),
   on (.st 1 (.s 15) (.s 14))]))
  (.seq (.h [.kill [3, 16]] (.reg false [oo 16 (.ld 4 true (.s 3)),
   on (.st 4 (.s 2) (.s 16))]))
  .ret)))))))⟩

def k_spec_l5Copy : F := ⟨20, [.cell 2 8 true],
  (.seq (.h [.kill [0]] (.reg false [oo 1 (.box (.s 0)),
   oo 2 (.alloc [.v (.int .i64 0), .v (.string ⟨#[]⟩), .v (.string ⟨#[]⟩), .v (.string ⟨#[]⟩), .sl true [], .sl true [], .sl true [], .v (.string ⟨#[]⟩)])]))
  (.seq (.h [.kill [4]] (.reg false [oo 4 (.ld 8 true (.s 1)),
   oo 3 (.alloc [.v (.int .i64 0), .v (.string ⟨#[]⟩), .v (.string ⟨#[]⟩), .v (.string ⟨#[]⟩), .sl true [], .sl true [], .sl true [], .v (.string ⟨#[]⟩)]),
   on (.st 8 (.s 3) (.s 4))]))
  (.seq (.h [.kill [5, 6, 7, 8, 9]] (.reg false [oo 5 (.bsl 2 []),
   oo 6 (.fa 4 (.s 1)),
   oo 7 (.ld 1 false (.s 6)),
   oo 8 (.app 2 32 (.s 5) (.s 7)),
   oo 9 (.fa 4 (.s 3)),
   on (.st 1 (.s 9) (.s 8))]))
  (.seq (.h [.kill [10, 11, 12, 13, 14]] (.reg false [oo 10 (.bsl 4 []),
   oo 11 (.fa 5 (.s 1)),
   oo 12 (.ld 1 false (.s 11)),
   oo 13 (.app 4 64 (.s 10) (.s 12)),
   oo 14 (.fa 5 (.s 3)),
   on (.st 1 (.s 14) (.s 13))]))
  (.seq (.h [.kill [1, 15, 16, 17, 18]] (.reg false [oo 15 (.fa 6 (.s 1)),
   oo 16 (.ld 1 false (.s 15)),
   oo 17 (.call n_spec_l5All [] [true] [(.s 16)]),
   oo 18 (.fa 6 (.s 3)),
   on (.st 1 (.s 18) (.s 17))]))
  (.seq (.h [.kill [3, 19]] (.reg false [oo 19 (.ld 8 true (.s 3)),
   on (.st 8 (.s 2) (.s 19))]))
  .ret))))))⟩

def k_impl_cloneNode : F := ⟨16, [.cell 2 8 true],
  (.seq (.h [.kill [0]] (.reg false [oo 1 (.box (.s 0)),
   oo 2 (.alloc [.v (.int .i64 0), .v (.string ⟨#[]⟩), .v (.string ⟨#[]⟩), .v (.string ⟨#[]⟩), .sl true [], .sl true [], .sl true [], .v (.string ⟨#[]⟩)])]))
  (.seq (.h [.kill [3, 4, 5, 6, 7, 8, 9, 10, 11, 12, 13, 14]] (.reg true [⟨some 3, none, .fa 4 (.s 1), [], []⟩,
   ⟨some 4, none, .ld 1 false (.s 3), [1], []⟩,
   ⟨some 5, none, .call n_slices_Clone_Decl [] [true] [(.s 4)], [1], [5]⟩,
   ⟨some 6, none, .fa 5 (.s 1), [], []⟩,
   ⟨some 7, none, .ld 1 false (.s 6), [1], []⟩,
   ⟨some 8, none, .call n_slices_Clone_Attr [] [true] [(.s 7)], [1], [8]⟩,
   ⟨some 9, none, .fa 6 (.s 1), [], []⟩,
   ⟨some 10, none, .ld 1 false (.s 9), [1], []⟩,
   ⟨some 11, none, .call n_impl_cloneNodes [] [true] [(.s 10)], [1], [11]⟩,
   ⟨some 12, none, .fa 4 (.s 1), [], []⟩,
   ⟨none, none, .st 1 (.s 12) (.s 5), [], [1, 5]⟩,
   ⟨some 13, none, .fa 5 (.s 1), [], []⟩,
   ⟨none, none, .st 1 (.s 13) (.s 8), [], [1, 8]⟩,
   ⟨some 14, none, .fa 6 (.s 1), [], []⟩,
   ⟨none, none, .st 1 (.s 14) (.s 11), [], [1, 11]⟩]))
  (.seq (.h [.kill [1, 15]] (.reg false [oo 15 (.ld 8 true (.s 1)),
   on (.st 8 (.s 2) (.s 15))]))
  .ret)))⟩

def k_laws_eqStep : F := ⟨31, [.tmp 4],
  (.seq (.h [.kill [0, 1, 4]] (.reg false [oo 2 (.box (.s 0)),
   oo 3 (.box (.s 1)),
   oo 4 (.mv (.c (.bool false)))]))
  (.seq (.seq (.h [.kill [5, 6, 7, 8]] (.reg false [oo 5 (.fa 0 (.s 2)),
   oo 6 (.ld 1 false (.s 5)),
   oo 7 (.fa 0 (.s 3)),
   oo 8 (.ld 1 false (.s 7)),
   oo 9 (.beq true (.s 6) (.s 8))]))
  (.cond (.s 9)
   (.seq (.h [.kill [2, 3, 9]] (.reg false [oo 4 (.mv (.c (.bool false)))]))
   .ret)
   .skip))
  (.seq (.seq (.h [.kill [9, 10, 11, 12, 13]] (.reg false [oo 10 (.fa 1 (.s 2)),
   oo 11 (.ld 1 false (.s 10)),
   oo 12 (.fa 1 (.s 3)),
   oo 13 (.ld 1 false (.s 12)),
   oo 14 (.bin .neq (.s 11) (.s 13))]))
  (.cond (.s 14)
   (.seq (.h [.kill [2, 3, 14]] (.reg false [oo 4 (.mv (.c (.bool false)))]))
   .ret)
   .skip))
  (.seq (.seq (.h [.kill [14, 15, 16, 17, 18]] (.reg false [oo 15 (.fa 2 (.s 2)),
   oo 16 (.ld 1 false (.s 15)),
   oo 17 (.fa 2 (.s 3)),
   oo 18 (.ld 1 false (.s 17)),
   oo 19 (.bin .neq (.s 16) (.s 18))]))
  (.cond (.s 19)
   (.seq (.h [.kill [2, 3, 19]] (.reg false [oo 4 (.mv (.c (.bool false)))]))
   .ret)
   .skip))
  (.seq (.seq (.h [.kill [19, 20, 21, 22, 23]] (.reg false [oo 20 (.fa 3 (.s 2)),
   oo 21 (.ld 1 false (.s 20)),
   oo 22 (.fa 3 (.s 3)),
   oo 23 (.ld 1 false (.s 22)),
   oo 24 (.bin .neq (.s 21) (.s 23))]))
  (.cond (.s 24)
   (.seq (.h [.kill [2, 3, 24]] (.reg false [oo 4 (.mv (.c (.bool false)))]))
   .ret)
   .skip))
  (.seq (.seq (.h [.kill [2, 3, 24, 25, 26, 27, 28, 29]] (.reg false [oo 25 (.fa 4 (.s 2)),
   oo 26 (.ld 1 false (.s 25)),
   oo 27 (.fa 4 (.s 3)),
   oo 28 (.ld 1 false (.s 27)),
   oo 29 (.call n_laws_eqPredS [] [] [(.s 26), (.s 28)]),
   oo 30 (.un .not (.s 29))]))
  (.cond (.s 30)
   (.seq (.h [.kill [30]] (.reg false [oo 4 (.mv (.c (.bool false)))]))
   .ret)
   .skip))
  (.seq (.h [.kill [30]] (.reg false [oo 4 (.mv (.c (.bool true)))]))
  .ret)))))))⟩

def k_laws_eqDecl : F := ⟨15, [.tmp 4],
  (.seq (.h [.kill [0, 1, 4]] (.reg false [oo 2 (.box (.s 0)),
   oo 3 (.box (.s 1)),
   oo 4 (.mv (.c (.bool false)))]))
  (.seq (.seq (.h [.kill [5, 6, 7, 8]] (.reg false [oo 5 (.fa 0 (.s 2)),
   oo 6 (.ld 1 false (.s 5)),
   oo 7 (.fa 0 (.s 3)),
   oo 8 (.ld 1 false (.s 7)),
   oo 9 (.bin .neq (.s 6) (.s 8))]))
  (.cond (.s 9)
   (.seq (.h [.kill [2, 3, 9]] (.reg false [oo 4 (.mv (.c (.bool false)))]))
   .ret)
   .skip))
  (.seq (.seq (.h [.kill [2, 3, 9, 10, 11, 12, 13]] (.reg false [oo 10 (.fa 1 (.s 2)),
   oo 11 (.ld 1 false (.s 10)),
   oo 12 (.fa 1 (.s 3)),
   oo 13 (.ld 1 false (.s 12)),
   oo 14 (.bin .neq (.s 11) (.s 13))]))
  (.cond (.s 14)
   (.seq (.h [.kill [14]] (.reg false [oo 4 (.mv (.c (.bool false)))]))
   .ret)
   .skip))
  (.seq (.h [.kill [14]] (.reg false [oo 4 (.mv (.c (.bool true)))]))
  .ret))))⟩

def k_laws_eqAttr : F := ⟨25, [.tmp 4],
  (.seq (.h [.kill [0, 1, 4]] (.reg false [oo 2 (.box (.s 0)),
   oo 3 (.box (.s 1)),
   oo 4 (.mv (.c (.bool false)))]))
  (.seq (.seq (.h [.kill [5, 6, 7, 8]] (.reg false [oo 5 (.fa 0 (.s 2)),
   oo 6 (.ld 1 false (.s 5)),
   oo 7 (.fa 0 (.s 3)),
   oo 8 (.ld 1 false (.s 7)),
   oo 9 (.bin .neq (.s 6) (.s 8))]))
  (.cond (.s 9)
   (.seq (.h [.kill [2, 3, 9]] (.reg false [oo 4 (.mv (.c (.bool false)))]))
   .ret)
   .skip))
  (.seq (.seq (.h [.kill [9, 10, 11, 12, 13]] (.reg false [oo 10 (.fa 1 (.s 2)),
   oo 11 (.ld 1 false (.s 10)),
   oo 12 (.fa 1 (.s 3)),
   oo 13 (.ld 1 false (.s 12)),
   oo 14 (.bin .neq (.s 11) (.s 13))]))
  (.cond (.s 14)
   (.seq (.h [.kill [2, 3, 14]] (.reg false [oo 4 (.mv (.c (.bool false)))]))
   .ret)
   .skip))
  (.seq (.seq (.h [.kill [14, 15, 16, 17, 18]] (.reg false [oo 15 (.fa 2 (.s 2)),
   oo 16 (.ld 1 false (.s 15)),
   oo 17 (.fa 2 (.s 3)),
   oo 18 (.ld 1 false (.s 17)),
   oo 19 (.bin .neq (.s 16) (.s 18))]))
  (.cond (.s 19)
   (.seq (.h [.kill [2, 3, 19]] (.reg false [oo 4 (.mv (.c (.bool false)))]))
   .ret)
   .skip))
  (.seq (.seq (.h [.kill [2, 3, 19, 20, 21, 22, 23]] (.reg false [oo 20 (.fa 3 (.s 2)),
   oo 21 (.ld 1 false (.s 20)),
   oo 22 (.fa 3 (.s 3)),
   oo 23 (.ld 1 false (.s 22)),
   oo 24 (.bin .neq (.s 21) (.s 23))]))
  (.cond (.s 24)
   (.seq (.h [.kill [24]] (.reg false [oo 4 (.mv (.c (.bool false)))]))
   .ret)
   .skip))
  (.seq (.h [.kill [24]] (.reg false [oo 4 (.mv (.c (.bool true)))]))
  .ret))))))⟩

def k_laws_markText_l14 : K :=
  (.h [.clean [12]] (.seq (.seq (.h [.kill [6]] (.reg false [oo 6 (.mv (.s 0)),
   oo 7 (.bin .gtr (.s 6) (.c (.int .i64 0)))]))
  (.cond (.s 7)
   .skip
   (.ex 0)))
  (.blk 1
   (.seq (.h [.kill [7, 8, 9, 10, 11, 12, 13, 14, 15]] (.reg false [oo 8 (.mv (.s 0)),
    oo 9 (.bin .rem (.s 8) (.c (.int .i64 10))),
    oo 10 (.bin .add (.c (.int .i64 48)) (.s 9)),
    oo 11 (.conv (.int .u8) (.s 10)),
    oo 12 (.bsl 1 [(.s 11)]),
    oo 13 (.conv .str (.s 12)),
    oo 14 (.mv (.s 3)),
    oo 15 (.bin .add (.s 13) (.s 14)),
    oo 3 (.mv (.s 15))]))
   (.h [.kill [16, 17]] (.reg false [oo 16 (.mv (.s 0)),
    oo 17 (.bin .quo (.s 16) (.c (.int .i64 10))),
    oo 0 (.mv (.s 17))]))))))
def k_laws_markText_r12 : K :=
  (.seq (.h [.kill [0, 3, 7, 18, 19]] (.reg false [oo 18 (.mv (.s 3)),
   oo 19 (.bin .add (.c (.string ⟨#[109]⟩)) (.s 18)),
   oo 2 (.mv (.s 19))]))
  .ret)
def k_laws_markText : F := ⟨20, [.tmp 2],
  (.seq (.h [.kill [2]] (.reg false [oo 2 (.mv (.c (.string ⟨#[]⟩)))]))
  (.seq (.seq (.h [.kill [4]] (.reg false [oo 4 (.mv (.s 0)),
   oo 5 (.bin .leq (.s 4) (.c (.int .i64 0)))]))
  (.cond (.s 5)
   (.seq (.h [.kill [0, 5]] (.reg false [oo 2 (.mv (.c (.string ⟨#[109, 48]⟩)))]))
   .ret)
   .skip))
  (.seq (.h [.clean []] (.h [.kill [5]] (.reg false [oo 3 (.mv (.c (.string ⟨#[]⟩)))])))
  (.seq (.blk 0
   (.loop k_laws_markText_l14))
  k_laws_markText_r12))))⟩

def k_laws_markPredS_l6 : K :=
  (.h [.clean []] (.seq (.seq (.h [.kill [6, 7, 8]] (.reg false [oo 6 (.mv (.s 5)),
   oo 7 (.mv (.s 0)),
   oo 8 (.len false (.s 7)),
   oo 9 (.bin .lss (.s 6) (.s 8))]))
  (.cond (.s 9)
   .skip
   (.ex 0)))
  (.seq (.blk 1
   (.seq (.h [.kill [9, 12, 13, 14, 15, 16]] (.reg false [oo 12 (.mv (.s 0)),
    oo 13 (.mv (.s 5)),
    oo 14 (.mv (.s 1)),
    oo 15 (.ia 5 (.s 12) (.s 13)),
    oo 16 (.fa 0 (.s 15)),
    on (.st 1 (.s 16) (.s 14))]))
   (.seq (.h [.kill [17, 18]] (.reg false [oo 17 (.mv (.s 1)),
    oo 18 (.bin .add (.s 17) (.c (.int .i64 1))),
    oo 1 (.mv (.s 18))]))
   (.seq (.h [.kill [19, 20, 21, 22, 23]] (.reg false [oo 19 (.mv (.s 0)),
    oo 20 (.mv (.s 5)),
    oo 21 (.mv (.s 1)),
    oo 22 (.ia 5 (.s 19) (.s 20)),
    oo 23 (.fa 1 (.s 22)),
    on (.st 1 (.s 23) (.s 21))]))
   (.seq (.h [.kill [24, 25]] (.reg false [oo 24 (.mv (.s 1)),
    oo 25 (.bin .add (.s 24) (.c (.int .i64 1))),
    oo 1 (.mv (.s 25))]))
   (.seq (.h [.kill [26, 27, 28, 29, 30, 31]] (.reg false [oo 26 (.mv (.s 0)),
    oo 27 (.mv (.s 5)),
    oo 28 (.mv (.s 1)),
    oo 29 (.call n_laws_markText [] [] [(.s 28)]),
    oo 30 (.ia 5 (.s 26) (.s 27)),
    oo 31 (.fa 2 (.s 30)),
    on (.st 1 (.s 31) (.s 29))]))
   (.seq (.h [.kill [32, 33]] (.reg false [oo 32 (.mv (.s 1)),
    oo 33 (.bin .add (.s 32) (.c (.int .i64 1))),
    oo 1 (.mv (.s 33))]))
   (.seq (.h [.kill [34, 35, 36, 37, 38, 39]] (.reg false [oo 34 (.mv (.s 0)),
    oo 35 (.mv (.s 5)),
    oo 36 (.mv (.s 1)),
    oo 37 (.call n_laws_markText [] [] [(.s 36)]),
    oo 38 (.ia 5 (.s 34) (.s 35)),
    oo 39 (.fa 3 (.s 38)),
    on (.st 1 (.s 39) (.s 37))]))
   (.seq (.h [.kill [40, 41]] (.reg false [oo 40 (.mv (.s 1)),
    oo 41 (.bin .add (.s 40) (.c (.int .i64 1))),
    oo 1 (.mv (.s 41))]))
   (.seq (.h [.kill [42, 43, 44, 45, 46, 47]] (.reg false [oo 42 (.mv (.s 0)),
    oo 43 (.mv (.s 5)),
    oo 44 (.mv (.s 1)),
    oo 45 (.call n_laws_markText [] [] [(.s 44)]),
    oo 46 (.ia 5 (.s 42) (.s 43)),
    oo 47 (.fa 4 (.s 46)),
    on (.st 1 (.s 47) (.s 45))]))
   (.h [.kill [48, 49]] (.reg false [oo 48 (.mv (.s 1)),
    oo 49 (.bin .add (.s 48) (.c (.int .i64 1))),
    oo 1 (.mv (.s 49))]))))))))))))
  (.h [.kill [10, 11]] (.reg false [oo 10 (.mv (.s 5)),
   oo 11 (.bin .add (.s 10) (.c (.int .i64 1))),
   oo 5 (.mv (.s 11))])))))
def k_laws_markPredS_r2 : K :=
  (.seq (.h [.kill [0, 1, 5, 9, 50]] (.reg false [oo 50 (.mv (.s 1)),
   oo 4 (.mv (.s 50))]))
  .ret)
def k_laws_markPredS : F := ⟨51, [.tmp 4],
  (.seq (.h [.kill [4]] (.reg false [oo 4 (.mv (.c (.int .i64 0)))]))
  (.seq (.seq (.h [.clean []] (.reg false [oo 5 (.mv (.c (.int .i64 0)))]))
  (.blk 0
   (.loop k_laws_markPredS_l6)))
  k_laws_markPredS_r2))⟩

def k_laws_heldPredS_l6 : K :=
  (.h [.clean []] (.seq (.seq (.h [.kill [6, 7, 8]] (.reg false [oo 6 (.mv (.s 5)),
   oo 7 (.mv (.s 0)),
   oo 8 (.len false (.s 7)),
   oo 9 (.bin .lss (.s 6) (.s 8))]))
  (.cond (.s 9)
   .skip
   (.ex 0)))
  (.seq (.blk 1
   (.seq (.seq (.h [.kill [9, 12, 13, 14, 15, 16, 17]] (.reg false [oo 12 (.mv (.s 0)),
    oo 13 (.mv (.s 5)),
    oo 14 (.ia 5 (.s 12) (.s 13)),
    oo 15 (.fa 0 (.s 14)),
    oo 16 (.ld 1 false (.s 15)),
    oo 17 (.mv (.s 1)),
    oo 18 (.bin .neq (.s 16) (.s 17))]))
   (.cond (.s 18)
    (.seq (.h [.kill [0, 1, 5, 18]] (.reg false [oo 4 (.mv (.c (.int .i64 (-1))))]))
    .ret)
    .skip))
   (.seq (.h [.kill [18, 19, 20]] (.reg false [oo 19 (.mv (.s 1)),
    oo 20 (.bin .add (.s 19) (.c (.int .i64 1))),
    oo 1 (.mv (.s 20))]))
   (.seq (.seq (.h [.kill [21, 22, 23, 24, 25, 26]] (.reg false [oo 21 (.mv (.s 0)),
    oo 22 (.mv (.s 5)),
    oo 23 (.ia 5 (.s 21) (.s 22)),
    oo 24 (.fa 1 (.s 23)),
    oo 25 (.ld 1 false (.s 24)),
    oo 26 (.mv (.s 1)),
    oo 27 (.bin .neq (.s 25) (.s 26))]))
   (.cond (.s 27)
    (.seq (.h [.kill [0, 1, 5, 27]] (.reg false [oo 4 (.mv (.c (.int .i64 (-1))))]))
    .ret)
    .skip))
   (.seq (.h [.kill [27, 28, 29]] (.reg false [oo 28 (.mv (.s 1)),
    oo 29 (.bin .add (.s 28) (.c (.int .i64 1))),
    oo 1 (.mv (.s 29))]))
   (.seq (.seq (.h [.kill [30, 31, 32, 33, 34, 35, 36]] (.reg true [⟨some 30, none, .mv (.s 0), [], []⟩,
    ⟨some 31, none, .mv (.s 5), [], []⟩,
    ⟨some 32, none, .ia 5 (.s 30) (.s 31), [0], []⟩,
    ⟨some 33, none, .fa 2 (.s 32), [], []⟩,
    ⟨some 34, none, .ld 1 false (.s 33), [0], []⟩,
    ⟨some 35, none, .mv (.s 1), [], []⟩,
    ⟨some 36, none, .call n_laws_markText [] [] [(.s 35)], [1], []⟩,
    ⟨some 37, none, .bin .neq (.s 34) (.s 36), [], []⟩]))
   (.cond (.s 37)
    (.seq (.h [.kill [0, 1, 5, 37]] (.reg false [oo 4 (.mv (.c (.int .i64 (-1))))]))
    .ret)
    .skip))
   (.seq (.h [.kill [37, 38, 39]] (.reg false [oo 38 (.mv (.s 1)),
    oo 39 (.bin .add (.s 38) (.c (.int .i64 1))),
    oo 1 (.mv (.s 39))]))
   (.seq (.seq (.h [.kill [40, 41, 42, 43, 44, 45, 46]] (.reg true [⟨some 40, none, .mv (.s 0), [], []⟩,
    ⟨some 41, none, .mv (.s 5), [], []⟩,
    ⟨some 42, none, .ia 5 (.s 40) (.s 41), [0], []⟩,
    ⟨some 43, none, .fa 3 (.s 42), [], []⟩,
    ⟨some 44, none, .ld 1 false (.s 43), [0], []⟩,
    ⟨some 45, none, .mv (.s 1), [], []⟩,
    ⟨some 46, none, .call n_laws_markText [] [] [(.s 45)], [1], []⟩,
    ⟨some 47, none, .bin .neq (.s 44) (.s 46), [], []⟩]))
   (.cond (.s 47)
    (.seq (.h [.kill [0, 1, 5, 47]] (.reg false [oo 4 (.mv (.c (.int .i64 (-1))))]))
    .ret)
    .skip))
   (.seq (.h [.kill [47, 48, 49]] (.reg false [oo 48 (.mv (.s 1)),
    oo 49 (.bin .add (.s 48) (.c (.int .i64 1))),
    oo 1 (.mv (.s 49))]))
   (.seq (.seq (.h [.kill [50, 51, 52, 53, 54, 55, 56]] (.reg true [⟨some 50, none, .mv (.s 0), [], []⟩,
    ⟨some 51, none, .mv (.s 5), [], []⟩,
    ⟨some 52, none, .ia 5 (.s 50) (.s 51), [0], []⟩,
    ⟨some 53, none, .fa 4 (.s 52), [], []⟩,
    ⟨some 54, none, .ld 1 false (.s 53), [0], []⟩,
    ⟨some 55, none, .mv (.s 1), [], []⟩,
    ⟨some 56, none, .call n_laws_markText [] [] [(.s 55)], [1], []⟩,
    ⟨some 57, none, .bin .neq (.s 54) (.s 56), [], []⟩]))
   (.cond (.s 57)
    (.seq (.h [.kill [0, 1, 5, 57]] (.reg false [oo 4 (.mv (.c (.int .i64 (-1))))]))
    .ret)
    .skip))
   (.h [.kill [57, 58, 59]] (.reg false [oo 58 (.mv (.s 1)),
    oo 59 (.bin .add (.s 58) (.c (.int .i64 1))),
    oo 1 (.mv (.s 59))]))))))))))))
  (.h [.kill [10, 11]] (.reg false [oo 10 (.mv (.s 5)),
   oo 11 (.bin .add (.s 10) (.c (.int .i64 1))),
   oo 5 (.mv (.s 11))])))))
def k_laws_heldPredS_r2 : K :=
  (.seq (.h [.kill [0, 1, 5, 9, 60]] (.reg false [oo 60 (.mv (.s 1)),
   oo 4 (.mv (.s 60))]))
  .ret)
def k_laws_heldPredS : F := ⟨61, [.tmp 4],
  (.seq (.h [.kill [4]] (.reg false [oo 4 (.mv (.c (.int .i64 0)))]))
  (.seq (.seq (.h [.clean []] (.reg false [oo 5 (.mv (.c (.int .i64 0)))]))
  (.blk 0
   (.loop k_laws_heldPredS_l6)))
  k_laws_heldPredS_r2))⟩

def k_spec_l5All_l8 : K :=
  (.h [.clean [5, 17, 20]] (.seq (.seq (.h [.kill [7, 8, 9]] (.reg false [oo 7 (.mv (.s 4)),
   oo 8 (.mv (.s 0)),
   oo 9 (.len false (.s 8)),
   oo 10 (.bin .lss (.s 7) (.s 9))]))
  (.cond (.s 10)
   .skip
   (.ex 0)))
  (.seq (.blk 1
   (.seq (.h [.kill [10, 13, 14, 15, 16, 17]] (.reg false [oo 13 (.mv (.s 0)),
    oo 14 (.mv (.s 4)),
    oo 15 (.ia 8 (.s 13) (.s 14)),
    oo 16 (.ld 8 true (.s 15)),
    oo 17 (.call n_spec_l5Copy [] [true] [(.s 16)]),
    oo 5 (.alloc [.v (.int .i64 0), .v (.string ⟨#[]⟩), .v (.string ⟨#[]⟩), .v (.string ⟨#[]⟩), .sl true [], .sl true [], .sl true [], .v (.string ⟨#[]⟩)]),
    on (.st 8 (.s 5) (.s 17))]))
   (.h [.kill [5, 18, 19, 20, 21]] (.reg false [oo 18 (.mv (.s 3)),
    oo 19 (.ld 8 true (.s 5)),
    oo 20 (.bsl 8 [(.s 19)]),
    oo 21 (.app 8 144 (.s 18) (.s 20)),
    oo 3 (.mv (.s 21))]))))
  (.h [.kill [11, 12]] (.reg false [oo 11 (.mv (.s 4)),
   oo 12 (.bin .add (.s 11) (.c (.int .i64 1))),
   oo 4 (.mv (.s 12))])))))
def k_spec_l5All_r4 : K :=
  (.seq (.h [.kill [0, 3, 4, 10, 22]] (.reg false [oo 22 (.mv (.s 3)),
   oo 2 (.mv (.s 22))]))
  .ret)
def k_spec_l5All : F := ⟨23, [.tmp 2],
  (.seq (.h [.kill [2]] (.reg false [oo 2 (.mv (.c (.slice none 0 0)))]))
  (.seq (.h [.kill [6]] (.reg false [oo 6 (.bsl 8 []),
   oo 3 (.mv (.s 6))]))
  (.seq (.seq (.h [.clean []] (.reg false [oo 4 (.mv (.c (.int .i64 0)))]))
  (.blk 0
   (.loop k_spec_l5All_l8)))
  k_spec_l5All_r4)))⟩

def k_slices_Clone_Decl : F := ⟨8, [.tmp 2],
  (.seq (.reg false [oo 2 (.mv (.c (.slice none 0 0)))])
  (.seq (.seq (.reg false [oo 3 (.mv (.s 0)),
   oo 4 (.eqn false (.s 3))])
  (.cond (.s 4)
   (.seq (.reg false [oo 2 (.mv (.c (.slice none 0 0)))])
   .ret)
   .skip))
  (.seq (.reg false [oo 5 (.bsl 2 []),
   oo 6 (.mv (.s 0)),
   oo 7 (.app 2 32 (.s 5) (.s 6)),
   oo 2 (.mv (.s 7))])
  .ret)))⟩

def k_slices_Clone_Attr : F := ⟨8, [.tmp 2],
  (.seq (.reg false [oo 2 (.mv (.c (.slice none 0 0)))])
  (.seq (.seq (.reg false [oo 3 (.mv (.s 0)),
   oo 4 (.eqn false (.s 3))])
  (.cond (.s 4)
   (.seq (.reg false [oo 2 (.mv (.c (.slice none 0 0)))])
   .ret)
   .skip))
  (.seq (.reg false [oo 5 (.bsl 4 []),
   oo 6 (.mv (.s 0)),
   oo 7 (.app 4 64 (.s 5) (.s 6)),
   oo 2 (.mv (.s 7))])
  .ret)))⟩

def k_impl_cloneNodes_l8 : K :=
  (.h [.clean [5, 14, 15]] (.seq (.reg false [oo 9 (.bin .lss (.s 8) (.s 7))])
  (.seq (.cond (.s 9)
   .skip
   (.ex 0))
  (.seq (.blk 1
   (.seq (.h [.kill [9, 10, 11]] (.reg false [oo 10 (.ia 8 (.s 6) (.s 8)),
    oo 11 (.ld 8 true (.s 10)),
    oo 5 (.alloc [.v (.int .i64 0), .v (.string ⟨#[]⟩), .v (.string ⟨#[]⟩), .v (.string ⟨#[]⟩), .sl true [], .sl true [], .sl true [], .v (.string ⟨#[]⟩)]),
    on (.st 8 (.s 5) (.s 11))]))
   (.h [.kill [5, 12, 13, 14, 15, 16]] (.reg false [oo 12 (.mv (.s 3)),
    oo 13 (.ld 8 true (.s 5)),
    oo 14 (.call n_impl_cloneNode [] [true] [(.s 13)]),
    oo 15 (.bsl 8 [(.s 14)]),
    oo 16 (.app 8 144 (.s 12) (.s 15)),
    oo 3 (.mv (.s 16))]))))
  (.h [.kill [17]] (.reg false [oo 17 (.bin .add (.s 8) (.c (.int .i64 1))),
   oo 8 (.mv (.s 17))]))))))
def k_impl_cloneNodes_r4 : K :=
  (.seq (.h [.kill [3, 6, 7, 8, 9, 18]] (.reg false [oo 18 (.mv (.s 3)),
   oo 2 (.mv (.s 18))]))
  .ret)
def k_impl_cloneNodes : F := ⟨19, [.tmp 2],
  (.seq (.h [.kill [2]] (.reg false [oo 2 (.mv (.c (.slice none 0 0)))]))
  (.seq (.reg false [oo 3 (.mv (.c (.slice none 0 0)))])
  (.seq (.seq (.h [.own 3 16, .clean []] (.h [.kill [0]] (.reg false [oo 6 (.mv (.s 0)),
   oo 7 (.len false (.s 6)),
   oo 8 (.mv (.c (.int .i64 0)))])))
  (.blk 0
   (.loop k_impl_cloneNodes_l8)))
  k_impl_cloneNodes_r4)))⟩

def k_laws_eqPredS_l14 : K :=
  (.h [.clean []] (.seq (.seq (.h [.kill [11, 12, 13]] (.reg false [oo 11 (.mv (.s 5)),
   oo 12 (.mv (.s 0)),
   oo 13 (.len false (.s 12)),
   oo 14 (.bin .lss (.s 11) (.s 13))]))
  (.cond (.s 14)
   .skip
   (.ex 0)))
  (.seq (.blk 1
   (.seq (.h [.kill [14, 17, 18, 19, 20, 21, 22, 23, 24, 25]] (.reg true [⟨some 17, none, .mv (.s 0), [], []⟩,
    ⟨some 18, none, .mv (.s 5), [], []⟩,
    ⟨some 19, none, .ia 5 (.s 17) (.s 18), [0], []⟩,
    ⟨some 20, none, .ld 5 true (.s 19), [0], []⟩,
    ⟨some 21, none, .mv (.s 1), [], []⟩,
    ⟨some 22, none, .mv (.s 5), [], []⟩,
    ⟨some 23, none, .ia 5 (.s 21) (.s 22), [1], []⟩,
    ⟨some 24, none, .ld 5 true (.s 23), [1], []⟩,
    ⟨some 25, none, .call n_laws_eqPred [] [] [(.s 20), (.s 24)], [0, 1], []⟩,
    ⟨some 26, none, .un .not (.s 25), [], []⟩]))
   (.cond (.s 26)
    (.seq (.h [.kill [0, 1, 5, 26]] (.reg false [oo 4 (.mv (.c (.bool false)))]))
    .ret)
    .skip)))
  (.h [.kill [15, 16, 26]] (.reg false [oo 15 (.mv (.s 5)),
   oo 16 (.bin .add (.s 15) (.c (.int .i64 1))),
   oo 5 (.mv (.s 16))])))))
def k_laws_eqPredS_r10 : K :=
  (.seq (.h [.kill [0, 1, 5, 14]] (.reg false [oo 4 (.mv (.c (.bool true)))]))
  .ret)
def k_laws_eqPredS : F := ⟨27, [.tmp 4],
  (.seq (.h [.kill [4]] (.reg false [oo 4 (.mv (.c (.bool false)))]))
  (.seq (.seq (.h [.kill [6, 7, 8, 9]] (.reg false [oo 6 (.mv (.s 0)),
   oo 7 (.len false (.s 6)),
   oo 8 (.mv (.s 1)),
   oo 9 (.len false (.s 8)),
   oo 10 (.bin .neq (.s 7) (.s 9))]))
  (.cond (.s 10)
   (.seq (.h [.kill [0, 1, 10]] (.reg false [oo 4 (.mv (.c (.bool false)))]))
   .ret)
   .skip))
  (.seq (.seq (.h [.clean []] (.h [.kill [10]] (.reg false [oo 5 (.mv (.c (.int .i64 0)))])))
  (.blk 0
   (.loop k_laws_eqPredS_l14)))
  k_laws_eqPredS_r10)))⟩

def k_laws_eqPred : F := ⟨30, [.tmp 4],
  (.seq (.h [.kill [0, 1, 4]] (.reg false [oo 2 (.box (.s 0)),
   oo 3 (.box (.s 1)),
   oo 4 (.mv (.c (.bool false)))]))
  (.seq (.seq (.h [.kill [5, 6, 7, 8]] (.reg false [oo 5 (.fa 0 (.s 2)),
   oo 6 (.ld 1 false (.s 5)),
   oo 7 (.fa 0 (.s 3)),
   oo 8 (.ld 1 false (.s 7)),
   oo 9 (.bin .neq (.s 6) (.s 8))]))
  (.cond (.s 9)
   (.seq (.h [.kill [2, 3, 9]] (.reg false [oo 4 (.mv (.c (.bool false)))]))
   .ret)
   .skip))
  (.seq (.seq (.h [.kill [9, 10, 11, 12, 13]] (.reg false [oo 10 (.fa 1 (.s 2)),
   oo 11 (.ld 1 false (.s 10)),
   oo 12 (.fa 1 (.s 3)),
   oo 13 (.ld 1 false (.s 12)),
   oo 14 (.bin .neq (.s 11) (.s 13))]))
  (.cond (.s 14)
   (.seq (.h [.kill [2, 3, 14]] (.reg false [oo 4 (.mv (.c (.bool false)))]))
   .ret)
   .skip))
  (.seq (.seq (.h [.kill [14, 15, 16, 17, 18]] (.reg false [oo 15 (.fa 2 (.s 2)),
   oo 16 (.ld 1 false (.s 15)),
   oo 17 (.fa 2 (.s 3)),
   oo 18 (.ld 1 false (.s 17)),
   oo 19 (.bin .neq (.s 16) (.s 18))]))
  (.cond (.s 19)
   (.seq (.h [.kill [2, 3, 19]] (.reg false [oo 4 (.mv (.c (.bool false)))]))
   .ret)
   .skip))
  (.seq (.seq (.h [.kill [19, 20, 21, 22, 23]] (.reg false [oo 20 (.fa 3 (.s 2)),
   oo 21 (.ld 1 false (.s 20)),
   oo 22 (.fa 3 (.s 3)),
   oo 23 (.ld 1 false (.s 22)),
   oo 24 (.bin .neq (.s 21) (.s 23))]))
  (.cond (.s 24)
   (.seq (.h [.kill [2, 3, 24]] (.reg false [oo 4 (.mv (.c (.bool false)))]))
   .ret)
   .skip))
  (.seq (.seq (.h [.kill [2, 3, 24, 25, 26, 27, 28]] (.reg false [oo 25 (.fa 4 (.s 2)),
   oo 26 (.ld 1 false (.s 25)),
   oo 27 (.fa 4 (.s 3)),
   oo 28 (.ld 1 false (.s 27)),
   oo 29 (.bin .neq (.s 26) (.s 28))]))
  (.cond (.s 29)
   (.seq (.h [.kill [29]] (.reg false [oo 4 (.mv (.c (.bool false)))]))
   .ret)
   .skip))
  (.seq (.h [.kill [29]] (.reg false [oo 4 (.mv (.c (.bool true)))]))
  .ret)))))))⟩

def FTT : FTab
  | 8 => some k_laws_FnExactSelFor
  | 17 => some k_impl_NodeAt
  | 18 => some k_spec_NodeAt
  | 36 => some k_laws_szNode
  | 37 => some k_laws_szNodeS
  | 39 => some k_laws_toNode
  | 40 => some k_laws_toIntS
  | 41 => some k_laws_toNodeS
  | 43 => some k_laws_eqNode
  | 44 => some k_laws_eqIntS
  | 45 => some k_laws_eqNodeS
  | 46 => some k_laws_markNode
  | 47 => some k_laws_markIntS
  | 48 => some k_laws_markNodeS
  | 54 => some k_spec_SelFor
  | 55 => some k_impl_SelFor
  | 56 => some k_laws_eqSel
  | 57 => some k_laws_markSel
  | 58 => some k_laws_heldSel
  | 74 => some k_impl_in
  | 75 => some k_impl_cloneNode
  | 76 => some k_spec_l1In
  | 77 => some k_spec_l5Copy
  | 87 => some k_laws_szDeclS
  | 88 => some k_laws_szAttrS
  | 90 => some k_laws_toDeclS
  | 91 => some k_laws_toAttrS
  | 95 => some k_laws_eqDeclS
  | 96 => some k_laws_eqAttrS
  | 97 => some k_laws_markDeclS
  | 98 => some k_laws_markAttrS
  | 99 => some k_laws_markText
  | 106 => some k_spec_l19Step
  | 107 => some k_impl_ofKind
  | 108 => some k_impl_stepKind
  | 109 => some k_laws_eqStepS
  | 110 => some k_laws_markStepS
  | 111 => some k_laws_heldStepS
  | 120 => some k_slices_Clone_Decl
  | 121 => some k_slices_Clone_Attr
  | 122 => some k_impl_cloneNodes
  | 123 => some k_spec_l5All
  | 132 => some k_laws_szDecl
  | 133 => some k_laws_szAttr
  | 134 => some k_laws_toDecl
  | 135 => some k_laws_toAttr
  | 138 => some k_laws_eqDecl
  | 139 => some k_laws_eqAttr
  | 140 => some k_laws_eqStep
  | 141 => some k_laws_markPredS
  | 142 => some k_laws_heldPredS
  | 148 => some k_laws_eqPredS
  | 152 => some k_laws_eqPred
  | _ => none
def FTA : Env := ⟨FTT, [n_slices_Clone_Decl, n_slices_Clone_Attr]⟩
def SSA := And.intro (SS FTA) S3
end TT
