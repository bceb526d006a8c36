import Derived.Test.YtibchlpljlcebaaTNums
set_option linter.unusedVariables false
set_option linter.unusedSimpArgs false
set_option linter.defProp false
set_option maxRecDepth 100000
namespace TT
open Go
def k_laws_FnExactCost : F := ⟨27, [.tmp 2],
  (.seq (.h [.kill [2]] (.reg false [oo 2 (.mv (.c (.bool false)))]))
  (.seq (.reg false [oo 3 (.mv (.c (.int .i64 1048576)))])
  (.seq (.h [.kill [7, 8, 9]] (.reg false [oo 7 (.mv (.s 0)),
   oo 8 (.mv (.s 3)),
   oo 9 (.call n_laws_szOpS [] [] [(.s 7), (.s 8)]),
   oo 3 (.mv (.s 9))]))
  (.seq (.seq (.h [.kill [3, 10]] (.reg false [oo 10 (.mv (.s 3)),
   oo 11 (.bin .lss (.s 10) (.c (.int .i64 0)))]))
  (.cond (.s 11)
   (.seq (.h [.kill [0, 11]] (.reg false [oo 2 (.mv (.c (.bool true)))]))
   .ret)
   .skip))
  (.seq (.h [.kill [11, 12, 13, 14]] (.reg false [oo 12 (.mv (.s 0)),
   oo 13 (.call n_laws_toOpS [] [true] [(.s 12)]),
   oo 14 (.call n_spec_Cost [] [] [(.s 13)]),
   oo 4 (.mv (.s 14))]))
  (.seq (.h [.kill [15, 16]] (.reg false [oo 15 (.mv (.s 0)),
   oo 16 (.call n_laws_toOpS [] [true] [(.s 15)]),
   oo 5 (.mv (.s 16))]))
  (.seq (.h [.kill [17, 18]] (.reg false [oo 17 (.mv (.s 5)),
   oo 18 (.call n_impl_Cost [] [] [(.s 17)]),
   oo 6 (.mv (.s 18))]))
  (.seq (.seq (.h [.kill [4, 6, 19, 20]] (.reg false [oo 19 (.mv (.s 6)),
   oo 20 (.mv (.s 4)),
   oo 21 (.bin .neq (.s 19) (.s 20))]))
  (.cond (.s 21)
   (.seq (.h [.kill [0, 5, 21]] (.reg false [oo 2 (.mv (.c (.bool false)))]))
   .ret)
   .skip))
  (.seq (.seq (.h [.kill [0, 5, 21, 22, 23, 24, 25]] (.reg false [oo 22 (.mv (.s 5)),
   oo 23 (.mv (.s 0)),
   oo 24 (.call n_laws_toOpS [] [true] [(.s 23)]),
   oo 25 (.call n_laws_eqOpS [] [] [(.s 22), (.s 24)]),
   oo 26 (.un .not (.s 25))]))
  (.cond (.s 26)
   (.seq (.h [.kill [26]] (.reg false [oo 2 (.mv (.c (.bool false)))]))
   .ret)
   .skip))
  (.seq (.h [.kill [26]] (.reg false [oo 2 (.mv (.c (.bool true)))]))
  .ret))))))))))⟩

def k_laws_szOpS_l16 : K :=
  (.h [.clean []] (.seq (.seq (.h [.kill [12, 13, 14]] (.reg false [oo 12 (.mv (.s 5)),
   oo 13 (.mv (.s 0)),
   oo 14 (.len false (.s 13)),
   oo 15 (.bin .lss (.s 12) (.s 14))]))
  (.cond (.s 15)
   .skip
   (.ex 0)))
  (.seq (.blk 1
   (.seq (.h [.kill [15, 18, 19, 20, 21, 22, 23]] (.reg false [oo 18 (.mv (.s 0)),
    oo 19 (.mv (.s 5)),
    oo 20 (.ia 10 (.s 18) (.s 19)),
    oo 21 (.ld 10 true (.s 20)),
    oo 22 (.mv (.s 1)),
    oo 23 (.call n_laws_szOp [] [] [(.s 21), (.s 22)]),
    oo 1 (.mv (.s 23))]))
   (.seq (.h [.kill [24]] (.reg false [oo 24 (.mv (.s 1)),
    oo 25 (.bin .lss (.s 24) (.c (.int .i64 0)))]))
   (.cond (.s 25)
    (.seq (.h [.kill [0, 1, 5, 25]] (.reg false [oo 4 (.mv (.c (.int .i64 (-1))))]))
    .ret)
    .skip))))
  (.h [.kill [16, 17, 25]] (.reg false [oo 16 (.mv (.s 5)),
   oo 17 (.bin .add (.s 16) (.c (.int .i64 1))),
   oo 5 (.mv (.s 17))])))))
def k_laws_szOpS_r12 : K :=
  (.seq (.h [.kill [0, 1, 5, 15, 26]] (.reg false [oo 26 (.mv (.s 1)),
   oo 4 (.mv (.s 26))]))
  .ret)
def k_laws_szOpS : F := ⟨27, [.tmp 4],
  (.seq (.h [.kill [4]] (.reg false [oo 4 (.mv (.c (.int .i64 0)))]))
  (.seq (.h [.kill [6, 7, 8, 9]] (.reg false [oo 6 (.mv (.s 1)),
   oo 7 (.mv (.s 0)),
   oo 8 (.len false (.s 7)),
   oo 9 (.bin .sub (.s 6) (.s 8)),
   oo 1 (.mv (.s 9))]))
  (.seq (.seq (.h [.kill [10]] (.reg false [oo 10 (.mv (.s 1)),
   oo 11 (.bin .lss (.s 10) (.c (.int .i64 0)))]))
  (.cond (.s 11)
   (.seq (.h [.kill [0, 1, 11]] (.reg false [oo 4 (.mv (.c (.int .i64 (-1))))]))
   .ret)
   .skip))
  (.seq (.seq (.h [.clean []] (.h [.kill [11]] (.reg false [oo 5 (.mv (.c (.int .i64 0)))])))
  (.blk 0
   (.loop k_laws_szOpS_l16)))
  k_laws_szOpS_r12))))⟩

def k_laws_toOpS_l8 : K :=
  (.h [.clean [20]] (.seq (.seq (.h [.kill [8, 9, 10]] (.reg false [oo 8 (.mv (.s 4)),
   oo 9 (.mv (.s 0)),
   oo 10 (.len false (.s 9)),
   oo 11 (.bin .lss (.s 8) (.s 10))]))
  (.cond (.s 11)
   .skip
   (.ex 0)))
  (.seq (.blk 1
   (.h [.kill [11, 14, 15, 16, 17, 18, 19, 20, 21]] (.reg false [oo 14 (.mv (.s 3)),
    oo 15 (.mv (.s 4)),
    oo 16 (.mv (.s 0)),
    oo 17 (.mv (.s 4)),
    oo 18 (.ia 10 (.s 16) (.s 17)),
    oo 19 (.ld 10 true (.s 18)),
    oo 20 (.call n_laws_toOp [] [true] [(.s 19)]),
    oo 21 (.ia 10 (.s 14) (.s 15)),
    on (.st 10 (.s 21) (.s 20))])))
  (.h [.kill [12, 13]] (.reg false [oo 12 (.mv (.s 4)),
   oo 13 (.bin .add (.s 12) (.c (.int .i64 1))),
   oo 4 (.mv (.s 13))])))))
def k_laws_toOpS_r4 : K :=
  (.seq (.h [.kill [0, 3, 4, 11, 22]] (.reg false [oo 22 (.mv (.s 3)),
   oo 2 (.mv (.s 22))]))
  .ret)
def k_laws_toOpS : F := ⟨23, [.tmp 2],
  (.seq (.h [.kill [2]] (.reg false [oo 2 (.mv (.c (.slice none 0 0)))]))
  (.seq (.h [.kill [5, 6, 7]] (.reg false [oo 5 (.mv (.s 0)),
   oo 6 (.len false (.s 5)),
   oo 7 (.mks [.v (.int .i64 0), .v (.string ⟨#[]⟩), .sl true [], .v (.int .i64 0), .v (.int .i64 0), .v (.string ⟨#[]⟩), .v (.string ⟨#[]⟩), .v (.int .i64 0), .sl true [], .sl true []] 152 (.s 6)),
   oo 3 (.mv (.s 7))]))
  (.seq (.seq (.h [.clean []] (.reg false [oo 4 (.mv (.c (.int .i64 0)))]))
  (.blk 0
   (.loop k_laws_toOpS_l8)))
  k_laws_toOpS_r4)))⟩

def k_spec_Cost_l22 : K :=
  (.h [.clean []] (.seq (.seq (.h [.kill [14, 15, 16, 17, 18, 19, 20]] (.reg false [oo 14 (.mv (.s 5)),
   oo 15 (.mv (.s 0)),
   oo 16 (.mv (.s 4)),
   oo 17 (.ia 10 (.s 15) (.s 16)),
   oo 18 (.fa 8 (.s 17)),
   oo 19 (.ld 1 false (.s 18)),
   oo 20 (.len false (.s 19)),
   oo 21 (.bin .lss (.s 14) (.s 20))]))
  (.cond (.s 21)
   .skip
   (.ex 2)))
  (.seq (.blk 3
   (.h [.kill [21, 24, 25, 26, 27, 28, 29, 30, 31, 32, 33, 34]] (.reg false [oo 24 (.mv (.s 3)),
    oo 25 (.mv (.s 0)),
    oo 26 (.mv (.s 4)),
    oo 27 (.ia 10 (.s 25) (.s 26)),
    oo 28 (.fa 8 (.s 27)),
    oo 29 (.ld 1 false (.s 28)),
    oo 30 (.mv (.s 5)),
    oo 31 (.ia 8 (.s 29) (.s 30)),
    oo 32 (.ld 8 true (.s 31)),
    oo 33 (.call n_spec_CountOf [] [] [(.s 32)]),
    oo 34 (.bin .add (.s 24) (.s 33)),
    oo 3 (.mv (.s 34))])))
  (.h [.kill [22, 23]] (.reg false [oo 22 (.mv (.s 5)),
   oo 23 (.bin .add (.s 22) (.c (.int .i64 1))),
   oo 5 (.mv (.s 23))])))))
def k_spec_Cost_r15 : K :=
  (.h [.kill [5, 10, 11, 21]] (.reg false [oo 10 (.mv (.s 4)),
   oo 11 (.bin .add (.s 10) (.c (.int .i64 1))),
   oo 4 (.mv (.s 11))]))
def k_spec_Cost_l8 : K :=
  (.h [.clean []] (.seq (.seq (.h [.kill [6, 7, 8]] (.reg false [oo 6 (.mv (.s 4)),
   oo 7 (.mv (.s 0)),
   oo 8 (.len false (.s 7)),
   oo 9 (.bin .lss (.s 6) (.s 8))]))
  (.cond (.s 9)
   .skip
   (.ex 0)))
  (.seq (.blk 1
   (.seq (.h [.kill [9, 12, 13]] (.reg false [oo 12 (.mv (.s 3)),
    oo 13 (.bin .add (.s 12) (.c (.int .i64 1))),
    oo 3 (.mv (.s 13))]))
   (.seq (.h [.clean []] (.reg false [oo 5 (.mv (.c (.int .i64 0)))]))
   (.blk 2
    (.loop k_spec_Cost_l22)))))
  k_spec_Cost_r15)))
def k_spec_Cost_r4 : K :=
  (.seq (.h [.kill [0, 3, 4, 9, 35]] (.reg false [oo 35 (.mv (.s 3)),
   oo 2 (.mv (.s 35))]))
  .ret)
def k_spec_Cost : F := ⟨36, [.tmp 2],
  (.seq (.h [.kill [2]] (.reg false [oo 2 (.mv (.c (.int .i64 0)))]))
  (.seq (.reg false [oo 3 (.mv (.c (.int .i64 0)))])
  (.seq (.seq (.h [.clean []] (.reg false [oo 4 (.mv (.c (.int .i64 0)))]))
  (.blk 0
   (.loop k_spec_Cost_l8)))
  k_spec_Cost_r4)))⟩

def k_impl_Cost_l22 : K :=
  (.h [.clean [7]] (.seq (.reg false [oo 20 (.bin .lss (.s 19) (.s 18))])
  (.seq (.cond (.s 20)
   .skip
   (.ex 2))
  (.seq (.blk 3
   (.seq (.h [.kill [20, 21, 22]] (.reg false [oo 21 (.ia 8 (.s 17) (.s 19)),
    oo 22 (.ld 8 true (.s 21)),
    oo 7 (.alloc [.v (.int .i64 0), .v (.string ⟨#[]⟩), .v (.string ⟨#[]⟩), .v (.string ⟨#[]⟩), .sl true [], .sl true [], .sl true [], .v (.string ⟨#[]⟩)]),
    on (.st 8 (.s 7) (.s 22))]))
   (.h [.kill [7, 23, 24, 25, 26]] (.reg false [oo 23 (.mv (.s 3)),
    oo 24 (.ld 8 true (.s 7)),
    oo 25 (.call n_impl_CountOf [] [] [(.s 24)]),
    oo 26 (.bin .add (.s 23) (.s 25)),
    oo 3 (.mv (.s 26))]))))
  (.h [.kill [27]] (.reg false [oo 27 (.bin .add (.s 19) (.c (.int .i64 1))),
   oo 19 (.mv (.s 27))]))))))
def k_impl_Cost_r15 : K :=
  (.h [.kill [17, 18, 19, 20, 28]] (.reg false [oo 28 (.bin .add (.s 12) (.c (.int .i64 1))),
   oo 12 (.mv (.s 28))]))
def k_impl_Cost_l8 : K :=
  (.h [.clean []] (.seq (.reg false [oo 13 (.bin .lss (.s 12) (.s 11))])
  (.seq (.cond (.s 13)
   .skip
   (.ex 0))
  (.seq (.blk 1
   (.seq (.h [.kill [13, 14, 15]] (.reg false [oo 14 (.ia 10 (.s 10) (.s 12)),
    oo 15 (.ld 10 true (.s 14)),
    oo 5 (.alloc [.v (.int .i64 0), .v (.string ⟨#[]⟩), .sl true [], .v (.int .i64 0), .v (.int .i64 0), .v (.string ⟨#[]⟩), .v (.string ⟨#[]⟩), .v (.int .i64 0), .sl true [], .sl true []]),
    on (.st 10 (.s 5) (.s 15))]))
   (.seq (.h [.clean [5]] (.h [.kill [5, 16]] (.reg false [oo 16 (.fa 8 (.s 5)),
    oo 17 (.ld 1 false (.s 16)),
    oo 18 (.len false (.s 17)),
    oo 19 (.mv (.c (.int .i64 0)))])))
   (.blk 2
    (.loop k_impl_Cost_l22)))))
  k_impl_Cost_r15))))
def k_impl_Cost_r4 : K :=
  (.seq (.h [.kill [3, 10, 11, 12, 13, 29]] (.reg false [oo 29 (.mv (.s 3)),
   oo 2 (.mv (.s 29))]))
  .ret)
def k_impl_Cost : F := ⟨30, [.tmp 2],
  (.seq (.h [.kill [2]] (.reg false [oo 2 (.mv (.c (.int .i64 0)))]))
  (.seq (.h [.kill [8, 9]] (.reg false [oo 8 (.mv (.s 0)),
   oo 9 (.len false (.s 8)),
   oo 3 (.mv (.s 9))]))
  (.seq (.seq (.h [.clean []] (.h [.kill [0]] (.reg false [oo 10 (.mv (.s 0)),
   oo 11 (.len false (.s 10)),
   oo 12 (.mv (.c (.int .i64 0)))])))
  (.blk 0
   (.loop k_impl_Cost_l8)))
  k_impl_Cost_r4)))⟩

def k_laws_eqOpS_l14 : K :=
  (.h [.clean []] (.seq (.seq (.h [.kill [11, 12, 13]] (.reg false [oo 11 (.mv (.s 5)),
   oo 12 (.mv (.s 0)),
   oo 13 (.len false (.s 12)),
   oo 14 (.bin .lss (.s 11) (.s 13))]))
  (.cond (.s 14)
   .skip
   (.ex 0)))
  (.seq (.blk 1
   (.seq (.h [.kill [14, 17, 18, 19, 20, 21, 22, 23, 24, 25]] (.reg true [⟨some 17, none, .mv (.s 0), [], []⟩,
    ⟨some 18, none, .mv (.s 5), [], []⟩,
    ⟨some 19, none, .ia 10 (.s 17) (.s 18), [0], []⟩,
    ⟨some 20, none, .ld 10 true (.s 19), [0], []⟩,
    ⟨some 21, none, .mv (.s 1), [], []⟩,
    ⟨some 22, none, .mv (.s 5), [], []⟩,
    ⟨some 23, none, .ia 10 (.s 21) (.s 22), [1], []⟩,
    ⟨some 24, none, .ld 10 true (.s 23), [1], []⟩,
    ⟨some 25, none, .call n_laws_eqOp [] [] [(.s 20), (.s 24)], [0, 1], []⟩,
    ⟨some 26, none, .un .not (.s 25), [], []⟩]))
   (.cond (.s 26)
    (.seq (.h [.kill [0, 1, 5, 26]] (.reg false [oo 4 (.mv (.c (.bool false)))]))
    .ret)
    .skip)))
  (.h [.kill [15, 16, 26]] (.reg false [oo 15 (.mv (.s 5)),
   oo 16 (.bin .add (.s 15) (.c (.int .i64 1))),
   oo 5 (.mv (.s 16))])))))
def k_laws_eqOpS_r10 : K :=
  (.seq (.h [.kill [0, 1, 5, 14]] (.reg false [oo 4 (.mv (.c (.bool true)))]))
  .ret)
def k_laws_eqOpS : F := ⟨27, [.tmp 4],
  (.seq (.h [.kill [4]] (.reg false [oo 4 (.mv (.c (.bool false)))]))
  (.seq (.seq (.h [.kill [6, 7, 8, 9]] (.reg false [oo 6 (.mv (.s 0)),
   oo 7 (.len false (.s 6)),
   oo 8 (.mv (.s 1)),
   oo 9 (.len false (.s 8)),
   oo 10 (.bin .neq (.s 7) (.s 9))]))
  (.cond (.s 10)
   (.seq (.h [.kill [0, 1, 10]] (.reg false [oo 4 (.mv (.c (.bool false)))]))
   .ret)
   .skip))
  (.seq (.seq (.h [.clean []] (.h [.kill [10]] (.reg false [oo 5 (.mv (.c (.int .i64 0)))])))
  (.blk 0
   (.loop k_laws_eqOpS_l14)))
  k_laws_eqOpS_r10)))⟩

def k_laws_szOp : F := ⟨38, [.tmp 4],
  (.seq (.h [.kill [0, 4]] (.reg false [oo 2 (.box (.s 0)),
   oo 4 (.mv (.c (.int .i64 0)))]))
  (.seq (.h [.kill [5, 6, 7, 8]] (.reg false [oo 5 (.fa 1 (.s 2)),
   oo 6 (.ld 2 true (.s 5)),
   oo 7 (.mv (.s 1)),
   oo 8 (.call n_laws_szSel [] [] [(.s 6), (.s 7)]),
   oo 1 (.mv (.s 8))]))
  (.seq (.seq (.h [.kill [9]] (.reg false [oo 9 (.mv (.s 1)),
   oo 10 (.bin .lss (.s 9) (.c (.int .i64 0)))]))
  (.cond (.s 10)
   (.seq (.h [.kill [1, 2, 10]] (.reg false [oo 4 (.mv (.c (.int .i64 (-1))))]))
   .ret)
   .skip))
  (.seq (.h [.kill [10, 11, 12, 13, 14, 15]] (.reg false [oo 11 (.mv (.s 1)),
   oo 12 (.fa 5 (.s 2)),
   oo 13 (.ld 1 false (.s 12)),
   oo 14 (.len true (.s 13)),
   oo 15 (.bin .sub (.s 11) (.s 14)),
   oo 1 (.mv (.s 15))]))
  (.seq (.seq (.h [.kill [16]] (.reg false [oo 16 (.mv (.s 1)),
   oo 17 (.bin .lss (.s 16) (.c (.int .i64 0)))]))
  (.cond (.s 17)
   (.seq (.h [.kill [1, 2, 17]] (.reg false [oo 4 (.mv (.c (.int .i64 (-1))))]))
   .ret)
   .skip))
  (.seq (.h [.kill [17, 18, 19, 20, 21, 22]] (.reg false [oo 18 (.mv (.s 1)),
   oo 19 (.fa 6 (.s 2)),
   oo 20 (.ld 1 false (.s 19)),
   oo 21 (.len true (.s 20)),
   oo 22 (.bin .sub (.s 18) (.s 21)),
   oo 1 (.mv (.s 22))]))
  (.seq (.seq (.h [.kill [23]] (.reg false [oo 23 (.mv (.s 1)),
   oo 24 (.bin .lss (.s 23) (.c (.int .i64 0)))]))
  (.cond (.s 24)
   (.seq (.h [.kill [1, 2, 24]] (.reg false [oo 4 (.mv (.c (.int .i64 (-1))))]))
   .ret)
   .skip))
  (.seq (.h [.kill [24, 25, 26, 27, 28]] (.reg false [oo 25 (.fa 8 (.s 2)),
   oo 26 (.ld 1 false (.s 25)),
   oo 27 (.mv (.s 1)),
   oo 28 (.call n_laws_szNodeS [] [] [(.s 26), (.s 27)]),
   oo 1 (.mv (.s 28))]))
  (.seq (.seq (.h [.kill [29]] (.reg false [oo 29 (.mv (.s 1)),
   oo 30 (.bin .lss (.s 29) (.c (.int .i64 0)))]))
  (.cond (.s 30)
   (.seq (.h [.kill [1, 2, 30]] (.reg false [oo 4 (.mv (.c (.int .i64 (-1))))]))
   .ret)
   .skip))
  (.seq (.h [.kill [2, 30, 31, 32, 33, 34]] (.reg false [oo 31 (.fa 9 (.s 2)),
   oo 32 (.ld 1 false (.s 31)),
   oo 33 (.mv (.s 1)),
   oo 34 (.call n_laws_szDeclS [] [] [(.s 32), (.s 33)]),
   oo 1 (.mv (.s 34))]))
  (.seq (.seq (.h [.kill [35]] (.reg false [oo 35 (.mv (.s 1)),
   oo 36 (.bin .lss (.s 35) (.c (.int .i64 0)))]))
  (.cond (.s 36)
   (.seq (.h [.kill [1, 36]] (.reg false [oo 4 (.mv (.c (.int .i64 (-1))))]))
   .ret)
   .skip))
  (.seq (.h [.kill [1, 36, 37]] (.reg false [oo 37 (.mv (.s 1)),
   oo 4 (.mv (.s 37))]))
  .ret))))))))))))⟩

def k_laws_toOp : F := ⟨35, [.cell 2 10 true],
  (.seq (.h [.kill [0]] (.reg false [oo 1 (.box (.s 0)),
   oo 2 (.alloc [.v (.int .i64 0), .v (.string ⟨#[]⟩), .sl true [], .v (.int .i64 0), .v (.int .i64 0), .v (.string ⟨#[]⟩), .v (.string ⟨#[]⟩), .v (.int .i64 0), .sl true [], .sl true []])]))
  (.seq (.reg false [oo 3 (.alloc [.v (.int .i64 0), .v (.string ⟨#[]⟩), .sl true [], .v (.int .i64 0), .v (.int .i64 0), .v (.string ⟨#[]⟩), .v (.string ⟨#[]⟩), .v (.int .i64 0), .sl true [], .sl true []])])
  (.seq (.h [.kill [4, 5, 6]] (.reg false [oo 4 (.fa 0 (.s 1)),
   oo 5 (.ld 1 false (.s 4)),
   oo 6 (.fa 0 (.s 3)),
   on (.st 1 (.s 6) (.s 5))]))
  (.seq (.h [.kill [7, 8, 9, 10]] (.reg false [oo 7 (.fa 1 (.s 1)),
   oo 8 (.ld 2 true (.s 7)),
   oo 9 (.call n_laws_toSel [] [true] [(.s 8)]),
   oo 10 (.fa 1 (.s 3)),
   on (.st 2 (.s 10) (.s 9))]))
  (.seq (.h [.kill [11, 12, 13]] (.reg false [oo 11 (.fa 3 (.s 1)),
   oo 12 (.ld 1 false (.s 11)),
   oo 13 (.fa 3 (.s 3)),
   on (.st 1 (.s 13) (.s 12))]))
  (.seq (.h [.kill [14, 15, 16]] (.reg false [oo 14 (.fa 4 (.s 1)),
   oo 15 (.ld 1 false (.s 14)),
   oo 16 (.fa 4 (.s 3)),
   on (.st 1 (.s 16) (.s 15))]))
  (.seq (.h [.kill [17, 18, 19]] (.reg false [oo 17 (.fa 5 (.s 1)),
   oo 18 (.ld 1 false (.s 17)),
   oo 19 (.fa 5 (.s 3)),
   on (.st 1 (.s 19) (.s 18))]))
  (.seq (.h [.kill [20, 21, 22]] (.reg false [oo 20 (.fa 6 (.s 1)),
   oo 21 (.ld 1 false (.s 20)),
   oo 22 (.fa 6 (.s 3)),
   on (.st 1 (.s 22) (.s 21))]))
  (.seq (.h [.kill [23, 24, 25]] (.reg false [oo 23 (.fa 7 (.s 1)),
   oo 24 (.ld 1 false (.s 23)),
   oo 25 (.fa 7 (.s 3)),
   on (.st 1 (.s 25) (.s 24))]))
  (.seq (.h [.kill [26, 27, 28, 29]] (.reg false [oo 26 (.fa 8 (.s 1)),
   oo 27 (.ld 1 false (.s 26)),
   oo 28 (.call n_laws_toNodeS [] [true] [(.s 27)]),
   oo 29 (.fa 8 (.s 3)),
   on (.st 1 (.s 29) (.s 28))]))
  (.seq (.h [.kill [1, 30, 31, 32, 33]] (.reg false [oo 30 (.fa 9 (.s 1)),
   oo 31 (.ld 1 false (.s 30)),
   oo 32 (.call n_laws_toDeclS [] [true] [(.s 31)]),
   oo 33 (.fa 9 (.s 3)),
   on (.st 1 (.s 33) (.s 32))]))
  (.seq (.h [.kill [3, 34]] (.reg false [oo 34 (.ld 10 true (.s 3)),
   on (.st 10 (.s 2) (.s 34))]))
  .ret))))))))))))⟩

def k_spec_CountOf_l8 : K :=
  (.h [.clean []] (.seq (.seq (.h [.kill [9, 10, 11, 12]] (.reg false [oo 9 (.mv (.s 4)),
   oo 10 (.fa 6 (.s 1)),
   oo 11 (.ld 1 false (.s 10)),
   oo 12 (.len false (.s 11)),
   oo 13 (.bin .lss (.s 9) (.s 12))]))
  (.cond (.s 13)
   .skip
   (.ex 0)))
  (.seq (.blk 1
   (.h [.kill [13, 16, 17, 18, 19, 20, 21, 22, 23]] (.reg false [oo 16 (.mv (.s 3)),
    oo 17 (.fa 6 (.s 1)),
    oo 18 (.ld 1 false (.s 17)),
    oo 19 (.mv (.s 4)),
    oo 20 (.ia 8 (.s 18) (.s 19)),
    oo 21 (.ld 8 true (.s 20)),
    oo 22 (.call n_spec_CountOf [] [] [(.s 21)]),
    oo 23 (.bin .add (.s 16) (.s 22)),
    oo 3 (.mv (.s 23))])))
  (.h [.kill [14, 15]] (.reg false [oo 14 (.mv (.s 4)),
   oo 15 (.bin .add (.s 14) (.c (.int .i64 1))),
   oo 4 (.mv (.s 15))])))))
def k_spec_CountOf_r4 : K :=
  (.seq (.h [.kill [1, 3, 4, 13, 24]] (.reg false [oo 24 (.mv (.s 3)),
   oo 2 (.mv (.s 24))]))
  .ret)
def k_spec_CountOf : F := ⟨25, [.tmp 2],
  (.seq (.h [.kill [0, 2]] (.reg false [oo 1 (.box (.s 0)),
   oo 2 (.mv (.c (.int .i64 0)))]))
  (.seq (.h [.kill [5, 6, 7, 8]] (.reg false [oo 5 (.fa 5 (.s 1)),
   oo 6 (.ld 1 false (.s 5)),
   oo 7 (.len false (.s 6)),
   oo 8 (.bin .add (.c (.int .i64 1)) (.s 7)),
   oo 3 (.mv (.s 8))]))
  (.seq (.seq (.h [.clean []] (.reg false [oo 4 (.mv (.c (.int .i64 0)))]))
  (.blk 0
   (.loop k_spec_CountOf_l8)))
  k_spec_CountOf_r4)))⟩

def k_impl_CountOf_l8 : K :=
  (.h [.clean [5]] (.seq (.reg false [oo 14 (.bin .lss (.s 13) (.s 12))])
  (.seq (.cond (.s 14)
   .skip
   (.ex 0))
  (.seq (.blk 1
   (.seq (.h [.kill [14, 15, 16]] (.reg false [oo 15 (.ia 8 (.s 11) (.s 13)),
    oo 16 (.ld 8 true (.s 15)),
    oo 5 (.alloc [.v (.int .i64 0), .v (.string ⟨#[]⟩), .v (.string ⟨#[]⟩), .v (.string ⟨#[]⟩), .sl true [], .sl true [], .sl true [], .v (.string ⟨#[]⟩)]),
    on (.st 8 (.s 5) (.s 16))]))
   (.h [.kill [5, 17, 18, 19, 20]] (.reg false [oo 17 (.mv (.s 3)),
    oo 18 (.ld 8 true (.s 5)),
    oo 19 (.call n_impl_CountOf [] [] [(.s 18)]),
    oo 20 (.bin .add (.s 17) (.s 19)),
    oo 3 (.mv (.s 20))]))))
  (.h [.kill [21]] (.reg false [oo 21 (.bin .add (.s 13) (.c (.int .i64 1))),
   oo 13 (.mv (.s 21))]))))))
def k_impl_CountOf_r4 : K :=
  (.seq (.h [.kill [3, 11, 12, 13, 14, 22]] (.reg false [oo 22 (.mv (.s 3)),
   oo 2 (.mv (.s 22))]))
  .ret)
def k_impl_CountOf : F := ⟨23, [.tmp 2],
  (.seq (.h [.kill [0, 2]] (.reg false [oo 1 (.box (.s 0)),
   oo 2 (.mv (.c (.int .i64 0)))]))
  (.seq (.h [.kill [6, 7, 8, 9]] (.reg false [oo 6 (.fa 5 (.s 1)),
   oo 7 (.ld 1 false (.s 6)),
   oo 8 (.len false (.s 7)),
   oo 9 (.bin .add (.c (.int .i64 1)) (.s 8)),
   oo 3 (.mv (.s 9))]))
  (.seq (.seq (.h [.clean [1]] (.h [.kill [1, 10]] (.reg false [oo 10 (.fa 6 (.s 1)),
   oo 11 (.ld 1 false (.s 10)),
   oo 12 (.len false (.s 11)),
   oo 13 (.mv (.c (.int .i64 0)))])))
  (.blk 0
   (.loop k_impl_CountOf_l8)))
  k_impl_CountOf_r4)))⟩

def k_laws_eqOp : F := ⟨53, [.tmp 4],
  (.seq (.h [.kill [0, 1, 4]] (.reg false [oo 2 (.box (.s 0)),
   oo 3 (.box (.s 1)),
   oo 4 (.mv (.c (.bool false)))]))
  (.seq (.seq (.h [.kill [5, 6, 7, 8]] (.reg false [oo 5 (.fa 0 (.s 2)),
   oo 6 (.ld 1 false (.s 5)),
   oo 7 (.fa 0 (.s 3)),
   oo 8 (.ld 1 false (.s 7)),
   oo 9 (.bin .neq (.s 6) (.s 8))]))
  (.cond (.s 9)
   (.seq (.h [.kill [2, 3, 9]] (.reg false [oo 4 (.mv (.c (.bool false)))]))
   .ret)
   .skip))
  (.seq (.seq (.h [.kill [9, 10, 11, 12, 13, 14]] (.reg false [oo 10 (.fa 1 (.s 2)),
   oo 11 (.ld 2 true (.s 10)),
   oo 12 (.fa 1 (.s 3)),
   oo 13 (.ld 2 true (.s 12)),
   oo 14 (.call n_laws_eqSel [] [] [(.s 11), (.s 13)]),
   oo 15 (.un .not (.s 14))]))
  (.cond (.s 15)
   (.seq (.h [.kill [2, 3, 15]] (.reg false [oo 4 (.mv (.c (.bool false)))]))
   .ret)
   .skip))
  (.seq (.seq (.h [.kill [15, 16, 17, 18, 19]] (.reg false [oo 16 (.fa 3 (.s 2)),
   oo 17 (.ld 1 false (.s 16)),
   oo 18 (.fa 3 (.s 3)),
   oo 19 (.ld 1 false (.s 18)),
   oo 20 (.bin .neq (.s 17) (.s 19))]))
  (.cond (.s 20)
   (.seq (.h [.kill [2, 3, 20]] (.reg false [oo 4 (.mv (.c (.bool false)))]))
   .ret)
   .skip))
  (.seq (.seq (.h [.kill [20, 21, 22, 23, 24]] (.reg false [oo 21 (.fa 4 (.s 2)),
   oo 22 (.ld 1 false (.s 21)),
   oo 23 (.fa 4 (.s 3)),
   oo 24 (.ld 1 false (.s 23)),
   oo 25 (.bin .neq (.s 22) (.s 24))]))
  (.cond (.s 25)
   (.seq (.h [.kill [2, 3, 25]] (.reg false [oo 4 (.mv (.c (.bool false)))]))
   .ret)
   .skip))
  (.seq (.seq (.h [.kill [25, 26, 27, 28, 29]] (.reg false [oo 26 (.fa 5 (.s 2)),
   oo 27 (.ld 1 false (.s 26)),
   oo 28 (.fa 5 (.s 3)),
   oo 29 (.ld 1 false (.s 28)),
   oo 30 (.bin .neq (.s 27) (.s 29))]))
  (.cond (.s 30)
   (.seq (.h [.kill [2, 3, 30]] (.reg false [oo 4 (.mv (.c (.bool false)))]))
   .ret)
   .skip))
  (.seq (.seq (.h [.kill [30, 31, 32, 33, 34]] (.reg false [oo 31 (.fa 6 (.s 2)),
   oo 32 (.ld 1 false (.s 31)),
   oo 33 (.fa 6 (.s 3)),
   oo 34 (.ld 1 false (.s 33)),
   oo 35 (.bin .neq (.s 32) (.s 34))]))
  (.cond (.s 35)
   (.seq (.h [.kill [2, 3, 35]] (.reg false [oo 4 (.mv (.c (.bool false)))]))
   .ret)
   .skip))
  (.seq (.seq (.h [.kill [35, 36, 37, 38, 39]] (.reg false [oo 36 (.fa 7 (.s 2)),
   oo 37 (.ld 1 false (.s 36)),
   oo 38 (.fa 7 (.s 3)),
   oo 39 (.ld 1 false (.s 38)),
   oo 40 (.bin .neq (.s 37) (.s 39))]))
  (.cond (.s 40)
   (.seq (.h [.kill [2, 3, 40]] (.reg false [oo 4 (.mv (.c (.bool false)))]))
   .ret)
   .skip))
  (.seq (.seq (.h [.kill [40, 41, 42, 43, 44, 45]] (.reg false [oo 41 (.fa 8 (.s 2)),
   oo 42 (.ld 1 false (.s 41)),
   oo 43 (.fa 8 (.s 3)),
   oo 44 (.ld 1 false (.s 43)),
   oo 45 (.call n_laws_eqNodeS [] [] [(.s 42), (.s 44)]),
   oo 46 (.un .not (.s 45))]))
  (.cond (.s 46)
   (.seq (.h [.kill [2, 3, 46]] (.reg false [oo 4 (.mv (.c (.bool false)))]))
   .ret)
   .skip))
  (.seq (.seq (.h [.kill [2, 3, 46, 47, 48, 49, 50, 51]] (.reg false [oo 47 (.fa 9 (.s 2)),
   oo 48 (.ld 1 false (.s 47)),
   oo 49 (.fa 9 (.s 3)),
   oo 50 (.ld 1 false (.s 49)),
   oo 51 (.call n_laws_eqDeclS [] [] [(.s 48), (.s 50)]),
   oo 52 (.un .not (.s 51))]))
  (.cond (.s 52)
   (.seq (.h [.kill [52]] (.reg false [oo 4 (.mv (.c (.bool false)))]))
   .ret)
   .skip))
  (.seq (.h [.kill [52]] (.reg false [oo 4 (.mv (.c (.bool true)))]))
  .ret)))))))))))⟩

def k_laws_szSel : F := ⟨19, [.tmp 4],
  (.seq (.h [.kill [0, 4]] (.reg false [oo 2 (.box (.s 0)),
   oo 4 (.mv (.c (.int .i64 0)))]))
  (.seq (.h [.kill [5, 6, 7, 8, 9]] (.reg false [oo 5 (.mv (.s 1)),
   oo 6 (.fa 0 (.s 2)),
   oo 7 (.ld 1 false (.s 6)),
   oo 8 (.len true (.s 7)),
   oo 9 (.bin .sub (.s 5) (.s 8)),
   oo 1 (.mv (.s 9))]))
  (.seq (.seq (.h [.kill [10]] (.reg false [oo 10 (.mv (.s 1)),
   oo 11 (.bin .lss (.s 10) (.c (.int .i64 0)))]))
  (.cond (.s 11)
   (.seq (.h [.kill [1, 2, 11]] (.reg false [oo 4 (.mv (.c (.int .i64 (-1))))]))
   .ret)
   .skip))
  (.seq (.h [.kill [2, 11, 12, 13, 14, 15]] (.reg false [oo 12 (.fa 1 (.s 2)),
   oo 13 (.ld 1 false (.s 12)),
   oo 14 (.mv (.s 1)),
   oo 15 (.call n_laws_szStepS [] [] [(.s 13), (.s 14)]),
   oo 1 (.mv (.s 15))]))
  (.seq (.seq (.h [.kill [16]] (.reg false [oo 16 (.mv (.s 1)),
   oo 17 (.bin .lss (.s 16) (.c (.int .i64 0)))]))
  (.cond (.s 17)
   (.seq (.h [.kill [1, 17]] (.reg false [oo 4 (.mv (.c (.int .i64 (-1))))]))
   .ret)
   .skip))
  (.seq (.h [.kill [1, 17, 18]] (.reg false [oo 18 (.mv (.s 1)),
   oo 4 (.mv (.s 18))]))
  .ret))))))⟩

def k_laws_szNodeS_l16 : K :=
  (.h [.clean []] (.seq (.seq (.h [.kill [12, 13, 14]] (.reg false [oo 12 (.mv (.s 5)),
   oo 13 (.mv (.s 0)),
   oo 14 (.len false (.s 13)),
   oo 15 (.bin .lss (.s 12) (.s 14))]))
  (.cond (.s 15)
   .skip
   (.ex 0)))
  (.seq (.blk 1
   (.seq (.h [.kill [15, 18, 19, 20, 21, 22, 23]] (.reg false [oo 18 (.mv (.s 0)),
    oo 19 (.mv (.s 5)),
    oo 20 (.ia 8 (.s 18) (.s 19)),
    oo 21 (.ld 8 true (.s 20)),
    oo 22 (.mv (.s 1)),
    oo 23 (.call n_laws_szNode [] [] [(.s 21), (.s 22)]),
    oo 1 (.mv (.s 23))]))
   (.seq (.h [.kill [24]] (.reg false [oo 24 (.mv (.s 1)),
    oo 25 (.bin .lss (.s 24) (.c (.int .i64 0)))]))
   (.cond (.s 25)
    (.seq (.h [.kill [0, 1, 5, 25]] (.reg false [oo 4 (.mv (.c (.int .i64 (-1))))]))
    .ret)
    .skip))))
  (.h [.kill [16, 17, 25]] (.reg false [oo 16 (.mv (.s 5)),
   oo 17 (.bin .add (.s 16) (.c (.int .i64 1))),
   oo 5 (.mv (.s 17))])))))
def k_laws_szNodeS_r12 : K :=
  (.seq (.h [.kill [0, 1, 5, 15, 26]] (.reg false [oo 26 (.mv (.s 1)),
   oo 4 (.mv (.s 26))]))
  .ret)
def k_laws_szNodeS : F := ⟨27, [.tmp 4],
  (.seq (.h [.kill [4]] (.reg false [oo 4 (.mv (.c (.int .i64 0)))]))
  (.seq (.h [.kill [6, 7, 8, 9]] (.reg false [oo 6 (.mv (.s 1)),
   oo 7 (.mv (.s 0)),
   oo 8 (.len false (.s 7)),
   oo 9 (.bin .sub (.s 6) (.s 8)),
   oo 1 (.mv (.s 9))]))
  (.seq (.seq (.h [.kill [10]] (.reg false [oo 10 (.mv (.s 1)),
   oo 11 (.bin .lss (.s 10) (.c (.int .i64 0)))]))
  (.cond (.s 11)
   (.seq (.h [.kill [0, 1, 11]] (.reg false [oo 4 (.mv (.c (.int .i64 (-1))))]))
   .ret)
   .skip))
  (.seq (.seq (.h [.clean []] (.h [.kill [11]] (.reg false [oo 5 (.mv (.c (.int .i64 0)))])))
  (.blk 0
   (.loop k_laws_szNodeS_l16)))
  k_laws_szNodeS_r12))))⟩

def k_laws_szDeclS_l16 : K :=
  (.h [.clean []] (.seq (.seq (.h [.kill [12, 13, 14]] (.reg false [oo 12 (.mv (.s 5)),
   oo 13 (.mv (.s 0)),
   oo 14 (.len false (.s 13)),
   oo 15 (.bin .lss (.s 12) (.s 14))]))
  (.cond (.s 15)
   .skip
   (.ex 0)))
  (.seq (.blk 1
   (.seq (.h [.kill [15, 18, 19, 20, 21, 22, 23]] (.reg false [oo 18 (.mv (.s 0)),
    oo 19 (.mv (.s 5)),
    oo 20 (.ia 2 (.s 18) (.s 19)),
    oo 21 (.ld 2 true (.s 20)),
    oo 22 (.mv (.s 1)),
    oo 23 (.call n_laws_szDecl [] [] [(.s 21), (.s 22)]),
    oo 1 (.mv (.s 23))]))
   (.seq (.h [.kill [24]] (.reg false [oo 24 (.mv (.s 1)),
    oo 25 (.bin .lss (.s 24) (.c (.int .i64 0)))]))
   (.cond (.s 25)
    (.seq (.h [.kill [0, 1, 5, 25]] (.reg false [oo 4 (.mv (.c (.int .i64 (-1))))]))
    .ret)
    .skip))))
  (.h [.kill [16, 17, 25]] (.reg false [oo 16 (.mv (.s 5)),
   oo 17 (.bin .add (.s 16) (.c (.int .i64 1))),
   oo 5 (.mv (.s 17))])))))
def k_laws_szDeclS_r12 : K :=
  (.seq (.h [.kill [0, 1, 5, 15, 26]] (.reg false [oo 26 (.mv (.s 1)),
   oo 4 (.mv (.s 26))]))
  .ret)
def k_laws_szDeclS : F := ⟨27, [.tmp 4],
  (.seq (.h [.kill [4]] (.reg false [oo 4 (.mv (.c (.int .i64 0)))]))
  (.seq (.h [.kill [6, 7, 8, 9]] (.reg false [oo 6 (.mv (.s 1)),
   oo 7 (.mv (.s 0)),
   oo 8 (.len false (.s 7)),
   oo 9 (.bin .sub (.s 6) (.s 8)),
   oo 1 (.mv (.s 9))]))
  (.seq (.seq (.h [.kill [10]] (.reg false [oo 10 (.mv (.s 1)),
   oo 11 (.bin .lss (.s 10) (.c (.int .i64 0)))]))
  (.cond (.s 11)
   (.seq (.h [.kill [0, 1, 11]] (.reg false [oo 4 (.mv (.c (.int .i64 (-1))))]))
   .ret)
   .skip))
  (.seq (.seq (.h [.clean []] (.h [.kill [11]] (.reg false [oo 5 (.mv (.c (.int .i64 0)))])))
  (.blk 0
   (.loop k_laws_szDeclS_l16)))
  k_laws_szDeclS_r12))))⟩

def k_laws_toSel : F := ⟨12, [.cell 2 2 true],
  (.seq (.h [.kill [0]] (.reg false [oo 1 (.box (.s 0)),
   oo 2 (.alloc [.v (.string ⟨#[]⟩), .sl true []])]))
  (.seq (.reg false [oo 3 (.alloc [.v (.string ⟨#[]⟩), .sl true []])])
  (.seq (.h [.kill [4, 5, 6]] (.reg false [oo 4 (.fa 0 (.s 1)),
   oo 5 (.ld 1 false (.s 4)),
   oo 6 (.fa 0 (.s 3)),
   on (.st 1 (.s 6) (.s 5))]))
  (.seq (.h [.kill [1, 7, 8, 9, 10]] (.reg false [oo 7 (.fa 1 (.s 1)),
   oo 8 (.ld 1 false (.s 7)),
   oo 9 (.call n_laws_toStepS [] [true] [(.s 8)]),
   oo 10 (.fa 1 (.s 3)),
   on (.st 1 (.s 10) (.s 9))]))
  (.seq (.h [.kill [3, 11]] (.reg false [oo 11 (.ld 2 true (.s 3)),
   on (.st 2 (.s 2) (.s 11))]))
  .ret)))))⟩

def k_laws_toNodeS_l8 : K :=
  (.h [.clean [20]] (.seq (.seq (.h [.kill [8, 9, 10]] (.reg false [oo 8 (.mv (.s 4)),
   oo 9 (.mv (.s 0)),
   oo 10 (.len false (.s 9)),
   oo 11 (.bin .lss (.s 8) (.s 10))]))
  (.cond (.s 11)
   .skip
   (.ex 0)))
  (.seq (.blk 1
   (.h [.kill [11, 14, 15, 16, 17, 18, 19, 20, 21]] (.reg false [oo 14 (.mv (.s 3)),
    oo 15 (.mv (.s 4)),
    oo 16 (.mv (.s 0)),
    oo 17 (.mv (.s 4)),
    oo 18 (.ia 8 (.s 16) (.s 17)),
    oo 19 (.ld 8 true (.s 18)),
    oo 20 (.call n_laws_toNode [] [true] [(.s 19)]),
    oo 21 (.ia 8 (.s 14) (.s 15)),
    on (.st 8 (.s 21) (.s 20))])))
  (.h [.kill [12, 13]] (.reg false [oo 12 (.mv (.s 4)),
   oo 13 (.bin .add (.s 12) (.c (.int .i64 1))),
   oo 4 (.mv (.s 13))])))))
def k_laws_toNodeS_r4 : K :=
  (.seq (.h [.kill [0, 3, 4, 11, 22]] (.reg false [oo 22 (.mv (.s 3)),
   oo 2 (.mv (.s 22))]))
  .ret)
def k_laws_toNodeS : F := ⟨23, [.tmp 2],
  (.seq (.h [.kill [2]] (.reg false [oo 2 (.mv (.c (.slice none 0 0)))]))
  (.seq (.h [.kill [5, 6, 7]] (.reg false [oo 5 (.mv (.s 0)),
   oo 6 (.len false (.s 5)),
   oo 7 (.mks [.v (.int .i64 0), .v (.string ⟨#[]⟩), .v (.string ⟨#[]⟩), .v (.string ⟨#[]⟩), .sl true [], .sl true [], .sl true [], .v (.string ⟨#[]⟩)] 144 (.s 6)),
   oo 3 (.mv (.s 7))]))
  (.seq (.seq (.h [.clean []] (.reg false [oo 4 (.mv (.c (.int .i64 0)))]))
  (.blk 0
   (.loop k_laws_toNodeS_l8)))
  k_laws_toNodeS_r4)))⟩

def k_laws_toDeclS_l8 : K :=
  (.h [.clean []] (.seq (.seq (.h [.kill [8, 9, 10]] (.reg false [oo 8 (.mv (.s 4)),
   oo 9 (.mv (.s 0)),
   oo 10 (.len false (.s 9)),
   oo 11 (.bin .lss (.s 8) (.s 10))]))
  (.cond (.s 11)
   .skip
   (.ex 0)))
  (.seq (.blk 1
   (.h [.kill [11, 14, 15, 16, 17, 18, 19, 20, 21]] (.reg false [oo 14 (.mv (.s 3)),
    oo 15 (.mv (.s 4)),
    oo 16 (.mv (.s 0)),
    oo 17 (.mv (.s 4)),
    oo 18 (.ia 2 (.s 16) (.s 17)),
    oo 19 (.ld 2 true (.s 18)),
    oo 20 (.call n_laws_toDecl [] [] [(.s 19)]),
    oo 21 (.ia 2 (.s 14) (.s 15)),
    on (.st 2 (.s 21) (.s 20))])))
  (.h [.kill [12, 13]] (.reg false [oo 12 (.mv (.s 4)),
   oo 13 (.bin .add (.s 12) (.c (.int .i64 1))),
   oo 4 (.mv (.s 13))])))))
def k_laws_toDeclS_r4 : K :=
  (.seq (.h [.kill [0, 3, 4, 11, 22]] (.reg false [oo 22 (.mv (.s 3)),
   oo 2 (.mv (.s 22))]))
  .ret)
def k_laws_toDeclS : F := ⟨23, [.tmp 2],
  (.seq (.h [.kill [2]] (.reg false [oo 2 (.mv (.c (.slice none 0 0)))]))
  (.seq (.h [.kill [5, 6, 7]] (.reg false [oo 5 (.mv (.s 0)),
   oo 6 (.len false (.s 5)),
   oo 7 (.mks [.v (.string ⟨#[]⟩), .v (.string ⟨#[]⟩)] 32 (.s 6)),
   oo 3 (.mv (.s 7))]))
  (.seq (.seq (.h [.clean []] (.reg false [oo 4 (.mv (.c (.int .i64 0)))]))
  (.blk 0
   (.loop k_laws_toDeclS_l8)))
  k_laws_toDeclS_r4)))⟩

def k_laws_eqSel : F := ⟨16, [.tmp 4],
  (.seq (.h [.kill [0, 1, 4]] (.reg false [oo 2 (.box (.s 0)),
   oo 3 (.box (.s 1)),
   oo 4 (.mv (.c (.bool false)))]))
  (.seq (.seq (.h [.kill [5, 6, 7, 8]] (.reg false [oo 5 (.fa 0 (.s 2)),
   oo 6 (.ld 1 false (.s 5)),
   oo 7 (.fa 0 (.s 3)),
   oo 8 (.ld 1 false (.s 7)),
   oo 9 (.bin .neq (.s 6) (.s 8))]))
  (.cond (.s 9)
   (.seq (.h [.kill [2, 3, 9]] (.reg false [oo 4 (.mv (.c (.bool false)))]))
   .ret)
   .skip))
  (.seq (.seq (.h [.kill [2, 3, 9, 10, 11, 12, 13, 14]] (.reg false [oo 10 (.fa 1 (.s 2)),
   oo 11 (.ld 1 false (.s 10)),
   oo 12 (.fa 1 (.s 3)),
   oo 13 (.ld 1 false (.s 12)),
   oo 14 (.call n_laws_eqStepS [] [] [(.s 11), (.s 13)]),
   oo 15 (.un .not (.s 14))]))
  (.cond (.s 15)
   (.seq (.h [.kill [15]] (.reg false [oo 4 (.mv (.c (.bool false)))]))
   .ret)
   .skip))
  (.seq (.h [.kill [15]] (.reg false [oo 4 (.mv (.c (.bool true)))]))
  .ret))))⟩

def k_laws_eqNodeS_l14 : K :=
  (.h [.clean []] (.seq (.seq (.h [.kill [11, 12, 13]] (.reg false [oo 11 (.mv (.s 5)),
   oo 12 (.mv (.s 0)),
   oo 13 (.len false (.s 12)),
   oo 14 (.bin .lss (.s 11) (.s 13))]))
  (.cond (.s 14)
   .skip
   (.ex 0)))
  (.seq (.blk 1
   (.seq (.h [.kill [14, 17, 18, 19, 20, 21, 22, 23, 24, 25]] (.reg true [⟨some 17, none, .mv (.s 0), [], []⟩,
    ⟨some 18, none, .mv (.s 5), [], []⟩,
    ⟨some 19, none, .ia 8 (.s 17) (.s 18), [0], []⟩,
    ⟨some 20, none, .ld 8 true (.s 19), [0], []⟩,
    ⟨some 21, none, .mv (.s 1), [], []⟩,
    ⟨some 22, none, .mv (.s 5), [], []⟩,
    ⟨some 23, none, .ia 8 (.s 21) (.s 22), [1], []⟩,
    ⟨some 24, none, .ld 8 true (.s 23), [1], []⟩,
    ⟨some 25, none, .call n_laws_eqNode [] [] [(.s 20), (.s 24)], [0, 1], []⟩,
    ⟨some 26, none, .un .not (.s 25), [], []⟩]))
   (.cond (.s 26)
    (.seq (.h [.kill [0, 1, 5, 26]] (.reg false [oo 4 (.mv (.c (.bool false)))]))
    .ret)
    .skip)))
  (.h [.kill [15, 16, 26]] (.reg false [oo 15 (.mv (.s 5)),
   oo 16 (.bin .add (.s 15) (.c (.int .i64 1))),
   oo 5 (.mv (.s 16))])))))
def k_laws_eqNodeS_r10 : K :=
  (.seq (.h [.kill [0, 1, 5, 14]] (.reg false [oo 4 (.mv (.c (.bool true)))]))
  .ret)
def k_laws_eqNodeS : F := ⟨27, [.tmp 4],
  (.seq (.h [.kill [4]] (.reg false [oo 4 (.mv (.c (.bool false)))]))
  (.seq (.seq (.h [.kill [6, 7, 8, 9]] (.reg false [oo 6 (.mv (.s 0)),
   oo 7 (.len false (.s 6)),
   oo 8 (.mv (.s 1)),
   oo 9 (.len false (.s 8)),
   oo 10 (.bin .neq (.s 7) (.s 9))]))
  (.cond (.s 10)
   (.seq (.h [.kill [0, 1, 10]] (.reg false [oo 4 (.mv (.c (.bool false)))]))
   .ret)
   .skip))
  (.seq (.seq (.h [.clean []] (.h [.kill [10]] (.reg false [oo 5 (.mv (.c (.int .i64 0)))])))
  (.blk 0
   (.loop k_laws_eqNodeS_l14)))
  k_laws_eqNodeS_r10)))⟩

def k_laws_eqDeclS_l14 : K :=
  (.h [.clean []] (.seq (.seq (.h [.kill [11, 12, 13]] (.reg false [oo 11 (.mv (.s 5)),
   oo 12 (.mv (.s 0)),
   oo 13 (.len false (.s 12)),
   oo 14 (.bin .lss (.s 11) (.s 13))]))
  (.cond (.s 14)
   .skip
   (.ex 0)))
  (.seq (.blk 1
   (.seq (.h [.kill [14, 17, 18, 19, 20, 21, 22, 23, 24, 25]] (.reg true [⟨some 17, none, .mv (.s 0), [], []⟩,
    ⟨some 18, none, .mv (.s 5), [], []⟩,
    ⟨some 19, none, .ia 2 (.s 17) (.s 18), [0], []⟩,
    ⟨some 20, none, .ld 2 true (.s 19), [0], []⟩,
    ⟨some 21, none, .mv (.s 1), [], []⟩,
    ⟨some 22, none, .mv (.s 5), [], []⟩,
    ⟨some 23, none, .ia 2 (.s 21) (.s 22), [1], []⟩,
    ⟨some 24, none, .ld 2 true (.s 23), [1], []⟩,
    ⟨some 25, none, .call n_laws_eqDecl [] [] [(.s 20), (.s 24)], [0, 1], []⟩,
    ⟨some 26, none, .un .not (.s 25), [], []⟩]))
   (.cond (.s 26)
    (.seq (.h [.kill [0, 1, 5, 26]] (.reg false [oo 4 (.mv (.c (.bool false)))]))
    .ret)
    .skip)))
  (.h [.kill [15, 16, 26]] (.reg false [oo 15 (.mv (.s 5)),
   oo 16 (.bin .add (.s 15) (.c (.int .i64 1))),
   oo 5 (.mv (.s 16))])))))
def k_laws_eqDeclS_r10 : K :=
  (.seq (.h [.kill [0, 1, 5, 14]] (.reg false [oo 4 (.mv (.c (.bool true)))]))
  .ret)
def k_laws_eqDeclS : F := ⟨27, [.tmp 4],
  (.seq (.h [.kill [4]] (.reg false [oo 4 (.mv (.c (.bool false)))]))
  (.seq (.seq (.h [.kill [6, 7, 8, 9]] (.reg false [oo 6 (.mv (.s 0)),
   oo 7 (.len false (.s 6)),
   oo 8 (.mv (.s 1)),
   oo 9 (.len false (.s 8)),
   oo 10 (.bin .neq (.s 7) (.s 9))]))
  (.cond (.s 10)
   (.seq (.h [.kill [0, 1, 10]] (.reg false [oo 4 (.mv (.c (.bool false)))]))
   .ret)
   .skip))
  (.seq (.seq (.h [.clean []] (.h [.kill [10]] (.reg false [oo 5 (.mv (.c (.int .i64 0)))])))
  (.blk 0
   (.loop k_laws_eqDeclS_l14)))
  k_laws_eqDeclS_r10)))⟩

def k_laws_szStepS_l16 : K :=
  (.h [.clean []] (.seq (.seq (.h [.kill [12, 13, 14]] (.reg false [oo 12 (.mv (.s 5)),
   oo 13 (.mv (.s 0)),
   oo 14 (.len false (.s 13)),
   oo 15 (.bin .lss (.s 12) (.s 14))]))
  (.cond (.s 15)
   .skip
   (.ex 0)))
  (.seq (.blk 1
   (.seq (.h [.kill [15, 18, 19, 20, 21, 22, 23]] (.reg false [oo 18 (.mv (.s 0)),
    oo 19 (.mv (.s 5)),
    oo 20 (.ia 5 (.s 18) (.s 19)),
    oo 21 (.ld 5 true (.s 20)),
    oo 22 (.mv (.s 1)),
    oo 23 (.call n_laws_szStep [] [] [(.s 21), (.s 22)]),
    oo 1 (.mv (.s 23))]))
   (.seq (.h [.kill [24]] (.reg false [oo 24 (.mv (.s 1)),
    oo 25 (.bin .lss (.s 24) (.c (.int .i64 0)))]))
   (.cond (.s 25)
    (.seq (.h [.kill [0, 1, 5, 25]] (.reg false [oo 4 (.mv (.c (.int .i64 (-1))))]))
    .ret)
    .skip))))
  (.h [.kill [16, 17, 25]] (.reg false [oo 16 (.mv (.s 5)),
   oo 17 (.bin .add (.s 16) (.c (.int .i64 1))),
   oo 5 (.mv (.s 17))])))))
def k_laws_szStepS_r12 : K :=
  (.seq (.h [.kill [0, 1, 5, 15, 26]] (.reg false [oo 26 (.mv (.s 1)),
   oo 4 (.mv (.s 26))]))
  .ret)
def k_laws_szStepS : F := ⟨27, [.tmp 4],
  (.seq (.h [.kill [4]] (.reg false [oo 4 (.mv (.c (.int .i64 0)))]))
  (.seq (.h [.kill [6, 7, 8, 9]] (.reg false [oo 6 (.mv (.s 1)),
   oo 7 (.mv (.s 0)),
   oo 8 (.len false (.s 7)),
   oo 9 (.bin .sub (.s 6) (.s 8)),
   oo 1 (.mv (.s 9))]))
  (.seq (.seq (.h [.kill [10]] (.reg false [oo 10 (.mv (.s 1)),
   oo 11 (.bin .lss (.s 10) (.c (.int .i64 0)))]))
  (.cond (.s 11)
   (.seq (.h [.kill [0, 1, 11]] (.reg false [oo 4 (.mv (.c (.int .i64 (-1))))]))
   .ret)
   .skip))
  (.seq (.seq (.h [.clean []] (.h [.kill [11]] (.reg false [oo 5 (.mv (.c (.int .i64 0)))])))
  (.blk 0
   (.loop k_laws_szStepS_l16)))
  k_laws_szStepS_r12))))⟩

def k_laws_szNode : F := ⟨52, [.tmp 4],
  (.seq (.h [.kill [0, 4]] (.reg false [oo 2 (.box (.s 0)),
   oo 4 (.mv (.c (.int .i64 0)))]))
  (.seq (.h [.kill [5, 6, 7, 8, 9]] (.reg false [oo 5 (.mv (.s 1)),
   oo 6 (.fa 1 (.s 2)),
   oo 7 (.ld 1 false (.s 6)),
   oo 8 (.len true (.s 7)),
   oo 9 (.bin .sub (.s 5) (.s 8)),
   oo 1 (.mv (.s 9))]))
  (.seq (.seq (.h [.kill [10]] (.reg false [oo 10 (.mv (.s 1)),
   oo 11 (.bin .lss (.s 10) (.c (.int .i64 0)))]))
  (.cond (.s 11)
   (.seq (.h [.kill [1, 2, 11]] (.reg false [oo 4 (.mv (.c (.int .i64 (-1))))]))
   .ret)
   .skip))
  (.seq (.h [.kill [11, 12, 13, 14, 15, 16]] (.reg false [oo 12 (.mv (.s 1)),
   oo 13 (.fa 2 (.s 2)),
   oo 14 (.ld 1 false (.s 13)),
   oo 15 (.len true (.s 14)),
   oo 16 (.bin .sub (.s 12) (.s 15)),
   oo 1 (.mv (.s 16))]))
  (.seq (.seq (.h [.kill [17]] (.reg false [oo 17 (.mv (.s 1)),
   oo 18 (.bin .lss (.s 17) (.c (.int .i64 0)))]))
  (.cond (.s 18)
   (.seq (.h [.kill [1, 2, 18]] (.reg false [oo 4 (.mv (.c (.int .i64 (-1))))]))
   .ret)
   .skip))
  (.seq (.h [.kill [18, 19, 20, 21, 22, 23]] (.reg false [oo 19 (.mv (.s 1)),
   oo 20 (.fa 3 (.s 2)),
   oo 21 (.ld 1 false (.s 20)),
   oo 22 (.len true (.s 21)),
   oo 23 (.bin .sub (.s 19) (.s 22)),
   oo 1 (.mv (.s 23))]))
  (.seq (.seq (.h [.kill [24]] (.reg false [oo 24 (.mv (.s 1)),
   oo 25 (.bin .lss (.s 24) (.c (.int .i64 0)))]))
  (.cond (.s 25)
   (.seq (.h [.kill [1, 2, 25]] (.reg false [oo 4 (.mv (.c (.int .i64 (-1))))]))
   .ret)
   .skip))
  (.seq (.h [.kill [25, 26, 27, 28, 29]] (.reg false [oo 26 (.fa 4 (.s 2)),
   oo 27 (.ld 1 false (.s 26)),
   oo 28 (.mv (.s 1)),
   oo 29 (.call n_laws_szDeclS [] [] [(.s 27), (.s 28)]),
   oo 1 (.mv (.s 29))]))
  (.seq (.seq (.h [.kill [30]] (.reg false [oo 30 (.mv (.s 1)),
   oo 31 (.bin .lss (.s 30) (.c (.int .i64 0)))]))
  (.cond (.s 31)
   (.seq (.h [.kill [1, 2, 31]] (.reg false [oo 4 (.mv (.c (.int .i64 (-1))))]))
   .ret)
   .skip))
  (.seq (.h [.kill [31, 32, 33, 34, 35]] (.reg false [oo 32 (.fa 5 (.s 2)),
   oo 33 (.ld 1 false (.s 32)),
   oo 34 (.mv (.s 1)),
   oo 35 (.call n_laws_szAttrS [] [] [(.s 33), (.s 34)]),
   oo 1 (.mv (.s 35))]))
  (.seq (.seq (.h [.kill [36]] (.reg false [oo 36 (.mv (.s 1)),
   oo 37 (.bin .lss (.s 36) (.c (.int .i64 0)))]))
  (.cond (.s 37)
   (.seq (.h [.kill [1, 2, 37]] (.reg false [oo 4 (.mv (.c (.int .i64 (-1))))]))
   .ret)
   .skip))
  (.seq (.h [.kill [37, 38, 39, 40, 41]] (.reg false [oo 38 (.fa 6 (.s 2)),
   oo 39 (.ld 1 false (.s 38)),
   oo 40 (.mv (.s 1)),
   oo 41 (.call n_laws_szNodeS [] [] [(.s 39), (.s 40)]),
   oo 1 (.mv (.s 41))]))
  (.seq (.seq (.h [.kill [42]] (.reg false [oo 42 (.mv (.s 1)),
   oo 43 (.bin .lss (.s 42) (.c (.int .i64 0)))]))
  (.cond (.s 43)
   (.seq (.h [.kill [1, 2, 43]] (.reg false [oo 4 (.mv (.c (.int .i64 (-1))))]))
   .ret)
   .skip))
  (.seq (.h [.kill [2, 43, 44, 45, 46, 47, 48]] (.reg false [oo 44 (.mv (.s 1)),
   oo 45 (.fa 7 (.s 2)),
   oo 46 (.ld 1 false (.s 45)),
   oo 47 (.len true (.s 46)),
   oo 48 (.bin .sub (.s 44) (.s 47)),
   oo 1 (.mv (.s 48))]))
  (.seq (.seq (.h [.kill [49]] (.reg false [oo 49 (.mv (.s 1)),
   oo 50 (.bin .lss (.s 49) (.c (.int .i64 0)))]))
  (.cond (.s 50)
   (.seq (.h [.kill [1, 50]] (.reg false [oo 4 (.mv (.c (.int .i64 (-1))))]))
   .ret)
   .skip))
  (.seq (.h [.kill [1, 50, 51]] (.reg false [oo 51 (.mv (.s 1)),
   oo 4 (.mv (.s 51))]))
  .ret))))))))))))))))⟩

def k_laws_szDecl : F := ⟨20, [.tmp 4],
  (.seq (.h [.kill [0, 4]] (.reg false [oo 2 (.box (.s 0)),
   oo 4 (.mv (.c (.int .i64 0)))]))
  (.seq (.h [.kill [5, 6, 7, 8, 9]] (.reg false [oo 5 (.mv (.s 1)),
   oo 6 (.fa 0 (.s 2)),
   oo 7 (.ld 1 false (.s 6)),
   oo 8 (.len true (.s 7)),
   oo 9 (.bin .sub (.s 5) (.s 8)),
   oo 1 (.mv (.s 9))]))
  (.seq (.seq (.h [.kill [10]] (.reg false [oo 10 (.mv (.s 1)),
   oo 11 (.bin .lss (.s 10) (.c (.int .i64 0)))]))
  (.cond (.s 11)
   (.seq (.h [.kill [1, 2, 11]] (.reg false [oo 4 (.mv (.c (.int .i64 (-1))))]))
   .ret)
   .skip))
  (.seq (.h [.kill [2, 11, 12, 13, 14, 15, 16]] (.reg false [oo 12 (.mv (.s 1)),
   oo 13 (.fa 1 (.s 2)),
   oo 14 (.ld 1 false (.s 13)),
   oo 15 (.len true (.s 14)),
   oo 16 (.bin .sub (.s 12) (.s 15)),
   oo 1 (.mv (.s 16))]))
  (.seq (.seq (.h [.kill [17]] (.reg false [oo 17 (.mv (.s 1)),
   oo 18 (.bin .lss (.s 17) (.c (.int .i64 0)))]))
  (.cond (.s 18)
   (.seq (.h [.kill [1, 18]] (.reg false [oo 4 (.mv (.c (.int .i64 (-1))))]))
   .ret)
   .skip))
  (.seq (.h [.kill [1, 18, 19]] (.reg false [oo 19 (.mv (.s 1)),
   oo 4 (.mv (.s 19))]))
  .ret))))))⟩

def k_laws_toStepS_l8 : K :=
  (.h [.clean [20]] (.seq (.seq (.h [.kill [8, 9, 10]] (.reg false [oo 8 (.mv (.s 4)),
   oo 9 (.mv (.s 0)),
   oo 10 (.len false (.s 9)),
   oo 11 (.bin .lss (.s 8) (.s 10))]))
  (.cond (.s 11)
   .skip
   (.ex 0)))
  (.seq (.blk 1
   (.h [.kill [11, 14, 15, 16, 17, 18, 19, 20, 21]] (.reg false [oo 14 (.mv (.s 3)),
    oo 15 (.mv (.s 4)),
    oo 16 (.mv (.s 0)),
    oo 17 (.mv (.s 4)),
    oo 18 (.ia 5 (.s 16) (.s 17)),
    oo 19 (.ld 5 true (.s 18)),
    oo 20 (.call n_laws_toStep [] [true] [(.s 19)]),
    oo 21 (.ia 5 (.s 14) (.s 15)),
    on (.st 5 (.s 21) (.s 20))])))
  (.h [.kill [12, 13]] (.reg false [oo 12 (.mv (.s 4)),
   oo 13 (.bin .add (.s 12) (.c (.int .i64 1))),
   oo 4 (.mv (.s 13))])))))
def k_laws_toStepS_r4 : K :=
  (.seq (.h [.kill [0, 3, 4, 11, 22]] (.reg false [oo 22 (.mv (.s 3)),
   oo 2 (.mv (.s 22))]))
  .ret)
def k_laws_toStepS : F := ⟨23, [.tmp 2],
  (.seq (.h [.kill [2]] (.reg false [oo 2 (.mv (.c (.slice none 0 0)))]))
  (.seq (.h [.kill [5, 6, 7]] (.reg false [oo 5 (.mv (.s 0)),
   oo 6 (.len false (.s 5)),
   oo 7 (.mks [.v (.bool false), .v (.int .i64 0), .v (.string ⟨#[]⟩), .v (.string ⟨#[]⟩), .sl true []] 72 (.s 6)),
   oo 3 (.mv (.s 7))]))
  (.seq (.seq (.h [.clean []] (.reg false [oo 4 (.mv (.c (.int .i64 0)))]))
  (.blk 0
   (.loop k_laws_toStepS_l8)))
  k_laws_toStepS_r4)))⟩

def k_laws_toNode : F := ⟨32, [.cell 2 8 true],
  (.seq (.h [.kill [0]] (.reg false [oo 1 (.box (.s 0)),
   oo 2 (.alloc [.v (.int .i64 0), .v (.string ⟨#[]⟩), .v (.string ⟨#[]⟩), .v (.string ⟨#[]⟩), .sl true [], .sl true [], .sl true [], .v (.string ⟨#[]⟩)])]))
  (.seq (.reg false [oo 3 (.alloc [.v (.int .i64 0), .v (.string ⟨#[]⟩), .v (.string ⟨#[]⟩), .v (.string ⟨#[]⟩), .sl true [], .sl true [], .sl true [], .v (.string ⟨#[]⟩)])])
  (.seq (.h [.kill [4, 5, 6]] (.reg false [oo 4 (.fa 0 (.s 1)),
   oo 5 (.ld 1 false (.s 4)),
   oo 6 (.fa 0 (.s 3)),
   on (.st 1 (.s 6) (.s 5))]))
  (.seq (.h [.kill [7, 8, 9]] (.reg false [oo 7 (.fa 1 (.s 1)),
   oo 8 (.ld 1 false (.s 7)),
   oo 9 (.fa 1 (.s 3)),
   on (.st 1 (.s 9) (.s 8))]))
  (.seq (.h [.kill [10, 11, 12]] (.reg false [oo 10 (.fa 2 (.s 1)),
   oo 11 (.ld 1 false (.s 10)),
   oo 12 (.fa 2 (.s 3)),
   on (.st 1 (.s 12) (.s 11))]))
  (.seq (.h [.kill [13, 14, 15]] (.reg false [oo 13 (.fa 3 (.s 1)),
   oo 14 (.ld 1 false (.s 13)),
   oo 15 (.fa 3 (.s 3)),
   on (.st 1 (.s 15) (.s 14))]))
  (.seq (.h [.kill [16, 17, 18, 19]] (.reg false [oo 16 (.fa 4 (.s 1)),
   oo 17 (.ld 1 false (.s 16)),
   oo 18 (.call n_laws_toDeclS [] [true] [(.s 17)]),
   oo 19 (.fa 4 (.s 3)),
   on (.st 1 (.s 19) (.s 18))]))
  (.seq (.h [.kill [20, 21, 22, 23]] (.reg false [oo 20 (.fa 5 (.s 1)),
   oo 21 (.ld 1 false (.s 20)),
   oo 22 (.call n_laws_toAttrS [] [true] [(.s 21)]),
   oo 23 (.fa 5 (.s 3)),
   on (.st 1 (.s 23) (.s 22))]))
  (.seq (.h [.kill [24, 25, 26, 27]] (.reg false [oo 24 (.fa 6 (.s 1)),
   oo 25 (.ld 1 false (.s 24)),
   oo 26 (.call n_laws_toNodeS [] [true] [(.s 25)]),
   oo 27 (.fa 6 (.s 3)),
   on (.st 1 (.s 27) (.s 26))]))
  (.seq (.h [.kill [1, 28, 29, 30]] (.reg false [oo 28 (.fa 7 (.s 1)),
   oo 29 (.ld 1 false (.s 28)),
   oo 30 (.fa 7 (.s 3)),
   on (.st 1 (.s 30) (.s 29))]))
  (.seq (.h [.kill [3, 31]] (.reg false [oo 31 (.ld 8 true (.s 3)),
   on (.st 8 (.s 2) (.s 31))]))
  .ret)))))))))))⟩

def k_laws_toDecl : F := ⟨11, [.cell 2 2 true],
  (.seq (.h [.kill [0]] (.reg false [oo 1 (.box (.s 0)),
   oo 2 (.alloc [.v (.string ⟨#[]⟩), .v (.string ⟨#[]⟩)])]))
  (.seq (.reg false [oo 3 (.alloc [.v (.string ⟨#[]⟩), .v (.string ⟨#[]⟩)])])
  (.seq (.h [.kill [4, 5, 6]] (.reg false [oo 4 (.fa 0 (.s 1)),
   oo 5 (.ld 1 false (.s 4)),
   oo 6 (.fa 0 (.s 3)),
   on (.st 1 (.s 6) (.s 5))]))
  (.seq (.h [.kill [1, 7, 8, 9]] (.reg false [oo 7 (.fa 1 (.s 1)),
   oo 8 (.ld 1 false (.s 7)),
   oo 9 (.fa 1 (.s 3)),
   on (.st 1 (.s 9) (.s 8))]))
  (.seq (.h [.kill [3, 10]] (.reg false [oo 10 (.ld 2 true (.s 3)),
   on (.st 2 (.s 2) (.s 10))]))
  .ret)))))⟩

def k_laws_eqStepS_l14 : K :=
  (.h [.clean []] (.seq (.seq (.h [.kill [11, 12, 13]] (.reg false [oo 11 (.mv (.s 5)),
   oo 12 (.mv (.s 0)),
   oo 13 (.len false (.s 12)),
   oo 14 (.bin .lss (.s 11) (.s 13))]))
  (.cond (.s 14)
   .skip
   (.ex 0)))
  (.seq (.blk 1
   (.seq (.h [.kill [14, 17, 18, 19, 20, 21, 22, 23, 24, 25]] (.reg true [⟨some 17, none, .mv (.s 0), [], []⟩,
    ⟨some 18, none, .mv (.s 5), [], []⟩,
    ⟨some 19, none, .ia 5 (.s 17) (.s 18), [0], []⟩,
    ⟨some 20, none, .ld 5 true (.s 19), [0], []⟩,
    ⟨some 21, none, .mv (.s 1), [], []⟩,
    ⟨some 22, none, .mv (.s 5), [], []⟩,
    ⟨some 23, none, .ia 5 (.s 21) (.s 22), [1], []⟩,
    ⟨some 24, none, .ld 5 true (.s 23), [1], []⟩,
    ⟨some 25, none, .call n_laws_eqStep [] [] [(.s 20), (.s 24)], [0, 1], []⟩,
    ⟨some 26, none, .un .not (.s 25), [], []⟩]))
   (.cond (.s 26)
    (.seq (.h [.kill [0, 1, 5, 26]] (.reg false [oo 4 (.mv (.c (.bool false)))]))
    .ret)
    .skip)))
  (.h [.kill [15, 16, 26]] (.reg false [oo 15 (.mv (.s 5)),
   oo 16 (.bin .add (.s 15) (.c (.int .i64 1))),
   oo 5 (.mv (.s 16))])))))
def k_laws_eqStepS_r10 : K :=
  (.seq (.h [.kill [0, 1, 5, 14]] (.reg false [oo 4 (.mv (.c (.bool true)))]))
  .ret)
def k_laws_eqStepS : F := ⟨27, [.tmp 4],
  (.seq (.h [.kill [4]] (.reg false [oo 4 (.mv (.c (.bool false)))]))
  (.seq (.seq (.h [.kill [6, 7, 8, 9]] (.reg false [oo 6 (.mv (.s 0)),
   oo 7 (.len false (.s 6)),
   oo 8 (.mv (.s 1)),
   oo 9 (.len false (.s 8)),
   oo 10 (.bin .neq (.s 7) (.s 9))]))
  (.cond (.s 10)
   (.seq (.h [.kill [0, 1, 10]] (.reg false [oo 4 (.mv (.c (.bool false)))]))
   .ret)
   .skip))
  (.seq (.seq (.h [.clean []] (.h [.kill [10]] (.reg false [oo 5 (.mv (.c (.int .i64 0)))])))
  (.blk 0
   (.loop k_laws_eqStepS_l14)))
  k_laws_eqStepS_r10)))⟩

def k_laws_eqNode : F := ⟨48, [.tmp 4],
  (.seq (.h [.kill [0, 1, 4]] (.reg false [oo 2 (.box (.s 0)),
   oo 3 (.box (.s 1)),
   oo 4 (.mv (.c (.bool false)))]))
  (.seq (.seq (.h [.kill [5, 6, 7, 8]] (.reg false [oo 5 (.fa 0 (.s 2)),
   oo 6 (.ld 1 false (.s 5)),
   oo 7 (.fa 0 (.s 3)),
   oo 8 (.ld 1 false (.s 7)),
   oo 9 (.bin .neq (.s 6) (.s 8))]))
  (.cond (.s 9)
   (.seq (.h [.kill [2, 3, 9]] (.reg false [oo 4 (.mv (.c (.bool false)))]))
   .ret)
   .skip))
  (.seq (.seq (.h [.kill [9, 10, 11, 12, 13]] (.reg false [oo 10 (.fa 1 (.s 2)),
   oo 11 (.ld 1 false (.s 10)),
   oo 12 (.fa 1 (.s 3)),
   oo 13 (.ld 1 false (.s 12)),
   oo 14 (.bin .neq (.s 11) (.s 13))]))
  (.cond (.s 14)
   (.seq (.h [.kill [2, 3, 14]] (.reg false [oo 4 (.mv (.c (.bool false)))]))
   .ret)
   .skip))
  (.seq (.seq (.h [.kill [14, 15, 16, 17, 18]] (.reg false [oo 15 (.fa 2 (.s 2)),
   oo 16 (.ld 1 false (.s 15)),
   oo 17 (.fa 2 (.s 3)),
   oo 18 (.ld 1 false (.s 17)),
   oo 19 (.bin .neq (.s 16) (.s 18))]))
  (.cond (.s 19)
   (.seq (.h [.kill [2, 3, 19]] (.reg false [oo 4 (.mv (.c (.bool false)))]))
   .ret)
   .skip))
  (.seq (.seq (.h [.kill [19, 20, 21, 22, 23]] (.reg false [oo 20 (.fa 3 (.s 2)),
   oo 21 (.ld 1 false (.s 20)),
   oo 22 (.fa 3 (.s 3)),
   oo 23 (.ld 1 false (.s 22)),
   oo 24 (.bin .neq (.s 21) (.s 23))]))
  (.cond (.s 24)
   (.seq (.h [.kill [2, 3, 24]] (.reg false [oo 4 (.mv (.c (.bool false)))]))
   .ret)
   .skip))
  (.seq (.seq (.h [.kill [24, 25, 26, 27, 28, 29]] (.reg false [oo 25 (.fa 4 (.s 2)),
   oo 26 (.ld 1 false (.s 25)),
   oo 27 (.fa 4 (.s 3)),
   oo 28 (.ld 1 false (.s 27)),
   oo 29 (.call n_laws_eqDeclS [] [] [(.s 26), (.s 28)]),
   oo 30 (.un .not (.s 29))]))
  (.cond (.s 30)
   (.seq (.h [.kill [2, 3, 30]] (.reg false [oo 4 (.mv (.c (.bool false)))]))
   .ret)
   .skip))
  (.seq (.seq (.h [.kill [30, 31, 32, 33, 34, 35]] (.reg false [oo 31 (.fa 5 (.s 2)),
   oo 32 (.ld 1 false (.s 31)),
   oo 33 (.fa 5 (.s 3)),
   oo 34 (.ld 1 false (.s 33)),
   oo 35 (.call n_laws_eqAttrS [] [] [(.s 32), (.s 34)]),
   oo 36 (.un .not (.s 35))]))
  (.cond (.s 36)
   (.seq (.h [.kill [2, 3, 36]] (.reg false [oo 4 (.mv (.c (.bool false)))]))
   .ret)
   .skip))
  (.seq (.seq (.h [.kill [36, 37, 38, 39, 40, 41]] (.reg false [oo 37 (.fa 6 (.s 2)),
   oo 38 (.ld 1 false (.s 37)),
   oo 39 (.fa 6 (.s 3)),
   oo 40 (.ld 1 false (.s 39)),
   oo 41 (.call n_laws_eqNodeS [] [] [(.s 38), (.s 40)]),
   oo 42 (.un .not (.s 41))]))
  (.cond (.s 42)
   (.seq (.h [.kill [2, 3, 42]] (.reg false [oo 4 (.mv (.c (.bool false)))]))
   .ret)
   .skip))
  (.seq (.seq (.h [.kill [2, 3, 42, 43, 44, 45, 46]] (.reg false [oo 43 (.fa 7 (.s 2)),
   oo 44 (.ld 1 false (.s 43)),
   oo 45 (.fa 7 (.s 3)),
   oo 46 (.ld 1 false (.s 45)),
   oo 47 (.bin .neq (.s 44) (.s 46))]))
  (.cond (.s 47)
   (.seq (.h [.kill [47]] (.reg false [oo 4 (.mv (.c (.bool false)))]))
   .ret)
   .skip))
  (.seq (.h [.kill [47]] (.reg false [oo 4 (.mv (.c (.bool true)))]))
  .ret))))))))))⟩

def k_laws_eqDecl : F := ⟨15, [.tmp 4],
  (.seq (.h [.kill [0, 1, 4]] (.reg false [oo 2 (.box (.s 0)),
   oo 3 (.box (.s 1)),
   oo 4 (.mv (.c (.bool false)))]))
  (.seq (.seq (.h [.kill [5, 6, 7, 8]] (.reg false [oo 5 (.fa 0 (.s 2)),
   oo 6 (.ld 1 false (.s 5)),
   oo 7 (.fa 0 (.s 3)),
   oo 8 (.ld 1 false (.s 7)),
   oo 9 (.bin .neq (.s 6) (.s 8))]))
  (.cond (.s 9)
   (.seq (.h [.kill [2, 3, 9]] (.reg false [oo 4 (.mv (.c (.bool false)))]))
   .ret)
   .skip))
  (.seq (.seq (.h [.kill [2, 3, 9, 10, 11, 12, 13]] (.reg false [oo 10 (.fa 1 (.s 2)),
   oo 11 (.ld 1 false (.s 10)),
   oo 12 (.fa 1 (.s 3)),
   oo 13 (.ld 1 false (.s 12)),
   oo 14 (.bin .neq (.s 11) (.s 13))]))
  (.cond (.s 14)
   (.seq (.h [.kill [14]] (.reg false [oo 4 (.mv (.c (.bool false)))]))
   .ret)
   .skip))
  (.seq (.h [.kill [14]] (.reg false [oo 4 (.mv (.c (.bool true)))]))
  .ret))))⟩

def k_laws_szStep : F := ⟨26, [.tmp 4],
  (.seq (.h [.kill [0, 4]] (.reg false [oo 2 (.box (.s 0)),
   oo 4 (.mv (.c (.int .i64 0)))]))
  (.seq (.h [.kill [5, 6, 7, 8, 9]] (.reg false [oo 5 (.mv (.s 1)),
   oo 6 (.fa 2 (.s 2)),
   oo 7 (.ld 1 false (.s 6)),
   oo 8 (.len true (.s 7)),
   oo 9 (.bin .sub (.s 5) (.s 8)),
   oo 1 (.mv (.s 9))]))
  (.seq (.seq (.h [.kill [10]] (.reg false [oo 10 (.mv (.s 1)),
   oo 11 (.bin .lss (.s 10) (.c (.int .i64 0)))]))
  (.cond (.s 11)
   (.seq (.h [.kill [1, 2, 11]] (.reg false [oo 4 (.mv (.c (.int .i64 (-1))))]))
   .ret)
   .skip))
  (.seq (.h [.kill [11, 12, 13, 14, 15, 16]] (.reg false [oo 12 (.mv (.s 1)),
   oo 13 (.fa 3 (.s 2)),
   oo 14 (.ld 1 false (.s 13)),
   oo 15 (.len true (.s 14)),
   oo 16 (.bin .sub (.s 12) (.s 15)),
   oo 1 (.mv (.s 16))]))
  (.seq (.seq (.h [.kill [17]] (.reg false [oo 17 (.mv (.s 1)),
   oo 18 (.bin .lss (.s 17) (.c (.int .i64 0)))]))
  (.cond (.s 18)
   (.seq (.h [.kill [1, 2, 18]] (.reg false [oo 4 (.mv (.c (.int .i64 (-1))))]))
   .ret)
   .skip))
  (.seq (.h [.kill [2, 18, 19, 20, 21, 22]] (.reg false [oo 19 (.fa 4 (.s 2)),
   oo 20 (.ld 1 false (.s 19)),
   oo 21 (.mv (.s 1)),
   oo 22 (.call n_laws_szPredS [] [] [(.s 20), (.s 21)]),
   oo 1 (.mv (.s 22))]))
  (.seq (.seq (.h [.kill [23]] (.reg false [oo 23 (.mv (.s 1)),
   oo 24 (.bin .lss (.s 23) (.c (.int .i64 0)))]))
  (.cond (.s 24)
   (.seq (.h [.kill [1, 24]] (.reg false [oo 4 (.mv (.c (.int .i64 (-1))))]))
   .ret)
   .skip))
  (.seq (.h [.kill [1, 24, 25]] (.reg false [oo 25 (.mv (.s 1)),
   oo 4 (.mv (.s 25))]))
  .ret))))))))⟩

def k_laws_szAttrS_l16 : K :=
  (.h [.clean []] (.seq (.seq (.h [.kill [12, 13, 14]] (.reg false [oo 12 (.mv (.s 5)),
   oo 13 (.mv (.s 0)),
   oo 14 (.len false (.s 13)),
   oo 15 (.bin .lss (.s 12) (.s 14))]))
  (.cond (.s 15)
   .skip
   (.ex 0)))
  (.seq (.blk 1
   (.seq (.h [.kill [15, 18, 19, 20, 21, 22, 23]] (.reg false [oo 18 (.mv (.s 0)),
    oo 19 (.mv (.s 5)),
    oo 20 (.ia 4 (.s 18) (.s 19)),
    oo 21 (.ld 4 true (.s 20)),
    oo 22 (.mv (.s 1)),
    oo 23 (.call n_laws_szAttr [] [] [(.s 21), (.s 22)]),
    oo 1 (.mv (.s 23))]))
   (.seq (.h [.kill [24]] (.reg false [oo 24 (.mv (.s 1)),
    oo 25 (.bin .lss (.s 24) (.c (.int .i64 0)))]))
   (.cond (.s 25)
    (.seq (.h [.kill [0, 1, 5, 25]] (.reg false [oo 4 (.mv (.c (.int .i64 (-1))))]))
    .ret)
    .skip))))
  (.h [.kill [16, 17, 25]] (.reg false [oo 16 (.mv (.s 5)),
   oo 17 (.bin .add (.s 16) (.c (.int .i64 1))),
   oo 5 (.mv (.s 17))])))))
def k_laws_szAttrS_r12 : K :=
  (.seq (.h [.kill [0, 1, 5, 15, 26]] (.reg false [oo 26 (.mv (.s 1)),
   oo 4 (.mv (.s 26))]))
  .ret)
def k_laws_szAttrS : F := ⟨27, [.tmp 4],
  (.seq (.h [.kill [4]] (.reg false [oo 4 (.mv (.c (.int .i64 0)))]))
  (.seq (.h [.kill [6, 7, 8, 9]] (.reg false [oo 6 (.mv (.s 1)),
   oo 7 (.mv (.s 0)),
   oo 8 (.len false (.s 7)),
   oo 9 (.bin .sub (.s 6) (.s 8)),
   oo 1 (.mv (.s 9))]))
  (.seq (.seq (.h [.kill [10]] (.reg false [oo 10 (.mv (.s 1)),
   oo 11 (.bin .lss (.s 10) (.c (.int .i64 0)))]))
  (.cond (.s 11)
   (.seq (.h [.kill [0, 1, 11]] (.reg false [oo 4 (.mv (.c (.int .i64 (-1))))]))
   .ret)
   .skip))
  (.seq (.seq (.h [.clean []] (.h [.kill [11]] (.reg false [oo 5 (.mv (.c (.int .i64 0)))])))
  (.blk 0
   (.loop k_laws_szAttrS_l16)))
  k_laws_szAttrS_r12))))⟩

def k_laws_toStep : F := ⟨21, [.cell 2 5 true],
  (.seq (.h [.kill [0]] (.reg false [oo 1 (.box (.s 0)),
   oo 2 (.alloc [.v (.bool false), .v (.int .i64 0), .v (.string ⟨#[]⟩), .v (.string ⟨#[]⟩), .sl true []])]))
  (.seq (.reg false [oo 3 (.alloc [.v (.bool false), .v (.int .i64 0), .v (.string ⟨#[]⟩), .v (.string ⟨#[]⟩), .sl true []])])
  (.seq (.h [.kill [4, 5, 6]] (.reg false [oo 4 (.fa 0 (.s 1)),
   oo 5 (.ld 1 false (.s 4)),
   oo 6 (.fa 0 (.s 3)),
   on (.st 1 (.s 6) (.s 5))]))
  (.seq (.h [.kill [7, 8, 9]] (.reg false [oo 7 (.fa 1 (.s 1)),
   oo 8 (.ld 1 false (.s 7)),
   oo 9 (.fa 1 (.s 3)),
   on (.st 1 (.s 9) (.s 8))]))
  (.seq (.h [.kill [10, 11, 12]] (.reg false [oo 10 (.fa 2 (.s 1)),
   oo 11 (.ld 1 false (.s 10)),
   oo 12 (.fa 2 (.s 3)),
   on (.st 1 (.s 12) (.s 11))]))
  (.seq (.h [.kill [13, 14, 15]] (.reg false [oo 13 (.fa 3 (.s 1)),
   oo 14 (.ld 1 false (.s 13)),
   oo 15 (.fa 3 (.s 3)),
   on (.st 1 (.s 15) (.s 14))]))
  (.seq (.h [.kill [1, 16, 17, 18, 19]] (.reg false [oo 16 (.fa 4 (.s 1)),
   oo 17 (.ld 1 false (.s 16)),
   oo 18 (.call n_laws_toPredS [] [true] [(.s 17)]),
   oo 19 (.fa 4 (.s 3)),
   on (.st 1 (.s 19) (.s 18))]))
  (.seq (.h [.kill [3, 20]] (.reg false [oo 20 (.ld 5 true (.s 3)),
   on (.st 5 (.s 2) (.s 20))]))
  .ret))))))))⟩

def k_laws_toAttrS_l8 : K :=
  (.h [.clean []] (.seq (.seq (.h [.kill [8, 9, 10]] (.reg false [oo 8 (.mv (.s 4)),
   oo 9 (.mv (.s 0)),
   oo 10 (.len false (.s 9)),
   oo 11 (.bin .lss (.s 8) (.s 10))]))
  (.cond (.s 11)
   .skip
   (.ex 0)))
  (.seq (.blk 1
   (.h [.kill [11, 14, 15, 16, 17, 18, 19, 20, 21]] (.reg false [oo 14 (.mv (.s 3)),
    oo 15 (.mv (.s 4)),
    oo 16 (.mv (.s 0)),
    oo 17 (.mv (.s 4)),
    oo 18 (.ia 4 (.s 16) (.s 17)),
    oo 19 (.ld 4 true (.s 18)),
    oo 20 (.call n_laws_toAttr [] [] [(.s 19)]),
    oo 21 (.ia 4 (.s 14) (.s 15)),
    on (.st 4 (.s 21) (.s 20))])))
  (.h [.kill [12, 13]] (.reg false [oo 12 (.mv (.s 4)),
   oo 13 (.bin .add (.s 12) (.c (.int .i64 1))),
   oo 4 (.mv (.s 13))])))))
def k_laws_toAttrS_r4 : K :=
  (.seq (.h [.kill [0, 3, 4, 11, 22]] (.reg false [oo 22 (.mv (.s 3)),
   oo 2 (.mv (.s 22))]))
  .ret)
def k_laws_toAttrS : F := ⟨23, [.tmp 2],
  (.seq (.h [.kill [2]] (.reg false [oo 2 (.mv (.c (.slice none 0 0)))]))
  (.seq (.h [.kill [5, 6, 7]] (.reg false [oo 5 (.mv (.s 0)),
   oo 6 (.len false (.s 5)),
   oo 7 (.mks [.v (.string ⟨#[]⟩), .v (.string ⟨#[]⟩), .v (.string ⟨#[]⟩), .v (.string ⟨#[]⟩)] 64 (.s 6)),
   oo 3 (.mv (.s 7))]))
  (.seq (.seq (.h [.clean []] (.reg false [oo 4 (.mv (.c (.int .i64 0)))]))
  (.blk 0
   (.loop k_laws_toAttrS_l8)))
  k_laws_toAttrS_r4)))⟩

def k_laws_eqStep : F := ⟨31, [.tmp 4],
  (.seq (.h [.kill [0, 1, 4]] (.reg false [oo 2 (.box (.s 0)),
   oo 3 (.box (.s 1)),
   oo 4 (.mv (.c (.bool false)))]))
  (.seq (.seq (.h [.kill [5, 6, 7, 8]] (.reg false [oo 5 (.fa 0 (.s 2)),
   oo 6 (.ld 1 false (.s 5)),
   oo 7 (.fa 0 (.s 3)),
   oo 8 (.ld 1 false (.s 7)),
   oo 9 (.beq true (.s 6) (.s 8))]))
  (.cond (.s 9)
   (.seq (.h [.kill [2, 3, 9]] (.reg false [oo 4 (.mv (.c (.bool false)))]))
   .ret)
   .skip))
  (.seq (.seq (.h [.kill [9, 10, 11, 12, 13]] (.reg false [oo 10 (.fa 1 (.s 2)),
   oo 11 (.ld 1 false (.s 10)),
   oo 12 (.fa 1 (.s 3)),
   oo 13 (.ld 1 false (.s 12)),
   oo 14 (.bin .neq (.s 11) (.s 13))]))
  (.cond (.s 14)
   (.seq (.h [.kill [2, 3, 14]] (.reg false [oo 4 (.mv (.c (.bool false)))]))
   .ret)
   .skip))
  (.seq (.seq (.h [.kill [14, 15, 16, 17, 18]] (.reg false [oo 15 (.fa 2 (.s 2)),
   oo 16 (.ld 1 false (.s 15)),
   oo 17 (.fa 2 (.s 3)),
   oo 18 (.ld 1 false (.s 17)),
   oo 19 (.bin .neq (.s 16) (.s 18))]))
  (.cond (.s 19)
   (.seq (.h [.kill [2, 3, 19]] (.reg false [oo 4 (.mv (.c (.bool false)))]))
   .ret)
   .skip))
  (.seq (.seq (.h [.kill [19, 20, 21, 22, 23]] (.reg false [oo 20 (.fa 3 (.s 2)),
   oo 21 (.ld 1 false (.s 20)),
   oo 22 (.fa 3 (.s 3)),
   oo 23 (.ld 1 false (.s 22)),
   oo 24 (.bin .neq (.s 21) (.s 23))]))
  (.cond (.s 24)
   (.seq (.h [.kill [2, 3, 24]] (.reg false [oo 4 (.mv (.c (.bool false)))]))
   .ret)
   .skip))
  (.seq (.seq (.h [.kill [2, 3, 24, 25, 26, 27, 28, 29]] (.reg false [oo 25 (.fa 4 (.s 2)),
   oo 26 (.ld 1 false (.s 25)),
   oo 27 (.fa 4 (.s 3)),
   oo 28 (.ld 1 false (.s 27)),
   oo 29 (.call n_laws_eqPredS [] [] [(.s 26), (.s 28)]),
   oo 30 (.un .not (.s 29))]))
  (.cond (.s 30)
   (.seq (.h [.kill [30]] (.reg false [oo 4 (.mv (.c (.bool false)))]))
   .ret)
   .skip))
  (.seq (.h [.kill [30]] (.reg false [oo 4 (.mv (.c (.bool true)))]))
  .ret)))))))⟩

def k_laws_eqAttrS_l14 : K :=
  (.h [.clean []] (.seq (.seq (.h [.kill [11, 12, 13]] (.reg false [oo 11 (.mv (.s 5)),
   oo 12 (.mv (.s 0)),
   oo 13 (.len false (.s 12)),
   oo 14 (.bin .lss (.s 11) (.s 13))]))
  (.cond (.s 14)
   .skip
   (.ex 0)))
  (.seq (.blk 1
   (.seq (.h [.kill [14, 17, 18, 19, 20, 21, 22, 23, 24, 25]] (.reg true [⟨some 17, none, .mv (.s 0), [], []⟩,
    ⟨some 18, none, .mv (.s 5), [], []⟩,
    ⟨some 19, none, .ia 4 (.s 17) (.s 18), [0], []⟩,
    ⟨some 20, none, .ld 4 true (.s 19), [0], []⟩,
    ⟨some 21, none, .mv (.s 1), [], []⟩,
    ⟨some 22, none, .mv (.s 5), [], []⟩,
    ⟨some 23, none, .ia 4 (.s 21) (.s 22), [1], []⟩,
    ⟨some 24, none, .ld 4 true (.s 23), [1], []⟩,
    ⟨some 25, none, .call n_laws_eqAttr [] [] [(.s 20), (.s 24)], [0, 1], []⟩,
    ⟨some 26, none, .un .not (.s 25), [], []⟩]))
   (.cond (.s 26)
    (.seq (.h [.kill [0, 1, 5, 26]] (.reg false [oo 4 (.mv (.c (.bool false)))]))
    .ret)
    .skip)))
  (.h [.kill [15, 16, 26]] (.reg false [oo 15 (.mv (.s 5)),
   oo 16 (.bin .add (.s 15) (.c (.int .i64 1))),
   oo 5 (.mv (.s 16))])))))
def k_laws_eqAttrS_r10 : K :=
  (.seq (.h [.kill [0, 1, 5, 14]] (.reg false [oo 4 (.mv (.c (.bool true)))]))
  .ret)
def k_laws_eqAttrS : F := ⟨27, [.tmp 4],
  (.seq (.h [.kill [4]] (.reg false [oo 4 (.mv (.c (.bool false)))]))
  (.seq (.seq (.h [.kill [6, 7, 8, 9]] (.reg false [oo 6 (.mv (.s 0)),
   oo 7 (.len false (.s 6)),
   oo 8 (.mv (.s 1)),
   oo 9 (.len false (.s 8)),
   oo 10 (.bin .neq (.s 7) (.s 9))]))
  (.cond (.s 10)
   (.seq (.h [.kill [0, 1, 10]] (.reg false [oo 4 (.mv (.c (.bool false)))]))
   .ret)
   .skip))
  (.seq (.seq (.h [.clean []] (.h [.kill [10]] (.reg false [oo 5 (.mv (.c (.int .i64 0)))])))
  (.blk 0
   (.loop k_laws_eqAttrS_l14)))
  k_laws_eqAttrS_r10)))⟩

def k_laws_szPredS_l16 : K :=
  (.h [.clean []] (.seq (.seq (.h [.kill [12, 13, 14]] (.reg false [oo 12 (.mv (.s 5)),
   oo 13 (.mv (.s 0)),
   oo 14 (.len false (.s 13)),
   oo 15 (.bin .lss (.s 12) (.s 14))]))
  (.cond (.s 15)
   .skip
   (.ex 0)))
  (.seq (.blk 1
   (.seq (.h [.kill [15, 18, 19, 20, 21, 22, 23]] (.reg false [oo 18 (.mv (.s 0)),
    oo 19 (.mv (.s 5)),
    oo 20 (.ia 5 (.s 18) (.s 19)),
    oo 21 (.ld 5 true (.s 20)),
    oo 22 (.mv (.s 1)),
    oo 23 (.call n_laws_szPred [] [] [(.s 21), (.s 22)]),
    oo 1 (.mv (.s 23))]))
   (.seq (.h [.kill [24]] (.reg false [oo 24 (.mv (.s 1)),
    oo 25 (.bin .lss (.s 24) (.c (.int .i64 0)))]))
   (.cond (.s 25)
    (.seq (.h [.kill [0, 1, 5, 25]] (.reg false [oo 4 (.mv (.c (.int .i64 (-1))))]))
    .ret)
    .skip))))
  (.h [.kill [16, 17, 25]] (.reg false [oo 16 (.mv (.s 5)),
   oo 17 (.bin .add (.s 16) (.c (.int .i64 1))),
   oo 5 (.mv (.s 17))])))))
def k_laws_szPredS_r12 : K :=
  (.seq (.h [.kill [0, 1, 5, 15, 26]] (.reg false [oo 26 (.mv (.s 1)),
   oo 4 (.mv (.s 26))]))
  .ret)
def k_laws_szPredS : F := ⟨27, [.tmp 4],
  (.seq (.h [.kill [4]] (.reg false [oo 4 (.mv (.c (.int .i64 0)))]))
  (.seq (.h [.kill [6, 7, 8, 9]] (.reg false [oo 6 (.mv (.s 1)),
   oo 7 (.mv (.s 0)),
   oo 8 (.len false (.s 7)),
   oo 9 (.bin .sub (.s 6) (.s 8)),
   oo 1 (.mv (.s 9))]))
  (.seq (.seq (.h [.kill [10]] (.reg false [oo 10 (.mv (.s 1)),
   oo 11 (.bin .lss (.s 10) (.c (.int .i64 0)))]))
  (.cond (.s 11)
   (.seq (.h [.kill [0, 1, 11]] (.reg false [oo 4 (.mv (.c (.int .i64 (-1))))]))
   .ret)
   .skip))
  (.seq (.seq (.h [.clean []] (.h [.kill [11]] (.reg false [oo 5 (.mv (.c (.int .i64 0)))])))
  (.blk 0
   (.loop k_laws_szPredS_l16)))
  k_laws_szPredS_r12))))⟩

def k_laws_szAttr : F := ⟨34, [.tmp 4],
  (.seq (.h [.kill [0, 4]] (.reg false [oo 2 (.box (.s 0)),
   oo 4 (.mv (.c (.int .i64 0)))]))
  (.seq (.h [.kill [5, 6, 7, 8, 9]] (.reg false [oo 5 (.mv (.s 1)),
   oo 6 (.fa 0 (.s 2)),
   oo 7 (.ld 1 false (.s 6)),
   oo 8 (.len true (.s 7)),
   oo 9 (.bin .sub (.s 5) (.s 8)),
   oo 1 (.mv (.s 9))]))
  (.seq (.seq (.h [.kill [10]] (.reg false [oo 10 (.mv (.s 1)),
   oo 11 (.bin .lss (.s 10) (.c (.int .i64 0)))]))
  (.cond (.s 11)
   (.seq (.h [.kill [1, 2, 11]] (.reg false [oo 4 (.mv (.c (.int .i64 (-1))))]))
   .ret)
   .skip))
  (.seq (.h [.kill [11, 12, 13, 14, 15, 16]] (.reg false [oo 12 (.mv (.s 1)),
   oo 13 (.fa 1 (.s 2)),
   oo 14 (.ld 1 false (.s 13)),
   oo 15 (.len true (.s 14)),
   oo 16 (.bin .sub (.s 12) (.s 15)),
   oo 1 (.mv (.s 16))]))
  (.seq (.seq (.h [.kill [17]] (.reg false [oo 17 (.mv (.s 1)),
   oo 18 (.bin .lss (.s 17) (.c (.int .i64 0)))]))
  (.cond (.s 18)
   (.seq (.h [.kill [1, 2, 18]] (.reg false [oo 4 (.mv (.c (.int .i64 (-1))))]))
   .ret)
   .skip))
  (.seq (.h [.kill [18, 19, 20, 21, 22, 23]] (.reg false [oo 19 (.mv (.s 1)),
   oo 20 (.fa 2 (.s 2)),
   oo 21 (.ld 1 false (.s 20)),
   oo 22 (.len true (.s 21)),
   oo 23 (.bin .sub (.s 19) (.s 22)),
   oo 1 (.mv (.s 23))]))
  (.seq (.seq (.h [.kill [24]] (.reg false [oo 24 (.mv (.s 1)),
   oo 25 (.bin .lss (.s 24) (.c (.int .i64 0)))]))
  (.cond (.s 25)
   (.seq (.h [.kill [1, 2, 25]] (.reg false [oo 4 (.mv (.c (.int .i64 (-1))))]))
   .ret)
   .skip))
  (.seq (.h [.kill [2, 25, 26, 27, 28, 29, 30]] (.reg false [oo 26 (.mv (.s 1)),
   oo 27 (.fa 3 (.s 2)),
   oo 28 (.ld 1 false (.s 27)),
   oo 29 (.len true (.s 28)),
   oo 30 (.bin .sub (.s 26) (.s 29)),
   oo 1 (.mv (.s 30))]))
  (.seq (.seq (.h [.kill [31]] (.reg false [oo 31 (.mv (.s 1)),
   oo 32 (.bin .lss (.s 31) (.c (.int .i64 0)))]))
  (.cond (.s 32)
   (.seq (.h [.kill [1, 32]] (.reg false [oo 4 (.mv (.c (.int .i64 (-1))))]))
   .ret)
   .skip))
  (.seq (.h [.kill [1, 32, 33]] (.reg false [oo 33 (.mv (.s 1)),
   oo 4 (.mv (.s 33))]))
  .ret))))))))))⟩

def k_laws_toPredS_l8 : K :=
  (.h [.clean []] (.seq (.seq (.h [.kill [8, 9, 10]] (.reg false [oo 8 (.mv (.s 4)),
   oo 9 (.mv (.s 0)),
   oo 10 (.len false (.s 9)),
   oo 11 (.bin .lss (.s 8) (.s 10))]))
  (.cond (.s 11)
   .skip
   (.ex 0)))
  (.seq (.blk 1
   (.h [.kill [11, 14, 15, 16, 17, 18, 19, 20, 21]] (.reg false [oo 14 (.mv (.s 3)),
    oo 15 (.mv (.s 4)),
    oo 16 (.mv (.s 0)),
    oo 17 (.mv (.s 4)),
    oo 18 (.ia 5 (.s 16) (.s 17)),
    oo 19 (.ld 5 true (.s 18)),
    oo 20 (.call n_laws_toPred [] [] [(.s 19)]),
    oo 21 (.ia 5 (.s 14) (.s 15)),
    on (.st 5 (.s 21) (.s 20))])))
  (.h [.kill [12, 13]] (.reg false [oo 12 (.mv (.s 4)),
   oo 13 (.bin .add (.s 12) (.c (.int .i64 1))),
   oo 4 (.mv (.s 13))])))))
def k_laws_toPredS_r4 : K :=
  (.seq (.h [.kill [0, 3, 4, 11, 22]] (.reg false [oo 22 (.mv (.s 3)),
   oo 2 (.mv (.s 22))]))
  .ret)
def k_laws_toPredS : F := ⟨23, [.tmp 2],
  (.seq (.h [.kill [2]] (.reg false [oo 2 (.mv (.c (.slice none 0 0)))]))
  (.seq (.h [.kill [5, 6, 7]] (.reg false [oo 5 (.mv (.s 0)),
   oo 6 (.len false (.s 5)),
   oo 7 (.mks [.v (.int .i64 0), .v (.int .i64 0), .v (.string ⟨#[]⟩), .v (.string ⟨#[]⟩), .v (.string ⟨#[]⟩)] 64 (.s 6)),
   oo 3 (.mv (.s 7))]))
  (.seq (.seq (.h [.clean []] (.reg false [oo 4 (.mv (.c (.int .i64 0)))]))
  (.blk 0
   (.loop k_laws_toPredS_l8)))
  k_laws_toPredS_r4)))⟩

def k_laws_toAttr : F := ⟨17, [.cell 2 4 true],
  (.seq (.h [.kill [0]] (.reg false [oo 1 (.box (.s 0)),
   oo 2 (.alloc [.v (.string ⟨#[]⟩), .v (.string ⟨#[]⟩), .v (.string ⟨#[]⟩), .v (.string ⟨#[]⟩)])]))
  (.seq (.reg false [oo 3 (.alloc [.v (.string ⟨#[]⟩), .v (.string ⟨#[]⟩), .v (.string ⟨#[]⟩), .v (.string ⟨#[]⟩)])])
  (.seq (.h [.kill [4, 5, 6]] (.reg false [oo 4 (.fa 0 (.s 1)),
   oo 5 (.ld 1 false (.s 4)),
   oo 6 (.fa 0 (.s 3)),
   on (.st 1 (.s 6) (.s 5))]))
  (.seq (.h [.kill [7, 8, 9]] (.reg false [oo 7 (.fa 1 (.s 1)),
   oo 8 (.ld 1 false (.s 7)),
   oo 9 (.fa 1 (.s 3)),
   on (.st 1 (.s 9) (.s 8))]))
  (.seq (.h [.kill [10, 11, 12]] (.reg false [oo 10 (.fa 2 (.s 1)),
   oo 11 (.ld 1 false (.s 10)),
   oo 12 (.fa 2 (.s 3)),
   on (.st 1 (.s 12) (.s 11))]))
  (.seq (.h [.kill [1, 13, 14, 15]] (.reg false [oo 13 (.fa 3 (.s 1)),
   oo 14 (.ld 1 false (.s 13)),
   oo 15 (.fa 3 (.s 3)),
   on (.st 1 (.s 15) (.s 14))]))
  (.seq (.h [.kill [3, 16]] (.reg false [oo 16 (.ld 4 true (.s 3)),
   on (.st 4 (.s 2) (.s 16))]))
  .ret)))))))⟩

def k_laws_eqPredS_l14 : K :=
  (.h [.clean []] (.seq (.seq (.h [.kill [11, 12, 13]] (.reg false [oo 11 (.mv (.s 5)),
   oo 12 (.mv (.s 0)),
   oo 13 (.len false (.s 12)),
   oo 14 (.bin .lss (.s 11) (.s 13))]))
  (.cond (.s 14)
   .skip
   (.ex 0)))
  (.seq (.blk 1
   (.seq (.h [.kill [14, 17, 18, 19, 20, 21, 22, 23, 24, 25]] (.reg true [⟨some 17, none, .mv (.s 0), [], []⟩,
    ⟨some 18, none, .mv (.s 5), [], []⟩,
    ⟨some 19, none, .ia 5 (.s 17) (.s 18), [0], []⟩,
    ⟨some 20, none, .ld 5 true (.s 19), [0], []⟩,
    ⟨some 21, none, .mv (.s 1), [], []⟩,
    ⟨some 22, none, .mv (.s 5), [], []⟩,
    ⟨some 23, none, .ia 5 (.s 21) (.s 22), [1], []⟩,
    ⟨some 24, none, .ld 5 true (.s 23), [1], []⟩,
    ⟨some 25, none, .call n_laws_eqPred [] [] [(.s 20), (.s 24)], [0, 1], []⟩,
    ⟨some 26, none, .un .not (.s 25), [], []⟩]))
   (.cond (.s 26)
    (.seq (.h [.kill [0, 1, 5, 26]] (.reg false [oo 4 (.mv (.c (.bool false)))]))
    .ret)
    .skip)))
  (.h [.kill [15, 16, 26]] (.reg false [oo 15 (.mv (.s 5)),
   oo 16 (.bin .add (.s 15) (.c (.int .i64 1))),
   oo 5 (.mv (.s 16))])))))
def k_laws_eqPredS_r10 : K :=
  (.seq (.h [.kill [0, 1, 5, 14]] (.reg false [oo 4 (.mv (.c (.bool true)))]))
  .ret)
def k_laws_eqPredS : F := ⟨27, [.tmp 4],
  (.seq (.h [.kill [4]] (.reg false [oo 4 (.mv (.c (.bool false)))]))
  (.seq (.seq (.h [.kill [6, 7, 8, 9]] (.reg false [oo 6 (.mv (.s 0)),
   oo 7 (.len false (.s 6)),
   oo 8 (.mv (.s 1)),
   oo 9 (.len false (.s 8)),
   oo 10 (.bin .neq (.s 7) (.s 9))]))
  (.cond (.s 10)
   (.seq (.h [.kill [0, 1, 10]] (.reg false [oo 4 (.mv (.c (.bool false)))]))
   .ret)
   .skip))
  (.seq (.seq (.h [.clean []] (.h [.kill [10]] (.reg false [oo 5 (.mv (.c (.int .i64 0)))])))
  (.blk 0
   (.loop k_laws_eqPredS_l14)))
  k_laws_eqPredS_r10)))⟩

def k_laws_eqAttr : F := ⟨25, [.tmp 4],
  (.seq (.h [.kill [0, 1, 4]] (.reg false [oo 2 (.box (.s 0)),
   oo 3 (.box (.s 1)),
   oo 4 (.mv (.c (.bool false)))]))
  (.seq (.seq (.h [.kill [5, 6, 7, 8]] (.reg false [oo 5 (.fa 0 (.s 2)),
   oo 6 (.ld 1 false (.s 5)),
   oo 7 (.fa 0 (.s 3)),
   oo 8 (.ld 1 false (.s 7)),
   oo 9 (.bin .neq (.s 6) (.s 8))]))
  (.cond (.s 9)
   (.seq (.h [.kill [2, 3, 9]] (.reg false [oo 4 (.mv (.c (.bool false)))]))
   .ret)
   .skip))
  (.seq (.seq (.h [.kill [9, 10, 11, 12, 13]] (.reg false [oo 10 (.fa 1 (.s 2)),
   oo 11 (.ld 1 false (.s 10)),
   oo 12 (.fa 1 (.s 3)),
   oo 13 (.ld 1 false (.s 12)),
   oo 14 (.bin .neq (.s 11) (.s 13))]))
  (.cond (.s 14)
   (.seq (.h [.kill [2, 3, 14]] (.reg false [oo 4 (.mv (.c (.bool false)))]))
   .ret)
   .skip))
  (.seq (.seq (.h [.kill [14, 15, 16, 17, 18]] (.reg false [oo 15 (.fa 2 (.s 2)),
   oo 16 (.ld 1 false (.s 15)),
   oo 17 (.fa 2 (.s 3)),
   oo 18 (.ld 1 false (.s 17)),
   oo 19 (.bin .neq (.s 16) (.s 18))]))
  (.cond (.s 19)
   (.seq (.h [.kill [2, 3, 19]] (.reg false [oo 4 (.mv (.c (.bool false)))]))
   .ret)
   .skip))
  (.seq (.seq (.h [.kill [2, 3, 19, 20, 21, 22, 23]] (.reg false [oo 20 (.fa 3 (.s 2)),
   oo 21 (.ld 1 false (.s 20)),
   oo 22 (.fa 3 (.s 3)),
   oo 23 (.ld 1 false (.s 22)),
   oo 24 (.bin .neq (.s 21) (.s 23))]))
  (.cond (.s 24)
   (.seq (.h [.kill [24]] (.reg false [oo 4 (.mv (.c (.bool false)))]))
   .ret)
   .skip))
  (.seq (.h [.kill [24]] (.reg false [oo 4 (.mv (.c (.bool true)))]))
  .ret))))))⟩

def k_laws_szPred : F := ⟨27, [.tmp 4],
  (.seq (.h [.kill [0, 4]] (.reg false [oo 2 (.box (.s 0)),
   oo 4 (.mv (.c (.int .i64 0)))]))
  (.seq (.h [.kill [5, 6, 7, 8, 9]] (.reg false [oo 5 (.mv (.s 1)),
   oo 6 (.fa 2 (.s 2)),
   oo 7 (.ld 1 false (.s 6)),
   oo 8 (.len true (.s 7)),
   oo 9 (.bin .sub (.s 5) (.s 8)),
   oo 1 (.mv (.s 9))]))
  (.seq (.seq (.h [.kill [10]] (.reg false [oo 10 (.mv (.s 1)),
   oo 11 (.bin .lss (.s 10) (.c (.int .i64 0)))]))
  (.cond (.s 11)
   (.seq (.h [.kill [1, 2, 11]] (.reg false [oo 4 (.mv (.c (.int .i64 (-1))))]))
   .ret)
   .skip))
  (.seq (.h [.kill [11, 12, 13, 14, 15, 16]] (.reg false [oo 12 (.mv (.s 1)),
   oo 13 (.fa 3 (.s 2)),
   oo 14 (.ld 1 false (.s 13)),
   oo 15 (.len true (.s 14)),
   oo 16 (.bin .sub (.s 12) (.s 15)),
   oo 1 (.mv (.s 16))]))
  (.seq (.seq (.h [.kill [17]] (.reg false [oo 17 (.mv (.s 1)),
   oo 18 (.bin .lss (.s 17) (.c (.int .i64 0)))]))
  (.cond (.s 18)
   (.seq (.h [.kill [1, 2, 18]] (.reg false [oo 4 (.mv (.c (.int .i64 (-1))))]))
   .ret)
   .skip))
  (.seq (.h [.kill [2, 18, 19, 20, 21, 22, 23]] (.reg false [oo 19 (.mv (.s 1)),
   oo 20 (.fa 4 (.s 2)),
   oo 21 (.ld 1 false (.s 20)),
   oo 22 (.len true (.s 21)),
   oo 23 (.bin .sub (.s 19) (.s 22)),
   oo 1 (.mv (.s 23))]))
  (.seq (.seq (.h [.kill [24]] (.reg false [oo 24 (.mv (.s 1)),
   oo 25 (.bin .lss (.s 24) (.c (.int .i64 0)))]))
  (.cond (.s 25)
   (.seq (.h [.kill [1, 25]] (.reg false [oo 4 (.mv (.c (.int .i64 (-1))))]))
   .ret)
   .skip))
  (.seq (.h [.kill [1, 25, 26]] (.reg false [oo 26 (.mv (.s 1)),
   oo 4 (.mv (.s 26))]))
  .ret))))))))⟩

def k_laws_toPred : F := ⟨20, [.cell 2 5 true],
  (.seq (.h [.kill [0]] (.reg false [oo 1 (.box (.s 0)),
   oo 2 (.alloc [.v (.int .i64 0), .v (.int .i64 0), .v (.string ⟨#[]⟩), .v (.string ⟨#[]⟩), .v (.string ⟨#[]⟩)])]))
  (.seq (.reg false [oo 3 (.alloc [.v (.int .i64 0), .v (.int .i64 0), .v (.string ⟨#[]⟩), .v (.string ⟨#[]⟩), .v (.string ⟨#[]⟩)])])
  (.seq (.h [.kill [4, 5, 6]] (.reg false [oo 4 (.fa 0 (.s 1)),
   oo 5 (.ld 1 false (.s 4)),
   oo 6 (.fa 0 (.s 3)),
   on (.st 1 (.s 6) (.s 5))]))
  (.seq (.h [.kill [7, 8, 9]] (.reg false [oo 7 (.fa 1 (.s 1)),
   oo 8 (.ld 1 false (.s 7)),
   oo 9 (.fa 1 (.s 3)),
   on (.st 1 (.s 9) (.s 8))]))
  (.seq (.h [.kill [10, 11, 12]] (.reg false [oo 10 (.fa 2 (.s 1)),
   oo 11 (.ld 1 false (.s 10)),
   oo 12 (.fa 2 (.s 3)),
   on (.st 1 (.s 12) (.s 11))]))
  (.seq (.h [.kill [13, 14, 15]] (.reg false [oo 13 (.fa 3 (.s 1)),
   oo 14 (.ld 1 false (.s 13)),
   oo 15 (.fa 3 (.s 3)),
   on (.st 1 (.s 15) (.s 14))]))
  (.seq (.h [.kill [1, 16, 17, 18]] (.reg false [oo 16 (.fa 4 (.s 1)),
   oo 17 (.ld 1 false (.s 16)),
   oo 18 (.fa 4 (.s 3)),
   on (.st 1 (.s 18) (.s 17))]))
  (.seq (.h [.kill [3, 19]] (.reg false [oo 19 (.ld 5 true (.s 3)),
   on (.st 5 (.s 2) (.s 19))]))
  .ret))))))))⟩

def k_laws_eqPred : F := ⟨30, [.tmp 4],
  (.seq (.h [.kill [0, 1, 4]] (.reg false [oo 2 (.box (.s 0)),
   oo 3 (.box (.s 1)),
   oo 4 (.mv (.c (.bool false)))]))
  (.seq (.seq (.h [.kill [5, 6, 7, 8]] (.reg false [oo 5 (.fa 0 (.s 2)),
   oo 6 (.ld 1 false (.s 5)),
   oo 7 (.fa 0 (.s 3)),
   oo 8 (.ld 1 false (.s 7)),
   oo 9 (.bin .neq (.s 6) (.s 8))]))
  (.cond (.s 9)
   (.seq (.h [.kill [2, 3, 9]] (.reg false [oo 4 (.mv (.c (.bool false)))]))
   .ret)
   .skip))
  (.seq (.seq (.h [.kill [9, 10, 11, 12, 13]] (.reg false [oo 10 (.fa 1 (.s 2)),
   oo 11 (.ld 1 false (.s 10)),
   oo 12 (.fa 1 (.s 3)),
   oo 13 (.ld 1 false (.s 12)),
   oo 14 (.bin .neq (.s 11) (.s 13))]))
  (.cond (.s 14)
   (.seq (.h [.kill [2, 3, 14]] (.reg false [oo 4 (.mv (.c (.bool false)))]))
   .ret)
   .skip))
  (.seq (.seq (.h [.kill [14, 15, 16, 17, 18]] (.reg false [oo 15 (.fa 2 (.s 2)),
   oo 16 (.ld 1 false (.s 15)),
   oo 17 (.fa 2 (.s 3)),
   oo 18 (.ld 1 false (.s 17)),
   oo 19 (.bin .neq (.s 16) (.s 18))]))
  (.cond (.s 19)
   (.seq (.h [.kill [2, 3, 19]] (.reg false [oo 4 (.mv (.c (.bool false)))]))
   .ret)
   .skip))
  (.seq (.seq (.h [.kill [19, 20, 21, 22, 23]] (.reg false [oo 20 (.fa 3 (.s 2)),
   oo 21 (.ld 1 false (.s 20)),
   oo 22 (.fa 3 (.s 3)),
   oo 23 (.ld 1 false (.s 22)),
   oo 24 (.bin .neq (.s 21) (.s 23))]))
  (.cond (.s 24)
   (.seq (.h [.kill [2, 3, 24]] (.reg false [oo 4 (.mv (.c (.bool false)))]))
   .ret)
   .skip))
  (.seq (.seq (.h [.kill [2, 3, 24, 25, 26, 27, 28]] (.reg false [oo 25 (.fa 4 (.s 2)),
   oo 26 (.ld 1 false (.s 25)),
   oo 27 (.fa 4 (.s 3)),
   oo 28 (.ld 1 false (.s 27)),
   oo 29 (.bin .neq (.s 26) (.s 28))]))
  (.cond (.s 29)
   (.seq (.h [.kill [29]] (.reg false [oo 4 (.mv (.c (.bool false)))]))
   .ret)
   .skip))
  (.seq (.h [.kill [29]] (.reg false [oo 4 (.mv (.c (.bool true)))]))
  .ret)))))))⟩

def FTT : FTab
  | 4 => some k_laws_FnExactCost
  | 14 => some k_laws_szOpS
  | 15 => some k_spec_Cost
  | 16 => some k_laws_toOpS
  | 17 => some k_impl_Cost
  | 18 => some k_laws_eqOpS
  | 32 => some k_impl_CountOf
  | 41 => some k_laws_szNode
  | 42 => some k_laws_szNodeS
  | 44 => some k_laws_toNode
  | 46 => some k_laws_toNodeS
  | 48 => some k_laws_eqNode
  | 50 => some k_laws_eqNodeS
  | 61 => some k_laws_eqSel
  | 74 => some k_laws_szOp
  | 75 => some k_spec_CountOf
  | 76 => some k_laws_toOp
  | 77 => some k_laws_eqOp
  | 94 => some k_laws_szDeclS
  | 95 => some k_laws_szAttrS
  | 97 => some k_laws_toDeclS
  | 98 => some k_laws_toAttrS
  | 102 => some k_laws_eqDeclS
  | 103 => some k_laws_eqAttrS
  | 116 => some k_laws_eqStepS
  | 125 => some k_laws_szSel
  | 126 => some k_laws_toSel
  | 142 => some k_laws_szDecl
  | 143 => some k_laws_szAttr
  | 144 => some k_laws_toDecl
  | 145 => some k_laws_toAttr
  | 148 => some k_laws_eqDecl
  | 149 => some k_laws_eqAttr
  | 150 => some k_laws_eqStep
  | 153 => some k_laws_szStepS
  | 154 => some k_laws_toStepS
  | 160 => some k_laws_eqPredS
  | 161 => some k_laws_szStep
  | 162 => some k_laws_toStep
  | 165 => some k_laws_eqPred
  | 166 => some k_laws_szPredS
  | 167 => some k_laws_toPredS
  | 169 => some k_laws_szPred
  | 170 => some k_laws_toPred
  | _ => none
def FTA : Env := ⟨FTT, []⟩
def SSA := And.intro (SS FTA) S3
end TT
