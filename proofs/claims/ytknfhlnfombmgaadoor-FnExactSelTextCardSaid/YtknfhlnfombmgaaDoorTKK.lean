import Derived.Test.YtknfhlnfombmgaaDoorTNums
set_option linter.unusedVariables false
set_option linter.unusedSimpArgs false
set_option linter.defProp false
set_option maxRecDepth 100000
namespace TT
open Go
def k_laws_FnExactSelText : F := ⟨27, [.tmp 2],
  (.seq (.h [.kill [0, 2]] (.reg false [oo 1 (.box (.s 0)),
   oo 2 (.mv (.c (.bool false)))]))
  (.seq (.reg false [oo 3 (.mv (.c (.int .i64 1048576)))])
  (.seq (.h [.kill [7, 8, 9]] (.reg false [oo 7 (.ld 2 true (.s 1)),
   oo 8 (.mv (.s 3)),
   oo 9 (.call n_laws_szSel [] [] [(.s 7), (.s 8)]),
   oo 3 (.mv (.s 9))]))
  (.seq (.seq (.h [.kill [3, 10]] (.reg false [oo 10 (.mv (.s 3)),
   oo 11 (.bin .lss (.s 10) (.c (.int .i64 0)))]))
  (.cond (.s 11)
   (.seq (.h [.kill [1, 11]] (.reg false [oo 2 (.mv (.c (.bool true)))]))
   .ret)
   .skip))
  (.seq (.h [.kill [11, 12, 13, 14]] (.reg false [oo 12 (.ld 2 true (.s 1)),
   oo 13 (.call n_laws_toSel [] [true] [(.s 12)]),
   oo 14 (.call n_spec_SelText [] [] [(.s 13)]),
   oo 4 (.mv (.s 14))]))
  (.seq (.h [.kill [15, 16]] (.reg false [oo 15 (.ld 2 true (.s 1)),
   oo 16 (.call n_laws_toSel [] [true] [(.s 15)]),
   oo 5 (.alloc [.v (.string ⟨#[]⟩), .sl true []]),
   oo 5 (.vst 2 (.s 5) (.s 16))]))
  (.seq (.h [.kill [17, 18]] (.reg false [oo 17 (.ld 2 true (.s 5)),
   oo 18 (.call n_impl_SelText [] [] [(.s 17)]),
   oo 6 (.mv (.s 18))]))
  (.seq (.seq (.h [.kill [4, 6, 19, 20]] (.reg false [oo 19 (.mv (.s 6)),
   oo 20 (.mv (.s 4)),
   oo 21 (.bin .neq (.s 19) (.s 20))]))
  (.cond (.s 21)
   (.seq (.h [.kill [1, 5, 21]] (.reg false [oo 2 (.mv (.c (.bool false)))]))
   .ret)
   .skip))
  (.seq (.seq (.h [.kill [1, 5, 21, 22, 23, 24, 25]] (.reg true [⟨some 22, none, .ld 2 true (.s 5), [5, 16], []⟩,
   ⟨some 23, none, .ld 2 true (.s 1), [1], []⟩,
   ⟨some 24, none, .call n_laws_toSel [] [true] [(.s 23)], [1], [24]⟩,
   ⟨some 25, none, .call n_laws_eqSel [] [] [(.s 22), (.s 24)], [5, 16, 24], []⟩,
   ⟨some 26, none, .un .not (.s 25), [], []⟩]))
  (.cond (.s 26)
   (.seq (.h [.kill [26]] (.reg false [oo 2 (.mv (.c (.bool false)))]))
   .ret)
   .skip))
  (.seq (.h [.kill [26]] (.reg false [oo 2 (.mv (.c (.bool true)))]))
  .ret))))))))))⟩

def k_laws_szSel : F := ⟨19, [.tmp 4],
  (.seq (.h [.kill [0, 4]] (.reg false [oo 2 (.box (.s 0)),
   oo 4 (.mv (.c (.int .i64 0)))]))
  (.seq (.h [.kill [5, 6, 7, 8, 9]] (.reg false [oo 5 (.mv (.s 1)),
   oo 6 (.fa 0 (.s 2)),
   oo 7 (.ld 1 false (.s 6)),
   oo 8 (.len true (.s 7)),
   oo 9 (.bin .sub (.s 5) (.s 8)),
   oo 1 (.mv (.s 9))]))
  (.seq (.seq (.h [.kill [10]] (.reg false [oo 10 (.mv (.s 1)),
   oo 11 (.bin .lss (.s 10) (.c (.int .i64 0)))]))
  (.cond (.s 11)
   (.seq (.h [.kill [1, 2, 11]] (.reg false [oo 4 (.mv (.c (.int .i64 (-1))))]))
   .ret)
   .skip))
  (.seq (.h [.kill [2, 11, 12, 13, 14, 15]] (.reg false [oo 12 (.fa 1 (.s 2)),
   oo 13 (.ld 1 false (.s 12)),
   oo 14 (.mv (.s 1)),
   oo 15 (.call n_laws_szStepS [] [] [(.s 13), (.s 14)]),
   oo 1 (.mv (.s 15))]))
  (.seq (.seq (.h [.kill [16]] (.reg false [oo 16 (.mv (.s 1)),
   oo 17 (.bin .lss (.s 16) (.c (.int .i64 0)))]))
  (.cond (.s 17)
   (.seq (.h [.kill [1, 17]] (.reg false [oo 4 (.mv (.c (.int .i64 (-1))))]))
   .ret)
   .skip))
  (.seq (.h [.kill [1, 17, 18]] (.reg false [oo 18 (.mv (.s 1)),
   oo 4 (.mv (.s 18))]))
  .ret))))))⟩

def k_laws_toSel : F := ⟨12, [.cell 2 2 true],
  (.seq (.h [.kill [0]] (.reg false [oo 1 (.box (.s 0)),
   oo 2 (.alloc [.v (.string ⟨#[]⟩), .sl true []])]))
  (.seq (.reg false [oo 3 (.alloc [.v (.string ⟨#[]⟩), .sl true []])])
  (.seq (.h [.kill [4, 5, 6]] (.reg false [oo 4 (.fa 0 (.s 1)),
   oo 5 (.ld 1 false (.s 4)),
   oo 6 (.fa 0 (.s 3)),
   on (.st 1 (.s 6) (.s 5))]))
  (.seq (.h [.kill [1, 7, 8, 9, 10]] (.reg false [oo 7 (.fa 1 (.s 1)),
   oo 8 (.ld 1 false (.s 7)),
   oo 9 (.call n_laws_toStepS [] [true] [(.s 8)]),
   oo 10 (.fa 1 (.s 3)),
   on (.st 1 (.s 10) (.s 9))]))
  (.seq (.h [.kill [3, 11]] (.reg false [oo 11 (.ld 2 true (.s 3)),
   on (.st 2 (.s 2) (.s 11))]))
  .ret)))))⟩

def k_spec_SelText_l22 : K :=
  (.h [.clean []] (.seq (.seq (.h [.kill [16, 17, 18, 19]] (.reg false [oo 16 (.mv (.s 4)),
   oo 17 (.fa 1 (.s 1)),
   oo 18 (.ld 1 false (.s 17)),
   oo 19 (.len false (.s 18)),
   oo 20 (.bin .lss (.s 16) (.s 19))]))
  (.cond (.s 20)
   .skip
   (.ex 0)))
  (.seq (.blk 1
   (.seq (.seq (.h [.kill [20, 23, 24, 25, 26, 27]] (.reg false [oo 23 (.fa 1 (.s 1)),
    oo 24 (.ld 1 false (.s 23)),
    oo 25 (.mv (.s 4)),
    oo 26 (.ia 5 (.s 24) (.s 25)),
    oo 27 (.fa 0 (.s 26)),
    oo 28 (.ld 1 false (.s 27))]))
   (.cond (.s 28)
    (.h [.kill [28, 29, 30]] (.reg false [oo 29 (.mv (.s 3)),
     oo 30 (.bin .add (.s 29) (.c (.string ⟨#[47, 47]⟩))),
     oo 3 (.mv (.s 30))]))
    (.seq (.h [.kill [28, 31, 32, 33, 34, 35, 36]] (.reg false [oo 31 (.mv (.s 4)),
     oo 32 (.bin .gtr (.s 31) (.c (.int .i64 0))),
     oo 33 (.mv (.s 32)),
     ow 34 33 false (.fa 0 (.s 1)),
     ow 35 33 false (.ld 1 false (.s 34)),
     ow 36 33 false (.bin .neq (.s 35) (.c (.string ⟨#[]⟩))),
     oo 37 (.pick (.s 33) (.c (.bool true)) (.s 36))]))
    (.cond (.s 37)
     (.h [.kill [37, 38, 39]] (.reg false [oo 38 (.mv (.s 3)),
      oo 39 (.bin .add (.s 38) (.c (.string ⟨#[47]⟩))),
      oo 3 (.mv (.s 39))]))
     .skip))))
   (.h [.kill [37, 40, 41, 42, 43, 44, 45, 46, 47]] (.reg false [oo 40 (.mv (.s 3)),
    oo 41 (.fa 1 (.s 1)),
    oo 42 (.ld 1 false (.s 41)),
    oo 43 (.mv (.s 4)),
    oo 44 (.ia 5 (.s 42) (.s 43)),
    oo 45 (.ld 5 true (.s 44)),
    oo 46 (.call n_spec_l11Step [] [] [(.s 45)]),
    oo 47 (.bin .add (.s 40) (.s 46)),
    oo 3 (.mv (.s 47))]))))
  (.h [.kill [21, 22]] (.reg false [oo 21 (.mv (.s 4)),
   oo 22 (.bin .add (.s 21) (.c (.int .i64 1))),
   oo 4 (.mv (.s 22))])))))
def k_spec_SelText_r18 : K :=
  (.seq (.seq (.h [.kill [1, 4, 20, 48, 49]] (.reg false [oo 48 (.mv (.s 3)),
   oo 49 (.len true (.s 48)),
   oo 50 (.bin .gtr (.s 49) (.c (.int .i64 200)))]))
  (.cond (.s 50)
   (.seq (.h [.kill [3, 50]] (.reg false [oo 2 (.mv (.c (.string ⟨#[]⟩)))]))
   .ret)
   .skip))
  (.seq (.h [.kill [3, 50, 51]] (.reg false [oo 51 (.mv (.s 3)),
   oo 2 (.mv (.s 51))]))
  .ret))
def k_spec_SelText_r12 : K :=
  (.seq (.seq (.h [.clean []] (.h [.kill [10]] (.reg false [oo 4 (.mv (.c (.int .i64 0)))])))
  (.blk 0
   (.loop k_spec_SelText_l22)))
  k_spec_SelText_r18)
def k_spec_SelText : F := ⟨52, [.tmp 2],
  (.seq (.h [.kill [0, 2]] (.reg false [oo 1 (.box (.s 0)),
   oo 2 (.mv (.c (.string ⟨#[]⟩)))]))
  (.seq (.seq (.h [.kill [5, 6]] (.reg false [oo 5 (.ld 2 true (.s 1)),
   oo 6 (.call n_spec_SelOk [] [] [(.s 5)]),
   oo 7 (.un .not (.s 6))]))
  (.cond (.s 7)
   (.seq (.h [.kill [1, 7]] (.reg false [oo 2 (.mv (.c (.string ⟨#[]⟩)))]))
   .ret)
   .skip))
  (.seq (.h [.kill [7]] (.reg false [oo 3 (.mv (.c (.string ⟨#[]⟩)))]))
  (.seq (.h [.kill [10], .clean []] (.seq (.h [.kill [8, 9]] (.reg false [oo 8 (.fa 0 (.s 1)),
   oo 9 (.ld 1 false (.s 8)),
   oo 10 (.bin .neq (.s 9) (.c (.string ⟨#[]⟩)))]))
  (.cond (.s 10)
   (.h [.kill [10, 11, 12, 13, 14, 15]] (.reg false [oo 11 (.fa 0 (.s 1)),
    oo 12 (.ld 1 false (.s 11)),
    oo 13 (.call n_spec_l11Quote [] [] [(.s 12)]),
    oo 14 (.bin .add (.c (.string ⟨#[105, 100, 40]⟩)) (.s 13)),
    oo 15 (.bin .add (.s 14) (.c (.string ⟨#[41]⟩))),
    oo 3 (.mv (.s 15))]))
   .skip)))
  k_spec_SelText_r12))))⟩

def k_impl_SelText_l49 : K :=
  (.h [.clean [7]] (.seq (.reg false [oo 50 (.bin .lss (.s 49) (.s 48))])
  (.seq (.cond (.s 50)
   .skip
   (.ex 3))
  (.seq (.blk 4
   (.seq (.h [.kill [50, 51, 52]] (.reg false [oo 51 (.ia 5 (.s 47) (.s 49)),
    oo 52 (.ld 5 true (.s 51)),
    oo 7 (.alloc [.v (.int .i64 0), .v (.int .i64 0), .v (.string ⟨#[]⟩), .v (.string ⟨#[]⟩), .v (.string ⟨#[]⟩)]),
    on (.st 5 (.s 7) (.s 52))]))
   (.h [.kill [7, 53, 54, 55, 56]] (.reg false [oo 53 (.mv (.s 3)),
    oo 54 (.ld 5 true (.s 7)),
    oo 55 (.call n_impl_predText [] [] [(.s 54)]),
    oo 56 (.bin .add (.s 53) (.s 55)),
    oo 3 (.mv (.s 56))]))))
  (.h [.kill [57]] (.reg false [oo 57 (.bin .add (.s 49) (.c (.int .i64 1))),
   oo 49 (.mv (.s 57))]))))))
def k_impl_SelText_r33 : K :=
  (.seq (.h [.kill [32, 42, 43, 44, 45]] (.reg false [oo 42 (.mv (.s 3)),
   oo 43 (.ld 5 true (.s 5)),
   oo 44 (.call n_impl_stepText [] [] [(.s 43)]),
   oo 45 (.bin .add (.s 42) (.s 44)),
   oo 3 (.mv (.s 45))]))
  (.seq (.h [.clean [5]] (.h [.kill [5, 46]] (.reg false [oo 46 (.fa 4 (.s 5)),
   oo 47 (.ld 1 false (.s 46)),
   oo 48 (.len false (.s 47)),
   oo 49 (.mv (.c (.int .i64 0)))])))
  (.blk 3
   (.loop k_impl_SelText_l49))))
def k_impl_SelText_r29 : K :=
  (.h [.kill [47, 48, 49, 50, 58]] (.reg false [oo 58 (.bin .add (.s 22) (.c (.int .i64 1))),
   oo 22 (.mv (.s 58))]))
def k_impl_SelText_l22 : K :=
  (.h [.clean []] (.seq (.reg false [oo 23 (.bin .lss (.s 22) (.s 21))])
  (.seq (.cond (.s 23)
   .skip
   (.ex 0))
  (.seq (.blk 1
   (.seq (.h [.kill [23, 24, 25, 26]] (.reg false [oo 24 (.mv (.s 22)),
    oo 25 (.ia 5 (.s 20) (.s 22)),
    oo 26 (.ld 5 true (.s 25)),
    oo 5 (.alloc [.v (.bool false), .v (.int .i64 0), .v (.string ⟨#[]⟩), .v (.string ⟨#[]⟩), .sl true []]),
    oo 4 (.mv (.s 24)),
    on (.st 5 (.s 5) (.s 26))]))
   (.seq (.h [.kill [32], .clean []] (.blk 2
    (.seq (.h [.kill [28, 29]] (.reg false [oo 28 (.fa 0 (.s 5)),
     oo 29 (.ld 1 false (.s 28)),
     oo 27 (.mv (.s 29))]))
    (.cond (.s 27)
     (.h [.kill [4, 27, 30, 31]] (.reg false [oo 30 (.mv (.s 3)),
      oo 31 (.bin .add (.s 30) (.c (.string ⟨#[47, 47]⟩))),
      oo 3 (.mv (.s 31))]))
     (.seq (.h [.kill [4, 27, 33, 34, 35, 36, 37, 38, 39]] (.reg false [oo 33 (.mv (.s 4)),
      oo 34 (.bin .gtr (.s 33) (.c (.int .i64 0))),
      oo 35 (.mv (.s 34)),
      ow 36 35 false (.fa 0 (.s 1)),
      ow 37 35 false (.ld 1 false (.s 36)),
      ow 38 35 false (.bin .neq (.s 37) (.c (.string ⟨#[]⟩))),
      oo 39 (.pick (.s 35) (.c (.bool true)) (.s 38)),
      oo 32 (.mv (.s 39))]))
     (.cond (.s 32)
      (.h [.kill [32, 40, 41]] (.reg false [oo 40 (.mv (.s 3)),
       oo 41 (.bin .add (.s 40) (.c (.string ⟨#[47]⟩))),
       oo 3 (.mv (.s 41))]))
      .skip))))))
   k_impl_SelText_r33)))
  k_impl_SelText_r29))))
def k_impl_SelText_r18 : K :=
  (.seq (.seq (.h [.kill [1, 20, 21, 22, 23, 59, 60]] (.reg false [oo 59 (.mv (.s 3)),
   oo 60 (.len true (.s 59)),
   oo 61 (.bin .gtr (.s 60) (.c (.int .i64 200)))]))
  (.cond (.s 61)
   (.seq (.h [.kill [3, 61]] (.reg false [oo 2 (.mv (.c (.string ⟨#[]⟩)))]))
   .ret)
   .skip))
  (.seq (.h [.kill [3, 61, 62]] (.reg false [oo 62 (.mv (.s 3)),
   oo 2 (.mv (.s 62))]))
  .ret))
def k_impl_SelText_r12 : K :=
  (.seq (.seq (.h [.clean []] (.h [.kill [13, 19]] (.reg false [oo 19 (.fa 1 (.s 1)),
   oo 20 (.ld 1 false (.s 19)),
   oo 21 (.len false (.s 20)),
   oo 22 (.mv (.c (.int .i64 0)))])))
  (.blk 0
   (.loop k_impl_SelText_l22)))
  k_impl_SelText_r18)
def k_impl_SelText : F := ⟨63, [.tmp 2],
  (.seq (.h [.kill [0, 2]] (.reg false [oo 1 (.box (.s 0)),
   oo 2 (.mv (.c (.string ⟨#[]⟩)))]))
  (.seq (.seq (.h [.kill [8, 9]] (.reg false [oo 8 (.ld 2 true (.s 1)),
   oo 9 (.call n_impl_SelOk [] [] [(.s 8)]),
   oo 10 (.un .not (.s 9))]))
  (.cond (.s 10)
   (.seq (.h [.kill [1, 10]] (.reg false [oo 2 (.mv (.c (.string ⟨#[]⟩)))]))
   .ret)
   .skip))
  (.seq (.h [.kill [10]] (.reg false [oo 3 (.mv (.c (.string ⟨#[]⟩)))]))
  (.seq (.h [.kill [13], .clean []] (.seq (.h [.kill [11, 12]] (.reg false [oo 11 (.fa 0 (.s 1)),
   oo 12 (.ld 1 false (.s 11)),
   oo 13 (.bin .neq (.s 12) (.c (.string ⟨#[]⟩)))]))
  (.cond (.s 13)
   (.h [.kill [13, 14, 15, 16, 17, 18]] (.reg false [oo 14 (.fa 0 (.s 1)),
    oo 15 (.ld 1 false (.s 14)),
    oo 16 (.call n_impl_quotedVal [] [] [(.s 15)]),
    oo 17 (.bin .add (.c (.string ⟨#[105, 100, 40]⟩)) (.s 16)),
    oo 18 (.bin .add (.s 17) (.c (.string ⟨#[41]⟩))),
    oo 3 (.mv (.s 18))]))
   .skip)))
  k_impl_SelText_r12))))⟩

def k_laws_eqSel : F := ⟨16, [.tmp 4],
  (.seq (.h [.kill [0, 1, 4]] (.reg false [oo 2 (.box (.s 0)),
   oo 3 (.box (.s 1)),
   oo 4 (.mv (.c (.bool false)))]))
  (.seq (.seq (.h [.kill [5, 6, 7, 8]] (.reg false [oo 5 (.fa 0 (.s 2)),
   oo 6 (.ld 1 false (.s 5)),
   oo 7 (.fa 0 (.s 3)),
   oo 8 (.ld 1 false (.s 7)),
   oo 9 (.bin .neq (.s 6) (.s 8))]))
  (.cond (.s 9)
   (.seq (.h [.kill [2, 3, 9]] (.reg false [oo 4 (.mv (.c (.bool false)))]))
   .ret)
   .skip))
  (.seq (.seq (.h [.kill [2, 3, 9, 10, 11, 12, 13, 14]] (.reg false [oo 10 (.fa 1 (.s 2)),
   oo 11 (.ld 1 false (.s 10)),
   oo 12 (.fa 1 (.s 3)),
   oo 13 (.ld 1 false (.s 12)),
   oo 14 (.call n_laws_eqStepS [] [] [(.s 11), (.s 13)]),
   oo 15 (.un .not (.s 14))]))
  (.cond (.s 15)
   (.seq (.h [.kill [15]] (.reg false [oo 4 (.mv (.c (.bool false)))]))
   .ret)
   .skip))
  (.seq (.h [.kill [15]] (.reg false [oo 4 (.mv (.c (.bool true)))]))
  .ret))))⟩

def k_laws_szStepS_l16 : K :=
  (.h [.clean []] (.seq (.seq (.h [.kill [12, 13, 14]] (.reg false [oo 12 (.mv (.s 5)),
   oo 13 (.mv (.s 0)),
   oo 14 (.len false (.s 13)),
   oo 15 (.bin .lss (.s 12) (.s 14))]))
  (.cond (.s 15)
   .skip
   (.ex 0)))
  (.seq (.blk 1
   (.seq (.h [.kill [15, 18, 19, 20, 21, 22, 23]] (.reg false [oo 18 (.mv (.s 0)),
    oo 19 (.mv (.s 5)),
    oo 20 (.ia 5 (.s 18) (.s 19)),
    oo 21 (.ld 5 true (.s 20)),
    oo 22 (.mv (.s 1)),
    oo 23 (.call n_laws_szStep [] [] [(.s 21), (.s 22)]),
    oo 1 (.mv (.s 23))]))
   (.seq (.h [.kill [24]] (.reg false [oo 24 (.mv (.s 1)),
    oo 25 (.bin .lss (.s 24) (.c (.int .i64 0)))]))
   (.cond (.s 25)
    (.seq (.h [.kill [0, 1, 5, 25]] (.reg false [oo 4 (.mv (.c (.int .i64 (-1))))]))
    .ret)
    .skip))))
  (.h [.kill [16, 17, 25]] (.reg false [oo 16 (.mv (.s 5)),
   oo 17 (.bin .add (.s 16) (.c (.int .i64 1))),
   oo 5 (.mv (.s 17))])))))
def k_laws_szStepS_r12 : K :=
  (.seq (.h [.kill [0, 1, 5, 15, 26]] (.reg false [oo 26 (.mv (.s 1)),
   oo 4 (.mv (.s 26))]))
  .ret)
def k_laws_szStepS : F := ⟨27, [.tmp 4],
  (.seq (.h [.kill [4]] (.reg false [oo 4 (.mv (.c (.int .i64 0)))]))
  (.seq (.h [.kill [6, 7, 8, 9]] (.reg false [oo 6 (.mv (.s 1)),
   oo 7 (.mv (.s 0)),
   oo 8 (.len false (.s 7)),
   oo 9 (.bin .sub (.s 6) (.s 8)),
   oo 1 (.mv (.s 9))]))
  (.seq (.seq (.h [.kill [10]] (.reg false [oo 10 (.mv (.s 1)),
   oo 11 (.bin .lss (.s 10) (.c (.int .i64 0)))]))
  (.cond (.s 11)
   (.seq (.h [.kill [0, 1, 11]] (.reg false [oo 4 (.mv (.c (.int .i64 (-1))))]))
   .ret)
   .skip))
  (.seq (.seq (.h [.clean []] (.h [.kill [11]] (.reg false [oo 5 (.mv (.c (.int .i64 0)))])))
  (.blk 0
   (.loop k_laws_szStepS_l16)))
  k_laws_szStepS_r12))))⟩

def k_laws_toStepS_l8 : K :=
  (.h [.clean [20]] (.seq (.seq (.h [.kill [8, 9, 10]] (.reg false [oo 8 (.mv (.s 4)),
   oo 9 (.mv (.s 0)),
   oo 10 (.len false (.s 9)),
   oo 11 (.bin .lss (.s 8) (.s 10))]))
  (.cond (.s 11)
   .skip
   (.ex 0)))
  (.seq (.blk 1
   (.h [.kill [11, 14, 15, 16, 17, 18, 19, 20, 21]] (.reg false [oo 14 (.mv (.s 3)),
    oo 15 (.mv (.s 4)),
    oo 16 (.mv (.s 0)),
    oo 17 (.mv (.s 4)),
    oo 18 (.ia 5 (.s 16) (.s 17)),
    oo 19 (.ld 5 true (.s 18)),
    oo 20 (.call n_laws_toStep [] [true] [(.s 19)]),
    oo 21 (.ia 5 (.s 14) (.s 15)),
    on (.st 5 (.s 21) (.s 20))])))
  (.h [.kill [12, 13]] (.reg false [oo 12 (.mv (.s 4)),
   oo 13 (.bin .add (.s 12) (.c (.int .i64 1))),
   oo 4 (.mv (.s 13))])))))
def k_laws_toStepS_r4 : K :=
  (.seq (.h [.kill [0, 3, 4, 11, 22]] (.reg false [oo 22 (.mv (.s 3)),
   oo 2 (.mv (.s 22))]))
  .ret)
def k_laws_toStepS : F := ⟨23, [.tmp 2],
  (.seq (.h [.kill [2]] (.reg false [oo 2 (.mv (.c (.slice none 0 0)))]))
  (.seq (.h [.kill [5, 6, 7]] (.reg false [oo 5 (.mv (.s 0)),
   oo 6 (.len false (.s 5)),
   oo 7 (.mks [.v (.bool false), .v (.int .i64 0), .v (.string ⟨#[]⟩), .v (.string ⟨#[]⟩), .sl true []] 72 (.s 6)),
   oo 3 (.mv (.s 7))]))
  (.seq (.seq (.h [.clean []] (.reg false [oo 4 (.mv (.c (.int .i64 0)))]))
  (.blk 0
   (.loop k_laws_toStepS_l8)))
  k_laws_toStepS_r4)))⟩

def k_spec_SelOk_l6 : K :=
  (.h [.clean []] (.seq (.seq (.h [.kill [4, 5, 6, 7]] (.reg false [oo 4 (.mv (.s 3)),
   oo 5 (.fa 1 (.s 1)),
   oo 6 (.ld 1 false (.s 5)),
   oo 7 (.len false (.s 6)),
   oo 8 (.bin .lss (.s 4) (.s 7))]))
  (.cond (.s 8)
   .skip
   (.ex 0)))
  (.seq (.blk 1
   (.seq (.h [.kill [8, 11, 12, 13, 14, 15, 16, 17, 18, 19, 20, 21, 22]] (.reg true [⟨some 11, none, .fa 1 (.s 1), [], []⟩,
    ⟨some 12, none, .ld 1 false (.s 11), [1], []⟩,
    ⟨some 13, none, .mv (.s 3), [], []⟩,
    ⟨some 14, none, .ia 5 (.s 12) (.s 13), [1], []⟩,
    ⟨some 15, none, .ld 5 true (.s 14), [1], []⟩,
    ⟨some 16, none, .mv (.s 3), [], []⟩,
    ⟨some 17, none, .fa 1 (.s 1), [], []⟩,
    ⟨some 18, none, .ld 1 false (.s 17), [1], []⟩,
    ⟨some 19, none, .len false (.s 18), [], []⟩,
    ⟨some 20, none, .bin .sub (.s 19) (.c (.int .i64 1)), [], []⟩,
    ⟨some 21, none, .bin .eql (.s 16) (.s 20), [], []⟩,
    ⟨some 22, none, .call n_spec_l11StepOk [] [] [(.s 15), (.s 21)], [1], []⟩,
    ⟨some 23, none, .un .not (.s 22), [], []⟩]))
   (.cond (.s 23)
    (.seq (.h [.kill [1, 3, 23]] (.reg false [oo 2 (.mv (.c (.bool false)))]))
    .ret)
    .skip)))
  (.h [.kill [9, 10, 23]] (.reg false [oo 9 (.mv (.s 3)),
   oo 10 (.bin .add (.s 9) (.c (.int .i64 1))),
   oo 3 (.mv (.s 10))])))))
def k_spec_SelOk_r2 : K :=
  (.seq (.h [.kill [1, 3, 8, 24, 25, 26, 27, 28, 29, 30, 31, 32, 33, 34, 35, 36, 37, 38, 39, 40, 41, 42, 43]] (.reg false [oo 24 (.fa 0 (.s 1)),
   oo 25 (.ld 1 false (.s 24)),
   oo 26 (.call n_spec_l11Val [] [] [(.s 25)]),
   oo 27 (.mv (.s 26)),
   ow 28 27 true (.fa 1 (.s 1)),
   ow 29 27 true (.ld 1 false (.s 28)),
   ow 30 27 true (.len false (.s 29)),
   ow 31 27 true (.bin .leq (.s 30) (.c (.int .i64 8))),
   oo 32 (.pick (.s 27) (.s 31) (.c (.bool false))),
   oo 33 (.mv (.s 32)),
   ow 34 33 true (.fa 0 (.s 1)),
   ow 35 33 true (.ld 1 false (.s 34)),
   ow 36 33 true (.bin .neq (.s 35) (.c (.string ⟨#[]⟩))),
   ow 37 33 true (.mv (.s 36)),
   ow 38 37 false (.fa 1 (.s 1)),
   ow 39 37 false (.ld 1 false (.s 38)),
   ow 40 37 false (.len false (.s 39)),
   ow 41 37 false (.bin .gtr (.s 40) (.c (.int .i64 0))),
   ow 42 33 true (.pick (.s 37) (.c (.bool true)) (.s 41)),
   oo 43 (.pick (.s 33) (.s 42) (.c (.bool false))),
   oo 2 (.mv (.s 43))]))
  .ret)
def k_spec_SelOk : F := ⟨44, [.tmp 2],
  (.seq (.h [.kill [0, 2]] (.reg false [oo 1 (.box (.s 0)),
   oo 2 (.mv (.c (.bool false)))]))
  (.seq (.seq (.h [.clean []] (.reg false [oo 3 (.mv (.c (.int .i64 0)))]))
  (.blk 0
   (.loop k_spec_SelOk_l6)))
  k_spec_SelOk_r2))⟩

def k_spec_l11Quote : F := ⟨11, [.tmp 2],
  (.seq (.h [.kill [2]] (.reg false [oo 2 (.mv (.c (.string ⟨#[]⟩)))]))
  (.seq (.seq (.h [.kill [3]] (.reg false [oo 3 (.mv (.s 0)),
   oo 4 (.call n_spec_l5Has [] [] [(.s 3), (.c (.string ⟨#[39]⟩))])]))
  (.cond (.s 4)
   (.seq (.h [.kill [0, 4, 5, 6, 7]] (.reg false [oo 5 (.mv (.s 0)),
    oo 6 (.bin .add (.c (.string ⟨#[34]⟩)) (.s 5)),
    oo 7 (.bin .add (.s 6) (.c (.string ⟨#[34]⟩))),
    oo 2 (.mv (.s 7))]))
   .ret)
   .skip))
  (.seq (.h [.kill [0, 4, 8, 9, 10]] (.reg false [oo 8 (.mv (.s 0)),
   oo 9 (.bin .add (.c (.string ⟨#[39]⟩)) (.s 8)),
   oo 10 (.bin .add (.s 9) (.c (.string ⟨#[39]⟩))),
   oo 2 (.mv (.s 10))]))
  .ret)))⟩

def k_spec_l11Step_l43 : K :=
  (.h [.clean []] (.seq (.seq (.h [.kill [40, 41, 42, 43]] (.reg false [oo 40 (.mv (.s 4)),
   oo 41 (.fa 4 (.s 1)),
   oo 42 (.ld 1 false (.s 41)),
   oo 43 (.len false (.s 42)),
   oo 44 (.bin .lss (.s 40) (.s 43))]))
  (.cond (.s 44)
   .skip
   (.ex 1)))
  (.seq (.blk 2
   (.h [.kill [44, 47, 48, 49, 50, 51, 52, 53, 54]] (.reg false [oo 47 (.mv (.s 3)),
    oo 48 (.fa 4 (.s 1)),
    oo 49 (.ld 1 false (.s 48)),
    oo 50 (.mv (.s 4)),
    oo 51 (.ia 5 (.s 49) (.s 50)),
    oo 52 (.ld 5 true (.s 51)),
    oo 53 (.call n_spec_l11Pred [] [] [(.s 52)]),
    oo 54 (.bin .add (.s 47) (.s 53)),
    oo 3 (.mv (.s 54))])))
  (.h [.kill [45, 46]] (.reg false [oo 45 (.mv (.s 4)),
   oo 46 (.bin .add (.s 45) (.c (.int .i64 1))),
   oo 4 (.mv (.s 46))])))))
def k_spec_l11Step_r39 : K :=
  (.seq (.h [.kill [1, 3, 4, 44, 55]] (.reg false [oo 55 (.mv (.s 3)),
   oo 2 (.mv (.s 55))]))
  .ret)
def k_spec_l11Step_r4 : K :=
  (.seq (.seq (.h [.clean []] (.h [.kill [27]] (.reg false [oo 4 (.mv (.c (.int .i64 0)))])))
  (.blk 1
   (.loop k_spec_l11Step_l43)))
  k_spec_l11Step_r39)
def k_spec_l11Step : F := ⟨56, [.tmp 2],
  (.seq (.h [.kill [0, 2]] (.reg false [oo 1 (.box (.s 0)),
   oo 2 (.mv (.c (.string ⟨#[]⟩)))]))
  (.seq (.h [.kill [3]] (.reg false [oo 3 (.mv (.c (.string ⟨#[]⟩)))]))
  (.seq (.h [.kill [27], .clean []] (.seq (.h [.kill [5]] (.reg false [oo 5 (.fa 1 (.s 1)),
   oo 6 (.ld 1 false (.s 5))]))
  (.blk 0
   (.seq (.h [.kill [11]] (.reg false [oo 11 (.bin .eql (.s 6) (.c (.int .i64 1))),
    oo 10 (.mv (.s 11))]))
   (.cond (.s 10)
    (.h [.kill [6, 10, 12, 13, 14, 15, 16]] (.reg false [oo 12 (.fa 2 (.s 1)),
     oo 13 (.ld 1 false (.s 12)),
     oo 14 (.fa 3 (.s 1)),
     oo 15 (.ld 1 false (.s 14)),
     oo 16 (.call n_spec_JoinName [] [] [(.s 13), (.s 15)]),
     oo 3 (.mv (.s 16))]))
    (.seq (.h [.kill [10, 18]] (.reg false [oo 18 (.bin .eql (.s 6) (.c (.int .i64 2))),
     oo 17 (.mv (.s 18))]))
    (.cond (.s 17)
     (.h [.kill [6, 17]] (.reg false [oo 3 (.mv (.c (.string ⟨#[42]⟩)))]))
     (.seq (.h [.kill [17, 20]] (.reg false [oo 20 (.bin .eql (.s 6) (.c (.int .i64 3))),
      oo 19 (.mv (.s 20))]))
     (.cond (.s 19)
      (.h [.kill [6, 19]] (.reg false [oo 3 (.mv (.c (.string ⟨#[116, 101, 120, 116, 40, 41]⟩)))]))
      (.seq (.h [.kill [19, 22]] (.reg false [oo 22 (.bin .eql (.s 6) (.c (.int .i64 4))),
       oo 21 (.mv (.s 22))]))
      (.cond (.s 21)
       (.h [.kill [6, 21]] (.reg false [oo 3 (.mv (.c (.string ⟨#[99, 111, 109, 109, 101, 110, 116, 40, 41]⟩)))]))
       (.seq (.h [.kill [21, 24]] (.reg false [oo 24 (.bin .eql (.s 6) (.c (.int .i64 5))),
        oo 23 (.mv (.s 24))]))
       (.cond (.s 23)
        (.seq (.h [.kill [6, 23]] (.reg false [oo 3 (.mv (.c (.string ⟨#[112, 114, 111, 99, 101, 115, 115, 105, 110, 103, 45, 105, 110, 115, 116, 114, 117, 99, 116, 105, 111, 110, 40, 41]⟩)))]))
        (.seq (.h [.kill [25, 26]] (.reg false [oo 25 (.fa 3 (.s 1)),
         oo 26 (.ld 1 false (.s 25)),
         oo 27 (.bin .neq (.s 26) (.c (.string ⟨#[]⟩)))]))
        (.cond (.s 27)
         (.h [.kill [27, 28, 29, 30, 31]] (.reg false [oo 28 (.fa 3 (.s 1)),
          oo 29 (.ld 1 false (.s 28)),
          oo 30 (.bin .add (.c (.string ⟨#[112, 114, 111, 99, 101, 115, 115, 105, 110, 103, 45, 105, 110, 115, 116, 114, 117, 99, 116, 105, 111, 110, 40, 39]⟩)) (.s 29)),
          oo 31 (.bin .add (.s 30) (.c (.string ⟨#[39, 41]⟩))),
          oo 3 (.mv (.s 31))]))
         .skip)))
        (.seq (.h [.kill [6, 23, 33]] (.reg false [oo 33 (.bin .eql (.s 6) (.c (.int .i64 6))),
         oo 32 (.mv (.s 33))]))
        (.cond (.s 32)
         (.h [.kill [32, 34, 35, 36, 37, 38, 39]] (.reg false [oo 34 (.fa 2 (.s 1)),
          oo 35 (.ld 1 false (.s 34)),
          oo 36 (.fa 3 (.s 1)),
          oo 37 (.ld 1 false (.s 36)),
          oo 38 (.call n_spec_JoinName [] [] [(.s 35), (.s 37)]),
          oo 39 (.bin .add (.c (.string ⟨#[64]⟩)) (.s 38)),
          oo 3 (.mv (.s 39))]))
         (.h [.kill [7, 8, 9, 32]] (.reg false [oo 7 (.fa 3 (.s 1)),
          oo 8 (.ld 1 false (.s 7)),
          oo 9 (.bin .add (.c (.string ⟨#[110, 97, 109, 101, 115, 112, 97, 99, 101, 58, 58]⟩)) (.s 8)),
          oo 3 (.mv (.s 9))])))))))))))))))))
  k_spec_l11Step_r4)))⟩

def k_impl_SelOk_l8 : K :=
  (.h [.clean [5]] (.seq (.reg false [oo 13 (.bin .lss (.s 12) (.s 11))])
  (.seq (.cond (.s 13)
   .skip
   (.ex 0))
  (.seq (.blk 1
   (.seq (.h [.kill [13, 14, 15, 16]] (.reg false [oo 14 (.mv (.s 12)),
    oo 15 (.ia 5 (.s 10) (.s 12)),
    oo 16 (.ld 5 true (.s 15)),
    oo 5 (.alloc [.v (.bool false), .v (.int .i64 0), .v (.string ⟨#[]⟩), .v (.string ⟨#[]⟩), .sl true []]),
    oo 4 (.mv (.s 14)),
    on (.st 5 (.s 5) (.s 16))]))
   (.seq (.h [.kill [4, 5, 17, 18, 19, 20, 21, 22]] (.reg false [oo 17 (.ld 5 true (.s 5)),
    oo 18 (.mv (.s 4)),
    oo 19 (.mv (.s 3)),
    oo 20 (.bin .sub (.s 19) (.c (.int .i64 1))),
    oo 21 (.bin .eql (.s 18) (.s 20)),
    oo 22 (.call n_impl_stepOk [] [] [(.s 17), (.s 21)]),
    oo 23 (.un .not (.s 22))]))
   (.cond (.s 23)
    (.seq (.h [.kill [1, 3, 10, 11, 12, 23]] (.reg false [oo 2 (.mv (.c (.bool false)))]))
    .ret)
    .skip))))
  (.h [.kill [23, 24]] (.reg false [oo 24 (.bin .add (.s 12) (.c (.int .i64 1))),
   oo 12 (.mv (.s 24))]))))))
def k_impl_SelOk_r4 : K :=
  (.seq (.h [.kill [1, 3, 10, 11, 12, 13, 25, 26, 27, 28, 29, 30, 31, 32, 33, 34, 35, 36, 37, 38, 39, 40]] (.reg false [oo 25 (.fa 0 (.s 1)),
   oo 26 (.ld 1 false (.s 25)),
   oo 27 (.call n_impl_valOk [] [] [(.s 26)]),
   oo 28 (.mv (.s 27)),
   ow 29 28 true (.mv (.s 3)),
   ow 30 28 true (.bin .leq (.s 29) (.c (.int .i64 8))),
   oo 31 (.pick (.s 28) (.s 30) (.c (.bool false))),
   oo 32 (.mv (.s 31)),
   ow 33 32 true (.mv (.s 3)),
   ow 34 32 true (.bin .gtr (.s 33) (.c (.int .i64 0))),
   ow 35 32 true (.mv (.s 34)),
   ow 36 35 false (.fa 0 (.s 1)),
   ow 37 35 false (.ld 1 false (.s 36)),
   ow 38 35 false (.bin .neq (.s 37) (.c (.string ⟨#[]⟩))),
   ow 39 32 true (.pick (.s 35) (.c (.bool true)) (.s 38)),
   oo 40 (.pick (.s 32) (.s 39) (.c (.bool false))),
   oo 2 (.mv (.s 40))]))
  .ret)
def k_impl_SelOk : F := ⟨41, [.tmp 2],
  (.seq (.h [.kill [0, 2]] (.reg false [oo 1 (.box (.s 0)),
   oo 2 (.mv (.c (.bool false)))]))
  (.seq (.h [.kill [6, 7, 8]] (.reg false [oo 6 (.fa 1 (.s 1)),
   oo 7 (.ld 1 false (.s 6)),
   oo 8 (.len false (.s 7)),
   oo 3 (.mv (.s 8))]))
  (.seq (.seq (.h [.clean []] (.h [.kill [9]] (.reg false [oo 9 (.fa 1 (.s 1)),
   oo 10 (.ld 1 false (.s 9)),
   oo 11 (.len false (.s 10)),
   oo 12 (.mv (.c (.int .i64 0)))])))
  (.blk 0
   (.loop k_impl_SelOk_l8)))
  k_impl_SelOk_r4)))⟩

def k_impl_quotedVal : F := ⟨11, [.tmp 2],
  (.seq (.h [.kill [2]] (.reg false [oo 2 (.mv (.c (.string ⟨#[]⟩)))]))
  (.seq (.seq (.h [.kill [3]] (.reg false [oo 3 (.mv (.s 0)),
   oo 4 (.call n_strings_Contains [] [] [(.s 3), (.c (.string ⟨#[39]⟩))])]))
  (.cond (.s 4)
   (.seq (.h [.kill [0, 4, 5, 6, 7]] (.reg false [oo 5 (.mv (.s 0)),
    oo 6 (.bin .add (.c (.string ⟨#[34]⟩)) (.s 5)),
    oo 7 (.bin .add (.s 6) (.c (.string ⟨#[34]⟩))),
    oo 2 (.mv (.s 7))]))
   .ret)
   .skip))
  (.seq (.h [.kill [0, 4, 8, 9, 10]] (.reg false [oo 8 (.mv (.s 0)),
   oo 9 (.bin .add (.c (.string ⟨#[39]⟩)) (.s 8)),
   oo 10 (.bin .add (.s 9) (.c (.string ⟨#[39]⟩))),
   oo 2 (.mv (.s 10))]))
  .ret)))⟩

def k_impl_stepText : F := ⟨38, [.tmp 2],
  (.seq (.h [.kill [0, 2]] (.reg false [oo 1 (.box (.s 0)),
   oo 2 (.mv (.c (.string ⟨#[]⟩)))]))
  (.seq (.seq (.h [.kill [3]] (.reg false [oo 3 (.fa 1 (.s 1)),
   oo 4 (.ld 1 false (.s 3))]))
  (.blk 0
   (.seq (.h [.kill [6]] (.reg false [oo 6 (.bin .eql (.s 4) (.c (.int .i64 2))),
    oo 5 (.mv (.s 6))]))
   (.cond (.s 5)
    (.seq (.h [.kill [1, 4, 5]] (.reg false [oo 2 (.mv (.c (.string ⟨#[42]⟩)))]))
    .ret)
    (.seq (.h [.kill [5, 8]] (.reg false [oo 8 (.bin .eql (.s 4) (.c (.int .i64 3))),
     oo 7 (.mv (.s 8))]))
    (.cond (.s 7)
     (.seq (.h [.kill [1, 4, 7]] (.reg false [oo 2 (.mv (.c (.string ⟨#[116, 101, 120, 116, 40, 41]⟩)))]))
     .ret)
     (.seq (.h [.kill [7, 10]] (.reg false [oo 10 (.bin .eql (.s 4) (.c (.int .i64 4))),
      oo 9 (.mv (.s 10))]))
     (.cond (.s 9)
      (.seq (.h [.kill [1, 4, 9]] (.reg false [oo 2 (.mv (.c (.string ⟨#[99, 111, 109, 109, 101, 110, 116, 40, 41]⟩)))]))
      .ret)
      (.seq (.h [.kill [9, 12]] (.reg false [oo 12 (.bin .eql (.s 4) (.c (.int .i64 5))),
       oo 11 (.mv (.s 12))]))
      (.cond (.s 11)
       (.seq (.seq (.h [.kill [4, 11, 13, 14]] (.reg false [oo 13 (.fa 3 (.s 1)),
        oo 14 (.ld 1 false (.s 13)),
        oo 15 (.bin .eql (.s 14) (.c (.string ⟨#[]⟩)))]))
       (.cond (.s 15)
        (.seq (.h [.kill [1, 15]] (.reg false [oo 2 (.mv (.c (.string ⟨#[112, 114, 111, 99, 101, 115, 115, 105, 110, 103, 45, 105, 110, 115, 116, 114, 117, 99, 116, 105, 111, 110, 40, 41]⟩)))]))
        .ret)
        .skip))
       (.seq (.h [.kill [1, 15, 16, 17, 18, 19]] (.reg false [oo 16 (.fa 3 (.s 1)),
        oo 17 (.ld 1 false (.s 16)),
        oo 18 (.bin .add (.c (.string ⟨#[112, 114, 111, 99, 101, 115, 115, 105, 110, 103, 45, 105, 110, 115, 116, 114, 117, 99, 116, 105, 111, 110, 40, 39]⟩)) (.s 17)),
        oo 19 (.bin .add (.s 18) (.c (.string ⟨#[39, 41]⟩))),
        oo 2 (.mv (.s 19))]))
       .ret))
       (.seq (.h [.kill [11, 21]] (.reg false [oo 21 (.bin .eql (.s 4) (.c (.int .i64 6))),
        oo 20 (.mv (.s 21))]))
       (.cond (.s 20)
        (.seq (.h [.kill [1, 4, 20, 22, 23, 24, 25, 26, 27]] (.reg false [oo 22 (.fa 2 (.s 1)),
         oo 23 (.ld 1 false (.s 22)),
         oo 24 (.fa 3 (.s 1)),
         oo 25 (.ld 1 false (.s 24)),
         oo 26 (.call n_impl_JoinName [] [] [(.s 23), (.s 25)]),
         oo 27 (.bin .add (.c (.string ⟨#[64]⟩)) (.s 26)),
         oo 2 (.mv (.s 27))]))
        .ret)
        (.seq (.h [.kill [4, 20, 29]] (.reg false [oo 29 (.bin .eql (.s 4) (.c (.int .i64 7))),
         oo 28 (.mv (.s 29))]))
        (.cond (.s 28)
         (.seq (.h [.kill [1, 28, 30, 31, 32]] (.reg false [oo 30 (.fa 3 (.s 1)),
          oo 31 (.ld 1 false (.s 30)),
          oo 32 (.bin .add (.c (.string ⟨#[110, 97, 109, 101, 115, 112, 97, 99, 101, 58, 58]⟩)) (.s 31)),
          oo 2 (.mv (.s 32))]))
         .ret)
         .skip))))))))))))))
  (.seq (.h [.kill [1, 28, 33, 34, 35, 36, 37]] (.reg false [oo 33 (.fa 2 (.s 1)),
   oo 34 (.ld 1 false (.s 33)),
   oo 35 (.fa 3 (.s 1)),
   oo 36 (.ld 1 false (.s 35)),
   oo 37 (.call n_impl_JoinName [] [] [(.s 34), (.s 36)]),
   oo 2 (.mv (.s 37))]))
  .ret)))⟩

def k_impl_predText : F := ⟨45, [.tmp 2],
  (.seq (.h [.kill [0, 2]] (.reg false [oo 1 (.box (.s 0)),
   oo 2 (.mv (.c (.string ⟨#[]⟩)))]))
  (.seq (.seq (.h [.kill [3]] (.reg false [oo 3 (.fa 0 (.s 1)),
   oo 4 (.ld 1 false (.s 3))]))
  (.blk 0
   (.seq (.h [.kill [6]] (.reg false [oo 6 (.bin .eql (.s 4) (.c (.int .i64 1))),
    oo 5 (.mv (.s 6))]))
   (.cond (.s 5)
    (.seq (.h [.kill [1, 4, 5, 7, 8, 9, 10, 11]] (.reg false [oo 7 (.fa 1 (.s 1)),
     oo 8 (.ld 1 false (.s 7)),
     oo 9 (.call n_strconv_Itoa [] [] [(.s 8)]),
     oo 10 (.bin .add (.c (.string ⟨#[91]⟩)) (.s 9)),
     oo 11 (.bin .add (.s 10) (.c (.string ⟨#[93]⟩))),
     oo 2 (.mv (.s 11))]))
    .ret)
    (.seq (.h [.kill [5, 13]] (.reg false [oo 13 (.bin .eql (.s 4) (.c (.int .i64 2))),
     oo 12 (.mv (.s 13))]))
    (.cond (.s 12)
     (.seq (.h [.kill [1, 4, 12, 14, 15, 16, 17, 18, 19, 20, 21, 22, 23, 24, 25]] (.reg true [⟨some 14, none, .fa 2 (.s 1), [], []⟩,
      ⟨some 15, none, .ld 1 false (.s 14), [1], []⟩,
      ⟨some 16, none, .fa 3 (.s 1), [], []⟩,
      ⟨some 17, none, .ld 1 false (.s 16), [1], []⟩,
      ⟨some 18, none, .call n_impl_JoinName [] [] [(.s 15), (.s 17)], [1], []⟩,
      ⟨some 19, none, .bin .add (.c (.string ⟨#[91, 64]⟩)) (.s 18), [], []⟩,
      ⟨some 20, none, .bin .add (.s 19) (.c (.string ⟨#[61]⟩)), [], []⟩,
      ⟨some 21, none, .fa 4 (.s 1), [], []⟩,
      ⟨some 22, none, .ld 1 false (.s 21), [1], []⟩,
      ⟨some 23, none, .call n_impl_quotedVal [] [] [(.s 22)], [1], []⟩,
      ⟨some 24, none, .bin .add (.s 20) (.s 23), [], []⟩,
      ⟨some 25, none, .bin .add (.s 24) (.c (.string ⟨#[93]⟩)), [], []⟩,
      ⟨some 2, none, .mv (.s 25), [], []⟩]))
     .ret)
     (.seq (.h [.kill [4, 12, 27]] (.reg false [oo 27 (.bin .eql (.s 4) (.c (.int .i64 3))),
      oo 26 (.mv (.s 27))]))
     (.cond (.s 26)
      (.seq (.h [.kill [1, 26, 28, 29, 30, 31, 32, 33, 34, 35, 36, 37, 38, 39]] (.reg true [⟨some 28, none, .fa 2 (.s 1), [], []⟩,
       ⟨some 29, none, .ld 1 false (.s 28), [1], []⟩,
       ⟨some 30, none, .fa 3 (.s 1), [], []⟩,
       ⟨some 31, none, .ld 1 false (.s 30), [1], []⟩,
       ⟨some 32, none, .call n_impl_JoinName [] [] [(.s 29), (.s 31)], [1], []⟩,
       ⟨some 33, none, .bin .add (.c (.string ⟨#[91]⟩)) (.s 32), [], []⟩,
       ⟨some 34, none, .bin .add (.s 33) (.c (.string ⟨#[61]⟩)), [], []⟩,
       ⟨some 35, none, .fa 4 (.s 1), [], []⟩,
       ⟨some 36, none, .ld 1 false (.s 35), [1], []⟩,
       ⟨some 37, none, .call n_impl_quotedVal [] [] [(.s 36)], [1], []⟩,
       ⟨some 38, none, .bin .add (.s 34) (.s 37), [], []⟩,
       ⟨some 39, none, .bin .add (.s 38) (.c (.string ⟨#[93]⟩)), [], []⟩,
       ⟨some 2, none, .mv (.s 39), [], []⟩]))
      .ret)
      .skip))))))))
  (.seq (.h [.kill [1, 26, 40, 41, 42, 43, 44]] (.reg false [oo 40 (.fa 4 (.s 1)),
   oo 41 (.ld 1 false (.s 40)),
   oo 42 (.call n_impl_quotedVal [] [] [(.s 41)]),
   oo 43 (.bin .add (.c (.string ⟨#[91, 46, 61]⟩)) (.s 42)),
   oo 44 (.bin .add (.s 43) (.c (.string ⟨#[93]⟩))),
   oo 2 (.mv (.s 44))]))
  .ret)))⟩

def k_laws_eqStepS_l14 : K :=
  (.h [.clean []] (.seq (.seq (.h [.kill [11, 12, 13]] (.reg false [oo 11 (.mv (.s 5)),
   oo 12 (.mv (.s 0)),
   oo 13 (.len false (.s 12)),
   oo 14 (.bin .lss (.s 11) (.s 13))]))
  (.cond (.s 14)
   .skip
   (.ex 0)))
  (.seq (.blk 1
   (.seq (.h [.kill [14, 17, 18, 19, 20, 21, 22, 23, 24, 25]] (.reg true [⟨some 17, none, .mv (.s 0), [], []⟩,
    ⟨some 18, none, .mv (.s 5), [], []⟩,
    ⟨some 19, none, .ia 5 (.s 17) (.s 18), [0], []⟩,
    ⟨some 20, none, .ld 5 true (.s 19), [0], []⟩,
    ⟨some 21, none, .mv (.s 1), [], []⟩,
    ⟨some 22, none, .mv (.s 5), [], []⟩,
    ⟨some 23, none, .ia 5 (.s 21) (.s 22), [1], []⟩,
    ⟨some 24, none, .ld 5 true (.s 23), [1], []⟩,
    ⟨some 25, none, .call n_laws_eqStep [] [] [(.s 20), (.s 24)], [0, 1], []⟩,
    ⟨some 26, none, .un .not (.s 25), [], []⟩]))
   (.cond (.s 26)
    (.seq (.h [.kill [0, 1, 5, 26]] (.reg false [oo 4 (.mv (.c (.bool false)))]))
    .ret)
    .skip)))
  (.h [.kill [15, 16, 26]] (.reg false [oo 15 (.mv (.s 5)),
   oo 16 (.bin .add (.s 15) (.c (.int .i64 1))),
   oo 5 (.mv (.s 16))])))))
def k_laws_eqStepS_r10 : K :=
  (.seq (.h [.kill [0, 1, 5, 14]] (.reg false [oo 4 (.mv (.c (.bool true)))]))
  .ret)
def k_laws_eqStepS : F := ⟨27, [.tmp 4],
  (.seq (.h [.kill [4]] (.reg false [oo 4 (.mv (.c (.bool false)))]))
  (.seq (.seq (.h [.kill [6, 7, 8, 9]] (.reg false [oo 6 (.mv (.s 0)),
   oo 7 (.len false (.s 6)),
   oo 8 (.mv (.s 1)),
   oo 9 (.len false (.s 8)),
   oo 10 (.bin .neq (.s 7) (.s 9))]))
  (.cond (.s 10)
   (.seq (.h [.kill [0, 1, 10]] (.reg false [oo 4 (.mv (.c (.bool false)))]))
   .ret)
   .skip))
  (.seq (.seq (.h [.clean []] (.h [.kill [10]] (.reg false [oo 5 (.mv (.c (.int .i64 0)))])))
  (.blk 0
   (.loop k_laws_eqStepS_l14)))
  k_laws_eqStepS_r10)))⟩

def k_laws_szStep : F := ⟨26, [.tmp 4],
  (.seq (.h [.kill [0, 4]] (.reg false [oo 2 (.box (.s 0)),
   oo 4 (.mv (.c (.int .i64 0)))]))
  (.seq (.h [.kill [5, 6, 7, 8, 9]] (.reg false [oo 5 (.mv (.s 1)),
   oo 6 (.fa 2 (.s 2)),
   oo 7 (.ld 1 false (.s 6)),
   oo 8 (.len true (.s 7)),
   oo 9 (.bin .sub (.s 5) (.s 8)),
   oo 1 (.mv (.s 9))]))
  (.seq (.seq (.h [.kill [10]] (.reg false [oo 10 (.mv (.s 1)),
   oo 11 (.bin .lss (.s 10) (.c (.int .i64 0)))]))
  (.cond (.s 11)
   (.seq (.h [.kill [1, 2, 11]] (.reg false [oo 4 (.mv (.c (.int .i64 (-1))))]))
   .ret)
   .skip))
  (.seq (.h [.kill [11, 12, 13, 14, 15, 16]] (.reg false [oo 12 (.mv (.s 1)),
   oo 13 (.fa 3 (.s 2)),
   oo 14 (.ld 1 false (.s 13)),
   oo 15 (.len true (.s 14)),
   oo 16 (.bin .sub (.s 12) (.s 15)),
   oo 1 (.mv (.s 16))]))
  (.seq (.seq (.h [.kill [17]] (.reg false [oo 17 (.mv (.s 1)),
   oo 18 (.bin .lss (.s 17) (.c (.int .i64 0)))]))
  (.cond (.s 18)
   (.seq (.h [.kill [1, 2, 18]] (.reg false [oo 4 (.mv (.c (.int .i64 (-1))))]))
   .ret)
   .skip))
  (.seq (.h [.kill [2, 18, 19, 20, 21, 22]] (.reg false [oo 19 (.fa 4 (.s 2)),
   oo 20 (.ld 1 false (.s 19)),
   oo 21 (.mv (.s 1)),
   oo 22 (.call n_laws_szPredS [] [] [(.s 20), (.s 21)]),
   oo 1 (.mv (.s 22))]))
  (.seq (.seq (.h [.kill [23]] (.reg false [oo 23 (.mv (.s 1)),
   oo 24 (.bin .lss (.s 23) (.c (.int .i64 0)))]))
  (.cond (.s 24)
   (.seq (.h [.kill [1, 24]] (.reg false [oo 4 (.mv (.c (.int .i64 (-1))))]))
   .ret)
   .skip))
  (.seq (.h [.kill [1, 24, 25]] (.reg false [oo 25 (.mv (.s 1)),
   oo 4 (.mv (.s 25))]))
  .ret))))))))⟩

def k_laws_toStep : F := ⟨21, [.cell 2 5 true],
  (.seq (.h [.kill [0]] (.reg false [oo 1 (.box (.s 0)),
   oo 2 (.alloc [.v (.bool false), .v (.int .i64 0), .v (.string ⟨#[]⟩), .v (.string ⟨#[]⟩), .sl true []])]))
  (.seq (.reg false [oo 3 (.alloc [.v (.bool false), .v (.int .i64 0), .v (.string ⟨#[]⟩), .v (.string ⟨#[]⟩), .sl true []])])
  (.seq (.h [.kill [4, 5, 6]] (.reg false [oo 4 (.fa 0 (.s 1)),
   oo 5 (.ld 1 false (.s 4)),
   oo 6 (.fa 0 (.s 3)),
   on (.st 1 (.s 6) (.s 5))]))
  (.seq (.h [.kill [7, 8, 9]] (.reg false [oo 7 (.fa 1 (.s 1)),
   oo 8 (.ld 1 false (.s 7)),
   oo 9 (.fa 1 (.s 3)),
   on (.st 1 (.s 9) (.s 8))]))
  (.seq (.h [.kill [10, 11, 12]] (.reg false [oo 10 (.fa 2 (.s 1)),
   oo 11 (.ld 1 false (.s 10)),
   oo 12 (.fa 2 (.s 3)),
   on (.st 1 (.s 12) (.s 11))]))
  (.seq (.h [.kill [13, 14, 15]] (.reg false [oo 13 (.fa 3 (.s 1)),
   oo 14 (.ld 1 false (.s 13)),
   oo 15 (.fa 3 (.s 3)),
   on (.st 1 (.s 15) (.s 14))]))
  (.seq (.h [.kill [1, 16, 17, 18, 19]] (.reg false [oo 16 (.fa 4 (.s 1)),
   oo 17 (.ld 1 false (.s 16)),
   oo 18 (.call n_laws_toPredS [] [true] [(.s 17)]),
   oo 19 (.fa 4 (.s 3)),
   on (.st 1 (.s 19) (.s 18))]))
  (.seq (.h [.kill [3, 20]] (.reg false [oo 20 (.ld 5 true (.s 3)),
   on (.st 5 (.s 2) (.s 20))]))
  .ret))))))))⟩

def k_spec_l11StepOk_l14 : K :=
  (.h [.clean []] (.seq (.seq (.h [.kill [29, 30, 31, 32]] (.reg false [oo 29 (.mv (.s 5)),
   oo 30 (.fa 4 (.s 2)),
   oo 31 (.ld 1 false (.s 30)),
   oo 32 (.len false (.s 31)),
   oo 33 (.bin .lss (.s 29) (.s 32))]))
  (.cond (.s 33)
   .skip
   (.ex 0)))
  (.seq (.blk 1
   (.seq (.h [.kill [33, 36, 37, 38, 39, 40, 41, 42, 43]] (.reg true [⟨some 36, none, .fa 4 (.s 2), [], []⟩,
    ⟨some 37, none, .ld 1 false (.s 36), [2], []⟩,
    ⟨some 38, none, .mv (.s 5), [], []⟩,
    ⟨some 39, none, .ia 5 (.s 37) (.s 38), [2], []⟩,
    ⟨some 40, none, .ld 5 true (.s 39), [2], []⟩,
    ⟨some 41, none, .fa 1 (.s 2), [], []⟩,
    ⟨some 42, none, .ld 1 false (.s 41), [2], []⟩,
    ⟨some 43, none, .call n_spec_l11PredOk [] [] [(.s 40), (.s 42)], [2], []⟩,
    ⟨some 44, none, .un .not (.s 43), [], []⟩]))
   (.cond (.s 44)
    (.seq (.h [.kill [2, 5, 44]] (.reg false [oo 4 (.mv (.c (.bool false)))]))
    .ret)
    .skip)))
  (.h [.kill [34, 35, 44]] (.reg false [oo 34 (.mv (.s 5)),
   oo 35 (.bin .add (.s 34) (.c (.int .i64 1))),
   oo 5 (.mv (.s 35))])))))
def k_spec_l11StepOk_r45 : K :=
  (.cond (.s 56)
   (.seq (.h [.kill [2, 46, 56, 60, 61, 62, 63, 64, 65, 66, 67]] (.reg false [oo 60 (.fa 2 (.s 2)),
    oo 61 (.ld 1 false (.s 60)),
    oo 62 (.bin .eql (.s 61) (.c (.string ⟨#[]⟩))),
    oo 63 (.mv (.s 62)),
    ow 64 63 true (.fa 3 (.s 2)),
    ow 65 63 true (.ld 1 false (.s 64)),
    ow 66 63 true (.bin .eql (.s 65) (.c (.string ⟨#[]⟩))),
    oo 67 (.pick (.s 63) (.s 66) (.c (.bool false))),
    oo 4 (.mv (.s 67))]))
   .ret)
   (.seq (.h [.kill [46, 56, 69]] (.reg false [oo 69 (.bin .eql (.s 46) (.c (.int .i64 5))),
    oo 68 (.mv (.s 69))]))
   (.cond (.s 68)
    (.seq (.h [.kill [2, 68, 70, 71, 72, 73, 74, 75, 76, 77, 78, 79, 80, 81, 82]] (.reg false [oo 70 (.fa 2 (.s 2)),
     oo 71 (.ld 1 false (.s 70)),
     oo 72 (.bin .eql (.s 71) (.c (.string ⟨#[]⟩))),
     oo 73 (.mv (.s 72)),
     ow 74 73 true (.fa 3 (.s 2)),
     ow 75 73 true (.ld 1 false (.s 74)),
     ow 76 73 true (.bin .eql (.s 75) (.c (.string ⟨#[]⟩))),
     ow 77 73 true (.mv (.s 76)),
     ow 78 77 false (.fa 3 (.s 2)),
     ow 79 77 false (.ld 1 false (.s 78)),
     ow 80 77 false (.call n_spec_PlainOk [] [] [(.s 79)]),
     ow 81 73 true (.pick (.s 77) (.c (.bool true)) (.s 80)),
     oo 82 (.pick (.s 73) (.s 81) (.c (.bool false))),
     oo 4 (.mv (.s 82))]))
    .ret)
    .skip)))
def k_spec_l11StepOk_r35 : K :=
  (.cond (.s 47)
   (.seq (.h [.kill [2, 46, 47, 50, 51, 52, 53, 54, 55]] (.reg false [oo 50 (.fa 2 (.s 2)),
    oo 51 (.ld 1 false (.s 50)),
    oo 52 (.fa 3 (.s 2)),
    oo 53 (.ld 1 false (.s 52)),
    oo 54 (.call n_spec_JoinName [] [] [(.s 51), (.s 53)]),
    oo 55 (.bin .neq (.s 54) (.c (.string ⟨#[]⟩))),
    oo 4 (.mv (.s 55))]))
   .ret)
   (.seq (.h [.clean []] (.seq (.h [.kill [47, 57]] (.reg false [oo 57 (.bin .eql (.s 46) (.c (.int .i64 2))),
    oo 56 (.mv (.s 57))]))
   (.cond (.s 56)
    .skip
    (.seq (.h [.kill [58]] (.reg false [oo 58 (.bin .eql (.s 46) (.c (.int .i64 3))),
     oo 56 (.mv (.s 58))]))
    (.cond (.s 56)
     .skip
     (.h [.kill [59]] (.reg false [oo 59 (.bin .eql (.s 46) (.c (.int .i64 4))),
      oo 56 (.mv (.s 59))])))))))
   k_spec_l11StepOk_r45))
def k_spec_l11StepOk_r31 : K :=
  (.seq (.h [.kill [2, 68, 83, 84, 85, 86, 87, 88, 89, 90, 91, 92, 93, 94, 95]] (.reg false [oo 83 (.fa 1 (.s 2)),
   oo 84 (.ld 1 false (.s 83)),
   oo 85 (.bin .eql (.s 84) (.c (.int .i64 7))),
   oo 86 (.mv (.s 85)),
   ow 87 86 true (.fa 2 (.s 2)),
   ow 88 86 true (.ld 1 false (.s 87)),
   ow 89 86 true (.bin .eql (.s 88) (.c (.string ⟨#[]⟩))),
   oo 90 (.pick (.s 86) (.s 89) (.c (.bool false))),
   oo 91 (.mv (.s 90)),
   ow 92 91 true (.fa 3 (.s 2)),
   ow 93 91 true (.ld 1 false (.s 92)),
   ow 94 91 true (.call n_spec_PlainOk [] [] [(.s 93)]),
   oo 95 (.pick (.s 91) (.s 94) (.c (.bool false))),
   oo 4 (.mv (.s 95))]))
  .ret)
def k_spec_l11StepOk_r10 : K :=
  (.seq (.seq (.h [.kill [5, 33, 45]] (.reg false [oo 45 (.fa 1 (.s 2)),
   oo 46 (.ld 1 false (.s 45))]))
  (.blk 2
   (.seq (.h [.clean []] (.seq (.h [.kill [48]] (.reg false [oo 48 (.bin .eql (.s 46) (.c (.int .i64 1))),
    oo 47 (.mv (.s 48))]))
   (.cond (.s 47)
    .skip
    (.h [.kill [49]] (.reg false [oo 49 (.bin .eql (.s 46) (.c (.int .i64 6))),
     oo 47 (.mv (.s 49))])))))
   k_spec_l11StepOk_r35)))
  k_spec_l11StepOk_r31)
def k_spec_l11StepOk_r2 : K :=
  (.seq (.seq (.h [.clean []] (.h [.kill [28]] (.reg false [oo 5 (.mv (.c (.int .i64 0)))])))
  (.blk 0
   (.loop k_spec_l11StepOk_l14)))
  k_spec_l11StepOk_r10)
def k_spec_l11StepOk : F := ⟨96, [.tmp 4],
  (.seq (.h [.kill [0, 4]] (.reg false [oo 2 (.box (.s 0)),
   oo 4 (.mv (.c (.bool false)))]))
  (.seq (.h [.kill [28], .clean []] (.seq (.h [.kill [1, 6, 7, 8, 9, 10, 11, 12, 13, 14, 15, 16, 17, 18, 19, 20, 21, 22, 23, 24, 25, 26, 27]] (.reg false [oo 6 (.fa 4 (.s 2)),
   oo 7 (.ld 1 false (.s 6)),
   oo 8 (.len false (.s 7)),
   oo 9 (.bin .gtr (.s 8) (.c (.int .i64 3))),
   oo 10 (.mv (.s 9)),
   ow 11 10 false (.fa 1 (.s 2)),
   ow 12 10 false (.ld 1 false (.s 11)),
   ow 13 10 false (.bin .geq (.s 12) (.c (.int .i64 6))),
   ow 14 10 false (.mv (.s 13)),
   ow 15 14 true (.mv (.s 1)),
   ow 16 14 true (.un .not (.s 15)),
   ow 17 14 true (.mv (.s 16)),
   ow 18 17 false (.fa 0 (.s 2)),
   ow 19 17 false (.ld 1 false (.s 18)),
   ow 20 14 true (.pick (.s 17) (.c (.bool true)) (.s 19)),
   ow 21 14 true (.mv (.s 20)),
   ow 22 21 false (.fa 4 (.s 2)),
   ow 23 21 false (.ld 1 false (.s 22)),
   ow 24 21 false (.len false (.s 23)),
   ow 25 21 false (.bin .gtr (.s 24) (.c (.int .i64 0))),
   ow 26 14 true (.pick (.s 21) (.c (.bool true)) (.s 25)),
   ow 27 10 false (.pick (.s 14) (.s 26) (.c (.bool false))),
   oo 28 (.pick (.s 10) (.c (.bool true)) (.s 27))]))
  (.cond (.s 28)
   (.seq (.h [.kill [2, 28]] (.reg false [oo 4 (.mv (.c (.bool false)))]))
   .ret)
   .skip)))
  k_spec_l11StepOk_r2))⟩

def k_spec_l11Val : F := ⟨15, [.tmp 2],
  (.seq (.h [.kill [2]] (.reg false [oo 2 (.mv (.c (.bool false)))]))
  (.seq (.h [.kill [0, 3, 4, 5, 6, 7, 8, 9, 10, 11, 12, 13, 14]] (.reg false [oo 3 (.mv (.s 0)),
   oo 4 (.call n_spec_TextOk [] [] [(.s 3)]),
   oo 5 (.mv (.s 4)),
   ow 6 5 true (.mv (.s 0)),
   ow 7 5 true (.call n_spec_l5Has [] [] [(.s 6), (.c (.string ⟨#[39]⟩))]),
   ow 8 5 true (.un .not (.s 7)),
   ow 9 5 true (.mv (.s 8)),
   ow 10 9 false (.mv (.s 0)),
   ow 11 9 false (.call n_spec_l5Has [] [] [(.s 10), (.c (.string ⟨#[34]⟩))]),
   ow 12 9 false (.un .not (.s 11)),
   ow 13 5 true (.pick (.s 9) (.c (.bool true)) (.s 12)),
   oo 14 (.pick (.s 5) (.s 13) (.c (.bool false))),
   oo 2 (.mv (.s 14))]))
  .ret))⟩

def k_spec_l5Has_l6 : K :=
  (.h [.clean []] (.seq (.seq (.h [.kill [6, 7, 8, 9, 10, 11]] (.reg false [oo 6 (.mv (.s 5)),
   oo 7 (.mv (.s 1)),
   oo 8 (.len true (.s 7)),
   oo 9 (.bin .add (.s 6) (.s 8)),
   oo 10 (.mv (.s 0)),
   oo 11 (.len true (.s 10)),
   oo 12 (.bin .leq (.s 9) (.s 11))]))
  (.cond (.s 12)
   .skip
   (.ex 0)))
  (.seq (.blk 1
   (.seq (.h [.kill [12, 15, 16, 17, 18, 19, 20, 21, 22]] (.reg false [oo 15 (.mv (.s 0)),
    oo 16 (.mv (.s 5)),
    oo 17 (.mv (.s 5)),
    oo 18 (.mv (.s 1)),
    oo 19 (.len true (.s 18)),
    oo 20 (.bin .add (.s 17) (.s 19)),
    oo 21 (.slc 0 (.s 15) (some (.s 16)) (some (.s 20))),
    oo 22 (.mv (.s 1)),
    oo 23 (.bin .eql (.s 21) (.s 22))]))
   (.cond (.s 23)
    (.seq (.h [.kill [0, 1, 5, 23]] (.reg false [oo 4 (.mv (.c (.bool true)))]))
    .ret)
    .skip)))
  (.h [.kill [13, 14, 23]] (.reg false [oo 13 (.mv (.s 5)),
   oo 14 (.bin .add (.s 13) (.c (.int .i64 1))),
   oo 5 (.mv (.s 14))])))))
def k_spec_l5Has_r2 : K :=
  (.seq (.h [.kill [0, 1, 5, 12]] (.reg false [oo 4 (.mv (.c (.bool false)))]))
  .ret)
def k_spec_l5Has : F := ⟨24, [.tmp 4],
  (.seq (.h [.kill [4]] (.reg false [oo 4 (.mv (.c (.bool false)))]))
  (.seq (.seq (.h [.clean []] (.reg false [oo 5 (.mv (.c (.int .i64 0)))]))
  (.blk 0
   (.loop k_spec_l5Has_l6)))
  k_spec_l5Has_r2))⟩

def k_spec_JoinName_r4 : K :=
  (.seq (.h [.kill [11, 16, 17, 18, 19, 20, 21]] (.reg false [oo 17 (.mv (.s 5)),
   oo 18 (.call n_spec_SplitName [] [] [(.s 17)]),
   oo 16 (.mv (.s 18)),
   oo 19 (.ext (.s 16) 0),
   oo 20 (.ext (.s 16) 1),
   oo 21 (.ext (.s 16) 2),
   oo 6 (.mv (.s 19)),
   oo 7 (.mv (.s 20)),
   oo 8 (.mv (.s 21))]))
  (.seq (.seq (.h [.kill [0, 1, 6, 7, 8, 22, 23, 24, 25, 26, 27, 28, 29, 30, 31, 32]] (.reg false [oo 22 (.mv (.s 8)),
   oo 23 (.un .not (.s 22)),
   oo 24 (.mv (.s 23)),
   ow 25 24 false (.mv (.s 6)),
   ow 26 24 false (.mv (.s 0)),
   ow 27 24 false (.bin .neq (.s 25) (.s 26)),
   oo 28 (.pick (.s 24) (.c (.bool true)) (.s 27)),
   oo 29 (.mv (.s 28)),
   ow 30 29 false (.mv (.s 7)),
   ow 31 29 false (.mv (.s 1)),
   ow 32 29 false (.bin .neq (.s 30) (.s 31)),
   oo 33 (.pick (.s 29) (.c (.bool true)) (.s 32))]))
  (.cond (.s 33)
   (.seq (.h [.kill [5, 33]] (.reg false [oo 4 (.mv (.c (.string ⟨#[]⟩)))]))
   .ret)
   .skip))
  (.seq (.h [.kill [5, 33, 34]] (.reg false [oo 34 (.mv (.s 5)),
   oo 4 (.mv (.s 34))]))
  .ret)))
def k_spec_JoinName : F := ⟨35, [.tmp 4],
  (.seq (.h [.kill [4]] (.reg false [oo 4 (.mv (.c (.string ⟨#[]⟩)))]))
  (.seq (.h [.kill [9]] (.reg false [oo 9 (.mv (.s 1)),
   oo 5 (.mv (.s 9))]))
  (.seq (.h [.kill [11], .clean []] (.seq (.h [.kill [10]] (.reg false [oo 10 (.mv (.s 0)),
   oo 11 (.bin .neq (.s 10) (.c (.string ⟨#[]⟩)))]))
  (.cond (.s 11)
   (.h [.kill [11, 12, 13, 14, 15]] (.reg false [oo 12 (.mv (.s 0)),
    oo 13 (.bin .add (.s 12) (.c (.string ⟨#[58]⟩))),
    oo 14 (.mv (.s 1)),
    oo 15 (.bin .add (.s 13) (.s 14)),
    oo 5 (.mv (.s 15))]))
   .skip)))
  k_spec_JoinName_r4)))⟩

def k_spec_l11Pred : F := ⟨45, [.tmp 2],
  (.seq (.h [.kill [0, 2]] (.reg false [oo 1 (.box (.s 0)),
   oo 2 (.mv (.c (.string ⟨#[]⟩)))]))
  (.seq (.seq (.h [.kill [3]] (.reg false [oo 3 (.fa 0 (.s 1)),
   oo 4 (.ld 1 false (.s 3))]))
  (.blk 0
   (.seq (.h [.kill [6]] (.reg false [oo 6 (.bin .eql (.s 4) (.c (.int .i64 1))),
    oo 5 (.mv (.s 6))]))
   (.cond (.s 5)
    (.seq (.h [.kill [1, 4, 5, 7, 8, 9, 10, 11]] (.reg false [oo 7 (.fa 1 (.s 1)),
     oo 8 (.ld 1 false (.s 7)),
     oo 9 (.call n_spec_l11Num [] [] [(.s 8)]),
     oo 10 (.bin .add (.c (.string ⟨#[91]⟩)) (.s 9)),
     oo 11 (.bin .add (.s 10) (.c (.string ⟨#[93]⟩))),
     oo 2 (.mv (.s 11))]))
    .ret)
    (.seq (.h [.kill [5, 13]] (.reg false [oo 13 (.bin .eql (.s 4) (.c (.int .i64 2))),
     oo 12 (.mv (.s 13))]))
    (.cond (.s 12)
     (.seq (.h [.kill [1, 4, 12, 14, 15, 16, 17, 18, 19, 20, 21, 22, 23, 24, 25]] (.reg true [⟨some 14, none, .fa 2 (.s 1), [], []⟩,
      ⟨some 15, none, .ld 1 false (.s 14), [1], []⟩,
      ⟨some 16, none, .fa 3 (.s 1), [], []⟩,
      ⟨some 17, none, .ld 1 false (.s 16), [1], []⟩,
      ⟨some 18, none, .call n_spec_JoinName [] [] [(.s 15), (.s 17)], [1], []⟩,
      ⟨some 19, none, .bin .add (.c (.string ⟨#[91, 64]⟩)) (.s 18), [], []⟩,
      ⟨some 20, none, .bin .add (.s 19) (.c (.string ⟨#[61]⟩)), [], []⟩,
      ⟨some 21, none, .fa 4 (.s 1), [], []⟩,
      ⟨some 22, none, .ld 1 false (.s 21), [1], []⟩,
      ⟨some 23, none, .call n_spec_l11Quote [] [] [(.s 22)], [1], []⟩,
      ⟨some 24, none, .bin .add (.s 20) (.s 23), [], []⟩,
      ⟨some 25, none, .bin .add (.s 24) (.c (.string ⟨#[93]⟩)), [], []⟩,
      ⟨some 2, none, .mv (.s 25), [], []⟩]))
     .ret)
     (.seq (.h [.kill [4, 12, 27]] (.reg false [oo 27 (.bin .eql (.s 4) (.c (.int .i64 3))),
      oo 26 (.mv (.s 27))]))
     (.cond (.s 26)
      (.seq (.h [.kill [1, 26, 28, 29, 30, 31, 32, 33, 34, 35, 36, 37, 38, 39]] (.reg true [⟨some 28, none, .fa 2 (.s 1), [], []⟩,
       ⟨some 29, none, .ld 1 false (.s 28), [1], []⟩,
       ⟨some 30, none, .fa 3 (.s 1), [], []⟩,
       ⟨some 31, none, .ld 1 false (.s 30), [1], []⟩,
       ⟨some 32, none, .call n_spec_JoinName [] [] [(.s 29), (.s 31)], [1], []⟩,
       ⟨some 33, none, .bin .add (.c (.string ⟨#[91]⟩)) (.s 32), [], []⟩,
       ⟨some 34, none, .bin .add (.s 33) (.c (.string ⟨#[61]⟩)), [], []⟩,
       ⟨some 35, none, .fa 4 (.s 1), [], []⟩,
       ⟨some 36, none, .ld 1 false (.s 35), [1], []⟩,
       ⟨some 37, none, .call n_spec_l11Quote [] [] [(.s 36)], [1], []⟩,
       ⟨some 38, none, .bin .add (.s 34) (.s 37), [], []⟩,
       ⟨some 39, none, .bin .add (.s 38) (.c (.string ⟨#[93]⟩)), [], []⟩,
       ⟨some 2, none, .mv (.s 39), [], []⟩]))
      .ret)
      .skip))))))))
  (.seq (.h [.kill [1, 26, 40, 41, 42, 43, 44]] (.reg false [oo 40 (.fa 4 (.s 1)),
   oo 41 (.ld 1 false (.s 40)),
   oo 42 (.call n_spec_l11Quote [] [] [(.s 41)]),
   oo 43 (.bin .add (.c (.string ⟨#[91, 46, 61]⟩)) (.s 42)),
   oo 44 (.bin .add (.s 43) (.c (.string ⟨#[93]⟩))),
   oo 2 (.mv (.s 44))]))
  .ret)))⟩

def k_impl_stepOk_r22 : K :=
  (.cond (.s 37)
   (.seq (.h [.kill [2, 5, 29, 37, 41, 42, 43, 44, 45, 46, 47, 48]] (.reg false [oo 41 (.fa 2 (.s 2)),
    oo 42 (.ld 1 false (.s 41)),
    oo 43 (.bin .eql (.s 42) (.c (.string ⟨#[]⟩))),
    oo 44 (.mv (.s 43)),
    ow 45 44 true (.fa 3 (.s 2)),
    ow 46 44 true (.ld 1 false (.s 45)),
    ow 47 44 true (.bin .eql (.s 46) (.c (.string ⟨#[]⟩))),
    oo 48 (.pick (.s 44) (.s 47) (.c (.bool false))),
    oo 4 (.mv (.s 48))]))
   .ret)
   (.seq (.h [.kill [37, 50]] (.reg false [oo 50 (.bin .eql (.s 29) (.c (.int .i64 5))),
    oo 49 (.mv (.s 50))]))
   (.cond (.s 49)
    (.seq (.h [.kill [2, 5, 29, 49, 51, 52, 53, 54, 55, 56, 57, 58, 59, 60, 61, 62, 63]] (.reg false [oo 51 (.fa 2 (.s 2)),
     oo 52 (.ld 1 false (.s 51)),
     oo 53 (.bin .eql (.s 52) (.c (.string ⟨#[]⟩))),
     oo 54 (.mv (.s 53)),
     ow 55 54 true (.fa 3 (.s 2)),
     ow 56 54 true (.ld 1 false (.s 55)),
     ow 57 54 true (.bin .eql (.s 56) (.c (.string ⟨#[]⟩))),
     ow 58 54 true (.mv (.s 57)),
     ow 59 58 false (.fa 3 (.s 2)),
     ow 60 58 false (.ld 1 false (.s 59)),
     ow 61 58 false (.call n_impl_PlainOk [] [] [(.s 60)]),
     ow 62 54 true (.pick (.s 58) (.c (.bool true)) (.s 61)),
     oo 63 (.pick (.s 54) (.s 62) (.c (.bool false))),
     oo 4 (.mv (.s 63))]))
    .ret)
    (.seq (.h [.kill [49, 65]] (.reg false [oo 65 (.bin .eql (.s 29) (.c (.int .i64 6))),
     oo 64 (.mv (.s 65))]))
    (.cond (.s 64)
     (.seq (.h [.kill [2, 5, 29, 64, 66, 67, 68, 69, 70, 71, 72, 73]] (.reg false [oo 66 (.mv (.s 5)),
      oo 67 (.mv (.s 66)),
      ow 68 67 true (.fa 2 (.s 2)),
      ow 69 67 true (.ld 1 false (.s 68)),
      ow 70 67 true (.fa 3 (.s 2)),
      ow 71 67 true (.ld 1 false (.s 70)),
      ow 72 67 true (.call n_impl_nameOk [] [] [(.s 69), (.s 71)]),
      oo 73 (.pick (.s 67) (.s 72) (.c (.bool false))),
      oo 4 (.mv (.s 73))]))
     .ret)
     (.seq (.h [.kill [29, 64, 75]] (.reg false [oo 75 (.bin .eql (.s 29) (.c (.int .i64 7))),
      oo 74 (.mv (.s 75))]))
     (.cond (.s 74)
      (.seq (.h [.kill [2, 5, 74, 76, 77, 78, 79, 80, 81, 82, 83, 84, 85, 86]] (.reg false [oo 76 (.mv (.s 5)),
       oo 77 (.mv (.s 76)),
       ow 78 77 true (.fa 2 (.s 2)),
       ow 79 77 true (.ld 1 false (.s 78)),
       ow 80 77 true (.bin .eql (.s 79) (.c (.string ⟨#[]⟩))),
       oo 81 (.pick (.s 77) (.s 80) (.c (.bool false))),
       oo 82 (.mv (.s 81)),
       ow 83 82 true (.fa 3 (.s 2)),
       ow 84 82 true (.ld 1 false (.s 83)),
       ow 85 82 true (.call n_impl_PlainOk [] [] [(.s 84)]),
       oo 86 (.pick (.s 82) (.s 85) (.c (.bool false))),
       oo 4 (.mv (.s 86))]))
      .ret)
      .skip)))))))
def k_impl_stepOk_r12 : K :=
  (.seq (.h [.kill [2, 5, 74]] (.reg false [oo 4 (.mv (.c (.bool false)))]))
  .ret)
def k_impl_stepOk_r10 : K :=
  (.seq (.seq (.h [.kill [28]] (.reg false [oo 28 (.fa 1 (.s 2)),
   oo 29 (.ld 1 false (.s 28))]))
  (.blk 0
   (.seq (.h [.kill [31]] (.reg false [oo 31 (.bin .eql (.s 29) (.c (.int .i64 1))),
    oo 30 (.mv (.s 31))]))
   (.cond (.s 30)
    (.seq (.h [.kill [2, 5, 29, 30, 32, 33, 34, 35, 36]] (.reg false [oo 32 (.fa 2 (.s 2)),
     oo 33 (.ld 1 false (.s 32)),
     oo 34 (.fa 3 (.s 2)),
     oo 35 (.ld 1 false (.s 34)),
     oo 36 (.call n_impl_nameOk [] [] [(.s 33), (.s 35)]),
     oo 4 (.mv (.s 36))]))
    .ret)
    (.seq (.h [.clean []] (.seq (.h [.kill [30, 38]] (.reg false [oo 38 (.bin .eql (.s 29) (.c (.int .i64 2))),
     oo 37 (.mv (.s 38))]))
    (.cond (.s 37)
     .skip
     (.seq (.h [.kill [39]] (.reg false [oo 39 (.bin .eql (.s 29) (.c (.int .i64 3))),
      oo 37 (.mv (.s 39))]))
     (.cond (.s 37)
      .skip
      (.h [.kill [40]] (.reg false [oo 40 (.bin .eql (.s 29) (.c (.int .i64 4))),
       oo 37 (.mv (.s 40))])))))))
    k_impl_stepOk_r22)))))
  k_impl_stepOk_r12)
def k_impl_stepOk : F := ⟨87, [.tmp 4],
  (.seq (.h [.kill [0, 4]] (.reg false [oo 2 (.box (.s 0)),
   oo 4 (.mv (.c (.bool false)))]))
  (.seq (.seq (.h [.kill [6, 7, 8, 9, 10, 11, 12, 13, 14]] (.reg false [oo 6 (.fa 4 (.s 2)),
   oo 7 (.ld 1 false (.s 6)),
   oo 8 (.len false (.s 7)),
   oo 9 (.bin .gtr (.s 8) (.c (.int .i64 3))),
   oo 10 (.mv (.s 9)),
   ow 11 10 false (.fa 4 (.s 2)),
   ow 12 10 false (.ld 1 false (.s 11)),
   ow 13 10 false (.mkf n_impl_stepOk_1 [(.s 2)]),
   ow 14 10 false (.call n_slices_ContainsFunc_Pred [] [] [(.s 12), (.s 13)]),
   oo 15 (.pick (.s 10) (.c (.bool true)) (.s 14))]))
  (.cond (.s 15)
   (.seq (.h [.kill [1, 2, 15]] (.reg false [oo 4 (.mv (.c (.bool false)))]))
   .ret)
   .skip))
  (.seq (.h [.clean []] (.h [.kill [1, 15, 16, 17, 18, 19, 20, 21, 22, 23, 24, 25, 26, 27]] (.reg false [oo 16 (.mv (.s 1)),
   oo 17 (.mv (.s 16)),
   ow 18 17 true (.fa 0 (.s 2)),
   ow 19 17 true (.ld 1 false (.s 18)),
   ow 20 17 true (.un .not (.s 19)),
   oo 21 (.pick (.s 17) (.s 20) (.c (.bool false))),
   oo 22 (.mv (.s 21)),
   ow 23 22 true (.fa 4 (.s 2)),
   ow 24 22 true (.ld 1 false (.s 23)),
   ow 25 22 true (.len false (.s 24)),
   ow 26 22 true (.bin .eql (.s 25) (.c (.int .i64 0))),
   oo 27 (.pick (.s 22) (.s 26) (.c (.bool false))),
   oo 5 (.mv (.s 27))])))
  k_impl_stepOk_r10)))⟩

def k_impl_valOk : F := ⟨15, [.tmp 2],
  (.seq (.h [.kill [2]] (.reg false [oo 2 (.mv (.c (.bool false)))]))
  (.seq (.h [.kill [0, 3, 4, 5, 6, 7, 8, 9, 10, 11, 12, 13, 14]] (.reg false [oo 3 (.mv (.s 0)),
   oo 4 (.call n_impl_TextOk [] [] [(.s 3)]),
   oo 5 (.mv (.s 4)),
   ow 6 5 true (.mv (.s 0)),
   ow 7 5 true (.call n_strings_Contains [] [] [(.s 6), (.c (.string ⟨#[39]⟩))]),
   ow 8 5 true (.un .not (.s 7)),
   ow 9 5 true (.mv (.s 8)),
   ow 10 9 false (.mv (.s 0)),
   ow 11 9 false (.call n_strings_Contains [] [] [(.s 10), (.c (.string ⟨#[34]⟩))]),
   ow 12 9 false (.un .not (.s 11)),
   ow 13 5 true (.pick (.s 9) (.c (.bool true)) (.s 12)),
   oo 14 (.pick (.s 5) (.s 13) (.c (.bool false))),
   oo 2 (.mv (.s 14))]))
  .ret))⟩

def k_impl_JoinName_r4 : K :=
  (.seq (.h [.kill [11, 16, 17, 18, 19, 20, 21]] (.reg false [oo 17 (.mv (.s 5)),
   oo 18 (.call n_impl_SplitName [] [] [(.s 17)]),
   oo 16 (.mv (.s 18)),
   oo 19 (.ext (.s 16) 0),
   oo 20 (.ext (.s 16) 1),
   oo 21 (.ext (.s 16) 2),
   oo 6 (.mv (.s 19)),
   oo 7 (.mv (.s 20)),
   oo 8 (.mv (.s 21))]))
  (.seq (.seq (.h [.kill [0, 1, 6, 7, 8, 22, 23, 24, 25, 26, 27, 28, 29, 30, 31, 32]] (.reg false [oo 22 (.mv (.s 8)),
   oo 23 (.un .not (.s 22)),
   oo 24 (.mv (.s 23)),
   ow 25 24 false (.mv (.s 6)),
   ow 26 24 false (.mv (.s 0)),
   ow 27 24 false (.bin .neq (.s 25) (.s 26)),
   oo 28 (.pick (.s 24) (.c (.bool true)) (.s 27)),
   oo 29 (.mv (.s 28)),
   ow 30 29 false (.mv (.s 7)),
   ow 31 29 false (.mv (.s 1)),
   ow 32 29 false (.bin .neq (.s 30) (.s 31)),
   oo 33 (.pick (.s 29) (.c (.bool true)) (.s 32))]))
  (.cond (.s 33)
   (.seq (.h [.kill [5, 33]] (.reg false [oo 4 (.mv (.c (.string ⟨#[]⟩)))]))
   .ret)
   .skip))
  (.seq (.h [.kill [5, 33, 34]] (.reg false [oo 34 (.mv (.s 5)),
   oo 4 (.mv (.s 34))]))
  .ret)))
def k_impl_JoinName : F := ⟨35, [.tmp 4],
  (.seq (.h [.kill [4]] (.reg false [oo 4 (.mv (.c (.string ⟨#[]⟩)))]))
  (.seq (.h [.kill [9]] (.reg false [oo 9 (.mv (.s 1)),
   oo 5 (.mv (.s 9))]))
  (.seq (.h [.kill [11], .clean []] (.seq (.h [.kill [10]] (.reg false [oo 10 (.mv (.s 0)),
   oo 11 (.bin .neq (.s 10) (.c (.string ⟨#[]⟩)))]))
  (.cond (.s 11)
   (.h [.kill [11, 12, 13, 14, 15]] (.reg false [oo 12 (.mv (.s 0)),
    oo 13 (.bin .add (.s 12) (.c (.string ⟨#[58]⟩))),
    oo 14 (.mv (.s 1)),
    oo 15 (.bin .add (.s 13) (.s 14)),
    oo 5 (.mv (.s 15))]))
   .skip)))
  k_impl_JoinName_r4)))⟩

def k_laws_eqStep : F := ⟨31, [.tmp 4],
  (.seq (.h [.kill [0, 1, 4]] (.reg false [oo 2 (.box (.s 0)),
   oo 3 (.box (.s 1)),
   oo 4 (.mv (.c (.bool false)))]))
  (.seq (.seq (.h [.kill [5, 6, 7, 8]] (.reg false [oo 5 (.fa 0 (.s 2)),
   oo 6 (.ld 1 false (.s 5)),
   oo 7 (.fa 0 (.s 3)),
   oo 8 (.ld 1 false (.s 7)),
   oo 9 (.beq true (.s 6) (.s 8))]))
  (.cond (.s 9)
   (.seq (.h [.kill [2, 3, 9]] (.reg false [oo 4 (.mv (.c (.bool false)))]))
   .ret)
   .skip))
  (.seq (.seq (.h [.kill [9, 10, 11, 12, 13]] (.reg false [oo 10 (.fa 1 (.s 2)),
   oo 11 (.ld 1 false (.s 10)),
   oo 12 (.fa 1 (.s 3)),
   oo 13 (.ld 1 false (.s 12)),
   oo 14 (.bin .neq (.s 11) (.s 13))]))
  (.cond (.s 14)
   (.seq (.h [.kill [2, 3, 14]] (.reg false [oo 4 (.mv (.c (.bool false)))]))
   .ret)
   .skip))
  (.seq (.seq (.h [.kill [14, 15, 16, 17, 18]] (.reg false [oo 15 (.fa 2 (.s 2)),
   oo 16 (.ld 1 false (.s 15)),
   oo 17 (.fa 2 (.s 3)),
   oo 18 (.ld 1 false (.s 17)),
   oo 19 (.bin .neq (.s 16) (.s 18))]))
  (.cond (.s 19)
   (.seq (.h [.kill [2, 3, 19]] (.reg false [oo 4 (.mv (.c (.bool false)))]))
   .ret)
   .skip))
  (.seq (.seq (.h [.kill [19, 20, 21, 22, 23]] (.reg false [oo 20 (.fa 3 (.s 2)),
   oo 21 (.ld 1 false (.s 20)),
   oo 22 (.fa 3 (.s 3)),
   oo 23 (.ld 1 false (.s 22)),
   oo 24 (.bin .neq (.s 21) (.s 23))]))
  (.cond (.s 24)
   (.seq (.h [.kill [2, 3, 24]] (.reg false [oo 4 (.mv (.c (.bool false)))]))
   .ret)
   .skip))
  (.seq (.seq (.h [.kill [2, 3, 24, 25, 26, 27, 28, 29]] (.reg false [oo 25 (.fa 4 (.s 2)),
   oo 26 (.ld 1 false (.s 25)),
   oo 27 (.fa 4 (.s 3)),
   oo 28 (.ld 1 false (.s 27)),
   oo 29 (.call n_laws_eqPredS [] [] [(.s 26), (.s 28)]),
   oo 30 (.un .not (.s 29))]))
  (.cond (.s 30)
   (.seq (.h [.kill [30]] (.reg false [oo 4 (.mv (.c (.bool false)))]))
   .ret)
   .skip))
  (.seq (.h [.kill [30]] (.reg false [oo 4 (.mv (.c (.bool true)))]))
  .ret)))))))⟩

def k_laws_szPredS_l16 : K :=
  (.h [.clean []] (.seq (.seq (.h [.kill [12, 13, 14]] (.reg false [oo 12 (.mv (.s 5)),
   oo 13 (.mv (.s 0)),
   oo 14 (.len false (.s 13)),
   oo 15 (.bin .lss (.s 12) (.s 14))]))
  (.cond (.s 15)
   .skip
   (.ex 0)))
  (.seq (.blk 1
   (.seq (.h [.kill [15, 18, 19, 20, 21, 22, 23]] (.reg false [oo 18 (.mv (.s 0)),
    oo 19 (.mv (.s 5)),
    oo 20 (.ia 5 (.s 18) (.s 19)),
    oo 21 (.ld 5 true (.s 20)),
    oo 22 (.mv (.s 1)),
    oo 23 (.call n_laws_szPred [] [] [(.s 21), (.s 22)]),
    oo 1 (.mv (.s 23))]))
   (.seq (.h [.kill [24]] (.reg false [oo 24 (.mv (.s 1)),
    oo 25 (.bin .lss (.s 24) (.c (.int .i64 0)))]))
   (.cond (.s 25)
    (.seq (.h [.kill [0, 1, 5, 25]] (.reg false [oo 4 (.mv (.c (.int .i64 (-1))))]))
    .ret)
    .skip))))
  (.h [.kill [16, 17, 25]] (.reg false [oo 16 (.mv (.s 5)),
   oo 17 (.bin .add (.s 16) (.c (.int .i64 1))),
   oo 5 (.mv (.s 17))])))))
def k_laws_szPredS_r12 : K :=
  (.seq (.h [.kill [0, 1, 5, 15, 26]] (.reg false [oo 26 (.mv (.s 1)),
   oo 4 (.mv (.s 26))]))
  .ret)
def k_laws_szPredS : F := ⟨27, [.tmp 4],
  (.seq (.h [.kill [4]] (.reg false [oo 4 (.mv (.c (.int .i64 0)))]))
  (.seq (.h [.kill [6, 7, 8, 9]] (.reg false [oo 6 (.mv (.s 1)),
   oo 7 (.mv (.s 0)),
   oo 8 (.len false (.s 7)),
   oo 9 (.bin .sub (.s 6) (.s 8)),
   oo 1 (.mv (.s 9))]))
  (.seq (.seq (.h [.kill [10]] (.reg false [oo 10 (.mv (.s 1)),
   oo 11 (.bin .lss (.s 10) (.c (.int .i64 0)))]))
  (.cond (.s 11)
   (.seq (.h [.kill [0, 1, 11]] (.reg false [oo 4 (.mv (.c (.int .i64 (-1))))]))
   .ret)
   .skip))
  (.seq (.seq (.h [.clean []] (.h [.kill [11]] (.reg false [oo 5 (.mv (.c (.int .i64 0)))])))
  (.blk 0
   (.loop k_laws_szPredS_l16)))
  k_laws_szPredS_r12))))⟩

def k_laws_toPredS_l8 : K :=
  (.h [.clean []] (.seq (.seq (.h [.kill [8, 9, 10]] (.reg false [oo 8 (.mv (.s 4)),
   oo 9 (.mv (.s 0)),
   oo 10 (.len false (.s 9)),
   oo 11 (.bin .lss (.s 8) (.s 10))]))
  (.cond (.s 11)
   .skip
   (.ex 0)))
  (.seq (.blk 1
   (.h [.kill [11, 14, 15, 16, 17, 18, 19, 20, 21]] (.reg false [oo 14 (.mv (.s 3)),
    oo 15 (.mv (.s 4)),
    oo 16 (.mv (.s 0)),
    oo 17 (.mv (.s 4)),
    oo 18 (.ia 5 (.s 16) (.s 17)),
    oo 19 (.ld 5 true (.s 18)),
    oo 20 (.call n_laws_toPred [] [] [(.s 19)]),
    oo 21 (.ia 5 (.s 14) (.s 15)),
    on (.st 5 (.s 21) (.s 20))])))
  (.h [.kill [12, 13]] (.reg false [oo 12 (.mv (.s 4)),
   oo 13 (.bin .add (.s 12) (.c (.int .i64 1))),
   oo 4 (.mv (.s 13))])))))
def k_laws_toPredS_r4 : K :=
  (.seq (.h [.kill [0, 3, 4, 11, 22]] (.reg false [oo 22 (.mv (.s 3)),
   oo 2 (.mv (.s 22))]))
  .ret)
def k_laws_toPredS : F := ⟨23, [.tmp 2],
  (.seq (.h [.kill [2]] (.reg false [oo 2 (.mv (.c (.slice none 0 0)))]))
  (.seq (.h [.kill [5, 6, 7]] (.reg false [oo 5 (.mv (.s 0)),
   oo 6 (.len false (.s 5)),
   oo 7 (.mks [.v (.int .i64 0), .v (.int .i64 0), .v (.string ⟨#[]⟩), .v (.string ⟨#[]⟩), .v (.string ⟨#[]⟩)] 64 (.s 6)),
   oo 3 (.mv (.s 7))]))
  (.seq (.seq (.h [.clean []] (.reg false [oo 4 (.mv (.c (.int .i64 0)))]))
  (.blk 0
   (.loop k_laws_toPredS_l8)))
  k_laws_toPredS_r4)))⟩

def k_spec_PlainOk_l14 : K :=
  (.h [.clean []] (.seq (.seq (.h [.kill [11, 12, 13]] (.reg false [oo 11 (.mv (.s 3)),
   oo 12 (.mv (.s 0)),
   oo 13 (.len true (.s 12)),
   oo 14 (.bin .lss (.s 11) (.s 13))]))
  (.cond (.s 14)
   .skip
   (.ex 0)))
  (.blk 1
   (.seq (.h [.kill [14, 15, 16, 17, 18, 19, 20, 21]] (.reg false [oo 16 (.mv (.s 0)),
    oo 17 (.mv (.s 3)),
    oo 18 (.call n_spec_SignAt [] [] [(.s 16), (.s 17)]),
    oo 15 (.mv (.s 18)),
    oo 19 (.ext (.s 15) 0),
    oo 20 (.ext (.s 15) 1),
    oo 21 (.ext (.s 15) 2),
    oo 4 (.mv (.s 19)),
    oo 5 (.mv (.s 20)),
    oo 6 (.mv (.s 21))]))
   (.seq (.seq (.h [.kill [3, 4, 6, 22, 23, 24, 25, 26, 27, 28, 29, 30, 31, 32, 33, 34, 35, 36]] (.reg false [oo 22 (.mv (.s 6)),
    oo 23 (.un .not (.s 22)),
    oo 24 (.mv (.s 23)),
    ow 25 24 false (.mv (.s 3)),
    ow 26 24 false (.bin .eql (.s 25) (.c (.int .i64 0))),
    ow 27 24 false (.mv (.s 26)),
    ow 28 27 true (.mv (.s 4)),
    ow 29 27 true (.call n_spec_IsStart [] [] [(.s 28)]),
    ow 30 27 true (.un .not (.s 29)),
    ow 31 24 false (.pick (.s 27) (.s 30) (.c (.bool false))),
    oo 32 (.pick (.s 24) (.c (.bool true)) (.s 31)),
    oo 33 (.mv (.s 32)),
    ow 34 33 false (.mv (.s 4)),
    ow 35 33 false (.call n_spec_IsPart [] [] [(.s 34)]),
    ow 36 33 false (.un .not (.s 35)),
    oo 37 (.pick (.s 33) (.c (.bool true)) (.s 36))]))
   (.cond (.s 37)
    (.seq (.h [.kill [0, 5, 37]] (.reg false [oo 2 (.mv (.c (.bool false)))]))
    .ret)
    .skip))
   (.h [.kill [5, 37, 38]] (.reg false [oo 38 (.mv (.s 5)),
    oo 3 (.mv (.s 38))])))))))
def k_spec_PlainOk_r10 : K :=
  (.seq (.h [.kill [0, 3, 14]] (.reg false [oo 2 (.mv (.c (.bool true)))]))
  .ret)
def k_spec_PlainOk : F := ⟨39, [.tmp 2],
  (.seq (.h [.kill [2]] (.reg false [oo 2 (.mv (.c (.bool false)))]))
  (.seq (.seq (.h [.kill [7, 8, 9]] (.reg false [oo 7 (.mv (.s 0)),
   oo 8 (.len true (.s 7)),
   oo 9 (.call n_spec_l1In [] [] [(.s 8), (.c (.int .i64 1)), (.c (.int .i64 16))]),
   oo 10 (.un .not (.s 9))]))
  (.cond (.s 10)
   (.seq (.h [.kill [0, 10]] (.reg false [oo 2 (.mv (.c (.bool false)))]))
   .ret)
   .skip))
  (.seq (.seq (.h [.clean []] (.h [.kill [10]] (.reg false [oo 3 (.mv (.c (.int .i64 0)))])))
  (.blk 0
   (.loop k_spec_PlainOk_l14)))
  k_spec_PlainOk_r10)))⟩

def k_spec_l11PredOk_r12 : K :=
  (.cond (.s 27)
   (.seq (.h [.kill [1, 2, 6, 27, 30, 31, 32, 33, 34, 35, 36, 37, 38, 39, 40, 41, 42, 43, 44, 45, 46, 47, 48, 49]] (.reg false [oo 30 (.mv (.s 1)),
    oo 31 (.call n_spec_l1In [] [] [(.s 30), (.c (.int .i64 1)), (.c (.int .i64 2))]),
    oo 32 (.mv (.s 31)),
    ow 33 32 true (.fa 1 (.s 2)),
    ow 34 32 true (.ld 1 false (.s 33)),
    ow 35 32 true (.bin .eql (.s 34) (.c (.int .i64 0))),
    oo 36 (.pick (.s 32) (.s 35) (.c (.bool false))),
    oo 37 (.mv (.s 36)),
    ow 38 37 true (.fa 2 (.s 2)),
    ow 39 37 true (.ld 1 false (.s 38)),
    ow 40 37 true (.fa 3 (.s 2)),
    ow 41 37 true (.ld 1 false (.s 40)),
    ow 42 37 true (.call n_spec_JoinName [] [] [(.s 39), (.s 41)]),
    ow 43 37 true (.bin .neq (.s 42) (.c (.string ⟨#[]⟩))),
    oo 44 (.pick (.s 37) (.s 43) (.c (.bool false))),
    oo 45 (.mv (.s 44)),
    ow 46 45 true (.fa 4 (.s 2)),
    ow 47 45 true (.ld 1 false (.s 46)),
    ow 48 45 true (.call n_spec_l11Val [] [] [(.s 47)]),
    oo 49 (.pick (.s 45) (.s 48) (.c (.bool false))),
    oo 4 (.mv (.s 49))]))
   .ret)
   (.seq (.h [.kill [6, 27, 51]] (.reg false [oo 51 (.bin .eql (.s 6) (.c (.int .i64 4))),
    oo 50 (.mv (.s 51))]))
   (.cond (.s 50)
    (.seq (.h [.kill [1, 2, 50, 52, 53, 54, 55, 56, 57, 58, 59, 60, 61, 62, 63, 64, 65, 66, 67, 68, 69, 70, 71, 72, 73]] (.reg false [oo 52 (.mv (.s 1)),
     oo 53 (.call n_spec_l1In [] [] [(.s 52), (.c (.int .i64 1)), (.c (.int .i64 2))]),
     oo 54 (.mv (.s 53)),
     ow 55 54 true (.fa 1 (.s 2)),
     ow 56 54 true (.ld 1 false (.s 55)),
     ow 57 54 true (.bin .eql (.s 56) (.c (.int .i64 0))),
     oo 58 (.pick (.s 54) (.s 57) (.c (.bool false))),
     oo 59 (.mv (.s 58)),
     ow 60 59 true (.fa 2 (.s 2)),
     ow 61 59 true (.ld 1 false (.s 60)),
     ow 62 59 true (.bin .eql (.s 61) (.c (.string ⟨#[]⟩))),
     oo 63 (.pick (.s 59) (.s 62) (.c (.bool false))),
     oo 64 (.mv (.s 63)),
     ow 65 64 true (.fa 3 (.s 2)),
     ow 66 64 true (.ld 1 false (.s 65)),
     ow 67 64 true (.bin .eql (.s 66) (.c (.string ⟨#[]⟩))),
     oo 68 (.pick (.s 64) (.s 67) (.c (.bool false))),
     oo 69 (.mv (.s 68)),
     ow 70 69 true (.fa 4 (.s 2)),
     ow 71 69 true (.ld 1 false (.s 70)),
     ow 72 69 true (.call n_spec_l11Val [] [] [(.s 71)]),
     oo 73 (.pick (.s 69) (.s 72) (.c (.bool false))),
     oo 4 (.mv (.s 73))]))
    .ret)
    .skip)))
def k_spec_l11PredOk_r2 : K :=
  (.seq (.h [.kill [1, 2, 50]] (.reg false [oo 4 (.mv (.c (.bool false)))]))
  .ret)
def k_spec_l11PredOk : F := ⟨74, [.tmp 4],
  (.seq (.h [.kill [0, 4]] (.reg false [oo 2 (.box (.s 0)),
   oo 4 (.mv (.c (.bool false)))]))
  (.seq (.seq (.h [.kill [5]] (.reg false [oo 5 (.fa 0 (.s 2)),
   oo 6 (.ld 1 false (.s 5))]))
  (.blk 0
   (.seq (.h [.kill [8]] (.reg false [oo 8 (.bin .eql (.s 6) (.c (.int .i64 1))),
    oo 7 (.mv (.s 8))]))
   (.cond (.s 7)
    (.seq (.h [.kill [1, 2, 6, 7, 9, 10, 11, 12, 13, 14, 15, 16, 17, 18, 19, 20, 21, 22, 23, 24, 25, 26]] (.reg false [oo 9 (.fa 1 (.s 2)),
     oo 10 (.ld 1 false (.s 9)),
     oo 11 (.call n_spec_l1In [] [] [(.s 10), (.c (.int .i64 1)), (.c (.int .i64 999))]),
     oo 12 (.mv (.s 11)),
     ow 13 12 true (.fa 2 (.s 2)),
     ow 14 12 true (.ld 1 false (.s 13)),
     ow 15 12 true (.bin .eql (.s 14) (.c (.string ⟨#[]⟩))),
     oo 16 (.pick (.s 12) (.s 15) (.c (.bool false))),
     oo 17 (.mv (.s 16)),
     ow 18 17 true (.fa 3 (.s 2)),
     ow 19 17 true (.ld 1 false (.s 18)),
     ow 20 17 true (.bin .eql (.s 19) (.c (.string ⟨#[]⟩))),
     oo 21 (.pick (.s 17) (.s 20) (.c (.bool false))),
     oo 22 (.mv (.s 21)),
     ow 23 22 true (.fa 4 (.s 2)),
     ow 24 22 true (.ld 1 false (.s 23)),
     ow 25 22 true (.bin .eql (.s 24) (.c (.string ⟨#[]⟩))),
     oo 26 (.pick (.s 22) (.s 25) (.c (.bool false))),
     oo 4 (.mv (.s 26))]))
    .ret)
    (.seq (.h [.clean []] (.seq (.h [.kill [7, 28]] (.reg false [oo 28 (.bin .eql (.s 6) (.c (.int .i64 2))),
     oo 27 (.mv (.s 28))]))
    (.cond (.s 27)
     .skip
     (.h [.kill [29]] (.reg false [oo 29 (.bin .eql (.s 6) (.c (.int .i64 3))),
      oo 27 (.mv (.s 29))])))))
    k_spec_l11PredOk_r12)))))
  k_spec_l11PredOk_r2))⟩

def k_spec_TextOk : F := ⟨10, [.tmp 2],
  (.seq (.h [.kill [2]] (.reg false [oo 2 (.mv (.c (.bool false)))]))
  (.seq (.h [.kill [0, 3, 4, 5, 6, 7, 8, 9]] (.reg false [oo 3 (.mv (.s 0)),
   oo 4 (.len true (.s 3)),
   oo 5 (.bin .leq (.s 4) (.c (.int .i64 600))),
   oo 6 (.mv (.s 5)),
   ow 7 6 true (.mv (.s 0)),
   ow 8 6 true (.call n_spec_l1Signs [] [] [(.s 7)]),
   oo 9 (.pick (.s 6) (.s 8) (.c (.bool false))),
   oo 2 (.mv (.s 9))]))
  .ret))⟩

def k_spec_SplitName_l14 : K :=
  (.h [.clean []] (.seq (.seq (.h [.kill [9, 10, 11]] (.reg false [oo 9 (.mv (.s 5)),
   oo 10 (.mv (.s 0)),
   oo 11 (.len true (.s 10)),
   oo 12 (.bin .lss (.s 9) (.s 11))]))
  (.cond (.s 12)
   .skip
   (.ex 0)))
  (.seq (.blk 1
   (.seq (.h [.kill [12, 15, 16, 17]] (.reg false [oo 15 (.mv (.s 0)),
    oo 16 (.mv (.s 5)),
    oo 17 (.ix (.s 15) (.s 16)),
    oo 18 (.bin .eql (.s 17) (.c (.int .u8 58)))]))
   (.cond (.s 18)
    (.seq (.seq (.h [.kill [18, 19, 20, 21, 22, 23, 24, 25, 26, 27, 28, 29, 30]] (.reg false [oo 19 (.mv (.s 0)),
     oo 20 (.mv (.s 5)),
     oo 21 (.slc 0 (.s 19) none (some (.s 20))),
     oo 22 (.call n_spec_PlainOk [] [] [(.s 21)]),
     oo 23 (.un .not (.s 22)),
     oo 24 (.mv (.s 23)),
     ow 25 24 false (.mv (.s 0)),
     ow 26 24 false (.mv (.s 5)),
     ow 27 24 false (.bin .add (.s 26) (.c (.int .i64 1))),
     ow 28 24 false (.slc 0 (.s 25) (some (.s 27)) none),
     ow 29 24 false (.call n_spec_PlainOk [] [] [(.s 28)]),
     ow 30 24 false (.un .not (.s 29)),
     oo 31 (.pick (.s 24) (.c (.bool true)) (.s 30))]))
    (.cond (.s 31)
     (.seq (.h [.kill [0, 5, 31]] (.reg false [oo 2 (.mv (.c (.string ⟨#[]⟩))),
      oo 3 (.mv (.c (.string ⟨#[]⟩))),
      oo 4 (.mv (.c (.bool false)))]))
     .ret)
     .skip))
    (.seq (.h [.kill [0, 5, 31, 32, 33, 34, 35, 36, 37, 38]] (.reg true [⟨some 32, none, .mv (.s 0), [], []⟩,
     ⟨some 33, none, .mv (.s 5), [], []⟩,
     ⟨some 34, none, .slc 0 (.s 32) none (some (.s 33)), [], []⟩,
     ⟨some 35, none, .mv (.s 0), [], []⟩,
     ⟨some 36, none, .mv (.s 5), [], []⟩,
     ⟨some 37, none, .bin .add (.s 36) (.c (.int .i64 1)), [], []⟩,
     ⟨some 38, none, .slc 0 (.s 35) (some (.s 37)) none, [], []⟩,
     ⟨some 2, none, .mv (.s 34), [], []⟩,
     ⟨some 3, none, .mv (.s 38), [], []⟩,
     ⟨some 4, none, .mv (.c (.bool true)), [], []⟩]))
    .ret))
    .skip)))
  (.h [.kill [13, 14, 18]] (.reg false [oo 13 (.mv (.s 5)),
   oo 14 (.bin .add (.s 13) (.c (.int .i64 1))),
   oo 5 (.mv (.s 14))])))))
def k_spec_SplitName_r10 : K :=
  (.seq (.h [.kill [0, 5, 12]] (.reg false [oo 2 (.mv (.c (.string ⟨#[]⟩))),
   oo 3 (.mv (.c (.string ⟨#[]⟩))),
   oo 4 (.mv (.c (.bool false)))]))
  .ret)
def k_spec_SplitName : F := ⟨39, [.tmp 2, .tmp 3, .tmp 4],
  (.seq (.h [.kill [2, 3, 4]] (.reg false [oo 2 (.mv (.c (.string ⟨#[]⟩))),
   oo 3 (.mv (.c (.string ⟨#[]⟩))),
   oo 4 (.mv (.c (.bool false)))]))
  (.seq (.seq (.h [.kill [6]] (.reg false [oo 6 (.mv (.s 0)),
   oo 7 (.call n_spec_PlainOk [] [] [(.s 6)])]))
  (.cond (.s 7)
   (.seq (.h [.kill [0, 7, 8]] (.reg false [oo 8 (.mv (.s 0)),
    oo 2 (.mv (.c (.string ⟨#[]⟩))),
    oo 3 (.mv (.s 8)),
    oo 4 (.mv (.c (.bool true)))]))
   .ret)
   .skip))
  (.seq (.seq (.h [.clean []] (.h [.kill [7]] (.reg false [oo 5 (.mv (.c (.int .i64 0)))])))
  (.blk 0
   (.loop k_spec_SplitName_l14)))
  k_spec_SplitName_r10)))⟩

def k_spec_l11Num_l8 : K :=
  (.h [.clean [14]] (.seq (.seq (.h [.kill [6]] (.reg false [oo 6 (.mv (.s 4)),
   oo 7 (.bin .gtr (.s 6) (.c (.int .i64 0)))]))
  (.cond (.s 7)
   .skip
   (.ex 0)))
  (.seq (.blk 1
   (.h [.kill [7, 10, 11, 12, 13, 14, 15, 16, 17]] (.reg false [oo 10 (.mv (.s 4)),
    oo 11 (.bin .rem (.s 10) (.c (.int .i64 10))),
    oo 12 (.bin .add (.c (.int .i64 48)) (.s 11)),
    oo 13 (.conv (.int .u8) (.s 12)),
    oo 14 (.bsl 1 [(.s 13)]),
    oo 15 (.conv .str (.s 14)),
    oo 16 (.mv (.s 3)),
    oo 17 (.bin .add (.s 15) (.s 16)),
    oo 3 (.mv (.s 17))])))
  (.h [.kill [8, 9]] (.reg false [oo 8 (.mv (.s 4)),
   oo 9 (.bin .quo (.s 8) (.c (.int .i64 10))),
   oo 4 (.mv (.s 9))])))))
def k_spec_l11Num_r4 : K :=
  (.seq (.h [.kill [3, 4, 7, 18]] (.reg false [oo 18 (.mv (.s 3)),
   oo 2 (.mv (.s 18))]))
  .ret)
def k_spec_l11Num : F := ⟨19, [.tmp 2],
  (.seq (.h [.kill [2]] (.reg false [oo 2 (.mv (.c (.string ⟨#[]⟩)))]))
  (.seq (.reg false [oo 3 (.mv (.c (.string ⟨#[]⟩)))])
  (.seq (.seq (.h [.clean []] (.h [.kill [0, 5]] (.reg false [oo 5 (.mv (.s 0)),
   oo 4 (.mv (.s 5))])))
  (.blk 0
   (.loop k_spec_l11Num_l8)))
  k_spec_l11Num_r4)))⟩

def k_slices_ContainsFunc_Pred : F := ⟨9, [.tmp 4],
  (.seq (.h [.kill [4]] (.reg false [oo 4 (.mv (.c (.bool false)))]))
  (.seq (.h [.kill [0, 1, 5, 6, 7, 8]] (.reg false [oo 5 (.mv (.s 0)),
   oo 6 (.mv (.s 1)),
   oo 7 (.call n_slices_IndexFunc_Pred [] [] [(.s 5), (.s 6)]),
   oo 8 (.bin .geq (.s 7) (.c (.int .i64 0))),
   oo 4 (.mv (.s 8))]))
  .ret))⟩

def k_impl_nameOk : F := ⟨15, [.tmp 4],
  (.seq (.h [.kill [4]] (.reg false [oo 4 (.mv (.c (.bool false)))]))
  (.seq (.h [.kill [0, 1, 5, 6, 7, 8, 9, 10, 11, 12, 13, 14]] (.reg false [oo 5 (.mv (.s 0)),
   oo 6 (.bin .eql (.s 5) (.c (.string ⟨#[]⟩))),
   oo 7 (.mv (.s 6)),
   ow 8 7 false (.mv (.s 0)),
   ow 9 7 false (.call n_impl_PlainOk [] [] [(.s 8)]),
   oo 10 (.pick (.s 7) (.c (.bool true)) (.s 9)),
   oo 11 (.mv (.s 10)),
   ow 12 11 true (.mv (.s 1)),
   ow 13 11 true (.call n_impl_PlainOk [] [] [(.s 12)]),
   oo 14 (.pick (.s 11) (.s 13) (.c (.bool false))),
   oo 4 (.mv (.s 14))]))
  .ret))⟩

def k_impl_PlainOk_l6 : K :=
  (.h [.clean []] (.seq (.seq (.h [.kill [7, 8, 9]] (.reg false [oo 7 (.mv (.s 3)),
   oo 8 (.mv (.s 0)),
   oo 9 (.len true (.s 8)),
   oo 10 (.bin .lss (.s 7) (.s 9))]))
  (.cond (.s 10)
   .skip
   (.ex 0)))
  (.blk 1
   (.seq (.h [.kill [10, 11, 12, 13, 14, 15, 16, 17]] (.reg false [oo 12 (.mv (.s 0)),
    oo 13 (.mv (.s 3)),
    oo 14 (.call n_impl_SignAt [] [] [(.s 12), (.s 13)]),
    oo 11 (.mv (.s 14)),
    oo 15 (.ext (.s 11) 0),
    oo 16 (.ext (.s 11) 1),
    oo 17 (.ext (.s 11) 2),
    oo 4 (.mv (.s 15)),
    oo 5 (.mv (.s 16)),
    oo 6 (.mv (.s 17))]))
   (.seq (.seq (.h [.kill [3, 4, 6, 18, 19, 20, 21, 22, 23, 24, 25, 26, 27, 28, 29, 30, 31, 32]] (.reg false [oo 18 (.mv (.s 6)),
    oo 19 (.un .not (.s 18)),
    oo 20 (.mv (.s 19)),
    ow 21 20 false (.mv (.s 3)),
    ow 22 20 false (.bin .eql (.s 21) (.c (.int .i64 0))),
    ow 23 20 false (.mv (.s 22)),
    ow 24 23 true (.mv (.s 4)),
    ow 25 23 true (.call n_impl_IsStart [] [] [(.s 24)]),
    ow 26 23 true (.un .not (.s 25)),
    ow 27 20 false (.pick (.s 23) (.s 26) (.c (.bool false))),
    oo 28 (.pick (.s 20) (.c (.bool true)) (.s 27)),
    oo 29 (.mv (.s 28)),
    ow 30 29 false (.mv (.s 4)),
    ow 31 29 false (.call n_impl_IsPart [] [] [(.s 30)]),
    ow 32 29 false (.un .not (.s 31)),
    oo 33 (.pick (.s 29) (.c (.bool true)) (.s 32))]))
   (.cond (.s 33)
    (.seq (.h [.kill [0, 5, 33]] (.reg false [oo 2 (.mv (.c (.bool false)))]))
    .ret)
    .skip))
   (.h [.kill [5, 33, 34]] (.reg false [oo 34 (.mv (.s 5)),
    oo 3 (.mv (.s 34))])))))))
def k_impl_PlainOk_r2 : K :=
  (.seq (.h [.kill [0, 3, 10, 35, 36, 37]] (.reg false [oo 35 (.mv (.s 0)),
   oo 36 (.len true (.s 35)),
   oo 37 (.call n_impl_in [] [] [(.s 36), (.c (.int .i64 1)), (.c (.int .i64 16))]),
   oo 2 (.mv (.s 37))]))
  .ret)
def k_impl_PlainOk : F := ⟨38, [.tmp 2],
  (.seq (.h [.kill [2]] (.reg false [oo 2 (.mv (.c (.bool false)))]))
  (.seq (.seq (.h [.clean []] (.reg false [oo 3 (.mv (.c (.int .i64 0)))]))
  (.blk 0
   (.loop k_impl_PlainOk_l6)))
  k_impl_PlainOk_r2))⟩

def k_impl_TextOk : F := ⟨10, [.tmp 2],
  (.seq (.h [.kill [2]] (.reg false [oo 2 (.mv (.c (.bool false)))]))
  (.seq (.h [.kill [0, 3, 4, 5, 6, 7, 8, 9]] (.reg false [oo 3 (.mv (.s 0)),
   oo 4 (.len true (.s 3)),
   oo 5 (.bin .leq (.s 4) (.c (.int .i64 600))),
   oo 6 (.mv (.s 5)),
   ow 7 6 true (.mv (.s 0)),
   ow 8 6 true (.call n_impl_signsOk [] [] [(.s 7)]),
   oo 9 (.pick (.s 6) (.s 8) (.c (.bool false))),
   oo 2 (.mv (.s 9))]))
  .ret))⟩

def k_impl_SplitName : F := ⟨31, [.tmp 2, .tmp 3, .tmp 4],
  (.seq (.h [.kill [2, 3, 4]] (.reg false [oo 2 (.mv (.c (.string ⟨#[]⟩))),
   oo 3 (.mv (.c (.string ⟨#[]⟩))),
   oo 4 (.mv (.c (.bool false)))]))
  (.seq (.seq (.h [.kill [8]] (.reg false [oo 8 (.mv (.s 0)),
   oo 9 (.call n_impl_PlainOk [] [] [(.s 8)])]))
  (.cond (.s 9)
   (.seq (.h [.kill [0, 9, 10]] (.reg false [oo 10 (.mv (.s 0)),
    oo 2 (.mv (.c (.string ⟨#[]⟩))),
    oo 3 (.mv (.s 10)),
    oo 4 (.mv (.c (.bool true)))]))
   .ret)
   .skip))
  (.seq (.h [.kill [0, 9, 11, 12, 13, 14, 15, 16]] (.reg false [oo 12 (.mv (.s 0)),
   oo 13 (.call n_strings_Cut [] [] [(.s 12), (.c (.string ⟨#[58]⟩))]),
   oo 11 (.mv (.s 13)),
   oo 14 (.ext (.s 11) 0),
   oo 15 (.ext (.s 11) 1),
   oo 16 (.ext (.s 11) 2),
   oo 5 (.mv (.s 14)),
   oo 6 (.mv (.s 15)),
   oo 7 (.mv (.s 16))]))
  (.seq (.seq (.h [.kill [7, 17, 18, 19, 20, 21, 22, 23, 24, 25, 26, 27]] (.reg false [oo 17 (.mv (.s 7)),
   oo 18 (.un .not (.s 17)),
   oo 19 (.mv (.s 18)),
   ow 20 19 false (.mv (.s 5)),
   ow 21 19 false (.call n_impl_PlainOk [] [] [(.s 20)]),
   ow 22 19 false (.un .not (.s 21)),
   oo 23 (.pick (.s 19) (.c (.bool true)) (.s 22)),
   oo 24 (.mv (.s 23)),
   ow 25 24 false (.mv (.s 6)),
   ow 26 24 false (.call n_impl_PlainOk [] [] [(.s 25)]),
   ow 27 24 false (.un .not (.s 26)),
   oo 28 (.pick (.s 24) (.c (.bool true)) (.s 27))]))
  (.cond (.s 28)
   (.seq (.h [.kill [5, 6, 28]] (.reg false [oo 2 (.mv (.c (.string ⟨#[]⟩))),
    oo 3 (.mv (.c (.string ⟨#[]⟩))),
    oo 4 (.mv (.c (.bool false)))]))
   .ret)
   .skip))
  (.seq (.h [.kill [5, 6, 28, 29, 30]] (.reg false [oo 29 (.mv (.s 5)),
   oo 30 (.mv (.s 6)),
   oo 2 (.mv (.s 29)),
   oo 3 (.mv (.s 30)),
   oo 4 (.mv (.c (.bool true)))]))
  .ret)))))⟩

def k_laws_eqPredS_l14 : K :=
  (.h [.clean []] (.seq (.seq (.h [.kill [11, 12, 13]] (.reg false [oo 11 (.mv (.s 5)),
   oo 12 (.mv (.s 0)),
   oo 13 (.len false (.s 12)),
   oo 14 (.bin .lss (.s 11) (.s 13))]))
  (.cond (.s 14)
   .skip
   (.ex 0)))
  (.seq (.blk 1
   (.seq (.h [.kill [14, 17, 18, 19, 20, 21, 22, 23, 24, 25]] (.reg true [⟨some 17, none, .mv (.s 0), [], []⟩,
    ⟨some 18, none, .mv (.s 5), [], []⟩,
    ⟨some 19, none, .ia 5 (.s 17) (.s 18), [0], []⟩,
    ⟨some 20, none, .ld 5 true (.s 19), [0], []⟩,
    ⟨some 21, none, .mv (.s 1), [], []⟩,
    ⟨some 22, none, .mv (.s 5), [], []⟩,
    ⟨some 23, none, .ia 5 (.s 21) (.s 22), [1], []⟩,
    ⟨some 24, none, .ld 5 true (.s 23), [1], []⟩,
    ⟨some 25, none, .call n_laws_eqPred [] [] [(.s 20), (.s 24)], [0, 1], []⟩,
    ⟨some 26, none, .un .not (.s 25), [], []⟩]))
   (.cond (.s 26)
    (.seq (.h [.kill [0, 1, 5, 26]] (.reg false [oo 4 (.mv (.c (.bool false)))]))
    .ret)
    .skip)))
  (.h [.kill [15, 16, 26]] (.reg false [oo 15 (.mv (.s 5)),
   oo 16 (.bin .add (.s 15) (.c (.int .i64 1))),
   oo 5 (.mv (.s 16))])))))
def k_laws_eqPredS_r10 : K :=
  (.seq (.h [.kill [0, 1, 5, 14]] (.reg false [oo 4 (.mv (.c (.bool true)))]))
  .ret)
def k_laws_eqPredS : F := ⟨27, [.tmp 4],
  (.seq (.h [.kill [4]] (.reg false [oo 4 (.mv (.c (.bool false)))]))
  (.seq (.seq (.h [.kill [6, 7, 8, 9]] (.reg false [oo 6 (.mv (.s 0)),
   oo 7 (.len false (.s 6)),
   oo 8 (.mv (.s 1)),
   oo 9 (.len false (.s 8)),
   oo 10 (.bin .neq (.s 7) (.s 9))]))
  (.cond (.s 10)
   (.seq (.h [.kill [0, 1, 10]] (.reg false [oo 4 (.mv (.c (.bool false)))]))
   .ret)
   .skip))
  (.seq (.seq (.h [.clean []] (.h [.kill [10]] (.reg false [oo 5 (.mv (.c (.int .i64 0)))])))
  (.blk 0
   (.loop k_laws_eqPredS_l14)))
  k_laws_eqPredS_r10)))⟩

def k_laws_szPred : F := ⟨27, [.tmp 4],
  (.seq (.h [.kill [0, 4]] (.reg false [oo 2 (.box (.s 0)),
   oo 4 (.mv (.c (.int .i64 0)))]))
  (.seq (.h [.kill [5, 6, 7, 8, 9]] (.reg false [oo 5 (.mv (.s 1)),
   oo 6 (.fa 2 (.s 2)),
   oo 7 (.ld 1 false (.s 6)),
   oo 8 (.len true (.s 7)),
   oo 9 (.bin .sub (.s 5) (.s 8)),
   oo 1 (.mv (.s 9))]))
  (.seq (.seq (.h [.kill [10]] (.reg false [oo 10 (.mv (.s 1)),
   oo 11 (.bin .lss (.s 10) (.c (.int .i64 0)))]))
  (.cond (.s 11)
   (.seq (.h [.kill [1, 2, 11]] (.reg false [oo 4 (.mv (.c (.int .i64 (-1))))]))
   .ret)
   .skip))
  (.seq (.h [.kill [11, 12, 13, 14, 15, 16]] (.reg false [oo 12 (.mv (.s 1)),
   oo 13 (.fa 3 (.s 2)),
   oo 14 (.ld 1 false (.s 13)),
   oo 15 (.len true (.s 14)),
   oo 16 (.bin .sub (.s 12) (.s 15)),
   oo 1 (.mv (.s 16))]))
  (.seq (.seq (.h [.kill [17]] (.reg false [oo 17 (.mv (.s 1)),
   oo 18 (.bin .lss (.s 17) (.c (.int .i64 0)))]))
  (.cond (.s 18)
   (.seq (.h [.kill [1, 2, 18]] (.reg false [oo 4 (.mv (.c (.int .i64 (-1))))]))
   .ret)
   .skip))
  (.seq (.h [.kill [2, 18, 19, 20, 21, 22, 23]] (.reg false [oo 19 (.mv (.s 1)),
   oo 20 (.fa 4 (.s 2)),
   oo 21 (.ld 1 false (.s 20)),
   oo 22 (.len true (.s 21)),
   oo 23 (.bin .sub (.s 19) (.s 22)),
   oo 1 (.mv (.s 23))]))
  (.seq (.seq (.h [.kill [24]] (.reg false [oo 24 (.mv (.s 1)),
   oo 25 (.bin .lss (.s 24) (.c (.int .i64 0)))]))
  (.cond (.s 25)
   (.seq (.h [.kill [1, 25]] (.reg false [oo 4 (.mv (.c (.int .i64 (-1))))]))
   .ret)
   .skip))
  (.seq (.h [.kill [1, 25, 26]] (.reg false [oo 26 (.mv (.s 1)),
   oo 4 (.mv (.s 26))]))
  .ret))))))))⟩

def k_laws_toPred : F := ⟨20, [.cell 2 5 true],
  (.seq (.h [.kill [0]] (.reg false [oo 1 (.box (.s 0)),
   oo 2 (.alloc [.v (.int .i64 0), .v (.int .i64 0), .v (.string ⟨#[]⟩), .v (.string ⟨#[]⟩), .v (.string ⟨#[]⟩)])]))
  (.seq (.reg false [oo 3 (.alloc [.v (.int .i64 0), .v (.int .i64 0), .v (.string ⟨#[]⟩), .v (.string ⟨#[]⟩), .v (.string ⟨#[]⟩)])])
  (.seq (.h [.kill [4, 5, 6]] (.reg false [oo 4 (.fa 0 (.s 1)),
   oo 5 (.ld 1 false (.s 4)),
   oo 6 (.fa 0 (.s 3)),
   on (.st 1 (.s 6) (.s 5))]))
  (.seq (.h [.kill [7, 8, 9]] (.reg false [oo 7 (.fa 1 (.s 1)),
   oo 8 (.ld 1 false (.s 7)),
   oo 9 (.fa 1 (.s 3)),
   on (.st 1 (.s 9) (.s 8))]))
  (.seq (.h [.kill [10, 11, 12]] (.reg false [oo 10 (.fa 2 (.s 1)),
   oo 11 (.ld 1 false (.s 10)),
   oo 12 (.fa 2 (.s 3)),
   on (.st 1 (.s 12) (.s 11))]))
  (.seq (.h [.kill [13, 14, 15]] (.reg false [oo 13 (.fa 3 (.s 1)),
   oo 14 (.ld 1 false (.s 13)),
   oo 15 (.fa 3 (.s 3)),
   on (.st 1 (.s 15) (.s 14))]))
  (.seq (.h [.kill [1, 16, 17, 18]] (.reg false [oo 16 (.fa 4 (.s 1)),
   oo 17 (.ld 1 false (.s 16)),
   oo 18 (.fa 4 (.s 3)),
   on (.st 1 (.s 18) (.s 17))]))
  (.seq (.h [.kill [3, 19]] (.reg false [oo 19 (.ld 5 true (.s 3)),
   on (.st 5 (.s 2) (.s 19))]))
  .ret))))))))⟩

def k_spec_l1In : F := ⟨15, [.tmp 6],
  (.seq (.h [.kill [6]] (.reg false [oo 6 (.mv (.c (.bool false)))]))
  (.seq (.h [.kill [0, 1, 2, 7, 8, 9, 10, 11, 12, 13, 14]] (.reg false [oo 7 (.mv (.s 0)),
   oo 8 (.mv (.s 1)),
   oo 9 (.bin .geq (.s 7) (.s 8)),
   oo 10 (.mv (.s 9)),
   ow 11 10 true (.mv (.s 0)),
   ow 12 10 true (.mv (.s 2)),
   ow 13 10 true (.bin .leq (.s 11) (.s 12)),
   oo 14 (.pick (.s 10) (.s 13) (.c (.bool false))),
   oo 6 (.mv (.s 14))]))
  .ret))⟩

def k_spec_SignAt_r32 : K :=
  (.cond (.s 39)
   (.h [.kill [7, 39, 46, 47]] (.reg false [oo 46 (.mv (.s 7)),
    oo 47 (.bin .and (.s 46) (.c (.int .i64 15))),
    oo 8 (.mv (.c (.int .i64 2))),
    oo 9 (.mv (.c (.int .i64 2048))),
    oo 10 (.mv (.s 47))]))
   (.seq (.h [.kill [39, 49, 50, 51, 52, 53, 54]] (.reg false [oo 49 (.mv (.s 7)),
    oo 50 (.bin .geq (.s 49) (.c (.int .i64 240))),
    oo 51 (.mv (.s 50)),
    ow 52 51 true (.mv (.s 7)),
    ow 53 51 true (.bin .lss (.s 52) (.c (.int .i64 248))),
    oo 54 (.pick (.s 51) (.s 53) (.c (.bool false))),
    oo 48 (.mv (.s 54))]))
   (.cond (.s 48)
    (.h [.kill [7, 48, 55, 56]] (.reg false [oo 55 (.mv (.s 7)),
     oo 56 (.bin .and (.s 55) (.c (.int .i64 7))),
     oo 8 (.mv (.c (.int .i64 3))),
     oo 9 (.mv (.c (.int .i64 65536))),
     oo 10 (.mv (.s 56))]))
    (.seq (.h [.kill [0, 1, 7, 48]] (.reg false [oo 4 (.mv (.c (.int .i64 0))),
     oo 5 (.mv (.c (.int .i64 0))),
     oo 6 (.mv (.c (.bool false)))]))
    .ret))))
def k_spec_SignAt_r28 : K :=
  (.cond (.s 30)
   (.h [.kill [7, 30, 37, 38]] (.reg false [oo 37 (.mv (.s 7)),
    oo 38 (.bin .and (.s 37) (.c (.int .i64 31))),
    oo 8 (.mv (.c (.int .i64 1))),
    oo 9 (.mv (.c (.int .i64 128))),
    oo 10 (.mv (.s 38))]))
   (.seq (.h [.clean []] (.h [.kill [30, 40, 41, 42, 43, 44, 45]] (.reg false [oo 40 (.mv (.s 7)),
    oo 41 (.bin .geq (.s 40) (.c (.int .i64 224))),
    oo 42 (.mv (.s 41)),
    ow 43 42 true (.mv (.s 7)),
    ow 44 42 true (.bin .lss (.s 43) (.c (.int .i64 240))),
    oo 45 (.pick (.s 42) (.s 44) (.c (.bool false))),
    oo 39 (.mv (.s 45))])))
   k_spec_SignAt_r32))
def k_spec_SignAt_l55 : K :=
  (.h [.clean []] (.seq (.seq (.h [.kill [64, 65]] (.reg false [oo 64 (.mv (.s 11)),
   oo 65 (.mv (.s 8)),
   oo 66 (.bin .leq (.s 64) (.s 65))]))
  (.cond (.s 66)
   .skip
   (.ex 1)))
  (.seq (.blk 2
   (.seq (.h [.kill [66, 69, 70, 71, 72, 73, 74]] (.reg false [oo 69 (.mv (.s 0)),
    oo 70 (.mv (.s 1)),
    oo 71 (.mv (.s 11)),
    oo 72 (.bin .add (.s 70) (.s 71)),
    oo 73 (.ix (.s 69) (.s 72)),
    oo 74 (.conv (.int .i64) (.s 73)),
    oo 12 (.mv (.s 74))]))
   (.seq (.seq (.h [.kill [75, 76, 77, 78, 79]] (.reg false [oo 75 (.mv (.s 12)),
    oo 76 (.bin .lss (.s 75) (.c (.int .i64 128))),
    oo 77 (.mv (.s 76)),
    ow 78 77 false (.mv (.s 12)),
    ow 79 77 false (.bin .gtr (.s 78) (.c (.int .i64 191))),
    oo 80 (.pick (.s 77) (.c (.bool true)) (.s 79))]))
   (.cond (.s 80)
    (.seq (.h [.kill [0, 1, 8, 9, 10, 11, 12, 80]] (.reg false [oo 4 (.mv (.c (.int .i64 0))),
     oo 5 (.mv (.c (.int .i64 0))),
     oo 6 (.mv (.c (.bool false)))]))
    .ret)
    .skip))
   (.h [.kill [12, 80, 81, 82, 83, 84, 85]] (.reg false [oo 81 (.mv (.s 10)),
    oo 82 (.bin .mul (.s 81) (.c (.int .i64 64))),
    oo 83 (.mv (.s 12)),
    oo 84 (.bin .add (.s 82) (.s 83)),
    oo 85 (.bin .sub (.s 84) (.c (.int .i64 128))),
    oo 10 (.mv (.s 85))])))))
  (.h [.kill [67, 68]] (.reg false [oo 67 (.mv (.s 11)),
   oo 68 (.bin .add (.s 67) (.c (.int .i64 1))),
   oo 11 (.mv (.s 68))])))))
def k_spec_SignAt_r51 : K :=
  (.seq (.seq (.h [.kill [0, 9, 11, 66, 86, 87, 88, 89, 90, 91, 92, 93, 94, 95]] (.reg false [oo 86 (.mv (.s 10)),
   oo 87 (.mv (.s 9)),
   oo 88 (.bin .lss (.s 86) (.s 87)),
   oo 89 (.mv (.s 88)),
   ow 90 89 false (.mv (.s 10)),
   ow 91 89 false (.bin .gtr (.s 90) (.c (.int .i64 1114111))),
   oo 92 (.pick (.s 89) (.c (.bool true)) (.s 91)),
   oo 93 (.mv (.s 92)),
   ow 94 93 false (.mv (.s 10)),
   ow 95 93 false (.call n_spec_l1In [] [] [(.s 94), (.c (.int .i64 55296)), (.c (.int .i64 57343))]),
   oo 96 (.pick (.s 93) (.c (.bool true)) (.s 95))]))
  (.cond (.s 96)
   (.seq (.h [.kill [1, 8, 10, 96]] (.reg false [oo 4 (.mv (.c (.int .i64 0))),
    oo 5 (.mv (.c (.int .i64 0))),
    oo 6 (.mv (.c (.bool false)))]))
   .ret)
   .skip))
  (.seq (.h [.kill [1, 8, 10, 96, 97, 98, 99, 100, 101]] (.reg false [oo 97 (.mv (.s 10)),
   oo 98 (.mv (.s 1)),
   oo 99 (.bin .add (.s 98) (.c (.int .i64 1))),
   oo 100 (.mv (.s 8)),
   oo 101 (.bin .add (.s 99) (.s 100)),
   oo 4 (.mv (.s 97)),
   oo 5 (.mv (.s 101)),
   oo 6 (.mv (.c (.bool true)))]))
  .ret))
def k_spec_SignAt_r26 : K :=
  (.seq (.seq (.h [.kill [57, 58, 59, 60, 61, 62]] (.reg false [oo 57 (.mv (.s 1)),
   oo 58 (.mv (.s 0)),
   oo 59 (.len true (.s 58)),
   oo 60 (.bin .sub (.s 59) (.c (.int .i64 1))),
   oo 61 (.mv (.s 8)),
   oo 62 (.bin .sub (.s 60) (.s 61)),
   oo 63 (.bin .gtr (.s 57) (.s 62))]))
  (.cond (.s 63)
   (.seq (.h [.kill [0, 1, 8, 9, 10, 63]] (.reg false [oo 4 (.mv (.c (.int .i64 0))),
    oo 5 (.mv (.c (.int .i64 0))),
    oo 6 (.mv (.c (.bool false)))]))
   .ret)
   .skip))
  (.seq (.seq (.h [.clean []] (.h [.kill [63]] (.reg false [oo 11 (.mv (.c (.int .i64 1)))])))
  (.blk 1
   (.loop k_spec_SignAt_l55)))
  k_spec_SignAt_r51))
def k_spec_SignAt : F := ⟨102, [.tmp 4, .tmp 5, .tmp 6],
  (.seq (.h [.kill [4, 5, 6]] (.reg false [oo 4 (.mv (.c (.int .i64 0))),
   oo 5 (.mv (.c (.int .i64 0))),
   oo 6 (.mv (.c (.bool false)))]))
  (.seq (.seq (.h [.kill [13, 14, 15, 16, 17, 18, 19]] (.reg false [oo 13 (.mv (.s 1)),
   oo 14 (.bin .lss (.s 13) (.c (.int .i64 0))),
   oo 15 (.mv (.s 14)),
   ow 16 15 false (.mv (.s 1)),
   ow 17 15 false (.mv (.s 0)),
   ow 18 15 false (.len true (.s 17)),
   ow 19 15 false (.bin .geq (.s 16) (.s 18)),
   oo 20 (.pick (.s 15) (.c (.bool true)) (.s 19))]))
  (.cond (.s 20)
   (.seq (.h [.kill [0, 1, 20]] (.reg false [oo 4 (.mv (.c (.int .i64 0))),
    oo 5 (.mv (.c (.int .i64 0))),
    oo 6 (.mv (.c (.bool false)))]))
   .ret)
   .skip))
  (.seq (.h [.kill [20, 21, 22, 23, 24]] (.reg false [oo 21 (.mv (.s 0)),
   oo 22 (.mv (.s 1)),
   oo 23 (.ix (.s 21) (.s 22)),
   oo 24 (.conv (.int .i64) (.s 23)),
   oo 7 (.mv (.s 24))]))
  (.seq (.seq (.h [.kill [25]] (.reg false [oo 25 (.mv (.s 7)),
   oo 26 (.bin .lss (.s 25) (.c (.int .i64 128)))]))
  (.cond (.s 26)
   (.seq (.h [.kill [0, 1, 7, 26, 27, 28, 29]] (.reg false [oo 27 (.mv (.s 7)),
    oo 28 (.mv (.s 1)),
    oo 29 (.bin .add (.s 28) (.c (.int .i64 1))),
    oo 4 (.mv (.s 27)),
    oo 5 (.mv (.s 29)),
    oo 6 (.mv (.c (.bool true)))]))
   .ret)
   .skip))
  (.seq (.h [.kill [8, 26]] (.reg false [oo 8 (.mv (.c (.int .i64 0)))]))
  (.seq (.h [.kill [9]] (.reg false [oo 9 (.mv (.c (.int .i64 0)))]))
  (.seq (.h [.kill [10]] (.reg false [oo 10 (.mv (.c (.int .i64 0)))]))
  (.seq (.h [.clean []] (.blk 0
   (.seq (.h [.clean []] (.h [.kill [31, 32, 33, 34, 35, 36]] (.reg false [oo 31 (.mv (.s 7)),
    oo 32 (.bin .geq (.s 31) (.c (.int .i64 192))),
    oo 33 (.mv (.s 32)),
    ow 34 33 true (.mv (.s 7)),
    ow 35 33 true (.bin .lss (.s 34) (.c (.int .i64 224))),
    oo 36 (.pick (.s 33) (.s 35) (.c (.bool false))),
    oo 30 (.mv (.s 36))])))
   k_spec_SignAt_r28)))
  k_spec_SignAt_r26))))))))⟩

def k_spec_IsStart : F := ⟨6, [.tmp 2],
  (.seq (.h [.kill [2]] (.reg false [oo 2 (.mv (.c (.bool false)))]))
  (.seq (.h [.kill [0, 3, 4, 5]] (.reg false [oo 3 (.mv (.s 0)),
   oo 4 (.bsl 1 [(.c (.int .i64 65)), (.c (.int .i64 90)), (.c (.int .i64 95)), (.c (.int .i64 95)), (.c (.int .i64 97)), (.c (.int .i64 122)), (.c (.int .i64 192)), (.c (.int .i64 214)), (.c (.int .i64 216)), (.c (.int .i64 246)), (.c (.int .i64 248)), (.c (.int .i64 767)), (.c (.int .i64 880)), (.c (.int .i64 893)), (.c (.int .i64 895)), (.c (.int .i64 8191)), (.c (.int .i64 8204)), (.c (.int .i64 8205)), (.c (.int .i64 8304)), (.c (.int .i64 8591)), (.c (.int .i64 11264)), (.c (.int .i64 12271)), (.c (.int .i64 12289)), (.c (.int .i64 55295)), (.c (.int .i64 63744)), (.c (.int .i64 64975)), (.c (.int .i64 65008)), (.c (.int .i64 65533)), (.c (.int .i64 65536)), (.c (.int .i64 983039))]),
   oo 5 (.call n_spec_l1Ranges [.val, .give] [] [(.s 3), (.s 4)]),
   oo 2 (.mv (.s 5))]))
  .ret))⟩

def k_spec_IsPart : F := ⟨10, [.tmp 2],
  (.seq (.h [.kill [2]] (.reg false [oo 2 (.mv (.c (.bool false)))]))
  (.seq (.h [.kill [0, 3, 4, 5, 6, 7, 8, 9]] (.reg false [oo 3 (.mv (.s 0)),
   oo 4 (.call n_spec_IsStart [] [] [(.s 3)]),
   oo 5 (.mv (.s 4)),
   ow 6 5 false (.mv (.s 0)),
   ow 7 5 false (.bsl 1 [(.c (.int .i64 45)), (.c (.int .i64 46)), (.c (.int .i64 48)), (.c (.int .i64 57)), (.c (.int .i64 183)), (.c (.int .i64 183)), (.c (.int .i64 768)), (.c (.int .i64 879)), (.c (.int .i64 8255)), (.c (.int .i64 8256))]),
   ow 8 5 false (.call n_spec_l1Ranges [.val, .give] [] [(.s 6), (.s 7)]),
   oo 9 (.pick (.s 5) (.c (.bool true)) (.s 8)),
   oo 2 (.mv (.s 9))]))
  .ret))⟩

def k_spec_l1Signs_l6 : K :=
  (.h [.clean []] (.seq (.seq (.h [.kill [7, 8, 9]] (.reg false [oo 7 (.mv (.s 3)),
   oo 8 (.mv (.s 0)),
   oo 9 (.len true (.s 8)),
   oo 10 (.bin .lss (.s 7) (.s 9))]))
  (.cond (.s 10)
   .skip
   (.ex 0)))
  (.blk 1
   (.seq (.h [.kill [3, 10, 11, 12, 13, 14, 15, 16, 17]] (.reg false [oo 12 (.mv (.s 0)),
    oo 13 (.mv (.s 3)),
    oo 14 (.call n_spec_SignAt [] [] [(.s 12), (.s 13)]),
    oo 11 (.mv (.s 14)),
    oo 15 (.ext (.s 11) 0),
    oo 16 (.ext (.s 11) 1),
    oo 17 (.ext (.s 11) 2),
    oo 4 (.mv (.s 15)),
    oo 5 (.mv (.s 16)),
    oo 6 (.mv (.s 17))]))
   (.seq (.seq (.h [.kill [4, 6, 18, 19, 20, 21, 22, 23]] (.reg false [oo 18 (.mv (.s 6)),
    oo 19 (.un .not (.s 18)),
    oo 20 (.mv (.s 19)),
    ow 21 20 false (.mv (.s 4)),
    ow 22 20 false (.call n_spec_IsSign [] [] [(.s 21)]),
    ow 23 20 false (.un .not (.s 22)),
    oo 24 (.pick (.s 20) (.c (.bool true)) (.s 23))]))
   (.cond (.s 24)
    (.seq (.h [.kill [0, 5, 24]] (.reg false [oo 2 (.mv (.c (.bool false)))]))
    .ret)
    .skip))
   (.h [.kill [5, 24, 25]] (.reg false [oo 25 (.mv (.s 5)),
    oo 3 (.mv (.s 25))])))))))
def k_spec_l1Signs_r2 : K :=
  (.seq (.h [.kill [0, 3, 10, 26, 27, 28]] (.reg false [oo 26 (.mv (.s 0)),
   oo 27 (.len true (.s 26)),
   oo 28 (.bin .leq (.s 27) (.c (.int .i64 1500))),
   oo 2 (.mv (.s 28))]))
  .ret)
def k_spec_l1Signs : F := ⟨29, [.tmp 2],
  (.seq (.h [.kill [2]] (.reg false [oo 2 (.mv (.c (.bool false)))]))
  (.seq (.seq (.h [.clean []] (.reg false [oo 3 (.mv (.c (.int .i64 0)))]))
  (.blk 0
   (.loop k_spec_l1Signs_l6)))
  k_spec_l1Signs_r2))⟩

def k_slices_IndexFunc_Pred_l6 : K :=
  (.h [.clean []] (.seq (.reg false [oo 9 (.bin .lss (.s 8) (.s 7))])
  (.seq (.cond (.s 9)
   .skip
   (.ex 0))
  (.seq (.blk 1
   (.seq (.h [.kill [9, 10]] (.reg false [oo 10 (.mv (.s 8)),
    oo 5 (.mv (.s 10))]))
   (.seq (.h [.kill [11, 12, 13, 14, 15]] (.reg false [oo 11 (.mv (.s 1)),
    oo 12 (.mv (.s 0)),
    oo 13 (.mv (.s 5)),
    oo 14 (.ia 5 (.s 12) (.s 13)),
    oo 15 (.ld 5 true (.s 14)),
    oo 16 (.callv (.s 11) [] [] [(.s 15)])]))
   (.cond (.s 16)
    (.seq (.h [.kill [0, 1, 5, 7, 8, 16, 17]] (.reg false [oo 17 (.mv (.s 5)),
     oo 4 (.mv (.s 17))]))
    .ret)
    .skip))))
  (.h [.kill [5, 16, 18]] (.reg false [oo 18 (.bin .add (.s 8) (.c (.int .i64 1))),
   oo 8 (.mv (.s 18))]))))))
def k_slices_IndexFunc_Pred_r2 : K :=
  (.seq (.h [.kill [0, 1, 7, 8, 9]] (.reg false [oo 4 (.mv (.c (.int .i64 (-1))))]))
  .ret)
def k_slices_IndexFunc_Pred : F := ⟨19, [.tmp 4],
  (.seq (.h [.kill [4]] (.reg false [oo 4 (.mv (.c (.int .i64 0)))]))
  (.seq (.seq (.h [.clean []] (.h [.kill [6]] (.reg false [oo 6 (.mv (.s 0)),
   oo 7 (.len false (.s 6)),
   oo 8 (.mv (.c (.int .i64 0)))])))
  (.blk 0
   (.loop k_slices_IndexFunc_Pred_l6)))
  k_slices_IndexFunc_Pred_r2))⟩

def k_impl_SignAt : F := ⟨33, [.tmp 4, .tmp 5, .tmp 6],
  (.seq (.h [.kill [4, 5, 6]] (.reg false [oo 4 (.mv (.c (.int .i64 0))),
   oo 5 (.mv (.c (.int .i64 0))),
   oo 6 (.mv (.c (.bool false)))]))
  (.seq (.seq (.h [.kill [9, 10, 11, 12, 13]] (.reg false [oo 9 (.mv (.s 1)),
   oo 10 (.mv (.s 0)),
   oo 11 (.len true (.s 10)),
   oo 12 (.bin .sub (.s 11) (.c (.int .i64 1))),
   oo 13 (.call n_impl_in [] [] [(.s 9), (.c (.int .i64 0)), (.s 12)]),
   oo 14 (.un .not (.s 13))]))
  (.cond (.s 14)
   (.seq (.h [.kill [0, 1, 14]] (.reg false [oo 4 (.mv (.c (.int .i64 0))),
    oo 5 (.mv (.c (.int .i64 0))),
    oo 6 (.mv (.c (.bool false)))]))
   .ret)
   .skip))
  (.seq (.h [.kill [0, 14, 15, 16, 17, 18, 19, 20, 21]] (.reg false [oo 16 (.mv (.s 0)),
   oo 17 (.mv (.s 1)),
   oo 18 (.slc 0 (.s 16) (some (.s 17)) none),
   oo 19 (.call n_unicode_utf8_DecodeRuneInString [] [] [(.s 18)]),
   oo 15 (.mv (.s 19)),
   oo 20 (.ext (.s 15) 0),
   oo 21 (.ext (.s 15) 1),
   oo 7 (.mv (.s 20)),
   oo 8 (.mv (.s 21))]))
  (.seq (.seq (.h [.kill [22, 23, 24, 25, 26]] (.reg false [oo 22 (.mv (.s 7)),
   oo 23 (.bin .eql (.s 22) (.c (.int .i32 65533))),
   oo 24 (.mv (.s 23)),
   ow 25 24 true (.mv (.s 8)),
   ow 26 24 true (.bin .leq (.s 25) (.c (.int .i64 1))),
   oo 27 (.pick (.s 24) (.s 26) (.c (.bool false)))]))
  (.cond (.s 27)
   (.seq (.h [.kill [1, 7, 8, 27]] (.reg false [oo 4 (.mv (.c (.int .i64 0))),
    oo 5 (.mv (.c (.int .i64 0))),
    oo 6 (.mv (.c (.bool false)))]))
   .ret)
   .skip))
  (.seq (.h [.kill [1, 7, 8, 27, 28, 29, 30, 31, 32]] (.reg false [oo 28 (.mv (.s 7)),
   oo 29 (.conv (.int .i64) (.s 28)),
   oo 30 (.mv (.s 1)),
   oo 31 (.mv (.s 8)),
   oo 32 (.bin .add (.s 30) (.s 31)),
   oo 4 (.mv (.s 29)),
   oo 5 (.mv (.s 32)),
   oo 6 (.mv (.c (.bool true)))]))
  .ret)))))⟩

def k_impl_IsStart : F := ⟨21, [.tmp 2],
  (.seq (.h [.kill [2]] (.reg false [oo 2 (.mv (.c (.bool false)))]))
  (.seq (.h [.kill [0, 3, 4, 5, 6, 7, 8, 9, 10, 11, 12, 13, 14, 15, 16, 17, 18, 19, 20]] (.reg false [oo 3 (.mv (.s 0)),
   oo 4 (.build [.v (.int .i64 0), .v (.int .i64 0)] [(0, 1, (.c (.int .i64 65))), (1, 1, (.c (.int .i64 90)))]),
   oo 5 (.build [.v (.int .i64 0), .v (.int .i64 0)] [(0, 1, (.c (.int .i64 95))), (1, 1, (.c (.int .i64 95)))]),
   oo 6 (.build [.v (.int .i64 0), .v (.int .i64 0)] [(0, 1, (.c (.int .i64 97))), (1, 1, (.c (.int .i64 122)))]),
   oo 7 (.build [.v (.int .i64 0), .v (.int .i64 0)] [(0, 1, (.c (.int .i64 192))), (1, 1, (.c (.int .i64 214)))]),
   oo 8 (.build [.v (.int .i64 0), .v (.int .i64 0)] [(0, 1, (.c (.int .i64 216))), (1, 1, (.c (.int .i64 246)))]),
   oo 9 (.build [.v (.int .i64 0), .v (.int .i64 0)] [(0, 1, (.c (.int .i64 248))), (1, 1, (.c (.int .i64 767)))]),
   oo 10 (.build [.v (.int .i64 0), .v (.int .i64 0)] [(0, 1, (.c (.int .i64 880))), (1, 1, (.c (.int .i64 893)))]),
   oo 11 (.build [.v (.int .i64 0), .v (.int .i64 0)] [(0, 1, (.c (.int .i64 895))), (1, 1, (.c (.int .i64 8191)))]),
   oo 12 (.build [.v (.int .i64 0), .v (.int .i64 0)] [(0, 1, (.c (.int .i64 8204))), (1, 1, (.c (.int .i64 8205)))]),
   oo 13 (.build [.v (.int .i64 0), .v (.int .i64 0)] [(0, 1, (.c (.int .i64 8304))), (1, 1, (.c (.int .i64 8591)))]),
   oo 14 (.build [.v (.int .i64 0), .v (.int .i64 0)] [(0, 1, (.c (.int .i64 11264))), (1, 1, (.c (.int .i64 12271)))]),
   oo 15 (.build [.v (.int .i64 0), .v (.int .i64 0)] [(0, 1, (.c (.int .i64 12289))), (1, 1, (.c (.int .i64 55295)))]),
   oo 16 (.build [.v (.int .i64 0), .v (.int .i64 0)] [(0, 1, (.c (.int .i64 63744))), (1, 1, (.c (.int .i64 64975)))]),
   oo 17 (.build [.v (.int .i64 0), .v (.int .i64 0)] [(0, 1, (.c (.int .i64 65008))), (1, 1, (.c (.int .i64 65533)))]),
   oo 18 (.build [.v (.int .i64 0), .v (.int .i64 0)] [(0, 1, (.c (.int .i64 65536))), (1, 1, (.c (.int .i64 983039)))]),
   oo 19 (.bsl 2 [(.s 4), (.s 5), (.s 6), (.s 7), (.s 8), (.s 9), (.s 10), (.s 11), (.s 12), (.s 13), (.s 14), (.s 15), (.s 16), (.s 17), (.s 18)]),
   oo 20 (.call n_impl_inAny [.val, .give] [] [(.s 3), (.s 19)]),
   oo 2 (.mv (.s 20))]))
  .ret))⟩

def k_impl_IsPart : F := ⟨15, [.tmp 2],
  (.seq (.h [.kill [2]] (.reg false [oo 2 (.mv (.c (.bool false)))]))
  (.seq (.h [.kill [0, 3, 4, 5, 6, 7, 8, 9, 10, 11, 12, 13, 14]] (.reg false [oo 3 (.mv (.s 0)),
   oo 4 (.call n_impl_IsStart [] [] [(.s 3)]),
   oo 5 (.mv (.s 4)),
   ow 6 5 false (.mv (.s 0)),
   ow 7 5 false (.build [.v (.int .i64 0), .v (.int .i64 0)] [(0, 1, (.c (.int .i64 45))), (1, 1, (.c (.int .i64 46)))]),
   ow 8 5 false (.build [.v (.int .i64 0), .v (.int .i64 0)] [(0, 1, (.c (.int .i64 48))), (1, 1, (.c (.int .i64 57)))]),
   ow 9 5 false (.build [.v (.int .i64 0), .v (.int .i64 0)] [(0, 1, (.c (.int .i64 183))), (1, 1, (.c (.int .i64 183)))]),
   ow 10 5 false (.build [.v (.int .i64 0), .v (.int .i64 0)] [(0, 1, (.c (.int .i64 768))), (1, 1, (.c (.int .i64 879)))]),
   ow 11 5 false (.build [.v (.int .i64 0), .v (.int .i64 0)] [(0, 1, (.c (.int .i64 8255))), (1, 1, (.c (.int .i64 8256)))]),
   ow 12 5 false (.bsl 2 [(.s 7), (.s 8), (.s 9), (.s 10), (.s 11)]),
   ow 13 5 false (.call n_impl_inAny [.val, .give] [] [(.s 6), (.s 12)]),
   oo 14 (.pick (.s 5) (.c (.bool true)) (.s 13)),
   oo 2 (.mv (.s 14))]))
  .ret))⟩

def k_impl_in : F := ⟨15, [.tmp 6],
  (.seq (.h [.kill [6]] (.reg false [oo 6 (.mv (.c (.bool false)))]))
  (.seq (.h [.kill [0, 1, 2, 7, 8, 9, 10, 11, 12, 13, 14]] (.reg false [oo 7 (.mv (.s 0)),
   oo 8 (.mv (.s 1)),
   oo 9 (.bin .geq (.s 7) (.s 8)),
   oo 10 (.mv (.s 9)),
   ow 11 10 true (.mv (.s 0)),
   ow 12 10 true (.mv (.s 2)),
   ow 13 10 true (.bin .leq (.s 11) (.s 12)),
   oo 14 (.pick (.s 10) (.s 13) (.c (.bool false))),
   oo 6 (.mv (.s 14))]))
  .ret))⟩

def k_impl_signsOk_l6 : K :=
  (.h [.clean []] (.seq (.seq (.h [.kill [7, 8, 9]] (.reg false [oo 7 (.mv (.s 3)),
   oo 8 (.mv (.s 0)),
   oo 9 (.len true (.s 8)),
   oo 10 (.bin .lss (.s 7) (.s 9))]))
  (.cond (.s 10)
   .skip
   (.ex 0)))
  (.blk 1
   (.seq (.h [.kill [3, 10, 11, 12, 13, 14, 15, 16, 17]] (.reg false [oo 12 (.mv (.s 0)),
    oo 13 (.mv (.s 3)),
    oo 14 (.call n_impl_SignAt [] [] [(.s 12), (.s 13)]),
    oo 11 (.mv (.s 14)),
    oo 15 (.ext (.s 11) 0),
    oo 16 (.ext (.s 11) 1),
    oo 17 (.ext (.s 11) 2),
    oo 4 (.mv (.s 15)),
    oo 5 (.mv (.s 16)),
    oo 6 (.mv (.s 17))]))
   (.seq (.seq (.h [.kill [4, 6, 18, 19, 20, 21, 22, 23]] (.reg false [oo 18 (.mv (.s 6)),
    oo 19 (.un .not (.s 18)),
    oo 20 (.mv (.s 19)),
    ow 21 20 false (.mv (.s 4)),
    ow 22 20 false (.call n_impl_IsSign [] [] [(.s 21)]),
    ow 23 20 false (.un .not (.s 22)),
    oo 24 (.pick (.s 20) (.c (.bool true)) (.s 23))]))
   (.cond (.s 24)
    (.seq (.h [.kill [0, 5, 24]] (.reg false [oo 2 (.mv (.c (.bool false)))]))
    .ret)
    .skip))
   (.h [.kill [5, 24, 25]] (.reg false [oo 25 (.mv (.s 5)),
    oo 3 (.mv (.s 25))])))))))
def k_impl_signsOk_r2 : K :=
  (.seq (.h [.kill [0, 3, 10]] (.reg false [oo 2 (.mv (.c (.bool true)))]))
  .ret)
def k_impl_signsOk : F := ⟨26, [.tmp 2],
  (.seq (.h [.kill [2]] (.reg false [oo 2 (.mv (.c (.bool false)))]))
  (.seq (.seq (.h [.clean []] (.reg false [oo 3 (.mv (.c (.int .i64 0)))]))
  (.blk 0
   (.loop k_impl_signsOk_l6)))
  k_impl_signsOk_r2))⟩

def k_laws_eqPred : F := ⟨30, [.tmp 4],
  (.seq (.h [.kill [0, 1, 4]] (.reg false [oo 2 (.box (.s 0)),
   oo 3 (.box (.s 1)),
   oo 4 (.mv (.c (.bool false)))]))
  (.seq (.seq (.h [.kill [5, 6, 7, 8]] (.reg false [oo 5 (.fa 0 (.s 2)),
   oo 6 (.ld 1 false (.s 5)),
   oo 7 (.fa 0 (.s 3)),
   oo 8 (.ld 1 false (.s 7)),
   oo 9 (.bin .neq (.s 6) (.s 8))]))
  (.cond (.s 9)
   (.seq (.h [.kill [2, 3, 9]] (.reg false [oo 4 (.mv (.c (.bool false)))]))
   .ret)
   .skip))
  (.seq (.seq (.h [.kill [9, 10, 11, 12, 13]] (.reg false [oo 10 (.fa 1 (.s 2)),
   oo 11 (.ld 1 false (.s 10)),
   oo 12 (.fa 1 (.s 3)),
   oo 13 (.ld 1 false (.s 12)),
   oo 14 (.bin .neq (.s 11) (.s 13))]))
  (.cond (.s 14)
   (.seq (.h [.kill [2, 3, 14]] (.reg false [oo 4 (.mv (.c (.bool false)))]))
   .ret)
   .skip))
  (.seq (.seq (.h [.kill [14, 15, 16, 17, 18]] (.reg false [oo 15 (.fa 2 (.s 2)),
   oo 16 (.ld 1 false (.s 15)),
   oo 17 (.fa 2 (.s 3)),
   oo 18 (.ld 1 false (.s 17)),
   oo 19 (.bin .neq (.s 16) (.s 18))]))
  (.cond (.s 19)
   (.seq (.h [.kill [2, 3, 19]] (.reg false [oo 4 (.mv (.c (.bool false)))]))
   .ret)
   .skip))
  (.seq (.seq (.h [.kill [19, 20, 21, 22, 23]] (.reg false [oo 20 (.fa 3 (.s 2)),
   oo 21 (.ld 1 false (.s 20)),
   oo 22 (.fa 3 (.s 3)),
   oo 23 (.ld 1 false (.s 22)),
   oo 24 (.bin .neq (.s 21) (.s 23))]))
  (.cond (.s 24)
   (.seq (.h [.kill [2, 3, 24]] (.reg false [oo 4 (.mv (.c (.bool false)))]))
   .ret)
   .skip))
  (.seq (.seq (.h [.kill [2, 3, 24, 25, 26, 27, 28]] (.reg false [oo 25 (.fa 4 (.s 2)),
   oo 26 (.ld 1 false (.s 25)),
   oo 27 (.fa 4 (.s 3)),
   oo 28 (.ld 1 false (.s 27)),
   oo 29 (.bin .neq (.s 26) (.s 28))]))
  (.cond (.s 29)
   (.seq (.h [.kill [29]] (.reg false [oo 4 (.mv (.c (.bool false)))]))
   .ret)
   .skip))
  (.seq (.h [.kill [29]] (.reg false [oo 4 (.mv (.c (.bool true)))]))
  .ret)))))))⟩

def k_spec_l1Ranges_l6 : K :=
  (.h [.clean []] (.seq (.seq (.h [.kill [6, 7, 8, 9]] (.reg false [oo 6 (.mv (.s 5)),
   oo 7 (.bin .add (.s 6) (.c (.int .i64 1))),
   oo 8 (.mv (.s 1)),
   oo 9 (.len false (.s 8)),
   oo 10 (.bin .lss (.s 7) (.s 9))]))
  (.cond (.s 10)
   .skip
   (.ex 0)))
  (.seq (.blk 1
   (.seq (.h [.kill [10, 13, 14, 15, 16, 17, 18, 19, 20, 21, 22]] (.reg true [⟨some 13, none, .mv (.s 0), [], []⟩,
    ⟨some 14, none, .mv (.s 1), [], []⟩,
    ⟨some 15, none, .mv (.s 5), [], []⟩,
    ⟨some 16, none, .ia 1 (.s 14) (.s 15), [1], []⟩,
    ⟨some 17, none, .ld 1 false (.s 16), [1], []⟩,
    ⟨some 18, none, .mv (.s 1), [], []⟩,
    ⟨some 19, none, .mv (.s 5), [], []⟩,
    ⟨some 20, none, .bin .add (.s 19) (.c (.int .i64 1)), [], []⟩,
    ⟨some 21, none, .ia 1 (.s 18) (.s 20), [1], []⟩,
    ⟨some 22, none, .ld 1 false (.s 21), [1], []⟩,
    ⟨some 23, none, .call n_spec_l1In [] [] [(.s 13), (.s 17), (.s 22)], [0, 1], []⟩]))
   (.cond (.s 23)
    (.seq (.h [.kill [0, 1, 5, 23]] (.reg false [oo 4 (.mv (.c (.bool true)))]))
    .ret)
    .skip)))
  (.h [.kill [11, 12, 23]] (.reg false [oo 11 (.mv (.s 5)),
   oo 12 (.bin .add (.s 11) (.c (.int .i64 2))),
   oo 5 (.mv (.s 12))])))))
def k_spec_l1Ranges_r2 : K :=
  (.seq (.h [.kill [0, 1, 5, 10]] (.reg false [oo 4 (.mv (.c (.bool false)))]))
  .ret)
def k_spec_l1Ranges : F := ⟨24, [.tmp 4],
  (.seq (.h [.kill [4]] (.reg false [oo 4 (.mv (.c (.bool false)))]))
  (.seq (.seq (.h [.clean []] (.reg false [oo 5 (.mv (.c (.int .i64 0)))]))
  (.blk 0
   (.loop k_spec_l1Ranges_l6)))
  k_spec_l1Ranges_r2))⟩

def k_spec_IsSign : F := ⟨25, [.tmp 2],
  (.seq (.h [.kill [2]] (.reg false [oo 2 (.mv (.c (.bool false)))]))
  (.seq (.h [.kill [0, 3, 4, 5, 6, 7, 8, 9, 10, 11, 12, 13, 14, 15, 16, 17, 18, 19, 20, 21, 22, 23, 24]] (.reg false [oo 3 (.mv (.s 0)),
   oo 4 (.bin .eql (.s 3) (.c (.int .i64 9))),
   oo 5 (.mv (.s 4)),
   ow 6 5 false (.mv (.s 0)),
   ow 7 5 false (.bin .eql (.s 6) (.c (.int .i64 10))),
   oo 8 (.pick (.s 5) (.c (.bool true)) (.s 7)),
   oo 9 (.mv (.s 8)),
   ow 10 9 false (.mv (.s 0)),
   ow 11 9 false (.bin .eql (.s 10) (.c (.int .i64 13))),
   oo 12 (.pick (.s 9) (.c (.bool true)) (.s 11)),
   oo 13 (.mv (.s 12)),
   ow 14 13 false (.mv (.s 0)),
   ow 15 13 false (.call n_spec_l1In [] [] [(.s 14), (.c (.int .i64 32)), (.c (.int .i64 55295))]),
   oo 16 (.pick (.s 13) (.c (.bool true)) (.s 15)),
   oo 17 (.mv (.s 16)),
   ow 18 17 false (.mv (.s 0)),
   ow 19 17 false (.call n_spec_l1In [] [] [(.s 18), (.c (.int .i64 57344)), (.c (.int .i64 65533))]),
   oo 20 (.pick (.s 17) (.c (.bool true)) (.s 19)),
   oo 21 (.mv (.s 20)),
   ow 22 21 false (.mv (.s 0)),
   ow 23 21 false (.call n_spec_l1In [] [] [(.s 22), (.c (.int .i64 65536)), (.c (.int .i64 1114111))]),
   oo 24 (.pick (.s 21) (.c (.bool true)) (.s 23)),
   oo 2 (.mv (.s 24))]))
  .ret))⟩

def k_impl_stepOk_1 : F := ⟨9, [.tmp 3],
  (.seq (.h [.kill [0, 3]] (.reg false [oo 2 (.box (.s 0)),
   oo 3 (.mv (.c (.bool false)))]))
  (.seq (.h [.kill [1, 2, 4, 5, 6, 7, 8]] (.reg false [oo 4 (.ld 5 true (.s 2)),
   oo 5 (.fa 1 (.s 1)),
   oo 6 (.ld 1 false (.s 5)),
   oo 7 (.call n_impl_predOk [] [] [(.s 4), (.s 6)]),
   oo 8 (.un .not (.s 7)),
   oo 3 (.mv (.s 8))]))
  .ret))⟩

def k_impl_inAny : F := ⟨8, [.tmp 4],
  (.seq (.h [.kill [0, 4]] (.reg false [oo 2 (.box (.s 0)),
   oo 4 (.mv (.c (.bool false)))]))
  (.seq (.h [.kill [1, 2, 5, 6, 7]] (.reg false [oo 5 (.mv (.s 1)),
   oo 6 (.mkf n_impl_inAny_1 [(.s 2)]),
   oo 7 (.call n_slices_ContainsFunc_A2int [] [] [(.s 5), (.s 6)]),
   oo 4 (.mv (.s 7))]))
  .ret))⟩

def k_impl_IsSign : F := ⟨11, [.tmp 2],
  (.seq (.h [.kill [2]] (.reg false [oo 2 (.mv (.c (.bool false)))]))
  (.seq (.h [.kill [0, 3, 4, 5, 6, 7, 8, 9, 10]] (.reg false [oo 3 (.mv (.s 0)),
   oo 4 (.build [.v (.int .i64 0), .v (.int .i64 0)] [(0, 1, (.c (.int .i64 9))), (1, 1, (.c (.int .i64 10)))]),
   oo 5 (.build [.v (.int .i64 0), .v (.int .i64 0)] [(0, 1, (.c (.int .i64 13))), (1, 1, (.c (.int .i64 13)))]),
   oo 6 (.build [.v (.int .i64 0), .v (.int .i64 0)] [(0, 1, (.c (.int .i64 32))), (1, 1, (.c (.int .i64 55295)))]),
   oo 7 (.build [.v (.int .i64 0), .v (.int .i64 0)] [(0, 1, (.c (.int .i64 57344))), (1, 1, (.c (.int .i64 65533)))]),
   oo 8 (.build [.v (.int .i64 0), .v (.int .i64 0)] [(0, 1, (.c (.int .i64 65536))), (1, 1, (.c (.int .i64 1114111)))]),
   oo 9 (.bsl 2 [(.s 4), (.s 5), (.s 6), (.s 7), (.s 8)]),
   oo 10 (.call n_impl_inAny [.val, .give] [] [(.s 3), (.s 9)]),
   oo 2 (.mv (.s 10))]))
  .ret))⟩

def k_impl_predOk_r16 : K :=
  (.cond (.s 37)
   (.seq (.h [.kill [2, 5, 6, 22, 37, 40, 41, 42, 43, 44, 45, 46, 47, 48, 49, 50, 51, 52, 53, 54, 55, 56, 57]] (.reg false [oo 40 (.mv (.s 6)),
    oo 41 (.mv (.s 40)),
    ow 42 41 true (.fa 1 (.s 2)),
    ow 43 41 true (.ld 1 false (.s 42)),
    ow 44 41 true (.bin .eql (.s 43) (.c (.int .i64 0))),
    oo 45 (.pick (.s 41) (.s 44) (.c (.bool false))),
    oo 46 (.mv (.s 45)),
    ow 47 46 true (.fa 2 (.s 2)),
    ow 48 46 true (.ld 1 false (.s 47)),
    ow 49 46 true (.fa 3 (.s 2)),
    ow 50 46 true (.ld 1 false (.s 49)),
    ow 51 46 true (.call n_impl_nameOk [] [] [(.s 48), (.s 50)]),
    oo 52 (.pick (.s 46) (.s 51) (.c (.bool false))),
    oo 53 (.mv (.s 52)),
    ow 54 53 true (.fa 4 (.s 2)),
    ow 55 53 true (.ld 1 false (.s 54)),
    ow 56 53 true (.call n_impl_valOk [] [] [(.s 55)]),
    oo 57 (.pick (.s 53) (.s 56) (.c (.bool false))),
    oo 4 (.mv (.s 57))]))
   .ret)
   (.seq (.h [.kill [22, 37, 59]] (.reg false [oo 59 (.bin .eql (.s 22) (.c (.int .i64 4))),
    oo 58 (.mv (.s 59))]))
   (.cond (.s 58)
    (.seq (.h [.kill [2, 5, 6, 58, 60, 61, 62, 63, 64, 65, 66, 67, 68, 69, 70, 71, 72, 73, 74]] (.reg false [oo 60 (.mv (.s 6)),
     oo 61 (.mv (.s 60)),
     ow 62 61 true (.fa 1 (.s 2)),
     ow 63 61 true (.ld 1 false (.s 62)),
     ow 64 61 true (.bin .eql (.s 63) (.c (.int .i64 0))),
     oo 65 (.pick (.s 61) (.s 64) (.c (.bool false))),
     oo 66 (.mv (.s 65)),
     ow 67 66 true (.mv (.s 5)),
     ow 68 66 true (.un .not (.s 67)),
     oo 69 (.pick (.s 66) (.s 68) (.c (.bool false))),
     oo 70 (.mv (.s 69)),
     ow 71 70 true (.fa 4 (.s 2)),
     ow 72 70 true (.ld 1 false (.s 71)),
     ow 73 70 true (.call n_impl_valOk [] [] [(.s 72)]),
     oo 74 (.pick (.s 70) (.s 73) (.c (.bool false))),
     oo 4 (.mv (.s 74))]))
    .ret)
    .skip)))
def k_impl_predOk_r6 : K :=
  (.seq (.h [.kill [2, 5, 6, 58]] (.reg false [oo 4 (.mv (.c (.bool false)))]))
  .ret)
def k_impl_predOk_r4 : K :=
  (.seq (.seq (.h [.kill [21]] (.reg false [oo 21 (.fa 0 (.s 2)),
   oo 22 (.ld 1 false (.s 21))]))
  (.blk 0
   (.seq (.h [.kill [24]] (.reg false [oo 24 (.bin .eql (.s 22) (.c (.int .i64 1))),
    oo 23 (.mv (.s 24))]))
   (.cond (.s 23)
    (.seq (.h [.kill [2, 5, 6, 22, 23, 25, 26, 27, 28, 29, 30, 31, 32, 33, 34, 35, 36]] (.reg false [oo 25 (.fa 1 (.s 2)),
     oo 26 (.ld 1 false (.s 25)),
     oo 27 (.call n_impl_in [] [] [(.s 26), (.c (.int .i64 1)), (.c (.int .i64 999))]),
     oo 28 (.mv (.s 27)),
     ow 29 28 true (.mv (.s 5)),
     ow 30 28 true (.un .not (.s 29)),
     oo 31 (.pick (.s 28) (.s 30) (.c (.bool false))),
     oo 32 (.mv (.s 31)),
     ow 33 32 true (.fa 4 (.s 2)),
     ow 34 32 true (.ld 1 false (.s 33)),
     ow 35 32 true (.bin .eql (.s 34) (.c (.string ⟨#[]⟩))),
     oo 36 (.pick (.s 32) (.s 35) (.c (.bool false))),
     oo 4 (.mv (.s 36))]))
    .ret)
    (.seq (.h [.clean []] (.seq (.h [.kill [23, 38]] (.reg false [oo 38 (.bin .eql (.s 22) (.c (.int .i64 2))),
     oo 37 (.mv (.s 38))]))
    (.cond (.s 37)
     .skip
     (.h [.kill [39]] (.reg false [oo 39 (.bin .eql (.s 22) (.c (.int .i64 3))),
      oo 37 (.mv (.s 39))])))))
    k_impl_predOk_r16)))))
  k_impl_predOk_r6)
def k_impl_predOk_r2 : K :=
  (.seq (.h [.clean []] (.h [.kill [1, 15, 16, 17, 18, 19, 20]] (.reg false [oo 15 (.mv (.s 1)),
   oo 16 (.bin .eql (.s 15) (.c (.int .i64 1))),
   oo 17 (.mv (.s 16)),
   ow 18 17 false (.mv (.s 1)),
   ow 19 17 false (.bin .eql (.s 18) (.c (.int .i64 2))),
   oo 20 (.pick (.s 17) (.c (.bool true)) (.s 19)),
   oo 6 (.mv (.s 20))])))
  k_impl_predOk_r4)
def k_impl_predOk : F := ⟨75, [.tmp 4],
  (.seq (.h [.kill [0, 4]] (.reg false [oo 2 (.box (.s 0)),
   oo 4 (.mv (.c (.bool false)))]))
  (.seq (.h [.clean []] (.h [.kill [7, 8, 9, 10, 11, 12, 13, 14]] (.reg false [oo 7 (.fa 2 (.s 2)),
   oo 8 (.ld 1 false (.s 7)),
   oo 9 (.bin .neq (.s 8) (.c (.string ⟨#[]⟩))),
   oo 10 (.mv (.s 9)),
   ow 11 10 false (.fa 3 (.s 2)),
   ow 12 10 false (.ld 1 false (.s 11)),
   ow 13 10 false (.bin .neq (.s 12) (.c (.string ⟨#[]⟩))),
   oo 14 (.pick (.s 10) (.c (.bool true)) (.s 13)),
   oo 5 (.mv (.s 14))])))
  k_impl_predOk_r2))⟩

def k_slices_ContainsFunc_A2int : F := ⟨9, [.tmp 4],
  (.seq (.h [.kill [4]] (.reg false [oo 4 (.mv (.c (.bool false)))]))
  (.seq (.h [.kill [0, 1, 5, 6, 7, 8]] (.reg false [oo 5 (.mv (.s 0)),
   oo 6 (.mv (.s 1)),
   oo 7 (.call n_slices_IndexFunc_A2int [] [] [(.s 5), (.s 6)]),
   oo 8 (.bin .geq (.s 7) (.c (.int .i64 0))),
   oo 4 (.mv (.s 8))]))
  .ret))⟩

def k_slices_IndexFunc_A2int_l6 : K :=
  (.h [.clean []] (.seq (.reg false [oo 9 (.bin .lss (.s 8) (.s 7))])
  (.seq (.cond (.s 9)
   .skip
   (.ex 0))
  (.seq (.blk 1
   (.seq (.h [.kill [9, 10]] (.reg false [oo 10 (.mv (.s 8)),
    oo 5 (.mv (.s 10))]))
   (.seq (.h [.kill [11, 12, 13, 14, 15]] (.reg false [oo 11 (.mv (.s 1)),
    oo 12 (.mv (.s 0)),
    oo 13 (.mv (.s 5)),
    oo 14 (.ia 2 (.s 12) (.s 13)),
    oo 15 (.ld 2 true (.s 14)),
    oo 16 (.callv (.s 11) [] [] [(.s 15)])]))
   (.cond (.s 16)
    (.seq (.h [.kill [0, 1, 5, 7, 8, 16, 17]] (.reg false [oo 17 (.mv (.s 5)),
     oo 4 (.mv (.s 17))]))
    .ret)
    .skip))))
  (.h [.kill [5, 16, 18]] (.reg false [oo 18 (.bin .add (.s 8) (.c (.int .i64 1))),
   oo 8 (.mv (.s 18))]))))))
def k_slices_IndexFunc_A2int_r2 : K :=
  (.seq (.h [.kill [0, 1, 7, 8, 9]] (.reg false [oo 4 (.mv (.c (.int .i64 (-1))))]))
  .ret)
def k_slices_IndexFunc_A2int : F := ⟨19, [.tmp 4],
  (.seq (.h [.kill [4]] (.reg false [oo 4 (.mv (.c (.int .i64 0)))]))
  (.seq (.seq (.h [.clean []] (.h [.kill [6]] (.reg false [oo 6 (.mv (.s 0)),
   oo 7 (.len false (.s 6)),
   oo 8 (.mv (.c (.int .i64 0)))])))
  (.blk 0
   (.loop k_slices_IndexFunc_A2int_l6)))
  k_slices_IndexFunc_A2int_r2))⟩

def k_impl_inAny_1 : F := ⟨10, [.tmp 3],
  (.seq (.h [.kill [0, 3]] (.reg false [oo 2 (.box (.s 0)),
   oo 3 (.mv (.c (.bool false)))]))
  (.seq (.h [.kill [1, 2, 4, 5, 6, 7, 8, 9]] (.reg false [oo 4 (.ld 1 false (.s 1)),
   oo 5 (.fa 0 (.s 2)),
   oo 6 (.ld 1 false (.s 5)),
   oo 7 (.fa 1 (.s 2)),
   oo 8 (.ld 1 false (.s 7)),
   oo 9 (.call n_impl_in [] [] [(.s 4), (.s 6), (.s 8)]),
   oo 3 (.mv (.s 9))]))
  .ret))⟩

def FTT : FTab
  | 3 => some k_laws_FnExactSelText
  | 4 => some k_laws_szSel
  | 5 => some k_spec_SelText
  | 6 => some k_laws_toSel
  | 7 => some k_impl_SelText
  | 8 => some k_laws_eqSel
  | 9 => some k_laws_szStepS
  | 10 => some k_spec_SelOk
  | 11 => some k_spec_l11Quote
  | 12 => some k_spec_l11Step
  | 13 => some k_laws_toStepS
  | 14 => some k_impl_SelOk
  | 15 => some k_impl_quotedVal
  | 16 => some k_impl_stepText
  | 17 => some k_impl_predText
  | 18 => some k_laws_eqStepS
  | 19 => some k_laws_szStep
  | 20 => some k_spec_l11StepOk
  | 21 => some k_spec_l11Val
  | 22 => some k_spec_l5Has
  | 23 => some k_spec_JoinName
  | 24 => some k_spec_l11Pred
  | 25 => some k_laws_toStep
  | 26 => some k_impl_stepOk
  | 27 => some k_impl_valOk
  | 29 => some k_impl_JoinName
  | 31 => some k_laws_eqStep
  | 32 => some k_laws_szPredS
  | 33 => some k_spec_l11PredOk
  | 34 => some k_spec_PlainOk
  | 35 => some k_spec_TextOk
  | 36 => some k_spec_SplitName
  | 37 => some k_spec_l11Num
  | 38 => some k_laws_toPredS
  | 39 => some k_slices_ContainsFunc_Pred
  | 40 => some k_impl_stepOk_1
  | 41 => some k_impl_predOk
  | 42 => some k_impl_nameOk
  | 43 => some k_impl_PlainOk
  | 44 => some k_impl_TextOk
  | 46 => some k_impl_SplitName
  | 48 => some k_laws_eqPredS
  | 49 => some k_laws_szPred
  | 50 => some k_spec_l1In
  | 51 => some k_spec_SignAt
  | 52 => some k_spec_IsStart
  | 53 => some k_spec_IsPart
  | 54 => some k_spec_l1Signs
  | 55 => some k_laws_toPred
  | 56 => some k_slices_IndexFunc_Pred
  | 57 => some k_impl_in
  | 58 => some k_impl_SignAt
  | 59 => some k_impl_IsStart
  | 60 => some k_impl_IsPart
  | 61 => some k_impl_signsOk
  | 65 => some k_laws_eqPred
  | 66 => some k_spec_l1Ranges
  | 67 => some k_spec_IsSign
  | 69 => some k_impl_inAny
  | 70 => some k_impl_IsSign
  | 81 => some k_slices_ContainsFunc_A2int
  | 82 => some k_impl_inAny_1
  | 90 => some k_slices_IndexFunc_A2int
  | _ => none
def FTA : Env := ⟨FTT, [], [(n_strings_Contains, x_contains1), (n_strconv_Itoa, x_itoa), (n_strings_Cut, x_cut), (n_unicode_utf8_DecodeRuneInString, x_decode)]⟩
def SSA := And.intro (SS FTA) S3
end TT
