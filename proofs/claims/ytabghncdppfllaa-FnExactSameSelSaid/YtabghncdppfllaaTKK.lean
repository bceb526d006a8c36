import Derived.Test.YtabghncdppfllaaTNums
set_option linter.unusedVariables false
set_option linter.unusedSimpArgs false
set_option linter.defProp false
set_option maxRecDepth 100000
namespace TT
open Go
def k_laws_FnExactSameSel : F := ⟨45, [.tmp 4],
  (.seq (.h [.kill [0, 1, 4]] (.reg false [oo 2 (.box (.s 0)),
   oo 3 (.box (.s 1)),
   oo 4 (.mv (.c (.bool false)))]))
  (.seq (.reg false [oo 5 (.mv (.c (.int .i64 1048576)))])
  (.seq (.h [.kill [10, 11, 12]] (.reg false [oo 10 (.ld 2 true (.s 2)),
   oo 11 (.mv (.s 5)),
   oo 12 (.call n_laws_szSel [] [] [(.s 10), (.s 11)]),
   oo 5 (.mv (.s 12))]))
  (.seq (.seq (.h [.kill [13]] (.reg false [oo 13 (.mv (.s 5)),
   oo 14 (.bin .lss (.s 13) (.c (.int .i64 0)))]))
  (.cond (.s 14)
   (.seq (.h [.kill [2, 3, 5, 14]] (.reg false [oo 4 (.mv (.c (.bool true)))]))
   .ret)
   .skip))
  (.seq (.h [.kill [14, 15, 16, 17]] (.reg false [oo 15 (.ld 2 true (.s 3)),
   oo 16 (.mv (.s 5)),
   oo 17 (.call n_laws_szSel [] [] [(.s 15), (.s 16)]),
   oo 5 (.mv (.s 17))]))
  (.seq (.seq (.h [.kill [5, 18]] (.reg false [oo 18 (.mv (.s 5)),
   oo 19 (.bin .lss (.s 18) (.c (.int .i64 0)))]))
  (.cond (.s 19)
   (.seq (.h [.kill [2, 3, 19]] (.reg false [oo 4 (.mv (.c (.bool true)))]))
   .ret)
   .skip))
  (.seq (.h [.kill [19, 20, 21, 22, 23, 24]] (.reg true [⟨some 20, none, .ld 2 true (.s 2), [2], []⟩,
   ⟨some 21, none, .call n_laws_toSel [] [true] [(.s 20)], [2], [21]⟩,
   ⟨some 22, none, .ld 2 true (.s 3), [3], []⟩,
   ⟨some 23, none, .call n_laws_toSel [] [true] [(.s 22)], [3], [23]⟩,
   ⟨some 24, none, .call n_spec_SameSel [] [] [(.s 21), (.s 23)], [21, 23], []⟩,
   ⟨some 6, none, .mv (.s 24), [], []⟩]))
  (.seq (.h [.kill [25, 26]] (.reg false [oo 25 (.ld 2 true (.s 2)),
   oo 26 (.call n_laws_toSel [] [true] [(.s 25)]),
   oo 7 (.alloc [.v (.string ⟨#[]⟩), .sl true []]),
   on (.st 2 (.s 7) (.s 26))]))
  (.seq (.h [.kill [27, 28]] (.reg false [oo 27 (.ld 2 true (.s 3)),
   oo 28 (.call n_laws_toSel [] [true] [(.s 27)]),
   oo 8 (.alloc [.v (.string ⟨#[]⟩), .sl true []]),
   on (.st 2 (.s 8) (.s 28))]))
  (.seq (.h [.kill [29, 30, 31]] (.reg false [oo 29 (.ld 2 true (.s 7)),
   oo 30 (.ld 2 true (.s 8)),
   oo 31 (.call n_impl_SameSel [] [] [(.s 29), (.s 30)]),
   oo 9 (.mv (.s 31))]))
  (.seq (.seq (.h [.kill [6, 9, 32, 33]] (.reg false [oo 32 (.mv (.s 9)),
   oo 33 (.mv (.s 6)),
   oo 34 (.beq true (.s 32) (.s 33))]))
  (.cond (.s 34)
   (.seq (.h [.kill [2, 3, 7, 8, 34]] (.reg false [oo 4 (.mv (.c (.bool false)))]))
   .ret)
   .skip))
  (.seq (.seq (.h [.kill [2, 7, 34, 35, 36, 37, 38]] (.reg true [⟨some 35, none, .ld 2 true (.s 7), [7], []⟩,
   ⟨some 36, none, .ld 2 true (.s 2), [2], []⟩,
   ⟨some 37, none, .call n_laws_toSel [] [true] [(.s 36)], [2], [37]⟩,
   ⟨some 38, none, .call n_laws_eqSel [] [] [(.s 35), (.s 37)], [7, 37], []⟩,
   ⟨some 39, none, .un .not (.s 38), [], []⟩]))
  (.cond (.s 39)
   (.seq (.h [.kill [3, 8, 39]] (.reg false [oo 4 (.mv (.c (.bool false)))]))
   .ret)
   .skip))
  (.seq (.seq (.h [.kill [3, 8, 39, 40, 41, 42, 43]] (.reg true [⟨some 40, none, .ld 2 true (.s 8), [8], []⟩,
   ⟨some 41, none, .ld 2 true (.s 3), [3], []⟩,
   ⟨some 42, none, .call n_laws_toSel [] [true] [(.s 41)], [3], [42]⟩,
   ⟨some 43, none, .call n_laws_eqSel [] [] [(.s 40), (.s 42)], [8, 42], []⟩,
   ⟨some 44, none, .un .not (.s 43), [], []⟩]))
  (.cond (.s 44)
   (.seq (.h [.kill [44]] (.reg false [oo 4 (.mv (.c (.bool false)))]))
   .ret)
   .skip))
  (.seq (.h [.kill [44]] (.reg false [oo 4 (.mv (.c (.bool true)))]))
  .ret))))))))))))))⟩

def k_laws_szSel : F := ⟨19, [.tmp 4],
  (.seq (.h [.kill [0, 4]] (.reg false [oo 2 (.box (.s 0)),
   oo 4 (.mv (.c (.int .i64 0)))]))
  (.seq (.h [.kill [5, 6, 7, 8, 9]] (.reg false [oo 5 (.mv (.s 1)),
   oo 6 (.fa 0 (.s 2)),
   oo 7 (.ld 1 false (.s 6)),
   oo 8 (.len true (.s 7)),
   oo 9 (.bin .sub (.s 5) (.s 8)),
   oo 1 (.mv (.s 9))]))
  (.seq (.seq (.h [.kill [10]] (.reg false [oo 10 (.mv (.s 1)),
   oo 11 (.bin .lss (.s 10) (.c (.int .i64 0)))]))
  (.cond (.s 11)
   (.seq (.h [.kill [1, 2, 11]] (.reg false [oo 4 (.mv (.c (.int .i64 (-1))))]))
   .ret)
   .skip))
  (.seq (.h [.kill [2, 11, 12, 13, 14, 15]] (.reg false [oo 12 (.fa 1 (.s 2)),
   oo 13 (.ld 1 false (.s 12)),
   oo 14 (.mv (.s 1)),
   oo 15 (.call n_laws_szStepS [] [] [(.s 13), (.s 14)]),
   oo 1 (.mv (.s 15))]))
  (.seq (.seq (.h [.kill [16]] (.reg false [oo 16 (.mv (.s 1)),
   oo 17 (.bin .lss (.s 16) (.c (.int .i64 0)))]))
  (.cond (.s 17)
   (.seq (.h [.kill [1, 17]] (.reg false [oo 4 (.mv (.c (.int .i64 (-1))))]))
   .ret)
   .skip))
  (.seq (.h [.kill [1, 17, 18]] (.reg false [oo 18 (.mv (.s 1)),
   oo 4 (.mv (.s 18))]))
  .ret))))))⟩

def k_laws_toSel : F := ⟨12, [.cell 2 2 true],
  (.seq (.h [.kill [0]] (.reg false [oo 1 (.box (.s 0)),
   oo 2 (.alloc [.v (.string ⟨#[]⟩), .sl true []])]))
  (.seq (.reg false [oo 3 (.alloc [.v (.string ⟨#[]⟩), .sl true []])])
  (.seq (.h [.kill [4, 5, 6]] (.reg false [oo 4 (.fa 0 (.s 1)),
   oo 5 (.ld 1 false (.s 4)),
   oo 6 (.fa 0 (.s 3)),
   on (.st 1 (.s 6) (.s 5))]))
  (.seq (.h [.kill [1, 7, 8, 9, 10]] (.reg false [oo 7 (.fa 1 (.s 1)),
   oo 8 (.ld 1 false (.s 7)),
   oo 9 (.call n_laws_toStepS [] [true] [(.s 8)]),
   oo 10 (.fa 1 (.s 3)),
   on (.st 1 (.s 10) (.s 9))]))
  (.seq (.h [.kill [3, 11]] (.reg false [oo 11 (.ld 2 true (.s 3)),
   on (.st 2 (.s 2) (.s 11))]))
  .ret)))))⟩

def k_spec_SameSel_l38 : K :=
  (.h [.clean []] (.seq (.seq (.h [.kill [75, 76, 77, 78]] (.reg false [oo 75 (.mv (.s 8)),
   oo 76 (.fa 4 (.s 6)),
   oo 77 (.ld 1 false (.s 76)),
   oo 78 (.len false (.s 77)),
   oo 79 (.bin .lss (.s 75) (.s 78))]))
  (.cond (.s 79)
   .skip
   (.ex 2)))
  (.seq (.blk 3
   (.seq (.h [.kill [79, 82, 83, 84, 85, 86, 87, 88, 89, 90, 91]] (.reg true [⟨some 82, none, .fa 4 (.s 6), [], []⟩,
    ⟨some 83, none, .ld 1 false (.s 82), [6], []⟩,
    ⟨some 84, none, .mv (.s 8), [], []⟩,
    ⟨some 85, none, .ia 5 (.s 83) (.s 84), [6], []⟩,
    ⟨some 86, none, .ld 5 true (.s 85), [6], []⟩,
    ⟨some 87, none, .fa 4 (.s 7), [], []⟩,
    ⟨some 88, none, .ld 1 false (.s 87), [7], []⟩,
    ⟨some 89, none, .mv (.s 8), [], []⟩,
    ⟨some 90, none, .ia 5 (.s 88) (.s 89), [7], []⟩,
    ⟨some 91, none, .ld 5 true (.s 90), [7], []⟩,
    ⟨some 92, none, .eqs true [.int, .int, .str, .str, .str] (.s 86) (.s 91), [], []⟩]))
   (.cond (.s 92)
    (.seq (.h [.kill [2, 3, 5, 6, 7, 8, 92]] (.reg false [oo 4 (.mv (.c (.bool false)))]))
    .ret)
    .skip)))
  (.h [.kill [80, 81, 92]] (.reg false [oo 80 (.mv (.s 8)),
   oo 81 (.bin .add (.s 80) (.c (.int .i64 1))),
   oo 8 (.mv (.s 81))])))))
def k_spec_SameSel_r21 : K :=
  (.h [.kill [6, 7, 8, 28, 29, 79]] (.reg false [oo 28 (.mv (.s 5)),
   oo 29 (.bin .add (.s 28) (.c (.int .i64 1))),
   oo 5 (.mv (.s 29))]))
def k_spec_SameSel_l14 : K :=
  (.h [.clean [6, 7]] (.seq (.seq (.h [.kill [23, 24, 25, 26]] (.reg false [oo 23 (.mv (.s 5)),
   oo 24 (.fa 1 (.s 2)),
   oo 25 (.ld 1 false (.s 24)),
   oo 26 (.len false (.s 25)),
   oo 27 (.bin .lss (.s 23) (.s 26))]))
  (.cond (.s 27)
   .skip
   (.ex 0)))
  (.seq (.blk 1
   (.seq (.h [.kill [27, 30, 31, 32, 33, 34]] (.reg false [oo 30 (.fa 1 (.s 2)),
    oo 31 (.ld 1 false (.s 30)),
    oo 32 (.mv (.s 5)),
    oo 33 (.ia 5 (.s 31) (.s 32)),
    oo 34 (.ld 5 true (.s 33)),
    oo 6 (.alloc [.v (.bool false), .v (.int .i64 0), .v (.string ⟨#[]⟩), .v (.string ⟨#[]⟩), .sl true []]),
    on (.st 5 (.s 6) (.s 34))]))
   (.seq (.h [.kill [35, 36, 37, 38, 39]] (.reg false [oo 35 (.fa 1 (.s 3)),
    oo 36 (.ld 1 false (.s 35)),
    oo 37 (.mv (.s 5)),
    oo 38 (.ia 5 (.s 36) (.s 37)),
    oo 39 (.ld 5 true (.s 38)),
    oo 7 (.alloc [.v (.bool false), .v (.int .i64 0), .v (.string ⟨#[]⟩), .v (.string ⟨#[]⟩), .sl true []]),
    on (.st 5 (.s 7) (.s 39))]))
   (.seq (.seq (.h [.kill [40, 41, 42, 43, 44, 45, 46, 47, 48, 49, 50, 51, 52, 53, 54, 55, 56, 57, 58, 59, 60, 61, 62, 63, 64, 65, 66, 67, 68, 69, 70, 71, 72, 73]] (.reg false [oo 40 (.fa 0 (.s 6)),
    oo 41 (.ld 1 false (.s 40)),
    oo 42 (.fa 0 (.s 7)),
    oo 43 (.ld 1 false (.s 42)),
    oo 44 (.beq true (.s 41) (.s 43)),
    oo 45 (.mv (.s 44)),
    ow 46 45 false (.fa 1 (.s 6)),
    ow 47 45 false (.ld 1 false (.s 46)),
    ow 48 45 false (.fa 1 (.s 7)),
    ow 49 45 false (.ld 1 false (.s 48)),
    ow 50 45 false (.bin .neq (.s 47) (.s 49)),
    oo 51 (.pick (.s 45) (.c (.bool true)) (.s 50)),
    oo 52 (.mv (.s 51)),
    ow 53 52 false (.fa 2 (.s 6)),
    ow 54 52 false (.ld 1 false (.s 53)),
    ow 55 52 false (.fa 2 (.s 7)),
    ow 56 52 false (.ld 1 false (.s 55)),
    ow 57 52 false (.bin .neq (.s 54) (.s 56)),
    oo 58 (.pick (.s 52) (.c (.bool true)) (.s 57)),
    oo 59 (.mv (.s 58)),
    ow 60 59 false (.fa 3 (.s 6)),
    ow 61 59 false (.ld 1 false (.s 60)),
    ow 62 59 false (.fa 3 (.s 7)),
    ow 63 59 false (.ld 1 false (.s 62)),
    ow 64 59 false (.bin .neq (.s 61) (.s 63)),
    oo 65 (.pick (.s 59) (.c (.bool true)) (.s 64)),
    oo 66 (.mv (.s 65)),
    ow 67 66 false (.fa 4 (.s 6)),
    ow 68 66 false (.ld 1 false (.s 67)),
    ow 69 66 false (.len false (.s 68)),
    ow 70 66 false (.fa 4 (.s 7)),
    ow 71 66 false (.ld 1 false (.s 70)),
    ow 72 66 false (.len false (.s 71)),
    ow 73 66 false (.bin .neq (.s 69) (.s 72)),
    oo 74 (.pick (.s 66) (.c (.bool true)) (.s 73))]))
   (.cond (.s 74)
    (.seq (.h [.kill [2, 3, 5, 6, 7, 74]] (.reg false [oo 4 (.mv (.c (.bool false)))]))
    .ret)
    .skip))
   (.seq (.h [.clean []] (.h [.kill [74]] (.reg false [oo 8 (.mv (.c (.int .i64 0)))])))
   (.blk 2
    (.loop k_spec_SameSel_l38)))))))
  k_spec_SameSel_r21)))
def k_spec_SameSel_r10 : K :=
  (.seq (.h [.kill [2, 3, 5, 27]] (.reg false [oo 4 (.mv (.c (.bool true)))]))
  .ret)
def k_spec_SameSel : F := ⟨93, [.tmp 4],
  (.seq (.h [.kill [0, 1, 4]] (.reg false [oo 2 (.box (.s 0)),
   oo 3 (.box (.s 1)),
   oo 4 (.mv (.c (.bool false)))]))
  (.seq (.seq (.h [.kill [9, 10, 11, 12, 13, 14, 15, 16, 17, 18, 19, 20, 21]] (.reg false [oo 9 (.fa 0 (.s 2)),
   oo 10 (.ld 1 false (.s 9)),
   oo 11 (.fa 0 (.s 3)),
   oo 12 (.ld 1 false (.s 11)),
   oo 13 (.bin .neq (.s 10) (.s 12)),
   oo 14 (.mv (.s 13)),
   ow 15 14 false (.fa 1 (.s 2)),
   ow 16 14 false (.ld 1 false (.s 15)),
   ow 17 14 false (.len false (.s 16)),
   ow 18 14 false (.fa 1 (.s 3)),
   ow 19 14 false (.ld 1 false (.s 18)),
   ow 20 14 false (.len false (.s 19)),
   ow 21 14 false (.bin .neq (.s 17) (.s 20)),
   oo 22 (.pick (.s 14) (.c (.bool true)) (.s 21))]))
  (.cond (.s 22)
   (.seq (.h [.kill [2, 3, 22]] (.reg false [oo 4 (.mv (.c (.bool false)))]))
   .ret)
   .skip))
  (.seq (.seq (.h [.clean []] (.h [.kill [22]] (.reg false [oo 5 (.mv (.c (.int .i64 0)))])))
  (.blk 0
   (.loop k_spec_SameSel_l14)))
  k_spec_SameSel_r10)))⟩

def k_impl_SameSel : F := ⟨17, [.tmp 4],
  (.seq (.h [.kill [0, 1, 4]] (.reg false [oo 2 (.box (.s 0)),
   oo 3 (.box (.s 1)),
   oo 4 (.mv (.c (.bool false)))]))
  (.seq (.h [.kill [2, 3, 5, 6, 7, 8, 9, 10, 11, 12, 13, 14, 15, 16]] (.reg false [oo 5 (.fa 0 (.s 2)),
   oo 6 (.ld 1 false (.s 5)),
   oo 7 (.fa 0 (.s 3)),
   oo 8 (.ld 1 false (.s 7)),
   oo 9 (.bin .eql (.s 6) (.s 8)),
   oo 10 (.mv (.s 9)),
   ow 11 10 true (.fa 1 (.s 2)),
   ow 12 10 true (.ld 1 false (.s 11)),
   ow 13 10 true (.fa 1 (.s 3)),
   ow 14 10 true (.ld 1 false (.s 13)),
   ow 15 10 true (.call n_slices_EqualFunc_Step [] [] [(.s 12), (.s 14), (.f 64)]),
   oo 16 (.pick (.s 10) (.s 15) (.c (.bool false))),
   oo 4 (.mv (.s 16))]))
  .ret))⟩

def k_laws_eqSel : F := ⟨16, [.tmp 4],
  (.seq (.h [.kill [0, 1, 4]] (.reg false [oo 2 (.box (.s 0)),
   oo 3 (.box (.s 1)),
   oo 4 (.mv (.c (.bool false)))]))
  (.seq (.seq (.h [.kill [5, 6, 7, 8]] (.reg false [oo 5 (.fa 0 (.s 2)),
   oo 6 (.ld 1 false (.s 5)),
   oo 7 (.fa 0 (.s 3)),
   oo 8 (.ld 1 false (.s 7)),
   oo 9 (.bin .neq (.s 6) (.s 8))]))
  (.cond (.s 9)
   (.seq (.h [.kill [2, 3, 9]] (.reg false [oo 4 (.mv (.c (.bool false)))]))
   .ret)
   .skip))
  (.seq (.seq (.h [.kill [2, 3, 9, 10, 11, 12, 13, 14]] (.reg false [oo 10 (.fa 1 (.s 2)),
   oo 11 (.ld 1 false (.s 10)),
   oo 12 (.fa 1 (.s 3)),
   oo 13 (.ld 1 false (.s 12)),
   oo 14 (.call n_laws_eqStepS [] [] [(.s 11), (.s 13)]),
   oo 15 (.un .not (.s 14))]))
  (.cond (.s 15)
   (.seq (.h [.kill [15]] (.reg false [oo 4 (.mv (.c (.bool false)))]))
   .ret)
   .skip))
  (.seq (.h [.kill [15]] (.reg false [oo 4 (.mv (.c (.bool true)))]))
  .ret))))⟩

def k_laws_szStepS_l16 : K :=
  (.h [.clean []] (.seq (.seq (.h [.kill [12, 13, 14]] (.reg false [oo 12 (.mv (.s 5)),
   oo 13 (.mv (.s 0)),
   oo 14 (.len false (.s 13)),
   oo 15 (.bin .lss (.s 12) (.s 14))]))
  (.cond (.s 15)
   .skip
   (.ex 0)))
  (.seq (.blk 1
   (.seq (.h [.kill [15, 18, 19, 20, 21, 22, 23]] (.reg false [oo 18 (.mv (.s 0)),
    oo 19 (.mv (.s 5)),
    oo 20 (.ia 5 (.s 18) (.s 19)),
    oo 21 (.ld 5 true (.s 20)),
    oo 22 (.mv (.s 1)),
    oo 23 (.call n_laws_szStep [] [] [(.s 21), (.s 22)]),
    oo 1 (.mv (.s 23))]))
   (.seq (.h [.kill [24]] (.reg false [oo 24 (.mv (.s 1)),
    oo 25 (.bin .lss (.s 24) (.c (.int .i64 0)))]))
   (.cond (.s 25)
    (.seq (.h [.kill [0, 1, 5, 25]] (.reg false [oo 4 (.mv (.c (.int .i64 (-1))))]))
    .ret)
    .skip))))
  (.h [.kill [16, 17, 25]] (.reg false [oo 16 (.mv (.s 5)),
   oo 17 (.bin .add (.s 16) (.c (.int .i64 1))),
   oo 5 (.mv (.s 17))])))))
def k_laws_szStepS_r12 : K :=
  (.seq (.h [.kill [0, 1, 5, 15, 26]] (.reg false [oo 26 (.mv (.s 1)),
   oo 4 (.mv (.s 26))]))
  .ret)
def k_laws_szStepS : F := ⟨27, [.tmp 4],
  (.seq (.h [.kill [4]] (.reg false [oo 4 (.mv (.c (.int .i64 0)))]))
  (.seq (.h [.kill [6, 7, 8, 9]] (.reg false [oo 6 (.mv (.s 1)),
   oo 7 (.mv (.s 0)),
   oo 8 (.len false (.s 7)),
   oo 9 (.bin .sub (.s 6) (.s 8)),
   oo 1 (.mv (.s 9))]))
  (.seq (.seq (.h [.kill [10]] (.reg false [oo 10 (.mv (.s 1)),
   oo 11 (.bin .lss (.s 10) (.c (.int .i64 0)))]))
  (.cond (.s 11)
   (.seq (.h [.kill [0, 1, 11]] (.reg false [oo 4 (.mv (.c (.int .i64 (-1))))]))
   .ret)
   .skip))
  (.seq (.seq (.h [.clean []] (.h [.kill [11]] (.reg false [oo 5 (.mv (.c (.int .i64 0)))])))
  (.blk 0
   (.loop k_laws_szStepS_l16)))
  k_laws_szStepS_r12))))⟩

def k_laws_toStepS_l8 : K :=
  (.h [.clean [20]] (.seq (.seq (.h [.kill [8, 9, 10]] (.reg false [oo 8 (.mv (.s 4)),
   oo 9 (.mv (.s 0)),
   oo 10 (.len false (.s 9)),
   oo 11 (.bin .lss (.s 8) (.s 10))]))
  (.cond (.s 11)
   .skip
   (.ex 0)))
  (.seq (.blk 1
   (.h [.kill [11, 14, 15, 16, 17, 18, 19, 20, 21]] (.reg false [oo 14 (.mv (.s 3)),
    oo 15 (.mv (.s 4)),
    oo 16 (.mv (.s 0)),
    oo 17 (.mv (.s 4)),
    oo 18 (.ia 5 (.s 16) (.s 17)),
    oo 19 (.ld 5 true (.s 18)),
    oo 20 (.call n_laws_toStep [] [true] [(.s 19)]),
    oo 21 (.ia 5 (.s 14) (.s 15)),
    on (.st 5 (.s 21) (.s 20))])))
  (.h [.kill [12, 13]] (.reg false [oo 12 (.mv (.s 4)),
   oo 13 (.bin .add (.s 12) (.c (.int .i64 1))),
   oo 4 (.mv (.s 13))])))))
def k_laws_toStepS_r4 : K :=
  (.seq (.h [.kill [0, 3, 4, 11, 22]] (.reg false [oo 22 (.mv (.s 3)),
   oo 2 (.mv (.s 22))]))
  .ret)
def k_laws_toStepS : F := ⟨23, [.tmp 2],
  (.seq (.h [.kill [2]] (.reg false [oo 2 (.mv (.c (.slice none 0 0)))]))
  (.seq (.h [.kill [5, 6, 7]] (.reg false [oo 5 (.mv (.s 0)),
   oo 6 (.len false (.s 5)),
   oo 7 (.mks [.v (.bool false), .v (.int .i64 0), .v (.string ⟨#[]⟩), .v (.string ⟨#[]⟩), .sl true []] 72 (.s 6)),
   oo 3 (.mv (.s 7))]))
  (.seq (.seq (.h [.clean []] (.reg false [oo 4 (.mv (.c (.int .i64 0)))]))
  (.blk 0
   (.loop k_laws_toStepS_l8)))
  k_laws_toStepS_r4)))⟩

def k_slices_EqualFunc_Step_l14 : K :=
  (.h [.clean [8, 9]] (.seq (.reg false [oo 18 (.bin .lss (.s 17) (.s 16))])
  (.seq (.cond (.s 18)
   .skip
   (.ex 0))
  (.seq (.blk 1
   (.seq (.h [.kill [18, 19, 20, 21]] (.reg false [oo 19 (.mv (.s 17)),
    oo 20 (.ia 5 (.s 15) (.s 17)),
    oo 21 (.ld 5 true (.s 20)),
    oo 8 (.alloc [.v (.bool false), .v (.int .i64 0), .v (.string ⟨#[]⟩), .v (.string ⟨#[]⟩), .sl true []]),
    oo 7 (.mv (.s 19)),
    on (.st 5 (.s 8) (.s 21))]))
   (.seq (.h [.kill [7, 22, 23, 24, 25]] (.reg false [oo 22 (.mv (.s 1)),
    oo 23 (.mv (.s 7)),
    oo 24 (.ia 5 (.s 22) (.s 23)),
    oo 25 (.ld 5 true (.s 24)),
    oo 9 (.alloc [.v (.bool false), .v (.int .i64 0), .v (.string ⟨#[]⟩), .v (.string ⟨#[]⟩), .sl true []]),
    on (.st 5 (.s 9) (.s 25))]))
   (.seq (.h [.kill [8, 9, 26, 27, 28, 29]] (.reg false [oo 26 (.mv (.s 2)),
    oo 27 (.ld 5 true (.s 8)),
    oo 28 (.ld 5 true (.s 9)),
    oo 29 (.callv (.s 26) [] [] [(.s 27), (.s 28)]),
    oo 30 (.un .not (.s 29))]))
   (.cond (.s 30)
    (.seq (.h [.kill [1, 2, 15, 16, 17, 30]] (.reg false [oo 6 (.mv (.c (.bool false)))]))
    .ret)
    .skip)))))
  (.h [.kill [30, 31]] (.reg false [oo 31 (.bin .add (.s 17) (.c (.int .i64 1))),
   oo 17 (.mv (.s 31))]))))))
def k_slices_EqualFunc_Step_r10 : K :=
  (.seq (.h [.kill [1, 2, 15, 16, 17, 18]] (.reg false [oo 6 (.mv (.c (.bool true)))]))
  .ret)
def k_slices_EqualFunc_Step : F := ⟨32, [.tmp 6],
  (.seq (.h [.kill [6]] (.reg false [oo 6 (.mv (.c (.bool false)))]))
  (.seq (.seq (.h [.kill [10, 11, 12, 13]] (.reg false [oo 10 (.mv (.s 0)),
   oo 11 (.len false (.s 10)),
   oo 12 (.mv (.s 1)),
   oo 13 (.len false (.s 12)),
   oo 14 (.bin .neq (.s 11) (.s 13))]))
  (.cond (.s 14)
   (.seq (.h [.kill [0, 1, 2, 14]] (.reg false [oo 6 (.mv (.c (.bool false)))]))
   .ret)
   .skip))
  (.seq (.seq (.h [.clean []] (.h [.kill [0, 14]] (.reg false [oo 15 (.mv (.s 0)),
   oo 16 (.len false (.s 15)),
   oo 17 (.mv (.c (.int .i64 0)))])))
  (.blk 0
   (.loop k_slices_EqualFunc_Step_l14)))
  k_slices_EqualFunc_Step_r10)))⟩

def k_laws_eqStepS_l14 : K :=
  (.h [.clean []] (.seq (.seq (.h [.kill [11, 12, 13]] (.reg false [oo 11 (.mv (.s 5)),
   oo 12 (.mv (.s 0)),
   oo 13 (.len false (.s 12)),
   oo 14 (.bin .lss (.s 11) (.s 13))]))
  (.cond (.s 14)
   .skip
   (.ex 0)))
  (.seq (.blk 1
   (.seq (.h [.kill [14, 17, 18, 19, 20, 21, 22, 23, 24, 25]] (.reg true [⟨some 17, none, .mv (.s 0), [], []⟩,
    ⟨some 18, none, .mv (.s 5), [], []⟩,
    ⟨some 19, none, .ia 5 (.s 17) (.s 18), [0], []⟩,
    ⟨some 20, none, .ld 5 true (.s 19), [0], []⟩,
    ⟨some 21, none, .mv (.s 1), [], []⟩,
    ⟨some 22, none, .mv (.s 5), [], []⟩,
    ⟨some 23, none, .ia 5 (.s 21) (.s 22), [1], []⟩,
    ⟨some 24, none, .ld 5 true (.s 23), [1], []⟩,
    ⟨some 25, none, .call n_laws_eqStep [] [] [(.s 20), (.s 24)], [0, 1], []⟩,
    ⟨some 26, none, .un .not (.s 25), [], []⟩]))
   (.cond (.s 26)
    (.seq (.h [.kill [0, 1, 5, 26]] (.reg false [oo 4 (.mv (.c (.bool false)))]))
    .ret)
    .skip)))
  (.h [.kill [15, 16, 26]] (.reg false [oo 15 (.mv (.s 5)),
   oo 16 (.bin .add (.s 15) (.c (.int .i64 1))),
   oo 5 (.mv (.s 16))])))))
def k_laws_eqStepS_r10 : K :=
  (.seq (.h [.kill [0, 1, 5, 14]] (.reg false [oo 4 (.mv (.c (.bool true)))]))
  .ret)
def k_laws_eqStepS : F := ⟨27, [.tmp 4],
  (.seq (.h [.kill [4]] (.reg false [oo 4 (.mv (.c (.bool false)))]))
  (.seq (.seq (.h [.kill [6, 7, 8, 9]] (.reg false [oo 6 (.mv (.s 0)),
   oo 7 (.len false (.s 6)),
   oo 8 (.mv (.s 1)),
   oo 9 (.len false (.s 8)),
   oo 10 (.bin .neq (.s 7) (.s 9))]))
  (.cond (.s 10)
   (.seq (.h [.kill [0, 1, 10]] (.reg false [oo 4 (.mv (.c (.bool false)))]))
   .ret)
   .skip))
  (.seq (.seq (.h [.clean []] (.h [.kill [10]] (.reg false [oo 5 (.mv (.c (.int .i64 0)))])))
  (.blk 0
   (.loop k_laws_eqStepS_l14)))
  k_laws_eqStepS_r10)))⟩

def k_laws_szStep : F := ⟨26, [.tmp 4],
  (.seq (.h [.kill [0, 4]] (.reg false [oo 2 (.box (.s 0)),
   oo 4 (.mv (.c (.int .i64 0)))]))
  (.seq (.h [.kill [5, 6, 7, 8, 9]] (.reg false [oo 5 (.mv (.s 1)),
   oo 6 (.fa 2 (.s 2)),
   oo 7 (.ld 1 false (.s 6)),
   oo 8 (.len true (.s 7)),
   oo 9 (.bin .sub (.s 5) (.s 8)),
   oo 1 (.mv (.s 9))]))
  (.seq (.seq (.h [.kill [10]] (.reg false [oo 10 (.mv (.s 1)),
   oo 11 (.bin .lss (.s 10) (.c (.int .i64 0)))]))
  (.cond (.s 11)
   (.seq (.h [.kill [1, 2, 11]] (.reg false [oo 4 (.mv (.c (.int .i64 (-1))))]))
   .ret)
   .skip))
  (.seq (.h [.kill [11, 12, 13, 14, 15, 16]] (.reg false [oo 12 (.mv (.s 1)),
   oo 13 (.fa 3 (.s 2)),
   oo 14 (.ld 1 false (.s 13)),
   oo 15 (.len true (.s 14)),
   oo 16 (.bin .sub (.s 12) (.s 15)),
   oo 1 (.mv (.s 16))]))
  (.seq (.seq (.h [.kill [17]] (.reg false [oo 17 (.mv (.s 1)),
   oo 18 (.bin .lss (.s 17) (.c (.int .i64 0)))]))
  (.cond (.s 18)
   (.seq (.h [.kill [1, 2, 18]] (.reg false [oo 4 (.mv (.c (.int .i64 (-1))))]))
   .ret)
   .skip))
  (.seq (.h [.kill [2, 18, 19, 20, 21, 22]] (.reg false [oo 19 (.fa 4 (.s 2)),
   oo 20 (.ld 1 false (.s 19)),
   oo 21 (.mv (.s 1)),
   oo 22 (.call n_laws_szPredS [] [] [(.s 20), (.s 21)]),
   oo 1 (.mv (.s 22))]))
  (.seq (.seq (.h [.kill [23]] (.reg false [oo 23 (.mv (.s 1)),
   oo 24 (.bin .lss (.s 23) (.c (.int .i64 0)))]))
  (.cond (.s 24)
   (.seq (.h [.kill [1, 24]] (.reg false [oo 4 (.mv (.c (.int .i64 (-1))))]))
   .ret)
   .skip))
  (.seq (.h [.kill [1, 24, 25]] (.reg false [oo 25 (.mv (.s 1)),
   oo 4 (.mv (.s 25))]))
  .ret))))))))⟩

def k_laws_toStep : F := ⟨21, [.cell 2 5 true],
  (.seq (.h [.kill [0]] (.reg false [oo 1 (.box (.s 0)),
   oo 2 (.alloc [.v (.bool false), .v (.int .i64 0), .v (.string ⟨#[]⟩), .v (.string ⟨#[]⟩), .sl true []])]))
  (.seq (.reg false [oo 3 (.alloc [.v (.bool false), .v (.int .i64 0), .v (.string ⟨#[]⟩), .v (.string ⟨#[]⟩), .sl true []])])
  (.seq (.h [.kill [4, 5, 6]] (.reg false [oo 4 (.fa 0 (.s 1)),
   oo 5 (.ld 1 false (.s 4)),
   oo 6 (.fa 0 (.s 3)),
   on (.st 1 (.s 6) (.s 5))]))
  (.seq (.h [.kill [7, 8, 9]] (.reg false [oo 7 (.fa 1 (.s 1)),
   oo 8 (.ld 1 false (.s 7)),
   oo 9 (.fa 1 (.s 3)),
   on (.st 1 (.s 9) (.s 8))]))
  (.seq (.h [.kill [10, 11, 12]] (.reg false [oo 10 (.fa 2 (.s 1)),
   oo 11 (.ld 1 false (.s 10)),
   oo 12 (.fa 2 (.s 3)),
   on (.st 1 (.s 12) (.s 11))]))
  (.seq (.h [.kill [13, 14, 15]] (.reg false [oo 13 (.fa 3 (.s 1)),
   oo 14 (.ld 1 false (.s 13)),
   oo 15 (.fa 3 (.s 3)),
   on (.st 1 (.s 15) (.s 14))]))
  (.seq (.h [.kill [1, 16, 17, 18, 19]] (.reg false [oo 16 (.fa 4 (.s 1)),
   oo 17 (.ld 1 false (.s 16)),
   oo 18 (.call n_laws_toPredS [] [true] [(.s 17)]),
   oo 19 (.fa 4 (.s 3)),
   on (.st 1 (.s 19) (.s 18))]))
  (.seq (.h [.kill [3, 20]] (.reg false [oo 20 (.ld 5 true (.s 3)),
   on (.st 5 (.s 2) (.s 20))]))
  .ret))))))))⟩

def k_impl_SameSel_1 : F := ⟨38, [.tmp 4],
  (.seq (.h [.kill [0, 1, 4]] (.reg false [oo 2 (.box (.s 0)),
   oo 3 (.box (.s 1)),
   oo 4 (.mv (.c (.bool false)))]))
  (.seq (.h [.kill [2, 3, 5, 6, 7, 8, 9, 10, 11, 12, 13, 14, 15, 16, 17, 18, 19, 20, 21, 22, 23, 24, 25, 26, 27, 28, 29, 30, 31, 32, 33, 34, 35, 36, 37]] (.reg false [oo 5 (.fa 0 (.s 2)),
   oo 6 (.ld 1 false (.s 5)),
   oo 7 (.fa 0 (.s 3)),
   oo 8 (.ld 1 false (.s 7)),
   oo 9 (.beq false (.s 6) (.s 8)),
   oo 10 (.mv (.s 9)),
   ow 11 10 true (.fa 1 (.s 2)),
   ow 12 10 true (.ld 1 false (.s 11)),
   ow 13 10 true (.fa 1 (.s 3)),
   ow 14 10 true (.ld 1 false (.s 13)),
   ow 15 10 true (.bin .eql (.s 12) (.s 14)),
   oo 16 (.pick (.s 10) (.s 15) (.c (.bool false))),
   oo 17 (.mv (.s 16)),
   ow 18 17 true (.fa 2 (.s 2)),
   ow 19 17 true (.ld 1 false (.s 18)),
   ow 20 17 true (.fa 2 (.s 3)),
   ow 21 17 true (.ld 1 false (.s 20)),
   ow 22 17 true (.bin .eql (.s 19) (.s 21)),
   oo 23 (.pick (.s 17) (.s 22) (.c (.bool false))),
   oo 24 (.mv (.s 23)),
   ow 25 24 true (.fa 3 (.s 2)),
   ow 26 24 true (.ld 1 false (.s 25)),
   ow 27 24 true (.fa 3 (.s 3)),
   ow 28 24 true (.ld 1 false (.s 27)),
   ow 29 24 true (.bin .eql (.s 26) (.s 28)),
   oo 30 (.pick (.s 24) (.s 29) (.c (.bool false))),
   oo 31 (.mv (.s 30)),
   ow 32 31 true (.fa 4 (.s 2)),
   ow 33 31 true (.ld 1 false (.s 32)),
   ow 34 31 true (.fa 4 (.s 3)),
   ow 35 31 true (.ld 1 false (.s 34)),
   ow 36 31 true (.call n_slices_Equal_Pred [] [] [(.s 33), (.s 35)]),
   oo 37 (.pick (.s 31) (.s 36) (.c (.bool false))),
   oo 4 (.mv (.s 37))]))
  .ret))⟩

def k_laws_eqStep : F := ⟨31, [.tmp 4],
  (.seq (.h [.kill [0, 1, 4]] (.reg false [oo 2 (.box (.s 0)),
   oo 3 (.box (.s 1)),
   oo 4 (.mv (.c (.bool false)))]))
  (.seq (.seq (.h [.kill [5, 6, 7, 8]] (.reg false [oo 5 (.fa 0 (.s 2)),
   oo 6 (.ld 1 false (.s 5)),
   oo 7 (.fa 0 (.s 3)),
   oo 8 (.ld 1 false (.s 7)),
   oo 9 (.beq true (.s 6) (.s 8))]))
  (.cond (.s 9)
   (.seq (.h [.kill [2, 3, 9]] (.reg false [oo 4 (.mv (.c (.bool false)))]))
   .ret)
   .skip))
  (.seq (.seq (.h [.kill [9, 10, 11, 12, 13]] (.reg false [oo 10 (.fa 1 (.s 2)),
   oo 11 (.ld 1 false (.s 10)),
   oo 12 (.fa 1 (.s 3)),
   oo 13 (.ld 1 false (.s 12)),
   oo 14 (.bin .neq (.s 11) (.s 13))]))
  (.cond (.s 14)
   (.seq (.h [.kill [2, 3, 14]] (.reg false [oo 4 (.mv (.c (.bool false)))]))
   .ret)
   .skip))
  (.seq (.seq (.h [.kill [14, 15, 16, 17, 18]] (.reg false [oo 15 (.fa 2 (.s 2)),
   oo 16 (.ld 1 false (.s 15)),
   oo 17 (.fa 2 (.s 3)),
   oo 18 (.ld 1 false (.s 17)),
   oo 19 (.bin .neq (.s 16) (.s 18))]))
  (.cond (.s 19)
   (.seq (.h [.kill [2, 3, 19]] (.reg false [oo 4 (.mv (.c (.bool false)))]))
   .ret)
   .skip))
  (.seq (.seq (.h [.kill [19, 20, 21, 22, 23]] (.reg false [oo 20 (.fa 3 (.s 2)),
   oo 21 (.ld 1 false (.s 20)),
   oo 22 (.fa 3 (.s 3)),
   oo 23 (.ld 1 false (.s 22)),
   oo 24 (.bin .neq (.s 21) (.s 23))]))
  (.cond (.s 24)
   (.seq (.h [.kill [2, 3, 24]] (.reg false [oo 4 (.mv (.c (.bool false)))]))
   .ret)
   .skip))
  (.seq (.seq (.h [.kill [2, 3, 24, 25, 26, 27, 28, 29]] (.reg false [oo 25 (.fa 4 (.s 2)),
   oo 26 (.ld 1 false (.s 25)),
   oo 27 (.fa 4 (.s 3)),
   oo 28 (.ld 1 false (.s 27)),
   oo 29 (.call n_laws_eqPredS [] [] [(.s 26), (.s 28)]),
   oo 30 (.un .not (.s 29))]))
  (.cond (.s 30)
   (.seq (.h [.kill [30]] (.reg false [oo 4 (.mv (.c (.bool false)))]))
   .ret)
   .skip))
  (.seq (.h [.kill [30]] (.reg false [oo 4 (.mv (.c (.bool true)))]))
  .ret)))))))⟩

def k_laws_szPredS_l16 : K :=
  (.h [.clean []] (.seq (.seq (.h [.kill [12, 13, 14]] (.reg false [oo 12 (.mv (.s 5)),
   oo 13 (.mv (.s 0)),
   oo 14 (.len false (.s 13)),
   oo 15 (.bin .lss (.s 12) (.s 14))]))
  (.cond (.s 15)
   .skip
   (.ex 0)))
  (.seq (.blk 1
   (.seq (.h [.kill [15, 18, 19, 20, 21, 22, 23]] (.reg false [oo 18 (.mv (.s 0)),
    oo 19 (.mv (.s 5)),
    oo 20 (.ia 5 (.s 18) (.s 19)),
    oo 21 (.ld 5 true (.s 20)),
    oo 22 (.mv (.s 1)),
    oo 23 (.call n_laws_szPred [] [] [(.s 21), (.s 22)]),
    oo 1 (.mv (.s 23))]))
   (.seq (.h [.kill [24]] (.reg false [oo 24 (.mv (.s 1)),
    oo 25 (.bin .lss (.s 24) (.c (.int .i64 0)))]))
   (.cond (.s 25)
    (.seq (.h [.kill [0, 1, 5, 25]] (.reg false [oo 4 (.mv (.c (.int .i64 (-1))))]))
    .ret)
    .skip))))
  (.h [.kill [16, 17, 25]] (.reg false [oo 16 (.mv (.s 5)),
   oo 17 (.bin .add (.s 16) (.c (.int .i64 1))),
   oo 5 (.mv (.s 17))])))))
def k_laws_szPredS_r12 : K :=
  (.seq (.h [.kill [0, 1, 5, 15, 26]] (.reg false [oo 26 (.mv (.s 1)),
   oo 4 (.mv (.s 26))]))
  .ret)
def k_laws_szPredS : F := ⟨27, [.tmp 4],
  (.seq (.h [.kill [4]] (.reg false [oo 4 (.mv (.c (.int .i64 0)))]))
  (.seq (.h [.kill [6, 7, 8, 9]] (.reg false [oo 6 (.mv (.s 1)),
   oo 7 (.mv (.s 0)),
   oo 8 (.len false (.s 7)),
   oo 9 (.bin .sub (.s 6) (.s 8)),
   oo 1 (.mv (.s 9))]))
  (.seq (.seq (.h [.kill [10]] (.reg false [oo 10 (.mv (.s 1)),
   oo 11 (.bin .lss (.s 10) (.c (.int .i64 0)))]))
  (.cond (.s 11)
   (.seq (.h [.kill [0, 1, 11]] (.reg false [oo 4 (.mv (.c (.int .i64 (-1))))]))
   .ret)
   .skip))
  (.seq (.seq (.h [.clean []] (.h [.kill [11]] (.reg false [oo 5 (.mv (.c (.int .i64 0)))])))
  (.blk 0
   (.loop k_laws_szPredS_l16)))
  k_laws_szPredS_r12))))⟩

def k_laws_toPredS_l8 : K :=
  (.h [.clean []] (.seq (.seq (.h [.kill [8, 9, 10]] (.reg false [oo 8 (.mv (.s 4)),
   oo 9 (.mv (.s 0)),
   oo 10 (.len false (.s 9)),
   oo 11 (.bin .lss (.s 8) (.s 10))]))
  (.cond (.s 11)
   .skip
   (.ex 0)))
  (.seq (.blk 1
   (.h [.kill [11, 14, 15, 16, 17, 18, 19, 20, 21]] (.reg false [oo 14 (.mv (.s 3)),
    oo 15 (.mv (.s 4)),
    oo 16 (.mv (.s 0)),
    oo 17 (.mv (.s 4)),
    oo 18 (.ia 5 (.s 16) (.s 17)),
    oo 19 (.ld 5 true (.s 18)),
    oo 20 (.call n_laws_toPred [] [] [(.s 19)]),
    oo 21 (.ia 5 (.s 14) (.s 15)),
    on (.st 5 (.s 21) (.s 20))])))
  (.h [.kill [12, 13]] (.reg false [oo 12 (.mv (.s 4)),
   oo 13 (.bin .add (.s 12) (.c (.int .i64 1))),
   oo 4 (.mv (.s 13))])))))
def k_laws_toPredS_r4 : K :=
  (.seq (.h [.kill [0, 3, 4, 11, 22]] (.reg false [oo 22 (.mv (.s 3)),
   oo 2 (.mv (.s 22))]))
  .ret)
def k_laws_toPredS : F := ⟨23, [.tmp 2],
  (.seq (.h [.kill [2]] (.reg false [oo 2 (.mv (.c (.slice none 0 0)))]))
  (.seq (.h [.kill [5, 6, 7]] (.reg false [oo 5 (.mv (.s 0)),
   oo 6 (.len false (.s 5)),
   oo 7 (.mks [.v (.int .i64 0), .v (.int .i64 0), .v (.string ⟨#[]⟩), .v (.string ⟨#[]⟩), .v (.string ⟨#[]⟩)] 64 (.s 6)),
   oo 3 (.mv (.s 7))]))
  (.seq (.seq (.h [.clean []] (.reg false [oo 4 (.mv (.c (.int .i64 0)))]))
  (.blk 0
   (.loop k_laws_toPredS_l8)))
  k_laws_toPredS_r4)))⟩

def k_slices_Equal_Pred_l14 : K :=
  (.h [.clean []] (.seq (.reg false [oo 14 (.bin .lss (.s 13) (.s 12))])
  (.seq (.cond (.s 14)
   .skip
   (.ex 0))
  (.seq (.blk 1
   (.seq (.h [.kill [14, 15]] (.reg false [oo 15 (.mv (.s 13)),
    oo 5 (.mv (.s 15))]))
   (.seq (.h [.kill [5, 16, 17, 18, 19, 20, 21, 22, 23]] (.reg true [⟨some 16, none, .mv (.s 0), [], []⟩,
    ⟨some 17, none, .mv (.s 5), [], []⟩,
    ⟨some 18, none, .ia 5 (.s 16) (.s 17), [0], []⟩,
    ⟨some 19, none, .ld 5 true (.s 18), [0], []⟩,
    ⟨some 20, none, .mv (.s 1), [], []⟩,
    ⟨some 21, none, .mv (.s 5), [], []⟩,
    ⟨some 22, none, .ia 5 (.s 20) (.s 21), [1], []⟩,
    ⟨some 23, none, .ld 5 true (.s 22), [1], []⟩,
    ⟨some 24, none, .eqs true [.int, .int, .str, .str, .str] (.s 19) (.s 23), [], []⟩]))
   (.cond (.s 24)
    (.seq (.h [.kill [0, 1, 12, 13, 24]] (.reg false [oo 4 (.mv (.c (.bool false)))]))
    .ret)
    .skip))))
  (.h [.kill [24, 25]] (.reg false [oo 25 (.bin .add (.s 13) (.c (.int .i64 1))),
   oo 13 (.mv (.s 25))]))))))
def k_slices_Equal_Pred_r10 : K :=
  (.seq (.h [.kill [0, 1, 12, 13, 14]] (.reg false [oo 4 (.mv (.c (.bool true)))]))
  .ret)
def k_slices_Equal_Pred : F := ⟨26, [.tmp 4],
  (.seq (.h [.kill [4]] (.reg false [oo 4 (.mv (.c (.bool false)))]))
  (.seq (.seq (.h [.kill [6, 7, 8, 9]] (.reg false [oo 6 (.mv (.s 0)),
   oo 7 (.len false (.s 6)),
   oo 8 (.mv (.s 1)),
   oo 9 (.len false (.s 8)),
   oo 10 (.bin .neq (.s 7) (.s 9))]))
  (.cond (.s 10)
   (.seq (.h [.kill [0, 1, 10]] (.reg false [oo 4 (.mv (.c (.bool false)))]))
   .ret)
   .skip))
  (.seq (.seq (.h [.clean []] (.h [.kill [10, 11]] (.reg false [oo 11 (.mv (.s 0)),
   oo 12 (.len false (.s 11)),
   oo 13 (.mv (.c (.int .i64 0)))])))
  (.blk 0
   (.loop k_slices_Equal_Pred_l14)))
  k_slices_Equal_Pred_r10)))⟩

def k_laws_eqPredS_l14 : K :=
  (.h [.clean []] (.seq (.seq (.h [.kill [11, 12, 13]] (.reg false [oo 11 (.mv (.s 5)),
   oo 12 (.mv (.s 0)),
   oo 13 (.len false (.s 12)),
   oo 14 (.bin .lss (.s 11) (.s 13))]))
  (.cond (.s 14)
   .skip
   (.ex 0)))
  (.seq (.blk 1
   (.seq (.h [.kill [14, 17, 18, 19, 20, 21, 22, 23, 24, 25]] (.reg true [⟨some 17, none, .mv (.s 0), [], []⟩,
    ⟨some 18, none, .mv (.s 5), [], []⟩,
    ⟨some 19, none, .ia 5 (.s 17) (.s 18), [0], []⟩,
    ⟨some 20, none, .ld 5 true (.s 19), [0], []⟩,
    ⟨some 21, none, .mv (.s 1), [], []⟩,
    ⟨some 22, none, .mv (.s 5), [], []⟩,
    ⟨some 23, none, .ia 5 (.s 21) (.s 22), [1], []⟩,
    ⟨some 24, none, .ld 5 true (.s 23), [1], []⟩,
    ⟨some 25, none, .call n_laws_eqPred [] [] [(.s 20), (.s 24)], [0, 1], []⟩,
    ⟨some 26, none, .un .not (.s 25), [], []⟩]))
   (.cond (.s 26)
    (.seq (.h [.kill [0, 1, 5, 26]] (.reg false [oo 4 (.mv (.c (.bool false)))]))
    .ret)
    .skip)))
  (.h [.kill [15, 16, 26]] (.reg false [oo 15 (.mv (.s 5)),
   oo 16 (.bin .add (.s 15) (.c (.int .i64 1))),
   oo 5 (.mv (.s 16))])))))
def k_laws_eqPredS_r10 : K :=
  (.seq (.h [.kill [0, 1, 5, 14]] (.reg false [oo 4 (.mv (.c (.bool true)))]))
  .ret)
def k_laws_eqPredS : F := ⟨27, [.tmp 4],
  (.seq (.h [.kill [4]] (.reg false [oo 4 (.mv (.c (.bool false)))]))
  (.seq (.seq (.h [.kill [6, 7, 8, 9]] (.reg false [oo 6 (.mv (.s 0)),
   oo 7 (.len false (.s 6)),
   oo 8 (.mv (.s 1)),
   oo 9 (.len false (.s 8)),
   oo 10 (.bin .neq (.s 7) (.s 9))]))
  (.cond (.s 10)
   (.seq (.h [.kill [0, 1, 10]] (.reg false [oo 4 (.mv (.c (.bool false)))]))
   .ret)
   .skip))
  (.seq (.seq (.h [.clean []] (.h [.kill [10]] (.reg false [oo 5 (.mv (.c (.int .i64 0)))])))
  (.blk 0
   (.loop k_laws_eqPredS_l14)))
  k_laws_eqPredS_r10)))⟩

def k_laws_szPred : F := ⟨27, [.tmp 4],
  (.seq (.h [.kill [0, 4]] (.reg false [oo 2 (.box (.s 0)),
   oo 4 (.mv (.c (.int .i64 0)))]))
  (.seq (.h [.kill [5, 6, 7, 8, 9]] (.reg false [oo 5 (.mv (.s 1)),
   oo 6 (.fa 2 (.s 2)),
   oo 7 (.ld 1 false (.s 6)),
   oo 8 (.len true (.s 7)),
   oo 9 (.bin .sub (.s 5) (.s 8)),
   oo 1 (.mv (.s 9))]))
  (.seq (.seq (.h [.kill [10]] (.reg false [oo 10 (.mv (.s 1)),
   oo 11 (.bin .lss (.s 10) (.c (.int .i64 0)))]))
  (.cond (.s 11)
   (.seq (.h [.kill [1, 2, 11]] (.reg false [oo 4 (.mv (.c (.int .i64 (-1))))]))
   .ret)
   .skip))
  (.seq (.h [.kill [11, 12, 13, 14, 15, 16]] (.reg false [oo 12 (.mv (.s 1)),
   oo 13 (.fa 3 (.s 2)),
   oo 14 (.ld 1 false (.s 13)),
   oo 15 (.len true (.s 14)),
   oo 16 (.bin .sub (.s 12) (.s 15)),
   oo 1 (.mv (.s 16))]))
  (.seq (.seq (.h [.kill [17]] (.reg false [oo 17 (.mv (.s 1)),
   oo 18 (.bin .lss (.s 17) (.c (.int .i64 0)))]))
  (.cond (.s 18)
   (.seq (.h [.kill [1, 2, 18]] (.reg false [oo 4 (.mv (.c (.int .i64 (-1))))]))
   .ret)
   .skip))
  (.seq (.h [.kill [2, 18, 19, 20, 21, 22, 23]] (.reg false [oo 19 (.mv (.s 1)),
   oo 20 (.fa 4 (.s 2)),
   oo 21 (.ld 1 false (.s 20)),
   oo 22 (.len true (.s 21)),
   oo 23 (.bin .sub (.s 19) (.s 22)),
   oo 1 (.mv (.s 23))]))
  (.seq (.seq (.h [.kill [24]] (.reg false [oo 24 (.mv (.s 1)),
   oo 25 (.bin .lss (.s 24) (.c (.int .i64 0)))]))
  (.cond (.s 25)
   (.seq (.h [.kill [1, 25]] (.reg false [oo 4 (.mv (.c (.int .i64 (-1))))]))
   .ret)
   .skip))
  (.seq (.h [.kill [1, 25, 26]] (.reg false [oo 26 (.mv (.s 1)),
   oo 4 (.mv (.s 26))]))
  .ret))))))))⟩

def k_laws_toPred : F := ⟨20, [.cell 2 5 true],
  (.seq (.h [.kill [0]] (.reg false [oo 1 (.box (.s 0)),
   oo 2 (.alloc [.v (.int .i64 0), .v (.int .i64 0), .v (.string ⟨#[]⟩), .v (.string ⟨#[]⟩), .v (.string ⟨#[]⟩)])]))
  (.seq (.reg false [oo 3 (.alloc [.v (.int .i64 0), .v (.int .i64 0), .v (.string ⟨#[]⟩), .v (.string ⟨#[]⟩), .v (.string ⟨#[]⟩)])])
  (.seq (.h [.kill [4, 5, 6]] (.reg false [oo 4 (.fa 0 (.s 1)),
   oo 5 (.ld 1 false (.s 4)),
   oo 6 (.fa 0 (.s 3)),
   on (.st 1 (.s 6) (.s 5))]))
  (.seq (.h [.kill [7, 8, 9]] (.reg false [oo 7 (.fa 1 (.s 1)),
   oo 8 (.ld 1 false (.s 7)),
   oo 9 (.fa 1 (.s 3)),
   on (.st 1 (.s 9) (.s 8))]))
  (.seq (.h [.kill [10, 11, 12]] (.reg false [oo 10 (.fa 2 (.s 1)),
   oo 11 (.ld 1 false (.s 10)),
   oo 12 (.fa 2 (.s 3)),
   on (.st 1 (.s 12) (.s 11))]))
  (.seq (.h [.kill [13, 14, 15]] (.reg false [oo 13 (.fa 3 (.s 1)),
   oo 14 (.ld 1 false (.s 13)),
   oo 15 (.fa 3 (.s 3)),
   on (.st 1 (.s 15) (.s 14))]))
  (.seq (.h [.kill [1, 16, 17, 18]] (.reg false [oo 16 (.fa 4 (.s 1)),
   oo 17 (.ld 1 false (.s 16)),
   oo 18 (.fa 4 (.s 3)),
   on (.st 1 (.s 18) (.s 17))]))
  (.seq (.h [.kill [3, 19]] (.reg false [oo 19 (.ld 5 true (.s 3)),
   on (.st 5 (.s 2) (.s 19))]))
  .ret))))))))⟩

def k_laws_eqPred : F := ⟨30, [.tmp 4],
  (.seq (.h [.kill [0, 1, 4]] (.reg false [oo 2 (.box (.s 0)),
   oo 3 (.box (.s 1)),
   oo 4 (.mv (.c (.bool false)))]))
  (.seq (.seq (.h [.kill [5, 6, 7, 8]] (.reg false [oo 5 (.fa 0 (.s 2)),
   oo 6 (.ld 1 false (.s 5)),
   oo 7 (.fa 0 (.s 3)),
   oo 8 (.ld 1 false (.s 7)),
   oo 9 (.bin .neq (.s 6) (.s 8))]))
  (.cond (.s 9)
   (.seq (.h [.kill [2, 3, 9]] (.reg false [oo 4 (.mv (.c (.bool false)))]))
   .ret)
   .skip))
  (.seq (.seq (.h [.kill [9, 10, 11, 12, 13]] (.reg false [oo 10 (.fa 1 (.s 2)),
   oo 11 (.ld 1 false (.s 10)),
   oo 12 (.fa 1 (.s 3)),
   oo 13 (.ld 1 false (.s 12)),
   oo 14 (.bin .neq (.s 11) (.s 13))]))
  (.cond (.s 14)
   (.seq (.h [.kill [2, 3, 14]] (.reg false [oo 4 (.mv (.c (.bool false)))]))
   .ret)
   .skip))
  (.seq (.seq (.h [.kill [14, 15, 16, 17, 18]] (.reg false [oo 15 (.fa 2 (.s 2)),
   oo 16 (.ld 1 false (.s 15)),
   oo 17 (.fa 2 (.s 3)),
   oo 18 (.ld 1 false (.s 17)),
   oo 19 (.bin .neq (.s 16) (.s 18))]))
  (.cond (.s 19)
   (.seq (.h [.kill [2, 3, 19]] (.reg false [oo 4 (.mv (.c (.bool false)))]))
   .ret)
   .skip))
  (.seq (.seq (.h [.kill [19, 20, 21, 22, 23]] (.reg false [oo 20 (.fa 3 (.s 2)),
   oo 21 (.ld 1 false (.s 20)),
   oo 22 (.fa 3 (.s 3)),
   oo 23 (.ld 1 false (.s 22)),
   oo 24 (.bin .neq (.s 21) (.s 23))]))
  (.cond (.s 24)
   (.seq (.h [.kill [2, 3, 24]] (.reg false [oo 4 (.mv (.c (.bool false)))]))
   .ret)
   .skip))
  (.seq (.seq (.h [.kill [2, 3, 24, 25, 26, 27, 28]] (.reg false [oo 25 (.fa 4 (.s 2)),
   oo 26 (.ld 1 false (.s 25)),
   oo 27 (.fa 4 (.s 3)),
   oo 28 (.ld 1 false (.s 27)),
   oo 29 (.bin .neq (.s 26) (.s 28))]))
  (.cond (.s 29)
   (.seq (.h [.kill [29]] (.reg false [oo 4 (.mv (.c (.bool false)))]))
   .ret)
   .skip))
  (.seq (.h [.kill [29]] (.reg false [oo 4 (.mv (.c (.bool true)))]))
  .ret)))))))⟩

def FTT : FTab
  | 5 => some k_laws_FnExactSameSel
  | 21 => some k_laws_szSel
  | 22 => some k_spec_SameSel
  | 23 => some k_laws_toSel
  | 24 => some k_impl_SameSel
  | 25 => some k_laws_eqSel
  | 61 => some k_laws_szStepS
  | 62 => some k_laws_toStepS
  | 63 => some k_slices_EqualFunc_Step
  | 64 => some k_impl_SameSel_1
  | 65 => some k_slices_Equal_Pred
  | 66 => some k_laws_eqStepS
  | 95 => some k_laws_szStep
  | 96 => some k_laws_toStep
  | 97 => some k_laws_eqStep
  | 110 => some k_laws_szPredS
  | 111 => some k_laws_toPredS
  | 112 => some k_laws_eqPredS
  | 115 => some k_laws_szPred
  | 116 => some k_laws_toPred
  | 117 => some k_laws_eqPred
  | _ => none
def FTA : Env := ⟨FTT, []⟩
def SSA := And.intro (SS FTA) S3
end TT
