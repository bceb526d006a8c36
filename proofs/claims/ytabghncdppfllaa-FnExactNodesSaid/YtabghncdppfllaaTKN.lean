import Derived.Test.YtabghncdppfllaaTC
set_option linter.unusedVariables false
namespace TT
open Go
def k6 : F := ⟨27, [.tmp 2],
  (.seq (.h [.kill [0, 2]] (.reg false [oo 1 (.box (.s 0)),
   oo 2 (.mv (.c (.bool false)))]))
  (.seq (.reg false [oo 3 (.mv (.c (.int .i64 1048576)))])
  (.seq (.h [.kill [7, 8, 9]] (.reg false [oo 7 (.ld 8 true (.s 1)),
   oo 8 (.mv (.s 3)),
   oo 9 (.call 26 [] [] [(.s 7), (.s 8)]),
   oo 3 (.mv (.s 9))]))
  (.seq (.seq (.h [.kill [3, 10]] (.reg false [oo 10 (.mv (.s 3)),
   oo 11 (.bin .lss (.s 10) (.c (.int .i64 0)))]))
  (.cond (.s 11)
   (.seq (.h [.kill [11]] (.reg false [oo 2 (.mv (.c (.bool true)))]))
   .ret)
   .skip))
  (.seq (.h [.kill [11, 12, 13, 14]] (.reg false [oo 12 (.ld 8 true (.s 1)),
   oo 13 (.call 28 [] [] [(.s 12)]),
   oo 14 (.call 27 [] [] [(.s 13)]),
   oo 4 (.mv (.s 14))]))
  (.seq (.h [.kill [15, 16]] (.reg false [oo 15 (.ld 8 true (.s 1)),
   oo 16 (.call 28 [] [] [(.s 15)]),
   oo 5 (.alloc [.v (.int .i64 0), .v (.string ⟨#[]⟩), .v (.string ⟨#[]⟩), .v (.string ⟨#[]⟩), .sl true [], .sl true [], .sl true [], .v (.string ⟨#[]⟩)]),
   on (.st 8 (.s 5) (.s 16))]))
  (.seq (.h [.kill [17, 18]] (.reg false [oo 17 (.ld 8 true (.s 5)),
   oo 18 (.call 29 [] [] [(.s 17)]),
   oo 6 (.mv (.s 18))]))
  (.seq (.seq (.h [.kill [4, 6, 19, 20]] (.reg false [oo 19 (.mv (.s 6)),
   oo 20 (.mv (.s 4)),
   oo 21 (.bin .neq (.s 19) (.s 20))]))
  (.cond (.s 21)
   (.seq (.h [.kill [21]] (.reg false [oo 2 (.mv (.c (.bool false)))]))
   .ret)
   .skip))
  (.seq (.seq (.h [.kill [1, 5, 21, 22, 23, 24, 25]] (.reg true [⟨some 22, none, .ld 8 true (.s 5), [5], []⟩,
   ⟨some 23, none, .ld 8 true (.s 1), [1], []⟩,
   ⟨some 24, none, .call 28 [] [] [(.s 23)], [1], [24]⟩,
   ⟨some 25, none, .call 30 [] [] [(.s 22), (.s 24)], [5, 24], []⟩,
   ⟨some 26, none, .un .not (.s 25), [], []⟩]))
  (.cond (.s 26)
   (.seq (.h [.kill [26]] (.reg false [oo 2 (.mv (.c (.bool false)))]))
   .ret)
   .skip))
  (.seq (.h [.kill [26]] (.reg false [oo 2 (.mv (.c (.bool true)))]))
  .ret))))))))))⟩

def k26 : F := ⟨52, [.tmp 4],
  (.seq (.h [.kill [0, 4]] (.reg false [oo 2 (.box (.s 0)),
   oo 4 (.mv (.c (.int .i64 0)))]))
  (.seq (.h [.kill [5, 6, 7, 8, 9]] (.reg false [oo 5 (.mv (.s 1)),
   oo 6 (.fa 1 (.s 2)),
   oo 7 (.ld 1 false (.s 6)),
   oo 8 (.len true (.s 7)),
   oo 9 (.bin .sub (.s 5) (.s 8)),
   oo 1 (.mv (.s 9))]))
  (.seq (.seq (.h [.kill [10]] (.reg false [oo 10 (.mv (.s 1)),
   oo 11 (.bin .lss (.s 10) (.c (.int .i64 0)))]))
  (.cond (.s 11)
   (.seq (.h [.kill [11]] (.reg false [oo 4 (.mv (.c (.int .i64 (-1))))]))
   .ret)
   .skip))
  (.seq (.h [.kill [11, 12, 13, 14, 15, 16]] (.reg false [oo 12 (.mv (.s 1)),
   oo 13 (.fa 2 (.s 2)),
   oo 14 (.ld 1 false (.s 13)),
   oo 15 (.len true (.s 14)),
   oo 16 (.bin .sub (.s 12) (.s 15)),
   oo 1 (.mv (.s 16))]))
  (.seq (.seq (.h [.kill [17]] (.reg false [oo 17 (.mv (.s 1)),
   oo 18 (.bin .lss (.s 17) (.c (.int .i64 0)))]))
  (.cond (.s 18)
   (.seq (.h [.kill [18]] (.reg false [oo 4 (.mv (.c (.int .i64 (-1))))]))
   .ret)
   .skip))
  (.seq (.h [.kill [18, 19, 20, 21, 22, 23]] (.reg false [oo 19 (.mv (.s 1)),
   oo 20 (.fa 3 (.s 2)),
   oo 21 (.ld 1 false (.s 20)),
   oo 22 (.len true (.s 21)),
   oo 23 (.bin .sub (.s 19) (.s 22)),
   oo 1 (.mv (.s 23))]))
  (.seq (.seq (.h [.kill [24]] (.reg false [oo 24 (.mv (.s 1)),
   oo 25 (.bin .lss (.s 24) (.c (.int .i64 0)))]))
  (.cond (.s 25)
   (.seq (.h [.kill [25]] (.reg false [oo 4 (.mv (.c (.int .i64 (-1))))]))
   .ret)
   .skip))
  (.seq (.h [.kill [25, 26, 27, 28, 29]] (.reg false [oo 26 (.fa 4 (.s 2)),
   oo 27 (.ld 1 false (.s 26)),
   oo 28 (.mv (.s 1)),
   oo 29 (.call 67 [] [] [(.s 27), (.s 28)]),
   oo 1 (.mv (.s 29))]))
  (.seq (.seq (.h [.kill [30]] (.reg false [oo 30 (.mv (.s 1)),
   oo 31 (.bin .lss (.s 30) (.c (.int .i64 0)))]))
  (.cond (.s 31)
   (.seq (.h [.kill [31]] (.reg false [oo 4 (.mv (.c (.int .i64 (-1))))]))
   .ret)
   .skip))
  (.seq (.h [.kill [31, 32, 33, 34, 35]] (.reg false [oo 32 (.fa 5 (.s 2)),
   oo 33 (.ld 1 false (.s 32)),
   oo 34 (.mv (.s 1)),
   oo 35 (.call 68 [] [] [(.s 33), (.s 34)]),
   oo 1 (.mv (.s 35))]))
  (.seq (.seq (.h [.kill [36]] (.reg false [oo 36 (.mv (.s 1)),
   oo 37 (.bin .lss (.s 36) (.c (.int .i64 0)))]))
  (.cond (.s 37)
   (.seq (.h [.kill [37]] (.reg false [oo 4 (.mv (.c (.int .i64 (-1))))]))
   .ret)
   .skip))
  (.seq (.h [.kill [37, 38, 39, 40, 41]] (.reg false [oo 38 (.fa 6 (.s 2)),
   oo 39 (.ld 1 false (.s 38)),
   oo 40 (.mv (.s 1)),
   oo 41 (.call 37 [] [] [(.s 39), (.s 40)]),
   oo 1 (.mv (.s 41))]))
  (.seq (.seq (.h [.kill [42]] (.reg false [oo 42 (.mv (.s 1)),
   oo 43 (.bin .lss (.s 42) (.c (.int .i64 0)))]))
  (.cond (.s 43)
   (.seq (.h [.kill [43]] (.reg false [oo 4 (.mv (.c (.int .i64 (-1))))]))
   .ret)
   .skip))
  (.seq (.h [.kill [2, 43, 44, 45, 46, 47, 48]] (.reg false [oo 44 (.mv (.s 1)),
   oo 45 (.fa 7 (.s 2)),
   oo 46 (.ld 1 false (.s 45)),
   oo 47 (.len true (.s 46)),
   oo 48 (.bin .sub (.s 44) (.s 47)),
   oo 1 (.mv (.s 48))]))
  (.seq (.seq (.h [.kill [49]] (.reg false [oo 49 (.mv (.s 1)),
   oo 50 (.bin .lss (.s 49) (.c (.int .i64 0)))]))
  (.cond (.s 50)
   (.seq (.h [.kill [50]] (.reg false [oo 4 (.mv (.c (.int .i64 (-1))))]))
   .ret)
   .skip))
  (.seq (.h [.kill [1, 50, 51]] (.reg false [oo 51 (.mv (.s 1)),
   oo 4 (.mv (.s 51))]))
  .ret))))))))))))))))⟩

def k27_l1 : K :=
  (.h [.kill [5, 6, 7, 8, 9, 10, 11, 12, 13, 14, 15, 16, 17, 18, 19], .clean []] (.seq (.seq (.h [.kill [5, 6, 7, 8]] (.reg false [oo 5 (.mv (.s 4)),
     oo 6 (.fa 6 (.s 1)),
     oo 7 (.ld 1 false (.s 6)),
     oo 8 (.len false (.s 7)),
     oo 9 (.bin .lss (.s 5) (.s 8))]))
    (.cond (.s 9)
     .skip
     (.ex 0)))
    (.seq (.blk 1
     (.h [.kill [9, 12, 13, 14, 15, 16, 17, 18, 19]] (.reg false [oo 12 (.mv (.s 3)),
      oo 13 (.fa 6 (.s 1)),
      oo 14 (.ld 1 false (.s 13)),
      oo 15 (.mv (.s 4)),
      oo 16 (.ia 8 (.s 14) (.s 15)),
      oo 17 (.ld 8 true (.s 16)),
      oo 18 (.call 27 [] [] [(.s 17)]),
      oo 19 (.bin .add (.s 12) (.s 18)),
      oo 3 (.mv (.s 19))])))
    (.h [.kill [10, 11]] (.reg false [oo 10 (.mv (.s 4)),
     oo 11 (.bin .add (.s 10) (.c (.int .i64 1))),
     oo 4 (.mv (.s 11))])))))
def k27 : F := ⟨21, [.tmp 2],
  (.seq (.h [.kill [0, 2]] (.reg false [oo 1 (.box (.s 0)),
   oo 2 (.mv (.c (.int .i64 0)))]))
  (.seq (.reg false [oo 3 (.mv (.c (.int .i64 1)))])
  (.seq (.seq (.reg false [oo 4 (.mv (.c (.int .i64 0)))])
  (.blk 0
   (.loop k27_l1)))
  (.seq (.h [.kill [3, 9, 20]] (.reg false [oo 20 (.mv (.s 3)),
   oo 2 (.mv (.s 20))]))
  .ret))))⟩

def k28 : F := ⟨32, [.cell 2 8 true],
  (.seq (.h [.kill [0]] (.reg false [oo 1 (.box (.s 0)),
   oo 2 (.alloc [.v (.int .i64 0), .v (.string ⟨#[]⟩), .v (.string ⟨#[]⟩), .v (.string ⟨#[]⟩), .sl true [], .sl true [], .sl true [], .v (.string ⟨#[]⟩)])]))
  (.seq (.reg false [oo 3 (.alloc [.v (.int .i64 0), .v (.string ⟨#[]⟩), .v (.string ⟨#[]⟩), .v (.string ⟨#[]⟩), .sl true [], .sl true [], .sl true [], .v (.string ⟨#[]⟩)])])
  (.seq (.h [.kill [4, 5, 6]] (.reg false [oo 4 (.fa 0 (.s 1)),
   oo 5 (.ld 1 false (.s 4)),
   oo 6 (.fa 0 (.s 3)),
   on (.st 1 (.s 6) (.s 5))]))
  (.seq (.h [.kill [7, 8, 9]] (.reg false [oo 7 (.fa 1 (.s 1)),
   oo 8 (.ld 1 false (.s 7)),
   oo 9 (.fa 1 (.s 3)),
   on (.st 1 (.s 9) (.s 8))]))
  (.seq (.h [.kill [10, 11, 12]] (.reg false [oo 10 (.fa 2 (.s 1)),
   oo 11 (.ld 1 false (.s 10)),
   oo 12 (.fa 2 (.s 3)),
   on (.st 1 (.s 12) (.s 11))]))
  (.seq (.h [.kill [13, 14, 15]] (.reg false [oo 13 (.fa 3 (.s 1)),
   oo 14 (.ld 1 false (.s 13)),
   oo 15 (.fa 3 (.s 3)),
   on (.st 1 (.s 15) (.s 14))]))
  (.seq (.h [.kill [16, 17, 18, 19]] (.reg false [oo 16 (.fa 4 (.s 1)),
   oo 17 (.ld 1 false (.s 16)),
   oo 18 (.call 69 [] [] [(.s 17)]),
   oo 19 (.fa 4 (.s 3)),
   on (.st 1 (.s 19) (.s 18))]))
  (.seq (.h [.kill [20, 21, 22, 23]] (.reg false [oo 20 (.fa 5 (.s 1)),
   oo 21 (.ld 1 false (.s 20)),
   oo 22 (.call 70 [] [] [(.s 21)]),
   oo 23 (.fa 5 (.s 3)),
   on (.st 1 (.s 23) (.s 22))]))
  (.seq (.h [.kill [24, 25, 26, 27]] (.reg false [oo 24 (.fa 6 (.s 1)),
   oo 25 (.ld 1 false (.s 24)),
   oo 26 (.call 39 [] [] [(.s 25)]),
   oo 27 (.fa 6 (.s 3)),
   on (.st 1 (.s 27) (.s 26))]))
  (.seq (.h [.kill [1, 28, 29, 30]] (.reg false [oo 28 (.fa 7 (.s 1)),
   oo 29 (.ld 1 false (.s 28)),
   oo 30 (.fa 7 (.s 3)),
   on (.st 1 (.s 30) (.s 29))]))
  (.seq (.h [.kill [3, 31]] (.reg false [oo 31 (.ld 8 true (.s 3)),
   on (.st 8 (.s 2) (.s 31))]))
  .ret)))))))))))⟩

def k29_l1 : K :=
  (.h [.kill [10, 11, 12, 13, 14, 15, 16, 17], .clean [5]] (.seq (.reg false [oo 10 (.bin .lss (.s 9) (.s 8))])
    (.seq (.cond (.s 10)
     .skip
     (.ex 0))
    (.seq (.blk 1
     (.seq (.h [.kill [10, 11, 12]] (.reg false [oo 11 (.ia 8 (.s 7) (.s 9)),
      oo 12 (.ld 8 true (.s 11)),
      oo 5 (.alloc [.v (.int .i64 0), .v (.string ⟨#[]⟩), .v (.string ⟨#[]⟩), .v (.string ⟨#[]⟩), .sl true [], .sl true [], .sl true [], .v (.string ⟨#[]⟩)]),
      on (.st 8 (.s 5) (.s 12))]))
     (.h [.kill [5, 13, 14, 15, 16]] (.reg false [oo 13 (.mv (.s 3)),
      oo 14 (.ld 8 true (.s 5)),
      oo 15 (.call 29 [] [] [(.s 14)]),
      oo 16 (.bin .add (.s 13) (.s 15)),
      oo 3 (.mv (.s 16))]))))
    (.h [.kill [17]] (.reg false [oo 17 (.bin .add (.s 9) (.c (.int .i64 1))),
     oo 9 (.mv (.s 17))]))))))
def k29 : F := ⟨19, [.tmp 2],
  (.seq (.h [.kill [0, 2]] (.reg false [oo 1 (.box (.s 0)),
   oo 2 (.mv (.c (.int .i64 0)))]))
  (.seq (.reg false [oo 3 (.mv (.c (.int .i64 1)))])
  (.seq (.seq (.h [.kill [1, 6]] (.reg false [oo 6 (.fa 6 (.s 1)),
   oo 7 (.ld 1 false (.s 6)),
   oo 8 (.len false (.s 7)),
   oo 9 (.mv (.c (.int .i64 0)))]))
  (.blk 0
   (.loop k29_l1)))
  (.seq (.h [.kill [3, 10, 18]] (.reg false [oo 18 (.mv (.s 3)),
   oo 2 (.mv (.s 18))]))
  .ret))))⟩

def k30 : F := ⟨48, [.tmp 4],
  (.seq (.h [.kill [0, 1, 4]] (.reg false [oo 2 (.box (.s 0)),
   oo 3 (.box (.s 1)),
   oo 4 (.mv (.c (.bool false)))]))
  (.seq (.seq (.h [.kill [5, 6, 7, 8]] (.reg false [oo 5 (.fa 0 (.s 2)),
   oo 6 (.ld 1 false (.s 5)),
   oo 7 (.fa 0 (.s 3)),
   oo 8 (.ld 1 false (.s 7)),
   oo 9 (.bin .neq (.s 6) (.s 8))]))
  (.cond (.s 9)
   (.seq (.h [.kill [9]] (.reg false [oo 4 (.mv (.c (.bool false)))]))
   .ret)
   .skip))
  (.seq (.seq (.h [.kill [9, 10, 11, 12, 13]] (.reg false [oo 10 (.fa 1 (.s 2)),
   oo 11 (.ld 1 false (.s 10)),
   oo 12 (.fa 1 (.s 3)),
   oo 13 (.ld 1 false (.s 12)),
   oo 14 (.bin .neq (.s 11) (.s 13))]))
  (.cond (.s 14)
   (.seq (.h [.kill [14]] (.reg false [oo 4 (.mv (.c (.bool false)))]))
   .ret)
   .skip))
  (.seq (.seq (.h [.kill [14, 15, 16, 17, 18]] (.reg false [oo 15 (.fa 2 (.s 2)),
   oo 16 (.ld 1 false (.s 15)),
   oo 17 (.fa 2 (.s 3)),
   oo 18 (.ld 1 false (.s 17)),
   oo 19 (.bin .neq (.s 16) (.s 18))]))
  (.cond (.s 19)
   (.seq (.h [.kill [19]] (.reg false [oo 4 (.mv (.c (.bool false)))]))
   .ret)
   .skip))
  (.seq (.seq (.h [.kill [19, 20, 21, 22, 23]] (.reg false [oo 20 (.fa 3 (.s 2)),
   oo 21 (.ld 1 false (.s 20)),
   oo 22 (.fa 3 (.s 3)),
   oo 23 (.ld 1 false (.s 22)),
   oo 24 (.bin .neq (.s 21) (.s 23))]))
  (.cond (.s 24)
   (.seq (.h [.kill [24]] (.reg false [oo 4 (.mv (.c (.bool false)))]))
   .ret)
   .skip))
  (.seq (.seq (.h [.kill [24, 25, 26, 27, 28, 29]] (.reg false [oo 25 (.fa 4 (.s 2)),
   oo 26 (.ld 1 false (.s 25)),
   oo 27 (.fa 4 (.s 3)),
   oo 28 (.ld 1 false (.s 27)),
   oo 29 (.call 44 [] [] [(.s 26), (.s 28)]),
   oo 30 (.un .not (.s 29))]))
  (.cond (.s 30)
   (.seq (.h [.kill [30]] (.reg false [oo 4 (.mv (.c (.bool false)))]))
   .ret)
   .skip))
  (.seq (.seq (.h [.kill [30, 31, 32, 33, 34, 35]] (.reg false [oo 31 (.fa 5 (.s 2)),
   oo 32 (.ld 1 false (.s 31)),
   oo 33 (.fa 5 (.s 3)),
   oo 34 (.ld 1 false (.s 33)),
   oo 35 (.call 71 [] [] [(.s 32), (.s 34)]),
   oo 36 (.un .not (.s 35))]))
  (.cond (.s 36)
   (.seq (.h [.kill [36]] (.reg false [oo 4 (.mv (.c (.bool false)))]))
   .ret)
   .skip))
  (.seq (.seq (.h [.kill [36, 37, 38, 39, 40, 41]] (.reg false [oo 37 (.fa 6 (.s 2)),
   oo 38 (.ld 1 false (.s 37)),
   oo 39 (.fa 6 (.s 3)),
   oo 40 (.ld 1 false (.s 39)),
   oo 41 (.call 41 [] [] [(.s 38), (.s 40)]),
   oo 42 (.un .not (.s 41))]))
  (.cond (.s 42)
   (.seq (.h [.kill [42]] (.reg false [oo 4 (.mv (.c (.bool false)))]))
   .ret)
   .skip))
  (.seq (.seq (.h [.kill [2, 3, 42, 43, 44, 45, 46]] (.reg false [oo 43 (.fa 7 (.s 2)),
   oo 44 (.ld 1 false (.s 43)),
   oo 45 (.fa 7 (.s 3)),
   oo 46 (.ld 1 false (.s 45)),
   oo 47 (.bin .neq (.s 44) (.s 46))]))
  (.cond (.s 47)
   (.seq (.h [.kill [47]] (.reg false [oo 4 (.mv (.c (.bool false)))]))
   .ret)
   .skip))
  (.seq (.h [.kill [47]] (.reg false [oo 4 (.mv (.c (.bool true)))]))
  .ret))))))))))⟩

def k37_l1 : K :=
  (.h [.kill [4, 12, 13, 14, 15, 16, 17, 18, 19, 20, 21, 22, 23, 24, 25], .clean []] (.seq (.seq (.h [.kill [12, 13, 14]] (.reg false [oo 12 (.mv (.s 5)),
     oo 13 (.mv (.s 0)),
     oo 14 (.len false (.s 13)),
     oo 15 (.bin .lss (.s 12) (.s 14))]))
    (.cond (.s 15)
     .skip
     (.ex 0)))
    (.seq (.blk 1
     (.seq (.h [.kill [15, 18, 19, 20, 21, 22, 23]] (.reg false [oo 18 (.mv (.s 0)),
      oo 19 (.mv (.s 5)),
      oo 20 (.ia 8 (.s 18) (.s 19)),
      oo 21 (.ld 8 true (.s 20)),
      oo 22 (.mv (.s 1)),
      oo 23 (.call 26 [] [] [(.s 21), (.s 22)]),
      oo 1 (.mv (.s 23))]))
     (.seq (.h [.kill [24]] (.reg false [oo 24 (.mv (.s 1)),
      oo 25 (.bin .lss (.s 24) (.c (.int .i64 0)))]))
     (.cond (.s 25)
      (.seq (.h [.kill [25]] (.reg false [oo 4 (.mv (.c (.int .i64 (-1))))]))
      .ret)
      .skip))))
    (.h [.kill [16, 17, 25]] (.reg false [oo 16 (.mv (.s 5)),
     oo 17 (.bin .add (.s 16) (.c (.int .i64 1))),
     oo 5 (.mv (.s 17))])))))
def k37 : F := ⟨27, [.tmp 4],
  (.seq (.h [.kill [4]] (.reg false [oo 4 (.mv (.c (.int .i64 0)))]))
  (.seq (.h [.kill [6, 7, 8, 9]] (.reg false [oo 6 (.mv (.s 1)),
   oo 7 (.mv (.s 0)),
   oo 8 (.len false (.s 7)),
   oo 9 (.bin .sub (.s 6) (.s 8)),
   oo 1 (.mv (.s 9))]))
  (.seq (.seq (.h [.kill [10]] (.reg false [oo 10 (.mv (.s 1)),
   oo 11 (.bin .lss (.s 10) (.c (.int .i64 0)))]))
  (.cond (.s 11)
   (.seq (.h [.kill [11]] (.reg false [oo 4 (.mv (.c (.int .i64 (-1))))]))
   .ret)
   .skip))
  (.seq (.seq (.h [.kill [11]] (.reg false [oo 5 (.mv (.c (.int .i64 0)))]))
  (.blk 0
   (.loop k37_l1)))
  (.seq (.h [.kill [1, 15, 25, 26]] (.reg false [oo 26 (.mv (.s 1)),
   oo 4 (.mv (.s 26))]))
  .ret)))))⟩

def k39_l1 : K :=
  (.h [.kill [8, 9, 10, 11, 12, 13, 14, 15, 16, 17, 18, 19, 21], .clean [20]] (.seq (.seq (.h [.kill [8, 9, 10]] (.reg false [oo 8 (.mv (.s 4)),
     oo 9 (.mv (.s 0)),
     oo 10 (.len false (.s 9)),
     oo 11 (.bin .lss (.s 8) (.s 10))]))
    (.cond (.s 11)
     .skip
     (.ex 0)))
    (.seq (.blk 1
     (.h [.kill [11, 14, 15, 16, 17, 18, 19, 20, 21]] (.reg false [oo 14 (.mv (.s 3)),
      oo 15 (.mv (.s 4)),
      oo 16 (.mv (.s 0)),
      oo 17 (.mv (.s 4)),
      oo 18 (.ia 8 (.s 16) (.s 17)),
      oo 19 (.ld 8 true (.s 18)),
      oo 20 (.call 28 [] [] [(.s 19)]),
      oo 21 (.ia 8 (.s 14) (.s 15)),
      on (.st 8 (.s 21) (.s 20))])))
    (.h [.kill [12, 13]] (.reg false [oo 12 (.mv (.s 4)),
     oo 13 (.bin .add (.s 12) (.c (.int .i64 1))),
     oo 4 (.mv (.s 13))])))))
def k39 : F := ⟨23, [.tmp 2],
  (.seq (.h [.kill [2]] (.reg false [oo 2 (.mv (.c (.slice none 0 0)))]))
  (.seq (.h [.kill [5, 6, 7]] (.reg false [oo 5 (.mv (.s 0)),
   oo 6 (.len false (.s 5)),
   oo 7 (.mks [.v (.int .i64 0), .v (.string ⟨#[]⟩), .v (.string ⟨#[]⟩), .v (.string ⟨#[]⟩), .sl true [], .sl true [], .sl true [], .v (.string ⟨#[]⟩)] 144 (.s 6)),
   oo 3 (.mv (.s 7))]))
  (.seq (.seq (.reg false [oo 4 (.mv (.c (.int .i64 0)))])
  (.blk 0
   (.loop k39_l1)))
  (.seq (.h [.kill [3, 11, 22]] (.reg false [oo 22 (.mv (.s 3)),
   oo 2 (.mv (.s 22))]))
  .ret))))⟩

def k41_l1 : K :=
  (.h [.kill [4, 11, 12, 13, 14, 15, 16, 17, 18, 19, 20, 21, 22, 23, 24, 25, 26], .clean []] (.seq (.seq (.h [.kill [11, 12, 13]] (.reg false [oo 11 (.mv (.s 5)),
     oo 12 (.mv (.s 0)),
     oo 13 (.len false (.s 12)),
     oo 14 (.bin .lss (.s 11) (.s 13))]))
    (.cond (.s 14)
     .skip
     (.ex 0)))
    (.seq (.blk 1
     (.seq (.h [.kill [14, 17, 18, 19, 20, 21, 22, 23, 24, 25]] (.reg true [⟨some 17, none, .mv (.s 0), [], []⟩,
      ⟨some 18, none, .mv (.s 5), [], []⟩,
      ⟨some 19, none, .ia 8 (.s 17) (.s 18), [0], []⟩,
      ⟨some 20, none, .ld 8 true (.s 19), [0], []⟩,
      ⟨some 21, none, .mv (.s 1), [], []⟩,
      ⟨some 22, none, .mv (.s 5), [], []⟩,
      ⟨some 23, none, .ia 8 (.s 21) (.s 22), [1], []⟩,
      ⟨some 24, none, .ld 8 true (.s 23), [1], []⟩,
      ⟨some 25, none, .call 30 [] [] [(.s 20), (.s 24)], [0, 1], []⟩,
      ⟨some 26, none, .un .not (.s 25), [], []⟩]))
     (.cond (.s 26)
      (.seq (.h [.kill [26]] (.reg false [oo 4 (.mv (.c (.bool false)))]))
      .ret)
      .skip)))
    (.h [.kill [15, 16, 26]] (.reg false [oo 15 (.mv (.s 5)),
     oo 16 (.bin .add (.s 15) (.c (.int .i64 1))),
     oo 5 (.mv (.s 16))])))))
def k41 : F := ⟨27, [.tmp 4],
  (.seq (.h [.kill [4]] (.reg false [oo 4 (.mv (.c (.bool false)))]))
  (.seq (.seq (.h [.kill [6, 7, 8, 9]] (.reg false [oo 6 (.mv (.s 0)),
   oo 7 (.len false (.s 6)),
   oo 8 (.mv (.s 1)),
   oo 9 (.len false (.s 8)),
   oo 10 (.bin .neq (.s 7) (.s 9))]))
  (.cond (.s 10)
   (.seq (.h [.kill [10]] (.reg false [oo 4 (.mv (.c (.bool false)))]))
   .ret)
   .skip))
  (.seq (.seq (.h [.kill [10]] (.reg false [oo 5 (.mv (.c (.int .i64 0)))]))
  (.blk 0
   (.loop k41_l1)))
  (.seq (.h [.kill [14, 26]] (.reg false [oo 4 (.mv (.c (.bool true)))]))
  .ret))))⟩

def k44_l1 : K :=
  (.h [.kill [4, 11, 12, 13, 14, 15, 16, 17, 18, 19, 20, 21, 22, 23, 24, 25, 26], .clean []] (.seq (.seq (.h [.kill [11, 12, 13]] (.reg false [oo 11 (.mv (.s 5)),
     oo 12 (.mv (.s 0)),
     oo 13 (.len false (.s 12)),
     oo 14 (.bin .lss (.s 11) (.s 13))]))
    (.cond (.s 14)
     .skip
     (.ex 0)))
    (.seq (.blk 1
     (.seq (.h [.kill [14, 17, 18, 19, 20, 21, 22, 23, 24, 25]] (.reg true [⟨some 17, none, .mv (.s 0), [], []⟩,
      ⟨some 18, none, .mv (.s 5), [], []⟩,
      ⟨some 19, none, .ia 2 (.s 17) (.s 18), [0], []⟩,
      ⟨some 20, none, .ld 2 true (.s 19), [0], []⟩,
      ⟨some 21, none, .mv (.s 1), [], []⟩,
      ⟨some 22, none, .mv (.s 5), [], []⟩,
      ⟨some 23, none, .ia 2 (.s 21) (.s 22), [1], []⟩,
      ⟨some 24, none, .ld 2 true (.s 23), [1], []⟩,
      ⟨some 25, none, .call 80 [] [] [(.s 20), (.s 24)], [0, 1], []⟩,
      ⟨some 26, none, .un .not (.s 25), [], []⟩]))
     (.cond (.s 26)
      (.seq (.h [.kill [26]] (.reg false [oo 4 (.mv (.c (.bool false)))]))
      .ret)
      .skip)))
    (.h [.kill [15, 16, 26]] (.reg false [oo 15 (.mv (.s 5)),
     oo 16 (.bin .add (.s 15) (.c (.int .i64 1))),
     oo 5 (.mv (.s 16))])))))
def k44 : F := ⟨27, [.tmp 4],
  (.seq (.h [.kill [4]] (.reg false [oo 4 (.mv (.c (.bool false)))]))
  (.seq (.seq (.h [.kill [6, 7, 8, 9]] (.reg false [oo 6 (.mv (.s 0)),
   oo 7 (.len false (.s 6)),
   oo 8 (.mv (.s 1)),
   oo 9 (.len false (.s 8)),
   oo 10 (.bin .neq (.s 7) (.s 9))]))
  (.cond (.s 10)
   (.seq (.h [.kill [10]] (.reg false [oo 4 (.mv (.c (.bool false)))]))
   .ret)
   .skip))
  (.seq (.seq (.h [.kill [10]] (.reg false [oo 5 (.mv (.c (.int .i64 0)))]))
  (.blk 0
   (.loop k44_l1)))
  (.seq (.h [.kill [14, 26]] (.reg false [oo 4 (.mv (.c (.bool true)))]))
  .ret))))⟩

def k67_l1 : K :=
  (.h [.kill [4, 12, 13, 14, 15, 16, 17, 18, 19, 20, 21, 22, 23, 24, 25], .clean []] (.seq (.seq (.h [.kill [12, 13, 14]] (.reg false [oo 12 (.mv (.s 5)),
     oo 13 (.mv (.s 0)),
     oo 14 (.len false (.s 13)),
     oo 15 (.bin .lss (.s 12) (.s 14))]))
    (.cond (.s 15)
     .skip
     (.ex 0)))
    (.seq (.blk 1
     (.seq (.h [.kill [15, 18, 19, 20, 21, 22, 23]] (.reg false [oo 18 (.mv (.s 0)),
      oo 19 (.mv (.s 5)),
      oo 20 (.ia 2 (.s 18) (.s 19)),
      oo 21 (.ld 2 true (.s 20)),
      oo 22 (.mv (.s 1)),
      oo 23 (.call 98 [] [] [(.s 21), (.s 22)]),
      oo 1 (.mv (.s 23))]))
     (.seq (.h [.kill [24]] (.reg false [oo 24 (.mv (.s 1)),
      oo 25 (.bin .lss (.s 24) (.c (.int .i64 0)))]))
     (.cond (.s 25)
      (.seq (.h [.kill [25]] (.reg false [oo 4 (.mv (.c (.int .i64 (-1))))]))
      .ret)
      .skip))))
    (.h [.kill [16, 17, 25]] (.reg false [oo 16 (.mv (.s 5)),
     oo 17 (.bin .add (.s 16) (.c (.int .i64 1))),
     oo 5 (.mv (.s 17))])))))
def k67 : F := ⟨27, [.tmp 4],
  (.seq (.h [.kill [4]] (.reg false [oo 4 (.mv (.c (.int .i64 0)))]))
  (.seq (.h [.kill [6, 7, 8, 9]] (.reg false [oo 6 (.mv (.s 1)),
   oo 7 (.mv (.s 0)),
   oo 8 (.len false (.s 7)),
   oo 9 (.bin .sub (.s 6) (.s 8)),
   oo 1 (.mv (.s 9))]))
  (.seq (.seq (.h [.kill [10]] (.reg false [oo 10 (.mv (.s 1)),
   oo 11 (.bin .lss (.s 10) (.c (.int .i64 0)))]))
  (.cond (.s 11)
   (.seq (.h [.kill [11]] (.reg false [oo 4 (.mv (.c (.int .i64 (-1))))]))
   .ret)
   .skip))
  (.seq (.seq (.h [.kill [11]] (.reg false [oo 5 (.mv (.c (.int .i64 0)))]))
  (.blk 0
   (.loop k67_l1)))
  (.seq (.h [.kill [1, 15, 25, 26]] (.reg false [oo 26 (.mv (.s 1)),
   oo 4 (.mv (.s 26))]))
  .ret)))))⟩

def k68_l1 : K :=
  (.h [.kill [4, 12, 13, 14, 15, 16, 17, 18, 19, 20, 21, 22, 23, 24, 25], .clean []] (.seq (.seq (.h [.kill [12, 13, 14]] (.reg false [oo 12 (.mv (.s 5)),
     oo 13 (.mv (.s 0)),
     oo 14 (.len false (.s 13)),
     oo 15 (.bin .lss (.s 12) (.s 14))]))
    (.cond (.s 15)
     .skip
     (.ex 0)))
    (.seq (.blk 1
     (.seq (.h [.kill [15, 18, 19, 20, 21, 22, 23]] (.reg false [oo 18 (.mv (.s 0)),
      oo 19 (.mv (.s 5)),
      oo 20 (.ia 4 (.s 18) (.s 19)),
      oo 21 (.ld 4 true (.s 20)),
      oo 22 (.mv (.s 1)),
      oo 23 (.call 99 [] [] [(.s 21), (.s 22)]),
      oo 1 (.mv (.s 23))]))
     (.seq (.h [.kill [24]] (.reg false [oo 24 (.mv (.s 1)),
      oo 25 (.bin .lss (.s 24) (.c (.int .i64 0)))]))
     (.cond (.s 25)
      (.seq (.h [.kill [25]] (.reg false [oo 4 (.mv (.c (.int .i64 (-1))))]))
      .ret)
      .skip))))
    (.h [.kill [16, 17, 25]] (.reg false [oo 16 (.mv (.s 5)),
     oo 17 (.bin .add (.s 16) (.c (.int .i64 1))),
     oo 5 (.mv (.s 17))])))))
def k68 : F := ⟨27, [.tmp 4],
  (.seq (.h [.kill [4]] (.reg false [oo 4 (.mv (.c (.int .i64 0)))]))
  (.seq (.h [.kill [6, 7, 8, 9]] (.reg false [oo 6 (.mv (.s 1)),
   oo 7 (.mv (.s 0)),
   oo 8 (.len false (.s 7)),
   oo 9 (.bin .sub (.s 6) (.s 8)),
   oo 1 (.mv (.s 9))]))
  (.seq (.seq (.h [.kill [10]] (.reg false [oo 10 (.mv (.s 1)),
   oo 11 (.bin .lss (.s 10) (.c (.int .i64 0)))]))
  (.cond (.s 11)
   (.seq (.h [.kill [11]] (.reg false [oo 4 (.mv (.c (.int .i64 (-1))))]))
   .ret)
   .skip))
  (.seq (.seq (.h [.kill [11]] (.reg false [oo 5 (.mv (.c (.int .i64 0)))]))
  (.blk 0
   (.loop k68_l1)))
  (.seq (.h [.kill [1, 15, 25, 26]] (.reg false [oo 26 (.mv (.s 1)),
   oo 4 (.mv (.s 26))]))
  .ret)))))⟩

def k69_l1 : K :=
  (.h [.kill [8, 9, 10, 11, 12, 13, 14, 15, 16, 17, 18, 19, 20, 21], .clean []] (.seq (.seq (.h [.kill [8, 9, 10]] (.reg false [oo 8 (.mv (.s 4)),
     oo 9 (.mv (.s 0)),
     oo 10 (.len false (.s 9)),
     oo 11 (.bin .lss (.s 8) (.s 10))]))
    (.cond (.s 11)
     .skip
     (.ex 0)))
    (.seq (.blk 1
     (.h [.kill [11, 14, 15, 16, 17, 18, 19, 20, 21]] (.reg false [oo 14 (.mv (.s 3)),
      oo 15 (.mv (.s 4)),
      oo 16 (.mv (.s 0)),
      oo 17 (.mv (.s 4)),
      oo 18 (.ia 2 (.s 16) (.s 17)),
      oo 19 (.ld 2 true (.s 18)),
      oo 20 (.call 100 [] [] [(.s 19)]),
      oo 21 (.ia 2 (.s 14) (.s 15)),
      on (.st 2 (.s 21) (.s 20))])))
    (.h [.kill [12, 13]] (.reg false [oo 12 (.mv (.s 4)),
     oo 13 (.bin .add (.s 12) (.c (.int .i64 1))),
     oo 4 (.mv (.s 13))])))))
def k69 : F := ⟨23, [.tmp 2],
  (.seq (.h [.kill [2]] (.reg false [oo 2 (.mv (.c (.slice none 0 0)))]))
  (.seq (.h [.kill [5, 6, 7]] (.reg false [oo 5 (.mv (.s 0)),
   oo 6 (.len false (.s 5)),
   oo 7 (.mks [.v (.string ⟨#[]⟩), .v (.string ⟨#[]⟩)] 32 (.s 6)),
   oo 3 (.mv (.s 7))]))
  (.seq (.seq (.reg false [oo 4 (.mv (.c (.int .i64 0)))])
  (.blk 0
   (.loop k69_l1)))
  (.seq (.h [.kill [3, 11, 22]] (.reg false [oo 22 (.mv (.s 3)),
   oo 2 (.mv (.s 22))]))
  .ret))))⟩

def k70_l1 : K :=
  (.h [.kill [8, 9, 10, 11, 12, 13, 14, 15, 16, 17, 18, 19, 20, 21], .clean []] (.seq (.seq (.h [.kill [8, 9, 10]] (.reg false [oo 8 (.mv (.s 4)),
     oo 9 (.mv (.s 0)),
     oo 10 (.len false (.s 9)),
     oo 11 (.bin .lss (.s 8) (.s 10))]))
    (.cond (.s 11)
     .skip
     (.ex 0)))
    (.seq (.blk 1
     (.h [.kill [11, 14, 15, 16, 17, 18, 19, 20, 21]] (.reg false [oo 14 (.mv (.s 3)),
      oo 15 (.mv (.s 4)),
      oo 16 (.mv (.s 0)),
      oo 17 (.mv (.s 4)),
      oo 18 (.ia 4 (.s 16) (.s 17)),
      oo 19 (.ld 4 true (.s 18)),
      oo 20 (.call 101 [] [] [(.s 19)]),
      oo 21 (.ia 4 (.s 14) (.s 15)),
      on (.st 4 (.s 21) (.s 20))])))
    (.h [.kill [12, 13]] (.reg false [oo 12 (.mv (.s 4)),
     oo 13 (.bin .add (.s 12) (.c (.int .i64 1))),
     oo 4 (.mv (.s 13))])))))
def k70 : F := ⟨23, [.tmp 2],
  (.seq (.h [.kill [2]] (.reg false [oo 2 (.mv (.c (.slice none 0 0)))]))
  (.seq (.h [.kill [5, 6, 7]] (.reg false [oo 5 (.mv (.s 0)),
   oo 6 (.len false (.s 5)),
   oo 7 (.mks [.v (.string ⟨#[]⟩), .v (.string ⟨#[]⟩), .v (.string ⟨#[]⟩), .v (.string ⟨#[]⟩)] 64 (.s 6)),
   oo 3 (.mv (.s 7))]))
  (.seq (.seq (.reg false [oo 4 (.mv (.c (.int .i64 0)))])
  (.blk 0
   (.loop k70_l1)))
  (.seq (.h [.kill [3, 11, 22]] (.reg false [oo 22 (.mv (.s 3)),
   oo 2 (.mv (.s 22))]))
  .ret))))⟩

def k71_l1 : K :=
  (.h [.kill [4, 11, 12, 13, 14, 15, 16, 17, 18, 19, 20, 21, 22, 23, 24, 25, 26], .clean []] (.seq (.seq (.h [.kill [11, 12, 13]] (.reg false [oo 11 (.mv (.s 5)),
     oo 12 (.mv (.s 0)),
     oo 13 (.len false (.s 12)),
     oo 14 (.bin .lss (.s 11) (.s 13))]))
    (.cond (.s 14)
     .skip
     (.ex 0)))
    (.seq (.blk 1
     (.seq (.h [.kill [14, 17, 18, 19, 20, 21, 22, 23, 24, 25]] (.reg true [⟨some 17, none, .mv (.s 0), [], []⟩,
      ⟨some 18, none, .mv (.s 5), [], []⟩,
      ⟨some 19, none, .ia 4 (.s 17) (.s 18), [0], []⟩,
      ⟨some 20, none, .ld 4 true (.s 19), [0], []⟩,
      ⟨some 21, none, .mv (.s 1), [], []⟩,
      ⟨some 22, none, .mv (.s 5), [], []⟩,
      ⟨some 23, none, .ia 4 (.s 21) (.s 22), [1], []⟩,
      ⟨some 24, none, .ld 4 true (.s 23), [1], []⟩,
      ⟨some 25, none, .call 102 [] [] [(.s 20), (.s 24)], [0, 1], []⟩,
      ⟨some 26, none, .un .not (.s 25), [], []⟩]))
     (.cond (.s 26)
      (.seq (.h [.kill [26]] (.reg false [oo 4 (.mv (.c (.bool false)))]))
      .ret)
      .skip)))
    (.h [.kill [15, 16, 26]] (.reg false [oo 15 (.mv (.s 5)),
     oo 16 (.bin .add (.s 15) (.c (.int .i64 1))),
     oo 5 (.mv (.s 16))])))))
def k71 : F := ⟨27, [.tmp 4],
  (.seq (.h [.kill [4]] (.reg false [oo 4 (.mv (.c (.bool false)))]))
  (.seq (.seq (.h [.kill [6, 7, 8, 9]] (.reg false [oo 6 (.mv (.s 0)),
   oo 7 (.len false (.s 6)),
   oo 8 (.mv (.s 1)),
   oo 9 (.len false (.s 8)),
   oo 10 (.bin .neq (.s 7) (.s 9))]))
  (.cond (.s 10)
   (.seq (.h [.kill [10]] (.reg false [oo 4 (.mv (.c (.bool false)))]))
   .ret)
   .skip))
  (.seq (.seq (.h [.kill [10]] (.reg false [oo 5 (.mv (.c (.int .i64 0)))]))
  (.blk 0
   (.loop k71_l1)))
  (.seq (.h [.kill [14, 26]] (.reg false [oo 4 (.mv (.c (.bool true)))]))
  .ret))))⟩

def k80 : F := ⟨15, [.tmp 4],
  (.seq (.h [.kill [0, 1, 4]] (.reg false [oo 2 (.box (.s 0)),
   oo 3 (.box (.s 1)),
   oo 4 (.mv (.c (.bool false)))]))
  (.seq (.seq (.h [.kill [5, 6, 7, 8]] (.reg false [oo 5 (.fa 0 (.s 2)),
   oo 6 (.ld 1 false (.s 5)),
   oo 7 (.fa 0 (.s 3)),
   oo 8 (.ld 1 false (.s 7)),
   oo 9 (.bin .neq (.s 6) (.s 8))]))
  (.cond (.s 9)
   (.seq (.h [.kill [9]] (.reg false [oo 4 (.mv (.c (.bool false)))]))
   .ret)
   .skip))
  (.seq (.seq (.h [.kill [2, 3, 9, 10, 11, 12, 13]] (.reg false [oo 10 (.fa 1 (.s 2)),
   oo 11 (.ld 1 false (.s 10)),
   oo 12 (.fa 1 (.s 3)),
   oo 13 (.ld 1 false (.s 12)),
   oo 14 (.bin .neq (.s 11) (.s 13))]))
  (.cond (.s 14)
   (.seq (.h [.kill [14]] (.reg false [oo 4 (.mv (.c (.bool false)))]))
   .ret)
   .skip))
  (.seq (.h [.kill [14]] (.reg false [oo 4 (.mv (.c (.bool true)))]))
  .ret))))⟩

def k98 : F := ⟨20, [.tmp 4],
  (.seq (.h [.kill [0, 4]] (.reg false [oo 2 (.box (.s 0)),
   oo 4 (.mv (.c (.int .i64 0)))]))
  (.seq (.h [.kill [5, 6, 7, 8, 9]] (.reg false [oo 5 (.mv (.s 1)),
   oo 6 (.fa 0 (.s 2)),
   oo 7 (.ld 1 false (.s 6)),
   oo 8 (.len true (.s 7)),
   oo 9 (.bin .sub (.s 5) (.s 8)),
   oo 1 (.mv (.s 9))]))
  (.seq (.seq (.h [.kill [10]] (.reg false [oo 10 (.mv (.s 1)),
   oo 11 (.bin .lss (.s 10) (.c (.int .i64 0)))]))
  (.cond (.s 11)
   (.seq (.h [.kill [11]] (.reg false [oo 4 (.mv (.c (.int .i64 (-1))))]))
   .ret)
   .skip))
  (.seq (.h [.kill [2, 11, 12, 13, 14, 15, 16]] (.reg false [oo 12 (.mv (.s 1)),
   oo 13 (.fa 1 (.s 2)),
   oo 14 (.ld 1 false (.s 13)),
   oo 15 (.len true (.s 14)),
   oo 16 (.bin .sub (.s 12) (.s 15)),
   oo 1 (.mv (.s 16))]))
  (.seq (.seq (.h [.kill [17]] (.reg false [oo 17 (.mv (.s 1)),
   oo 18 (.bin .lss (.s 17) (.c (.int .i64 0)))]))
  (.cond (.s 18)
   (.seq (.h [.kill [18]] (.reg false [oo 4 (.mv (.c (.int .i64 (-1))))]))
   .ret)
   .skip))
  (.seq (.h [.kill [1, 18, 19]] (.reg false [oo 19 (.mv (.s 1)),
   oo 4 (.mv (.s 19))]))
  .ret))))))⟩

def k99 : F := ⟨34, [.tmp 4],
  (.seq (.h [.kill [0, 4]] (.reg false [oo 2 (.box (.s 0)),
   oo 4 (.mv (.c (.int .i64 0)))]))
  (.seq (.h [.kill [5, 6, 7, 8, 9]] (.reg false [oo 5 (.mv (.s 1)),
   oo 6 (.fa 0 (.s 2)),
   oo 7 (.ld 1 false (.s 6)),
   oo 8 (.len true (.s 7)),
   oo 9 (.bin .sub (.s 5) (.s 8)),
   oo 1 (.mv (.s 9))]))
  (.seq (.seq (.h [.kill [10]] (.reg false [oo 10 (.mv (.s 1)),
   oo 11 (.bin .lss (.s 10) (.c (.int .i64 0)))]))
  (.cond (.s 11)
   (.seq (.h [.kill [11]] (.reg false [oo 4 (.mv (.c (.int .i64 (-1))))]))
   .ret)
   .skip))
  (.seq (.h [.kill [11, 12, 13, 14, 15, 16]] (.reg false [oo 12 (.mv (.s 1)),
   oo 13 (.fa 1 (.s 2)),
   oo 14 (.ld 1 false (.s 13)),
   oo 15 (.len true (.s 14)),
   oo 16 (.bin .sub (.s 12) (.s 15)),
   oo 1 (.mv (.s 16))]))
  (.seq (.seq (.h [.kill [17]] (.reg false [oo 17 (.mv (.s 1)),
   oo 18 (.bin .lss (.s 17) (.c (.int .i64 0)))]))
  (.cond (.s 18)
   (.seq (.h [.kill [18]] (.reg false [oo 4 (.mv (.c (.int .i64 (-1))))]))
   .ret)
   .skip))
  (.seq (.h [.kill [18, 19, 20, 21, 22, 23]] (.reg false [oo 19 (.mv (.s 1)),
   oo 20 (.fa 2 (.s 2)),
   oo 21 (.ld 1 false (.s 20)),
   oo 22 (.len true (.s 21)),
   oo 23 (.bin .sub (.s 19) (.s 22)),
   oo 1 (.mv (.s 23))]))
  (.seq (.seq (.h [.kill [24]] (.reg false [oo 24 (.mv (.s 1)),
   oo 25 (.bin .lss (.s 24) (.c (.int .i64 0)))]))
  (.cond (.s 25)
   (.seq (.h [.kill [25]] (.reg false [oo 4 (.mv (.c (.int .i64 (-1))))]))
   .ret)
   .skip))
  (.seq (.h [.kill [2, 25, 26, 27, 28, 29, 30]] (.reg false [oo 26 (.mv (.s 1)),
   oo 27 (.fa 3 (.s 2)),
   oo 28 (.ld 1 false (.s 27)),
   oo 29 (.len true (.s 28)),
   oo 30 (.bin .sub (.s 26) (.s 29)),
   oo 1 (.mv (.s 30))]))
  (.seq (.seq (.h [.kill [31]] (.reg false [oo 31 (.mv (.s 1)),
   oo 32 (.bin .lss (.s 31) (.c (.int .i64 0)))]))
  (.cond (.s 32)
   (.seq (.h [.kill [32]] (.reg false [oo 4 (.mv (.c (.int .i64 (-1))))]))
   .ret)
   .skip))
  (.seq (.h [.kill [1, 32, 33]] (.reg false [oo 33 (.mv (.s 1)),
   oo 4 (.mv (.s 33))]))
  .ret))))))))))⟩

def k100 : F := ⟨11, [.cell 2 2 true],
  (.seq (.h [.kill [0]] (.reg false [oo 1 (.box (.s 0)),
   oo 2 (.alloc [.v (.string ⟨#[]⟩), .v (.string ⟨#[]⟩)])]))
  (.seq (.reg false [oo 3 (.alloc [.v (.string ⟨#[]⟩), .v (.string ⟨#[]⟩)])])
  (.seq (.h [.kill [4, 5, 6]] (.reg false [oo 4 (.fa 0 (.s 1)),
   oo 5 (.ld 1 false (.s 4)),
   oo 6 (.fa 0 (.s 3)),
   on (.st 1 (.s 6) (.s 5))]))
  (.seq (.h [.kill [1, 7, 8, 9]] (.reg false [oo 7 (.fa 1 (.s 1)),
   oo 8 (.ld 1 false (.s 7)),
   oo 9 (.fa 1 (.s 3)),
   on (.st 1 (.s 9) (.s 8))]))
  (.seq (.h [.kill [3, 10]] (.reg false [oo 10 (.ld 2 true (.s 3)),
   on (.st 2 (.s 2) (.s 10))]))
  .ret)))))⟩

def k101 : F := ⟨17, [.cell 2 4 true],
  (.seq (.h [.kill [0]] (.reg false [oo 1 (.box (.s 0)),
   oo 2 (.alloc [.v (.string ⟨#[]⟩), .v (.string ⟨#[]⟩), .v (.string ⟨#[]⟩), .v (.string ⟨#[]⟩)])]))
  (.seq (.reg false [oo 3 (.alloc [.v (.string ⟨#[]⟩), .v (.string ⟨#[]⟩), .v (.string ⟨#[]⟩), .v (.string ⟨#[]⟩)])])
  (.seq (.h [.kill [4, 5, 6]] (.reg false [oo 4 (.fa 0 (.s 1)),
   oo 5 (.ld 1 false (.s 4)),
   oo 6 (.fa 0 (.s 3)),
   on (.st 1 (.s 6) (.s 5))]))
  (.seq (.h [.kill [7, 8, 9]] (.reg false [oo 7 (.fa 1 (.s 1)),
   oo 8 (.ld 1 false (.s 7)),
   oo 9 (.fa 1 (.s 3)),
   on (.st 1 (.s 9) (.s 8))]))
  (.seq (.h [.kill [10, 11, 12]] (.reg false [oo 10 (.fa 2 (.s 1)),
   oo 11 (.ld 1 false (.s 10)),
   oo 12 (.fa 2 (.s 3)),
   on (.st 1 (.s 12) (.s 11))]))
  (.seq (.h [.kill [1, 13, 14, 15]] (.reg false [oo 13 (.fa 3 (.s 1)),
   oo 14 (.ld 1 false (.s 13)),
   oo 15 (.fa 3 (.s 3)),
   on (.st 1 (.s 15) (.s 14))]))
  (.seq (.h [.kill [3, 16]] (.reg false [oo 16 (.ld 4 true (.s 3)),
   on (.st 4 (.s 2) (.s 16))]))
  .ret)))))))⟩

def k102 : F := ⟨25, [.tmp 4],
  (.seq (.h [.kill [0, 1, 4]] (.reg false [oo 2 (.box (.s 0)),
   oo 3 (.box (.s 1)),
   oo 4 (.mv (.c (.bool false)))]))
  (.seq (.seq (.h [.kill [5, 6, 7, 8]] (.reg false [oo 5 (.fa 0 (.s 2)),
   oo 6 (.ld 1 false (.s 5)),
   oo 7 (.fa 0 (.s 3)),
   oo 8 (.ld 1 false (.s 7)),
   oo 9 (.bin .neq (.s 6) (.s 8))]))
  (.cond (.s 9)
   (.seq (.h [.kill [9]] (.reg false [oo 4 (.mv (.c (.bool false)))]))
   .ret)
   .skip))
  (.seq (.seq (.h [.kill [9, 10, 11, 12, 13]] (.reg false [oo 10 (.fa 1 (.s 2)),
   oo 11 (.ld 1 false (.s 10)),
   oo 12 (.fa 1 (.s 3)),
   oo 13 (.ld 1 false (.s 12)),
   oo 14 (.bin .neq (.s 11) (.s 13))]))
  (.cond (.s 14)
   (.seq (.h [.kill [14]] (.reg false [oo 4 (.mv (.c (.bool false)))]))
   .ret)
   .skip))
  (.seq (.seq (.h [.kill [14, 15, 16, 17, 18]] (.reg false [oo 15 (.fa 2 (.s 2)),
   oo 16 (.ld 1 false (.s 15)),
   oo 17 (.fa 2 (.s 3)),
   oo 18 (.ld 1 false (.s 17)),
   oo 19 (.bin .neq (.s 16) (.s 18))]))
  (.cond (.s 19)
   (.seq (.h [.kill [19]] (.reg false [oo 4 (.mv (.c (.bool false)))]))
   .ret)
   .skip))
  (.seq (.seq (.h [.kill [2, 3, 19, 20, 21, 22, 23]] (.reg false [oo 20 (.fa 3 (.s 2)),
   oo 21 (.ld 1 false (.s 20)),
   oo 22 (.fa 3 (.s 3)),
   oo 23 (.ld 1 false (.s 22)),
   oo 24 (.bin .neq (.s 21) (.s 23))]))
  (.cond (.s 24)
   (.seq (.h [.kill [24]] (.reg false [oo 4 (.mv (.c (.bool false)))]))
   .ret)
   .skip))
  (.seq (.h [.kill [24]] (.reg false [oo 4 (.mv (.c (.bool true)))]))
  .ret))))))⟩
end TT
