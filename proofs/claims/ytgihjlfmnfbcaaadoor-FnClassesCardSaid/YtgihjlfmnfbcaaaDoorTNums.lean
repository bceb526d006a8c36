import Derived.Test.YtgihjlfmnfbcaaaDoorTH4
import Derived.Test.YtgihjlfmnfbcaaaDoorTHX4
namespace TT
abbrev GS : Nat := 19
abbrev HT : Nat := 35
abbrev Df : Nat := 16
abbrev D9 : Nat := 10
abbrev EI : Nat := 14
abbrev Dg : Nat := 12
abbrev HU : Nat := 41
abbrev HV : Nat := 17
abbrev J2 : Nat := 40
abbrev F4 : Nat := 30
abbrev Cr : Nat := 39
abbrev Gv : Nat := 33
abbrev J3 : Nat := 3
abbrev J4 : Nat := 21
abbrev Kd : Nat := 4
abbrev Cg : Nat := 38
abbrev DA : Nat := 43
abbrev GT : Nat := 20
abbrev Ey : Nat := 9
abbrev Fa : Nat := 5
abbrev Fb : Nat := 7
abbrev FO : Nat := 6
abbrev Fc : Nat := 8
abbrev FP : Nat := 22
abbrev HW : Nat := 11
abbrev Fk : Nat := 15
abbrev FQ : Nat := 13
abbrev HX : Nat := 42
abbrev HY : Nat := 18
abbrev AZ : Nat := 26
abbrev HZ : Nat := 27
abbrev DB : Nat := 37
abbrev DU : Nat := 32
abbrev GI : Nat := 36
abbrev D0 : Nat := 23
abbrev F5 : Nat := 25
abbrev EJ : Nat := 24
abbrev Er : Nat := 31
abbrev Gw : Nat := 34
abbrev F6 : Nat := 29
abbrev Ha : Nat := 28
abbrev Ax : Nat := 44
end TT
