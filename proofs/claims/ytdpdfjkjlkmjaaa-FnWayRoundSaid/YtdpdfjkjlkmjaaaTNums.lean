import Derived.Test.YtdpdfjkjlkmjaaaTH4
namespace TT
abbrev n_impl_Alone : Nat := 61
abbrev n_impl_Gap : Nat := 12
abbrev n_impl_Nodes : Nat := 60
abbrev n_impl_cloneNode : Nat := 75
abbrev n_impl_cloneNodes : Nat := 122
abbrev n_impl_gaps_count : Nat := 66
abbrev n_impl_gaps_least : Nat := 114
abbrev n_impl_row_put : Nat := 65
abbrev n_impl_sameAlone : Nat := 79
abbrev n_laws_FnWayRound : Nat := 3
abbrev n_laws_big : Nat := 10
abbrev n_slices_Clone_Attr : Nat := 121
abbrev n_slices_Clone_Decl : Nat := 120
abbrev n_slices_Equal_Attr : Nat := 125
abbrev n_slices_Equal_Decl : Nat := 124
abbrev n_spec_Alone : Nat := 115
abbrev n_spec_DrawSmall : Nat := 11
abbrev n_spec_Gap : Nat := 13
abbrev n_spec_Nodes : Nat := 26
abbrev n_spec_SameNode : Nat := 86
abbrev n_spec_l18Forest : Nat := 70
abbrev n_spec_l18Grid : Nat := 68
abbrev n_spec_l18Keys : Nat := 69
abbrev n_spec_l18Min : Nat := 116
abbrev n_spec_l18Post : Nat := 67
abbrev n_spec_l18Small : Nat := 64
abbrev n_spec_l1Below : Nat := 63
abbrev n_spec_l1Byte : Nat := 112
abbrev n_spec_l1New : Nat := 62
abbrev n_spec_l1Str : Nat := 113
abbrev n_spec_l5All : Nat := 123
abbrev n_spec_l5Copy : Nat := 77
end TT
