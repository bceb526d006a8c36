import Derived.Test.YtabghncdppfllaaTH5
namespace TT
abbrev n_impl_Longest : Nat := 40
abbrev n_impl_SameNode : Nat := 88
abbrev n_impl_longest : Nat := 75
abbrev n_impl_sameAlone : Nat := 106
abbrev n_laws_FnExactLongest : Nat := 10
abbrev n_laws_eqAttr : Nat := 102
abbrev n_laws_eqAttrS : Nat := 71
abbrev n_laws_eqDecl : Nat := 80
abbrev n_laws_eqDeclS : Nat := 44
abbrev n_laws_eqNode : Nat := 30
abbrev n_laws_eqNodeS : Nat := 41
abbrev n_laws_szAttr : Nat := 99
abbrev n_laws_szAttrS : Nat := 68
abbrev n_laws_szDecl : Nat := 98
abbrev n_laws_szDeclS : Nat := 67
abbrev n_laws_szNode : Nat := 26
abbrev n_laws_szNodeS : Nat := 37
abbrev n_laws_toAttr : Nat := 101
abbrev n_laws_toAttrS : Nat := 70
abbrev n_laws_toDecl : Nat := 100
abbrev n_laws_toDeclS : Nat := 69
abbrev n_laws_toNode : Nat := 28
abbrev n_laws_toNodeS : Nat := 39
abbrev n_slices_EqualFunc_Node : Nat := 107
abbrev n_slices_Equal_Attr : Nat := 114
abbrev n_slices_Equal_Decl : Nat := 113
abbrev n_spec_Longest : Nat := 38
abbrev n_spec_SameNode : Nat := 87
abbrev n_spec_l17Table : Nat := 74
end TT
