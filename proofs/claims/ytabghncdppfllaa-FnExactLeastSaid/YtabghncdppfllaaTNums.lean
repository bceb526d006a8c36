import Derived.Test.YtabghncdppfllaaTH5
namespace TT
abbrev n_impl_CountOf : Nat := 73
abbrev n_impl_Least : Nat := 32
abbrev n_laws_FnExactLeast : Nat := 7
abbrev n_laws_eqAttr : Nat := 102
abbrev n_laws_eqAttrS : Nat := 71
abbrev n_laws_eqDecl : Nat := 80
abbrev n_laws_eqDeclS : Nat := 44
abbrev n_laws_eqNode : Nat := 30
abbrev n_laws_eqNodeS : Nat := 41
abbrev n_laws_szAttr : Nat := 99
abbrev n_laws_szAttrS : Nat := 68
abbrev n_laws_szDecl : Nat := 98
abbrev n_laws_szDeclS : Nat := 67
abbrev n_laws_szNode : Nat := 26
abbrev n_laws_szNodeS : Nat := 37
abbrev n_laws_toAttr : Nat := 101
abbrev n_laws_toAttrS : Nat := 70
abbrev n_laws_toDecl : Nat := 100
abbrev n_laws_toDeclS : Nat := 69
abbrev n_laws_toNode : Nat := 28
abbrev n_laws_toNodeS : Nat := 39
abbrev n_spec_CountOf : Nat := 72
abbrev n_spec_Least : Nat := 31
end TT
