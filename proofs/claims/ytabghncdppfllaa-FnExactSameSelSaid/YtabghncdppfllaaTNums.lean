import Derived.Test.YtabghncdppfllaaTH5
namespace TT
abbrev n_impl_SameSel : Nat := 24
abbrev n_impl_SameSel_1 : Nat := 64
abbrev n_laws_FnExactSameSel : Nat := 5
abbrev n_laws_eqPred : Nat := 117
abbrev n_laws_eqPredS : Nat := 112
abbrev n_laws_eqSel : Nat := 25
abbrev n_laws_eqStep : Nat := 97
abbrev n_laws_eqStepS : Nat := 66
abbrev n_laws_szPred : Nat := 115
abbrev n_laws_szPredS : Nat := 110
abbrev n_laws_szSel : Nat := 21
abbrev n_laws_szStep : Nat := 95
abbrev n_laws_szStepS : Nat := 61
abbrev n_laws_toPred : Nat := 116
abbrev n_laws_toPredS : Nat := 111
abbrev n_laws_toSel : Nat := 23
abbrev n_laws_toStep : Nat := 96
abbrev n_laws_toStepS : Nat := 62
abbrev n_slices_EqualFunc_Step : Nat := 63
abbrev n_slices_Equal_Pred : Nat := 65
abbrev n_spec_SameSel : Nat := 22
end TT
