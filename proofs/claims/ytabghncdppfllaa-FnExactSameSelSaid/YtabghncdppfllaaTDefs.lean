import Derived.Test.YtabghncdppfllaaTTypes
set_option linter.unusedVariables false
set_option linter.unusedSimpArgs false
set_option linter.defProp false
set_option maxRecDepth 100000
namespace TT
open Go
def laws_szPred (a : GPred) (left : Int) : Option (Int) :=
  if (ltI (subI left (lenS a.Pre)) 0) then
    some (-1)
  else
    if (ltI (subI (subI left (lenS a.Pre)) (lenS a.Local)) 0) then
      some (-1)
    else
      if (ltI (subI (subI (subI left (lenS a.Pre)) (lenS a.Local)) (lenS a.Val)) 0) then
        some (-1)
      else
        some (subI (subI (subI left (lenS a.Pre)) (lenS a.Local)) (lenS a.Val))
def laws_szPredS_l16 (a : List GPred) (left1 : Int) (i : Int) : Option (Int) :=
  if (ltI i (lenL a)) then
    getI a i >>= fun x1 =>
    laws_szPred x1 left1 >>= fun r1 =>
    if (ltI r1 0) then
      some (-1)
    else
      laws_szPredS_l16 a r1 (addI i 1)
  else
    some left1
  partial_fixpoint
def laws_szPredS (a : List GPred) (left : Int) : Option (Int) :=
  if (ltI (subI left (lenL a)) 0) then
    some (-1)
  else
    laws_szPredS_l16 a (subI left (lenL a)) 0
def laws_szStep (a : GStp) (left : Int) : Option (Int) :=
  if (ltI (subI left (lenS a.Pre)) 0) then
    some (-1)
  else
    if (ltI (subI (subI left (lenS a.Pre)) (lenS a.Local)) 0) then
      some (-1)
    else
      laws_szPredS a.Preds (subI (subI left (lenS a.Pre)) (lenS a.Local)) >>= fun r =>
      if (ltI r 0) then
        some (-1)
      else
        some r
def laws_szStepS_l16 (a : List GStp) (left1 : Int) (i : Int) : Option (Int) :=
  if (ltI i (lenL a)) then
    getI a i >>= fun x1 =>
    laws_szStep x1 left1 >>= fun r1 =>
    if (ltI r1 0) then
      some (-1)
    else
      laws_szStepS_l16 a r1 (addI i 1)
  else
    some left1
  partial_fixpoint
def laws_szStepS (a : List GStp) (left : Int) : Option (Int) :=
  if (ltI (subI left (lenL a)) 0) then
    some (-1)
  else
    laws_szStepS_l16 a (subI left (lenL a)) 0
def laws_szSel (a : GSel) (left : Int) : Option (Int) :=
  if (ltI (subI left (lenS a.Id)) 0) then
    some (-1)
  else
    laws_szStepS a.Steps (subI left (lenS a.Id)) >>= fun r =>
    if (ltI r 0) then
      some (-1)
    else
      some r
def laws_toPred (a : GPred) : Option (GPred) :=
  some a
def laws_toPredS_l8 (a : List GPred) (out : List (GPred)) (i : Int) : Option (List GPred) :=
  if (ltI i (lenL a)) then
    getI a i >>= fun x2 =>
    laws_toPred x2 >>= fun r1 =>
    getI out i >>= fun x3 =>
    laws_toPredS_l8 a (out.set (Int.toNat i) r1) (addI i 1)
  else
    some out
  partial_fixpoint
def laws_toPredS (a : List GPred) : Option (List GPred) :=
  mkN (lenL a) 64 >>= fun m =>
  laws_toPredS_l8 a (List.replicate m (GPred.mk 0 0 ⟨#[]⟩ ⟨#[]⟩ ⟨#[]⟩)) 0
def laws_toStep (a : GStp) : Option (GStp) :=
  laws_toPredS a.Preds >>= fun r =>
  some (GStp.mk a.Deep a.Kind a.Pre a.Local r)
def laws_toStepS_l8 (a : List GStp) (out : List (GStp)) (i : Int) : Option (List GStp) :=
  if (ltI i (lenL a)) then
    getI a i >>= fun x2 =>
    laws_toStep x2 >>= fun r1 =>
    getI out i >>= fun x3 =>
    laws_toStepS_l8 a (out.set (Int.toNat i) r1) (addI i 1)
  else
    some out
  partial_fixpoint
def laws_toStepS (a : List GStp) : Option (List GStp) :=
  mkN (lenL a) 72 >>= fun m =>
  laws_toStepS_l8 a (List.replicate m (GStp.mk false 0 ⟨#[]⟩ ⟨#[]⟩ [])) 0
def laws_toSel (a : GSel) : Option (GSel) :=
  laws_toStepS a.Steps >>= fun r =>
  some (GSel.mk a.Id r)
mutual
def spec_SameSel_l38 (i : Int) (k1 : Int) (a : GSel) (b : GSel) (x6 : GStp) (x7 : GStp) : Option (Bool) :=
  if (ltI k1 (lenL x6.Preds)) then
    getI x6.Preds k1 >>= fun x10 =>
    getI x7.Preds k1 >>= fun x11 =>
    if (eqI x10.Kind x11.Kind && (eqI x10.N x11.N && (eqS x10.Pre x11.Pre && (eqS x10.Local x11.Local && eqS x10.Val x11.Val)))) then
      spec_SameSel_l38 i (addI k1 1) a b x6 x7
    else
      some false
  else
    spec_SameSel_l14 (addI i 1) a b
  partial_fixpoint
def spec_SameSel_l14 (i : Int) (a : GSel) (b : GSel) : Option (Bool) :=
  if (ltI i (lenL a.Steps)) then
    getI a.Steps i >>= fun x6 =>
    getI b.Steps i >>= fun x7 =>
    if (neB x6.Deep x7.Deep) then
      some false
    else
      if (neI x6.Kind x7.Kind) then
        some false
      else
        if (neS x6.Pre x7.Pre) then
          some false
        else
          if (neS x6.Local x7.Local) then
            some false
          else
            if (neI (lenL x6.Preds) (lenL x7.Preds)) then
              some false
            else
              spec_SameSel_l38 i 0 a b x6 x7
  else
    some true
  partial_fixpoint
end
def spec_SameSel (a : GSel) (b : GSel) : Option (Bool) :=
  if (neS a.Id b.Id) then
    some false
  else
    if (neI (lenL a.Steps) (lenL b.Steps)) then
      some false
    else
      spec_SameSel_l14 0 a b
def slices_Equal_Pred_l14 (s1 : List GPred) (s2 : List GPred) (x2 : Int) : Option (Bool) :=
  if (ltI x2 (lenL s1)) then
    getI s1 x2 >>= fun x3 =>
    getI s2 x2 >>= fun x4 =>
    if (eqI x3.Kind x4.Kind && (eqI x3.N x4.N && (eqS x3.Pre x4.Pre && (eqS x3.Local x4.Local && eqS x3.Val x4.Val)))) then
      slices_Equal_Pred_l14 s1 s2 (addI x2 1)
    else
      some false
  else
    some true
  partial_fixpoint
def slices_Equal_Pred (s1 : List GPred) (s2 : List GPred) : Option (Bool) :=
  if (neI (lenL s1) (lenL s2)) then
    some false
  else
    slices_Equal_Pred_l14 s1 s2 0
def impl_SameSel_1 (a0 : GStp) (y : GStp) : Option (Bool) :=
  if (eqB a0.Deep y.Deep) then
    if (eqI a0.Kind y.Kind) then
      if (eqS a0.Pre y.Pre) then
        if (eqS a0.Local y.Local) then
          slices_Equal_Pred a0.Preds y.Preds >>= fun r =>
          some r
        else
          some false
      else
        some false
    else
      some false
  else
    some false
def slices_EqualFunc_Step_SameSel_1_l14 (s2 : List GStp) (s1 : List GStp) (x2 : Int) : Option (Bool) :=
  if (ltI x2 (lenL s1)) then
    getI s1 x2 >>= fun x3 =>
    getI s2 x2 >>= fun x4 =>
    impl_SameSel_1 x3 x4 >>= fun r1 =>
    if r1 then
      slices_EqualFunc_Step_SameSel_1_l14 s2 s1 (addI x2 1)
    else
      some false
  else
    some true
  partial_fixpoint
def slices_EqualFunc_Step_SameSel_1 (s1 : List GStp) (s2 : List GStp) : Option (Bool) :=
  if (neI (lenL s1) (lenL s2)) then
    some false
  else
    slices_EqualFunc_Step_SameSel_1_l14 s2 s1 0
def impl_SameSel (a : GSel) (b : GSel) : Option (Bool) :=
  if (eqS a.Id b.Id) then
    slices_EqualFunc_Step_SameSel_1 a.Steps b.Steps >>= fun r =>
    some r
  else
    some false
def laws_eqPred (a : GPred) (b : GPred) : Option (Bool) :=
  if (neI a.Kind b.Kind) then
    some false
  else
    if (neI a.N b.N) then
      some false
    else
      if (neS a.Pre b.Pre) then
        some false
      else
        if (neS a.Local b.Local) then
          some false
        else
          if (neS a.Val b.Val) then
            some false
          else
            some true
def laws_eqPredS_l14 (a : List GPred) (b : List GPred) (i : Int) : Option (Bool) :=
  if (ltI i (lenL a)) then
    getI a i >>= fun x2 =>
    getI b i >>= fun x3 =>
    laws_eqPred x2 x3 >>= fun r1 =>
    if r1 then
      laws_eqPredS_l14 a b (addI i 1)
    else
      some false
  else
    some true
  partial_fixpoint
def laws_eqPredS (a : List GPred) (b : List GPred) : Option (Bool) :=
  if (neI (lenL a) (lenL b)) then
    some false
  else
    laws_eqPredS_l14 a b 0
def laws_eqStep (a : GStp) (b : GStp) : Option (Bool) :=
  if (neB a.Deep b.Deep) then
    some false
  else
    if (neI a.Kind b.Kind) then
      some false
    else
      if (neS a.Pre b.Pre) then
        some false
      else
        if (neS a.Local b.Local) then
          some false
        else
          laws_eqPredS a.Preds b.Preds >>= fun r =>
          if r then
            some true
          else
            some false
def laws_eqStepS_l14 (a : List GStp) (b : List GStp) (i : Int) : Option (Bool) :=
  if (ltI i (lenL a)) then
    getI a i >>= fun x2 =>
    getI b i >>= fun x3 =>
    laws_eqStep x2 x3 >>= fun r1 =>
    if r1 then
      laws_eqStepS_l14 a b (addI i 1)
    else
      some false
  else
    some true
  partial_fixpoint
def laws_eqStepS (a : List GStp) (b : List GStp) : Option (Bool) :=
  if (neI (lenL a) (lenL b)) then
    some false
  else
    laws_eqStepS_l14 a b 0
def laws_eqSel (a : GSel) (b : GSel) : Option (Bool) :=
  if (neS a.Id b.Id) then
    some false
  else
    laws_eqStepS a.Steps b.Steps >>= fun r =>
    if r then
      some true
    else
      some false
def laws_FnExactSameSel (aA : GSel) (aB : GSel) : Option (Bool) :=
  laws_szSel aA 1048576 >>= fun r =>
  if (ltI r 0) then
    some true
  else
    laws_szSel aB r >>= fun r1 =>
    if (ltI r1 0) then
      some true
    else
      laws_toSel aA >>= fun r2 =>
      laws_toSel aB >>= fun r3 =>
      spec_SameSel r2 r3 >>= fun r4 =>
      laws_toSel aA >>= fun r5 =>
      laws_toSel aB >>= fun r6 =>
      impl_SameSel r5 r6 >>= fun r7 =>
      if (neB r7 r4) then
        some false
      else
        laws_toSel aA >>= fun r8 =>
        laws_eqSel r5 r8 >>= fun r9 =>
        if r9 then
          laws_toSel aB >>= fun r10 =>
          laws_eqSel r6 r10 >>= fun r11 =>
          if r11 then
            some true
          else
            some false
        else
          some false
end TT
