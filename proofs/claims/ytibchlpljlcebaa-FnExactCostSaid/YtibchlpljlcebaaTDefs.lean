import Derived.Test.YtibchlpljlcebaaTTypes
set_option linter.unusedVariables false
set_option linter.unusedSimpArgs false
set_option linter.defProp false
set_option maxRecDepth 100000
namespace TT
open Go
def laws_szPred (a : GPred) (left : Int) : Option (Int) :=
  if (ltI (subI left (lenS a.Pre)) 0) then
    some (-1)
  else
    if (ltI (subI (subI left (lenS a.Pre)) (lenS a.Local)) 0) then
      some (-1)
    else
      if (ltI (subI (subI (subI left (lenS a.Pre)) (lenS a.Local)) (lenS a.Val)) 0) then
        some (-1)
      else
        some (subI (subI (subI left (lenS a.Pre)) (lenS a.Local)) (lenS a.Val))
def laws_szPredS_l16 (a : List GPred) (left1 : Int) (i : Int) : Option (Int) :=
  if (ltI i (lenL a)) then
    getI a i >>= fun x1 =>
    laws_szPred x1 left1 >>= fun r1 =>
    if (ltI r1 0) then
      some (-1)
    else
      laws_szPredS_l16 a r1 (addI i 1)
  else
    some left1
  partial_fixpoint
def laws_szPredS (a : List GPred) (left : Int) : Option (Int) :=
  if (ltI (subI left (lenL a)) 0) then
    some (-1)
  else
    laws_szPredS_l16 a (subI left (lenL a)) 0
def laws_szStep (a : GStp) (left : Int) : Option (Int) :=
  if (ltI (subI left (lenS a.Pre)) 0) then
    some (-1)
  else
    if (ltI (subI (subI left (lenS a.Pre)) (lenS a.Local)) 0) then
      some (-1)
    else
      laws_szPredS a.Preds (subI (subI left (lenS a.Pre)) (lenS a.Local)) >>= fun r =>
      if (ltI r 0) then
        some (-1)
      else
        some r
def laws_szStepS_l16 (a : List GStp) (left1 : Int) (i : Int) : Option (Int) :=
  if (ltI i (lenL a)) then
    getI a i >>= fun x1 =>
    laws_szStep x1 left1 >>= fun r1 =>
    if (ltI r1 0) then
      some (-1)
    else
      laws_szStepS_l16 a r1 (addI i 1)
  else
    some left1
  partial_fixpoint
def laws_szStepS (a : List GStp) (left : Int) : Option (Int) :=
  if (ltI (subI left (lenL a)) 0) then
    some (-1)
  else
    laws_szStepS_l16 a (subI left (lenL a)) 0
def laws_szSel (a : GSel) (left : Int) : Option (Int) :=
  if (ltI (subI left (lenS a.Id)) 0) then
    some (-1)
  else
    laws_szStepS a.Steps (subI left (lenS a.Id)) >>= fun r =>
    if (ltI r 0) then
      some (-1)
    else
      some r
def laws_szDecl (a : GDecl) (left : Int) : Option (Int) :=
  if (ltI (subI left (lenS a.Pre)) 0) then
    some (-1)
  else
    if (ltI (subI (subI left (lenS a.Pre)) (lenS a.Uri)) 0) then
      some (-1)
    else
      some (subI (subI left (lenS a.Pre)) (lenS a.Uri))
def laws_szDeclS_l16 (a : List GDecl) (left1 : Int) (i : Int) : Option (Int) :=
  if (ltI i (lenL a)) then
    getI a i >>= fun x1 =>
    laws_szDecl x1 left1 >>= fun r1 =>
    if (ltI r1 0) then
      some (-1)
    else
      laws_szDeclS_l16 a r1 (addI i 1)
  else
    some left1
  partial_fixpoint
def laws_szDeclS (a : List GDecl) (left : Int) : Option (Int) :=
  if (ltI (subI left (lenL a)) 0) then
    some (-1)
  else
    laws_szDeclS_l16 a (subI left (lenL a)) 0
def laws_szAttr (a : GAttr) (left : Int) : Option (Int) :=
  if (ltI (subI left (lenS a.Pre)) 0) then
    some (-1)
  else
    if (ltI (subI (subI left (lenS a.Pre)) (lenS a.Local)) 0) then
      some (-1)
    else
      if (ltI (subI (subI (subI left (lenS a.Pre)) (lenS a.Local)) (lenS a.Uri)) 0) then
        some (-1)
      else
        if (ltI (subI (subI (subI (subI left (lenS a.Pre)) (lenS a.Local)) (lenS a.Uri)) (lenS a.Val)) 0) then
          some (-1)
        else
          some (subI (subI (subI (subI left (lenS a.Pre)) (lenS a.Local)) (lenS a.Uri)) (lenS a.Val))
def laws_szAttrS_l16 (a : List GAttr) (left1 : Int) (i : Int) : Option (Int) :=
  if (ltI i (lenL a)) then
    getI a i >>= fun x1 =>
    laws_szAttr x1 left1 >>= fun r1 =>
    if (ltI r1 0) then
      some (-1)
    else
      laws_szAttrS_l16 a r1 (addI i 1)
  else
    some left1
  partial_fixpoint
def laws_szAttrS (a : List GAttr) (left : Int) : Option (Int) :=
  if (ltI (subI left (lenL a)) 0) then
    some (-1)
  else
    laws_szAttrS_l16 a (subI left (lenL a)) 0
mutual
def laws_szNode (a : GNode) (left : Int) : Option (Int) :=
  if (ltI (subI left (lenS a.Pre)) 0) then
    some (-1)
  else
    if (ltI (subI (subI left (lenS a.Pre)) (lenS a.Local)) 0) then
      some (-1)
    else
      if (ltI (subI (subI (subI left (lenS a.Pre)) (lenS a.Local)) (lenS a.Uri)) 0) then
        some (-1)
      else
        laws_szDeclS a.Decls (subI (subI (subI left (lenS a.Pre)) (lenS a.Local)) (lenS a.Uri)) >>= fun r =>
        if (ltI r 0) then
          some (-1)
        else
          laws_szAttrS a.Attrs r >>= fun r1 =>
          if (ltI r1 0) then
            some (-1)
          else
            laws_szNodeS a.Kids r1 >>= fun r2 =>
            if (ltI r2 0) then
              some (-1)
            else
              if (ltI (subI r2 (lenS a.Text)) 0) then
                some (-1)
              else
                some (subI r2 (lenS a.Text))
  partial_fixpoint
def laws_szNodeS (a : List GNode) (left : Int) : Option (Int) :=
  if (ltI (subI left (lenL a)) 0) then
    some (-1)
  else
    laws_szNodeS_l16 a (subI left (lenL a)) 0
  partial_fixpoint
def laws_szNodeS_l16 (a : List GNode) (left1 : Int) (i : Int) : Option (Int) :=
  if (ltI i (lenL a)) then
    getI a i >>= fun x1 =>
    laws_szNode x1 left1 >>= fun r1 =>
    if (ltI r1 0) then
      some (-1)
    else
      laws_szNodeS_l16 a r1 (addI i 1)
  else
    some left1
  partial_fixpoint
end
def laws_szOp (a : GOp) (left : Int) : Option (Int) :=
  laws_szSel a.Sel left >>= fun r =>
  if (ltI r 0) then
    some (-1)
  else
    if (ltI (subI r (lenS a.Pre)) 0) then
      some (-1)
    else
      if (ltI (subI (subI r (lenS a.Pre)) (lenS a.Local)) 0) then
        some (-1)
      else
        laws_szNodeS a.Kids (subI (subI r (lenS a.Pre)) (lenS a.Local)) >>= fun r1 =>
        if (ltI r1 0) then
          some (-1)
        else
          laws_szDeclS a.Decls r1 >>= fun r2 =>
          if (ltI r2 0) then
            some (-1)
          else
            some r2
def laws_szOpS_l16 (a : List GOp) (left1 : Int) (i : Int) : Option (Int) :=
  if (ltI i (lenL a)) then
    getI a i >>= fun x1 =>
    laws_szOp x1 left1 >>= fun r1 =>
    if (ltI r1 0) then
      some (-1)
    else
      laws_szOpS_l16 a r1 (addI i 1)
  else
    some left1
  partial_fixpoint
def laws_szOpS (a : List GOp) (left : Int) : Option (Int) :=
  if (ltI (subI left (lenL a)) 0) then
    some (-1)
  else
    laws_szOpS_l16 a (subI left (lenL a)) 0
def laws_toPred (a : GPred) : Option (GPred) :=
  some a
def laws_toPredS_l8 (a : List GPred) (out : List (GPred)) (i : Int) : Option (List GPred) :=
  if (ltI i (lenL a)) then
    getI a i >>= fun x2 =>
    laws_toPred x2 >>= fun r1 =>
    getI out i >>= fun x3 =>
    laws_toPredS_l8 a (out.set (Int.toNat i) r1) (addI i 1)
  else
    some out
  partial_fixpoint
def laws_toPredS (a : List GPred) : Option (List GPred) :=
  mkN (lenL a) 64 >>= fun m =>
  laws_toPredS_l8 a (List.replicate m (GPred.mk 0 0 ⟨#[]⟩ ⟨#[]⟩ ⟨#[]⟩)) 0
def laws_toStep (a : GStp) : Option (GStp) :=
  laws_toPredS a.Preds >>= fun r =>
  some (GStp.mk a.Deep a.Kind a.Pre a.Local r)
def laws_toStepS_l8 (a : List GStp) (out : List (GStp)) (i : Int) : Option (List GStp) :=
  if (ltI i (lenL a)) then
    getI a i >>= fun x2 =>
    laws_toStep x2 >>= fun r1 =>
    getI out i >>= fun x3 =>
    laws_toStepS_l8 a (out.set (Int.toNat i) r1) (addI i 1)
  else
    some out
  partial_fixpoint
def laws_toStepS (a : List GStp) : Option (List GStp) :=
  mkN (lenL a) 72 >>= fun m =>
  laws_toStepS_l8 a (List.replicate m (GStp.mk false 0 ⟨#[]⟩ ⟨#[]⟩ [])) 0
def laws_toSel (a : GSel) : Option (GSel) :=
  laws_toStepS a.Steps >>= fun r =>
  some (GSel.mk a.Id r)
def laws_toDecl (a : GDecl) : Option (GDecl) :=
  some a
def laws_toDeclS_l8 (a : List GDecl) (out : List (GDecl)) (i : Int) : Option (List GDecl) :=
  if (ltI i (lenL a)) then
    getI a i >>= fun x2 =>
    laws_toDecl x2 >>= fun r1 =>
    getI out i >>= fun x3 =>
    laws_toDeclS_l8 a (out.set (Int.toNat i) r1) (addI i 1)
  else
    some out
  partial_fixpoint
def laws_toDeclS (a : List GDecl) : Option (List GDecl) :=
  mkN (lenL a) 32 >>= fun m =>
  laws_toDeclS_l8 a (List.replicate m (GDecl.mk ⟨#[]⟩ ⟨#[]⟩)) 0
def laws_toAttr (a : GAttr) : Option (GAttr) :=
  some a
def laws_toAttrS_l8 (a : List GAttr) (out : List (GAttr)) (i : Int) : Option (List GAttr) :=
  if (ltI i (lenL a)) then
    getI a i >>= fun x2 =>
    laws_toAttr x2 >>= fun r1 =>
    getI out i >>= fun x3 =>
    laws_toAttrS_l8 a (out.set (Int.toNat i) r1) (addI i 1)
  else
    some out
  partial_fixpoint
def laws_toAttrS (a : List GAttr) : Option (List GAttr) :=
  mkN (lenL a) 64 >>= fun m =>
  laws_toAttrS_l8 a (List.replicate m (GAttr.mk ⟨#[]⟩ ⟨#[]⟩ ⟨#[]⟩ ⟨#[]⟩)) 0
mutual
def laws_toNode (a : GNode) : Option (GNode) :=
  laws_toDeclS a.Decls >>= fun r =>
  laws_toAttrS a.Attrs >>= fun r1 =>
  laws_toNodeS a.Kids >>= fun r2 =>
  some (GNode.mk a.Kind a.Pre a.Local a.Uri r r1 r2 a.Text)
  partial_fixpoint
def laws_toNodeS (a : List GNode) : Option (List GNode) :=
  mkN (lenL a) 144 >>= fun m =>
  laws_toNodeS_l8 a (List.replicate m (GNode.mk 0 ⟨#[]⟩ ⟨#[]⟩ ⟨#[]⟩ [] [] [] ⟨#[]⟩)) 0
  partial_fixpoint
def laws_toNodeS_l8 (a : List GNode) (out : List (GNode)) (i : Int) : Option (List GNode) :=
  if (ltI i (lenL a)) then
    getI a i >>= fun x2 =>
    laws_toNode x2 >>= fun r1 =>
    getI out i >>= fun x3 =>
    laws_toNodeS_l8 a (out.set (Int.toNat i) r1) (addI i 1)
  else
    some out
  partial_fixpoint
end
def laws_toOp (a : GOp) : Option (GOp) :=
  laws_toSel a.Sel >>= fun r =>
  laws_toNodeS a.Kids >>= fun r1 =>
  laws_toDeclS a.Decls >>= fun r2 =>
  some (GOp.mk a.Kind r a.Pos a.Typ a.Pre a.Local a.Ws r1 r2)
def laws_toOpS_l8 (a : List GOp) (out : List (GOp)) (i : Int) : Option (List GOp) :=
  if (ltI i (lenL a)) then
    getI a i >>= fun x2 =>
    laws_toOp x2 >>= fun r1 =>
    getI out i >>= fun x3 =>
    laws_toOpS_l8 a (out.set (Int.toNat i) r1) (addI i 1)
  else
    some out
  partial_fixpoint
def laws_toOpS (a : List GOp) : Option (List GOp) :=
  mkN (lenL a) 152 >>= fun m =>
  laws_toOpS_l8 a (List.replicate m (GOp.mk 0 (GSel.mk ⟨#[]⟩ []) 0 0 ⟨#[]⟩ ⟨#[]⟩ 0 [] [])) 0
mutual
def spec_CountOf (n : GNode) : Option (Int) :=
  spec_CountOf_l8 (addI 1 (lenL n.Attrs)) 0 n
  partial_fixpoint
def spec_CountOf_l8 (k : Int) (i : Int) (n : GNode) : Option (Int) :=
  if (ltI i (lenL n.Kids)) then
    getI n.Kids i >>= fun x1 =>
    spec_CountOf x1 >>= fun r1 =>
    spec_CountOf_l8 (addI k r1) (addI i 1) n
  else
    some k
  partial_fixpoint
end
mutual
def spec_Cost_l22 (l : List GOp) (n2 : Int) (i : Int) (k1 : Int) : Option (Int) :=
  getI l i >>= fun x9 =>
  if (ltI k1 (lenL x9.Kids)) then
    getI l i >>= fun x10 =>
    getI x10.Kids k1 >>= fun x11 =>
    spec_CountOf x11 >>= fun r3 =>
    spec_Cost_l22 l (addI n2 r3) i (addI k1 1)
  else
    spec_Cost_l8 l n2 (addI i 1)
  partial_fixpoint
def spec_Cost_l8 (l : List GOp) (n1 : Int) (i : Int) : Option (Int) :=
  if (ltI i (lenL l)) then
    spec_Cost_l22 l (addI n1 1) i 0
  else
    some n1
  partial_fixpoint
end
def spec_Cost (l : List GOp) : Option (Int) :=
  spec_Cost_l8 l 0 0
mutual
def impl_CountOf (n : GNode) : Option (Int) :=
  impl_CountOf_l8 (addI 1 (lenL n.Attrs)) n 0
  partial_fixpoint
def impl_CountOf_l8 (out : Int) (n : GNode) (x1 : Int) : Option (Int) :=
  if (ltI x1 (lenL n.Kids)) then
    getI n.Kids x1 >>= fun x2 =>
    impl_CountOf x2 >>= fun r1 =>
    impl_CountOf_l8 (addI out r1) n (addI x1 1)
  else
    some out
  partial_fixpoint
end
mutual
def impl_Cost_l22 (out2 : Int) (l : List GOp) (x4 : Int) (x5 : GOp) (x7 : Int) : Option (Int) :=
  if (ltI x7 (lenL x5.Kids)) then
    getI x5.Kids x7 >>= fun x8 =>
    impl_CountOf x8 >>= fun r3 =>
    impl_Cost_l22 (addI out2 r3) l x4 x5 (addI x7 1)
  else
    impl_Cost_l8 out2 l (addI x4 1)
  partial_fixpoint
def impl_Cost_l8 (out1 : Int) (l : List GOp) (x4 : Int) : Option (Int) :=
  if (ltI x4 (lenL l)) then
    getI l x4 >>= fun x5 =>
    impl_Cost_l22 out1 l x4 x5 0
  else
    some out1
  partial_fixpoint
end
def impl_Cost (l : List GOp) : Option (Int) :=
  impl_Cost_l8 (lenL l) l 0
def laws_eqPred (a : GPred) (b : GPred) : Option (Bool) :=
  if (neI a.Kind b.Kind) then
    some false
  else
    if (neI a.N b.N) then
      some false
    else
      if (neS a.Pre b.Pre) then
        some false
      else
        if (neS a.Local b.Local) then
          some false
        else
          if (neS a.Val b.Val) then
            some false
          else
            some true
def laws_eqPredS_l14 (a : List GPred) (b : List GPred) (i : Int) : Option (Bool) :=
  if (ltI i (lenL a)) then
    getI a i >>= fun x2 =>
    getI b i >>= fun x3 =>
    laws_eqPred x2 x3 >>= fun r1 =>
    if r1 then
      laws_eqPredS_l14 a b (addI i 1)
    else
      some false
  else
    some true
  partial_fixpoint
def laws_eqPredS (a : List GPred) (b : List GPred) : Option (Bool) :=
  if (neI (lenL a) (lenL b)) then
    some false
  else
    laws_eqPredS_l14 a b 0
def laws_eqStep (a : GStp) (b : GStp) : Option (Bool) :=
  if (neB a.Deep b.Deep) then
    some false
  else
    if (neI a.Kind b.Kind) then
      some false
    else
      if (neS a.Pre b.Pre) then
        some false
      else
        if (neS a.Local b.Local) then
          some false
        else
          laws_eqPredS a.Preds b.Preds >>= fun r =>
          if r then
            some true
          else
            some false
def laws_eqStepS_l14 (a : List GStp) (b : List GStp) (i : Int) : Option (Bool) :=
  if (ltI i (lenL a)) then
    getI a i >>= fun x2 =>
    getI b i >>= fun x3 =>
    laws_eqStep x2 x3 >>= fun r1 =>
    if r1 then
      laws_eqStepS_l14 a b (addI i 1)
    else
      some false
  else
    some true
  partial_fixpoint
def laws_eqStepS (a : List GStp) (b : List GStp) : Option (Bool) :=
  if (neI (lenL a) (lenL b)) then
    some false
  else
    laws_eqStepS_l14 a b 0
def laws_eqSel (a : GSel) (b : GSel) : Option (Bool) :=
  if (neS a.Id b.Id) then
    some false
  else
    laws_eqStepS a.Steps b.Steps >>= fun r =>
    if r then
      some true
    else
      some false
def laws_eqDecl (a : GDecl) (b : GDecl) : Option (Bool) :=
  if (neS a.Pre b.Pre) then
    some false
  else
    if (neS a.Uri b.Uri) then
      some false
    else
      some true
def laws_eqDeclS_l14 (a : List GDecl) (b : List GDecl) (i : Int) : Option (Bool) :=
  if (ltI i (lenL a)) then
    getI a i >>= fun x2 =>
    getI b i >>= fun x3 =>
    laws_eqDecl x2 x3 >>= fun r1 =>
    if r1 then
      laws_eqDeclS_l14 a b (addI i 1)
    else
      some false
  else
    some true
  partial_fixpoint
def laws_eqDeclS (a : List GDecl) (b : List GDecl) : Option (Bool) :=
  if (neI (lenL a) (lenL b)) then
    some false
  else
    laws_eqDeclS_l14 a b 0
def laws_eqAttr (a : GAttr) (b : GAttr) : Option (Bool) :=
  if (neS a.Pre b.Pre) then
    some false
  else
    if (neS a.Local b.Local) then
      some false
    else
      if (neS a.Uri b.Uri) then
        some false
      else
        if (neS a.Val b.Val) then
          some false
        else
          some true
def laws_eqAttrS_l14 (a : List GAttr) (b : List GAttr) (i : Int) : Option (Bool) :=
  if (ltI i (lenL a)) then
    getI a i >>= fun x2 =>
    getI b i >>= fun x3 =>
    laws_eqAttr x2 x3 >>= fun r1 =>
    if r1 then
      laws_eqAttrS_l14 a b (addI i 1)
    else
      some false
  else
    some true
  partial_fixpoint
def laws_eqAttrS (a : List GAttr) (b : List GAttr) : Option (Bool) :=
  if (neI (lenL a) (lenL b)) then
    some false
  else
    laws_eqAttrS_l14 a b 0
mutual
def laws_eqNode (a : GNode) (b : GNode) : Option (Bool) :=
  if (neI a.Kind b.Kind) then
    some false
  else
    if (neS a.Pre b.Pre) then
      some false
    else
      if (neS a.Local b.Local) then
        some false
      else
        if (neS a.Uri b.Uri) then
          some false
        else
          laws_eqDeclS a.Decls b.Decls >>= fun r =>
          if r then
            laws_eqAttrS a.Attrs b.Attrs >>= fun r1 =>
            if r1 then
              laws_eqNodeS a.Kids b.Kids >>= fun r2 =>
              if r2 then
                if (neS a.Text b.Text) then
                  some false
                else
                  some true
              else
                some false
            else
              some false
          else
            some false
  partial_fixpoint
def laws_eqNodeS (a : List GNode) (b : List GNode) : Option (Bool) :=
  if (neI (lenL a) (lenL b)) then
    some false
  else
    laws_eqNodeS_l14 a b 0
  partial_fixpoint
def laws_eqNodeS_l14 (a : List GNode) (b : List GNode) (i : Int) : Option (Bool) :=
  if (ltI i (lenL a)) then
    getI a i >>= fun x2 =>
    getI b i >>= fun x3 =>
    laws_eqNode x2 x3 >>= fun r1 =>
    if r1 then
      laws_eqNodeS_l14 a b (addI i 1)
    else
      some false
  else
    some true
  partial_fixpoint
end
def laws_eqOp (a : GOp) (b : GOp) : Option (Bool) :=
  if (neI a.Kind b.Kind) then
    some false
  else
    laws_eqSel a.Sel b.Sel >>= fun r =>
    if r then
      if (neI a.Pos b.Pos) then
        some false
      else
        if (neI a.Typ b.Typ) then
          some false
        else
          if (neS a.Pre b.Pre) then
            some false
          else
            if (neS a.Local b.Local) then
              some false
            else
              if (neI a.Ws b.Ws) then
                some false
              else
                laws_eqNodeS a.Kids b.Kids >>= fun r1 =>
                if r1 then
                  laws_eqDeclS a.Decls b.Decls >>= fun r2 =>
                  if r2 then
                    some true
                  else
                    some false
                else
                  some false
    else
      some false
def laws_eqOpS_l14 (a : List GOp) (b : List GOp) (i : Int) : Option (Bool) :=
  if (ltI i (lenL a)) then
    getI a i >>= fun x2 =>
    getI b i >>= fun x3 =>
    laws_eqOp x2 x3 >>= fun r1 =>
    if r1 then
      laws_eqOpS_l14 a b (addI i 1)
    else
      some false
  else
    some true
  partial_fixpoint
def laws_eqOpS (a : List GOp) (b : List GOp) : Option (Bool) :=
  if (neI (lenL a) (lenL b)) then
    some false
  else
    laws_eqOpS_l14 a b 0
def laws_FnExactCost (aL : List GOp) : Option (Bool) :=
  laws_szOpS aL 1048576 >>= fun r =>
  if (ltI r 0) then
    some true
  else
    laws_toOpS aL >>= fun r1 =>
    spec_Cost r1 >>= fun r2 =>
    laws_toOpS aL >>= fun r3 =>
    impl_Cost r3 >>= fun r4 =>
    if (neI r4 r2) then
      some false
    else
      laws_toOpS aL >>= fun r5 =>
      laws_eqOpS r3 r5 >>= fun r6 =>
      if r6 then
        some true
      else
        some false
end TT
