import Derived.Test.YtabghncdppfllaaTTypes
set_option linter.unusedVariables false
set_option linter.unusedSimpArgs false
set_option linter.defProp false
set_option maxRecDepth 100000
namespace TT
open Go
def laws_szDecl (a : GDecl) (left : Int) : Option (Int) :=
  if (ltI (subI left (lenS a.Pre)) 0) then
    some (-1)
  else
    if (ltI (subI (subI left (lenS a.Pre)) (lenS a.Uri)) 0) then
      some (-1)
    else
      some (subI (subI left (lenS a.Pre)) (lenS a.Uri))
def laws_szDeclS_l16 (a : List GDecl) (left1 : Int) (i : Int) : Option (Int) :=
  if (ltI i (lenL a)) then
    getI a i >>= fun x1 =>
    laws_szDecl x1 left1 >>= fun r1 =>
    if (ltI r1 0) then
      some (-1)
    else
      laws_szDeclS_l16 a r1 (addI i 1)
  else
    some left1
  partial_fixpoint
def laws_szDeclS (a : List GDecl) (left : Int) : Option (Int) :=
  if (ltI (subI left (lenL a)) 0) then
    some (-1)
  else
    laws_szDeclS_l16 a (subI left (lenL a)) 0
def laws_szAttr (a : GAttr) (left : Int) : Option (Int) :=
  if (ltI (subI left (lenS a.Pre)) 0) then
    some (-1)
  else
    if (ltI (subI (subI left (lenS a.Pre)) (lenS a.Local)) 0) then
      some (-1)
    else
      if (ltI (subI (subI (subI left (lenS a.Pre)) (lenS a.Local)) (lenS a.Uri)) 0) then
        some (-1)
      else
        if (ltI (subI (subI (subI (subI left (lenS a.Pre)) (lenS a.Local)) (lenS a.Uri)) (lenS a.Val)) 0) then
          some (-1)
        else
          some (subI (subI (subI (subI left (lenS a.Pre)) (lenS a.Local)) (lenS a.Uri)) (lenS a.Val))
def laws_szAttrS_l16 (a : List GAttr) (left1 : Int) (i : Int) : Option (Int) :=
  if (ltI i (lenL a)) then
    getI a i >>= fun x1 =>
    laws_szAttr x1 left1 >>= fun r1 =>
    if (ltI r1 0) then
      some (-1)
    else
      laws_szAttrS_l16 a r1 (addI i 1)
  else
    some left1
  partial_fixpoint
def laws_szAttrS (a : List GAttr) (left : Int) : Option (Int) :=
  if (ltI (subI left (lenL a)) 0) then
    some (-1)
  else
    laws_szAttrS_l16 a (subI left (lenL a)) 0
mutual
def laws_szNode (a : GNode) (left : Int) : Option (Int) :=
  if (ltI (subI left (lenS a.Pre)) 0) then
    some (-1)
  else
    if (ltI (subI (subI left (lenS a.Pre)) (lenS a.Local)) 0) then
      some (-1)
    else
      if (ltI (subI (subI (subI left (lenS a.Pre)) (lenS a.Local)) (lenS a.Uri)) 0) then
        some (-1)
      else
        laws_szDeclS a.Decls (subI (subI (subI left (lenS a.Pre)) (lenS a.Local)) (lenS a.Uri)) >>= fun r =>
        if (ltI r 0) then
          some (-1)
        else
          laws_szAttrS a.Attrs r >>= fun r1 =>
          if (ltI r1 0) then
            some (-1)
          else
            laws_szNodeS a.Kids r1 >>= fun r2 =>
            if (ltI r2 0) then
              some (-1)
            else
              if (ltI (subI r2 (lenS a.Text)) 0) then
                some (-1)
              else
                some (subI r2 (lenS a.Text))
  partial_fixpoint
def laws_szNodeS (a : List GNode) (left : Int) : Option (Int) :=
  if (ltI (subI left (lenL a)) 0) then
    some (-1)
  else
    laws_szNodeS_l16 a (subI left (lenL a)) 0
  partial_fixpoint
def laws_szNodeS_l16 (a : List GNode) (left1 : Int) (i : Int) : Option (Int) :=
  if (ltI i (lenL a)) then
    getI a i >>= fun x1 =>
    laws_szNode x1 left1 >>= fun r1 =>
    if (ltI r1 0) then
      some (-1)
    else
      laws_szNodeS_l16 a r1 (addI i 1)
  else
    some left1
  partial_fixpoint
end
def laws_toDecl (a : GDecl) : Option (GDecl) :=
  some a
def laws_toDeclS_l8 (a : List GDecl) (out : List (GDecl)) (i : Int) : Option (List GDecl) :=
  if (ltI i (lenL a)) then
    getI a i >>= fun x2 =>
    laws_toDecl x2 >>= fun r1 =>
    getI out i >>= fun x3 =>
    laws_toDeclS_l8 a (out.set (Int.toNat i) r1) (addI i 1)
  else
    some out
  partial_fixpoint
def laws_toDeclS (a : List GDecl) : Option (List GDecl) :=
  mkN (lenL a) 32 >>= fun m =>
  laws_toDeclS_l8 a (List.replicate m (GDecl.mk ⟨#[]⟩ ⟨#[]⟩)) 0
def laws_toAttr (a : GAttr) : Option (GAttr) :=
  some a
def laws_toAttrS_l8 (a : List GAttr) (out : List (GAttr)) (i : Int) : Option (List GAttr) :=
  if (ltI i (lenL a)) then
    getI a i >>= fun x2 =>
    laws_toAttr x2 >>= fun r1 =>
    getI out i >>= fun x3 =>
    laws_toAttrS_l8 a (out.set (Int.toNat i) r1) (addI i 1)
  else
    some out
  partial_fixpoint
def laws_toAttrS (a : List GAttr) : Option (List GAttr) :=
  mkN (lenL a) 64 >>= fun m =>
  laws_toAttrS_l8 a (List.replicate m (GAttr.mk ⟨#[]⟩ ⟨#[]⟩ ⟨#[]⟩ ⟨#[]⟩)) 0
mutual
def laws_toNode (a : GNode) : Option (GNode) :=
  laws_toDeclS a.Decls >>= fun r =>
  laws_toAttrS a.Attrs >>= fun r1 =>
  laws_toNodeS a.Kids >>= fun r2 =>
  some (GNode.mk a.Kind a.Pre a.Local a.Uri r r1 r2 a.Text)
  partial_fixpoint
def laws_toNodeS (a : List GNode) : Option (List GNode) :=
  mkN (lenL a) 144 >>= fun m =>
  laws_toNodeS_l8 a (List.replicate m (GNode.mk 0 ⟨#[]⟩ ⟨#[]⟩ ⟨#[]⟩ [] [] [] ⟨#[]⟩)) 0
  partial_fixpoint
def laws_toNodeS_l8 (a : List GNode) (out : List (GNode)) (i : Int) : Option (List GNode) :=
  if (ltI i (lenL a)) then
    getI a i >>= fun x2 =>
    laws_toNode x2 >>= fun r1 =>
    getI out i >>= fun x3 =>
    laws_toNodeS_l8 a (out.set (Int.toNat i) r1) (addI i 1)
  else
    some out
  partial_fixpoint
end
mutual
def spec_CountOf (n : GNode) : Option (Int) :=
  spec_CountOf_l8 (addI 1 (lenL n.Attrs)) 0 n
  partial_fixpoint
def spec_CountOf_l8 (k : Int) (i : Int) (n : GNode) : Option (Int) :=
  if (ltI i (lenL n.Kids)) then
    getI n.Kids i >>= fun x1 =>
    spec_CountOf x1 >>= fun r1 =>
    spec_CountOf_l8 (addI k r1) (addI i 1) n
  else
    some k
  partial_fixpoint
end
def spec_Least (a : GNode) (b : GNode) : Option (Int) :=
  spec_CountOf a >>= fun r =>
  spec_CountOf b >>= fun r1 =>
  some (addI (addI 1 r) r1)
mutual
def impl_CountOf (n : GNode) : Option (Int) :=
  impl_CountOf_l8 (addI 1 (lenL n.Attrs)) n 0
  partial_fixpoint
def impl_CountOf_l8 (out : Int) (n : GNode) (x1 : Int) : Option (Int) :=
  if (ltI x1 (lenL n.Kids)) then
    getI n.Kids x1 >>= fun x2 =>
    impl_CountOf x2 >>= fun r1 =>
    impl_CountOf_l8 (addI out r1) n (addI x1 1)
  else
    some out
  partial_fixpoint
end
def impl_Least (a : GNode) (b : GNode) : Option (Int) :=
  impl_CountOf a >>= fun r =>
  impl_CountOf b >>= fun r1 =>
  some (addI (addI 1 r) r1)
def laws_eqDecl (a : GDecl) (b : GDecl) : Option (Bool) :=
  if (neS a.Pre b.Pre) then
    some false
  else
    if (neS a.Uri b.Uri) then
      some false
    else
      some true
def laws_eqDeclS_l14 (a : List GDecl) (b : List GDecl) (i : Int) : Option (Bool) :=
  if (ltI i (lenL a)) then
    getI a i >>= fun x2 =>
    getI b i >>= fun x3 =>
    laws_eqDecl x2 x3 >>= fun r1 =>
    if r1 then
      laws_eqDeclS_l14 a b (addI i 1)
    else
      some false
  else
    some true
  partial_fixpoint
def laws_eqDeclS (a : List GDecl) (b : List GDecl) : Option (Bool) :=
  if (neI (lenL a) (lenL b)) then
    some false
  else
    laws_eqDeclS_l14 a b 0
def laws_eqAttr (a : GAttr) (b : GAttr) : Option (Bool) :=
  if (neS a.Pre b.Pre) then
    some false
  else
    if (neS a.Local b.Local) then
      some false
    else
      if (neS a.Uri b.Uri) then
        some false
      else
        if (neS a.Val b.Val) then
          some false
        else
          some true
def laws_eqAttrS_l14 (a : List GAttr) (b : List GAttr) (i : Int) : Option (Bool) :=
  if (ltI i (lenL a)) then
    getI a i >>= fun x2 =>
    getI b i >>= fun x3 =>
    laws_eqAttr x2 x3 >>= fun r1 =>
    if r1 then
      laws_eqAttrS_l14 a b (addI i 1)
    else
      some false
  else
    some true
  partial_fixpoint
def laws_eqAttrS (a : List GAttr) (b : List GAttr) : Option (Bool) :=
  if (neI (lenL a) (lenL b)) then
    some false
  else
    laws_eqAttrS_l14 a b 0
mutual
def laws_eqNode (a : GNode) (b : GNode) : Option (Bool) :=
  if (neI a.Kind b.Kind) then
    some false
  else
    if (neS a.Pre b.Pre) then
      some false
    else
      if (neS a.Local b.Local) then
        some false
      else
        if (neS a.Uri b.Uri) then
          some false
        else
          laws_eqDeclS a.Decls b.Decls >>= fun r =>
          if r then
            laws_eqAttrS a.Attrs b.Attrs >>= fun r1 =>
            if r1 then
              laws_eqNodeS a.Kids b.Kids >>= fun r2 =>
              if r2 then
                if (neS a.Text b.Text) then
                  some false
                else
                  some true
              else
                some false
            else
              some false
          else
            some false
  partial_fixpoint
def laws_eqNodeS (a : List GNode) (b : List GNode) : Option (Bool) :=
  if (neI (lenL a) (lenL b)) then
    some false
  else
    laws_eqNodeS_l14 a b 0
  partial_fixpoint
def laws_eqNodeS_l14 (a : List GNode) (b : List GNode) (i : Int) : Option (Bool) :=
  if (ltI i (lenL a)) then
    getI a i >>= fun x2 =>
    getI b i >>= fun x3 =>
    laws_eqNode x2 x3 >>= fun r1 =>
    if r1 then
      laws_eqNodeS_l14 a b (addI i 1)
    else
      some false
  else
    some true
  partial_fixpoint
end
def laws_FnExactLeast (aA : GNode) (aB : GNode) : Option (Bool) :=
  laws_szNode aA 1048576 >>= fun r =>
  if (ltI r 0) then
    some true
  else
    laws_szNode aB r >>= fun r1 =>
    if (ltI r1 0) then
      some true
    else
      laws_toNode aA >>= fun r2 =>
      laws_toNode aB >>= fun r3 =>
      spec_Least r2 r3 >>= fun r4 =>
      laws_toNode aA >>= fun r5 =>
      laws_toNode aB >>= fun r6 =>
      impl_Least r5 r6 >>= fun r7 =>
      if (neI r7 r4) then
        some false
      else
        laws_toNode aA >>= fun r8 =>
        laws_eqNode r5 r8 >>= fun r9 =>
        if r9 then
          laws_toNode aB >>= fun r10 =>
          laws_eqNode r6 r10 >>= fun r11 =>
          if r11 then
            some true
          else
            some false
        else
          some false
end TT
