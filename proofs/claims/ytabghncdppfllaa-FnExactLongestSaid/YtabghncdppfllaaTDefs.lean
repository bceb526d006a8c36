import Derived.Test.YtabghncdppfllaaTTypes
set_option linter.unusedVariables false
set_option linter.unusedSimpArgs false
set_option linter.defProp false
set_option maxRecDepth 100000
namespace TT
open Go
def laws_szDecl (a : GDecl) (left : Int) : Option (Int) :=
  if (ltI (subI left (lenS a.Pre)) 0) then
    some (-1)
  else
    if (ltI (subI (subI left (lenS a.Pre)) (lenS a.Uri)) 0) then
      some (-1)
    else
      some (subI (subI left (lenS a.Pre)) (lenS a.Uri))
def laws_szDeclS_l16 (a : List GDecl) (left1 : Int) (i : Int) : Option (Int) :=
  if (ltI i (lenL a)) then
    getI a i >>= fun x1 =>
    laws_szDecl x1 left1 >>= fun r1 =>
    if (ltI r1 0) then
      some (-1)
    else
      laws_szDeclS_l16 a r1 (addI i 1)
  else
    some left1
  partial_fixpoint
def laws_szDeclS (a : List GDecl) (left : Int) : Option (Int) :=
  if (ltI (subI left (lenL a)) 0) then
    some (-1)
  else
    laws_szDeclS_l16 a (subI left (lenL a)) 0
def laws_szAttr (a : GAttr) (left : Int) : Option (Int) :=
  if (ltI (subI left (lenS a.Pre)) 0) then
    some (-1)
  else
    if (ltI (subI (subI left (lenS a.Pre)) (lenS a.Local)) 0) then
      some (-1)
    else
      if (ltI (subI (subI (subI left (lenS a.Pre)) (lenS a.Local)) (lenS a.Uri)) 0) then
        some (-1)
      else
        if (ltI (subI (subI (subI (subI left (lenS a.Pre)) (lenS a.Local)) (lenS a.Uri)) (lenS a.Val)) 0) then
          some (-1)
        else
          some (subI (subI (subI (subI left (lenS a.Pre)) (lenS a.Local)) (lenS a.Uri)) (lenS a.Val))
def laws_szAttrS_l16 (a : List GAttr) (left1 : Int) (i : Int) : Option (Int) :=
  if (ltI i (lenL a)) then
    getI a i >>= fun x1 =>
    laws_szAttr x1 left1 >>= fun r1 =>
    if (ltI r1 0) then
      some (-1)
    else
      laws_szAttrS_l16 a r1 (addI i 1)
  else
    some left1
  partial_fixpoint
def laws_szAttrS (a : List GAttr) (left : Int) : Option (Int) :=
  if (ltI (subI left (lenL a)) 0) then
    some (-1)
  else
    laws_szAttrS_l16 a (subI left (lenL a)) 0
mutual
def laws_szNode (a : GNode) (left : Int) : Option (Int) :=
  if (ltI (subI left (lenS a.Pre)) 0) then
    some (-1)
  else
    if (ltI (subI (subI left (lenS a.Pre)) (lenS a.Local)) 0) then
      some (-1)
    else
      if (ltI (subI (subI (subI left (lenS a.Pre)) (lenS a.Local)) (lenS a.Uri)) 0) then
        some (-1)
      else
        laws_szDeclS a.Decls (subI (subI (subI left (lenS a.Pre)) (lenS a.Local)) (lenS a.Uri)) >>= fun r =>
        if (ltI r 0) then
          some (-1)
        else
          laws_szAttrS a.Attrs r >>= fun r1 =>
          if (ltI r1 0) then
            some (-1)
          else
            laws_szNodeS a.Kids r1 >>= fun r2 =>
            if (ltI r2 0) then
              some (-1)
            else
              if (ltI (subI r2 (lenS a.Text)) 0) then
                some (-1)
              else
                some (subI r2 (lenS a.Text))
  partial_fixpoint
def laws_szNodeS (a : List GNode) (left : Int) : Option (Int) :=
  if (ltI (subI left (lenL a)) 0) then
    some (-1)
  else
    laws_szNodeS_l16 a (subI left (lenL a)) 0
  partial_fixpoint
def laws_szNodeS_l16 (a : List GNode) (left1 : Int) (i : Int) : Option (Int) :=
  if (ltI i (lenL a)) then
    getI a i >>= fun x1 =>
    laws_szNode x1 left1 >>= fun r1 =>
    if (ltI r1 0) then
      some (-1)
    else
      laws_szNodeS_l16 a r1 (addI i 1)
  else
    some left1
  partial_fixpoint
end
def laws_toDecl (a : GDecl) : Option (GDecl) :=
  some a
def laws_toDeclS_l8 (a : List GDecl) (out : List (GDecl)) (i : Int) : Option (List GDecl) :=
  if (ltI i (lenL a)) then
    getI a i >>= fun x2 =>
    laws_toDecl x2 >>= fun r1 =>
    getI out i >>= fun x3 =>
    laws_toDeclS_l8 a (out.set (Int.toNat i) r1) (addI i 1)
  else
    some out
  partial_fixpoint
def laws_toDeclS (a : List GDecl) : Option (List GDecl) :=
  mkN (lenL a) 32 >>= fun m =>
  laws_toDeclS_l8 a (List.replicate m (GDecl.mk ⟨#[]⟩ ⟨#[]⟩)) 0
def laws_toAttr (a : GAttr) : Option (GAttr) :=
  some a
def laws_toAttrS_l8 (a : List GAttr) (out : List (GAttr)) (i : Int) : Option (List GAttr) :=
  if (ltI i (lenL a)) then
    getI a i >>= fun x2 =>
    laws_toAttr x2 >>= fun r1 =>
    getI out i >>= fun x3 =>
    laws_toAttrS_l8 a (out.set (Int.toNat i) r1) (addI i 1)
  else
    some out
  partial_fixpoint
def laws_toAttrS (a : List GAttr) : Option (List GAttr) :=
  mkN (lenL a) 64 >>= fun m =>
  laws_toAttrS_l8 a (List.replicate m (GAttr.mk ⟨#[]⟩ ⟨#[]⟩ ⟨#[]⟩ ⟨#[]⟩)) 0
mutual
def laws_toNode (a : GNode) : Option (GNode) :=
  laws_toDeclS a.Decls >>= fun r =>
  laws_toAttrS a.Attrs >>= fun r1 =>
  laws_toNodeS a.Kids >>= fun r2 =>
  some (GNode.mk a.Kind a.Pre a.Local a.Uri r r1 r2 a.Text)
  partial_fixpoint
def laws_toNodeS (a : List GNode) : Option (List GNode) :=
  mkN (lenL a) 144 >>= fun m =>
  laws_toNodeS_l8 a (List.replicate m (GNode.mk 0 ⟨#[]⟩ ⟨#[]⟩ ⟨#[]⟩ [] [] [] ⟨#[]⟩)) 0
  partial_fixpoint
def laws_toNodeS_l8 (a : List GNode) (out : List (GNode)) (i : Int) : Option (List GNode) :=
  if (ltI i (lenL a)) then
    getI a i >>= fun x2 =>
    laws_toNode x2 >>= fun r1 =>
    getI out i >>= fun x3 =>
    laws_toNodeS_l8 a (out.set (Int.toNat i) r1) (addI i 1)
  else
    some out
  partial_fixpoint
end
mutual
def spec_SameNode (a : GNode) (b : GNode) : Option (Bool) :=
  if (neI a.Kind b.Kind) then
    some false
  else
    if (neS a.Pre b.Pre) then
      some false
    else
      if (neS a.Local b.Local) then
        some false
      else
        if (neS a.Uri b.Uri) then
          some false
        else
          if (neS a.Text b.Text) then
            some false
          else
            if (neI (lenL a.Decls) (lenL b.Decls)) then
              some false
            else
              if (neI (lenL a.Attrs) (lenL b.Attrs)) then
                some false
              else
                if (neI (lenL a.Kids) (lenL b.Kids)) then
                  some false
                else
                  spec_SameNode_l14 0 a b
  partial_fixpoint
def spec_SameNode_l56 (i6 : Int) (a : GNode) (b : GNode) : Option (Bool) :=
  if (ltI i6 (lenL a.Kids)) then
    getI a.Kids i6 >>= fun x26 =>
    getI b.Kids i6 >>= fun x27 =>
    spec_SameNode x26 x27 >>= fun r7 =>
    if r7 then
      spec_SameNode_l56 (addI i6 1) a b
    else
      some false
  else
    some true
  partial_fixpoint
def spec_SameNode_l35 (i5 : Int) (a : GNode) (b : GNode) : Option (Bool) :=
  if (ltI i5 (lenL a.Attrs)) then
    getI a.Attrs i5 >>= fun x22 =>
    getI b.Attrs i5 >>= fun x23 =>
    if (eqS x22.Pre x23.Pre && (eqS x22.Local x23.Local && (eqS x22.Uri x23.Uri && eqS x22.Val x23.Val))) then
      spec_SameNode_l35 (addI i5 1) a b
    else
      some false
  else
    spec_SameNode_l56 0 a b
  partial_fixpoint
def spec_SameNode_l14 (i3 : Int) (a : GNode) (b : GNode) : Option (Bool) :=
  if (ltI i3 (lenL a.Decls)) then
    getI a.Decls i3 >>= fun x14 =>
    getI b.Decls i3 >>= fun x15 =>
    if (eqS x14.Pre x15.Pre && eqS x14.Uri x15.Uri) then
      spec_SameNode_l14 (addI i3 1) a b
    else
      some false
  else
    spec_SameNode_l35 0 a b
  partial_fixpoint
end
mutual
def spec_l17Table_j63 (a : List GNode) (b : List GNode) (t6 : List (List Int)) (i2 : Int) (k5 : Int) (n7 : Int) : Option (List (List Int)) :=
  getI a i2 >>= fun x104 =>
  getI b k5 >>= fun x105 =>
  spec_SameNode x104 x105 >>= fun r7 =>
  if r7 then
    getI t6 (addI i2 1) >>= fun x106 =>
    getI x106 (addI k5 1) >>= fun x107 =>
    getI t6 i2 >>= fun x108 =>
    getI x108 k5 >>= fun x109 =>
    spec_l17Table_l52 a b (t6.set (Int.toNat i2) (x108.set (Int.toNat k5) (addI x107 1))) i2 (subI k5 1)
  else
    getI t6 i2 >>= fun x110 =>
    getI x110 k5 >>= fun x111 =>
    spec_l17Table_l52 a b (t6.set (Int.toNat i2) (x110.set (Int.toNat k5) n7)) i2 (subI k5 1)
  partial_fixpoint
def spec_l17Table_l52 (a : List GNode) (b : List GNode) (t6 : List (List Int)) (i2 : Int) (k5 : Int) : Option (List (List Int)) :=
  if (geI k5 0) then
    getI t6 (addI i2 1) >>= fun x98 =>
    getI x98 k5 >>= fun x99 =>
    getI t6 i2 >>= fun x100 =>
    getI x100 (addI k5 1) >>= fun x101 =>
    if (gtI x101 x99) then
      getI t6 i2 >>= fun x102 =>
      getI x102 (addI k5 1) >>= fun x103 =>
      spec_l17Table_j63 a b t6 i2 k5 x103
    else
      spec_l17Table_j63 a b t6 i2 k5 x99
  else
    spec_l17Table_l40 a b t6 (subI i2 1)
  partial_fixpoint
def spec_l17Table_l40 (a : List GNode) (b : List GNode) (t5 : List (List Int)) (i2 : Int) : Option (List (List Int)) :=
  if (geI i2 0) then
    spec_l17Table_l52 a b t5 i2 (subI (lenL b) 1)
  else
    some t5
  partial_fixpoint
end
mutual
def spec_l17Table_l23 (a : List GNode) (b : List GNode) (t3 : List (List Int)) (i1 : Int) (row1 : List (Int)) (k3 : Int) : Option (List (List Int)) :=
  if (leI k3 (lenL b)) then
    room (row1.length + 1) 8 >>= fun x_6 =>
    spec_l17Table_l23 a b t3 i1 (row1 ++ [0]) (addI k3 1)
  else
    room (t3.length + 1) 24 >>= fun x_7 =>
    spec_l17Table_l8 a b (t3 ++ [row1]) (addI i1 1)
  partial_fixpoint
def spec_l17Table_l8 (a : List GNode) (b : List GNode) (t3 : List (List Int)) (i1 : Int) : Option (List (List Int)) :=
  if (leI i1 (lenL a)) then
    spec_l17Table_l23 a b t3 i1 [] 0
  else
    spec_l17Table_l40 a b t3 (subI (lenL a) 1)
  partial_fixpoint
end
def spec_l17Table (a : List GNode) (b : List GNode) : Option (List (List Int)) :=
  spec_l17Table_l8 a b [] 0
def spec_Longest (a : List GNode) (b : List GNode) : Option (Int) :=
  spec_l17Table a b >>= fun r =>
  getI r 0 >>= fun x =>
  getI x 0 >>= fun x1 =>
  some x1
def slices_Equal_Decl_l14 (s1 : List GDecl) (s2 : List GDecl) (x2 : Int) : Option (Bool) :=
  if (ltI x2 (lenL s1)) then
    getI s1 x2 >>= fun x3 =>
    getI s2 x2 >>= fun x4 =>
    if (eqS x3.Pre x4.Pre && eqS x3.Uri x4.Uri) then
      slices_Equal_Decl_l14 s1 s2 (addI x2 1)
    else
      some false
  else
    some true
  partial_fixpoint
def slices_Equal_Decl (s1 : List GDecl) (s2 : List GDecl) : Option (Bool) :=
  if (neI (lenL s1) (lenL s2)) then
    some false
  else
    slices_Equal_Decl_l14 s1 s2 0
def slices_Equal_Attr_l14 (s1 : List GAttr) (s2 : List GAttr) (x2 : Int) : Option (Bool) :=
  if (ltI x2 (lenL s1)) then
    getI s1 x2 >>= fun x3 =>
    getI s2 x2 >>= fun x4 =>
    if (eqS x3.Pre x4.Pre && (eqS x3.Local x4.Local && (eqS x3.Uri x4.Uri && eqS x3.Val x4.Val))) then
      slices_Equal_Attr_l14 s1 s2 (addI x2 1)
    else
      some false
  else
    some true
  partial_fixpoint
def slices_Equal_Attr (s1 : List GAttr) (s2 : List GAttr) : Option (Bool) :=
  if (neI (lenL s1) (lenL s2)) then
    some false
  else
    slices_Equal_Attr_l14 s1 s2 0
def impl_sameAlone (a : GNode) (b : GNode) : Option (Bool) :=
  if (eqI a.Kind b.Kind) then
    if (eqS a.Pre b.Pre) then
      if (eqS a.Local b.Local) then
        if (eqS a.Uri b.Uri) then
          if (eqS a.Text b.Text) then
            slices_Equal_Decl a.Decls b.Decls >>= fun r =>
            if r then
              slices_Equal_Attr a.Attrs b.Attrs >>= fun r1 =>
              some r1
            else
              some false
          else
            some false
        else
          some false
      else
        some false
    else
      some false
  else
    some false
mutual
def impl_SameNode (a : GNode) (b : GNode) : Option (Bool) :=
  impl_sameAlone a b >>= fun r =>
  if r then
    slices_EqualFunc_Node_SameNode a.Kids b.Kids >>= fun r1 =>
    some r1
  else
    some false
  partial_fixpoint
def slices_EqualFunc_Node_SameNode (s1 : List GNode) (s2 : List GNode) : Option (Bool) :=
  if (neI (lenL s1) (lenL s2)) then
    some false
  else
    slices_EqualFunc_Node_SameNode_l14 s2 s1 0
  partial_fixpoint
def slices_EqualFunc_Node_SameNode_l14 (s2 : List GNode) (s1 : List GNode) (x2 : Int) : Option (Bool) :=
  if (ltI x2 (lenL s1)) then
    getI s1 x2 >>= fun x3 =>
    getI s2 x2 >>= fun x4 =>
    impl_SameNode x3 x4 >>= fun r1 =>
    if r1 then
      slices_EqualFunc_Node_SameNode_l14 s2 s1 (addI x2 1)
    else
      some false
  else
    some true
  partial_fixpoint
end
mutual
def impl_longest_l37 (a : List GNode) (b : List GNode) (out6 : List (List Int)) (i1 : Int) (k3 : Int) : Option (List (List Int)) :=
  if (geI k3 0) then
    getI out6 i1 >>= fun x101 =>
    getI out6 (addI i1 1) >>= fun x102 =>
    getI x102 k3 >>= fun x103 =>
    getI out6 i1 >>= fun x104 =>
    getI x104 (addI k3 1) >>= fun x105 =>
    getI x101 k3 >>= fun x106 =>
    getI a i1 >>= fun x107 =>
    getI b k3 >>= fun x108 =>
    impl_SameNode x107 x108 >>= fun r7 =>
    if r7 then
      getI (out6.set (Int.toNat i1) (x101.set (Int.toNat k3) (maxI x103 x105))) i1 >>= fun x109 =>
      getI (out6.set (Int.toNat i1) (x101.set (Int.toNat k3) (maxI x103 x105))) i1 >>= fun x110 =>
      getI x110 k3 >>= fun x111 =>
      getI (out6.set (Int.toNat i1) (x101.set (Int.toNat k3) (maxI x103 x105))) (addI i1 1) >>= fun x112 =>
      getI x112 (addI k3 1) >>= fun x113 =>
      getI x109 k3 >>= fun x114 =>
      impl_longest_l37 a b ((out6.set (Int.toNat i1) (x101.set (Int.toNat k3) (maxI x103 x105))).set (Int.toNat i1) (x109.set (Int.toNat k3) (maxI x111 (addI 1 x113)))) i1 (subI k3 1)
    else
      impl_longest_l37 a b (out6.set (Int.toNat i1) (x101.set (Int.toNat k3) (maxI x103 x105))) i1 (subI k3 1)
  else
    impl_longest_l25 a b out6 (subI i1 1)
  partial_fixpoint
def impl_longest_l25 (a : List GNode) (b : List GNode) (out5 : List (List Int)) (i1 : Int) : Option (List (List Int)) :=
  if (geI i1 0) then
    impl_longest_l37 a b out5 i1 (subI (lenL b) 1)
  else
    some out5
  partial_fixpoint
end
def impl_longest_l8 (a : List GNode) (b : List GNode) (out3 : List (List Int)) (m : Nat) (x57 : Int) : Option (List (List Int)) :=
  if (ltI x57 ((m : Nat) : Int)) then
    mkN (addI (lenL b) 1) 8 >>= fun m2 =>
    getI out3 x57 >>= fun x58 =>
    impl_longest_l8 a b (out3.set (Int.toNat x57) (List.replicate m2 0)) m (addI x57 1)
  else
    impl_longest_l25 a b out3 (subI (lenL a) 1)
  partial_fixpoint
def impl_longest (a : List GNode) (b : List GNode) : Option (List (List Int)) :=
  mkN (addI (lenL a) 1) 24 >>= fun m =>
  impl_longest_l8 a b (List.replicate m []) m 0
def impl_Longest (a : List GNode) (b : List GNode) : Option (Int) :=
  impl_longest a b >>= fun r =>
  getI r 0 >>= fun x =>
  getI x 0 >>= fun x1 =>
  some x1
def laws_eqDecl (a : GDecl) (b : GDecl) : Option (Bool) :=
  if (neS a.Pre b.Pre) then
    some false
  else
    if (neS a.Uri b.Uri) then
      some false
    else
      some true
def laws_eqDeclS_l14 (a : List GDecl) (b : List GDecl) (i : Int) : Option (Bool) :=
  if (ltI i (lenL a)) then
    getI a i >>= fun x2 =>
    getI b i >>= fun x3 =>
    laws_eqDecl x2 x3 >>= fun r1 =>
    if r1 then
      laws_eqDeclS_l14 a b (addI i 1)
    else
      some false
  else
    some true
  partial_fixpoint
def laws_eqDeclS (a : List GDecl) (b : List GDecl) : Option (Bool) :=
  if (neI (lenL a) (lenL b)) then
    some false
  else
    laws_eqDeclS_l14 a b 0
def laws_eqAttr (a : GAttr) (b : GAttr) : Option (Bool) :=
  if (neS a.Pre b.Pre) then
    some false
  else
    if (neS a.Local b.Local) then
      some false
    else
      if (neS a.Uri b.Uri) then
        some false
      else
        if (neS a.Val b.Val) then
          some false
        else
          some true
def laws_eqAttrS_l14 (a : List GAttr) (b : List GAttr) (i : Int) : Option (Bool) :=
  if (ltI i (lenL a)) then
    getI a i >>= fun x2 =>
    getI b i >>= fun x3 =>
    laws_eqAttr x2 x3 >>= fun r1 =>
    if r1 then
      laws_eqAttrS_l14 a b (addI i 1)
    else
      some false
  else
    some true
  partial_fixpoint
def laws_eqAttrS (a : List GAttr) (b : List GAttr) : Option (Bool) :=
  if (neI (lenL a) (lenL b)) then
    some false
  else
    laws_eqAttrS_l14 a b 0
mutual
def laws_eqNode (a : GNode) (b : GNode) : Option (Bool) :=
  if (neI a.Kind b.Kind) then
    some false
  else
    if (neS a.Pre b.Pre) then
      some false
    else
      if (neS a.Local b.Local) then
        some false
      else
        if (neS a.Uri b.Uri) then
          some false
        else
          laws_eqDeclS a.Decls b.Decls >>= fun r =>
          if r then
            laws_eqAttrS a.Attrs b.Attrs >>= fun r1 =>
            if r1 then
              laws_eqNodeS a.Kids b.Kids >>= fun r2 =>
              if r2 then
                if (neS a.Text b.Text) then
                  some false
                else
                  some true
              else
                some false
            else
              some false
          else
            some false
  partial_fixpoint
def laws_eqNodeS (a : List GNode) (b : List GNode) : Option (Bool) :=
  if (neI (lenL a) (lenL b)) then
    some false
  else
    laws_eqNodeS_l14 a b 0
  partial_fixpoint
def laws_eqNodeS_l14 (a : List GNode) (b : List GNode) (i : Int) : Option (Bool) :=
  if (ltI i (lenL a)) then
    getI a i >>= fun x2 =>
    getI b i >>= fun x3 =>
    laws_eqNode x2 x3 >>= fun r1 =>
    if r1 then
      laws_eqNodeS_l14 a b (addI i 1)
    else
      some false
  else
    some true
  partial_fixpoint
end
def laws_FnExactLongest (aA : List GNode) (aB : List GNode) : Option (Bool) :=
  laws_szNodeS aA 1048576 >>= fun r =>
  if (ltI r 0) then
    some true
  else
    laws_szNodeS aB r >>= fun r1 =>
    if (ltI r1 0) then
      some true
    else
      laws_toNodeS aA >>= fun r2 =>
      laws_toNodeS aB >>= fun r3 =>
      spec_Longest r2 r3 >>= fun r4 =>
      laws_toNodeS aA >>= fun r5 =>
      laws_toNodeS aB >>= fun r6 =>
      impl_Longest r5 r6 >>= fun r7 =>
      if (neI r7 r4) then
        some false
      else
        laws_toNodeS aA >>= fun r8 =>
        laws_eqNodeS r5 r8 >>= fun r9 =>
        if r9 then
          laws_toNodeS aB >>= fun r10 =>
          laws_eqNodeS r6 r10 >>= fun r11 =>
          if r11 then
            some true
          else
            some false
        else
          some false
end TT
