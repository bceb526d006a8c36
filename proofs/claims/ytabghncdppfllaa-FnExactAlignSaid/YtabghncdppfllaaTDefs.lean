import Derived.Test.YtabghncdppfllaaTTypes
set_option linter.unusedVariables false
set_option linter.unusedSimpArgs false
set_option linter.defProp false
set_option maxRecDepth 100000
namespace TT
open Go
def laws_szDecl (a : GDecl) (left : Int) : Option (Int) :=
  if (ltI (subI left (lenS a.Pre)) 0) then
    some (-1)
  else
    if (ltI (subI (subI left (lenS a.Pre)) (lenS a.Uri)) 0) then
      some (-1)
    else
      some (subI (subI left (lenS a.Pre)) (lenS a.Uri))
def laws_szDeclS_l16 (a : List GDecl) (left1 : Int) (i : Int) : Option (Int) :=
  if (ltI i (lenL a)) then
    getI a i >>= fun x1 =>
    laws_szDecl x1 left1 >>= fun r1 =>
    if (ltI r1 0) then
      some (-1)
    else
      laws_szDeclS_l16 a r1 (addI i 1)
  else
    some left1
  partial_fixpoint
def laws_szDeclS (a : List GDecl) (left : Int) : Option (Int) :=
  if (ltI (subI left (lenL a)) 0) then
    some (-1)
  else
    laws_szDeclS_l16 a (subI left (lenL a)) 0
def laws_szAttr (a : GAttr) (left : Int) : Option (Int) :=
  if (ltI (subI left (lenS a.Pre)) 0) then
    some (-1)
  else
    if (ltI (subI (subI left (lenS a.Pre)) (lenS a.Local)) 0) then
      some (-1)
    else
      if (ltI (subI (subI (subI left (lenS a.Pre)) (lenS a.Local)) (lenS a.Uri)) 0) then
        some (-1)
      else
        if (ltI (subI (subI (subI (subI left (lenS a.Pre)) (lenS a.Local)) (lenS a.Uri)) (lenS a.Val)) 0) then
          some (-1)
        else
          some (subI (subI (subI (subI left (lenS a.Pre)) (lenS a.Local)) (lenS a.Uri)) (lenS a.Val))
def laws_szAttrS_l16 (a : List GAttr) (left1 : Int) (i : Int) : Option (Int) :=
  if (ltI i (lenL a)) then
    getI a i >>= fun x1 =>
    laws_szAttr x1 left1 >>= fun r1 =>
    if (ltI r1 0) then
      some (-1)
    else
      laws_szAttrS_l16 a r1 (addI i 1)
  else
    some left1
  partial_fixpoint
def laws_szAttrS (a : List GAttr) (left : Int) : Option (Int) :=
  if (ltI (subI left (lenL a)) 0) then
    some (-1)
  else
    laws_szAttrS_l16 a (subI left (lenL a)) 0
mutual
def laws_szNode (a : GNode) (left : Int) : Option (Int) :=
  if (ltI (subI left (lenS a.Pre)) 0) then
    some (-1)
  else
    if (ltI (subI (subI left (lenS a.Pre)) (lenS a.Local)) 0) then
      some (-1)
    else
      if (ltI (subI (subI (subI left (lenS a.Pre)) (lenS a.Local)) (lenS a.Uri)) 0) then
        some (-1)
      else
        laws_szDeclS a.Decls (subI (subI (subI left (lenS a.Pre)) (lenS a.Local)) (lenS a.Uri)) >>= fun r =>
        if (ltI r 0) then
          some (-1)
        else
          laws_szAttrS a.Attrs r >>= fun r1 =>
          if (ltI r1 0) then
            some (-1)
          else
            laws_szNodeS a.Kids r1 >>= fun r2 =>
            if (ltI r2 0) then
              some (-1)
            else
              if (ltI (subI r2 (lenS a.Text)) 0) then
                some (-1)
              else
                some (subI r2 (lenS a.Text))
  partial_fixpoint
def laws_szNodeS (a : List GNode) (left : Int) : Option (Int) :=
  if (ltI (subI left (lenL a)) 0) then
    some (-1)
  else
    laws_szNodeS_l16 a (subI left (lenL a)) 0
  partial_fixpoint
def laws_szNodeS_l16 (a : List GNode) (left1 : Int) (i : Int) : Option (Int) :=
  if (ltI i (lenL a)) then
    getI a i >>= fun x1 =>
    laws_szNode x1 left1 >>= fun r1 =>
    if (ltI r1 0) then
      some (-1)
    else
      laws_szNodeS_l16 a r1 (addI i 1)
  else
    some left1
  partial_fixpoint
end
def laws_toDecl (a : GDecl) : Option (GDecl) :=
  some a
def laws_toDeclS_l8 (a : List GDecl) (out : List (GDecl)) (i : Int) : Option (List GDecl) :=
  if (ltI i (lenL a)) then
    getI a i >>= fun x2 =>
    laws_toDecl x2 >>= fun r1 =>
    getI out i >>= fun x3 =>
    laws_toDeclS_l8 a (out.set (Int.toNat i) r1) (addI i 1)
  else
    some out
  partial_fixpoint
def laws_toDeclS (a : List GDecl) : Option (List GDecl) :=
  mkN (lenL a) 32 >>= fun m =>
  laws_toDeclS_l8 a (List.replicate m (GDecl.mk ⟨#[]⟩ ⟨#[]⟩)) 0
def laws_toAttr (a : GAttr) : Option (GAttr) :=
  some a
def laws_toAttrS_l8 (a : List GAttr) (out : List (GAttr)) (i : Int) : Option (List GAttr) :=
  if (ltI i (lenL a)) then
    getI a i >>= fun x2 =>
    laws_toAttr x2 >>= fun r1 =>
    getI out i >>= fun x3 =>
    laws_toAttrS_l8 a (out.set (Int.toNat i) r1) (addI i 1)
  else
    some out
  partial_fixpoint
def laws_toAttrS (a : List GAttr) : Option (List GAttr) :=
  mkN (lenL a) 64 >>= fun m =>
  laws_toAttrS_l8 a (List.replicate m (GAttr.mk ⟨#[]⟩ ⟨#[]⟩ ⟨#[]⟩ ⟨#[]⟩)) 0
mutual
def laws_toNode (a : GNode) : Option (GNode) :=
  laws_toDeclS a.Decls >>= fun r =>
  laws_toAttrS a.Attrs >>= fun r1 =>
  laws_toNodeS a.Kids >>= fun r2 =>
  some (GNode.mk a.Kind a.Pre a.Local a.Uri r r1 r2 a.Text)
  partial_fixpoint
def laws_toNodeS (a : List GNode) : Option (List GNode) :=
  mkN (lenL a) 144 >>= fun m =>
  laws_toNodeS_l8 a (List.replicate m (GNode.mk 0 ⟨#[]⟩ ⟨#[]⟩ ⟨#[]⟩ [] [] [] ⟨#[]⟩)) 0
  partial_fixpoint
def laws_toNodeS_l8 (a : List GNode) (out : List (GNode)) (i : Int) : Option (List GNode) :=
  if (ltI i (lenL a)) then
    getI a i >>= fun x2 =>
    laws_toNode x2 >>= fun r1 =>
    getI out i >>= fun x3 =>
    laws_toNodeS_l8 a (out.set (Int.toNat i) r1) (addI i 1)
  else
    some out
  partial_fixpoint
end
mutual
def spec_SameNode (a : GNode) (b : GNode) : Option (Bool) :=
  if (neI a.Kind b.Kind) then
    some false
  else
    if (neS a.Pre b.Pre) then
      some false
    else
      if (neS a.Local b.Local) then
        some false
      else
        if (neS a.Uri b.Uri) then
          some false
        else
          if (neS a.Text b.Text) then
            some false
          else
            if (neI (lenL a.Decls) (lenL b.Decls)) then
              some false
            else
              if (neI (lenL a.Attrs) (lenL b.Attrs)) then
                some false
              else
                if (neI (lenL a.Kids) (lenL b.Kids)) then
                  some false
                else
                  spec_SameNode_l14 0 a b
  partial_fixpoint
def spec_SameNode_l56 (i6 : Int) (a : GNode) (b : GNode) : Option (Bool) :=
  if (ltI i6 (lenL a.Kids)) then
    getI a.Kids i6 >>= fun x26 =>
    getI b.Kids i6 >>= fun x27 =>
    spec_SameNode x26 x27 >>= fun r7 =>
    if r7 then
      spec_SameNode_l56 (addI i6 1) a b
    else
      some false
  else
    some true
  partial_fixpoint
def spec_SameNode_l35 (i5 : Int) (a : GNode) (b : GNode) : Option (Bool) :=
  if (ltI i5 (lenL a.Attrs)) then
    getI a.Attrs i5 >>= fun x22 =>
    getI b.Attrs i5 >>= fun x23 =>
    if (eqS x22.Pre x23.Pre && (eqS x22.Local x23.Local && (eqS x22.Uri x23.Uri && eqS x22.Val x23.Val))) then
      spec_SameNode_l35 (addI i5 1) a b
    else
      some false
  else
    spec_SameNode_l56 0 a b
  partial_fixpoint
def spec_SameNode_l14 (i3 : Int) (a : GNode) (b : GNode) : Option (Bool) :=
  if (ltI i3 (lenL a.Decls)) then
    getI a.Decls i3 >>= fun x14 =>
    getI b.Decls i3 >>= fun x15 =>
    if (eqS x14.Pre x15.Pre && eqS x14.Uri x15.Uri) then
      spec_SameNode_l14 (addI i3 1) a b
    else
      some false
  else
    spec_SameNode_l35 0 a b
  partial_fixpoint
end
mutual
def spec_l17Table_j63 (a : List GNode) (b : List GNode) (t6 : List (List Int)) (i2 : Int) (k5 : Int) (n7 : Int) : Option (List (List Int)) :=
  getI a i2 >>= fun x104 =>
  getI b k5 >>= fun x105 =>
  spec_SameNode x104 x105 >>= fun r7 =>
  if r7 then
    getI t6 (addI i2 1) >>= fun x106 =>
    getI x106 (addI k5 1) >>= fun x107 =>
    getI t6 i2 >>= fun x108 =>
    getI x108 k5 >>= fun x109 =>
    spec_l17Table_l52 a b (t6.set (Int.toNat i2) (x108.set (Int.toNat k5) (addI x107 1))) i2 (subI k5 1)
  else
    getI t6 i2 >>= fun x110 =>
    getI x110 k5 >>= fun x111 =>
    spec_l17Table_l52 a b (t6.set (Int.toNat i2) (x110.set (Int.toNat k5) n7)) i2 (subI k5 1)
  partial_fixpoint
def spec_l17Table_l52 (a : List GNode) (b : List GNode) (t6 : List (List Int)) (i2 : Int) (k5 : Int) : Option (List (List Int)) :=
  if (geI k5 0) then
    getI t6 (addI i2 1) >>= fun x98 =>
    getI x98 k5 >>= fun x99 =>
    getI t6 i2 >>= fun x100 =>
    getI x100 (addI k5 1) >>= fun x101 =>
    if (gtI x101 x99) then
      getI t6 i2 >>= fun x102 =>
      getI x102 (addI k5 1) >>= fun x103 =>
      spec_l17Table_j63 a b t6 i2 k5 x103
    else
      spec_l17Table_j63 a b t6 i2 k5 x99
  else
    spec_l17Table_l40 a b t6 (subI i2 1)
  partial_fixpoint
def spec_l17Table_l40 (a : List GNode) (b : List GNode) (t5 : List (List Int)) (i2 : Int) : Option (List (List Int)) :=
  if (geI i2 0) then
    spec_l17Table_l52 a b t5 i2 (subI (lenL b) 1)
  else
    some t5
  partial_fixpoint
end
mutual
def spec_l17Table_l23 (a : List GNode) (b : List GNode) (t3 : List (List Int)) (i1 : Int) (row1 : List (Int)) (k3 : Int) : Option (List (List Int)) :=
  if (leI k3 (lenL b)) then
    room (row1.length + 1) 8 >>= fun x_6 =>
    spec_l17Table_l23 a b t3 i1 (row1 ++ [0]) (addI k3 1)
  else
    room (t3.length + 1) 24 >>= fun x_7 =>
    spec_l17Table_l8 a b (t3 ++ [row1]) (addI i1 1)
  partial_fixpoint
def spec_l17Table_l8 (a : List GNode) (b : List GNode) (t3 : List (List Int)) (i1 : Int) : Option (List (List Int)) :=
  if (leI i1 (lenL a)) then
    spec_l17Table_l23 a b t3 i1 [] 0
  else
    spec_l17Table_l40 a b t3 (subI (lenL a) 1)
  partial_fixpoint
end
def spec_l17Table (a : List GNode) (b : List GNode) : Option (List (List Int)) :=
  spec_l17Table_l8 a b [] 0
def spec_Align_l12 (a : List GNode) (b : List GNode) (r : List (List Int)) (out : List (Int)) (k : Int) (i : Int) : Option (List Int) :=
  if (ltI i (lenL a)) then
    if (eqI k (lenL b)) then
      room (out.length + 1) 8 >>= fun x_3 =>
      spec_Align_l12 a b r (out ++ [(-1)]) k (addI i 1)
    else
      getI a i >>= fun x6 =>
      getI b k >>= fun x7 =>
      spec_SameNode x6 x7 >>= fun r2 =>
      if r2 then
        room (out.length + 1) 8 >>= fun x_4 =>
        spec_Align_l12 a b r (out ++ [k]) (addI k 1) (addI i 1)
      else
        getI r (addI i 1) >>= fun x8 =>
        getI x8 k >>= fun x9 =>
        getI r i >>= fun x10 =>
        getI x10 (addI k 1) >>= fun x11 =>
        if (geI x9 x11) then
          room (out.length + 1) 8 >>= fun x_5 =>
          spec_Align_l12 a b r (out ++ [(-1)]) k (addI i 1)
        else
          spec_Align_l12 a b r out (addI k 1) i
  else
    some out
  partial_fixpoint
def spec_Align (a : List GNode) (b : List GNode) : Option (List Int) :=
  spec_l17Table a b >>= fun r =>
  spec_Align_l12 a b r [] 0 0
def slices_Equal_Decl_l14 (s1 : List GDecl) (s2 : List GDecl) (x2 : Int) : Option (Bool) :=
  if (ltI x2 (lenL s1)) then
    getI s1 x2 >>= fun x3 =>
    getI s2 x2 >>= fun x4 =>
    if (eqS x3.Pre x4.Pre && eqS x3.Uri x4.Uri) then
      slices_Equal_Decl_l14 s1 s2 (addI x2 1)
    else
      some false
  else
    some true
  partial_fixpoint
def slices_Equal_Decl (s1 : List GDecl) (s2 : List GDecl) : Option (Bool) :=
  if (neI (lenL s1) (lenL s2)) then
    some false
  else
    slices_Equal_Decl_l14 s1 s2 0
def slices_Equal_Attr_l14 (s1 : List GAttr) (s2 : List GAttr) (x2 : Int) : Option (Bool) :=
  if (ltI x2 (lenL s1)) then
    getI s1 x2 >>= fun x3 =>
    getI s2 x2 >>= fun x4 =>
    if (eqS x3.Pre x4.Pre && (eqS x3.Local x4.Local && (eqS x3.Uri x4.Uri && eqS x3.Val x4.Val))) then
      slices_Equal_Attr_l14 s1 s2 (addI x2 1)
    else
      some false
  else
    some true
  partial_fixpoint
def slices_Equal_Attr (s1 : List GAttr) (s2 : List GAttr) : Option (Bool) :=
  if (neI (lenL s1) (lenL s2)) then
    some false
  else
    slices_Equal_Attr_l14 s1 s2 0
def impl_sameAlone (a : GNode) (b : GNode) : Option (Bool) :=
  if (eqI a.Kind b.Kind) then
    if (eqS a.Pre b.Pre) then
      if (eqS a.Local b.Local) then
        if (eqS a.Uri b.Uri) then
          if (eqS a.Text b.Text) then
            slices_Equal_Decl a.Decls b.Decls >>= fun r =>
            if r then
              slices_Equal_Attr a.Attrs b.Attrs >>= fun r1 =>
              some r1
            else
              some false
          else
            some false
        else
          some false
      else
        some false
    else
      some false
  else
    some false
mutual
def impl_SameNode (a : GNode) (b : GNode) : Option (Bool) :=
  impl_sameAlone a b >>= fun r =>
  if r then
    slices_EqualFunc_Node_SameNode a.Kids b.Kids >>= fun r1 =>
    some r1
  else
    some false
  partial_fixpoint
def slices_EqualFunc_Node_SameNode (s1 : List GNode) (s2 : List GNode) : Option (Bool) :=
  if (neI (lenL s1) (lenL s2)) then
    some false
  else
    slices_EqualFunc_Node_SameNode_l14 s2 s1 0
  partial_fixpoint
def slices_EqualFunc_Node_SameNode_l14 (s2 : List GNode) (s1 : List GNode) (x2 : Int) : Option (Bool) :=
  if (ltI x2 (lenL s1)) then
    getI s1 x2 >>= fun x3 =>
    getI s2 x2 >>= fun x4 =>
    impl_SameNode x3 x4 >>= fun r1 =>
    if r1 then
      slices_EqualFunc_Node_SameNode_l14 s2 s1 (addI x2 1)
    else
      some false
  else
    some true
  partial_fixpoint
end
mutual
def impl_longest_l37 (a : List GNode) (b : List GNode) (out6 : List (List Int)) (i1 : Int) (k3 : Int) : Option (List (List Int)) :=
  if (geI k3 0) then
    getI out6 i1 >>= fun x101 =>
    getI out6 (addI i1 1) >>= fun x102 =>
    getI x102 k3 >>= fun x103 =>
    getI out6 i1 >>= fun x104 =>
    getI x104 (addI k3 1) >>= fun x105 =>
    getI x101 k3 >>= fun x106 =>
    getI a i1 >>= fun x107 =>
    getI b k3 >>= fun x108 =>
    impl_SameNode x107 x108 >>= fun r7 =>
    if r7 then
      getI (out6.set (Int.toNat i1) (x101.set (Int.toNat k3) (maxI x103 x105))) i1 >>= fun x109 =>
      getI (out6.set (Int.toNat i1) (x101.set (Int.toNat k3) (maxI x103 x105))) i1 >>= fun x110 =>
      getI x110 k3 >>= fun x111 =>
      getI (out6.set (Int.toNat i1) (x101.set (Int.toNat k3) (maxI x103 x105))) (addI i1 1) >>= fun x112 =>
      getI x112 (addI k3 1) >>= fun x113 =>
      getI x109 k3 >>= fun x114 =>
      impl_longest_l37 a b ((out6.set (Int.toNat i1) (x101.set (Int.toNat k3) (maxI x103 x105))).set (Int.toNat i1) (x109.set (Int.toNat k3) (maxI x111 (addI 1 x113)))) i1 (subI k3 1)
    else
      impl_longest_l37 a b (out6.set (Int.toNat i1) (x101.set (Int.toNat k3) (maxI x103 x105))) i1 (subI k3 1)
  else
    impl_longest_l25 a b out6 (subI i1 1)
  partial_fixpoint
def impl_longest_l25 (a : List GNode) (b : List GNode) (out5 : List (List Int)) (i1 : Int) : Option (List (List Int)) :=
  if (geI i1 0) then
    impl_longest_l37 a b out5 i1 (subI (lenL b) 1)
  else
    some out5
  partial_fixpoint
end
def impl_longest_l8 (a : List GNode) (b : List GNode) (out3 : List (List Int)) (m : Nat) (x57 : Int) : Option (List (List Int)) :=
  if (ltI x57 ((m : Nat) : Int)) then
    mkN (addI (lenL b) 1) 8 >>= fun m2 =>
    getI out3 x57 >>= fun x58 =>
    impl_longest_l8 a b (out3.set (Int.toNat x57) (List.replicate m2 0)) m (addI x57 1)
  else
    impl_longest_l25 a b out3 (subI (lenL a) 1)
  partial_fixpoint
def impl_longest (a : List GNode) (b : List GNode) : Option (List (List Int)) :=
  mkN (addI (lenL a) 1) 24 >>= fun m =>
  impl_longest_l8 a b (List.replicate m []) m 0
def impl_Align_l12 (a : List GNode) (b : List GNode) (r : List (List Int)) (out : List (Int)) (k : Int) (i : Int) : Option (List Int) :=
  if (ltI i (lenL a)) then
    if (eqI k (lenL b)) then
      room (out.length + 1) 8 >>= fun x_3 =>
      impl_Align_l12 a b r (out ++ [(-1)]) k (addI i 1)
    else
      getI a i >>= fun x6 =>
      getI b k >>= fun x7 =>
      impl_SameNode x6 x7 >>= fun r2 =>
      if r2 then
        room (out.length + 1) 8 >>= fun x_4 =>
        impl_Align_l12 a b r (out ++ [k]) (addI k 1) (addI i 1)
      else
        getI r (addI i 1) >>= fun x8 =>
        getI x8 k >>= fun x9 =>
        getI r i >>= fun x10 =>
        getI x10 (addI k 1) >>= fun x11 =>
        if (geI x9 x11) then
          room (out.length + 1) 8 >>= fun x_5 =>
          impl_Align_l12 a b r (out ++ [(-1)]) k (addI i 1)
        else
          impl_Align_l12 a b r out (addI k 1) i
  else
    some out
  partial_fixpoint
def impl_Align (a : List GNode) (b : List GNode) : Option (List Int) :=
  impl_longest a b >>= fun r =>
  impl_Align_l12 a b r [] 0 0
def laws_eqIntS_l14 (a : List Int) (b : List Int) (i : Int) : Option (Bool) :=
  if (ltI i (lenL a)) then
    getI a i >>= fun x2 =>
    getI b i >>= fun x3 =>
    if (neI x2 x3) then
      some false
    else
      laws_eqIntS_l14 a b (addI i 1)
  else
    some true
  partial_fixpoint
def laws_eqIntS (a : List Int) (b : List Int) : Option (Bool) :=
  if (neI (lenL a) (lenL b)) then
    some false
  else
    laws_eqIntS_l14 a b 0
def laws_eqDecl (a : GDecl) (b : GDecl) : Option (Bool) :=
  if (neS a.Pre b.Pre) then
    some false
  else
    if (neS a.Uri b.Uri) then
      some false
    else
      some true
def laws_eqDeclS_l14 (a : List GDecl) (b : List GDecl) (i : Int) : Option (Bool) :=
  if (ltI i (lenL a)) then
    getI a i >>= fun x2 =>
    getI b i >>= fun x3 =>
    laws_eqDecl x2 x3 >>= fun r1 =>
    if r1 then
      laws_eqDeclS_l14 a b (addI i 1)
    else
      some false
  else
    some true
  partial_fixpoint
def laws_eqDeclS (a : List GDecl) (b : List GDecl) : Option (Bool) :=
  if (neI (lenL a) (lenL b)) then
    some false
  else
    laws_eqDeclS_l14 a b 0
def laws_eqAttr (a : GAttr) (b : GAttr) : Option (Bool) :=
  if (neS a.Pre b.Pre) then
    some false
  else
    if (neS a.Local b.Local) then
      some false
    else
      if (neS a.Uri b.Uri) then
        some false
      else
        if (neS a.Val b.Val) then
          some false
        else
          some true
def laws_eqAttrS_l14 (a : List GAttr) (b : List GAttr) (i : Int) : Option (Bool) :=
  if (ltI i (lenL a)) then
    getI a i >>= fun x2 =>
    getI b i >>= fun x3 =>
    laws_eqAttr x2 x3 >>= fun r1 =>
    if r1 then
      laws_eqAttrS_l14 a b (addI i 1)
    else
      some false
  else
    some true
  partial_fixpoint
def laws_eqAttrS (a : List GAttr) (b : List GAttr) : Option (Bool) :=
  if (neI (lenL a) (lenL b)) then
    some false
  else
    laws_eqAttrS_l14 a b 0
mutual
def laws_eqNode (a : GNode) (b : GNode) : Option (Bool) :=
  if (neI a.Kind b.Kind) then
    some false
  else
    if (neS a.Pre b.Pre) then
      some false
    else
      if (neS a.Local b.Local) then
        some false
      else
        if (neS a.Uri b.Uri) then
          some false
        else
          laws_eqDeclS a.Decls b.Decls >>= fun r =>
          if r then
            laws_eqAttrS a.Attrs b.Attrs >>= fun r1 =>
            if r1 then
              laws_eqNodeS a.Kids b.Kids >>= fun r2 =>
              if r2 then
                if (neS a.Text b.Text) then
                  some false
                else
                  some true
              else
                some false
            else
              some false
          else
            some false
  partial_fixpoint
def laws_eqNodeS (a : List GNode) (b : List GNode) : Option (Bool) :=
  if (neI (lenL a) (lenL b)) then
    some false
  else
    laws_eqNodeS_l14 a b 0
  partial_fixpoint
def laws_eqNodeS_l14 (a : List GNode) (b : List GNode) (i : Int) : Option (Bool) :=
  if (ltI i (lenL a)) then
    getI a i >>= fun x2 =>
    getI b i >>= fun x3 =>
    laws_eqNode x2 x3 >>= fun r1 =>
    if r1 then
      laws_eqNodeS_l14 a b (addI i 1)
    else
      some false
  else
    some true
  partial_fixpoint
end
def laws_markText_l14 (k1 : Int) (out : ByteArray) : Option (ByteArray) :=
  if (gtI k1 0) then
    remI k1 10 >>= fun x4 =>
    catS (⟨([UInt8.ofNat ((wr .u8 (addI 48 x4))).toNat]).toArray⟩) out >>= fun x5 =>
    quoI k1 10 >>= fun x6 =>
    laws_markText_l14 x6 x5
  else
    catS (⟨#[109]⟩) out >>= fun x7 =>
    some x7
  partial_fixpoint
def laws_markText (k : Int) : Option (ByteArray) :=
  if (leI k 0) then
    some (⟨#[109, 48]⟩)
  else
    laws_markText_l14 k (⟨#[]⟩)
def laws_markDeclS_l6 (a1 : List (GDecl)) (k1 : Int) (i : Int) : Option (Int × List (GDecl)) :=
  if (ltI i (lenL a1)) then
    laws_markText k1 >>= fun r2 =>
    getI a1 i >>= fun x2 =>
    laws_markText (addI k1 1) >>= fun r3 =>
    getI (a1.set (Int.toNat i) (GDecl.mk r2 x2.Uri)) i >>= fun x3 =>
    laws_markDeclS_l6 ((a1.set (Int.toNat i) (GDecl.mk r2 x2.Uri)).set (Int.toNat i) (GDecl.mk x3.Pre r3)) (addI (addI k1 1) 1) (addI i 1)
  else
    some (k1, a1)
  partial_fixpoint
def laws_markDeclS (a : List (GDecl)) (k : Int) : Option (Int × List (GDecl)) :=
  laws_markDeclS_l6 a k 0
def laws_markAttrS_l6 (a1 : List (GAttr)) (k1 : Int) (i : Int) : Option (Int × List (GAttr)) :=
  if (ltI i (lenL a1)) then
    laws_markText k1 >>= fun r4 =>
    getI a1 i >>= fun x4 =>
    laws_markText (addI k1 1) >>= fun r5 =>
    getI (a1.set (Int.toNat i) (GAttr.mk r4 x4.Local x4.Uri x4.Val)) i >>= fun x5 =>
    laws_markText (addI (addI k1 1) 1) >>= fun r6 =>
    getI ((a1.set (Int.toNat i) (GAttr.mk r4 x4.Local x4.Uri x4.Val)).set (Int.toNat i) (GAttr.mk x5.Pre r5 x5.Uri x5.Val)) i >>= fun x6 =>
    laws_markText (addI (addI (addI k1 1) 1) 1) >>= fun r7 =>
    getI (((a1.set (Int.toNat i) (GAttr.mk r4 x4.Local x4.Uri x4.Val)).set (Int.toNat i) (GAttr.mk x5.Pre r5 x5.Uri x5.Val)).set (Int.toNat i) (GAttr.mk x6.Pre x6.Local r6 x6.Val)) i >>= fun x7 =>
    laws_markAttrS_l6 ((((a1.set (Int.toNat i) (GAttr.mk r4 x4.Local x4.Uri x4.Val)).set (Int.toNat i) (GAttr.mk x5.Pre r5 x5.Uri x5.Val)).set (Int.toNat i) (GAttr.mk x6.Pre x6.Local r6 x6.Val)).set (Int.toNat i) (GAttr.mk x7.Pre x7.Local x7.Uri r7)) (addI (addI (addI (addI k1 1) 1) 1) 1) (addI i 1)
  else
    some (k1, a1)
  partial_fixpoint
def laws_markAttrS (a : List (GAttr)) (k : Int) : Option (Int × List (GAttr)) :=
  laws_markAttrS_l6 a k 0
mutual
def laws_markNodeS' (a : List (GNode)) (k : Int) : Option (Int × List (GNode)) :=
  laws_markNodeS'_l6 a k 0
  partial_fixpoint
def laws_markNodeS'_l6 (a1 : List (GNode)) (k1 : Int) (i : Int) : Option (Int × List (GNode)) :=
  if (ltI i (lenL a1)) then
    getI a1 i >>= fun x8 =>
    laws_markText (addI k1 1) >>= fun r7 =>
    getI (a1.set (Int.toNat i) (GNode.mk k1 x8.Pre x8.Local x8.Uri x8.Decls x8.Attrs x8.Kids x8.Text)) i >>= fun x9 =>
    laws_markText (addI (addI k1 1) 1) >>= fun r8 =>
    getI ((a1.set (Int.toNat i) (GNode.mk k1 x8.Pre x8.Local x8.Uri x8.Decls x8.Attrs x8.Kids x8.Text)).set (Int.toNat i) (GNode.mk x9.Kind r7 x9.Local x9.Uri x9.Decls x9.Attrs x9.Kids x9.Text)) i >>= fun x10 =>
    laws_markText (addI (addI (addI k1 1) 1) 1) >>= fun r9 =>
    getI (((a1.set (Int.toNat i) (GNode.mk k1 x8.Pre x8.Local x8.Uri x8.Decls x8.Attrs x8.Kids x8.Text)).set (Int.toNat i) (GNode.mk x9.Kind r7 x9.Local x9.Uri x9.Decls x9.Attrs x9.Kids x9.Text)).set (Int.toNat i) (GNode.mk x10.Kind x10.Pre r8 x10.Uri x10.Decls x10.Attrs x10.Kids x10.Text)) i >>= fun x11 =>
    getI ((((a1.set (Int.toNat i) (GNode.mk k1 x8.Pre x8.Local x8.Uri x8.Decls x8.Attrs x8.Kids x8.Text)).set (Int.toNat i) (GNode.mk x9.Kind r7 x9.Local x9.Uri x9.Decls x9.Attrs x9.Kids x9.Text)).set (Int.toNat i) (GNode.mk x10.Kind x10.Pre r8 x10.Uri x10.Decls x10.Attrs x10.Kids x10.Text)).set (Int.toNat i) (GNode.mk x11.Kind x11.Pre x11.Local r9 x11.Decls x11.Attrs x11.Kids x11.Text)) i >>= fun x12 =>
    laws_markDeclS x12.Decls (addI (addI (addI (addI k1 1) 1) 1) 1) >>= fun r10 =>
    getI (((((a1.set (Int.toNat i) (GNode.mk k1 x8.Pre x8.Local x8.Uri x8.Decls x8.Attrs x8.Kids x8.Text)).set (Int.toNat i) (GNode.mk x9.Kind r7 x9.Local x9.Uri x9.Decls x9.Attrs x9.Kids x9.Text)).set (Int.toNat i) (GNode.mk x10.Kind x10.Pre r8 x10.Uri x10.Decls x10.Attrs x10.Kids x10.Text)).set (Int.toNat i) (GNode.mk x11.Kind x11.Pre x11.Local r9 x11.Decls x11.Attrs x11.Kids x11.Text)).set (Int.toNat i) (GNode.mk x12.Kind x12.Pre x12.Local x12.Uri r10.2 x12.Attrs x12.Kids x12.Text)) i >>= fun x13 =>
    laws_markAttrS x13.Attrs r10.1 >>= fun r11 =>
    getI ((((((a1.set (Int.toNat i) (GNode.mk k1 x8.Pre x8.Local x8.Uri x8.Decls x8.Attrs x8.Kids x8.Text)).set (Int.toNat i) (GNode.mk x9.Kind r7 x9.Local x9.Uri x9.Decls x9.Attrs x9.Kids x9.Text)).set (Int.toNat i) (GNode.mk x10.Kind x10.Pre r8 x10.Uri x10.Decls x10.Attrs x10.Kids x10.Text)).set (Int.toNat i) (GNode.mk x11.Kind x11.Pre x11.Local r9 x11.Decls x11.Attrs x11.Kids x11.Text)).set (Int.toNat i) (GNode.mk x12.Kind x12.Pre x12.Local x12.Uri r10.2 x12.Attrs x12.Kids x12.Text)).set (Int.toNat i) (GNode.mk x13.Kind x13.Pre x13.Local x13.Uri x13.Decls r11.2 x13.Kids x13.Text)) i >>= fun x14 =>
    laws_markNodeS' x14.Kids r11.1 >>= fun r12 =>
    laws_markText r12.1 >>= fun r13 =>
    getI (((((((a1.set (Int.toNat i) (GNode.mk k1 x8.Pre x8.Local x8.Uri x8.Decls x8.Attrs x8.Kids x8.Text)).set (Int.toNat i) (GNode.mk x9.Kind r7 x9.Local x9.Uri x9.Decls x9.Attrs x9.Kids x9.Text)).set (Int.toNat i) (GNode.mk x10.Kind x10.Pre r8 x10.Uri x10.Decls x10.Attrs x10.Kids x10.Text)).set (Int.toNat i) (GNode.mk x11.Kind x11.Pre x11.Local r9 x11.Decls x11.Attrs x11.Kids x11.Text)).set (Int.toNat i) (GNode.mk x12.Kind x12.Pre x12.Local x12.Uri r10.2 x12.Attrs x12.Kids x12.Text)).set (Int.toNat i) (GNode.mk x13.Kind x13.Pre x13.Local x13.Uri x13.Decls r11.2 x13.Kids x13.Text)).set (Int.toNat i) (GNode.mk x14.Kind x14.Pre x14.Local x14.Uri x14.Decls x14.Attrs r12.2 x14.Text)) i >>= fun x15 =>
    laws_markNodeS'_l6 ((((((((a1.set (Int.toNat i) (GNode.mk k1 x8.Pre x8.Local x8.Uri x8.Decls x8.Attrs x8.Kids x8.Text)).set (Int.toNat i) (GNode.mk x9.Kind r7 x9.Local x9.Uri x9.Decls x9.Attrs x9.Kids x9.Text)).set (Int.toNat i) (GNode.mk x10.Kind x10.Pre r8 x10.Uri x10.Decls x10.Attrs x10.Kids x10.Text)).set (Int.toNat i) (GNode.mk x11.Kind x11.Pre x11.Local r9 x11.Decls x11.Attrs x11.Kids x11.Text)).set (Int.toNat i) (GNode.mk x12.Kind x12.Pre x12.Local x12.Uri r10.2 x12.Attrs x12.Kids x12.Text)).set (Int.toNat i) (GNode.mk x13.Kind x13.Pre x13.Local x13.Uri x13.Decls r11.2 x13.Kids x13.Text)).set (Int.toNat i) (GNode.mk x14.Kind x14.Pre x14.Local x14.Uri x14.Decls x14.Attrs r12.2 x14.Text)).set (Int.toNat i) (GNode.mk x15.Kind x15.Pre x15.Local x15.Uri x15.Decls x15.Attrs x15.Kids r13)) (addI r12.1 1) (addI i 1)
  else
    some (k1, a1)
  partial_fixpoint
end
def laws_markNodeS_l6 (a1 : List (GNode)) (k1 : Int) (i : Int) : Option (Int × List (GNode)) :=
  if (ltI i (lenL a1)) then
    getI a1 i >>= fun x8 =>
    laws_markText (addI k1 1) >>= fun r7 =>
    getI (a1.set (Int.toNat i) (GNode.mk k1 x8.Pre x8.Local x8.Uri x8.Decls x8.Attrs x8.Kids x8.Text)) i >>= fun x9 =>
    laws_markText (addI (addI k1 1) 1) >>= fun r8 =>
    getI ((a1.set (Int.toNat i) (GNode.mk k1 x8.Pre x8.Local x8.Uri x8.Decls x8.Attrs x8.Kids x8.Text)).set (Int.toNat i) (GNode.mk x9.Kind r7 x9.Local x9.Uri x9.Decls x9.Attrs x9.Kids x9.Text)) i >>= fun x10 =>
    laws_markText (addI (addI (addI k1 1) 1) 1) >>= fun r9 =>
    getI (((a1.set (Int.toNat i) (GNode.mk k1 x8.Pre x8.Local x8.Uri x8.Decls x8.Attrs x8.Kids x8.Text)).set (Int.toNat i) (GNode.mk x9.Kind r7 x9.Local x9.Uri x9.Decls x9.Attrs x9.Kids x9.Text)).set (Int.toNat i) (GNode.mk x10.Kind x10.Pre r8 x10.Uri x10.Decls x10.Attrs x10.Kids x10.Text)) i >>= fun x11 =>
    getI ((((a1.set (Int.toNat i) (GNode.mk k1 x8.Pre x8.Local x8.Uri x8.Decls x8.Attrs x8.Kids x8.Text)).set (Int.toNat i) (GNode.mk x9.Kind r7 x9.Local x9.Uri x9.Decls x9.Attrs x9.Kids x9.Text)).set (Int.toNat i) (GNode.mk x10.Kind x10.Pre r8 x10.Uri x10.Decls x10.Attrs x10.Kids x10.Text)).set (Int.toNat i) (GNode.mk x11.Kind x11.Pre x11.Local r9 x11.Decls x11.Attrs x11.Kids x11.Text)) i >>= fun x12 =>
    laws_markDeclS x12.Decls (addI (addI (addI (addI k1 1) 1) 1) 1) >>= fun r10 =>
    getI (((((a1.set (Int.toNat i) (GNode.mk k1 x8.Pre x8.Local x8.Uri x8.Decls x8.Attrs x8.Kids x8.Text)).set (Int.toNat i) (GNode.mk x9.Kind r7 x9.Local x9.Uri x9.Decls x9.Attrs x9.Kids x9.Text)).set (Int.toNat i) (GNode.mk x10.Kind x10.Pre r8 x10.Uri x10.Decls x10.Attrs x10.Kids x10.Text)).set (Int.toNat i) (GNode.mk x11.Kind x11.Pre x11.Local r9 x11.Decls x11.Attrs x11.Kids x11.Text)).set (Int.toNat i) (GNode.mk x12.Kind x12.Pre x12.Local x12.Uri r10.2 x12.Attrs x12.Kids x12.Text)) i >>= fun x13 =>
    laws_markAttrS x13.Attrs r10.1 >>= fun r11 =>
    getI ((((((a1.set (Int.toNat i) (GNode.mk k1 x8.Pre x8.Local x8.Uri x8.Decls x8.Attrs x8.Kids x8.Text)).set (Int.toNat i) (GNode.mk x9.Kind r7 x9.Local x9.Uri x9.Decls x9.Attrs x9.Kids x9.Text)).set (Int.toNat i) (GNode.mk x10.Kind x10.Pre r8 x10.Uri x10.Decls x10.Attrs x10.Kids x10.Text)).set (Int.toNat i) (GNode.mk x11.Kind x11.Pre x11.Local r9 x11.Decls x11.Attrs x11.Kids x11.Text)).set (Int.toNat i) (GNode.mk x12.Kind x12.Pre x12.Local x12.Uri r10.2 x12.Attrs x12.Kids x12.Text)).set (Int.toNat i) (GNode.mk x13.Kind x13.Pre x13.Local x13.Uri x13.Decls r11.2 x13.Kids x13.Text)) i >>= fun x14 =>
    laws_markNodeS' x14.Kids r11.1 >>= fun r12 =>
    laws_markText r12.1 >>= fun r13 =>
    getI (((((((a1.set (Int.toNat i) (GNode.mk k1 x8.Pre x8.Local x8.Uri x8.Decls x8.Attrs x8.Kids x8.Text)).set (Int.toNat i) (GNode.mk x9.Kind r7 x9.Local x9.Uri x9.Decls x9.Attrs x9.Kids x9.Text)).set (Int.toNat i) (GNode.mk x10.Kind x10.Pre r8 x10.Uri x10.Decls x10.Attrs x10.Kids x10.Text)).set (Int.toNat i) (GNode.mk x11.Kind x11.Pre x11.Local r9 x11.Decls x11.Attrs x11.Kids x11.Text)).set (Int.toNat i) (GNode.mk x12.Kind x12.Pre x12.Local x12.Uri r10.2 x12.Attrs x12.Kids x12.Text)).set (Int.toNat i) (GNode.mk x13.Kind x13.Pre x13.Local x13.Uri x13.Decls r11.2 x13.Kids x13.Text)).set (Int.toNat i) (GNode.mk x14.Kind x14.Pre x14.Local x14.Uri x14.Decls x14.Attrs r12.2 x14.Text)) i >>= fun x15 =>
    laws_markNodeS_l6 ((((((((a1.set (Int.toNat i) (GNode.mk k1 x8.Pre x8.Local x8.Uri x8.Decls x8.Attrs x8.Kids x8.Text)).set (Int.toNat i) (GNode.mk x9.Kind r7 x9.Local x9.Uri x9.Decls x9.Attrs x9.Kids x9.Text)).set (Int.toNat i) (GNode.mk x10.Kind x10.Pre r8 x10.Uri x10.Decls x10.Attrs x10.Kids x10.Text)).set (Int.toNat i) (GNode.mk x11.Kind x11.Pre x11.Local r9 x11.Decls x11.Attrs x11.Kids x11.Text)).set (Int.toNat i) (GNode.mk x12.Kind x12.Pre x12.Local x12.Uri r10.2 x12.Attrs x12.Kids x12.Text)).set (Int.toNat i) (GNode.mk x13.Kind x13.Pre x13.Local x13.Uri x13.Decls r11.2 x13.Kids x13.Text)).set (Int.toNat i) (GNode.mk x14.Kind x14.Pre x14.Local x14.Uri x14.Decls x14.Attrs r12.2 x14.Text)).set (Int.toNat i) (GNode.mk x15.Kind x15.Pre x15.Local x15.Uri x15.Decls x15.Attrs x15.Kids r13)) (addI r12.1 1) (addI i 1)
  else
    some (k1, a1)
  partial_fixpoint
def laws_markNodeS (a : List (GNode)) (k : Int) : Option (Int × List (GNode)) :=
  laws_markNodeS_l6 a k 0
def laws_markIntS_l6 (a1 : List (Int)) (k1 : Int) (i : Int) : Option (Int × List (Int)) :=
  if (ltI i (lenL a1)) then
    getI a1 i >>= fun x1 =>
    laws_markIntS_l6 (a1.set (Int.toNat i) k1) (addI k1 1) (addI i 1)
  else
    some (k1, a1)
  partial_fixpoint
def laws_markIntS (a : List (Int)) (k : Int) : Option (Int × List (Int)) :=
  laws_markIntS_l6 a k 0
def laws_heldIntS_l6 (a : List Int) (k1 : Int) (i : Int) : Option (Int) :=
  if (ltI i (lenL a)) then
    getI a i >>= fun x1 =>
    if (neI x1 k1) then
      some (-1)
    else
      laws_heldIntS_l6 a (addI k1 1) (addI i 1)
  else
    some k1
  partial_fixpoint
def laws_heldIntS (a : List Int) (k : Int) : Option (Int) :=
  laws_heldIntS_l6 a k 0
def laws_FnExactAlign (aA : List GNode) (aB : List GNode) : Option (Bool) :=
  laws_szNodeS aA 1048576 >>= fun r =>
  if (ltI r 0) then
    some true
  else
    laws_szNodeS aB r >>= fun r1 =>
    if (ltI r1 0) then
      some true
    else
      laws_toNodeS aA >>= fun r2 =>
      laws_toNodeS aB >>= fun r3 =>
      spec_Align r2 r3 >>= fun r4 =>
      laws_toNodeS aA >>= fun r5 =>
      laws_toNodeS aB >>= fun r6 =>
      impl_Align r5 r6 >>= fun r7 =>
      laws_eqIntS r7 r4 >>= fun r8 =>
      if r8 then
        laws_toNodeS aA >>= fun r9 =>
        laws_eqNodeS r5 r9 >>= fun r10 =>
        if r10 then
          laws_toNodeS aB >>= fun r11 =>
          laws_eqNodeS r6 r11 >>= fun r12 =>
          if r12 then
            laws_markNodeS r5 1 >>= fun r13 =>
            sameL r13.2 r5 >>= fun _ =>
            laws_markNodeS r6 r13.1 >>= fun r14 =>
            sameL r14.2 r6 >>= fun _ =>
            if (ltI r14.1 0) then
              some false
            else
              laws_eqIntS r7 r4 >>= fun r15 =>
              if r15 then
                laws_markIntS r7 1 >>= fun r16 =>
                sameL r16.2 r7 >>= fun _ =>
                laws_heldIntS r16.2 1 >>= fun r17 =>
                if (ltI r17 0) then
                  some false
                else
                  if (neI r17 r16.1) then
                    some false
                  else
                    laws_toNodeS aA >>= fun r18 =>
                    laws_toNodeS aB >>= fun r19 =>
                    impl_Align r18 r19 >>= fun r20 =>
                    laws_eqIntS r20 r4 >>= fun r21 =>
                    if r21 then
                      laws_heldIntS r16.2 1 >>= fun r22 =>
                      if (ltI r22 0) then
                        some false
                      else
                        if (neI r22 r16.1) then
                          some false
                        else
                          some true
                    else
                      some false
              else
                some false
          else
            some false
        else
          some false
      else
        some false
end TT
