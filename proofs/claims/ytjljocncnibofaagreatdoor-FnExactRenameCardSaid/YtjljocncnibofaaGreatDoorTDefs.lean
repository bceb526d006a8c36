import Derived.Test.YtjljocncnibofaaGreatDoorTTypes
set_option maxHeartbeats 40000000
set_option linter.unusedVariables false
set_option linter.unusedSimpArgs false
set_option linter.defProp false
set_option maxRecDepth 100000
set_option synthInstance.maxHeartbeats 4000000
set_option synthInstance.maxSize 100000
namespace TT
open Go
def laws_szDecl (a : GDecl) (left : Int) : Option (Int) :=
 if (ltI (subI left (lenS a.Pre)) 0) then
  some (-1)
 else
  if (ltI (subI (subI left (lenS a.Pre)) (lenS a.Uri)) 0) then
   some (-1)
  else
   some (subI (subI left (lenS a.Pre)) (lenS a.Uri))
def laws_szDeclS_l16 (a : List GDecl) (left1 : Int) (i : Int) : Option (Int) :=
 if (ltI i (lenL a)) then
  getI a i >>= fun x1 =>
  laws_szDecl x1 left1 >>= fun r1 =>
  if (ltI r1 0) then
   some (-1)
  else
   laws_szDeclS_l16 a r1 (addI i 1)
 else
  some left1
 partial_fixpoint
def laws_szDeclS (a : List GDecl) (left : Int) : Option (Int) :=
 if (ltI (subI left (lenL a)) 0) then
  some (-1)
 else
  laws_szDeclS_l16 a (subI left (lenL a)) 0
def laws_szAttr (a : GAttr) (left : Int) : Option (Int) :=
 if (ltI (subI left (lenS a.Pre)) 0) then
  some (-1)
 else
  if (ltI (subI (subI left (lenS a.Pre)) (lenS a.Local)) 0) then
   some (-1)
  else
   if (ltI (subI (subI (subI left (lenS a.Pre)) (lenS a.Local)) (lenS a.Uri)) 0) then
    some (-1)
   else
    if (ltI (subI (subI (subI (subI left (lenS a.Pre)) (lenS a.Local)) (lenS a.Uri)) (lenS a.Val)) 0) then
     some (-1)
    else
     some (subI (subI (subI (subI left (lenS a.Pre)) (lenS a.Local)) (lenS a.Uri)) (lenS a.Val))
def laws_szAttrS_l16 (a : List GAttr) (left1 : Int) (i : Int) : Option (Int) :=
 if (ltI i (lenL a)) then
  getI a i >>= fun x1 =>
  laws_szAttr x1 left1 >>= fun r1 =>
  if (ltI r1 0) then
   some (-1)
  else
   laws_szAttrS_l16 a r1 (addI i 1)
 else
  some left1
 partial_fixpoint
def laws_szAttrS (a : List GAttr) (left : Int) : Option (Int) :=
 if (ltI (subI left (lenL a)) 0) then
  some (-1)
 else
  laws_szAttrS_l16 a (subI left (lenL a)) 0
mutual
def laws_szNode (a : GNode) (left : Int) : Option (Int) :=
 if (ltI (subI left (lenS a.Pre)) 0) then
  some (-1)
 else
  if (ltI (subI (subI left (lenS a.Pre)) (lenS a.Local)) 0) then
   some (-1)
  else
   if (ltI (subI (subI (subI left (lenS a.Pre)) (lenS a.Local)) (lenS a.Uri)) 0) then
    some (-1)
   else
    laws_szDeclS a.Decls (subI (subI (subI left (lenS a.Pre)) (lenS a.Local)) (lenS a.Uri)) >>= fun r =>
    if (ltI r 0) then
     some (-1)
    else
     laws_szAttrS a.Attrs r >>= fun r1 =>
     if (ltI r1 0) then
      some (-1)
     else
      laws_szNodeS a.Kids r1 >>= fun r2 =>
      if (ltI r2 0) then
       some (-1)
      else
       if (ltI (subI r2 (lenS a.Text)) 0) then
        some (-1)
       else
        some (subI r2 (lenS a.Text))
 partial_fixpoint
def laws_szNodeS (a : List GNode) (left : Int) : Option (Int) :=
 if (ltI (subI left (lenL a)) 0) then
  some (-1)
 else
  laws_szNodeS_l16 a (subI left (lenL a)) 0
 partial_fixpoint
def laws_szNodeS_l16 (a : List GNode) (left1 : Int) (i : Int) : Option (Int) :=
 if (ltI i (lenL a)) then
  getI a i >>= fun x1 =>
  laws_szNode x1 left1 >>= fun r1 =>
  if (ltI r1 0) then
   some (-1)
  else
   laws_szNodeS_l16 a r1 (addI i 1)
 else
  some left1
 partial_fixpoint
end
def laws_toDecl (a : GDecl) : Option (GDecl) :=
 some a
def laws_toDeclS_l8 (a : List GDecl) (out : List (GDecl)) (i : Int) : Option (List GDecl) :=
 if (ltI i (lenL a)) then
  getI a i >>= fun x2 =>
  laws_toDecl x2 >>= fun r1 =>
  getI out i >>= fun x3 =>
  laws_toDeclS_l8 a (out.set (Int.toNat i) r1) (addI i 1)
 else
  some out
 partial_fixpoint
def laws_toDeclS (a : List GDecl) : Option (List GDecl) :=
 mkN (lenL a) 32 >>= fun m =>
 laws_toDeclS_l8 a (List.replicate m (GDecl.mk ⟨#[]⟩ ⟨#[]⟩)) 0
def laws_toAttr (a : GAttr) : Option (GAttr) :=
 some a
def laws_toAttrS_l8 (a : List GAttr) (out : List (GAttr)) (i : Int) : Option (List GAttr) :=
 if (ltI i (lenL a)) then
  getI a i >>= fun x2 =>
  laws_toAttr x2 >>= fun r1 =>
  getI out i >>= fun x3 =>
  laws_toAttrS_l8 a (out.set (Int.toNat i) r1) (addI i 1)
 else
  some out
 partial_fixpoint
def laws_toAttrS (a : List GAttr) : Option (List GAttr) :=
 mkN (lenL a) 64 >>= fun m =>
 laws_toAttrS_l8 a (List.replicate m (GAttr.mk ⟨#[]⟩ ⟨#[]⟩ ⟨#[]⟩ ⟨#[]⟩)) 0
mutual
def laws_toNode (a : GNode) : Option (GNode) :=
 laws_toDeclS a.Decls >>= fun r =>
 laws_toAttrS a.Attrs >>= fun r1 =>
 laws_toNodeS a.Kids >>= fun r2 =>
 some (GNode.mk a.Kind a.Pre a.Local a.Uri r r1 r2 a.Text)
 partial_fixpoint
def laws_toNodeS (a : List GNode) : Option (List GNode) :=
 mkN (lenL a) 144 >>= fun m =>
 laws_toNodeS_l8 a (List.replicate m (GNode.mk 0 ⟨#[]⟩ ⟨#[]⟩ ⟨#[]⟩ [] [] [] ⟨#[]⟩)) 0
 partial_fixpoint
def laws_toNodeS_l8 (a : List GNode) (out : List (GNode)) (i : Int) : Option (List GNode) :=
 if (ltI i (lenL a)) then
  getI a i >>= fun x2 =>
  laws_toNode x2 >>= fun r1 =>
  getI out i >>= fun x3 =>
  laws_toNodeS_l8 a (out.set (Int.toNat i) r1) (addI i 1)
 else
  some out
 partial_fixpoint
end
mutual
def spec_l5All (l : List GNode) : Option (List GNode) :=
 spec_l5All_l8 l [] 0
 partial_fixpoint
def spec_l5All_l8 (l : List GNode) (out : List (GNode)) (i : Int) : Option (List GNode) :=
 if (ltI i (lenL l)) then
  getI l i >>= fun x1 =>
  spec_l5Copy x1 >>= fun r1 =>
  room (out.length + 1) 144 >>= fun x_1 =>
  spec_l5All_l8 l (out ++ [r1]) (addI i 1)
 else
  some out
 partial_fixpoint
def spec_l5Copy (n : GNode) : Option (GNode) :=
 room (0 + n.Decls.length) 32 >>= fun x_ =>
 room (0 + n.Attrs.length) 64 >>= fun x_1 =>
 spec_l5All n.Kids >>= fun r =>
 some (GNode.mk n.Kind n.Pre n.Local n.Uri ([] ++ n.Decls) ([] ++ n.Attrs) r n.Text)
 partial_fixpoint
end
def spec_Inner (l : List GDecl) (more : List GDecl) : Option (List GDecl) :=
 room (0 + l.length) 32 >>= fun x_ =>
 room ((0 + l.length) + more.length) 32 >>= fun x_1 =>
 some (([] ++ l) ++ more)
def spec_SpaceOf_l6 (l : List GDecl) (pre : ByteArray) (i : Int) : Option (ByteArray × Bool) :=
 if (geI i 0) then
  getI l i >>= fun x1 =>
  if (eqS x1.Pre pre) then
   some (x1.Uri, true)
  else
   spec_SpaceOf_l6 l pre (subI i 1)
 else
  some (⟨#[]⟩, (eqS pre (⟨#[]⟩)))
 partial_fixpoint
def spec_SpaceOf (l : List GDecl) (pre : ByteArray) : Option (ByteArray × Bool) :=
 spec_SpaceOf_l6 l pre (subI (lenL l) 1)
def spec_l5Less (a : GAttr) (b : GAttr) : Option (Bool) :=
 if (ltS a.Uri b.Uri) then
  some true
 else
  if (eqS a.Uri b.Uri) then
   some (ltS a.Local b.Local)
  else
   some false
mutual
def spec_l8Attrs_l20 (out2 : List (GAttr)) (i : Int) (k1 : Int) : Option (List GAttr) :=
 if (gtI k1 0) then
  getI out2 k1 >>= fun x18 =>
  getI out2 (subI k1 1) >>= fun x19 =>
  spec_l5Less x18 x19 >>= fun r3 =>
  if r3 then
   getI out2 k1 >>= fun x20 =>
   getI out2 (subI k1 1) >>= fun x21 =>
   getI out2 k1 >>= fun x22 =>
   getI (out2.set (Int.toNat k1) x21) (subI k1 1) >>= fun x23 =>
   spec_l8Attrs_l20 ((out2.set (Int.toNat k1) x21).set (Int.toNat (subI k1 1)) x20) i (subI k1 1)
  else
   spec_l8Attrs_l8 out2 (addI i 1)
 else
  spec_l8Attrs_l8 out2 (addI i 1)
 partial_fixpoint
def spec_l8Attrs_l8 (out1 : List (GAttr)) (i : Int) : Option (List GAttr) :=
 if (ltI i (lenL out1)) then
  spec_l8Attrs_l20 out1 i i
 else
  some out1
 partial_fixpoint
end
def spec_l8Attrs (l : List GAttr) : Option (List GAttr) :=
 room (0 + l.length) 64 >>= fun x_ =>
 spec_l8Attrs_l8 ([] ++ l) 1
mutual
def spec_l14Rename (n : GNode) (in1 : List GDecl) : Option (GNode × Bool) :=
 spec_l5Copy n >>= fun r =>
 spec_Inner in1 n.Decls >>= fun r1 =>
 if (eqI n.Kind 1) then
  spec_SpaceOf r1 n.Pre >>= fun r2 =>
  spec_l14Rename_j8 r1 r2.2 n r r2.1
 else
  spec_l14Rename_j8 r1 true n r r.Uri
 partial_fixpoint
def spec_l14Rename_j8 (r1 : List GDecl) (good : Bool) (n : GNode) (r : GNode) (outUri : ByteArray) : Option (GNode × Bool) :=
 spec_l14Rename_l22 r1 good 0 n r outUri r.Attrs
 partial_fixpoint
def spec_l14Rename_l47 (r1 : List GDecl) (good3 : Bool) (i2 : Int) (n : GNode) (r : GNode) (outUri : ByteArray) (r8 : List GAttr) (outKids1 : List (GNode)) : Option (GNode × Bool) :=
 if (ltI i2 (lenL n.Kids)) then
  getI n.Kids i2 >>= fun x10 =>
  spec_l14Rename x10 r1 >>= fun r10 =>
  getI outKids1 i2 >>= fun x11 =>
  if good3 then
   spec_l14Rename_l47 r1 r10.2 (addI i2 1) n r outUri r8 (outKids1.set (Int.toNat i2) r10.1)
  else
   spec_l14Rename_l47 r1 false (addI i2 1) n r outUri r8 (outKids1.set (Int.toNat i2) r10.1)
 else
  some ((GNode.mk r.Kind r.Pre r.Local outUri r.Decls r8 outKids1 r.Text), good3)
 partial_fixpoint
def spec_l14Rename_l22 (r1 : List GDecl) (good2 : Bool) (i1 : Int) (n : GNode) (r : GNode) (outUri : ByteArray) (outAttrs : List (GAttr)) : Option (GNode × Bool) :=
 if (ltI i1 (lenL n.Attrs)) then
  getI n.Attrs i1 >>= fun x6 =>
  if (neS x6.Pre (⟨#[]⟩)) then
   spec_SpaceOf r1 x6.Pre >>= fun r7 =>
   getI outAttrs i1 >>= fun x7 =>
   if good2 then
    spec_l14Rename_l22 r1 r7.2 (addI i1 1) n r outUri (outAttrs.set (Int.toNat i1) (GAttr.mk x7.Pre x7.Local r7.1 x7.Val))
   else
    spec_l14Rename_l22 r1 false (addI i1 1) n r outUri (outAttrs.set (Int.toNat i1) (GAttr.mk x7.Pre x7.Local r7.1 x7.Val))
  else
   spec_l14Rename_l22 r1 good2 (addI i1 1) n r outUri outAttrs
 else
  spec_l8Attrs outAttrs >>= fun r8 =>
  spec_l14Rename_l47 r1 good2 0 n r outUri r8 r.Kids
 partial_fixpoint
end
def pc_spec_l14Rename := @spec_l14Rename.mutual_partial_correctness
mutual
def spec_CountOf (n : GNode) : Option (Int) :=
 spec_CountOf_l8 (addI 1 (lenL n.Attrs)) 0 n
 partial_fixpoint
def spec_CountOf_l8 (k : Int) (i : Int) (n : GNode) : Option (Int) :=
 if (ltI i (lenL n.Kids)) then
  getI n.Kids i >>= fun x1 =>
  spec_CountOf x1 >>= fun r1 =>
  spec_CountOf_l8 (addI k r1) (addI i 1) n
 else
  some k
 partial_fixpoint
end
def spec_l1In (a0 : Int) (least : Int) (most : Int) : Option (Bool) :=
 if (geI a0 least) then
  some (leI a0 most)
 else
  some false
def spec_SignAt_l55 (s : ByteArray) (at1 : Int) (n : Int) (least : Int) (v1 : Int) (i : Int) : Option (Int × Int × Bool) :=
 if (leI i n) then
  atS s (addI at1 i) >>= fun x4 =>
  if (ltI (wr .i64 x4) 128) then
   some (0, 0, false)
  else
   if (gtI (wr .i64 x4) 191) then
    some (0, 0, false)
   else
    spec_SignAt_l55 s at1 n least (subI (addI (mulI v1 64) (wr .i64 x4)) 128) (addI i 1)
 else
  if (ltI v1 least) then
   some (0, 0, false)
  else
   if (gtI v1 1114111) then
    some (0, 0, false)
   else
    spec_l1In v1 55296 57343 >>= fun r1 =>
    if r1 then
     some (0, 0, false)
    else
     some (v1, (addI (addI at1 1) n), true)
 partial_fixpoint
def pc_spec_SignAt_l55 := @spec_SignAt_l55.partial_correctness
def spec_SignAt_j26 (s : ByteArray) (at1 : Int) (n : Int) (least : Int) (v : Int) : Option (Int × Int × Bool) :=
 if (gtI at1 (subI (subI (lenS s) 1) n)) then
  some (0, 0, false)
 else
  spec_SignAt_l55 s at1 n least v 1
def spec_SignAt_j32 (s : ByteArray) (at1 : Int) (x : Int) (x2 : Bool) : Option (Int × Int × Bool) :=
 if x2 then
  spec_SignAt_j26 s at1 2 2048 (andK .i64 (wr .i64 x) 15)
 else
  if (geI (wr .i64 x) 240) then
   if (ltI (wr .i64 x) 248) then
    spec_SignAt_j26 s at1 3 65536 (andK .i64 (wr .i64 x) 7)
   else
    some (0, 0, false)
  else
   some (0, 0, false)
def spec_SignAt_j28 (s : ByteArray) (at1 : Int) (x : Int) (x1 : Bool) : Option (Int × Int × Bool) :=
 if x1 then
  spec_SignAt_j26 s at1 1 128 (andK .i64 (wr .i64 x) 31)
 else
  if (geI (wr .i64 x) 224) then
   spec_SignAt_j32 s at1 x (ltI (wr .i64 x) 240)
  else
   spec_SignAt_j32 s at1 x false
def spec_SignAt (s : ByteArray) (at1 : Int) : Option (Int × Int × Bool) :=
 if (ltI at1 0) then
  some (0, 0, false)
 else
  if (geI at1 (lenS s)) then
   some (0, 0, false)
  else
   atS s at1 >>= fun x =>
   if (ltI (wr .i64 x) 128) then
    some ((wr .i64 x), (addI at1 1), true)
   else
    if (geI (wr .i64 x) 192) then
     spec_SignAt_j28 s at1 x (ltI (wr .i64 x) 224)
    else
     spec_SignAt_j28 s at1 x false
def spec_l1Ranges_l6 (n : Int) (l : List Int) (i : Int) : Option (Bool) :=
 if (ltI (addI i 1) (lenL l)) then
  getI l i >>= fun x2 =>
  getI l (addI i 1) >>= fun x3 =>
  spec_l1In n x2 x3 >>= fun r1 =>
  if r1 then
   some true
  else
   spec_l1Ranges_l6 n l (addI i 2)
 else
  some false
 partial_fixpoint
def spec_l1Ranges (n : Int) (l : List Int) : Option (Bool) :=
 spec_l1Ranges_l6 n l 0
def spec_IsStart (n : Int) : Option (Bool) :=
 spec_l1Ranges n [65, 90, 95, 95, 97, 122, 192, 214, 216, 246, 248, 767, 880, 893, 895, 8191, 8204, 8205, 8304, 8591, 11264, 12271, 12289, 55295, 63744, 64975, 65008, 65533, 65536, 983039] >>= fun r =>
 some r
def spec_IsPart (n : Int) : Option (Bool) :=
 spec_IsStart n >>= fun r =>
 if r then
  some true
 else
  spec_l1Ranges n [45, 46, 48, 57, 183, 183, 768, 879, 8255, 8256] >>= fun r1 =>
  some r1
def spec_PlainOk_l14 (s : ByteArray) (at1 : Int) : Option (Bool) :=
 if (ltI at1 (lenS s)) then
  spec_SignAt s at1 >>= fun r5 =>
  if r5.2.2 then
   if (eqI at1 0) then
    spec_IsStart r5.1 >>= fun r6 =>
    if r6 then
     spec_IsPart r5.1 >>= fun r7 =>
     if r7 then
      spec_PlainOk_l14 s r5.2.1
     else
      some false
    else
     some false
   else
    spec_IsPart r5.1 >>= fun r8 =>
    if r8 then
     spec_PlainOk_l14 s r5.2.1
    else
     some false
  else
   some false
 else
  some true
 partial_fixpoint
def spec_PlainOk (s : ByteArray) : Option (Bool) :=
 spec_l1In (lenS s) 1 16 >>= fun r =>
 if r then
  spec_PlainOk_l14 s 0
 else
  some false
def spec_l4Xml (s : ByteArray) : Option (Bool) :=
 if (geI (lenS s) 3) then
  subS s 0 3 >>= fun x =>
  some (eqS x (⟨#[120, 109, 108]⟩))
 else
  some false
def spec_l5Pre (s : ByteArray) : Option (Bool) :=
 if (eqS s (⟨#[]⟩)) then
  some true
 else
  spec_PlainOk s >>= fun r =>
  if r then
   spec_l4Xml s >>= fun r1 =>
   some (!r1)
  else
   some false
def spec_IsSign (n : Int) : Option (Bool) :=
 if (eqI n 9) then
  some true
 else
  if (eqI n 10) then
   some true
  else
   if (eqI n 13) then
    some true
   else
    spec_l1In n 32 55295 >>= fun r =>
    if r then
     some true
    else
     spec_l1In n 57344 65533 >>= fun r1 =>
     if r1 then
      some true
     else
      spec_l1In n 65536 1114111 >>= fun r2 =>
      some r2
def spec_l1Signs_l6 (s : ByteArray) (at1 : Int) : Option (Bool) :=
 if (ltI at1 (lenS s)) then
  spec_SignAt s at1 >>= fun r2 =>
  if r2.2.2 then
   spec_IsSign r2.1 >>= fun r3 =>
   if r3 then
    spec_l1Signs_l6 s r2.2.1
   else
    some false
  else
   some false
 else
  some (leI (lenS s) 1500)
 partial_fixpoint
def spec_l1Signs (s : ByteArray) : Option (Bool) :=
 spec_l1Signs_l6 s 0
def spec_TextOk (s : ByteArray) : Option (Bool) :=
 if (leI (lenS s) 600) then
  spec_l1Signs s >>= fun r =>
  some r
 else
  some false
def spec_DeclOk_j2 (d : GDecl) : Option (Bool) :=
 spec_TextOk d.Uri >>= fun r2 =>
 if r2 then
  some (leI (lenS d.Uri) 40)
 else
  some false
def spec_DeclOk (d : GDecl) : Option (Bool) :=
 if (neS d.Pre (⟨#[]⟩)) then
  spec_PlainOk d.Pre >>= fun r =>
  if r then
   spec_l4Xml d.Pre >>= fun r1 =>
   if r1 then
    some false
   else
    if (eqS d.Uri (⟨#[]⟩)) then
     some false
    else
     spec_DeclOk_j2 d
  else
   some false
 else
  spec_DeclOk_j2 d
def spec_DeclsOk_l6 (l : List GDecl) (i : Int) : Option (Bool) :=
 if (ltI i (lenL l)) then
  getI l i >>= fun x2 =>
  spec_DeclOk x2 >>= fun r1 =>
  if r1 then
   if (gtI i 0) then
    getI l (subI i 1) >>= fun x3 =>
    if (geS x3.Pre x2.Pre) then
     some false
    else
     spec_DeclsOk_l6 l (addI i 1)
   else
    spec_DeclsOk_l6 l (addI i 1)
  else
   some false
 else
  some (leI (lenL l) 4)
 partial_fixpoint
def spec_DeclsOk (l : List GDecl) : Option (Bool) :=
 spec_DeclsOk_l6 l 0
def spec_l5Bare (n : GNode) : Option (Bool) :=
 if (eqS n.Pre (⟨#[]⟩)) then
  if (eqS n.Uri (⟨#[]⟩)) then
   if (eqI (lenL n.Decls) 0) then
    if (eqI (lenL n.Attrs) 0) then
     some (eqI (lenL n.Kids) 0)
    else
     some false
   else
    some false
  else
   some false
 else
  some false
def spec_l5Has_l6 (s : ByteArray) (t : ByteArray) (i : Int) : Option (Bool) :=
 if (leI (addI i (lenS t)) (lenS s)) then
  subS s i (addI i (lenS t)) >>= fun x1 =>
  if (eqS x1 t) then
   some true
  else
   spec_l5Has_l6 s t (addI i 1)
 else
  some false
 partial_fixpoint
def spec_l5Has (s : ByteArray) (t : ByteArray) : Option (Bool) :=
 spec_l5Has_l6 s t 0
def spec_l5Xml (s : ByteArray) : Option (Bool) :=
 if (neI (lenS s) 3) then
  some false
 else
  atS s 0 >>= fun x =>
  if (eqI x 120) then
   atS s 1 >>= fun x1 =>
   if (eqI x1 109) then
    atS s 2 >>= fun x2 =>
    if (eqI x2 108) then
     some true
    else
     atS s 2 >>= fun x3 =>
     some (eqI x3 76)
   else
    atS s 1 >>= fun x4 =>
    if (eqI x4 77) then
     atS s 2 >>= fun x5 =>
     if (eqI x5 108) then
      some true
     else
      atS s 2 >>= fun x6 =>
      some (eqI x6 76)
    else
     some false
  else
   atS s 0 >>= fun x7 =>
   if (eqI x7 88) then
    atS s 1 >>= fun x8 =>
    if (eqI x8 109) then
     atS s 2 >>= fun x9 =>
     if (eqI x9 108) then
      some true
     else
      atS s 2 >>= fun x10 =>
      some (eqI x10 76)
    else
     atS s 1 >>= fun x11 =>
     if (eqI x11 77) then
      atS s 2 >>= fun x12 =>
      if (eqI x12 108) then
       some true
      else
       atS s 2 >>= fun x13 =>
       some (eqI x13 76)
     else
      some false
   else
    some false
def spec_IsBlank (n : Int) : Option (Bool) :=
 if (eqI n 9) then
  some true
 else
  if (eqI n 10) then
   some true
  else
   if (eqI n 13) then
    some true
   else
    some (eqI n 32)
def spec_l5AttrOk_j2 (a : GAttr) : Option (Bool) :=
 spec_TextOk a.Val >>= fun r2 =>
 if r2 then
  spec_TextOk a.Uri >>= fun r3 =>
  if r3 then
   some (leI (lenS a.Uri) 40)
  else
   some false
 else
  some false
def spec_l5AttrOk (a : GAttr) : Option (Bool) :=
 spec_l5Pre a.Pre >>= fun r =>
 if r then
  if (neB (eqS a.Pre (⟨#[]⟩)) (eqS a.Uri (⟨#[]⟩))) then
   some false
  else
   spec_PlainOk a.Local >>= fun r1 =>
   if r1 then
    if (eqS a.Pre (⟨#[]⟩)) then
     if (eqS a.Local (⟨#[120, 109, 108, 110, 115]⟩)) then
      some false
     else
      spec_l5AttrOk_j2 a
    else
     spec_l5AttrOk_j2 a
   else
    some false
 else
  some false
def spec_l5One_l21 (i : Int) (n : GNode) : Option (Bool) :=
 if (ltI i (lenL n.Attrs)) then
  getI n.Attrs i >>= fun x2 =>
  spec_l5AttrOk x2 >>= fun r8 =>
  if r8 then
   if (gtI i 0) then
    getI n.Attrs (subI i 1) >>= fun x3 =>
    spec_l5Less x3 x2 >>= fun r9 =>
    if r9 then
     spec_l5One_l21 (addI i 1) n
    else
     some false
   else
    spec_l5One_l21 (addI i 1) n
  else
   some false
 else
  some true
 partial_fixpoint
def spec_l5One_j9 (n : GNode) : Option (Bool) :=
 spec_l5One_l21 0 n
def spec_l5One (n : GNode) : Option (Bool) :=
 if (eqI n.Kind 1) then
  spec_l5Pre n.Pre >>= fun r =>
  if r then
   spec_PlainOk n.Local >>= fun r1 =>
   if r1 then
    if (neS n.Text (⟨#[]⟩)) then
     some false
    else
     if (neS n.Pre (⟨#[]⟩)) then
      if (eqS n.Uri (⟨#[]⟩)) then
       some false
      else
       spec_TextOk n.Uri >>= fun r2 =>
       if r2 then
        if (gtI (lenS n.Uri) 40) then
         some false
        else
         spec_DeclsOk n.Decls >>= fun r3 =>
         if r3 then
          if (gtI (lenL n.Attrs) 5) then
           some false
          else
           spec_l5One_j9 n
         else
          some false
       else
        some false
     else
      spec_TextOk n.Uri >>= fun r4 =>
      if r4 then
       if (gtI (lenS n.Uri) 40) then
        some false
       else
        spec_DeclsOk n.Decls >>= fun r5 =>
        if r5 then
         if (gtI (lenL n.Attrs) 5) then
          some false
         else
          spec_l5One_j9 n
        else
         some false
      else
       some false
   else
    some false
  else
   some false
 else
  if (eqI n.Kind 2) then
   spec_l5Bare n >>= fun r10 =>
   if r10 then
    if (eqS n.Local (⟨#[]⟩)) then
     if (neS n.Text (⟨#[]⟩)) then
      spec_TextOk n.Text >>= fun r11 =>
      some r11
     else
      some false
    else
     some false
   else
    some false
  else
   if (eqI n.Kind 3) then
    spec_l5Bare n >>= fun r12 =>
    if r12 then
     if (eqS n.Local (⟨#[]⟩)) then
      spec_TextOk n.Text >>= fun r13 =>
      if r13 then
       spec_l5Has n.Text (⟨#[45, 45]⟩) >>= fun r14 =>
       if r14 then
        some false
       else
        spec_l5Has n.Text (⟨#[13]⟩) >>= fun r15 =>
        if r15 then
         some false
        else
         if (eqS n.Text (⟨#[]⟩)) then
          some true
         else
          atS n.Text (subI (lenS n.Text) 1) >>= fun x4 =>
          some (neI x4 45)
      else
       some false
     else
      some false
    else
     some false
   else
    if (eqI n.Kind 4) then
     spec_l5Bare n >>= fun r16 =>
     if r16 then
      spec_PlainOk n.Local >>= fun r17 =>
      if r17 then
       spec_l5Xml n.Local >>= fun r18 =>
       if r18 then
        some false
       else
        spec_TextOk n.Text >>= fun r19 =>
        if r19 then
         spec_l5Has n.Text (⟨#[63, 62]⟩) >>= fun r20 =>
         if r20 then
          some false
         else
          spec_l5Has n.Text (⟨#[13]⟩) >>= fun r21 =>
          if r21 then
           some false
          else
           if (eqS n.Text (⟨#[]⟩)) then
            some true
           else
            atS n.Text 0 >>= fun x5 =>
            spec_IsBlank (wr .i64 x5) >>= fun r22 =>
            some (!r22)
        else
         some false
      else
       some false
     else
      some false
    else
     some false
mutual
def spec_l5Kids (l : List GNode) (deep : Int) : Option (Bool) :=
 spec_l5Kids_l6 l deep 0
 partial_fixpoint
def spec_l5Kids_j17 (l : List GNode) (deep : Int) (i : Int) (x2 : GNode) : Option (Bool) :=
 if (eqI x2.Kind 1) then
  if (eqI deep 7) then
   some false
  else
   spec_l5Kids x2.Kids (addI deep 1) >>= fun r3 =>
   if r3 then
    spec_l5Kids_l6 l deep (addI i 1)
   else
    some false
 else
  spec_l5Kids_l6 l deep (addI i 1)
 partial_fixpoint
def spec_l5Kids_l6 (l : List GNode) (deep : Int) (i : Int) : Option (Bool) :=
 if (ltI i (lenL l)) then
  getI l i >>= fun x2 =>
  spec_l5One x2 >>= fun r2 =>
  if r2 then
   if (eqI x2.Kind 2) then
    if (gtI i 0) then
     getI l (subI i 1) >>= fun x3 =>
     if (eqI x3.Kind 2) then
      some false
     else
      spec_l5Kids_j17 l deep i x2
    else
     spec_l5Kids_j17 l deep i x2
   else
    spec_l5Kids_j17 l deep i x2
  else
   some false
 else
  some true
 partial_fixpoint
end
mutual
def spec_NodeOk_j33 (k2 : Int) (i : Int) (n : GNode) : Option (Bool) :=
 getI n.Kids i >>= fun x3 =>
 if (eqI x3.Kind 2) then
  some false
 else
  spec_NodeOk_l24 k2 (addI i 1) n
 partial_fixpoint
def spec_NodeOk_l24 (k1 : Int) (i : Int) (n : GNode) : Option (Bool) :=
 if (ltI i (lenL n.Kids)) then
  getI n.Kids i >>= fun x2 =>
  if (eqI x2.Kind 1) then
   spec_NodeOk_j33 (addI k1 1) i n
  else
   spec_NodeOk_j33 k1 i n
 else
  if (eqI k1 1) then
   if (eqS n.Pre (⟨#[]⟩)) then
    if (eqS n.Local (⟨#[]⟩)) then
     if (eqS n.Uri (⟨#[]⟩)) then
      if (eqS n.Text (⟨#[]⟩)) then
       if (eqI (lenL n.Decls) 0) then
        if (eqI (lenL n.Attrs) 0) then
         spec_l5Kids n.Kids 0 >>= fun r3 =>
         some r3
        else
         some false
       else
        some false
      else
       some false
     else
      some false
    else
     some false
   else
    some false
  else
   some false
 partial_fixpoint
end
def spec_NodeOk (n : GNode) : Option (Bool) :=
 spec_CountOf n >>= fun r =>
 if (gtI r 60) then
  some false
 else
  if (neI n.Kind 0) then
   spec_l5Kids [n] 0 >>= fun r1 =>
   some r1
  else
   spec_NodeOk_l24 0 0 n
def spec_Rename (n : GNode) (l : List GDecl) : Option (GNode × Bool) :=
 spec_l14Rename n l >>= fun r =>
 if r.2 then
  spec_NodeOk r.1 >>= fun r1 =>
  if r1 then
   some (r.1, true)
  else
   spec_l5Copy n >>= fun r2 =>
   some (r2, false)
 else
  spec_l5Copy n >>= fun r3 =>
  some (r3, false)
def slices_Clone_Decl (s : List (GDecl)) : Option (List GDecl) :=
 room s.length 32 >>= fun _ => some s
def slices_Clone_Attr (s : List (GAttr)) : Option (List GAttr) :=
 room s.length 64 >>= fun _ => some s
mutual
def impl_cloneNode (n : GNode) : Option (GNode) :=
 slices_Clone_Decl n.Decls >>= fun r =>
 slices_Clone_Attr n.Attrs >>= fun r1 =>
 impl_cloneNodes n.Kids >>= fun r2 =>
 some (GNode.mk n.Kind n.Pre n.Local n.Uri r r1 r2 n.Text)
 partial_fixpoint
def impl_cloneNodes (l : List GNode) : Option (List GNode) :=
 impl_cloneNodes_l8 [] l 0
 partial_fixpoint
def impl_cloneNodes_l8 (out : List (GNode)) (l : List GNode) (x1 : Int) : Option (List GNode) :=
 if (ltI x1 (lenL l)) then
  getI l x1 >>= fun x2 =>
  impl_cloneNode x2 >>= fun r1 =>
  room (out.length + 1) 144 >>= fun x_1 =>
  impl_cloneNodes_l8 (out ++ [r1]) l (addI x1 1)
 else
  some out
 partial_fixpoint
end
def slices_Concat_Decl (s : List (List (GDecl))) : Option (List GDecl) :=
 match s with | [l, m] => if (l.length + m.length) * 32 ≤ 140737488351232 ∧ l.length + m.length ≤ 1000000000000 then some (l ++ m) else none | _ => none
def impl_Inner (l : List GDecl) (more : List GDecl) : Option (List GDecl) :=
 slices_Concat_Decl [l, more] >>= fun r =>
 some r
def impl_SpaceOf (l : List (GDecl)) (p : ByteArray) : Option (ByteArray × Bool) :=
 if l.length ≤ 1000000000000 then some (spaceL (l.map fun x => (x.Pre, x.Uri)) p) else none
def strings_Compare (s : ByteArray) (t : ByteArray) : Option (Int) :=
 some (compareB s t)
def impl_compareAttrs (a : GAttr) (b : GAttr) : Option (Int) :=
 strings_Compare a.Uri b.Uri >>= fun r =>
 if (neI r 0) then
  some r
 else
  strings_Compare a.Local b.Local >>= fun r1 =>
  some r1
mutual
def slices_insertionSortCmpFunc_Attr_compareAttrs_l15 (data3 : List (GAttr)) (a : Int) (b : Int) (i : Int) (j1 : Int) : Option (List (GAttr)) :=
 if (gtI j1 a) then
  getI data3 j1 >>= fun x18 =>
  getI data3 (subI j1 1) >>= fun x19 =>
  impl_compareAttrs x18 x19 >>= fun r3 =>
  if (ltI r3 0) then
   getI data3 (subI j1 1) >>= fun x20 =>
   getI data3 j1 >>= fun x21 =>
   getI data3 j1 >>= fun x22 =>
   getI (data3.set (Int.toNat j1) x20) (subI j1 1) >>= fun x23 =>
   slices_insertionSortCmpFunc_Attr_compareAttrs_l15 ((data3.set (Int.toNat j1) x20).set (Int.toNat (subI j1 1)) x21) a b i (subI j1 1)
  else
   slices_insertionSortCmpFunc_Attr_compareAttrs_l3 data3 a b (addI i 1)
 else
  slices_insertionSortCmpFunc_Attr_compareAttrs_l3 data3 a b (addI i 1)
 partial_fixpoint
def slices_insertionSortCmpFunc_Attr_compareAttrs_l3 (data2 : List (GAttr)) (a : Int) (b : Int) (i : Int) : Option (List (GAttr)) :=
 if (ltI i b) then
  slices_insertionSortCmpFunc_Attr_compareAttrs_l15 data2 a b i i
 else
  some data2
 partial_fixpoint
end
def slices_insertionSortCmpFunc_Attr_compareAttrs (data : List (GAttr)) (a : Int) (b : Int) : Option (List (GAttr)) :=
 slices_insertionSortCmpFunc_Attr_compareAttrs_l3 data a b (addI a 1)
def slices_symMergeCmpFunc_Attr_compareAttrs_l29 (data2 : List (GAttr)) (i : Int) (k1 : Int) : Option (List (GAttr)) :=
 if (ltI k1 (subI i 1)) then
  getI data2 (addI k1 1) >>= fun x18 =>
  getI data2 k1 >>= fun x19 =>
  getI data2 k1 >>= fun x20 =>
  getI (data2.set (Int.toNat k1) x18) (addI k1 1) >>= fun x21 =>
  slices_symMergeCmpFunc_Attr_compareAttrs_l29 ((data2.set (Int.toNat k1) x18).set (Int.toNat (addI k1 1)) x19) i (addI k1 1)
 else
  some data2
 partial_fixpoint
def slices_symMergeCmpFunc_Attr_compareAttrs_l10 (data : List (GAttr)) (a : Int) (i : Int) (j : Int) : Option (List (GAttr)) :=
 if (ltI i j) then
  shrK .u64 (wr .u64 (addI i j)) 1 >>= fun x11 =>
  getI data (wr .i64 x11) >>= fun x12 =>
  getI data a >>= fun x13 =>
  impl_compareAttrs x12 x13 >>= fun r1 =>
  if (ltI r1 0) then
   slices_symMergeCmpFunc_Attr_compareAttrs_l10 data a (addI (wr .i64 x11) 1) j
  else
   slices_symMergeCmpFunc_Attr_compareAttrs_l10 data a i (wr .i64 x11)
 else
  slices_symMergeCmpFunc_Attr_compareAttrs_l29 data i a
 partial_fixpoint
def slices_symMergeCmpFunc_Attr_compareAttrs_l71 (data4 : List (GAttr)) (i1 : Int) (k3 : Int) : Option (List (GAttr)) :=
 if (gtI k3 i1) then
  getI data4 (subI k3 1) >>= fun x40 =>
  getI data4 k3 >>= fun x41 =>
  getI data4 k3 >>= fun x42 =>
  getI (data4.set (Int.toNat k3) x40) (subI k3 1) >>= fun x43 =>
  slices_symMergeCmpFunc_Attr_compareAttrs_l71 ((data4.set (Int.toNat k3) x40).set (Int.toNat (subI k3 1)) x41) i1 (subI k3 1)
 else
  some data4
 partial_fixpoint
def slices_symMergeCmpFunc_Attr_compareAttrs_l52 (data : List (GAttr)) (m : Int) (i1 : Int) (j1 : Int) : Option (List (GAttr)) :=
 if (ltI i1 j1) then
  shrK .u64 (wr .u64 (addI i1 j1)) 1 >>= fun x33 =>
  getI data m >>= fun x34 =>
  getI data (wr .i64 x33) >>= fun x35 =>
  impl_compareAttrs x34 x35 >>= fun r3 =>
  if (ltI r3 0) then
   slices_symMergeCmpFunc_Attr_compareAttrs_l52 data m i1 (wr .i64 x33)
  else
   slices_symMergeCmpFunc_Attr_compareAttrs_l52 data m (addI (wr .i64 x33) 1) j1
 else
  slices_symMergeCmpFunc_Attr_compareAttrs_l71 data i1 m
 partial_fixpoint
def slices_swapRangeCmpFunc_Attr_compareAttrs_l3 (data1 : List (GAttr)) (a : Int) (b : Int) (n : Int) (i : Int) : Option (List (GAttr)) :=
 if (ltI i n) then
  getI data1 (addI b i) >>= fun x4 =>
  getI data1 (addI a i) >>= fun x5 =>
  getI data1 (addI a i) >>= fun x6 =>
  getI (data1.set (Int.toNat (addI a i)) x4) (addI b i) >>= fun x7 =>
  slices_swapRangeCmpFunc_Attr_compareAttrs_l3 ((data1.set (Int.toNat (addI a i)) x4).set (Int.toNat (addI b i)) x5) a b n (addI i 1)
 else
  some data1
 partial_fixpoint
def slices_swapRangeCmpFunc_Attr_compareAttrs (data : List (GAttr)) (a : Int) (b : Int) (n : Int) : Option (List (GAttr)) :=
 slices_swapRangeCmpFunc_Attr_compareAttrs_l3 data a b n 0
def slices_rotateCmpFunc_Attr_compareAttrs_l6 (data1 : List (GAttr)) (m : Int) (i : Int) (j : Int) : Option (List (GAttr)) :=
 if (neI i j) then
  if (gtI i j) then
   slices_swapRangeCmpFunc_Attr_compareAttrs data1 (subI m i) m j >>= fun r3 =>
   sameL r3 data1 >>= fun _ =>
   slices_rotateCmpFunc_Attr_compareAttrs_l6 r3 m (subI i j) j
  else
   slices_swapRangeCmpFunc_Attr_compareAttrs data1 (subI m i) (subI (addI m j) i) i >>= fun r4 =>
   sameL r4 data1 >>= fun _ =>
   slices_rotateCmpFunc_Attr_compareAttrs_l6 r4 m i (subI j i)
 else
  slices_swapRangeCmpFunc_Attr_compareAttrs data1 (subI m i) m i >>= fun r5 =>
  sameL r5 data1 >>= fun _ =>
  some r5
 partial_fixpoint
def slices_rotateCmpFunc_Attr_compareAttrs (data : List (GAttr)) (a : Int) (m : Int) (b : Int) : Option (List (GAttr)) :=
 slices_rotateCmpFunc_Attr_compareAttrs_l6 data m (subI m a) (subI b m)
mutual
def slices_symMergeCmpFunc_Attr_compareAttrs (data : List (GAttr)) (a : Int) (m : Int) (b : Int) : Option (List (GAttr)) :=
 if (eqI (subI m a) 1) then
  slices_symMergeCmpFunc_Attr_compareAttrs_l10 data a m b
 else
  if (eqI (subI b m) 1) then
   slices_symMergeCmpFunc_Attr_compareAttrs_l52 data m a m
  else
   shrK .u64 (wr .u64 (addI a b)) 1 >>= fun x44 =>
   if (gtI m (wr .i64 x44)) then
    slices_symMergeCmpFunc_Attr_compareAttrs_j90 data a m b x44 (subI (addI (wr .i64 x44) m) b) (wr .i64 x44)
   else
    slices_symMergeCmpFunc_Attr_compareAttrs_j90 data a m b x44 a m
 partial_fixpoint
def slices_symMergeCmpFunc_Attr_compareAttrs_j90 (data : List (GAttr)) (a : Int) (m : Int) (b : Int) (x44 : Int) (start : Int) (r4 : Int) : Option (List (GAttr)) :=
 slices_symMergeCmpFunc_Attr_compareAttrs_l104 data a m b x44 start r4
 partial_fixpoint
def slices_symMergeCmpFunc_Attr_compareAttrs_j121 (data7 : List (GAttr)) (a : Int) (b : Int) (x44 : Int) (start1 : Int) (m : Int) : Option (List (GAttr)) :=
 if (ltI a start1) then
  if (ltI start1 (wr .i64 x44)) then
   slices_symMergeCmpFunc_Attr_compareAttrs data7 a start1 (wr .i64 x44) >>= fun r12 =>
   sameL r12 data7 >>= fun _ =>
   slices_symMergeCmpFunc_Attr_compareAttrs_j127 r12 b x44 m start1
  else
   slices_symMergeCmpFunc_Attr_compareAttrs_j127 data7 b x44 m start1
 else
  slices_symMergeCmpFunc_Attr_compareAttrs_j127 data7 b x44 m start1
 partial_fixpoint
def slices_symMergeCmpFunc_Attr_compareAttrs_j127 (data8 : List (GAttr)) (b : Int) (x44 : Int) (m : Int) (start1 : Int) : Option (List (GAttr)) :=
 if (ltI (wr .i64 x44) (subI (addI (wr .i64 x44) m) start1)) then
  if (ltI (subI (addI (wr .i64 x44) m) start1) b) then
   slices_symMergeCmpFunc_Attr_compareAttrs data8 (wr .i64 x44) (subI (addI (wr .i64 x44) m) start1) b >>= fun r13 =>
   sameL r13 data8 >>= fun _ =>
   some r13
  else
   some data8
 else
  some data8
 partial_fixpoint
def slices_symMergeCmpFunc_Attr_compareAttrs_l104 (data : List (GAttr)) (a : Int) (m : Int) (b : Int) (x44 : Int) (start1 : Int) (r9 : Int) : Option (List (GAttr)) :=
 if (ltI start1 r9) then
  shrK .u64 (wr .u64 (addI start1 r9)) 1 >>= fun x48 =>
  getI data (subI (subI (addI (wr .i64 x44) m) 1) (wr .i64 x48)) >>= fun x49 =>
  getI data (wr .i64 x48) >>= fun x50 =>
  impl_compareAttrs x49 x50 >>= fun r10 =>
  if (ltI r10 0) then
   slices_symMergeCmpFunc_Attr_compareAttrs_l104 data a m b x44 start1 (wr .i64 x48)
  else
   slices_symMergeCmpFunc_Attr_compareAttrs_l104 data a m b x44 (addI (wr .i64 x48) 1) r9
 else
  if (ltI start1 m) then
   if (ltI m (subI (addI (wr .i64 x44) m) start1)) then
    slices_rotateCmpFunc_Attr_compareAttrs data start1 m (subI (addI (wr .i64 x44) m) start1) >>= fun r11 =>
    sameL r11 data >>= fun _ =>
    slices_symMergeCmpFunc_Attr_compareAttrs_j121 r11 a b x44 start1 m
   else
    slices_symMergeCmpFunc_Attr_compareAttrs_j121 data a b x44 start1 m
  else
   slices_symMergeCmpFunc_Attr_compareAttrs_j121 data a b x44 start1 m
 partial_fixpoint
end
def pc_slices_symMergeCmpFunc_Attr_compareAttrs := @slices_symMergeCmpFunc_Attr_compareAttrs.mutual_partial_correctness
theorem un_slices_symMergeCmpFunc_Attr_compareAttrs : True := by
 have := @slices_symMergeCmpFunc_Attr_compareAttrs.eq_1
 have := @slices_symMergeCmpFunc_Attr_compareAttrs_j90.eq_1
 have := @slices_symMergeCmpFunc_Attr_compareAttrs_j121.eq_1
 have := @slices_symMergeCmpFunc_Attr_compareAttrs_j127.eq_1
 have := @slices_symMergeCmpFunc_Attr_compareAttrs_l104.eq_1
 trivial
mutual
def slices_stableCmpFunc_Attr_compareAttrs_l34 (data7 : List (GAttr)) (n : Int) (blockSize1 : Int) (a4 : Int) (b4 : Int) : Option (List (GAttr)) :=
 if (leI b4 n) then
  slices_symMergeCmpFunc_Attr_compareAttrs data7 a4 (addI a4 blockSize1) b4 >>= fun r18 =>
  sameL r18 data7 >>= fun _ =>
  slices_stableCmpFunc_Attr_compareAttrs_l34 r18 n blockSize1 b4 (addI b4 (mulI 2 blockSize1))
 else
  if (ltI (addI a4 blockSize1) n) then
   slices_symMergeCmpFunc_Attr_compareAttrs data7 a4 (addI a4 blockSize1) n >>= fun r19 =>
   sameL r19 data7 >>= fun _ =>
   slices_stableCmpFunc_Attr_compareAttrs_l22 r19 n (mulI blockSize1 2)
  else
   slices_stableCmpFunc_Attr_compareAttrs_l22 data7 n (mulI blockSize1 2)
 partial_fixpoint
def slices_stableCmpFunc_Attr_compareAttrs_l22 (data6 : List (GAttr)) (n : Int) (blockSize1 : Int) : Option (List (GAttr)) :=
 if (ltI blockSize1 n) then
  slices_stableCmpFunc_Attr_compareAttrs_l34 data6 n blockSize1 0 (mulI 2 blockSize1)
 else
  some data6
 partial_fixpoint
end
def slices_stableCmpFunc_Attr_compareAttrs_l6 (data4 : List (GAttr)) (n : Int) (a2 : Int) (b2 : Int) : Option (List (GAttr)) :=
 if (leI b2 n) then
  slices_insertionSortCmpFunc_Attr_compareAttrs data4 a2 b2 >>= fun r10 =>
  sameL r10 data4 >>= fun _ =>
  slices_stableCmpFunc_Attr_compareAttrs_l6 r10 n b2 (addI b2 20)
 else
  slices_insertionSortCmpFunc_Attr_compareAttrs data4 a2 n >>= fun r11 =>
  sameL r11 data4 >>= fun _ =>
  slices_stableCmpFunc_Attr_compareAttrs_l22 r11 n 20
 partial_fixpoint
def slices_stableCmpFunc_Attr_compareAttrs (data : List (GAttr)) (n : Int) : Option (List (GAttr)) :=
 slices_stableCmpFunc_Attr_compareAttrs_l6 data n 0 20
def slices_SortStableFunc_Attr_compareAttrs (a0 : List (GAttr)) : Option (List (GAttr)) :=
 slices_stableCmpFunc_Attr_compareAttrs a0 (lenL a0) >>= fun r =>
 sameL r a0 >>= fun _ =>
 some r
mutual
def impl_renamed (n : GNode) (l : List GDecl) : Option (GNode × Bool) :=
 impl_cloneNode n >>= fun r =>
 impl_Inner l n.Decls >>= fun r1 =>
 if (eqI n.Kind 1) then
  impl_SpaceOf r1 n.Pre >>= fun r2 =>
  impl_renamed_j8 r1 r2.2 n r r2.1
 else
  impl_renamed_j8 r1 true n r r.Uri
 partial_fixpoint
def impl_renamed_j8 (r1 : List GDecl) (ok : Bool) (n : GNode) (r : GNode) (outUri : ByteArray) : Option (GNode × Bool) :=
 impl_renamed_l20 r1 ok n 0 r outUri r.Attrs
 partial_fixpoint
def impl_renamed_l47 (r1 : List GDecl) (ok3 : Bool) (n : GNode) (x12 : Int) (r : GNode) (outUri : ByteArray) (r8 : List (GAttr)) (outKids1 : List (GNode)) : Option (GNode × Bool) :=
 if (ltI x12 (lenL n.Kids)) then
  getI n.Kids x12 >>= fun x13 =>
  impl_renamed x13 r1 >>= fun r10 =>
  getI outKids1 x12 >>= fun x14 =>
  if ok3 then
   impl_renamed_l47 r1 r10.2 n (addI x12 1) r outUri r8 (outKids1.set (Int.toNat x12) r10.1)
  else
   impl_renamed_l47 r1 false n (addI x12 1) r outUri r8 (outKids1.set (Int.toNat x12) r10.1)
 else
  some ((GNode.mk r.Kind r.Pre r.Local outUri r.Decls r8 outKids1 r.Text), ok3)
 partial_fixpoint
def impl_renamed_l20 (r1 : List GDecl) (ok2 : Bool) (n : GNode) (x7 : Int) (r : GNode) (outUri : ByteArray) (outAttrs : List (GAttr)) : Option (GNode × Bool) :=
 if (ltI x7 (lenL n.Attrs)) then
  getI n.Attrs x7 >>= fun x8 =>
  if (neS x8.Pre (⟨#[]⟩)) then
   impl_SpaceOf r1 x8.Pre >>= fun r7 =>
   getI outAttrs x7 >>= fun x9 =>
   if ok2 then
    impl_renamed_l20 r1 r7.2 n (addI x7 1) r outUri (outAttrs.set (Int.toNat x7) (GAttr.mk x9.Pre x9.Local r7.1 x9.Val))
   else
    impl_renamed_l20 r1 false n (addI x7 1) r outUri (outAttrs.set (Int.toNat x7) (GAttr.mk x9.Pre x9.Local r7.1 x9.Val))
  else
   impl_renamed_l20 r1 ok2 n (addI x7 1) r outUri outAttrs
 else
  slices_SortStableFunc_Attr_compareAttrs outAttrs >>= fun r8 =>
  impl_renamed_l47 r1 ok2 n 0 r outUri r8 r.Kids
 partial_fixpoint
end
def pc_impl_renamed := @impl_renamed.mutual_partial_correctness
mutual
def impl_CountOf (n : GNode) : Option (Int) :=
 impl_CountOf_l8 (addI 1 (lenL n.Attrs)) n 0
 partial_fixpoint
def impl_CountOf_l8 (out : Int) (n : GNode) (x1 : Int) : Option (Int) :=
 if (ltI x1 (lenL n.Kids)) then
  getI n.Kids x1 >>= fun x2 =>
  impl_CountOf x2 >>= fun r1 =>
  impl_CountOf_l8 (addI out r1) n (addI x1 1)
 else
  some out
 partial_fixpoint
end
def impl_in (n : Int) (lo : Int) (hi : Int) : Option (Bool) :=
 if (geI n lo) then
  some (leI n hi)
 else
  some false
def unicode_utf8_DecodeRuneInString (s : ByteArray) : Option (Int × Int) :=
 some (decodeI s)
def impl_SignAt (s : ByteArray) (at1 : Int) : Option (Int × Int × Bool) :=
 impl_in at1 0 (subI (lenS s) 1) >>= fun r =>
 if r then
  subS s at1 (lenS s) >>= fun x =>
  unicode_utf8_DecodeRuneInString x >>= fun r1 =>
  if (eqI r1.1 65533) then
   if (leI r1.2 1) then
    some (0, 0, false)
   else
    some ((wr .i64 r1.1), (addI at1 r1.2), true)
  else
   some ((wr .i64 r1.1), (addI at1 r1.2), true)
 else
  some (0, 0, false)
def impl_inAny_1 (r : GArr2Int) (a1 : Int) : Option (Bool × Int) :=
 impl_in a1 r.xa0 r.xa1 >>= fun r1 =>
 some (r1, a1)
def slices_IndexFunc_A2int_inAny_1_l6 (s : List GArr2Int) (x1 : Int) (f : Int) : Option (Int × Int) :=
 if (ltI x1 (lenL s)) then
  getI s x1 >>= fun x2 =>
  impl_inAny_1 x2 f >>= fun r1 =>
  if r1.1 then
   some (x1, r1.2)
  else
   slices_IndexFunc_A2int_inAny_1_l6 s (addI x1 1) r1.2
 else
  some ((-1), f)
 partial_fixpoint
def slices_IndexFunc_A2int_inAny_1 (s : List GArr2Int) (fc0 : Int) : Option (Int × Int) :=
 slices_IndexFunc_A2int_inAny_1_l6 s 0 fc0
def slices_ContainsFunc_A2int_inAny_1 (s : List GArr2Int) (fc0 : Int) : Option (Bool × Int) :=
 slices_IndexFunc_A2int_inAny_1 s fc0 >>= fun r =>
 some ((geI r.1 0), r.2)
def impl_inAny (n : Int) (ranges : List GArr2Int) : Option (Bool) :=
 slices_ContainsFunc_A2int_inAny_1 ranges n >>= fun r =>
 some r.1
def impl_IsSign (n : Int) : Option (Bool) :=
 impl_inAny n [(GArr2Int.mk 9 10), (GArr2Int.mk 13 13), (GArr2Int.mk 32 55295), (GArr2Int.mk 57344 65533), (GArr2Int.mk 65536 1114111)] >>= fun r =>
 some r
def impl_signsOk_l6 (s : ByteArray) (at1 : Int) : Option (Bool) :=
 if (ltI at1 (lenS s)) then
  impl_SignAt s at1 >>= fun r2 =>
  if r2.2.2 then
   impl_IsSign r2.1 >>= fun r3 =>
   if r3 then
    impl_signsOk_l6 s r2.2.1
   else
    some false
  else
   some false
 else
  some true
 partial_fixpoint
def impl_signsOk (s : ByteArray) : Option (Bool) :=
 impl_signsOk_l6 s 0
def impl_TextOk (s : ByteArray) : Option (Bool) :=
 if (leI (lenS s) 600) then
  impl_signsOk s >>= fun r =>
  some r
 else
  some false
def strings_Contains (s : ByteArray) (t : ByteArray) : Option (Bool) :=
 if s.size < 4294967281 then some (containsB s t) else none
def internal_stringslite_HasSuffix (s : ByteArray) (suffix : ByteArray) : Option (Bool) :=
 if (geI (lenS s) (lenS suffix)) then
  subS s (subI (lenS s) (lenS suffix)) (lenS s) >>= fun x =>
  some (eqS x suffix)
 else
  some false
def strings_HasSuffix (s : ByteArray) (suffix : ByteArray) : Option (Bool) :=
 internal_stringslite_HasSuffix s suffix >>= fun r =>
 some r
def impl_noteOk (s : ByteArray) : Option (Bool) :=
 impl_TextOk s >>= fun r =>
 if r then
  strings_Contains s (⟨#[45, 45]⟩) >>= fun r1 =>
  if r1 then
   some false
  else
   strings_HasSuffix s (⟨#[45]⟩) >>= fun r2 =>
   if r2 then
    some false
   else
    strings_Contains s (⟨#[13]⟩) >>= fun r3 =>
    some (!r3)
 else
  some false
def impl_IsStart (n : Int) : Option (Bool) :=
 impl_inAny n [(GArr2Int.mk 65 90), (GArr2Int.mk 95 95), (GArr2Int.mk 97 122), (GArr2Int.mk 192 214), (GArr2Int.mk 216 246), (GArr2Int.mk 248 767), (GArr2Int.mk 880 893), (GArr2Int.mk 895 8191), (GArr2Int.mk 8204 8205), (GArr2Int.mk 8304 8591), (GArr2Int.mk 11264 12271), (GArr2Int.mk 12289 55295), (GArr2Int.mk 63744 64975), (GArr2Int.mk 65008 65533), (GArr2Int.mk 65536 983039)] >>= fun r =>
 some r
def impl_IsPart (n : Int) : Option (Bool) :=
 impl_IsStart n >>= fun r =>
 if r then
  some true
 else
  impl_inAny n [(GArr2Int.mk 45 46), (GArr2Int.mk 48 57), (GArr2Int.mk 183 183), (GArr2Int.mk 768 879), (GArr2Int.mk 8255 8256)] >>= fun r1 =>
  some r1
def impl_PlainOk_l6 (s : ByteArray) (at1 : Int) : Option (Bool) :=
 if (ltI at1 (lenS s)) then
  impl_SignAt s at1 >>= fun r5 =>
  if r5.2.2 then
   if (eqI at1 0) then
    impl_IsStart r5.1 >>= fun r6 =>
    if r6 then
     impl_IsPart r5.1 >>= fun r7 =>
     if r7 then
      impl_PlainOk_l6 s r5.2.1
     else
      some false
    else
     some false
   else
    impl_IsPart r5.1 >>= fun r8 =>
    if r8 then
     impl_PlainOk_l6 s r5.2.1
    else
     some false
  else
   some false
 else
  impl_in (lenS s) 1 16 >>= fun r9 =>
  some r9
 partial_fixpoint
def impl_PlainOk (s : ByteArray) : Option (Bool) :=
 impl_PlainOk_l6 s 0
def strings_EqualFold (s : ByteArray) (t : ByteArray) : Option (Bool) :=
 if s.size < 4294967281 ∧ xmlB t = true then some (foldB s t) else none
def impl_IsBlank (n : Int) : Option (Bool) :=
 if (eqI n 9) then
  some true
 else
  if (eqI n 10) then
   some true
  else
   if (eqI n 13) then
    some true
   else
    some (eqI n 32)
def impl_toldOk (local1 : ByteArray) (s : ByteArray) : Option (Bool) :=
 impl_PlainOk local1 >>= fun r =>
 if r then
  strings_EqualFold local1 (⟨#[120, 109, 108]⟩) >>= fun r1 =>
  if r1 then
   some false
  else
   impl_TextOk s >>= fun r2 =>
   if r2 then
    strings_Contains s (⟨#[63, 62]⟩) >>= fun r3 =>
    if r3 then
     some false
    else
     strings_Contains s (⟨#[13]⟩) >>= fun r4 =>
     if r4 then
      some false
     else
      if (eqS s (⟨#[]⟩)) then
       some true
      else
       atS s 0 >>= fun x =>
       impl_IsBlank (wr .i64 x) >>= fun r5 =>
       some (!r5)
   else
    some false
 else
  some false
def impl_leafOk_j2 (n : GNode) : Option (Bool) :=
 if (eqI n.Kind 2) then
  if (neS n.Text (⟨#[]⟩)) then
   impl_TextOk n.Text >>= fun r =>
   some r
  else
   some false
 else
  if (eqI n.Kind 3) then
   impl_noteOk n.Text >>= fun r1 =>
   some r1
  else
   if (eqI n.Kind 4) then
    impl_toldOk n.Local n.Text >>= fun r2 =>
    some r2
   else
    some false
def impl_leafOk (n : GNode) : Option (Bool) :=
 if (neS n.Pre (⟨#[]⟩)) then
  some false
 else
  if (neS n.Uri (⟨#[]⟩)) then
   some false
  else
   if (gtI (lenL n.Decls) 0) then
    some false
   else
    if (gtI (lenL n.Attrs) 0) then
     some false
    else
     if (gtI (lenL n.Kids) 0) then
      some false
     else
      if (neS n.Local (⟨#[]⟩)) then
       if (neI n.Kind 4) then
        some false
       else
        impl_leafOk_j2 n
      else
       impl_leafOk_j2 n
def internal_stringslite_HasPrefix (s : ByteArray) (prefix1 : ByteArray) : Option (Bool) :=
 if (geI (lenS s) (lenS prefix1)) then
  subS s 0 (lenS prefix1) >>= fun x =>
  some (eqS x prefix1)
 else
  some false
def strings_HasPrefix (s : ByteArray) (prefix1 : ByteArray) : Option (Bool) :=
 internal_stringslite_HasPrefix s prefix1 >>= fun r =>
 some r
def impl_preOk (s : ByteArray) : Option (Bool) :=
 if (eqS s (⟨#[]⟩)) then
  some true
 else
  impl_PlainOk s >>= fun r =>
  if r then
   strings_HasPrefix s (⟨#[120, 109, 108]⟩) >>= fun r1 =>
   some (!r1)
  else
   some false
def impl_uriOk (uri : ByteArray) (pre : ByteArray) : Option (Bool) :=
 impl_TextOk uri >>= fun r =>
 if r then
  if (leI (lenS uri) 40) then
   if (neS uri (⟨#[]⟩)) then
    some true
   else
    some (eqS pre (⟨#[]⟩))
  else
   some false
 else
  some false
def impl_DeclOk (d : GDecl) : Option (Bool) :=
 impl_preOk d.Pre >>= fun r =>
 if r then
  impl_uriOk d.Uri d.Pre >>= fun r1 =>
  some r1
 else
  some false
def impl_DeclsOk_l6 (l : List GDecl) (x2 : Int) : Option (Bool) :=
 if (ltI x2 (lenL l)) then
  getI l x2 >>= fun x3 =>
  impl_DeclOk x3 >>= fun r1 =>
  if r1 then
   if (gtI x2 0) then
    getI l (subI x2 1) >>= fun x4 =>
    if (geS x4.Pre x3.Pre) then
     some false
    else
     impl_DeclsOk_l6 l (addI x2 1)
   else
    impl_DeclsOk_l6 l (addI x2 1)
  else
   some false
 else
  some (leI (lenL l) 4)
 partial_fixpoint
def impl_DeclsOk (l : List GDecl) : Option (Bool) :=
 impl_DeclsOk_l6 l 0
def impl_attrOk (a : GAttr) : Option (Bool) :=
 impl_preOk a.Pre >>= fun r =>
 if r then
  if (neB (eqS a.Pre (⟨#[]⟩)) (eqS a.Uri (⟨#[]⟩))) then
   some false
  else
   impl_uriOk a.Uri a.Pre >>= fun r1 =>
   if r1 then
    impl_PlainOk a.Local >>= fun r2 =>
    if r2 then
     impl_TextOk a.Val >>= fun r3 =>
     if r3 then
      if (neS a.Pre (⟨#[]⟩)) then
       some true
      else
       some (neS a.Local (⟨#[120, 109, 108, 110, 115]⟩))
     else
      some false
    else
     some false
   else
    some false
 else
  some false
def impl_attrsOk_l6 (l : List GAttr) (x2 : Int) : Option (Bool) :=
 if (ltI x2 (lenL l)) then
  getI l x2 >>= fun x3 =>
  impl_attrOk x3 >>= fun r2 =>
  if r2 then
   if (gtI x2 0) then
    getI l (subI x2 1) >>= fun x4 =>
    impl_compareAttrs x4 x3 >>= fun r3 =>
    if (geI r3 0) then
     some false
    else
     impl_attrsOk_l6 l (addI x2 1)
   else
    impl_attrsOk_l6 l (addI x2 1)
  else
   some false
 else
  some (leI (lenL l) 5)
 partial_fixpoint
def impl_attrsOk (l : List GAttr) : Option (Bool) :=
 impl_attrsOk_l6 l 0
def impl_noTwoTexts_l6 (l : List GNode) (x2 : Int) : Option (Bool) :=
 if (ltI x2 (lenL l)) then
  getI l x2 >>= fun x3 =>
  if (gtI x2 0) then
   if (eqI x3.Kind 2) then
    getI l (subI x2 1) >>= fun x4 =>
    if (eqI x4.Kind 2) then
     some false
    else
     impl_noTwoTexts_l6 l (addI x2 1)
   else
    impl_noTwoTexts_l6 l (addI x2 1)
  else
   impl_noTwoTexts_l6 l (addI x2 1)
 else
  some true
 partial_fixpoint
def impl_noTwoTexts (l : List GNode) : Option (Bool) :=
 impl_noTwoTexts_l6 l 0
mutual
def impl_kidsOk (n : GNode) (deep : Int) : Option (Bool) :=
 impl_noTwoTexts n.Kids >>= fun r =>
 if r then
  slices_ContainsFunc_Node_kidsOk_1 n.Kids deep >>= fun r1 =>
  some (!r1.1)
 else
  some false
 partial_fixpoint
def impl_kidsOk_1 (k : GNode) (a1 : Int) : Option (Bool × Int) :=
 impl_partOk k a1 >>= fun r =>
 some ((!r), a1)
 partial_fixpoint
def impl_partOk (n : GNode) (deep : Int) : Option (Bool) :=
 if (neI n.Kind 1) then
  impl_leafOk n >>= fun r =>
  some r
 else
  if (geI deep 7) then
   some false
  else
   if (neS n.Text (⟨#[]⟩)) then
    some false
   else
    impl_preOk n.Pre >>= fun r1 =>
    if r1 then
     impl_uriOk n.Uri n.Pre >>= fun r2 =>
     if r2 then
      impl_PlainOk n.Local >>= fun r3 =>
      if r3 then
       impl_DeclsOk n.Decls >>= fun r4 =>
       if r4 then
        impl_attrsOk n.Attrs >>= fun r5 =>
        if r5 then
         impl_kidsOk n (addI deep 1) >>= fun r6 =>
         some r6
        else
         some false
       else
        some false
      else
       some false
     else
      some false
    else
     some false
 partial_fixpoint
def slices_ContainsFunc_Node_kidsOk_1 (s : List GNode) (fc0 : Int) : Option (Bool × Int) :=
 slices_IndexFunc_Node_kidsOk_1 s fc0 >>= fun r =>
 some ((geI r.1 0), r.2)
 partial_fixpoint
def slices_IndexFunc_Node_kidsOk_1 (s : List GNode) (fc0 : Int) : Option (Int × Int) :=
 slices_IndexFunc_Node_kidsOk_1_l6 s 0 fc0
 partial_fixpoint
def slices_IndexFunc_Node_kidsOk_1_l6 (s : List GNode) (x1 : Int) (f : Int) : Option (Int × Int) :=
 if (ltI x1 (lenL s)) then
  getI s x1 >>= fun x2 =>
  impl_kidsOk_1 x2 f >>= fun r1 =>
  if r1.1 then
   some (x1, r1.2)
  else
   slices_IndexFunc_Node_kidsOk_1_l6 s (addI x1 1) r1.2
 else
  some ((-1), f)
 partial_fixpoint
end
def impl_ofKind_l8 (kind : Int) (n : Int) (l : List GNode) (x1 : Int) : Option (Int) :=
 if (ltI x1 (lenL l)) then
  getI l x1 >>= fun x2 =>
  if (eqI x2.Kind kind) then
   impl_ofKind_l8 kind (addI n 1) l (addI x1 1)
  else
   impl_ofKind_l8 kind n l (addI x1 1)
 else
  some n
 partial_fixpoint
def impl_ofKind (l : List GNode) (kind : Int) : Option (Int) :=
 impl_ofKind_l8 kind 0 l 0
def impl_NodeOk_j18 (bare : Bool) (n : GNode) : Option (Bool) :=
 if bare then
  impl_ofKind n.Kids 1 >>= fun r2 =>
  if (eqI r2 1) then
   impl_ofKind n.Kids 2 >>= fun r3 =>
   if (eqI r3 0) then
    impl_kidsOk n 0 >>= fun r4 =>
    some r4
   else
    some false
  else
   some false
 else
  some false
def impl_NodeOk (n : GNode) : Option (Bool) :=
 impl_CountOf n >>= fun r =>
 if (gtI r 60) then
  some false
 else
  if (neI n.Kind 0) then
   impl_partOk n 0 >>= fun r1 =>
   some r1
  else
   if (eqS n.Pre (⟨#[]⟩)) then
    if (eqS n.Local (⟨#[]⟩)) then
     if (eqS n.Uri (⟨#[]⟩)) then
      if (eqS n.Text (⟨#[]⟩)) then
       if (eqI (lenL n.Decls) 0) then
        impl_NodeOk_j18 (eqI (lenL n.Attrs) 0) n
       else
        impl_NodeOk_j18 false n
      else
       impl_NodeOk_j18 false n
     else
      impl_NodeOk_j18 false n
    else
     impl_NodeOk_j18 false n
   else
    impl_NodeOk_j18 false n
def impl_Rename (n : GNode) (l : List GDecl) : Option (GNode × Bool) :=
 impl_renamed n l >>= fun r =>
 if r.2 then
  impl_NodeOk r.1 >>= fun r1 =>
  if r1 then
   some (r.1, true)
  else
   impl_cloneNode n >>= fun r2 =>
   some (r2, false)
 else
  impl_cloneNode n >>= fun r3 =>
  some (r3, false)
def laws_eqDecl (a : GDecl) (b : GDecl) : Option (Bool) :=
 if (neS a.Pre b.Pre) then
  some false
 else
  if (neS a.Uri b.Uri) then
   some false
  else
   some true
def laws_eqDeclS_l14 (a : List GDecl) (b : List GDecl) (i : Int) : Option (Bool) :=
 if (ltI i (lenL a)) then
  getI a i >>= fun x2 =>
  getI b i >>= fun x3 =>
  laws_eqDecl x2 x3 >>= fun r1 =>
  if r1 then
   laws_eqDeclS_l14 a b (addI i 1)
  else
   some false
 else
  some true
 partial_fixpoint
def laws_eqDeclS (a : List GDecl) (b : List GDecl) : Option (Bool) :=
 if (neI (lenL a) (lenL b)) then
  some false
 else
  laws_eqDeclS_l14 a b 0
def laws_eqAttr (a : GAttr) (b : GAttr) : Option (Bool) :=
 if (neS a.Pre b.Pre) then
  some false
 else
  if (neS a.Local b.Local) then
   some false
  else
   if (neS a.Uri b.Uri) then
    some false
   else
    if (neS a.Val b.Val) then
     some false
    else
     some true
def laws_eqAttrS_l14 (a : List GAttr) (b : List GAttr) (i : Int) : Option (Bool) :=
 if (ltI i (lenL a)) then
  getI a i >>= fun x2 =>
  getI b i >>= fun x3 =>
  laws_eqAttr x2 x3 >>= fun r1 =>
  if r1 then
   laws_eqAttrS_l14 a b (addI i 1)
  else
   some false
 else
  some true
 partial_fixpoint
def laws_eqAttrS (a : List GAttr) (b : List GAttr) : Option (Bool) :=
 if (neI (lenL a) (lenL b)) then
  some false
 else
  laws_eqAttrS_l14 a b 0
mutual
def laws_eqNode (a : GNode) (b : GNode) : Option (Bool) :=
 if (neI a.Kind b.Kind) then
  some false
 else
  if (neS a.Pre b.Pre) then
   some false
  else
   if (neS a.Local b.Local) then
    some false
   else
    if (neS a.Uri b.Uri) then
     some false
    else
     laws_eqDeclS a.Decls b.Decls >>= fun r =>
     if r then
      laws_eqAttrS a.Attrs b.Attrs >>= fun r1 =>
      if r1 then
       laws_eqNodeS a.Kids b.Kids >>= fun r2 =>
       if r2 then
        if (neS a.Text b.Text) then
         some false
        else
         some true
       else
        some false
      else
       some false
     else
      some false
 partial_fixpoint
def laws_eqNodeS (a : List GNode) (b : List GNode) : Option (Bool) :=
 if (neI (lenL a) (lenL b)) then
  some false
 else
  laws_eqNodeS_l14 a b 0
 partial_fixpoint
def laws_eqNodeS_l14 (a : List GNode) (b : List GNode) (i : Int) : Option (Bool) :=
 if (ltI i (lenL a)) then
  getI a i >>= fun x2 =>
  getI b i >>= fun x3 =>
  laws_eqNode x2 x3 >>= fun r1 =>
  if r1 then
   laws_eqNodeS_l14 a b (addI i 1)
  else
   some false
 else
  some true
 partial_fixpoint
end
def laws_markText_l14 (k1 : Int) (out : ByteArray) : Option (ByteArray) :=
 if (gtI k1 0) then
  remI k1 10 >>= fun x4 =>
  catS (⟨([UInt8.ofNat ((wr .u8 (addI 48 x4))).toNat]).toArray⟩) out >>= fun x5 =>
  quoI k1 10 >>= fun x6 =>
  laws_markText_l14 x6 x5
 else
  catS (⟨#[109]⟩) out >>= fun x7 =>
  some x7
 partial_fixpoint
def laws_markText (k : Int) : Option (ByteArray) :=
 if (leI k 0) then
  some (⟨#[109, 48]⟩)
 else
  laws_markText_l14 k (⟨#[]⟩)
def laws_markDeclS_l6 (a1 : List (GDecl)) (k1 : Int) (i : Int) : Option (Int × List (GDecl)) :=
 if (ltI i (lenL a1)) then
  laws_markText k1 >>= fun r2 =>
  getI a1 i >>= fun x2 =>
  laws_markText (addI k1 1) >>= fun r3 =>
  getI (a1.set (Int.toNat i) (GDecl.mk r2 x2.Uri)) i >>= fun x3 =>
  laws_markDeclS_l6 ((a1.set (Int.toNat i) (GDecl.mk r2 x2.Uri)).set (Int.toNat i) (GDecl.mk x3.Pre r3)) (addI (addI k1 1) 1) (addI i 1)
 else
  some (k1, a1)
 partial_fixpoint
def laws_markDeclS (a : List (GDecl)) (k : Int) : Option (Int × List (GDecl)) :=
 laws_markDeclS_l6 a k 0
def laws_markAttrS_l6 (a1 : List (GAttr)) (k1 : Int) (i : Int) : Option (Int × List (GAttr)) :=
 if (ltI i (lenL a1)) then
  laws_markText k1 >>= fun r4 =>
  getI a1 i >>= fun x4 =>
  laws_markText (addI k1 1) >>= fun r5 =>
  getI (a1.set (Int.toNat i) (GAttr.mk r4 x4.Local x4.Uri x4.Val)) i >>= fun x5 =>
  laws_markText (addI (addI k1 1) 1) >>= fun r6 =>
  getI ((a1.set (Int.toNat i) (GAttr.mk r4 x4.Local x4.Uri x4.Val)).set (Int.toNat i) (GAttr.mk x5.Pre r5 x5.Uri x5.Val)) i >>= fun x6 =>
  laws_markText (addI (addI (addI k1 1) 1) 1) >>= fun r7 =>
  getI (((a1.set (Int.toNat i) (GAttr.mk r4 x4.Local x4.Uri x4.Val)).set (Int.toNat i) (GAttr.mk x5.Pre r5 x5.Uri x5.Val)).set (Int.toNat i) (GAttr.mk x6.Pre x6.Local r6 x6.Val)) i >>= fun x7 =>
  laws_markAttrS_l6 ((((a1.set (Int.toNat i) (GAttr.mk r4 x4.Local x4.Uri x4.Val)).set (Int.toNat i) (GAttr.mk x5.Pre r5 x5.Uri x5.Val)).set (Int.toNat i) (GAttr.mk x6.Pre x6.Local r6 x6.Val)).set (Int.toNat i) (GAttr.mk x7.Pre x7.Local x7.Uri r7)) (addI (addI (addI (addI k1 1) 1) 1) 1) (addI i 1)
 else
  some (k1, a1)
 partial_fixpoint
def laws_markAttrS (a : List (GAttr)) (k : Int) : Option (Int × List (GAttr)) :=
 laws_markAttrS_l6 a k 0
mutual
def laws_markNodeS (a : List (GNode)) (k : Int) : Option (Int × List (GNode)) :=
 laws_markNodeS_l6 a k 0
 partial_fixpoint
def laws_markNodeS_l6 (a1 : List (GNode)) (k1 : Int) (i : Int) : Option (Int × List (GNode)) :=
 if (ltI i (lenL a1)) then
  getI a1 i >>= fun x8 =>
  laws_markText (addI k1 1) >>= fun r7 =>
  getI (a1.set (Int.toNat i) (GNode.mk k1 x8.Pre x8.Local x8.Uri x8.Decls x8.Attrs x8.Kids x8.Text)) i >>= fun x9 =>
  laws_markText (addI (addI k1 1) 1) >>= fun r8 =>
  getI ((a1.set (Int.toNat i) (GNode.mk k1 x8.Pre x8.Local x8.Uri x8.Decls x8.Attrs x8.Kids x8.Text)).set (Int.toNat i) (GNode.mk x9.Kind r7 x9.Local x9.Uri x9.Decls x9.Attrs x9.Kids x9.Text)) i >>= fun x10 =>
  laws_markText (addI (addI (addI k1 1) 1) 1) >>= fun r9 =>
  getI (((a1.set (Int.toNat i) (GNode.mk k1 x8.Pre x8.Local x8.Uri x8.Decls x8.Attrs x8.Kids x8.Text)).set (Int.toNat i) (GNode.mk x9.Kind r7 x9.Local x9.Uri x9.Decls x9.Attrs x9.Kids x9.Text)).set (Int.toNat i) (GNode.mk x10.Kind x10.Pre r8 x10.Uri x10.Decls x10.Attrs x10.Kids x10.Text)) i >>= fun x11 =>
  getI ((((a1.set (Int.toNat i) (GNode.mk k1 x8.Pre x8.Local x8.Uri x8.Decls x8.Attrs x8.Kids x8.Text)).set (Int.toNat i) (GNode.mk x9.Kind r7 x9.Local x9.Uri x9.Decls x9.Attrs x9.Kids x9.Text)).set (Int.toNat i) (GNode.mk x10.Kind x10.Pre r8 x10.Uri x10.Decls x10.Attrs x10.Kids x10.Text)).set (Int.toNat i) (GNode.mk x11.Kind x11.Pre x11.Local r9 x11.Decls x11.Attrs x11.Kids x11.Text)) i >>= fun x12 =>
  laws_markDeclS x12.Decls (addI (addI (addI (addI k1 1) 1) 1) 1) >>= fun r10 =>
  getI (((((a1.set (Int.toNat i) (GNode.mk k1 x8.Pre x8.Local x8.Uri x8.Decls x8.Attrs x8.Kids x8.Text)).set (Int.toNat i) (GNode.mk x9.Kind r7 x9.Local x9.Uri x9.Decls x9.Attrs x9.Kids x9.Text)).set (Int.toNat i) (GNode.mk x10.Kind x10.Pre r8 x10.Uri x10.Decls x10.Attrs x10.Kids x10.Text)).set (Int.toNat i) (GNode.mk x11.Kind x11.Pre x11.Local r9 x11.Decls x11.Attrs x11.Kids x11.Text)).set (Int.toNat i) (GNode.mk x12.Kind x12.Pre x12.Local x12.Uri r10.2 x12.Attrs x12.Kids x12.Text)) i >>= fun x13 =>
  laws_markAttrS x13.Attrs r10.1 >>= fun r11 =>
  getI ((((((a1.set (Int.toNat i) (GNode.mk k1 x8.Pre x8.Local x8.Uri x8.Decls x8.Attrs x8.Kids x8.Text)).set (Int.toNat i) (GNode.mk x9.Kind r7 x9.Local x9.Uri x9.Decls x9.Attrs x9.Kids x9.Text)).set (Int.toNat i) (GNode.mk x10.Kind x10.Pre r8 x10.Uri x10.Decls x10.Attrs x10.Kids x10.Text)).set (Int.toNat i) (GNode.mk x11.Kind x11.Pre x11.Local r9 x11.Decls x11.Attrs x11.Kids x11.Text)).set (Int.toNat i) (GNode.mk x12.Kind x12.Pre x12.Local x12.Uri r10.2 x12.Attrs x12.Kids x12.Text)).set (Int.toNat i) (GNode.mk x13.Kind x13.Pre x13.Local x13.Uri x13.Decls r11.2 x13.Kids x13.Text)) i >>= fun x14 =>
  laws_markNodeS x14.Kids r11.1 >>= fun r12 =>
  laws_markText r12.1 >>= fun r13 =>
  getI (((((((a1.set (Int.toNat i) (GNode.mk k1 x8.Pre x8.Local x8.Uri x8.Decls x8.Attrs x8.Kids x8.Text)).set (Int.toNat i) (GNode.mk x9.Kind r7 x9.Local x9.Uri x9.Decls x9.Attrs x9.Kids x9.Text)).set (Int.toNat i) (GNode.mk x10.Kind x10.Pre r8 x10.Uri x10.Decls x10.Attrs x10.Kids x10.Text)).set (Int.toNat i) (GNode.mk x11.Kind x11.Pre x11.Local r9 x11.Decls x11.Attrs x11.Kids x11.Text)).set (Int.toNat i) (GNode.mk x12.Kind x12.Pre x12.Local x12.Uri r10.2 x12.Attrs x12.Kids x12.Text)).set (Int.toNat i) (GNode.mk x13.Kind x13.Pre x13.Local x13.Uri x13.Decls r11.2 x13.Kids x13.Text)).set (Int.toNat i) (GNode.mk x14.Kind x14.Pre x14.Local x14.Uri x14.Decls x14.Attrs r12.2 x14.Text)) i >>= fun x15 =>
  laws_markNodeS_l6 ((((((((a1.set (Int.toNat i) (GNode.mk k1 x8.Pre x8.Local x8.Uri x8.Decls x8.Attrs x8.Kids x8.Text)).set (Int.toNat i) (GNode.mk x9.Kind r7 x9.Local x9.Uri x9.Decls x9.Attrs x9.Kids x9.Text)).set (Int.toNat i) (GNode.mk x10.Kind x10.Pre r8 x10.Uri x10.Decls x10.Attrs x10.Kids x10.Text)).set (Int.toNat i) (GNode.mk x11.Kind x11.Pre x11.Local r9 x11.Decls x11.Attrs x11.Kids x11.Text)).set (Int.toNat i) (GNode.mk x12.Kind x12.Pre x12.Local x12.Uri r10.2 x12.Attrs x12.Kids x12.Text)).set (Int.toNat i) (GNode.mk x13.Kind x13.Pre x13.Local x13.Uri x13.Decls r11.2 x13.Kids x13.Text)).set (Int.toNat i) (GNode.mk x14.Kind x14.Pre x14.Local x14.Uri x14.Decls x14.Attrs r12.2 x14.Text)).set (Int.toNat i) (GNode.mk x15.Kind x15.Pre x15.Local x15.Uri x15.Decls x15.Attrs x15.Kids r13)) (addI r12.1 1) (addI i 1)
 else
  some (k1, a1)
 partial_fixpoint
end
def laws_markNode (a : GNode) (k : Int) : Option (Int × List GDecl × List GAttr × List GNode) :=
 laws_markDeclS a.Decls k >>= fun r =>
 sameL r.2 a.Decls >>= fun _ =>
 laws_markAttrS a.Attrs r.1 >>= fun r1 =>
 sameL r1.2 a.Attrs >>= fun _ =>
 laws_markNodeS a.Kids r1.1 >>= fun r2 =>
 sameL r2.2 a.Kids >>= fun _ =>
 some (r2.1, r.2, r1.2, r2.2)
def laws_heldDeclS_l6 (a : List GDecl) (k1 : Int) (i : Int) : Option (Int) :=
 if (ltI i (lenL a)) then
  getI a i >>= fun x1 =>
  laws_markText k1 >>= fun r2 =>
  if (neS x1.Pre r2) then
   some (-1)
  else
   laws_markText (addI k1 1) >>= fun r3 =>
   if (neS x1.Uri r3) then
    some (-1)
   else
    laws_heldDeclS_l6 a (addI (addI k1 1) 1) (addI i 1)
 else
  some k1
 partial_fixpoint
def laws_heldDeclS (a : List GDecl) (k : Int) : Option (Int) :=
 laws_heldDeclS_l6 a k 0
def laws_heldAttrS_l6 (a : List GAttr) (k1 : Int) (i : Int) : Option (Int) :=
 if (ltI i (lenL a)) then
  getI a i >>= fun x1 =>
  laws_markText k1 >>= fun r4 =>
  if (neS x1.Pre r4) then
   some (-1)
  else
   laws_markText (addI k1 1) >>= fun r5 =>
   if (neS x1.Local r5) then
    some (-1)
   else
    laws_markText (addI (addI k1 1) 1) >>= fun r6 =>
    if (neS x1.Uri r6) then
     some (-1)
    else
     laws_markText (addI (addI (addI k1 1) 1) 1) >>= fun r7 =>
     if (neS x1.Val r7) then
      some (-1)
     else
      laws_heldAttrS_l6 a (addI (addI (addI (addI k1 1) 1) 1) 1) (addI i 1)
 else
  some k1
 partial_fixpoint
def laws_heldAttrS (a : List GAttr) (k : Int) : Option (Int) :=
 laws_heldAttrS_l6 a k 0
mutual
def laws_heldNodeS (a : List GNode) (k : Int) : Option (Int) :=
 laws_heldNodeS_l6 a k 0
 partial_fixpoint
def laws_heldNodeS_l6 (a : List GNode) (k1 : Int) (i : Int) : Option (Int) :=
 if (ltI i (lenL a)) then
  getI a i >>= fun x1 =>
  if (neI x1.Kind k1) then
   some (-1)
  else
   laws_markText (addI k1 1) >>= fun r7 =>
   if (neS x1.Pre r7) then
    some (-1)
   else
    laws_markText (addI (addI k1 1) 1) >>= fun r8 =>
    if (neS x1.Local r8) then
     some (-1)
    else
     laws_markText (addI (addI (addI k1 1) 1) 1) >>= fun r9 =>
     if (neS x1.Uri r9) then
      some (-1)
     else
      laws_heldDeclS x1.Decls (addI (addI (addI (addI k1 1) 1) 1) 1) >>= fun r10 =>
      if (ltI r10 0) then
       some (-1)
      else
       laws_heldAttrS x1.Attrs r10 >>= fun r11 =>
       if (ltI r11 0) then
        some (-1)
       else
        laws_heldNodeS x1.Kids r11 >>= fun r12 =>
        if (ltI r12 0) then
         some (-1)
        else
         laws_markText r12 >>= fun r13 =>
         if (neS x1.Text r13) then
          some (-1)
         else
          laws_heldNodeS_l6 a (addI r12 1) (addI i 1)
 else
  some k1
 partial_fixpoint
end
def laws_heldNode (a : GNode) (k : Int) : Option (Int) :=
 laws_heldDeclS a.Decls k >>= fun r =>
 if (ltI r 0) then
  some (-1)
 else
  laws_heldAttrS a.Attrs r >>= fun r1 =>
  if (ltI r1 0) then
   some (-1)
  else
   laws_heldNodeS a.Kids r1 >>= fun r2 =>
   if (ltI r2 0) then
    some (-1)
   else
    some r2
def laws_FnExactRename (aN : GNode) (aL : List GDecl) : Option (Bool) :=
 laws_szNode aN 1048576 >>= fun r =>
 if (ltI r 0) then
  some true
 else
  laws_szDeclS aL r >>= fun r1 =>
  if (ltI r1 0) then
   some true
  else
   laws_toNode aN >>= fun r2 =>
   laws_toDeclS aL >>= fun r3 =>
   spec_Rename r2 r3 >>= fun r4 =>
   laws_toNode aN >>= fun r5 =>
   laws_toDeclS aL >>= fun r6 =>
   impl_Rename r5 r6 >>= fun r7 =>
   laws_eqNode r7.1 r4.1 >>= fun r8 =>
   if r8 then
    if (neB r7.2 r4.2) then
     some false
    else
     laws_toNode aN >>= fun r9 =>
     laws_eqNode r5 r9 >>= fun r10 =>
     if r10 then
      laws_toDeclS aL >>= fun r11 =>
      laws_eqDeclS r6 r11 >>= fun r12 =>
      if r12 then
       laws_markNode r5 1 >>= fun r13 =>
       sameL r13.2.1 r5.Decls >>= fun _ =>
       sameL r13.2.2.1 r5.Attrs >>= fun _ =>
       sameL r13.2.2.2 r5.Kids >>= fun _ =>
       laws_markDeclS r6 r13.1 >>= fun r14 =>
       sameL r14.2 r6 >>= fun _ =>
       if (ltI r14.1 0) then
        some false
       else
        laws_eqNode r7.1 r4.1 >>= fun r15 =>
        if r15 then
         if (neB r7.2 r4.2) then
          some false
         else
          laws_markNode r7.1 1 >>= fun r16 =>
          sameL r16.2.1 r7.1.Decls >>= fun _ =>
          sameL r16.2.2.1 r7.1.Attrs >>= fun _ =>
          sameL r16.2.2.2 r7.1.Kids >>= fun _ =>
          laws_heldNode (GNode.mk r7.1.Kind r7.1.Pre r7.1.Local r7.1.Uri r16.2.1 r16.2.2.1 r16.2.2.2 r7.1.Text) 1 >>= fun r17 =>
          if (ltI r17 0) then
           some false
          else
           if (neI r17 r16.1) then
            some false
           else
            laws_toNode aN >>= fun r18 =>
            laws_toDeclS aL >>= fun r19 =>
            impl_Rename r18 r19 >>= fun r20 =>
            laws_eqNode r20.1 r4.1 >>= fun r21 =>
            if r21 then
             if (neB r20.2 r4.2) then
              some false
             else
              laws_heldNode (GNode.mk r7.1.Kind r7.1.Pre r7.1.Local r7.1.Uri r16.2.1 r16.2.2.1 r16.2.2.2 r7.1.Text) 1 >>= fun r22 =>
              if (ltI r22 0) then
               some false
              else
               if (neI r22 r16.1) then
                some false
               else
                some true
            else
             some false
        else
         some false
      else
       some false
     else
      some false
   else
    some false
end TT
