import Derived.Test.YtjnjaaimgdjcgaaGreatDoorTTypes
set_option maxHeartbeats 2000000
set_option linter.unusedVariables false
set_option linter.unusedSimpArgs false
set_option linter.defProp false
set_option maxRecDepth 100000
namespace TT
open Go
def laws_szPred (a : GPred) (left : Int) : Option (Int) :=
 if (ltI (subI left (lenS a.Pre)) 0) then
  some (-1)
 else
  if (ltI (subI (subI left (lenS a.Pre)) (lenS a.Local)) 0) then
   some (-1)
  else
   if (ltI (subI (subI (subI left (lenS a.Pre)) (lenS a.Local)) (lenS a.Val)) 0) then
    some (-1)
   else
    some (subI (subI (subI left (lenS a.Pre)) (lenS a.Local)) (lenS a.Val))
def laws_szPredS_l16 (a : List GPred) (left1 : Int) (i : Int) : Option (Int) :=
 if (ltI i (lenL a)) then
  getI a i >>= fun x1 =>
  laws_szPred x1 left1 >>= fun r1 =>
  if (ltI r1 0) then
   some (-1)
  else
   laws_szPredS_l16 a r1 (addI i 1)
 else
  some left1
 partial_fixpoint
def laws_szPredS (a : List GPred) (left : Int) : Option (Int) :=
 if (ltI (subI left (lenL a)) 0) then
  some (-1)
 else
  laws_szPredS_l16 a (subI left (lenL a)) 0
def laws_szStep (a : GStp) (left : Int) : Option (Int) :=
 if (ltI (subI left (lenS a.Pre)) 0) then
  some (-1)
 else
  if (ltI (subI (subI left (lenS a.Pre)) (lenS a.Local)) 0) then
   some (-1)
  else
   laws_szPredS a.Preds (subI (subI left (lenS a.Pre)) (lenS a.Local)) >>= fun r =>
   if (ltI r 0) then
    some (-1)
   else
    some r
def laws_szStepS_l16 (a : List GStp) (left1 : Int) (i : Int) : Option (Int) :=
 if (ltI i (lenL a)) then
  getI a i >>= fun x1 =>
  laws_szStep x1 left1 >>= fun r1 =>
  if (ltI r1 0) then
   some (-1)
  else
   laws_szStepS_l16 a r1 (addI i 1)
 else
  some left1
 partial_fixpoint
def laws_szStepS (a : List GStp) (left : Int) : Option (Int) :=
 if (ltI (subI left (lenL a)) 0) then
  some (-1)
 else
  laws_szStepS_l16 a (subI left (lenL a)) 0
def laws_szSel (a : GSel) (left : Int) : Option (Int) :=
 if (ltI (subI left (lenS a.Id)) 0) then
  some (-1)
 else
  laws_szStepS a.Steps (subI left (lenS a.Id)) >>= fun r =>
  if (ltI r 0) then
   some (-1)
  else
   some r
def laws_szDecl (a : GDecl) (left : Int) : Option (Int) :=
 if (ltI (subI left (lenS a.Pre)) 0) then
  some (-1)
 else
  if (ltI (subI (subI left (lenS a.Pre)) (lenS a.Uri)) 0) then
   some (-1)
  else
   some (subI (subI left (lenS a.Pre)) (lenS a.Uri))
def laws_szDeclS_l16 (a : List GDecl) (left1 : Int) (i : Int) : Option (Int) :=
 if (ltI i (lenL a)) then
  getI a i >>= fun x1 =>
  laws_szDecl x1 left1 >>= fun r1 =>
  if (ltI r1 0) then
   some (-1)
  else
   laws_szDeclS_l16 a r1 (addI i 1)
 else
  some left1
 partial_fixpoint
def laws_szDeclS (a : List GDecl) (left : Int) : Option (Int) :=
 if (ltI (subI left (lenL a)) 0) then
  some (-1)
 else
  laws_szDeclS_l16 a (subI left (lenL a)) 0
def laws_szAttr (a : GAttr) (left : Int) : Option (Int) :=
 if (ltI (subI left (lenS a.Pre)) 0) then
  some (-1)
 else
  if (ltI (subI (subI left (lenS a.Pre)) (lenS a.Local)) 0) then
   some (-1)
  else
   if (ltI (subI (subI (subI left (lenS a.Pre)) (lenS a.Local)) (lenS a.Uri)) 0) then
    some (-1)
   else
    if (ltI (subI (subI (subI (subI left (lenS a.Pre)) (lenS a.Local)) (lenS a.Uri)) (lenS a.Val)) 0) then
     some (-1)
    else
     some (subI (subI (subI (subI left (lenS a.Pre)) (lenS a.Local)) (lenS a.Uri)) (lenS a.Val))
def laws_szAttrS_l16 (a : List GAttr) (left1 : Int) (i : Int) : Option (Int) :=
 if (ltI i (lenL a)) then
  getI a i >>= fun x1 =>
  laws_szAttr x1 left1 >>= fun r1 =>
  if (ltI r1 0) then
   some (-1)
  else
   laws_szAttrS_l16 a r1 (addI i 1)
 else
  some left1
 partial_fixpoint
def laws_szAttrS (a : List GAttr) (left : Int) : Option (Int) :=
 if (ltI (subI left (lenL a)) 0) then
  some (-1)
 else
  laws_szAttrS_l16 a (subI left (lenL a)) 0
mutual
def laws_szNode (a : GNode) (left : Int) : Option (Int) :=
 if (ltI (subI left (lenS a.Pre)) 0) then
  some (-1)
 else
  if (ltI (subI (subI left (lenS a.Pre)) (lenS a.Local)) 0) then
   some (-1)
  else
   if (ltI (subI (subI (subI left (lenS a.Pre)) (lenS a.Local)) (lenS a.Uri)) 0) then
    some (-1)
   else
    laws_szDeclS a.Decls (subI (subI (subI left (lenS a.Pre)) (lenS a.Local)) (lenS a.Uri)) >>= fun r =>
    if (ltI r 0) then
     some (-1)
    else
     laws_szAttrS a.Attrs r >>= fun r1 =>
     if (ltI r1 0) then
      some (-1)
     else
      laws_szNodeS a.Kids r1 >>= fun r2 =>
      if (ltI r2 0) then
       some (-1)
      else
       if (ltI (subI r2 (lenS a.Text)) 0) then
        some (-1)
       else
        some (subI r2 (lenS a.Text))
 partial_fixpoint
def laws_szNodeS (a : List GNode) (left : Int) : Option (Int) :=
 if (ltI (subI left (lenL a)) 0) then
  some (-1)
 else
  laws_szNodeS_l16 a (subI left (lenL a)) 0
 partial_fixpoint
def laws_szNodeS_l16 (a : List GNode) (left1 : Int) (i : Int) : Option (Int) :=
 if (ltI i (lenL a)) then
  getI a i >>= fun x1 =>
  laws_szNode x1 left1 >>= fun r1 =>
  if (ltI r1 0) then
   some (-1)
  else
   laws_szNodeS_l16 a r1 (addI i 1)
 else
  some left1
 partial_fixpoint
end
def laws_szOp (a : GOp) (left : Int) : Option (Int) :=
 laws_szSel a.Sel left >>= fun r =>
 if (ltI r 0) then
  some (-1)
 else
  if (ltI (subI r (lenS a.Pre)) 0) then
   some (-1)
  else
   if (ltI (subI (subI r (lenS a.Pre)) (lenS a.Local)) 0) then
    some (-1)
   else
    laws_szNodeS a.Kids (subI (subI r (lenS a.Pre)) (lenS a.Local)) >>= fun r1 =>
    if (ltI r1 0) then
     some (-1)
    else
     laws_szDeclS a.Decls r1 >>= fun r2 =>
     if (ltI r2 0) then
      some (-1)
     else
      some r2
def laws_toPred (a : GPred) : Option (GPred) :=
 some a
def laws_toPredS_l8 (a : List GPred) (out : List (GPred)) (i : Int) : Option (List GPred) :=
 if (ltI i (lenL a)) then
  getI a i >>= fun x2 =>
  laws_toPred x2 >>= fun r1 =>
  getI out i >>= fun x3 =>
  laws_toPredS_l8 a (out.set (Int.toNat i) r1) (addI i 1)
 else
  some out
 partial_fixpoint
def laws_toPredS (a : List GPred) : Option (List GPred) :=
 mkN (lenL a) 64 >>= fun m =>
 laws_toPredS_l8 a (List.replicate m (GPred.mk 0 0 ⟨#[]⟩ ⟨#[]⟩ ⟨#[]⟩)) 0
def laws_toStep (a : GStp) : Option (GStp) :=
 laws_toPredS a.Preds >>= fun r =>
 some (GStp.mk a.Deep a.Kind a.Pre a.Local r)
def laws_toStepS_l8 (a : List GStp) (out : List (GStp)) (i : Int) : Option (List GStp) :=
 if (ltI i (lenL a)) then
  getI a i >>= fun x2 =>
  laws_toStep x2 >>= fun r1 =>
  getI out i >>= fun x3 =>
  laws_toStepS_l8 a (out.set (Int.toNat i) r1) (addI i 1)
 else
  some out
 partial_fixpoint
def laws_toStepS (a : List GStp) : Option (List GStp) :=
 mkN (lenL a) 72 >>= fun m =>
 laws_toStepS_l8 a (List.replicate m (GStp.mk false 0 ⟨#[]⟩ ⟨#[]⟩ [])) 0
def laws_toSel (a : GSel) : Option (GSel) :=
 laws_toStepS a.Steps >>= fun r =>
 some (GSel.mk a.Id r)
def laws_toDecl (a : GDecl) : Option (GDecl) :=
 some a
def laws_toDeclS_l8 (a : List GDecl) (out : List (GDecl)) (i : Int) : Option (List GDecl) :=
 if (ltI i (lenL a)) then
  getI a i >>= fun x2 =>
  laws_toDecl x2 >>= fun r1 =>
  getI out i >>= fun x3 =>
  laws_toDeclS_l8 a (out.set (Int.toNat i) r1) (addI i 1)
 else
  some out
 partial_fixpoint
def laws_toDeclS (a : List GDecl) : Option (List GDecl) :=
 mkN (lenL a) 32 >>= fun m =>
 laws_toDeclS_l8 a (List.replicate m (GDecl.mk ⟨#[]⟩ ⟨#[]⟩)) 0
def laws_toAttr (a : GAttr) : Option (GAttr) :=
 some a
def laws_toAttrS_l8 (a : List GAttr) (out : List (GAttr)) (i : Int) : Option (List GAttr) :=
 if (ltI i (lenL a)) then
  getI a i >>= fun x2 =>
  laws_toAttr x2 >>= fun r1 =>
  getI out i >>= fun x3 =>
  laws_toAttrS_l8 a (out.set (Int.toNat i) r1) (addI i 1)
 else
  some out
 partial_fixpoint
def laws_toAttrS (a : List GAttr) : Option (List GAttr) :=
 mkN (lenL a) 64 >>= fun m =>
 laws_toAttrS_l8 a (List.replicate m (GAttr.mk ⟨#[]⟩ ⟨#[]⟩ ⟨#[]⟩ ⟨#[]⟩)) 0
mutual
def laws_toNode (a : GNode) : Option (GNode) :=
 laws_toDeclS a.Decls >>= fun r =>
 laws_toAttrS a.Attrs >>= fun r1 =>
 laws_toNodeS a.Kids >>= fun r2 =>
 some (GNode.mk a.Kind a.Pre a.Local a.Uri r r1 r2 a.Text)
 partial_fixpoint
def laws_toNodeS (a : List GNode) : Option (List GNode) :=
 mkN (lenL a) 144 >>= fun m =>
 laws_toNodeS_l8 a (List.replicate m (GNode.mk 0 ⟨#[]⟩ ⟨#[]⟩ ⟨#[]⟩ [] [] [] ⟨#[]⟩)) 0
 partial_fixpoint
def laws_toNodeS_l8 (a : List GNode) (out : List (GNode)) (i : Int) : Option (List GNode) :=
 if (ltI i (lenL a)) then
  getI a i >>= fun x2 =>
  laws_toNode x2 >>= fun r1 =>
  getI out i >>= fun x3 =>
  laws_toNodeS_l8 a (out.set (Int.toNat i) r1) (addI i 1)
 else
  some out
 partial_fixpoint
end
def laws_toOp (a : GOp) : Option (GOp) :=
 laws_toSel a.Sel >>= fun r =>
 laws_toNodeS a.Kids >>= fun r1 =>
 laws_toDeclS a.Decls >>= fun r2 =>
 some (GOp.mk a.Kind r a.Pos a.Typ a.Pre a.Local a.Ws r1 r2)
def spec_l1In (a0 : Int) (least : Int) (most : Int) : Option (Bool) :=
 if (geI a0 least) then
  some (leI a0 most)
 else
  some false
def spec_SignAt_l55 (s : ByteArray) (at1 : Int) (n : Int) (least : Int) (v1 : Int) (i : Int) : Option (Int × Int × Bool) :=
 if (leI i n) then
  atS s (addI at1 i) >>= fun x4 =>
  if (ltI (wr .i64 x4) 128) then
   some (0, 0, false)
  else
   if (gtI (wr .i64 x4) 191) then
    some (0, 0, false)
   else
    spec_SignAt_l55 s at1 n least (subI (addI (mulI v1 64) (wr .i64 x4)) 128) (addI i 1)
 else
  if (ltI v1 least) then
   some (0, 0, false)
  else
   if (gtI v1 1114111) then
    some (0, 0, false)
   else
    spec_l1In v1 55296 57343 >>= fun r1 =>
    if r1 then
     some (0, 0, false)
    else
     some (v1, (addI (addI at1 1) n), true)
 partial_fixpoint
def spec_SignAt_j26 (s : ByteArray) (at1 : Int) (n : Int) (least : Int) (v : Int) : Option (Int × Int × Bool) :=
 if (gtI at1 (subI (subI (lenS s) 1) n)) then
  some (0, 0, false)
 else
  spec_SignAt_l55 s at1 n least v 1
def spec_SignAt_j32 (s : ByteArray) (at1 : Int) (x : Int) (x2 : Bool) : Option (Int × Int × Bool) :=
 if x2 then
  spec_SignAt_j26 s at1 2 2048 (andK .i64 (wr .i64 x) 15)
 else
  if (geI (wr .i64 x) 240) then
   if (ltI (wr .i64 x) 248) then
    spec_SignAt_j26 s at1 3 65536 (andK .i64 (wr .i64 x) 7)
   else
    some (0, 0, false)
  else
   some (0, 0, false)
def spec_SignAt_j28 (s : ByteArray) (at1 : Int) (x : Int) (x1 : Bool) : Option (Int × Int × Bool) :=
 if x1 then
  spec_SignAt_j26 s at1 1 128 (andK .i64 (wr .i64 x) 31)
 else
  if (geI (wr .i64 x) 224) then
   spec_SignAt_j32 s at1 x (ltI (wr .i64 x) 240)
  else
   spec_SignAt_j32 s at1 x false
def spec_SignAt (s : ByteArray) (at1 : Int) : Option (Int × Int × Bool) :=
 if (ltI at1 0) then
  some (0, 0, false)
 else
  if (geI at1 (lenS s)) then
   some (0, 0, false)
  else
   atS s at1 >>= fun x =>
   if (ltI (wr .i64 x) 128) then
    some ((wr .i64 x), (addI at1 1), true)
   else
    if (geI (wr .i64 x) 192) then
     spec_SignAt_j28 s at1 x (ltI (wr .i64 x) 224)
    else
     spec_SignAt_j28 s at1 x false
def spec_l1Ranges_l6 (n : Int) (l : List Int) (i : Int) : Option (Bool) :=
 if (ltI (addI i 1) (lenL l)) then
  getI l i >>= fun x2 =>
  getI l (addI i 1) >>= fun x3 =>
  spec_l1In n x2 x3 >>= fun r1 =>
  if r1 then
   some true
  else
   spec_l1Ranges_l6 n l (addI i 2)
 else
  some false
 partial_fixpoint
def spec_l1Ranges (n : Int) (l : List Int) : Option (Bool) :=
 spec_l1Ranges_l6 n l 0
def spec_IsStart (n : Int) : Option (Bool) :=
 spec_l1Ranges n [65, 90, 95, 95, 97, 122, 192, 214, 216, 246, 248, 767, 880, 893, 895, 8191, 8204, 8205, 8304, 8591, 11264, 12271, 12289, 55295, 63744, 64975, 65008, 65533, 65536, 983039] >>= fun r =>
 some r
def spec_IsPart (n : Int) : Option (Bool) :=
 spec_IsStart n >>= fun r =>
 if r then
  some true
 else
  spec_l1Ranges n [45, 46, 48, 57, 183, 183, 768, 879, 8255, 8256] >>= fun r1 =>
  some r1
def spec_PlainOk_l14 (s : ByteArray) (at1 : Int) : Option (Bool) :=
 if (ltI at1 (lenS s)) then
  spec_SignAt s at1 >>= fun r5 =>
  if r5.2.2 then
   if (eqI at1 0) then
    spec_IsStart r5.1 >>= fun r6 =>
    if r6 then
     spec_IsPart r5.1 >>= fun r7 =>
     if r7 then
      spec_PlainOk_l14 s r5.2.1
     else
      some false
    else
     some false
   else
    spec_IsPart r5.1 >>= fun r8 =>
    if r8 then
     spec_PlainOk_l14 s r5.2.1
    else
     some false
  else
   some false
 else
  some true
 partial_fixpoint
def spec_PlainOk (s : ByteArray) : Option (Bool) :=
 spec_l1In (lenS s) 1 16 >>= fun r =>
 if r then
  spec_PlainOk_l14 s 0
 else
  some false
def spec_SplitName_l14 (s : ByteArray) (i : Int) : Option (ByteArray × ByteArray × Bool) :=
 if (ltI i (lenS s)) then
  atS s i >>= fun x5 =>
  if (eqI x5 58) then
   subS s 0 i >>= fun x6 =>
   spec_PlainOk x6 >>= fun r3 =>
   if r3 then
    subS s (addI i 1) (lenS s) >>= fun x7 =>
    spec_PlainOk x7 >>= fun r4 =>
    if r4 then
     subS s 0 i >>= fun x8 =>
     subS s (addI i 1) (lenS s) >>= fun x9 =>
     some (x8, x9, true)
    else
     some (⟨#[]⟩, ⟨#[]⟩, false)
   else
    some (⟨#[]⟩, ⟨#[]⟩, false)
  else
   spec_SplitName_l14 s (addI i 1)
 else
  some (⟨#[]⟩, ⟨#[]⟩, false)
 partial_fixpoint
def spec_SplitName (s : ByteArray) : Option (ByteArray × ByteArray × Bool) :=
 spec_PlainOk s >>= fun r =>
 if r then
  some (⟨#[]⟩, s, true)
 else
  spec_SplitName_l14 s 0
def spec_JoinName_j4 (pre : ByteArray) (local1 : ByteArray) (s : ByteArray) : Option (ByteArray) :=
 spec_SplitName s >>= fun r =>
 if r.2.2 then
  if (neS r.1 pre) then
   some (⟨#[]⟩)
  else
   if (neS r.2.1 local1) then
    some (⟨#[]⟩)
   else
    some s
 else
  some (⟨#[]⟩)
def spec_JoinName (pre : ByteArray) (local1 : ByteArray) : Option (ByteArray) :=
 if (neS pre (⟨#[]⟩)) then
  catS pre (⟨#[58]⟩) >>= fun x =>
  catS x local1 >>= fun x1 =>
  spec_JoinName_j4 pre local1 x1
 else
  spec_JoinName_j4 pre local1 local1
def spec_IsSign (n : Int) : Option (Bool) :=
 if (eqI n 9) then
  some true
 else
  if (eqI n 10) then
   some true
  else
   if (eqI n 13) then
    some true
   else
    spec_l1In n 32 55295 >>= fun r =>
    if r then
     some true
    else
     spec_l1In n 57344 65533 >>= fun r1 =>
     if r1 then
      some true
     else
      spec_l1In n 65536 1114111 >>= fun r2 =>
      some r2
def spec_l1Signs_l6 (s : ByteArray) (at1 : Int) : Option (Bool) :=
 if (ltI at1 (lenS s)) then
  spec_SignAt s at1 >>= fun r2 =>
  if r2.2.2 then
   spec_IsSign r2.1 >>= fun r3 =>
   if r3 then
    spec_l1Signs_l6 s r2.2.1
   else
    some false
  else
   some false
 else
  some (leI (lenS s) 1500)
 partial_fixpoint
def spec_l1Signs (s : ByteArray) : Option (Bool) :=
 spec_l1Signs_l6 s 0
def spec_TextOk (s : ByteArray) : Option (Bool) :=
 if (leI (lenS s) 600) then
  spec_l1Signs s >>= fun r =>
  some r
 else
  some false
def spec_l5Has_l6 (s : ByteArray) (t : ByteArray) (i : Int) : Option (Bool) :=
 if (leI (addI i (lenS t)) (lenS s)) then
  subS s i (addI i (lenS t)) >>= fun x1 =>
  if (eqS x1 t) then
   some true
  else
   spec_l5Has_l6 s t (addI i 1)
 else
  some false
 partial_fixpoint
def spec_l5Has (s : ByteArray) (t : ByteArray) : Option (Bool) :=
 spec_l5Has_l6 s t 0
def spec_l11Val (s : ByteArray) : Option (Bool) :=
 spec_TextOk s >>= fun r =>
 if r then
  spec_l5Has s (⟨#[39]⟩) >>= fun r1 =>
  if r1 then
   spec_l5Has s (⟨#[34]⟩) >>= fun r2 =>
   some (!r2)
  else
   some true
 else
  some false
def spec_l11PredOk_j12 (kind : Int) (p : GPred) (x : Bool) : Option (Bool) :=
 if x then
  spec_l1In kind 1 2 >>= fun r1 =>
  if r1 then
   if (eqI p.N 0) then
    spec_JoinName p.Pre p.Local >>= fun r2 =>
    if (neS r2 (⟨#[]⟩)) then
     spec_l11Val p.Val >>= fun r3 =>
     some r3
    else
     some false
   else
    some false
  else
   some false
 else
  if (eqI p.Kind 4) then
   spec_l1In kind 1 2 >>= fun r4 =>
   if r4 then
    if (eqI p.N 0) then
     if (eqS p.Pre (⟨#[]⟩)) then
      if (eqS p.Local (⟨#[]⟩)) then
       spec_l11Val p.Val >>= fun r5 =>
       some r5
      else
       some false
     else
      some false
    else
     some false
   else
    some false
  else
   some false
def spec_l11PredOk (p : GPred) (kind : Int) : Option (Bool) :=
 if (eqI p.Kind 1) then
  spec_l1In p.N 1 999 >>= fun r =>
  if r then
   if (eqS p.Pre (⟨#[]⟩)) then
    if (eqS p.Local (⟨#[]⟩)) then
     some (eqS p.Val (⟨#[]⟩))
    else
     some false
   else
    some false
  else
   some false
 else
  if (eqI p.Kind 2) then
   spec_l11PredOk_j12 kind p true
  else
   spec_l11PredOk_j12 kind p (eqI p.Kind 3)
def spec_l11StepOk_j45 (a0 : GStp) (x5 : Bool) (xDeep : Bool) : Option (Bool) :=
 if x5 then
  if (eqS a0.Pre (⟨#[]⟩)) then
   some (eqS a0.Local (⟨#[]⟩))
  else
   some false
 else
  if (eqI a0.Kind 5) then
   if (eqS a0.Pre (⟨#[]⟩)) then
    if (eqS a0.Local (⟨#[]⟩)) then
     some true
    else
     spec_PlainOk a0.Local >>= fun r6 =>
     some r6
   else
    some false
  else
   if (eqI a0.Kind 7) then
    if (eqS a0.Pre (⟨#[]⟩)) then
     spec_PlainOk a0.Local >>= fun r7 =>
     some r7
    else
     some false
   else
    some false
def spec_l11StepOk_j35 (a0 : GStp) (x4 : Bool) (xDeep : Bool) : Option (Bool) :=
 if x4 then
  spec_JoinName a0.Pre a0.Local >>= fun r5 =>
  some (neS r5 (⟨#[]⟩))
 else
  if (eqI a0.Kind 2) then
   spec_l11StepOk_j45 a0 true xDeep
  else
   if (eqI a0.Kind 3) then
    spec_l11StepOk_j45 a0 true xDeep
   else
    spec_l11StepOk_j45 a0 (eqI a0.Kind 4) xDeep
def spec_l11StepOk_l14 (i : Int) (xDeep : Bool) (a0 : GStp) : Option (Bool) :=
 if (ltI i (lenL a0.Preds)) then
  getI a0.Preds i >>= fun x3 =>
  spec_l11PredOk x3 a0.Kind >>= fun r4 =>
  if r4 then
   spec_l11StepOk_l14 (addI i 1) xDeep a0
  else
   some false
 else
  if (eqI a0.Kind 1) then
   spec_l11StepOk_j35 a0 true xDeep
  else
   spec_l11StepOk_j35 a0 (eqI a0.Kind 6) xDeep
 partial_fixpoint
def spec_l11StepOk_j2 (xDeep : Bool) (a0 : GStp) : Option (Bool) :=
 spec_l11StepOk_l14 0 xDeep a0
def spec_l11StepOk (a0 : GStp) (last : Bool) : Option (Bool) :=
 if (gtI (lenL a0.Preds) 3) then
  some false
 else
  if (geI a0.Kind 6) then
   if last then
    if a0.Deep then
     some false
    else
     if (gtI (lenL a0.Preds) 0) then
      some false
     else
      spec_l11StepOk_j2 false a0
   else
    some false
  else
   spec_l11StepOk_j2 a0.Deep a0
def spec_SelOk_l6 (i : Int) (s : GSel) : Option (Bool) :=
 if (ltI i (lenL s.Steps)) then
  getI s.Steps i >>= fun x1 =>
  spec_l11StepOk x1 (eqI i (subI (lenL s.Steps) 1)) >>= fun r2 =>
  if r2 then
   spec_SelOk_l6 (addI i 1) s
  else
   some false
 else
  spec_l11Val s.Id >>= fun r3 =>
  if r3 then
   if (leI (lenL s.Steps) 8) then
    if (neS s.Id (⟨#[]⟩)) then
     some true
    else
     some (gtI (lenL s.Steps) 0)
   else
    some false
  else
   some false
 partial_fixpoint
def spec_SelOk (s : GSel) : Option (Bool) :=
 spec_SelOk_l6 0 s
def spec_l4Xml (s : ByteArray) : Option (Bool) :=
 if (geI (lenS s) 3) then
  subS s 0 3 >>= fun x =>
  some (eqS x (⟨#[120, 109, 108]⟩))
 else
  some false
def spec_DeclOk_j2 (d : GDecl) : Option (Bool) :=
 spec_TextOk d.Uri >>= fun r2 =>
 if r2 then
  some (leI (lenS d.Uri) 40)
 else
  some false
def spec_DeclOk (d : GDecl) : Option (Bool) :=
 if (neS d.Pre (⟨#[]⟩)) then
  spec_PlainOk d.Pre >>= fun r =>
  if r then
   spec_l4Xml d.Pre >>= fun r1 =>
   if r1 then
    some false
   else
    if (eqS d.Uri (⟨#[]⟩)) then
     some false
    else
     spec_DeclOk_j2 d
  else
   some false
 else
  spec_DeclOk_j2 d
mutual
def spec_CountOf (n : GNode) : Option (Int) :=
 spec_CountOf_l8 (addI 1 (lenL n.Attrs)) 0 n
 partial_fixpoint
def spec_CountOf_l8 (k : Int) (i : Int) (n : GNode) : Option (Int) :=
 if (ltI i (lenL n.Kids)) then
  getI n.Kids i >>= fun x1 =>
  spec_CountOf x1 >>= fun r1 =>
  spec_CountOf_l8 (addI k r1) (addI i 1) n
 else
  some k
 partial_fixpoint
end
def spec_l5Pre (s : ByteArray) : Option (Bool) :=
 if (eqS s (⟨#[]⟩)) then
  some true
 else
  spec_PlainOk s >>= fun r =>
  if r then
   spec_l4Xml s >>= fun r1 =>
   some (!r1)
  else
   some false
def spec_DeclsOk_l6 (l : List GDecl) (i : Int) : Option (Bool) :=
 if (ltI i (lenL l)) then
  getI l i >>= fun x2 =>
  spec_DeclOk x2 >>= fun r1 =>
  if r1 then
   if (gtI i 0) then
    getI l (subI i 1) >>= fun x3 =>
    if (geS x3.Pre x2.Pre) then
     some false
    else
     spec_DeclsOk_l6 l (addI i 1)
   else
    spec_DeclsOk_l6 l (addI i 1)
  else
   some false
 else
  some (leI (lenL l) 4)
 partial_fixpoint
def spec_DeclsOk (l : List GDecl) : Option (Bool) :=
 spec_DeclsOk_l6 l 0
def spec_l5Bare (n : GNode) : Option (Bool) :=
 if (eqS n.Pre (⟨#[]⟩)) then
  if (eqS n.Uri (⟨#[]⟩)) then
   if (eqI (lenL n.Decls) 0) then
    if (eqI (lenL n.Attrs) 0) then
     some (eqI (lenL n.Kids) 0)
    else
     some false
   else
    some false
  else
   some false
 else
  some false
def spec_l5Xml (s : ByteArray) : Option (Bool) :=
 if (neI (lenS s) 3) then
  some false
 else
  atS s 0 >>= fun x =>
  if (eqI x 120) then
   atS s 1 >>= fun x1 =>
   if (eqI x1 109) then
    atS s 2 >>= fun x2 =>
    if (eqI x2 108) then
     some true
    else
     atS s 2 >>= fun x3 =>
     some (eqI x3 76)
   else
    atS s 1 >>= fun x4 =>
    if (eqI x4 77) then
     atS s 2 >>= fun x5 =>
     if (eqI x5 108) then
      some true
     else
      atS s 2 >>= fun x6 =>
      some (eqI x6 76)
    else
     some false
  else
   atS s 0 >>= fun x7 =>
   if (eqI x7 88) then
    atS s 1 >>= fun x8 =>
    if (eqI x8 109) then
     atS s 2 >>= fun x9 =>
     if (eqI x9 108) then
      some true
     else
      atS s 2 >>= fun x10 =>
      some (eqI x10 76)
    else
     atS s 1 >>= fun x11 =>
     if (eqI x11 77) then
      atS s 2 >>= fun x12 =>
      if (eqI x12 108) then
       some true
      else
       atS s 2 >>= fun x13 =>
       some (eqI x13 76)
     else
      some false
   else
    some false
def spec_IsBlank (n : Int) : Option (Bool) :=
 if (eqI n 9) then
  some true
 else
  if (eqI n 10) then
   some true
  else
   if (eqI n 13) then
    some true
   else
    some (eqI n 32)
def spec_l5AttrOk_j2 (a : GAttr) : Option (Bool) :=
 spec_TextOk a.Val >>= fun r2 =>
 if r2 then
  spec_TextOk a.Uri >>= fun r3 =>
  if r3 then
   some (leI (lenS a.Uri) 40)
  else
   some false
 else
  some false
def spec_l5AttrOk (a : GAttr) : Option (Bool) :=
 spec_l5Pre a.Pre >>= fun r =>
 if r then
  if (neB (eqS a.Pre (⟨#[]⟩)) (eqS a.Uri (⟨#[]⟩))) then
   some false
  else
   spec_PlainOk a.Local >>= fun r1 =>
   if r1 then
    if (eqS a.Pre (⟨#[]⟩)) then
     if (eqS a.Local (⟨#[120, 109, 108, 110, 115]⟩)) then
      some false
     else
      spec_l5AttrOk_j2 a
    else
     spec_l5AttrOk_j2 a
   else
    some false
 else
  some false
def spec_l5Less (a : GAttr) (b : GAttr) : Option (Bool) :=
 if (ltS a.Uri b.Uri) then
  some true
 else
  if (eqS a.Uri b.Uri) then
   some (ltS a.Local b.Local)
  else
   some false
def spec_l5One_l21 (i : Int) (n : GNode) : Option (Bool) :=
 if (ltI i (lenL n.Attrs)) then
  getI n.Attrs i >>= fun x2 =>
  spec_l5AttrOk x2 >>= fun r8 =>
  if r8 then
   if (gtI i 0) then
    getI n.Attrs (subI i 1) >>= fun x3 =>
    spec_l5Less x3 x2 >>= fun r9 =>
    if r9 then
     spec_l5One_l21 (addI i 1) n
    else
     some false
   else
    spec_l5One_l21 (addI i 1) n
  else
   some false
 else
  some true
 partial_fixpoint
def spec_l5One_j9 (n : GNode) : Option (Bool) :=
 spec_l5One_l21 0 n
def spec_l5One (n : GNode) : Option (Bool) :=
 if (eqI n.Kind 1) then
  spec_l5Pre n.Pre >>= fun r =>
  if r then
   spec_PlainOk n.Local >>= fun r1 =>
   if r1 then
    if (neS n.Text (⟨#[]⟩)) then
     some false
    else
     if (neS n.Pre (⟨#[]⟩)) then
      if (eqS n.Uri (⟨#[]⟩)) then
       some false
      else
       spec_TextOk n.Uri >>= fun r2 =>
       if r2 then
        if (gtI (lenS n.Uri) 40) then
         some false
        else
         spec_DeclsOk n.Decls >>= fun r3 =>
         if r3 then
          if (gtI (lenL n.Attrs) 5) then
           some false
          else
           spec_l5One_j9 n
         else
          some false
       else
        some false
     else
      spec_TextOk n.Uri >>= fun r4 =>
      if r4 then
       if (gtI (lenS n.Uri) 40) then
        some false
       else
        spec_DeclsOk n.Decls >>= fun r5 =>
        if r5 then
         if (gtI (lenL n.Attrs) 5) then
          some false
         else
          spec_l5One_j9 n
        else
         some false
      else
       some false
   else
    some false
  else
   some false
 else
  if (eqI n.Kind 2) then
   spec_l5Bare n >>= fun r10 =>
   if r10 then
    if (eqS n.Local (⟨#[]⟩)) then
     if (neS n.Text (⟨#[]⟩)) then
      spec_TextOk n.Text >>= fun r11 =>
      some r11
     else
      some false
    else
     some false
   else
    some false
  else
   if (eqI n.Kind 3) then
    spec_l5Bare n >>= fun r12 =>
    if r12 then
     if (eqS n.Local (⟨#[]⟩)) then
      spec_TextOk n.Text >>= fun r13 =>
      if r13 then
       spec_l5Has n.Text (⟨#[45, 45]⟩) >>= fun r14 =>
       if r14 then
        some false
       else
        spec_l5Has n.Text (⟨#[13]⟩) >>= fun r15 =>
        if r15 then
         some false
        else
         if (eqS n.Text (⟨#[]⟩)) then
          some true
         else
          atS n.Text (subI (lenS n.Text) 1) >>= fun x4 =>
          some (neI x4 45)
      else
       some false
     else
      some false
    else
     some false
   else
    if (eqI n.Kind 4) then
     spec_l5Bare n >>= fun r16 =>
     if r16 then
      spec_PlainOk n.Local >>= fun r17 =>
      if r17 then
       spec_l5Xml n.Local >>= fun r18 =>
       if r18 then
        some false
       else
        spec_TextOk n.Text >>= fun r19 =>
        if r19 then
         spec_l5Has n.Text (⟨#[63, 62]⟩) >>= fun r20 =>
         if r20 then
          some false
         else
          spec_l5Has n.Text (⟨#[13]⟩) >>= fun r21 =>
          if r21 then
           some false
          else
           if (eqS n.Text (⟨#[]⟩)) then
            some true
           else
            atS n.Text 0 >>= fun x5 =>
            spec_IsBlank (wr .i64 x5) >>= fun r22 =>
            some (!r22)
        else
         some false
      else
       some false
     else
      some false
    else
     some false
mutual
def spec_l5Kids (l : List GNode) (deep : Int) : Option (Bool) :=
 spec_l5Kids_l6 l deep 0
 partial_fixpoint
def spec_l5Kids_j17 (l : List GNode) (deep : Int) (i : Int) (x2 : GNode) : Option (Bool) :=
 if (eqI x2.Kind 1) then
  if (eqI deep 7) then
   some false
  else
   spec_l5Kids x2.Kids (addI deep 1) >>= fun r3 =>
   if r3 then
    spec_l5Kids_l6 l deep (addI i 1)
   else
    some false
 else
  spec_l5Kids_l6 l deep (addI i 1)
 partial_fixpoint
def spec_l5Kids_l6 (l : List GNode) (deep : Int) (i : Int) : Option (Bool) :=
 if (ltI i (lenL l)) then
  getI l i >>= fun x2 =>
  spec_l5One x2 >>= fun r2 =>
  if r2 then
   if (eqI x2.Kind 2) then
    if (gtI i 0) then
     getI l (subI i 1) >>= fun x3 =>
     if (eqI x3.Kind 2) then
      some false
     else
      spec_l5Kids_j17 l deep i x2
    else
     spec_l5Kids_j17 l deep i x2
   else
    spec_l5Kids_j17 l deep i x2
  else
   some false
 else
  some true
 partial_fixpoint
end
mutual
def spec_NodeOk_j33 (k2 : Int) (i : Int) (n : GNode) : Option (Bool) :=
 getI n.Kids i >>= fun x3 =>
 if (eqI x3.Kind 2) then
  some false
 else
  spec_NodeOk_l24 k2 (addI i 1) n
 partial_fixpoint
def spec_NodeOk_l24 (k1 : Int) (i : Int) (n : GNode) : Option (Bool) :=
 if (ltI i (lenL n.Kids)) then
  getI n.Kids i >>= fun x2 =>
  if (eqI x2.Kind 1) then
   spec_NodeOk_j33 (addI k1 1) i n
  else
   spec_NodeOk_j33 k1 i n
 else
  if (eqI k1 1) then
   if (eqS n.Pre (⟨#[]⟩)) then
    if (eqS n.Local (⟨#[]⟩)) then
     if (eqS n.Uri (⟨#[]⟩)) then
      if (eqS n.Text (⟨#[]⟩)) then
       if (eqI (lenL n.Decls) 0) then
        if (eqI (lenL n.Attrs) 0) then
         spec_l5Kids n.Kids 0 >>= fun r3 =>
         some r3
        else
         some false
       else
        some false
      else
       some false
     else
      some false
    else
     some false
   else
    some false
  else
   some false
 partial_fixpoint
end
def spec_NodeOk (n : GNode) : Option (Bool) :=
 spec_CountOf n >>= fun r =>
 if (gtI r 60) then
  some false
 else
  if (neI n.Kind 0) then
   spec_l5Kids [n] 0 >>= fun r1 =>
   some r1
  else
   spec_NodeOk_l24 0 0 n
def spec_Inner (l : List GDecl) (more : List GDecl) : Option (List GDecl) :=
 room (0 + l.length) 32 >>= fun x_ =>
 room ((0 + l.length) + more.length) 32 >>= fun x_1 =>
 some (([] ++ l) ++ more)
def spec_SpaceOf_l6 (l : List GDecl) (pre : ByteArray) (i : Int) : Option (ByteArray × Bool) :=
 if (geI i 0) then
  getI l i >>= fun x1 =>
  if (eqS x1.Pre pre) then
   some (x1.Uri, true)
  else
   spec_SpaceOf_l6 l pre (subI i 1)
 else
  some (⟨#[]⟩, (eqS pre (⟨#[]⟩)))
 partial_fixpoint
def spec_SpaceOf (l : List GDecl) (pre : ByteArray) : Option (ByteArray × Bool) :=
 spec_SpaceOf_l6 l pre (subI (lenL l) 1)
mutual
def spec_FitsIn (n : GNode) (l : List GDecl) : Option (Bool) :=
 spec_Inner l n.Decls >>= fun r =>
 if (eqI n.Kind 1) then
  spec_SpaceOf r n.Pre >>= fun r1 =>
  if r1.2 then
   if (neS r1.1 n.Uri) then
    some false
   else
    spec_FitsIn_j4 r n
  else
   some false
 else
  spec_FitsIn_j4 r n
 partial_fixpoint
def spec_FitsIn_j4 (r : List GDecl) (n : GNode) : Option (Bool) :=
 spec_FitsIn_l22 r 0 n
 partial_fixpoint
def spec_FitsIn_l45 (r : List GDecl) (i2 : Int) (n : GNode) : Option (Bool) :=
 if (ltI i2 (lenL n.Kids)) then
  getI n.Kids i2 >>= fun x5 =>
  spec_FitsIn x5 r >>= fun r7 =>
  if r7 then
   spec_FitsIn_l45 r (addI i2 1) n
  else
   some false
 else
  some true
 partial_fixpoint
def spec_FitsIn_l22 (r : List GDecl) (i1 : Int) (n : GNode) : Option (Bool) :=
 if (ltI i1 (lenL n.Attrs)) then
  getI n.Attrs i1 >>= fun x3 =>
  spec_SpaceOf r x3.Pre >>= fun r5 =>
  if (neS x3.Pre (⟨#[]⟩)) then
   if r5.2 then
    if (neS r5.1 x3.Uri) then
     some false
    else
     spec_FitsIn_l22 r (addI i1 1) n
   else
    some false
  else
   spec_FitsIn_l22 r (addI i1 1) n
 else
  spec_FitsIn_l45 r 0 n
 partial_fixpoint
end
def spec_OpOk_j110 (o : GOp) : Option (Bool) :=
 if (eqI o.Typ 6) then
  some true
 else
  if (eqI o.Typ 7) then
   if (eqS o.Pre (⟨#[]⟩)) then
    spec_l4Xml o.Local >>= fun r34 =>
    some (!r34)
   else
    some false
  else
   some false
def spec_OpOk_l58 (n1 : Int) (i2 : Int) (o : GOp) : Option (Bool) :=
 if (ltI i2 (lenL o.Kids)) then
  getI o.Kids i2 >>= fun x18 =>
  spec_CountOf x18 >>= fun r28 =>
  if (eqI x18.Kind 0) then
   some false
  else
   spec_NodeOk x18 >>= fun r29 =>
   if r29 then
    spec_FitsIn x18 o.Decls >>= fun r30 =>
    if r30 then
     if (gtI i2 0) then
      if (eqI x18.Kind 2) then
       getI o.Kids (subI i2 1) >>= fun x19 =>
       if (eqI x19.Kind 2) then
        some false
       else
        spec_OpOk_l58 (addI n1 r28) (addI i2 1) o
      else
       spec_OpOk_l58 (addI n1 r28) (addI i2 1) o
     else
      spec_OpOk_l58 (addI n1 r28) (addI i2 1) o
    else
     some false
   else
    some false
 else
  if (gtI n1 60) then
   some false
  else
   if (eqI o.Kind 1) then
    if (neI o.Ws 0) then
     some false
    else
     spec_l1In o.Pos 0 3 >>= fun r31 =>
     if r31 then
      if (eqI o.Typ 0) then
       if (eqS o.Pre (⟨#[]⟩)) then
        some (eqS o.Local (⟨#[]⟩))
       else
        some false
      else
       if (neI o.Pos 0) then
        some false
       else
        if (gtI (lenL o.Kids) 1) then
         some false
        else
         if (eqI (lenL o.Kids) 1) then
          getI o.Kids 0 >>= fun x20 =>
          if (neI x20.Kind 2) then
           some false
          else
           spec_JoinName o.Pre o.Local >>= fun r32 =>
           if (eqS r32 (⟨#[]⟩)) then
            some false
           else
            spec_OpOk_j110 o
         else
          spec_JoinName o.Pre o.Local >>= fun r33 =>
          if (eqS r33 (⟨#[]⟩)) then
           some false
          else
           spec_OpOk_j110 o
     else
      some false
   else
    if (eqI o.Kind 3) then
     spec_l1In o.Ws 0 3 >>= fun r35 =>
     if r35 then
      if (eqI o.Pos 0) then
       if (eqI o.Typ 0) then
        if (eqS o.Pre (⟨#[]⟩)) then
         if (eqS o.Local (⟨#[]⟩)) then
          some (eqI (lenL o.Kids) 0)
         else
          some false
        else
         some false
       else
        some false
      else
       some false
     else
      some false
    else
     if (eqI o.Ws 0) then
      if (eqI o.Pos 0) then
       if (eqI o.Typ 0) then
        if (eqS o.Pre (⟨#[]⟩)) then
         some (eqS o.Local (⟨#[]⟩))
        else
         some false
       else
        some false
      else
       some false
     else
      some false
 partial_fixpoint
mutual
def spec_OpOk_l34 (i1 : Int) (k1 : Int) (o : GOp) : Option (Bool) :=
 if (ltI k1 i1) then
  getI o.Decls k1 >>= fun x13 =>
  getI o.Decls i1 >>= fun x14 =>
  if (eqS x13.Pre x14.Pre) then
   some false
  else
   spec_OpOk_l34 i1 (addI k1 1) o
 else
  spec_OpOk_l14 (addI i1 1) o
 partial_fixpoint
def spec_OpOk_l14 (i1 : Int) (o : GOp) : Option (Bool) :=
 if (ltI i1 (lenL o.Decls)) then
  getI o.Decls i1 >>= fun x10 =>
  spec_DeclOk x10 >>= fun r19 =>
  if r19 then
   spec_OpOk_l34 i1 0 o
  else
   some false
 else
  spec_OpOk_l58 0 0 o
 partial_fixpoint
end
def spec_OpOk (o : GOp) : Option (Bool) :=
 spec_l1In o.Kind 1 3 >>= fun r =>
 if r then
  spec_SelOk o.Sel >>= fun r1 =>
  if r1 then
   if (gtI (lenL o.Decls) 8) then
    some false
   else
    spec_OpOk_l14 0 o
  else
   some false
 else
  some false
def impl_in (n : Int) (lo : Int) (hi : Int) : Option (Bool) :=
 if (geI n lo) then
  some (leI n hi)
 else
  some false
def unicode_utf8_DecodeRuneInString (s : ByteArray) : Option (Int × Int) :=
 some (decodeI s)
def impl_SignAt (s : ByteArray) (at1 : Int) : Option (Int × Int × Bool) :=
 impl_in at1 0 (subI (lenS s) 1) >>= fun r =>
 if r then
  subS s at1 (lenS s) >>= fun x =>
  unicode_utf8_DecodeRuneInString x >>= fun r1 =>
  if (eqI r1.1 65533) then
   if (leI r1.2 1) then
    some (0, 0, false)
   else
    some ((wr .i64 r1.1), (addI at1 r1.2), true)
  else
   some ((wr .i64 r1.1), (addI at1 r1.2), true)
 else
  some (0, 0, false)
def impl_inAny_1 (r : GArr2Int) (a1 : Int) : Option (Bool × Int) :=
 impl_in a1 r.xa0 r.xa1 >>= fun r1 =>
 some (r1, a1)
def slices_IndexFunc_A2int_inAny_1_l6 (s : List GArr2Int) (x1 : Int) (f : Int) : Option (Int × Int) :=
 if (ltI x1 (lenL s)) then
  getI s x1 >>= fun x2 =>
  impl_inAny_1 x2 f >>= fun r1 =>
  if r1.1 then
   some (x1, r1.2)
  else
   slices_IndexFunc_A2int_inAny_1_l6 s (addI x1 1) r1.2
 else
  some ((-1), f)
 partial_fixpoint
def slices_IndexFunc_A2int_inAny_1 (s : List GArr2Int) (fc0 : Int) : Option (Int × Int) :=
 slices_IndexFunc_A2int_inAny_1_l6 s 0 fc0
def slices_ContainsFunc_A2int_inAny_1 (s : List GArr2Int) (fc0 : Int) : Option (Bool × Int) :=
 slices_IndexFunc_A2int_inAny_1 s fc0 >>= fun r =>
 some ((geI r.1 0), r.2)
def impl_inAny (n : Int) (ranges : List GArr2Int) : Option (Bool) :=
 slices_ContainsFunc_A2int_inAny_1 ranges n >>= fun r =>
 some r.1
def impl_IsStart (n : Int) : Option (Bool) :=
 impl_inAny n [(GArr2Int.mk 65 90), (GArr2Int.mk 95 95), (GArr2Int.mk 97 122), (GArr2Int.mk 192 214), (GArr2Int.mk 216 246), (GArr2Int.mk 248 767), (GArr2Int.mk 880 893), (GArr2Int.mk 895 8191), (GArr2Int.mk 8204 8205), (GArr2Int.mk 8304 8591), (GArr2Int.mk 11264 12271), (GArr2Int.mk 12289 55295), (GArr2Int.mk 63744 64975), (GArr2Int.mk 65008 65533), (GArr2Int.mk 65536 983039)] >>= fun r =>
 some r
def impl_IsPart (n : Int) : Option (Bool) :=
 impl_IsStart n >>= fun r =>
 if r then
  some true
 else
  impl_inAny n [(GArr2Int.mk 45 46), (GArr2Int.mk 48 57), (GArr2Int.mk 183 183), (GArr2Int.mk 768 879), (GArr2Int.mk 8255 8256)] >>= fun r1 =>
  some r1
def impl_PlainOk_l6 (s : ByteArray) (at1 : Int) : Option (Bool) :=
 if (ltI at1 (lenS s)) then
  impl_SignAt s at1 >>= fun r5 =>
  if r5.2.2 then
   if (eqI at1 0) then
    impl_IsStart r5.1 >>= fun r6 =>
    if r6 then
     impl_IsPart r5.1 >>= fun r7 =>
     if r7 then
      impl_PlainOk_l6 s r5.2.1
     else
      some false
    else
     some false
   else
    impl_IsPart r5.1 >>= fun r8 =>
    if r8 then
     impl_PlainOk_l6 s r5.2.1
    else
     some false
  else
   some false
 else
  impl_in (lenS s) 1 16 >>= fun r9 =>
  some r9
 partial_fixpoint
def impl_PlainOk (s : ByteArray) : Option (Bool) :=
 impl_PlainOk_l6 s 0
def impl_nameOk (pre : ByteArray) (local1 : ByteArray) : Option (Bool) :=
 if (eqS pre (⟨#[]⟩)) then
  impl_PlainOk local1 >>= fun r =>
  some r
 else
  impl_PlainOk pre >>= fun r1 =>
  if r1 then
   impl_PlainOk local1 >>= fun r2 =>
   some r2
  else
   some false
def impl_IsSign (n : Int) : Option (Bool) :=
 impl_inAny n [(GArr2Int.mk 9 10), (GArr2Int.mk 13 13), (GArr2Int.mk 32 55295), (GArr2Int.mk 57344 65533), (GArr2Int.mk 65536 1114111)] >>= fun r =>
 some r
def impl_signsOk_l6 (s : ByteArray) (at1 : Int) : Option (Bool) :=
 if (ltI at1 (lenS s)) then
  impl_SignAt s at1 >>= fun r2 =>
  if r2.2.2 then
   impl_IsSign r2.1 >>= fun r3 =>
   if r3 then
    impl_signsOk_l6 s r2.2.1
   else
    some false
  else
   some false
 else
  some true
 partial_fixpoint
def impl_signsOk (s : ByteArray) : Option (Bool) :=
 impl_signsOk_l6 s 0
def impl_TextOk (s : ByteArray) : Option (Bool) :=
 if (leI (lenS s) 600) then
  impl_signsOk s >>= fun r =>
  some r
 else
  some false
def strings_Contains (s : ByteArray) (t : ByteArray) : Option (Bool) :=
 if s.size < 4294967281 then some (containsB s t) else none
def impl_valOk (s : ByteArray) : Option (Bool) :=
 impl_TextOk s >>= fun r =>
 if r then
  strings_Contains s (⟨#[39]⟩) >>= fun r1 =>
  if r1 then
   strings_Contains s (⟨#[34]⟩) >>= fun r2 =>
   some (!r2)
  else
   some true
 else
  some false
def impl_predOk_j16 (named : Bool) (element : Bool) (p : GPred) (x : Bool) : Option (Bool) :=
 if x then
  if element then
   if (eqI p.N 0) then
    impl_nameOk p.Pre p.Local >>= fun r1 =>
    if r1 then
     impl_valOk p.Val >>= fun r2 =>
     some r2
    else
     some false
   else
    some false
  else
   some false
 else
  if (eqI p.Kind 4) then
   if element then
    if (eqI p.N 0) then
     if named then
      some false
     else
      impl_valOk p.Val >>= fun r3 =>
      some r3
    else
     some false
   else
    some false
  else
   some false
def impl_predOk_j4 (named : Bool) (element : Bool) (p : GPred) : Option (Bool) :=
 if (eqI p.Kind 1) then
  impl_in p.N 1 999 >>= fun r =>
  if r then
   if named then
    some false
   else
    some (eqS p.Val (⟨#[]⟩))
  else
   some false
 else
  if (eqI p.Kind 2) then
   impl_predOk_j16 named element p true
  else
   impl_predOk_j16 named element p (eqI p.Kind 3)
def impl_predOk_j2 (kind : Int) (named : Bool) (p : GPred) : Option (Bool) :=
 if (eqI kind 1) then
  impl_predOk_j4 named true p
 else
  impl_predOk_j4 named (eqI kind 2) p
def impl_predOk (p : GPred) (kind : Int) : Option (Bool) :=
 if (neS p.Pre (⟨#[]⟩)) then
  impl_predOk_j2 kind true p
 else
  impl_predOk_j2 kind (neS p.Local (⟨#[]⟩)) p
def impl_stepOk_1 (p : GPred) (a1 : GStp) : Option (Bool × GStp) :=
 impl_predOk p a1.Kind >>= fun r =>
 some ((!r), a1)
def slices_IndexFunc_Pred_stepOk_1_l6 (s : List GPred) (x1 : Int) (f : GStp) : Option (Int × GStp) :=
 if (ltI x1 (lenL s)) then
  getI s x1 >>= fun x2 =>
  impl_stepOk_1 x2 f >>= fun r1 =>
  if r1.1 then
   some (x1, r1.2)
  else
   slices_IndexFunc_Pred_stepOk_1_l6 s (addI x1 1) r1.2
 else
  some ((-1), f)
 partial_fixpoint
def slices_IndexFunc_Pred_stepOk_1 (s : List GPred) (fc0 : GStp) : Option (Int × GStp) :=
 slices_IndexFunc_Pred_stepOk_1_l6 s 0 fc0
def slices_ContainsFunc_Pred_stepOk_1 (s : List GPred) (fc0 : GStp) : Option (Bool × GStp) :=
 slices_IndexFunc_Pred_stepOk_1 s fc0 >>= fun r =>
 some ((geI r.1 0), r.2)
def impl_stepOk_j22 (end1 : Bool) (r : Bool × GStp) (x : Bool) (sDeep : Bool) : Option (Bool) :=
 if x then
  if (eqS r.2.Pre (⟨#[]⟩)) then
   some (eqS r.2.Local (⟨#[]⟩))
  else
   some false
 else
  if (eqI r.2.Kind 5) then
   if (eqS r.2.Pre (⟨#[]⟩)) then
    if (eqS r.2.Local (⟨#[]⟩)) then
     some true
    else
     impl_PlainOk r.2.Local >>= fun r2 =>
     some r2
   else
    some false
  else
   if (eqI r.2.Kind 6) then
    if end1 then
     impl_nameOk r.2.Pre r.2.Local >>= fun r3 =>
     some r3
    else
     some false
   else
    if (eqI r.2.Kind 7) then
     if end1 then
      if (eqS r.2.Pre (⟨#[]⟩)) then
       impl_PlainOk r.2.Local >>= fun r4 =>
       some r4
      else
       some false
     else
      some false
    else
     some false
def impl_stepOk_j10 (end1 : Bool) (sDeep : Bool) (r : Bool × GStp) : Option (Bool) :=
 if (eqI r.2.Kind 1) then
  impl_nameOk r.2.Pre r.2.Local >>= fun r1 =>
  some r1
 else
  if (eqI r.2.Kind 2) then
   impl_stepOk_j22 end1 r true sDeep
  else
   if (eqI r.2.Kind 3) then
    impl_stepOk_j22 end1 r true sDeep
   else
    impl_stepOk_j22 end1 r (eqI r.2.Kind 4) sDeep
def impl_stepOk (s : GStp) (last : Bool) : Option (Bool) :=
 if (gtI (lenL s.Preds) 3) then
  some false
 else
  slices_ContainsFunc_Pred_stepOk_1 s.Preds s >>= fun r =>
  if r.1 then
   some false
  else
   if last then
    if r.2.Deep then
     impl_stepOk_j10 false true r
    else
     impl_stepOk_j10 (eqI (lenL r.2.Preds) 0) false r
   else
    impl_stepOk_j10 false r.2.Deep r
def impl_SelOk_l8 (s : GSel) (x1 : Int) : Option (Bool) :=
 if (ltI x1 (lenL s.Steps)) then
  getI s.Steps x1 >>= fun x2 =>
  impl_stepOk x2 (eqI x1 (subI (lenL s.Steps) 1)) >>= fun r2 =>
  if r2 then
   impl_SelOk_l8 s (addI x1 1)
  else
   some false
 else
  impl_valOk s.Id >>= fun r3 =>
  if r3 then
   if (leI (lenL s.Steps) 8) then
    if (gtI (lenL s.Steps) 0) then
     some true
    else
     some (neS s.Id (⟨#[]⟩))
   else
    some false
  else
   some false
 partial_fixpoint
def impl_SelOk (s : GSel) : Option (Bool) :=
 impl_SelOk_l8 s 0
def impl_twicePre_1 (a0 : GDecl) (a1 : GDecl) : Option (Bool × GDecl) :=
 some ((eqS a0.Pre a1.Pre), a1)
def slices_IndexFunc_Decl_twicePre_1_l6 (s : List GDecl) (x1 : Int) (f : GDecl) : Option (Int × GDecl) :=
 if (ltI x1 (lenL s)) then
  getI s x1 >>= fun x2 =>
  impl_twicePre_1 x2 f >>= fun r1 =>
  if r1.1 then
   some (x1, r1.2)
  else
   slices_IndexFunc_Decl_twicePre_1_l6 s (addI x1 1) r1.2
 else
  some ((-1), f)
 partial_fixpoint
def slices_IndexFunc_Decl_twicePre_1 (s : List GDecl) (fc0 : GDecl) : Option (Int × GDecl) :=
 slices_IndexFunc_Decl_twicePre_1_l6 s 0 fc0
def slices_ContainsFunc_Decl_twicePre_1 (s : List GDecl) (fc0 : GDecl) : Option (Bool × GDecl) :=
 slices_IndexFunc_Decl_twicePre_1 s fc0 >>= fun r =>
 some ((geI r.1 0), r.2)
def impl_twicePre_l6 (l : List GDecl) (x2 : Int) : Option (Bool) :=
 if (ltI x2 (lenL l)) then
  getI l x2 >>= fun x3 =>
  slL l 0 x2 >>= fun x4 =>
  slices_ContainsFunc_Decl_twicePre_1 x4 x3 >>= fun r1 =>
  if r1.1 then
   some true
  else
   impl_twicePre_l6 l (addI x2 1)
 else
  some false
 partial_fixpoint
def impl_twicePre (l : List GDecl) : Option (Bool) :=
 impl_twicePre_l6 l 0
def internal_stringslite_HasPrefix (s : ByteArray) (prefix1 : ByteArray) : Option (Bool) :=
 if (geI (lenS s) (lenS prefix1)) then
  subS s 0 (lenS prefix1) >>= fun x =>
  some (eqS x prefix1)
 else
  some false
def strings_HasPrefix (s : ByteArray) (prefix1 : ByteArray) : Option (Bool) :=
 internal_stringslite_HasPrefix s prefix1 >>= fun r =>
 some r
def impl_preOk (s : ByteArray) : Option (Bool) :=
 if (eqS s (⟨#[]⟩)) then
  some true
 else
  impl_PlainOk s >>= fun r =>
  if r then
   strings_HasPrefix s (⟨#[120, 109, 108]⟩) >>= fun r1 =>
   some (!r1)
  else
   some false
def impl_uriOk (uri : ByteArray) (pre : ByteArray) : Option (Bool) :=
 impl_TextOk uri >>= fun r =>
 if r then
  if (leI (lenS uri) 40) then
   if (neS uri (⟨#[]⟩)) then
    some true
   else
    some (eqS pre (⟨#[]⟩))
  else
   some false
 else
  some false
def impl_DeclOk (d : GDecl) : Option (Bool) :=
 impl_preOk d.Pre >>= fun r =>
 if r then
  impl_uriOk d.Uri d.Pre >>= fun r1 =>
  some r1
 else
  some false
def impl_OpOk_1 (d : GDecl) : Option (Bool) :=
 impl_DeclOk d >>= fun r =>
 some (!r)
def slices_IndexFunc_Decl_OpOk_1_l6 (s : List GDecl) (x1 : Int) : Option (Int) :=
 if (ltI x1 (lenL s)) then
  getI s x1 >>= fun x2 =>
  impl_OpOk_1 x2 >>= fun r1 =>
  if r1 then
   some x1
  else
   slices_IndexFunc_Decl_OpOk_1_l6 s (addI x1 1)
 else
  some (-1)
 partial_fixpoint
def slices_IndexFunc_Decl_OpOk_1 (s : List GDecl) : Option (Int) :=
 slices_IndexFunc_Decl_OpOk_1_l6 s 0
def slices_ContainsFunc_Decl_OpOk_1 (s : List GDecl) : Option (Bool) :=
 slices_IndexFunc_Decl_OpOk_1 s >>= fun r =>
 some (geI r 0)
mutual
def impl_CountOf (n : GNode) : Option (Int) :=
 impl_CountOf_l8 (addI 1 (lenL n.Attrs)) n 0
 partial_fixpoint
def impl_CountOf_l8 (out : Int) (n : GNode) (x1 : Int) : Option (Int) :=
 if (ltI x1 (lenL n.Kids)) then
  getI n.Kids x1 >>= fun x2 =>
  impl_CountOf x2 >>= fun r1 =>
  impl_CountOf_l8 (addI out r1) n (addI x1 1)
 else
  some out
 partial_fixpoint
end
def internal_stringslite_HasSuffix (s : ByteArray) (suffix : ByteArray) : Option (Bool) :=
 if (geI (lenS s) (lenS suffix)) then
  subS s (subI (lenS s) (lenS suffix)) (lenS s) >>= fun x =>
  some (eqS x suffix)
 else
  some false
def strings_HasSuffix (s : ByteArray) (suffix : ByteArray) : Option (Bool) :=
 internal_stringslite_HasSuffix s suffix >>= fun r =>
 some r
def impl_noteOk (s : ByteArray) : Option (Bool) :=
 impl_TextOk s >>= fun r =>
 if r then
  strings_Contains s (⟨#[45, 45]⟩) >>= fun r1 =>
  if r1 then
   some false
  else
   strings_HasSuffix s (⟨#[45]⟩) >>= fun r2 =>
   if r2 then
    some false
   else
    strings_Contains s (⟨#[13]⟩) >>= fun r3 =>
    some (!r3)
 else
  some false
def strings_EqualFold (s : ByteArray) (t : ByteArray) : Option (Bool) :=
 if s.size < 4294967281 ∧ xmlB t = true then some (foldB s t) else none
def impl_IsBlank (n : Int) : Option (Bool) :=
 if (eqI n 9) then
  some true
 else
  if (eqI n 10) then
   some true
  else
   if (eqI n 13) then
    some true
   else
    some (eqI n 32)
def impl_toldOk (local1 : ByteArray) (s : ByteArray) : Option (Bool) :=
 impl_PlainOk local1 >>= fun r =>
 if r then
  strings_EqualFold local1 (⟨#[120, 109, 108]⟩) >>= fun r1 =>
  if r1 then
   some false
  else
   impl_TextOk s >>= fun r2 =>
   if r2 then
    strings_Contains s (⟨#[63, 62]⟩) >>= fun r3 =>
    if r3 then
     some false
    else
     strings_Contains s (⟨#[13]⟩) >>= fun r4 =>
     if r4 then
      some false
     else
      if (eqS s (⟨#[]⟩)) then
       some true
      else
       atS s 0 >>= fun x =>
       impl_IsBlank (wr .i64 x) >>= fun r5 =>
       some (!r5)
   else
    some false
 else
  some false
def impl_leafOk_j2 (n : GNode) : Option (Bool) :=
 if (eqI n.Kind 2) then
  if (neS n.Text (⟨#[]⟩)) then
   impl_TextOk n.Text >>= fun r =>
   some r
  else
   some false
 else
  if (eqI n.Kind 3) then
   impl_noteOk n.Text >>= fun r1 =>
   some r1
  else
   if (eqI n.Kind 4) then
    impl_toldOk n.Local n.Text >>= fun r2 =>
    some r2
   else
    some false
def impl_leafOk (n : GNode) : Option (Bool) :=
 if (neS n.Pre (⟨#[]⟩)) then
  some false
 else
  if (neS n.Uri (⟨#[]⟩)) then
   some false
  else
   if (gtI (lenL n.Decls) 0) then
    some false
   else
    if (gtI (lenL n.Attrs) 0) then
     some false
    else
     if (gtI (lenL n.Kids) 0) then
      some false
     else
      if (neS n.Local (⟨#[]⟩)) then
       if (neI n.Kind 4) then
        some false
       else
        impl_leafOk_j2 n
      else
       impl_leafOk_j2 n
def impl_DeclsOk_l6 (l : List GDecl) (x2 : Int) : Option (Bool) :=
 if (ltI x2 (lenL l)) then
  getI l x2 >>= fun x3 =>
  impl_DeclOk x3 >>= fun r1 =>
  if r1 then
   if (gtI x2 0) then
    getI l (subI x2 1) >>= fun x4 =>
    if (geS x4.Pre x3.Pre) then
     some false
    else
     impl_DeclsOk_l6 l (addI x2 1)
   else
    impl_DeclsOk_l6 l (addI x2 1)
  else
   some false
 else
  some (leI (lenL l) 4)
 partial_fixpoint
def impl_DeclsOk (l : List GDecl) : Option (Bool) :=
 impl_DeclsOk_l6 l 0
def impl_attrOk (a : GAttr) : Option (Bool) :=
 impl_preOk a.Pre >>= fun r =>
 if r then
  if (neB (eqS a.Pre (⟨#[]⟩)) (eqS a.Uri (⟨#[]⟩))) then
   some false
  else
   impl_uriOk a.Uri a.Pre >>= fun r1 =>
   if r1 then
    impl_PlainOk a.Local >>= fun r2 =>
    if r2 then
     impl_TextOk a.Val >>= fun r3 =>
     if r3 then
      if (neS a.Pre (⟨#[]⟩)) then
       some true
      else
       some (neS a.Local (⟨#[120, 109, 108, 110, 115]⟩))
     else
      some false
    else
     some false
   else
    some false
 else
  some false
def strings_Compare (s : ByteArray) (t : ByteArray) : Option (Int) :=
 some (compareB s t)
def impl_compareAttrs (a : GAttr) (b : GAttr) : Option (Int) :=
 strings_Compare a.Uri b.Uri >>= fun r =>
 if (neI r 0) then
  some r
 else
  strings_Compare a.Local b.Local >>= fun r1 =>
  some r1
def impl_attrsOk_l6 (l : List GAttr) (x2 : Int) : Option (Bool) :=
 if (ltI x2 (lenL l)) then
  getI l x2 >>= fun x3 =>
  impl_attrOk x3 >>= fun r2 =>
  if r2 then
   if (gtI x2 0) then
    getI l (subI x2 1) >>= fun x4 =>
    impl_compareAttrs x4 x3 >>= fun r3 =>
    if (geI r3 0) then
     some false
    else
     impl_attrsOk_l6 l (addI x2 1)
   else
    impl_attrsOk_l6 l (addI x2 1)
  else
   some false
 else
  some (leI (lenL l) 5)
 partial_fixpoint
def impl_attrsOk (l : List GAttr) : Option (Bool) :=
 impl_attrsOk_l6 l 0
def impl_noTwoTexts_l6 (l : List GNode) (x2 : Int) : Option (Bool) :=
 if (ltI x2 (lenL l)) then
  getI l x2 >>= fun x3 =>
  if (gtI x2 0) then
   if (eqI x3.Kind 2) then
    getI l (subI x2 1) >>= fun x4 =>
    if (eqI x4.Kind 2) then
     some false
    else
     impl_noTwoTexts_l6 l (addI x2 1)
   else
    impl_noTwoTexts_l6 l (addI x2 1)
  else
   impl_noTwoTexts_l6 l (addI x2 1)
 else
  some true
 partial_fixpoint
def impl_noTwoTexts (l : List GNode) : Option (Bool) :=
 impl_noTwoTexts_l6 l 0
mutual
def impl_kidsOk (n : GNode) (deep : Int) : Option (Bool) :=
 impl_noTwoTexts n.Kids >>= fun r =>
 if r then
  slices_ContainsFunc_Node_kidsOk_1 n.Kids deep >>= fun r1 =>
  some (!r1.1)
 else
  some false
 partial_fixpoint
def impl_kidsOk_1 (k : GNode) (a1 : Int) : Option (Bool × Int) :=
 impl_partOk k a1 >>= fun r =>
 some ((!r), a1)
 partial_fixpoint
def impl_partOk (n : GNode) (deep : Int) : Option (Bool) :=
 if (neI n.Kind 1) then
  impl_leafOk n >>= fun r =>
  some r
 else
  if (geI deep 7) then
   some false
  else
   if (neS n.Text (⟨#[]⟩)) then
    some false
   else
    impl_preOk n.Pre >>= fun r1 =>
    if r1 then
     impl_uriOk n.Uri n.Pre >>= fun r2 =>
     if r2 then
      impl_PlainOk n.Local >>= fun r3 =>
      if r3 then
       impl_DeclsOk n.Decls >>= fun r4 =>
       if r4 then
        impl_attrsOk n.Attrs >>= fun r5 =>
        if r5 then
         impl_kidsOk n (addI deep 1) >>= fun r6 =>
         some r6
        else
         some false
       else
        some false
      else
       some false
     else
      some false
    else
     some false
 partial_fixpoint
def slices_ContainsFunc_Node_kidsOk_1 (s : List GNode) (fc0 : Int) : Option (Bool × Int) :=
 slices_IndexFunc_Node_kidsOk_1 s fc0 >>= fun r =>
 some ((geI r.1 0), r.2)
 partial_fixpoint
def slices_IndexFunc_Node_kidsOk_1 (s : List GNode) (fc0 : Int) : Option (Int × Int) :=
 slices_IndexFunc_Node_kidsOk_1_l6 s 0 fc0
 partial_fixpoint
def slices_IndexFunc_Node_kidsOk_1_l6 (s : List GNode) (x1 : Int) (f : Int) : Option (Int × Int) :=
 if (ltI x1 (lenL s)) then
  getI s x1 >>= fun x2 =>
  impl_kidsOk_1 x2 f >>= fun r1 =>
  if r1.1 then
   some (x1, r1.2)
  else
   slices_IndexFunc_Node_kidsOk_1_l6 s (addI x1 1) r1.2
 else
  some ((-1), f)
 partial_fixpoint
end
def impl_ofKind_l8 (kind : Int) (n : Int) (l : List GNode) (x1 : Int) : Option (Int) :=
 if (ltI x1 (lenL l)) then
  getI l x1 >>= fun x2 =>
  if (eqI x2.Kind kind) then
   impl_ofKind_l8 kind (addI n 1) l (addI x1 1)
  else
   impl_ofKind_l8 kind n l (addI x1 1)
 else
  some n
 partial_fixpoint
def impl_ofKind (l : List GNode) (kind : Int) : Option (Int) :=
 impl_ofKind_l8 kind 0 l 0
def impl_NodeOk_j18 (bare : Bool) (n : GNode) : Option (Bool) :=
 if bare then
  impl_ofKind n.Kids 1 >>= fun r2 =>
  if (eqI r2 1) then
   impl_ofKind n.Kids 2 >>= fun r3 =>
   if (eqI r3 0) then
    impl_kidsOk n 0 >>= fun r4 =>
    some r4
   else
    some false
  else
   some false
 else
  some false
def impl_NodeOk (n : GNode) : Option (Bool) :=
 impl_CountOf n >>= fun r =>
 if (gtI r 60) then
  some false
 else
  if (neI n.Kind 0) then
   impl_partOk n 0 >>= fun r1 =>
   some r1
  else
   if (eqS n.Pre (⟨#[]⟩)) then
    if (eqS n.Local (⟨#[]⟩)) then
     if (eqS n.Uri (⟨#[]⟩)) then
      if (eqS n.Text (⟨#[]⟩)) then
       if (eqI (lenL n.Decls) 0) then
        impl_NodeOk_j18 (eqI (lenL n.Attrs) 0) n
       else
        impl_NodeOk_j18 false n
      else
       impl_NodeOk_j18 false n
     else
      impl_NodeOk_j18 false n
    else
     impl_NodeOk_j18 false n
   else
    impl_NodeOk_j18 false n
def impl_FitsIn (n : GNode) (l : List (GDecl)) : Option (Bool) :=
 fitsR ((GNode.row false) n) (l.map fun x => (x.Pre, x.Uri))
def impl_opKidsOk_l8 (many : Int) (o : GOp) (x1 : Int) : Option (Bool) :=
 if (ltI x1 (lenL o.Kids)) then
  getI o.Kids x1 >>= fun x2 =>
  impl_CountOf x2 >>= fun r4 =>
  if (eqI x2.Kind 0) then
   some false
  else
   impl_NodeOk x2 >>= fun r5 =>
   if r5 then
    impl_FitsIn x2 o.Decls >>= fun r6 =>
    if r6 then
     impl_opKidsOk_l8 (addI many r4) o (addI x1 1)
    else
     some false
   else
    some false
 else
  if (leI many 60) then
   impl_noTwoTexts o.Kids >>= fun r7 =>
   some r7
  else
   some false
 partial_fixpoint
def impl_opKidsOk (o : GOp) : Option (Bool) :=
 impl_opKidsOk_l8 0 o 0
def strings_Cut (s : ByteArray) (t : ByteArray) : Option (ByteArray × ByteArray × Bool) :=
 if s.size < 4294967281 then some (cutB s t) else none
def impl_SplitName (s : ByteArray) : Option (ByteArray × ByteArray × Bool) :=
 impl_PlainOk s >>= fun r =>
 if r then
  some (⟨#[]⟩, s, true)
 else
  strings_Cut s (⟨#[58]⟩) >>= fun r1 =>
  if r1.2.2 then
   impl_PlainOk r1.1 >>= fun r2 =>
   if r2 then
    impl_PlainOk r1.2.1 >>= fun r3 =>
    if r3 then
     some (r1.1, r1.2.1, true)
    else
     some (⟨#[]⟩, ⟨#[]⟩, false)
   else
    some (⟨#[]⟩, ⟨#[]⟩, false)
  else
   some (⟨#[]⟩, ⟨#[]⟩, false)
def impl_JoinName_j4 (pre : ByteArray) (local1 : ByteArray) (s : ByteArray) : Option (ByteArray) :=
 impl_SplitName s >>= fun r =>
 if r.2.2 then
  if (neS r.1 pre) then
   some (⟨#[]⟩)
  else
   if (neS r.2.1 local1) then
    some (⟨#[]⟩)
   else
    some s
 else
  some (⟨#[]⟩)
def impl_JoinName (pre : ByteArray) (local1 : ByteArray) : Option (ByteArray) :=
 if (neS pre (⟨#[]⟩)) then
  catS pre (⟨#[58]⟩) >>= fun x =>
  catS x local1 >>= fun x1 =>
  impl_JoinName_j4 pre local1 x1
 else
  impl_JoinName_j4 pre local1 local1
def impl_typeOk_j2 (o : GOp) : Option (Bool) :=
 if (eqI o.Typ 6) then
  some true
 else
  if (eqI o.Typ 7) then
   if (eqS o.Pre (⟨#[]⟩)) then
    strings_HasPrefix o.Local (⟨#[120, 109, 108]⟩) >>= fun r1 =>
    some (!r1)
   else
    some false
  else
   some false
def impl_typeOk (o : GOp) : Option (Bool) :=
 if (neI o.Pos 0) then
  some false
 else
  impl_JoinName o.Pre o.Local >>= fun r =>
  if (eqS r (⟨#[]⟩)) then
   some false
  else
   if (gtI (lenL o.Kids) 1) then
    some false
   else
    if (eqI (lenL o.Kids) 1) then
     getI o.Kids 0 >>= fun x =>
     if (neI x.Kind 2) then
      some false
     else
      impl_typeOk_j2 o
    else
     impl_typeOk_j2 o
def impl_OpOk_j10 (bare : Bool) (o : GOp) : Option (Bool) :=
 if (eqI o.Kind 1) then
  if (eqI o.Ws 0) then
   impl_in o.Pos 0 3 >>= fun r4 =>
   if r4 then
    if bare then
     some true
    else
     impl_typeOk o >>= fun r5 =>
     some r5
   else
    some false
  else
   some false
 else
  if (eqI o.Kind 2) then
   if (eqI o.Ws 0) then
    if (eqI o.Pos 0) then
     some bare
    else
     some false
   else
    some false
  else
   if (eqI o.Kind 3) then
    impl_in o.Ws 0 3 >>= fun r6 =>
    if r6 then
     if (eqI o.Pos 0) then
      if bare then
       some (eqI (lenL o.Kids) 0)
      else
       some false
     else
      some false
    else
     some false
   else
    some false
def impl_OpOk (o : GOp) : Option (Bool) :=
 impl_SelOk o.Sel >>= fun r =>
 if r then
  if (gtI (lenL o.Decls) 8) then
   some false
  else
   impl_twicePre o.Decls >>= fun r1 =>
   if r1 then
    some false
   else
    slices_ContainsFunc_Decl_OpOk_1 o.Decls >>= fun r2 =>
    if r2 then
     some false
    else
     impl_opKidsOk o >>= fun r3 =>
     if r3 then
      if (eqI o.Typ 0) then
       if (eqS o.Pre (⟨#[]⟩)) then
        impl_OpOk_j10 (eqS o.Local (⟨#[]⟩)) o
       else
        impl_OpOk_j10 false o
      else
       impl_OpOk_j10 false o
     else
      some false
 else
  some false
def laws_eqPred (a : GPred) (b : GPred) : Option (Bool) :=
 if (neI a.Kind b.Kind) then
  some false
 else
  if (neI a.N b.N) then
   some false
  else
   if (neS a.Pre b.Pre) then
    some false
   else
    if (neS a.Local b.Local) then
     some false
    else
     if (neS a.Val b.Val) then
      some false
     else
      some true
def laws_eqPredS_l14 (a : List GPred) (b : List GPred) (i : Int) : Option (Bool) :=
 if (ltI i (lenL a)) then
  getI a i >>= fun x2 =>
  getI b i >>= fun x3 =>
  laws_eqPred x2 x3 >>= fun r1 =>
  if r1 then
   laws_eqPredS_l14 a b (addI i 1)
  else
   some false
 else
  some true
 partial_fixpoint
def laws_eqPredS (a : List GPred) (b : List GPred) : Option (Bool) :=
 if (neI (lenL a) (lenL b)) then
  some false
 else
  laws_eqPredS_l14 a b 0
def laws_eqStep (a : GStp) (b : GStp) : Option (Bool) :=
 if (neB a.Deep b.Deep) then
  some false
 else
  if (neI a.Kind b.Kind) then
   some false
  else
   if (neS a.Pre b.Pre) then
    some false
   else
    if (neS a.Local b.Local) then
     some false
    else
     laws_eqPredS a.Preds b.Preds >>= fun r =>
     if r then
      some true
     else
      some false
def laws_eqStepS_l14 (a : List GStp) (b : List GStp) (i : Int) : Option (Bool) :=
 if (ltI i (lenL a)) then
  getI a i >>= fun x2 =>
  getI b i >>= fun x3 =>
  laws_eqStep x2 x3 >>= fun r1 =>
  if r1 then
   laws_eqStepS_l14 a b (addI i 1)
  else
   some false
 else
  some true
 partial_fixpoint
def laws_eqStepS (a : List GStp) (b : List GStp) : Option (Bool) :=
 if (neI (lenL a) (lenL b)) then
  some false
 else
  laws_eqStepS_l14 a b 0
def laws_eqSel (a : GSel) (b : GSel) : Option (Bool) :=
 if (neS a.Id b.Id) then
  some false
 else
  laws_eqStepS a.Steps b.Steps >>= fun r =>
  if r then
   some true
  else
   some false
def laws_eqDecl (a : GDecl) (b : GDecl) : Option (Bool) :=
 if (neS a.Pre b.Pre) then
  some false
 else
  if (neS a.Uri b.Uri) then
   some false
  else
   some true
def laws_eqDeclS_l14 (a : List GDecl) (b : List GDecl) (i : Int) : Option (Bool) :=
 if (ltI i (lenL a)) then
  getI a i >>= fun x2 =>
  getI b i >>= fun x3 =>
  laws_eqDecl x2 x3 >>= fun r1 =>
  if r1 then
   laws_eqDeclS_l14 a b (addI i 1)
  else
   some false
 else
  some true
 partial_fixpoint
def laws_eqDeclS (a : List GDecl) (b : List GDecl) : Option (Bool) :=
 if (neI (lenL a) (lenL b)) then
  some false
 else
  laws_eqDeclS_l14 a b 0
def laws_eqAttr (a : GAttr) (b : GAttr) : Option (Bool) :=
 if (neS a.Pre b.Pre) then
  some false
 else
  if (neS a.Local b.Local) then
   some false
  else
   if (neS a.Uri b.Uri) then
    some false
   else
    if (neS a.Val b.Val) then
     some false
    else
     some true
def laws_eqAttrS_l14 (a : List GAttr) (b : List GAttr) (i : Int) : Option (Bool) :=
 if (ltI i (lenL a)) then
  getI a i >>= fun x2 =>
  getI b i >>= fun x3 =>
  laws_eqAttr x2 x3 >>= fun r1 =>
  if r1 then
   laws_eqAttrS_l14 a b (addI i 1)
  else
   some false
 else
  some true
 partial_fixpoint
def laws_eqAttrS (a : List GAttr) (b : List GAttr) : Option (Bool) :=
 if (neI (lenL a) (lenL b)) then
  some false
 else
  laws_eqAttrS_l14 a b 0
mutual
def laws_eqNode (a : GNode) (b : GNode) : Option (Bool) :=
 if (neI a.Kind b.Kind) then
  some false
 else
  if (neS a.Pre b.Pre) then
   some false
  else
   if (neS a.Local b.Local) then
    some false
   else
    if (neS a.Uri b.Uri) then
     some false
    else
     laws_eqDeclS a.Decls b.Decls >>= fun r =>
     if r then
      laws_eqAttrS a.Attrs b.Attrs >>= fun r1 =>
      if r1 then
       laws_eqNodeS a.Kids b.Kids >>= fun r2 =>
       if r2 then
        if (neS a.Text b.Text) then
         some false
        else
         some true
       else
        some false
      else
       some false
     else
      some false
 partial_fixpoint
def laws_eqNodeS (a : List GNode) (b : List GNode) : Option (Bool) :=
 if (neI (lenL a) (lenL b)) then
  some false
 else
  laws_eqNodeS_l14 a b 0
 partial_fixpoint
def laws_eqNodeS_l14 (a : List GNode) (b : List GNode) (i : Int) : Option (Bool) :=
 if (ltI i (lenL a)) then
  getI a i >>= fun x2 =>
  getI b i >>= fun x3 =>
  laws_eqNode x2 x3 >>= fun r1 =>
  if r1 then
   laws_eqNodeS_l14 a b (addI i 1)
  else
   some false
 else
  some true
 partial_fixpoint
end
def laws_eqOp (a : GOp) (b : GOp) : Option (Bool) :=
 if (neI a.Kind b.Kind) then
  some false
 else
  laws_eqSel a.Sel b.Sel >>= fun r =>
  if r then
   if (neI a.Pos b.Pos) then
    some false
   else
    if (neI a.Typ b.Typ) then
     some false
    else
     if (neS a.Pre b.Pre) then
      some false
     else
      if (neS a.Local b.Local) then
       some false
      else
       if (neI a.Ws b.Ws) then
        some false
       else
        laws_eqNodeS a.Kids b.Kids >>= fun r1 =>
        if r1 then
         laws_eqDeclS a.Decls b.Decls >>= fun r2 =>
         if r2 then
          some true
         else
          some false
        else
         some false
  else
   some false
def laws_FnExactOpOk (aO : GOp) : Option (Bool) :=
 laws_szOp aO 1048576 >>= fun r =>
 if (ltI r 0) then
  some true
 else
  laws_toOp aO >>= fun r1 =>
  spec_OpOk r1 >>= fun r2 =>
  laws_toOp aO >>= fun r3 =>
  impl_OpOk r3 >>= fun r4 =>
  if (neB r4 r2) then
   some false
  else
   laws_toOp aO >>= fun r5 =>
   laws_eqOp r3 r5 >>= fun r6 =>
   if r6 then
    some true
   else
    some false
end TT
