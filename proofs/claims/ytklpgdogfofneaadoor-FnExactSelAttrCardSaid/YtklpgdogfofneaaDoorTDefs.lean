import Derived.Test.YtklpgdogfofneaaDoorTTypes
set_option linter.unusedVariables false
set_option linter.unusedSimpArgs false
set_option linter.defProp false
set_option maxRecDepth 100000
namespace TT
open Go
def laws_szDecl (a : GDecl) (left : Int) : Option (Int) :=
  if (ltI (subI left (lenS a.Pre)) 0) then
    some (-1)
  else
    if (ltI (subI (subI left (lenS a.Pre)) (lenS a.Uri)) 0) then
      some (-1)
    else
      some (subI (subI left (lenS a.Pre)) (lenS a.Uri))
def laws_szDeclS_l16 (a : List GDecl) (left1 : Int) (i : Int) : Option (Int) :=
  if (ltI i (lenL a)) then
    getI a i >>= fun x1 =>
    laws_szDecl x1 left1 >>= fun r1 =>
    if (ltI r1 0) then
      some (-1)
    else
      laws_szDeclS_l16 a r1 (addI i 1)
  else
    some left1
  partial_fixpoint
def laws_szDeclS (a : List GDecl) (left : Int) : Option (Int) :=
  if (ltI (subI left (lenL a)) 0) then
    some (-1)
  else
    laws_szDeclS_l16 a (subI left (lenL a)) 0
def laws_szAttr (a : GAttr) (left : Int) : Option (Int) :=
  if (ltI (subI left (lenS a.Pre)) 0) then
    some (-1)
  else
    if (ltI (subI (subI left (lenS a.Pre)) (lenS a.Local)) 0) then
      some (-1)
    else
      if (ltI (subI (subI (subI left (lenS a.Pre)) (lenS a.Local)) (lenS a.Uri)) 0) then
        some (-1)
      else
        if (ltI (subI (subI (subI (subI left (lenS a.Pre)) (lenS a.Local)) (lenS a.Uri)) (lenS a.Val)) 0) then
          some (-1)
        else
          some (subI (subI (subI (subI left (lenS a.Pre)) (lenS a.Local)) (lenS a.Uri)) (lenS a.Val))
def laws_szAttrS_l16 (a : List GAttr) (left1 : Int) (i : Int) : Option (Int) :=
  if (ltI i (lenL a)) then
    getI a i >>= fun x1 =>
    laws_szAttr x1 left1 >>= fun r1 =>
    if (ltI r1 0) then
      some (-1)
    else
      laws_szAttrS_l16 a r1 (addI i 1)
  else
    some left1
  partial_fixpoint
def laws_szAttrS (a : List GAttr) (left : Int) : Option (Int) :=
  if (ltI (subI left (lenL a)) 0) then
    some (-1)
  else
    laws_szAttrS_l16 a (subI left (lenL a)) 0
mutual
def laws_szNode (a : GNode) (left : Int) : Option (Int) :=
  if (ltI (subI left (lenS a.Pre)) 0) then
    some (-1)
  else
    if (ltI (subI (subI left (lenS a.Pre)) (lenS a.Local)) 0) then
      some (-1)
    else
      if (ltI (subI (subI (subI left (lenS a.Pre)) (lenS a.Local)) (lenS a.Uri)) 0) then
        some (-1)
      else
        laws_szDeclS a.Decls (subI (subI (subI left (lenS a.Pre)) (lenS a.Local)) (lenS a.Uri)) >>= fun r =>
        if (ltI r 0) then
          some (-1)
        else
          laws_szAttrS a.Attrs r >>= fun r1 =>
          if (ltI r1 0) then
            some (-1)
          else
            laws_szNodeS a.Kids r1 >>= fun r2 =>
            if (ltI r2 0) then
              some (-1)
            else
              if (ltI (subI r2 (lenS a.Text)) 0) then
                some (-1)
              else
                some (subI r2 (lenS a.Text))
  partial_fixpoint
def laws_szNodeS (a : List GNode) (left : Int) : Option (Int) :=
  if (ltI (subI left (lenL a)) 0) then
    some (-1)
  else
    laws_szNodeS_l16 a (subI left (lenL a)) 0
  partial_fixpoint
def laws_szNodeS_l16 (a : List GNode) (left1 : Int) (i : Int) : Option (Int) :=
  if (ltI i (lenL a)) then
    getI a i >>= fun x1 =>
    laws_szNode x1 left1 >>= fun r1 =>
    if (ltI r1 0) then
      some (-1)
    else
      laws_szNodeS_l16 a r1 (addI i 1)
  else
    some left1
  partial_fixpoint
end
def laws_toDecl (a : GDecl) : Option (GDecl) :=
  some a
def laws_toDeclS_l8 (a : List GDecl) (out : List (GDecl)) (i : Int) : Option (List GDecl) :=
  if (ltI i (lenL a)) then
    getI a i >>= fun x2 =>
    laws_toDecl x2 >>= fun r1 =>
    getI out i >>= fun x3 =>
    laws_toDeclS_l8 a (out.set (Int.toNat i) r1) (addI i 1)
  else
    some out
  partial_fixpoint
def laws_toDeclS (a : List GDecl) : Option (List GDecl) :=
  mkN (lenL a) 32 >>= fun m =>
  laws_toDeclS_l8 a (List.replicate m (GDecl.mk ⟨#[]⟩ ⟨#[]⟩)) 0
def laws_toAttr (a : GAttr) : Option (GAttr) :=
  some a
def laws_toAttrS_l8 (a : List GAttr) (out : List (GAttr)) (i : Int) : Option (List GAttr) :=
  if (ltI i (lenL a)) then
    getI a i >>= fun x2 =>
    laws_toAttr x2 >>= fun r1 =>
    getI out i >>= fun x3 =>
    laws_toAttrS_l8 a (out.set (Int.toNat i) r1) (addI i 1)
  else
    some out
  partial_fixpoint
def laws_toAttrS (a : List GAttr) : Option (List GAttr) :=
  mkN (lenL a) 64 >>= fun m =>
  laws_toAttrS_l8 a (List.replicate m (GAttr.mk ⟨#[]⟩ ⟨#[]⟩ ⟨#[]⟩ ⟨#[]⟩)) 0
mutual
def laws_toNode (a : GNode) : Option (GNode) :=
  laws_toDeclS a.Decls >>= fun r =>
  laws_toAttrS a.Attrs >>= fun r1 =>
  laws_toNodeS a.Kids >>= fun r2 =>
  some (GNode.mk a.Kind a.Pre a.Local a.Uri r r1 r2 a.Text)
  partial_fixpoint
def laws_toNodeS (a : List GNode) : Option (List GNode) :=
  mkN (lenL a) 144 >>= fun m =>
  laws_toNodeS_l8 a (List.replicate m (GNode.mk 0 ⟨#[]⟩ ⟨#[]⟩ ⟨#[]⟩ [] [] [] ⟨#[]⟩)) 0
  partial_fixpoint
def laws_toNodeS_l8 (a : List GNode) (out : List (GNode)) (i : Int) : Option (List GNode) :=
  if (ltI i (lenL a)) then
    getI a i >>= fun x2 =>
    laws_toNode x2 >>= fun r1 =>
    getI out i >>= fun x3 =>
    laws_toNodeS_l8 a (out.set (Int.toNat i) r1) (addI i 1)
  else
    some out
  partial_fixpoint
end
def laws_toIntS_l8 (a : List Int) (out : List (Int)) (i : Int) : Option (List Int) :=
  if (ltI i (lenL a)) then
    getI a i >>= fun x2 =>
    getI out i >>= fun x3 =>
    laws_toIntS_l8 a (out.set (Int.toNat i) x2) (addI i 1)
  else
    some out
  partial_fixpoint
def laws_toIntS (a : List Int) : Option (List Int) :=
  mkN (lenL a) 8 >>= fun m =>
  laws_toIntS_l8 a (List.replicate m 0) 0
def spec_l1In (a0 : Int) (least : Int) (most : Int) : Option (Bool) :=
  if (geI a0 least) then
    some (leI a0 most)
  else
    some false
mutual
def spec_l5All (l : List GNode) : Option (List GNode) :=
  spec_l5All_l8 l [] 0
  partial_fixpoint
def spec_l5All_l8 (l : List GNode) (out : List (GNode)) (i : Int) : Option (List GNode) :=
  if (ltI i (lenL l)) then
    getI l i >>= fun x1 =>
    spec_l5Copy x1 >>= fun r1 =>
    room (out.length + 1) 144 >>= fun x_1 =>
    spec_l5All_l8 l (out ++ [r1]) (addI i 1)
  else
    some out
  partial_fixpoint
def spec_l5Copy (n : GNode) : Option (GNode) :=
  room (0 + n.Decls.length) 32 >>= fun x_ =>
  room (0 + n.Attrs.length) 64 >>= fun x_1 =>
  spec_l5All n.Kids >>= fun r =>
  some (GNode.mk n.Kind n.Pre n.Local n.Uri ([] ++ n.Decls) ([] ++ n.Attrs) r n.Text)
  partial_fixpoint
end
def spec_NodeAt_l8 (path : List Int) (i : Int) (x3 : GNode) : Option (GNode × Bool) :=
  if (ltI i (lenL path)) then
    getI path i >>= fun x4 =>
    spec_l1In x4 0 (subI (lenL x3.Kids) 1) >>= fun r2 =>
    if r2 then
      getI path i >>= fun x5 =>
      getI x3.Kids x5 >>= fun x6 =>
      spec_NodeAt_l8 path (addI i 1) x6
    else
      some ((GNode.mk 0 (⟨#[]⟩) (⟨#[]⟩) (⟨#[]⟩) [] [] [] (⟨#[]⟩)), false)
  else
    spec_l5Copy x3 >>= fun r3 =>
    some (r3, true)
  partial_fixpoint
def spec_NodeAt (n : GNode) (path : List Int) : Option (GNode × Bool) :=
  spec_NodeAt_l8 path 0 n
def spec_l19Step_l10 (i : Int) (nth : Int) (k : Int) (up : GNode) (x : GNode) : Option (GStp) :=
  if (ltI k (lenL up.Kids)) then
    getI up.Kids k >>= fun x2 =>
    if (eqI x2.Kind x.Kind) then
      if (leI k i) then
        spec_l19Step_l10 i (addI nth 1) (addI k 1) up x
      else
        spec_l19Step_l10 i nth (addI k 1) up x
    else
      spec_l19Step_l10 i nth (addI k 1) up x
  else
    if (eqI x.Kind 2) then
      some (GStp.mk false 3 (⟨#[]⟩) (⟨#[]⟩) [(GPred.mk 1 nth (⟨#[]⟩) (⟨#[]⟩) (⟨#[]⟩))])
    else
      if (eqI x.Kind 3) then
        some (GStp.mk false 4 (⟨#[]⟩) (⟨#[]⟩) [(GPred.mk 1 nth (⟨#[]⟩) (⟨#[]⟩) (⟨#[]⟩))])
      else
        if (eqI x.Kind 4) then
          some (GStp.mk false 5 (⟨#[]⟩) (⟨#[]⟩) [(GPred.mk 1 nth (⟨#[]⟩) (⟨#[]⟩) (⟨#[]⟩))])
        else
          some (GStp.mk false 2 (⟨#[]⟩) (⟨#[]⟩) [(GPred.mk 1 nth (⟨#[]⟩) (⟨#[]⟩) (⟨#[]⟩))])
  partial_fixpoint
def spec_l19Step (up : GNode) (i : Int) : Option (GStp) :=
  getI up.Kids i >>= fun x =>
  spec_l19Step_l10 i 0 0 up x
def spec_SelFor_l20 (path : List Int) (i : Int) (outSteps : List (GStp)) (x3 : GNode) : Option (GSel × Bool) :=
  if (ltI i (lenL path)) then
    getI path i >>= fun x4 =>
    spec_l19Step x3 x4 >>= fun r3 =>
    room (outSteps.length + 1) 72 >>= fun x_1 =>
    getI path i >>= fun x5 =>
    getI x3.Kids x5 >>= fun x6 =>
    spec_SelFor_l20 path (addI i 1) (outSteps ++ [r3]) x6
  else
    some ((GSel.mk (⟨#[]⟩) outSteps), true)
  partial_fixpoint
def spec_SelFor (t : GNode) (path : List Int) : Option (GSel × Bool) :=
  spec_NodeAt t path >>= fun r =>
  if r.2 then
    spec_l1In (lenL path) 1 8 >>= fun r1 =>
    if r1 then
      spec_SelFor_l20 path 0 [] t
    else
      some ((GSel.mk (⟨#[]⟩) []), false)
  else
    some ((GSel.mk (⟨#[]⟩) []), false)
def spec_SignAt_l55 (s : ByteArray) (at1 : Int) (n : Int) (least : Int) (v1 : Int) (i : Int) : Option (Int × Int × Bool) :=
  if (leI i n) then
    atS s (addI at1 i) >>= fun x4 =>
    if (ltI (wr .i64 x4) 128) then
      some (0, 0, false)
    else
      if (gtI (wr .i64 x4) 191) then
        some (0, 0, false)
      else
        spec_SignAt_l55 s at1 n least (subI (addI (mulI v1 64) (wr .i64 x4)) 128) (addI i 1)
  else
    if (ltI v1 least) then
      some (0, 0, false)
    else
      if (gtI v1 1114111) then
        some (0, 0, false)
      else
        spec_l1In v1 55296 57343 >>= fun r1 =>
        if r1 then
          some (0, 0, false)
        else
          some (v1, (addI (addI at1 1) n), true)
  partial_fixpoint
def spec_SignAt_j26 (s : ByteArray) (at1 : Int) (n : Int) (least : Int) (v : Int) : Option (Int × Int × Bool) :=
  if (gtI at1 (subI (subI (lenS s) 1) n)) then
    some (0, 0, false)
  else
    spec_SignAt_l55 s at1 n least v 1
def spec_SignAt_j32 (s : ByteArray) (at1 : Int) (x : Int) (x2 : Bool) : Option (Int × Int × Bool) :=
  if x2 then
    spec_SignAt_j26 s at1 2 2048 (andK .i64 (wr .i64 x) 15)
  else
    if (geI (wr .i64 x) 240) then
      if (ltI (wr .i64 x) 248) then
        spec_SignAt_j26 s at1 3 65536 (andK .i64 (wr .i64 x) 7)
      else
        some (0, 0, false)
    else
      some (0, 0, false)
def spec_SignAt_j28 (s : ByteArray) (at1 : Int) (x : Int) (x1 : Bool) : Option (Int × Int × Bool) :=
  if x1 then
    spec_SignAt_j26 s at1 1 128 (andK .i64 (wr .i64 x) 31)
  else
    if (geI (wr .i64 x) 224) then
      spec_SignAt_j32 s at1 x (ltI (wr .i64 x) 240)
    else
      spec_SignAt_j32 s at1 x false
def spec_SignAt (s : ByteArray) (at1 : Int) : Option (Int × Int × Bool) :=
  if (ltI at1 0) then
    some (0, 0, false)
  else
    if (geI at1 (lenS s)) then
      some (0, 0, false)
    else
      atS s at1 >>= fun x =>
      if (ltI (wr .i64 x) 128) then
        some ((wr .i64 x), (addI at1 1), true)
      else
        if (geI (wr .i64 x) 192) then
          spec_SignAt_j28 s at1 x (ltI (wr .i64 x) 224)
        else
          spec_SignAt_j28 s at1 x false
def spec_l1Ranges_l6 (n : Int) (l : List Int) (i : Int) : Option (Bool) :=
  if (ltI (addI i 1) (lenL l)) then
    getI l i >>= fun x2 =>
    getI l (addI i 1) >>= fun x3 =>
    spec_l1In n x2 x3 >>= fun r1 =>
    if r1 then
      some true
    else
      spec_l1Ranges_l6 n l (addI i 2)
  else
    some false
  partial_fixpoint
def spec_l1Ranges (n : Int) (l : List Int) : Option (Bool) :=
  spec_l1Ranges_l6 n l 0
def spec_IsStart (n : Int) : Option (Bool) :=
  spec_l1Ranges n [65, 90, 95, 95, 97, 122, 192, 214, 216, 246, 248, 767, 880, 893, 895, 8191, 8204, 8205, 8304, 8591, 11264, 12271, 12289, 55295, 63744, 64975, 65008, 65533, 65536, 983039] >>= fun r =>
  some r
def spec_IsPart (n : Int) : Option (Bool) :=
  spec_IsStart n >>= fun r =>
  if r then
    some true
  else
    spec_l1Ranges n [45, 46, 48, 57, 183, 183, 768, 879, 8255, 8256] >>= fun r1 =>
    some r1
def spec_PlainOk_l14 (s : ByteArray) (at1 : Int) : Option (Bool) :=
  if (ltI at1 (lenS s)) then
    spec_SignAt s at1 >>= fun r5 =>
    if r5.2.2 then
      if (eqI at1 0) then
        spec_IsStart r5.1 >>= fun r6 =>
        if r6 then
          spec_IsPart r5.1 >>= fun r7 =>
          if r7 then
            spec_PlainOk_l14 s r5.2.1
          else
            some false
        else
          some false
      else
        spec_IsPart r5.1 >>= fun r8 =>
        if r8 then
          spec_PlainOk_l14 s r5.2.1
        else
          some false
    else
      some false
  else
    some true
  partial_fixpoint
def spec_PlainOk (s : ByteArray) : Option (Bool) :=
  spec_l1In (lenS s) 1 16 >>= fun r =>
  if r then
    spec_PlainOk_l14 s 0
  else
    some false
def spec_SplitName_l14 (s : ByteArray) (i : Int) : Option (ByteArray × ByteArray × Bool) :=
  if (ltI i (lenS s)) then
    atS s i >>= fun x5 =>
    if (eqI x5 58) then
      subS s 0 i >>= fun x6 =>
      spec_PlainOk x6 >>= fun r3 =>
      if r3 then
        subS s (addI i 1) (lenS s) >>= fun x7 =>
        spec_PlainOk x7 >>= fun r4 =>
        if r4 then
          subS s 0 i >>= fun x8 =>
          subS s (addI i 1) (lenS s) >>= fun x9 =>
          some (x8, x9, true)
        else
          some (⟨#[]⟩, ⟨#[]⟩, false)
      else
        some (⟨#[]⟩, ⟨#[]⟩, false)
    else
      spec_SplitName_l14 s (addI i 1)
  else
    some (⟨#[]⟩, ⟨#[]⟩, false)
  partial_fixpoint
def spec_SplitName (s : ByteArray) : Option (ByteArray × ByteArray × Bool) :=
  spec_PlainOk s >>= fun r =>
  if r then
    some (⟨#[]⟩, s, true)
  else
    spec_SplitName_l14 s 0
def spec_JoinName_j4 (pre : ByteArray) (local1 : ByteArray) (s : ByteArray) : Option (ByteArray) :=
  spec_SplitName s >>= fun r =>
  if r.2.2 then
    if (neS r.1 pre) then
      some (⟨#[]⟩)
    else
      if (neS r.2.1 local1) then
        some (⟨#[]⟩)
      else
        some s
  else
    some (⟨#[]⟩)
def spec_JoinName (pre : ByteArray) (local1 : ByteArray) : Option (ByteArray) :=
  if (neS pre (⟨#[]⟩)) then
    catS pre (⟨#[58]⟩) >>= fun x =>
    catS x local1 >>= fun x1 =>
    spec_JoinName_j4 pre local1 x1
  else
    spec_JoinName_j4 pre local1 local1
def spec_IsSign (n : Int) : Option (Bool) :=
  if (eqI n 9) then
    some true
  else
    if (eqI n 10) then
      some true
    else
      if (eqI n 13) then
        some true
      else
        spec_l1In n 32 55295 >>= fun r =>
        if r then
          some true
        else
          spec_l1In n 57344 65533 >>= fun r1 =>
          if r1 then
            some true
          else
            spec_l1In n 65536 1114111 >>= fun r2 =>
            some r2
def spec_l1Signs_l6 (s : ByteArray) (at1 : Int) : Option (Bool) :=
  if (ltI at1 (lenS s)) then
    spec_SignAt s at1 >>= fun r2 =>
    if r2.2.2 then
      spec_IsSign r2.1 >>= fun r3 =>
      if r3 then
        spec_l1Signs_l6 s r2.2.1
      else
        some false
    else
      some false
  else
    some (leI (lenS s) 1500)
  partial_fixpoint
def spec_l1Signs (s : ByteArray) : Option (Bool) :=
  spec_l1Signs_l6 s 0
def spec_TextOk (s : ByteArray) : Option (Bool) :=
  if (leI (lenS s) 600) then
    spec_l1Signs s >>= fun r =>
    some r
  else
    some false
def spec_l5Has_l6 (s : ByteArray) (t : ByteArray) (i : Int) : Option (Bool) :=
  if (leI (addI i (lenS t)) (lenS s)) then
    subS s i (addI i (lenS t)) >>= fun x1 =>
    if (eqS x1 t) then
      some true
    else
      spec_l5Has_l6 s t (addI i 1)
  else
    some false
  partial_fixpoint
def spec_l5Has (s : ByteArray) (t : ByteArray) : Option (Bool) :=
  spec_l5Has_l6 s t 0
def spec_l11Val (s : ByteArray) : Option (Bool) :=
  spec_TextOk s >>= fun r =>
  if r then
    spec_l5Has s (⟨#[39]⟩) >>= fun r1 =>
    if r1 then
      spec_l5Has s (⟨#[34]⟩) >>= fun r2 =>
      some (!r2)
    else
      some true
  else
    some false
def spec_l11PredOk_j12 (kind : Int) (p : GPred) (x : Bool) : Option (Bool) :=
  if x then
    spec_l1In kind 1 2 >>= fun r1 =>
    if r1 then
      if (eqI p.N 0) then
        spec_JoinName p.Pre p.Local >>= fun r2 =>
        if (neS r2 (⟨#[]⟩)) then
          spec_l11Val p.Val >>= fun r3 =>
          some r3
        else
          some false
      else
        some false
    else
      some false
  else
    if (eqI p.Kind 4) then
      spec_l1In kind 1 2 >>= fun r4 =>
      if r4 then
        if (eqI p.N 0) then
          if (eqS p.Pre (⟨#[]⟩)) then
            if (eqS p.Local (⟨#[]⟩)) then
              spec_l11Val p.Val >>= fun r5 =>
              some r5
            else
              some false
          else
            some false
        else
          some false
      else
        some false
    else
      some false
def spec_l11PredOk (p : GPred) (kind : Int) : Option (Bool) :=
  if (eqI p.Kind 1) then
    spec_l1In p.N 1 999 >>= fun r =>
    if r then
      if (eqS p.Pre (⟨#[]⟩)) then
        if (eqS p.Local (⟨#[]⟩)) then
          some (eqS p.Val (⟨#[]⟩))
        else
          some false
      else
        some false
    else
      some false
  else
    if (eqI p.Kind 2) then
      spec_l11PredOk_j12 kind p true
    else
      spec_l11PredOk_j12 kind p (eqI p.Kind 3)
def spec_l11StepOk_j45 (a0 : GStp) (x5 : Bool) (xDeep : Bool) : Option (Bool) :=
  if x5 then
    if (eqS a0.Pre (⟨#[]⟩)) then
      some (eqS a0.Local (⟨#[]⟩))
    else
      some false
  else
    if (eqI a0.Kind 5) then
      if (eqS a0.Pre (⟨#[]⟩)) then
        if (eqS a0.Local (⟨#[]⟩)) then
          some true
        else
          spec_PlainOk a0.Local >>= fun r6 =>
          some r6
      else
        some false
    else
      if (eqI a0.Kind 7) then
        if (eqS a0.Pre (⟨#[]⟩)) then
          spec_PlainOk a0.Local >>= fun r7 =>
          some r7
        else
          some false
      else
        some false
def spec_l11StepOk_j35 (a0 : GStp) (x4 : Bool) (xDeep : Bool) : Option (Bool) :=
  if x4 then
    spec_JoinName a0.Pre a0.Local >>= fun r5 =>
    some (neS r5 (⟨#[]⟩))
  else
    if (eqI a0.Kind 2) then
      spec_l11StepOk_j45 a0 true xDeep
    else
      if (eqI a0.Kind 3) then
        spec_l11StepOk_j45 a0 true xDeep
      else
        spec_l11StepOk_j45 a0 (eqI a0.Kind 4) xDeep
def spec_l11StepOk_l14 (i : Int) (xDeep : Bool) (a0 : GStp) : Option (Bool) :=
  if (ltI i (lenL a0.Preds)) then
    getI a0.Preds i >>= fun x3 =>
    spec_l11PredOk x3 a0.Kind >>= fun r4 =>
    if r4 then
      spec_l11StepOk_l14 (addI i 1) xDeep a0
    else
      some false
  else
    if (eqI a0.Kind 1) then
      spec_l11StepOk_j35 a0 true xDeep
    else
      spec_l11StepOk_j35 a0 (eqI a0.Kind 6) xDeep
  partial_fixpoint
def spec_l11StepOk_j2 (xDeep : Bool) (a0 : GStp) : Option (Bool) :=
  spec_l11StepOk_l14 0 xDeep a0
def spec_l11StepOk (a0 : GStp) (last : Bool) : Option (Bool) :=
  if (gtI (lenL a0.Preds) 3) then
    some false
  else
    if (geI a0.Kind 6) then
      if last then
        if a0.Deep then
          some false
        else
          if (gtI (lenL a0.Preds) 0) then
            some false
          else
            spec_l11StepOk_j2 false a0
      else
        some false
    else
      spec_l11StepOk_j2 a0.Deep a0
def spec_SelOk_l6 (i : Int) (s : GSel) : Option (Bool) :=
  if (ltI i (lenL s.Steps)) then
    getI s.Steps i >>= fun x1 =>
    spec_l11StepOk x1 (eqI i (subI (lenL s.Steps) 1)) >>= fun r2 =>
    if r2 then
      spec_SelOk_l6 (addI i 1) s
    else
      some false
  else
    spec_l11Val s.Id >>= fun r3 =>
    if r3 then
      if (leI (lenL s.Steps) 8) then
        if (neS s.Id (⟨#[]⟩)) then
          some true
        else
          some (gtI (lenL s.Steps) 0)
      else
        some false
    else
      some false
  partial_fixpoint
def spec_SelOk (s : GSel) : Option (Bool) :=
  spec_SelOk_l6 0 s
def spec_SelAttr (t : GNode) (path : List Int) (a : GAttr) : Option (GSel × Bool) :=
  spec_SelFor t path >>= fun r =>
  room (r.1.Steps.length + 1) 72 >>= fun x_ =>
  if r.2 then
    spec_SelOk (GSel.mk r.1.Id (r.1.Steps ++ [(GStp.mk false 6 a.Pre a.Local [])])) >>= fun r1 =>
    if r1 then
      some ((GSel.mk r.1.Id (r.1.Steps ++ [(GStp.mk false 6 a.Pre a.Local [])])), true)
    else
      some ((GSel.mk (⟨#[]⟩) []), false)
  else
    some ((GSel.mk (⟨#[]⟩) []), false)
def impl_in (n : Int) (lo : Int) (hi : Int) : Option (Bool) :=
  if (geI n lo) then
    some (leI n hi)
  else
    some false
def slices_Clone_Decl (s : List (GDecl)) : Option (List GDecl) :=
  room s.length 32 >>= fun _ => some s
def slices_Clone_Attr (s : List (GAttr)) : Option (List GAttr) :=
  room s.length 64 >>= fun _ => some s
mutual
def impl_cloneNode (n : GNode) : Option (GNode) :=
  slices_Clone_Decl n.Decls >>= fun r =>
  slices_Clone_Attr n.Attrs >>= fun r1 =>
  impl_cloneNodes n.Kids >>= fun r2 =>
  some (GNode.mk n.Kind n.Pre n.Local n.Uri r r1 r2 n.Text)
  partial_fixpoint
def impl_cloneNodes (l : List GNode) : Option (List GNode) :=
  impl_cloneNodes_l8 [] l 0
  partial_fixpoint
def impl_cloneNodes_l8 (out : List (GNode)) (l : List GNode) (x1 : Int) : Option (List GNode) :=
  if (ltI x1 (lenL l)) then
    getI l x1 >>= fun x2 =>
    impl_cloneNode x2 >>= fun r1 =>
    room (out.length + 1) 144 >>= fun x_1 =>
    impl_cloneNodes_l8 (out ++ [r1]) l (addI x1 1)
  else
    some out
  partial_fixpoint
end
def impl_NodeAt_l6 (path : List Int) (x2 : Int) (n1 : GNode) : Option (GNode × Bool) :=
  if (ltI x2 (lenL path)) then
    getI path x2 >>= fun x3 =>
    impl_in x3 0 (subI (lenL n1.Kids) 1) >>= fun r2 =>
    if r2 then
      getI n1.Kids x3 >>= fun x4 =>
      impl_NodeAt_l6 path (addI x2 1) x4
    else
      some ((GNode.mk 0 (⟨#[]⟩) (⟨#[]⟩) (⟨#[]⟩) [] [] [] (⟨#[]⟩)), false)
  else
    impl_cloneNode n1 >>= fun r3 =>
    some (r3, true)
  partial_fixpoint
def impl_NodeAt (n : GNode) (path : List Int) : Option (GNode × Bool) :=
  impl_NodeAt_l6 path 0 n
def impl_ofKind_l8 (kind : Int) (n : Int) (l : List GNode) (x1 : Int) : Option (Int) :=
  if (ltI x1 (lenL l)) then
    getI l x1 >>= fun x2 =>
    if (eqI x2.Kind kind) then
      impl_ofKind_l8 kind (addI n 1) l (addI x1 1)
    else
      impl_ofKind_l8 kind n l (addI x1 1)
  else
    some n
  partial_fixpoint
def impl_ofKind (l : List GNode) (kind : Int) : Option (Int) :=
  impl_ofKind_l8 kind 0 l 0
def impl_stepKind (kind : Int) : Option (Int) :=
  if (eqI kind 2) then
    some 3
  else
    if (eqI kind 3) then
      some 4
    else
      if (eqI kind 4) then
        some 5
      else
        some 2
def impl_SelFor_l18 (path : List Int) (x4 : Int) (t1 : GNode) (outSteps : List (GStp)) : Option (GSel × Bool) :=
  if (ltI x4 (lenL path)) then
    getI path x4 >>= fun x5 =>
    getI t1.Kids x5 >>= fun x6 =>
    slL t1.Kids 0 (addI x5 1) >>= fun x7 =>
    impl_ofKind x7 x6.Kind >>= fun r4 =>
    impl_stepKind x6.Kind >>= fun r5 =>
    room (outSteps.length + 1) 72 >>= fun x_1 =>
    getI t1.Kids x5 >>= fun x8 =>
    impl_SelFor_l18 path (addI x4 1) x8 (outSteps ++ [(GStp.mk false r5 (⟨#[]⟩) (⟨#[]⟩) [(GPred.mk 1 r4 (⟨#[]⟩) (⟨#[]⟩) (⟨#[]⟩))])])
  else
    some ((GSel.mk (⟨#[]⟩) outSteps), true)
  partial_fixpoint
def impl_SelFor (t : GNode) (path : List Int) : Option (GSel × Bool) :=
  impl_NodeAt t path >>= fun r =>
  if r.2 then
    impl_in (lenL path) 1 8 >>= fun r1 =>
    if r1 then
      impl_SelFor_l18 path 0 t []
    else
      some ((GSel.mk (⟨#[]⟩) []), false)
  else
    some ((GSel.mk (⟨#[]⟩) []), false)
def unicode_utf8_DecodeRuneInString (s : ByteArray) : Option (Int × Int) :=
  some (decodeI s)
def impl_SignAt (s : ByteArray) (at1 : Int) : Option (Int × Int × Bool) :=
  impl_in at1 0 (subI (lenS s) 1) >>= fun r =>
  if r then
    subS s at1 (lenS s) >>= fun x =>
    unicode_utf8_DecodeRuneInString x >>= fun r1 =>
    if (eqI r1.1 65533) then
      if (leI r1.2 1) then
        some (0, 0, false)
      else
        some ((wr .i64 r1.1), (addI at1 r1.2), true)
    else
      some ((wr .i64 r1.1), (addI at1 r1.2), true)
  else
    some (0, 0, false)
def impl_inAny_1 (r : GArr2Int) (a1 : Int) : Option (Bool × Int) :=
  impl_in a1 r.xa0 r.xa1 >>= fun r1 =>
  some (r1, a1)
def slices_IndexFunc_A2int_inAny_1_l6 (s : List GArr2Int) (x1 : Int) (f : Int) : Option (Int × Int) :=
  if (ltI x1 (lenL s)) then
    getI s x1 >>= fun x2 =>
    impl_inAny_1 x2 f >>= fun r1 =>
    if r1.1 then
      some (x1, r1.2)
    else
      slices_IndexFunc_A2int_inAny_1_l6 s (addI x1 1) r1.2
  else
    some ((-1), f)
  partial_fixpoint
def slices_IndexFunc_A2int_inAny_1 (s : List GArr2Int) (fc0 : Int) : Option (Int × Int) :=
  slices_IndexFunc_A2int_inAny_1_l6 s 0 fc0
def slices_ContainsFunc_A2int_inAny_1 (s : List GArr2Int) (fc0 : Int) : Option (Bool × Int) :=
  slices_IndexFunc_A2int_inAny_1 s fc0 >>= fun r =>
  some ((geI r.1 0), r.2)
def impl_inAny (n : Int) (ranges : List GArr2Int) : Option (Bool) :=
  slices_ContainsFunc_A2int_inAny_1 ranges n >>= fun r =>
  some r.1
def impl_IsStart (n : Int) : Option (Bool) :=
  impl_inAny n [(GArr2Int.mk 65 90), (GArr2Int.mk 95 95), (GArr2Int.mk 97 122), (GArr2Int.mk 192 214), (GArr2Int.mk 216 246), (GArr2Int.mk 248 767), (GArr2Int.mk 880 893), (GArr2Int.mk 895 8191), (GArr2Int.mk 8204 8205), (GArr2Int.mk 8304 8591), (GArr2Int.mk 11264 12271), (GArr2Int.mk 12289 55295), (GArr2Int.mk 63744 64975), (GArr2Int.mk 65008 65533), (GArr2Int.mk 65536 983039)] >>= fun r =>
  some r
def impl_IsPart (n : Int) : Option (Bool) :=
  impl_IsStart n >>= fun r =>
  if r then
    some true
  else
    impl_inAny n [(GArr2Int.mk 45 46), (GArr2Int.mk 48 57), (GArr2Int.mk 183 183), (GArr2Int.mk 768 879), (GArr2Int.mk 8255 8256)] >>= fun r1 =>
    some r1
def impl_PlainOk_l6 (s : ByteArray) (at1 : Int) : Option (Bool) :=
  if (ltI at1 (lenS s)) then
    impl_SignAt s at1 >>= fun r5 =>
    if r5.2.2 then
      if (eqI at1 0) then
        impl_IsStart r5.1 >>= fun r6 =>
        if r6 then
          impl_IsPart r5.1 >>= fun r7 =>
          if r7 then
            impl_PlainOk_l6 s r5.2.1
          else
            some false
        else
          some false
      else
        impl_IsPart r5.1 >>= fun r8 =>
        if r8 then
          impl_PlainOk_l6 s r5.2.1
        else
          some false
    else
      some false
  else
    impl_in (lenS s) 1 16 >>= fun r9 =>
    some r9
  partial_fixpoint
def impl_PlainOk (s : ByteArray) : Option (Bool) :=
  impl_PlainOk_l6 s 0
def impl_nameOk (pre : ByteArray) (local1 : ByteArray) : Option (Bool) :=
  if (eqS pre (⟨#[]⟩)) then
    impl_PlainOk local1 >>= fun r =>
    some r
  else
    impl_PlainOk pre >>= fun r1 =>
    if r1 then
      impl_PlainOk local1 >>= fun r2 =>
      some r2
    else
      some false
def impl_IsSign (n : Int) : Option (Bool) :=
  impl_inAny n [(GArr2Int.mk 9 10), (GArr2Int.mk 13 13), (GArr2Int.mk 32 55295), (GArr2Int.mk 57344 65533), (GArr2Int.mk 65536 1114111)] >>= fun r =>
  some r
def impl_signsOk_l6 (s : ByteArray) (at1 : Int) : Option (Bool) :=
  if (ltI at1 (lenS s)) then
    impl_SignAt s at1 >>= fun r2 =>
    if r2.2.2 then
      impl_IsSign r2.1 >>= fun r3 =>
      if r3 then
        impl_signsOk_l6 s r2.2.1
      else
        some false
    else
      some false
  else
    some true
  partial_fixpoint
def impl_signsOk (s : ByteArray) : Option (Bool) :=
  impl_signsOk_l6 s 0
def impl_TextOk (s : ByteArray) : Option (Bool) :=
  if (leI (lenS s) 600) then
    impl_signsOk s >>= fun r =>
    some r
  else
    some false
def strings_Contains (s : ByteArray) (t : ByteArray) : Option (Bool) :=
  if t.size = 1 then some (holds1 s t) else none
def impl_valOk (s : ByteArray) : Option (Bool) :=
  impl_TextOk s >>= fun r =>
  if r then
    strings_Contains s (⟨#[39]⟩) >>= fun r1 =>
    if r1 then
      strings_Contains s (⟨#[34]⟩) >>= fun r2 =>
      some (!r2)
    else
      some true
  else
    some false
def impl_predOk_j16 (named : Bool) (element : Bool) (p : GPred) (x : Bool) : Option (Bool) :=
  if x then
    if element then
      if (eqI p.N 0) then
        impl_nameOk p.Pre p.Local >>= fun r1 =>
        if r1 then
          impl_valOk p.Val >>= fun r2 =>
          some r2
        else
          some false
      else
        some false
    else
      some false
  else
    if (eqI p.Kind 4) then
      if element then
        if (eqI p.N 0) then
          if named then
            some false
          else
            impl_valOk p.Val >>= fun r3 =>
            some r3
        else
          some false
      else
        some false
    else
      some false
def impl_predOk_j4 (named : Bool) (element : Bool) (p : GPred) : Option (Bool) :=
  if (eqI p.Kind 1) then
    impl_in p.N 1 999 >>= fun r =>
    if r then
      if named then
        some false
      else
        some (eqS p.Val (⟨#[]⟩))
    else
      some false
  else
    if (eqI p.Kind 2) then
      impl_predOk_j16 named element p true
    else
      impl_predOk_j16 named element p (eqI p.Kind 3)
def impl_predOk_j2 (kind : Int) (named : Bool) (p : GPred) : Option (Bool) :=
  if (eqI kind 1) then
    impl_predOk_j4 named true p
  else
    impl_predOk_j4 named (eqI kind 2) p
def impl_predOk (p : GPred) (kind : Int) : Option (Bool) :=
  if (neS p.Pre (⟨#[]⟩)) then
    impl_predOk_j2 kind true p
  else
    impl_predOk_j2 kind (neS p.Local (⟨#[]⟩)) p
def impl_stepOk_1 (p : GPred) (a1 : GStp) : Option (Bool × GStp) :=
  impl_predOk p a1.Kind >>= fun r =>
  some ((!r), a1)
def slices_IndexFunc_Pred_stepOk_1_l6 (s : List GPred) (x1 : Int) (f : GStp) : Option (Int × GStp) :=
  if (ltI x1 (lenL s)) then
    getI s x1 >>= fun x2 =>
    impl_stepOk_1 x2 f >>= fun r1 =>
    if r1.1 then
      some (x1, r1.2)
    else
      slices_IndexFunc_Pred_stepOk_1_l6 s (addI x1 1) r1.2
  else
    some ((-1), f)
  partial_fixpoint
def slices_IndexFunc_Pred_stepOk_1 (s : List GPred) (fc0 : GStp) : Option (Int × GStp) :=
  slices_IndexFunc_Pred_stepOk_1_l6 s 0 fc0
def slices_ContainsFunc_Pred_stepOk_1 (s : List GPred) (fc0 : GStp) : Option (Bool × GStp) :=
  slices_IndexFunc_Pred_stepOk_1 s fc0 >>= fun r =>
  some ((geI r.1 0), r.2)
def impl_stepOk_j22 (end1 : Bool) (r : Bool × GStp) (x : Bool) (sDeep : Bool) : Option (Bool) :=
  if x then
    if (eqS r.2.Pre (⟨#[]⟩)) then
      some (eqS r.2.Local (⟨#[]⟩))
    else
      some false
  else
    if (eqI r.2.Kind 5) then
      if (eqS r.2.Pre (⟨#[]⟩)) then
        if (eqS r.2.Local (⟨#[]⟩)) then
          some true
        else
          impl_PlainOk r.2.Local >>= fun r2 =>
          some r2
      else
        some false
    else
      if (eqI r.2.Kind 6) then
        if end1 then
          impl_nameOk r.2.Pre r.2.Local >>= fun r3 =>
          some r3
        else
          some false
      else
        if (eqI r.2.Kind 7) then
          if end1 then
            if (eqS r.2.Pre (⟨#[]⟩)) then
              impl_PlainOk r.2.Local >>= fun r4 =>
              some r4
            else
              some false
          else
            some false
        else
          some false
def impl_stepOk_j10 (end1 : Bool) (sDeep : Bool) (r : Bool × GStp) : Option (Bool) :=
  if (eqI r.2.Kind 1) then
    impl_nameOk r.2.Pre r.2.Local >>= fun r1 =>
    some r1
  else
    if (eqI r.2.Kind 2) then
      impl_stepOk_j22 end1 r true sDeep
    else
      if (eqI r.2.Kind 3) then
        impl_stepOk_j22 end1 r true sDeep
      else
        impl_stepOk_j22 end1 r (eqI r.2.Kind 4) sDeep
def impl_stepOk (s : GStp) (last : Bool) : Option (Bool) :=
  if (gtI (lenL s.Preds) 3) then
    some false
  else
    slices_ContainsFunc_Pred_stepOk_1 s.Preds s >>= fun r =>
    if r.1 then
      some false
    else
      if last then
        if r.2.Deep then
          impl_stepOk_j10 false true r
        else
          impl_stepOk_j10 (eqI (lenL r.2.Preds) 0) false r
      else
        impl_stepOk_j10 false r.2.Deep r
def impl_SelOk_l8 (s : GSel) (x1 : Int) : Option (Bool) :=
  if (ltI x1 (lenL s.Steps)) then
    getI s.Steps x1 >>= fun x2 =>
    impl_stepOk x2 (eqI x1 (subI (lenL s.Steps) 1)) >>= fun r2 =>
    if r2 then
      impl_SelOk_l8 s (addI x1 1)
    else
      some false
  else
    impl_valOk s.Id >>= fun r3 =>
    if r3 then
      if (leI (lenL s.Steps) 8) then
        if (gtI (lenL s.Steps) 0) then
          some true
        else
          some (neS s.Id (⟨#[]⟩))
      else
        some false
    else
      some false
  partial_fixpoint
def impl_SelOk (s : GSel) : Option (Bool) :=
  impl_SelOk_l8 s 0
def impl_SelAttr (t : GNode) (path : List Int) (a : GAttr) : Option (GSel × Bool) :=
  impl_SelFor t path >>= fun r =>
  if r.2 then
    if (eqI (lenL r.1.Steps) 8) then
      some ((GSel.mk (⟨#[]⟩) []), false)
    else
      room (r.1.Steps.length + 1) 72 >>= fun x_ =>
      impl_SelOk (GSel.mk r.1.Id (r.1.Steps ++ [(GStp.mk false 6 a.Pre a.Local [])])) >>= fun r1 =>
      if r1 then
        some ((GSel.mk r.1.Id (r.1.Steps ++ [(GStp.mk false 6 a.Pre a.Local [])])), true)
      else
        some ((GSel.mk (⟨#[]⟩) []), false)
  else
    some ((GSel.mk (⟨#[]⟩) []), false)
def laws_eqPred (a : GPred) (b : GPred) : Option (Bool) :=
  if (neI a.Kind b.Kind) then
    some false
  else
    if (neI a.N b.N) then
      some false
    else
      if (neS a.Pre b.Pre) then
        some false
      else
        if (neS a.Local b.Local) then
          some false
        else
          if (neS a.Val b.Val) then
            some false
          else
            some true
def laws_eqPredS_l14 (a : List GPred) (b : List GPred) (i : Int) : Option (Bool) :=
  if (ltI i (lenL a)) then
    getI a i >>= fun x2 =>
    getI b i >>= fun x3 =>
    laws_eqPred x2 x3 >>= fun r1 =>
    if r1 then
      laws_eqPredS_l14 a b (addI i 1)
    else
      some false
  else
    some true
  partial_fixpoint
def laws_eqPredS (a : List GPred) (b : List GPred) : Option (Bool) :=
  if (neI (lenL a) (lenL b)) then
    some false
  else
    laws_eqPredS_l14 a b 0
def laws_eqStep (a : GStp) (b : GStp) : Option (Bool) :=
  if (neB a.Deep b.Deep) then
    some false
  else
    if (neI a.Kind b.Kind) then
      some false
    else
      if (neS a.Pre b.Pre) then
        some false
      else
        if (neS a.Local b.Local) then
          some false
        else
          laws_eqPredS a.Preds b.Preds >>= fun r =>
          if r then
            some true
          else
            some false
def laws_eqStepS_l14 (a : List GStp) (b : List GStp) (i : Int) : Option (Bool) :=
  if (ltI i (lenL a)) then
    getI a i >>= fun x2 =>
    getI b i >>= fun x3 =>
    laws_eqStep x2 x3 >>= fun r1 =>
    if r1 then
      laws_eqStepS_l14 a b (addI i 1)
    else
      some false
  else
    some true
  partial_fixpoint
def laws_eqStepS (a : List GStp) (b : List GStp) : Option (Bool) :=
  if (neI (lenL a) (lenL b)) then
    some false
  else
    laws_eqStepS_l14 a b 0
def laws_eqSel (a : GSel) (b : GSel) : Option (Bool) :=
  if (neS a.Id b.Id) then
    some false
  else
    laws_eqStepS a.Steps b.Steps >>= fun r =>
    if r then
      some true
    else
      some false
def laws_eqDecl (a : GDecl) (b : GDecl) : Option (Bool) :=
  if (neS a.Pre b.Pre) then
    some false
  else
    if (neS a.Uri b.Uri) then
      some false
    else
      some true
def laws_eqDeclS_l14 (a : List GDecl) (b : List GDecl) (i : Int) : Option (Bool) :=
  if (ltI i (lenL a)) then
    getI a i >>= fun x2 =>
    getI b i >>= fun x3 =>
    laws_eqDecl x2 x3 >>= fun r1 =>
    if r1 then
      laws_eqDeclS_l14 a b (addI i 1)
    else
      some false
  else
    some true
  partial_fixpoint
def laws_eqDeclS (a : List GDecl) (b : List GDecl) : Option (Bool) :=
  if (neI (lenL a) (lenL b)) then
    some false
  else
    laws_eqDeclS_l14 a b 0
def laws_eqAttr (a : GAttr) (b : GAttr) : Option (Bool) :=
  if (neS a.Pre b.Pre) then
    some false
  else
    if (neS a.Local b.Local) then
      some false
    else
      if (neS a.Uri b.Uri) then
        some false
      else
        if (neS a.Val b.Val) then
          some false
        else
          some true
def laws_eqAttrS_l14 (a : List GAttr) (b : List GAttr) (i : Int) : Option (Bool) :=
  if (ltI i (lenL a)) then
    getI a i >>= fun x2 =>
    getI b i >>= fun x3 =>
    laws_eqAttr x2 x3 >>= fun r1 =>
    if r1 then
      laws_eqAttrS_l14 a b (addI i 1)
    else
      some false
  else
    some true
  partial_fixpoint
def laws_eqAttrS (a : List GAttr) (b : List GAttr) : Option (Bool) :=
  if (neI (lenL a) (lenL b)) then
    some false
  else
    laws_eqAttrS_l14 a b 0
mutual
def laws_eqNode (a : GNode) (b : GNode) : Option (Bool) :=
  if (neI a.Kind b.Kind) then
    some false
  else
    if (neS a.Pre b.Pre) then
      some false
    else
      if (neS a.Local b.Local) then
        some false
      else
        if (neS a.Uri b.Uri) then
          some false
        else
          laws_eqDeclS a.Decls b.Decls >>= fun r =>
          if r then
            laws_eqAttrS a.Attrs b.Attrs >>= fun r1 =>
            if r1 then
              laws_eqNodeS a.Kids b.Kids >>= fun r2 =>
              if r2 then
                if (neS a.Text b.Text) then
                  some false
                else
                  some true
              else
                some false
            else
              some false
          else
            some false
  partial_fixpoint
def laws_eqNodeS (a : List GNode) (b : List GNode) : Option (Bool) :=
  if (neI (lenL a) (lenL b)) then
    some false
  else
    laws_eqNodeS_l14 a b 0
  partial_fixpoint
def laws_eqNodeS_l14 (a : List GNode) (b : List GNode) (i : Int) : Option (Bool) :=
  if (ltI i (lenL a)) then
    getI a i >>= fun x2 =>
    getI b i >>= fun x3 =>
    laws_eqNode x2 x3 >>= fun r1 =>
    if r1 then
      laws_eqNodeS_l14 a b (addI i 1)
    else
      some false
  else
    some true
  partial_fixpoint
end
def laws_eqIntS_l14 (a : List Int) (b : List Int) (i : Int) : Option (Bool) :=
  if (ltI i (lenL a)) then
    getI a i >>= fun x2 =>
    getI b i >>= fun x3 =>
    if (neI x2 x3) then
      some false
    else
      laws_eqIntS_l14 a b (addI i 1)
  else
    some true
  partial_fixpoint
def laws_eqIntS (a : List Int) (b : List Int) : Option (Bool) :=
  if (neI (lenL a) (lenL b)) then
    some false
  else
    laws_eqIntS_l14 a b 0
def laws_markText_l14 (k1 : Int) (out : ByteArray) : Option (ByteArray) :=
  if (gtI k1 0) then
    remI k1 10 >>= fun x4 =>
    catS (⟨([UInt8.ofNat ((wr .u8 (addI 48 x4))).toNat]).toArray⟩) out >>= fun x5 =>
    quoI k1 10 >>= fun x6 =>
    laws_markText_l14 x6 x5
  else
    catS (⟨#[109]⟩) out >>= fun x7 =>
    some x7
  partial_fixpoint
def laws_markText (k : Int) : Option (ByteArray) :=
  if (leI k 0) then
    some (⟨#[109, 48]⟩)
  else
    laws_markText_l14 k (⟨#[]⟩)
def laws_markDeclS_l6 (a1 : List (GDecl)) (k1 : Int) (i : Int) : Option (Int × List (GDecl)) :=
  if (ltI i (lenL a1)) then
    laws_markText k1 >>= fun r2 =>
    getI a1 i >>= fun x2 =>
    laws_markText (addI k1 1) >>= fun r3 =>
    getI (a1.set (Int.toNat i) (GDecl.mk r2 x2.Uri)) i >>= fun x3 =>
    laws_markDeclS_l6 ((a1.set (Int.toNat i) (GDecl.mk r2 x2.Uri)).set (Int.toNat i) (GDecl.mk x3.Pre r3)) (addI (addI k1 1) 1) (addI i 1)
  else
    some (k1, a1)
  partial_fixpoint
def laws_markDeclS (a : List (GDecl)) (k : Int) : Option (Int × List (GDecl)) :=
  laws_markDeclS_l6 a k 0
def laws_markAttrS_l6 (a1 : List (GAttr)) (k1 : Int) (i : Int) : Option (Int × List (GAttr)) :=
  if (ltI i (lenL a1)) then
    laws_markText k1 >>= fun r4 =>
    getI a1 i >>= fun x4 =>
    laws_markText (addI k1 1) >>= fun r5 =>
    getI (a1.set (Int.toNat i) (GAttr.mk r4 x4.Local x4.Uri x4.Val)) i >>= fun x5 =>
    laws_markText (addI (addI k1 1) 1) >>= fun r6 =>
    getI ((a1.set (Int.toNat i) (GAttr.mk r4 x4.Local x4.Uri x4.Val)).set (Int.toNat i) (GAttr.mk x5.Pre r5 x5.Uri x5.Val)) i >>= fun x6 =>
    laws_markText (addI (addI (addI k1 1) 1) 1) >>= fun r7 =>
    getI (((a1.set (Int.toNat i) (GAttr.mk r4 x4.Local x4.Uri x4.Val)).set (Int.toNat i) (GAttr.mk x5.Pre r5 x5.Uri x5.Val)).set (Int.toNat i) (GAttr.mk x6.Pre x6.Local r6 x6.Val)) i >>= fun x7 =>
    laws_markAttrS_l6 ((((a1.set (Int.toNat i) (GAttr.mk r4 x4.Local x4.Uri x4.Val)).set (Int.toNat i) (GAttr.mk x5.Pre r5 x5.Uri x5.Val)).set (Int.toNat i) (GAttr.mk x6.Pre x6.Local r6 x6.Val)).set (Int.toNat i) (GAttr.mk x7.Pre x7.Local x7.Uri r7)) (addI (addI (addI (addI k1 1) 1) 1) 1) (addI i 1)
  else
    some (k1, a1)
  partial_fixpoint
def laws_markAttrS (a : List (GAttr)) (k : Int) : Option (Int × List (GAttr)) :=
  laws_markAttrS_l6 a k 0
mutual
def laws_markNodeS (a : List (GNode)) (k : Int) : Option (Int × List (GNode)) :=
  laws_markNodeS_l6 a k 0
  partial_fixpoint
def laws_markNodeS_l6 (a1 : List (GNode)) (k1 : Int) (i : Int) : Option (Int × List (GNode)) :=
  if (ltI i (lenL a1)) then
    getI a1 i >>= fun x8 =>
    laws_markText (addI k1 1) >>= fun r7 =>
    getI (a1.set (Int.toNat i) (GNode.mk k1 x8.Pre x8.Local x8.Uri x8.Decls x8.Attrs x8.Kids x8.Text)) i >>= fun x9 =>
    laws_markText (addI (addI k1 1) 1) >>= fun r8 =>
    getI ((a1.set (Int.toNat i) (GNode.mk k1 x8.Pre x8.Local x8.Uri x8.Decls x8.Attrs x8.Kids x8.Text)).set (Int.toNat i) (GNode.mk x9.Kind r7 x9.Local x9.Uri x9.Decls x9.Attrs x9.Kids x9.Text)) i >>= fun x10 =>
    laws_markText (addI (addI (addI k1 1) 1) 1) >>= fun r9 =>
    getI (((a1.set (Int.toNat i) (GNode.mk k1 x8.Pre x8.Local x8.Uri x8.Decls x8.Attrs x8.Kids x8.Text)).set (Int.toNat i) (GNode.mk x9.Kind r7 x9.Local x9.Uri x9.Decls x9.Attrs x9.Kids x9.Text)).set (Int.toNat i) (GNode.mk x10.Kind x10.Pre r8 x10.Uri x10.Decls x10.Attrs x10.Kids x10.Text)) i >>= fun x11 =>
    getI ((((a1.set (Int.toNat i) (GNode.mk k1 x8.Pre x8.Local x8.Uri x8.Decls x8.Attrs x8.Kids x8.Text)).set (Int.toNat i) (GNode.mk x9.Kind r7 x9.Local x9.Uri x9.Decls x9.Attrs x9.Kids x9.Text)).set (Int.toNat i) (GNode.mk x10.Kind x10.Pre r8 x10.Uri x10.Decls x10.Attrs x10.Kids x10.Text)).set (Int.toNat i) (GNode.mk x11.Kind x11.Pre x11.Local r9 x11.Decls x11.Attrs x11.Kids x11.Text)) i >>= fun x12 =>
    laws_markDeclS x12.Decls (addI (addI (addI (addI k1 1) 1) 1) 1) >>= fun r10 =>
    getI (((((a1.set (Int.toNat i) (GNode.mk k1 x8.Pre x8.Local x8.Uri x8.Decls x8.Attrs x8.Kids x8.Text)).set (Int.toNat i) (GNode.mk x9.Kind r7 x9.Local x9.Uri x9.Decls x9.Attrs x9.Kids x9.Text)).set (Int.toNat i) (GNode.mk x10.Kind x10.Pre r8 x10.Uri x10.Decls x10.Attrs x10.Kids x10.Text)).set (Int.toNat i) (GNode.mk x11.Kind x11.Pre x11.Local r9 x11.Decls x11.Attrs x11.Kids x11.Text)).set (Int.toNat i) (GNode.mk x12.Kind x12.Pre x12.Local x12.Uri r10.2 x12.Attrs x12.Kids x12.Text)) i >>= fun x13 =>
    laws_markAttrS x13.Attrs r10.1 >>= fun r11 =>
    getI ((((((a1.set (Int.toNat i) (GNode.mk k1 x8.Pre x8.Local x8.Uri x8.Decls x8.Attrs x8.Kids x8.Text)).set (Int.toNat i) (GNode.mk x9.Kind r7 x9.Local x9.Uri x9.Decls x9.Attrs x9.Kids x9.Text)).set (Int.toNat i) (GNode.mk x10.Kind x10.Pre r8 x10.Uri x10.Decls x10.Attrs x10.Kids x10.Text)).set (Int.toNat i) (GNode.mk x11.Kind x11.Pre x11.Local r9 x11.Decls x11.Attrs x11.Kids x11.Text)).set (Int.toNat i) (GNode.mk x12.Kind x12.Pre x12.Local x12.Uri r10.2 x12.Attrs x12.Kids x12.Text)).set (Int.toNat i) (GNode.mk x13.Kind x13.Pre x13.Local x13.Uri x13.Decls r11.2 x13.Kids x13.Text)) i >>= fun x14 =>
    laws_markNodeS x14.Kids r11.1 >>= fun r12 =>
    laws_markText r12.1 >>= fun r13 =>
    getI (((((((a1.set (Int.toNat i) (GNode.mk k1 x8.Pre x8.Local x8.Uri x8.Decls x8.Attrs x8.Kids x8.Text)).set (Int.toNat i) (GNode.mk x9.Kind r7 x9.Local x9.Uri x9.Decls x9.Attrs x9.Kids x9.Text)).set (Int.toNat i) (GNode.mk x10.Kind x10.Pre r8 x10.Uri x10.Decls x10.Attrs x10.Kids x10.Text)).set (Int.toNat i) (GNode.mk x11.Kind x11.Pre x11.Local r9 x11.Decls x11.Attrs x11.Kids x11.Text)).set (Int.toNat i) (GNode.mk x12.Kind x12.Pre x12.Local x12.Uri r10.2 x12.Attrs x12.Kids x12.Text)).set (Int.toNat i) (GNode.mk x13.Kind x13.Pre x13.Local x13.Uri x13.Decls r11.2 x13.Kids x13.Text)).set (Int.toNat i) (GNode.mk x14.Kind x14.Pre x14.Local x14.Uri x14.Decls x14.Attrs r12.2 x14.Text)) i >>= fun x15 =>
    laws_markNodeS_l6 ((((((((a1.set (Int.toNat i) (GNode.mk k1 x8.Pre x8.Local x8.Uri x8.Decls x8.Attrs x8.Kids x8.Text)).set (Int.toNat i) (GNode.mk x9.Kind r7 x9.Local x9.Uri x9.Decls x9.Attrs x9.Kids x9.Text)).set (Int.toNat i) (GNode.mk x10.Kind x10.Pre r8 x10.Uri x10.Decls x10.Attrs x10.Kids x10.Text)).set (Int.toNat i) (GNode.mk x11.Kind x11.Pre x11.Local r9 x11.Decls x11.Attrs x11.Kids x11.Text)).set (Int.toNat i) (GNode.mk x12.Kind x12.Pre x12.Local x12.Uri r10.2 x12.Attrs x12.Kids x12.Text)).set (Int.toNat i) (GNode.mk x13.Kind x13.Pre x13.Local x13.Uri x13.Decls r11.2 x13.Kids x13.Text)).set (Int.toNat i) (GNode.mk x14.Kind x14.Pre x14.Local x14.Uri x14.Decls x14.Attrs r12.2 x14.Text)).set (Int.toNat i) (GNode.mk x15.Kind x15.Pre x15.Local x15.Uri x15.Decls x15.Attrs x15.Kids r13)) (addI r12.1 1) (addI i 1)
  else
    some (k1, a1)
  partial_fixpoint
end
def laws_markNode (a : GNode) (k : Int) : Option (Int × List GDecl × List GAttr × List GNode) :=
  laws_markDeclS a.Decls k >>= fun r =>
  sameL r.2 a.Decls >>= fun _ =>
  laws_markAttrS a.Attrs r.1 >>= fun r1 =>
  sameL r1.2 a.Attrs >>= fun _ =>
  laws_markNodeS a.Kids r1.1 >>= fun r2 =>
  sameL r2.2 a.Kids >>= fun _ =>
  some (r2.1, r.2, r1.2, r2.2)
def laws_markIntS_l6 (a1 : List (Int)) (k1 : Int) (i : Int) : Option (Int × List (Int)) :=
  if (ltI i (lenL a1)) then
    getI a1 i >>= fun x1 =>
    laws_markIntS_l6 (a1.set (Int.toNat i) k1) (addI k1 1) (addI i 1)
  else
    some (k1, a1)
  partial_fixpoint
def laws_markIntS (a : List (Int)) (k : Int) : Option (Int × List (Int)) :=
  laws_markIntS_l6 a k 0
def laws_markPredS_l6 (a1 : List (GPred)) (k1 : Int) (i : Int) : Option (Int × List (GPred)) :=
  if (ltI i (lenL a1)) then
    getI a1 i >>= fun x5 =>
    getI (a1.set (Int.toNat i) (GPred.mk k1 x5.N x5.Pre x5.Local x5.Val)) i >>= fun x6 =>
    laws_markText (addI (addI k1 1) 1) >>= fun r3 =>
    getI ((a1.set (Int.toNat i) (GPred.mk k1 x5.N x5.Pre x5.Local x5.Val)).set (Int.toNat i) (GPred.mk x6.Kind (addI k1 1) x6.Pre x6.Local x6.Val)) i >>= fun x7 =>
    laws_markText (addI (addI (addI k1 1) 1) 1) >>= fun r4 =>
    getI (((a1.set (Int.toNat i) (GPred.mk k1 x5.N x5.Pre x5.Local x5.Val)).set (Int.toNat i) (GPred.mk x6.Kind (addI k1 1) x6.Pre x6.Local x6.Val)).set (Int.toNat i) (GPred.mk x7.Kind x7.N r3 x7.Local x7.Val)) i >>= fun x8 =>
    laws_markText (addI (addI (addI (addI k1 1) 1) 1) 1) >>= fun r5 =>
    getI ((((a1.set (Int.toNat i) (GPred.mk k1 x5.N x5.Pre x5.Local x5.Val)).set (Int.toNat i) (GPred.mk x6.Kind (addI k1 1) x6.Pre x6.Local x6.Val)).set (Int.toNat i) (GPred.mk x7.Kind x7.N r3 x7.Local x7.Val)).set (Int.toNat i) (GPred.mk x8.Kind x8.N x8.Pre r4 x8.Val)) i >>= fun x9 =>
    laws_markPredS_l6 (((((a1.set (Int.toNat i) (GPred.mk k1 x5.N x5.Pre x5.Local x5.Val)).set (Int.toNat i) (GPred.mk x6.Kind (addI k1 1) x6.Pre x6.Local x6.Val)).set (Int.toNat i) (GPred.mk x7.Kind x7.N r3 x7.Local x7.Val)).set (Int.toNat i) (GPred.mk x8.Kind x8.N x8.Pre r4 x8.Val)).set (Int.toNat i) (GPred.mk x9.Kind x9.N x9.Pre x9.Local r5)) (addI (addI (addI (addI (addI k1 1) 1) 1) 1) 1) (addI i 1)
  else
    some (k1, a1)
  partial_fixpoint
def laws_markPredS (a : List (GPred)) (k : Int) : Option (Int × List (GPred)) :=
  laws_markPredS_l6 a k 0
def laws_markStepS_l6 (a1 : List (GStp)) (k1 : Int) (i : Int) : Option (Int × List (GStp)) :=
  if (ltI i (lenL a1)) then
    remI k1 3 >>= fun x6 =>
    getI a1 i >>= fun x7 =>
    getI (a1.set (Int.toNat i) (GStp.mk (eqI x6 0) x7.Kind x7.Pre x7.Local x7.Preds)) i >>= fun x8 =>
    laws_markText (addI (addI k1 1) 1) >>= fun r3 =>
    getI ((a1.set (Int.toNat i) (GStp.mk (eqI x6 0) x7.Kind x7.Pre x7.Local x7.Preds)).set (Int.toNat i) (GStp.mk x8.Deep (addI k1 1) x8.Pre x8.Local x8.Preds)) i >>= fun x9 =>
    laws_markText (addI (addI (addI k1 1) 1) 1) >>= fun r4 =>
    getI (((a1.set (Int.toNat i) (GStp.mk (eqI x6 0) x7.Kind x7.Pre x7.Local x7.Preds)).set (Int.toNat i) (GStp.mk x8.Deep (addI k1 1) x8.Pre x8.Local x8.Preds)).set (Int.toNat i) (GStp.mk x9.Deep x9.Kind r3 x9.Local x9.Preds)) i >>= fun x10 =>
    getI ((((a1.set (Int.toNat i) (GStp.mk (eqI x6 0) x7.Kind x7.Pre x7.Local x7.Preds)).set (Int.toNat i) (GStp.mk x8.Deep (addI k1 1) x8.Pre x8.Local x8.Preds)).set (Int.toNat i) (GStp.mk x9.Deep x9.Kind r3 x9.Local x9.Preds)).set (Int.toNat i) (GStp.mk x10.Deep x10.Kind x10.Pre r4 x10.Preds)) i >>= fun x11 =>
    laws_markPredS x11.Preds (addI (addI (addI (addI k1 1) 1) 1) 1) >>= fun r5 =>
    laws_markStepS_l6 (((((a1.set (Int.toNat i) (GStp.mk (eqI x6 0) x7.Kind x7.Pre x7.Local x7.Preds)).set (Int.toNat i) (GStp.mk x8.Deep (addI k1 1) x8.Pre x8.Local x8.Preds)).set (Int.toNat i) (GStp.mk x9.Deep x9.Kind r3 x9.Local x9.Preds)).set (Int.toNat i) (GStp.mk x10.Deep x10.Kind x10.Pre r4 x10.Preds)).set (Int.toNat i) (GStp.mk x11.Deep x11.Kind x11.Pre x11.Local r5.2)) r5.1 (addI i 1)
  else
    some (k1, a1)
  partial_fixpoint
def laws_markStepS (a : List (GStp)) (k : Int) : Option (Int × List (GStp)) :=
  laws_markStepS_l6 a k 0
def laws_markSel (a : GSel) (k : Int) : Option (Int × List GStp) :=
  laws_markStepS a.Steps k >>= fun r =>
  sameL r.2 a.Steps >>= fun _ =>
  some (r.1, r.2)
def laws_heldPredS_l6 (a : List GPred) (k1 : Int) (i : Int) : Option (Int) :=
  if (ltI i (lenL a)) then
    getI a i >>= fun x5 =>
    if (neI x5.Kind k1) then
      some (-1)
    else
      getI a i >>= fun x6 =>
      if (neI x6.N (addI k1 1)) then
        some (-1)
      else
        getI a i >>= fun x7 =>
        laws_markText (addI (addI k1 1) 1) >>= fun r3 =>
        if (neS x7.Pre r3) then
          some (-1)
        else
          getI a i >>= fun x8 =>
          laws_markText (addI (addI (addI k1 1) 1) 1) >>= fun r4 =>
          if (neS x8.Local r4) then
            some (-1)
          else
            getI a i >>= fun x9 =>
            laws_markText (addI (addI (addI (addI k1 1) 1) 1) 1) >>= fun r5 =>
            if (neS x9.Val r5) then
              some (-1)
            else
              laws_heldPredS_l6 a (addI (addI (addI (addI (addI k1 1) 1) 1) 1) 1) (addI i 1)
  else
    some k1
  partial_fixpoint
def laws_heldPredS (a : List GPred) (k : Int) : Option (Int) :=
  laws_heldPredS_l6 a k 0
def laws_heldStepS_l6 (a : List GStp) (k1 : Int) (i : Int) : Option (Int) :=
  if (ltI i (lenL a)) then
    getI a i >>= fun x6 =>
    remI k1 3 >>= fun x7 =>
    if (neB x6.Deep (eqI x7 0)) then
      some (-1)
    else
      getI a i >>= fun x8 =>
      if (neI x8.Kind (addI k1 1)) then
        some (-1)
      else
        getI a i >>= fun x9 =>
        laws_markText (addI (addI k1 1) 1) >>= fun r3 =>
        if (neS x9.Pre r3) then
          some (-1)
        else
          getI a i >>= fun x10 =>
          laws_markText (addI (addI (addI k1 1) 1) 1) >>= fun r4 =>
          if (neS x10.Local r4) then
            some (-1)
          else
            getI a i >>= fun x11 =>
            laws_heldPredS x11.Preds (addI (addI (addI (addI k1 1) 1) 1) 1) >>= fun r5 =>
            if (ltI r5 0) then
              some (-1)
            else
              laws_heldStepS_l6 a r5 (addI i 1)
  else
    some k1
  partial_fixpoint
def laws_heldStepS (a : List GStp) (k : Int) : Option (Int) :=
  laws_heldStepS_l6 a k 0
def laws_heldSel (a : GSel) (k : Int) : Option (Int) :=
  laws_heldStepS a.Steps k >>= fun r =>
  if (ltI r 0) then
    some (-1)
  else
    some r
def laws_FnExactSelAttr (aT : GNode) (aPath : List Int) (aA : GAttr) : Option (Bool) :=
  if (gtI (lenL aPath) 1048576) then
    some true
  else
    laws_szNode aT 1048576 >>= fun r =>
    if (ltI r 0) then
      some true
    else
      laws_szAttr aA r >>= fun r1 =>
      if (ltI r1 0) then
        some true
      else
        laws_toNode aT >>= fun r2 =>
        laws_toIntS aPath >>= fun r3 =>
        laws_toAttr aA >>= fun r4 =>
        spec_SelAttr r2 r3 r4 >>= fun r5 =>
        laws_toNode aT >>= fun r6 =>
        laws_toIntS aPath >>= fun r7 =>
        laws_toAttr aA >>= fun r8 =>
        impl_SelAttr r6 r7 r8 >>= fun r9 =>
        laws_eqSel r9.1 r5.1 >>= fun r10 =>
        if r10 then
          if (neB r9.2 r5.2) then
            some false
          else
            laws_toNode aT >>= fun r11 =>
            laws_eqNode r6 r11 >>= fun r12 =>
            if r12 then
              laws_toIntS aPath >>= fun r13 =>
              laws_eqIntS r7 r13 >>= fun r14 =>
              if r14 then
                laws_markNode r6 1 >>= fun r15 =>
                sameL r15.2.1 r6.Decls >>= fun _ =>
                sameL r15.2.2.1 r6.Attrs >>= fun _ =>
                sameL r15.2.2.2 r6.Kids >>= fun _ =>
                laws_markIntS r7 r15.1 >>= fun r16 =>
                sameL r16.2 r7 >>= fun _ =>
                if (ltI r16.1 0) then
                  some false
                else
                  laws_eqSel r9.1 r5.1 >>= fun r17 =>
                  if r17 then
                    if (neB r9.2 r5.2) then
                      some false
                    else
                      laws_markSel r9.1 1 >>= fun r18 =>
                      laws_heldSel (GSel.mk r9.1.Id r18.2) 1 >>= fun r19 =>
                      if (ltI r19 0) then
                        some false
                      else
                        if (neI r19 r18.1) then
                          some false
                        else
                          laws_toNode aT >>= fun r20 =>
                          laws_toIntS aPath >>= fun r21 =>
                          laws_toAttr aA >>= fun r22 =>
                          impl_SelAttr r20 r21 r22 >>= fun r23 =>
                          laws_eqSel r23.1 r5.1 >>= fun r24 =>
                          if r24 then
                            if (neB r23.2 r5.2) then
                              some false
                            else
                              laws_heldSel (GSel.mk r9.1.Id r18.2) 1 >>= fun r25 =>
                              if (ltI r25 0) then
                                some false
                              else
                                if (neI r25 r18.1) then
                                  some false
                                else
                                  some true
                          else
                            some false
                  else
                    some false
              else
                some false
            else
              some false
        else
          some false
end TT
