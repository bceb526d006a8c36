import Derived.Test.YtjljocncnibofaaGreatDoorTH3
set_option maxRecDepth 10000
set_option linter.unusedVariables false
set_option linter.defProp false
namespace TT
open Go
def S0 (FT : Env) := And.intro (@ev_skip FT) <| And.intro (@ev_ex FT) <| And.intro (@ev_ret FT) <| And.intro (@ev_seq FT) <| And.intro (@ev_blk FT) <| And.intro (@ev_h FT) <| And.intro (@ev_cond FT) <| And.intro (@ck_true FT) <| And.intro (@ck_false FT) <| And.intro (@ev_nil FT) <| And.intro (@an_some FT) <| And.intro (@an_none FT) <| And.intro (@ev_op FT) <| And.intro (@ev_gd FT) <| And.intro (@gd_skip FT) <| And.intro (@gd_tt FT) <| And.intro (@gd_ff FT) <| And.intro (@gd_tf FT) <| And.intro (@gd_ft FT) <| And.intro (@gn_nil FT) <| And.intro (@gn_th FT) <| And.intro (@gn_lv FT) <| And.intro (@gn_hk FT) <| And.intro (@gx_th FT) <| And.intro (@gx_hk FT) <| And.intro (@gx_lv FT) <| And.intro (@gx_nil FT) <| And.intro (@gr_th FT) <| And.intro (@gr_hk FT) <| And.intro (@gr_lv FT) <| And.intro (@gr_nil FT) <| And.intro (@hn_nil FT) <| And.intro (@hn_kill FT) <| And.intro (@hn_clean FT) <| And.intro (@hn_freeze FT) <| And.intro (@hn_own FT) <| And.intro (@ownK_nil FT) <| And.intro (@ownK_ref FT) <| And.intro (@ev_hp FT) <| And.intro (@hn_frzc FT) <| And.intro (@frzcK_mem FT) <| And.intro (@frzcM_sl FT) <| And.intro (@frzcM_sh FT) <| And.intro (@hn_frzr FT) <| And.intro (@frzrK_mem FT) <| And.intro (@hn_home FT) <| And.intro (@homeK_ref FT) <| And.intro (@homeM_mem FT) <| And.intro (@opR_f FT) <| (@opR_t FT)
def S1 := And.intro (@sem_mv) <| And.intro (@sem_pick) <| And.intro (@pick_tt) <| And.intro (@pick_ff) <| And.intro (@sem_alloc) <| And.intro (@sem_box) <| And.intro (@sem_build) <| And.intro (@sem_bsl) <| And.intro (@oneV_ag) <| And.intro (@oneV_one) <| And.intro (@sem_ld) <| And.intro (@sem_st) <| And.intro (@stV_ptr) <| And.intro (@sem_nilc) <| And.intro (@binM_t) <| And.intro (@sem_bin) <| And.intro (@eqsV_agg) <| And.intro (@sem_eqs) <| And.intro (@beqV_f) <| And.intro (@beqV_t) <| And.intro (@sem_beq) <| And.intro (@eqnV_nil) <| And.intro (@eqnV_v) <| And.intro (@eqnV_c) <| And.intro (@sem_eqn) <| And.intro (@unV_not) <| And.intro (@unV_neg) <| And.intro (@sem_eqi) <| And.intro (@eqiV_nil) <| And.intro (@sem_un) <| And.intro (@cv_int) <| And.intro (@cv_rune) <| And.intro (@cv_same) <| And.intro (@cv_bytes) <| And.intro (@cv_str_t) <| And.intro (@cv_str_nil) <| And.intro (@cv_str_ref) <| And.intro (@strK_eq) <| And.intro (@sem_conv) <| And.intro (@sem_mks) <| And.intro (@iaV_sh) <| And.intro (@iaV_ref) <| And.intro (@iaV_sub) <| And.intro (@sem_ia) <| And.intro (@faV_ptr) <| And.intro (@faV_pp) <| And.intro (@sem_fa) <| And.intro (@fldV_agg) <| And.intro (@sem_fld) <| And.intro (@ixV_s) <| And.intro (@sem_ix) <| And.intro (@ixaV_agg) <| And.intro (@sem_ixa) <| And.intro (@bnd_none) <| And.intro (@bnd_some) <| And.intro (@slcV_s) <| And.intro (@slcV_l) <| And.intro (@sem_slc) <| And.intro (@sem_call) <| And.intro (@sem_callv) <| And.intro (@appA_nil) <| And.intro (@appA_ref) <| And.intro (@appA_sub) <| And.intro (@appE_mem) <| And.intro (@appC_sl) <| And.intro (@sem_app) <| And.intro (@lenV_s) <| And.intro (@lenV_l) <| And.intro (@lenV_nil) <| And.intro (@lenV_ref) <| And.intro (@lenV_sub) <| And.intro (@sem_len) <| And.intro (@mmV_t) <| And.intro (@mmV_f) <| And.intro (@sem_mm) <| And.intro (@extV_tup) <| And.intro (@sem_ext) <| And.intro (@sem_mkf) <| And.intro (@int_and) <| And.intro (@int_or) <| And.intro (@int_xor) <| And.intro (@int_andNot) <| And.intro (@int_shl) <| And.intro (@int_shr) <| And.intro (@int_add_u8) <| And.intro (@int_sub_u8) <| And.intro (@int_mul_u8) <| And.intro (@int_add_i32) <| And.intro (@int_sub_i32) <| And.intro (@int_mul_i32) <| And.intro (@int_add_u32) <| And.intro (@int_sub_u32) <| And.intro (@int_mul_u32) <| And.intro (@int_add_u64) <| And.intro (@int_sub_u64) <| And.intro (@int_mul_u64) <| And.intro (@int_add) <| And.intro (@int_sub) <| And.intro (@int_mul) <| And.intro (@int_quo) <| And.intro (@int_quo_u64) <| And.intro (@int_rem) <| And.intro (@int_lt) <| And.intro (@int_le) <| And.intro (@int_gt) <| And.intro (@int_ge) <| And.intro (@int_eq) <| And.intro (@int_ne) <| And.intro (@str_add) <| And.intro (@str_eq) <| And.intro (@str_ne) <| And.intro (@str_lt) <| And.intro (@str_le) <| And.intro (@str_gt) <| And.intro (@str_ge) <| And.intro (@lenL_map) <| And.intro (@int_len) <| And.intro (@getI_map) <| And.intro (@slL_map) <| And.intro (@oneM_some) <| And.intro (@oneM_none) <| And.intro (@oneM_map) <| And.intro (@ent_s) <| And.intro (@ent_r) <| And.intro (@ptrRow_nil) <| And.intro (@getD_zero) <| And.intro (@getD_succ) <| And.intro (@getD_nil) <| And.intro (@get?_zero) <| And.intro (@get?_succ) <| And.intro (@set_zero) <| And.intro (@set_succ) <| And.intro (@pair_beq) <| And.intro (@evalO_s) <| And.intro (@evalO_c) <| And.intro (@evalO_f) <| And.intro (@evalO_z) <| And.intro (@constV_int) <| And.intro (@constV_bool) <| And.intro (@constV_ptr) <| And.intro (@constV_str) <| And.intro (@constV_nili) <| And.intro (@constV_nil) <| And.intro (@cellV_v) <| And.intro (@cellV_own) <| And.intro (@cellV_sh) <| And.intro (@cellV_hole) <| And.intro (@cellsV_nil) <| And.intro (@cellsV_cons) <| And.intro (@cellsOf_agg) <| And.intro (@cellsOf_t) <| And.intro (@cellsOf_nil) <| And.intro (@cellsOf_ref) <| And.intro (@cellsOf_sub) <| And.intro (@take_t) <| And.intro (@take_nil) <| And.intro (@take_ref) <| And.intro (@takeE_mem) <| And.intro (@take_sub) <| And.intro (@takeSE_mem) <| And.intro (@takes_nil) <| And.intro (@takes_cons) <| And.intro (@takeRows_nil) <| And.intro (@takeRows_cons) <| And.intro (@rowsOf_t) <| And.intro (@rowsOf_nil) <| And.intro (@rowsOf_ref) <| And.intro (@rowsE_mem) <| And.intro (@rowsOf_sub) <| And.intro (@rowsSE_mem) <| And.intro (@takeSl_t) <| And.intro (@takeSl_v) <| And.intro (@takeSl_nil) <| And.intro (@takeSl_ref) <| And.intro (@takeSl_sub) <| And.intro (@takeSlK_sl) <| And.intro (@lend_t) <| And.intro (@lend_nil_val) <| And.intro (@lend_nil_give) <| And.intro (@lend_nil_ref) <| And.intro (@lend_agg_val) <| And.intro (@lend_agg_ref) <| And.intro (@lend_agg_give) <| And.intro (@lend_ref_val) <| And.intro (@lend_sub_val) <| And.intro (@lend_ref_ref) <| And.intro (@lendE_mem) <| And.intro (@lend_ref_give) <| And.intro (@giveE_mem) <| And.intro (@lend_sub_ref) <| And.intro (@lendSE_mem) <| And.intro (@lend_ptr) <| And.intro (@lendPE_mem) <| And.intro (@lend_pp) <| And.intro (@lend_fn) <| And.intro (@lends_nil) <| And.intro (@lends_cons) <| And.intro (@lendEach_nil) <| And.intro (@lendEach_z) <| And.intro (@lendEach_c) <| And.intro (@borrow1R_eq) <| And.intro (@borrow1_t) <| And.intro (@borrow1_nil) <| And.intro (@borrow1_ref) <| And.intro (@borrow1_sub) <| And.intro (@borrow1s_nil) <| And.intro (@borrow1s_cons) <| And.intro (@borrow_a) <| And.intro (@borrow_agg) <| And.intro (@borrow_ref) <| And.intro (@borrow_sub) <| And.intro (@borrows_nil) <| And.intro (@borrows_cons) <| And.intro (@putBack_nil) <| And.intro (@putBack_root) <| And.intro (@pbE_some) <| And.intro (@pbE_none) <| And.intro (@putBack_cell) <| And.intro (@pbC_some) <| And.intro (@putBack_none) <| And.intro (@frzE_ref) <| And.intro (@frzE_ptr) <| And.intro (@frzP_mem) <| And.intro (@frzM_mem) <| And.intro (@frzE_nil) <| And.intro (@frzE_t) <| And.intro (@ldV_ptr) <| And.intro (@ldV_vb) <| And.intro (@ldX_mem) <| And.intro (@faV_vb) <| And.intro (@sem_vbox) <| And.intro (@boxV_agg) <| And.intro (@sem_vst) <| And.intro (@vstV_ptr) <| And.intro (@vstV_vb) <| And.intro (@vstE_mem) <| And.intro (@one_t) <| And.intro (@one_nil) <| And.intro (@one_ref) <| And.intro (@one_sub) <| And.intro (@ldV_pp) <| And.intro (@ldE_mem) <| And.intro (@stE_mem) <| And.intro (@setCs_nil') <| And.intro (@setCs_cons) <| And.intro (@setC_nil) <| And.intro (@setRC_one) <| And.intro (@nilcV_ptr) <| And.intro (@nilcV_pp) <| And.intro (@nilcV_fn) <| And.intro (@mksV_int) <| And.intro (@iaP_eq) <| And.intro (@iaK_def) <| And.intro (@iaS_eq) <| And.intro (@iaE_mem) <| And.intro (@cvv_fn) <| And.intro (@doCall_eq) <| And.intro (@callK_eq) <| And.intro (@backK_eq) <| And.intro (@newK_nil) <| And.intro (@newK_cons) <| And.intro (@oneOr_one) <| And.intro (@oneOr_two) <| And.intro (@oneOr_nil) <| And.intro (@imp1_v) <| And.intro (@imp1_f) <| And.intro (@imp1_t) <| And.intro (@imp1_s) <| And.intro (@imps_nil) <| And.intro (@imps_cons) <| And.intro (@impRV_t) <| And.intro (@impRV_agg) <| And.intro (@impRV_box) <| And.intro (@impRVs_nil) <| And.intro (@impRVs_cons) <| And.intro (@impRVs_z) <| And.intro (@frz_rI) <| And.intro (@frz_rK) <| And.intro (@frz_rS) <| And.intro (@frz_rB) <| And.intro (@frz_rLI) <| And.intro (@own_rI) <| And.intro (@own_rK) <| And.intro (@own_rS) <| And.intro (@own_rB) <| And.intro (@own_rLI) <| And.intro (@resOwn) <| And.intro (@men_t) <| And.intro (@men_nil) <| And.intro (@men_dead) <| And.intro (@men_pp) <| And.intro (@outV_t) <| And.intro (@outV_nil) <| And.intro (@outV_ref) <| And.intro (@outT_t) <| And.intro (@outT_ref) <| And.intro (@all_rI) <| And.intro (@all_rK) <| And.intro (@all_rS) <| And.intro (@all_rB) <| (@all_rL)
def S2 := And.intro (@killS.eq_1) <| And.intro (@killS.eq_2) <| And.intro (@clS.eq_1) <| And.intro (@clS.eq_2) <| And.intro (@clR.eq_1) <| And.intro (@clR.eq_2) <| And.intro (@cleanS.eq_1) <| And.intro (@cleanR.eq_1) <| And.intro (@V.mentions.eq_1) <| And.intro (@V.mentions.eq_2) <| And.intro (@V.mentions.eq_3) <| And.intro (@V.mentions.eq_4) <| And.intro (@V.mentions.eq_5) <| And.intro (@V.mentions.eq_6) <| And.intro (@V.mentions.eq_7) <| And.intro (@V.mentions.eq_8) <| And.intro (@mentionsL.eq_1) <| And.intro (@mentionsL.eq_2) <| And.intro (@V.isDead.eq_1) <| And.intro (@dead_t) <| And.intro (@dead_nil) <| And.intro (@dead_agg) <| And.intro (@dead_ref) <| And.intro (@dead_sub) <| And.intro (@dead_ptr) <| And.intro (@dead_pp) <| And.intro (@dead_fn) <| And.intro (@Ent.calm.eq_1) <| And.intro (@Ent.calm.eq_2) <| And.intro (@getE.eq_1) <| And.intro (@setE.eq_1) <| And.intro (@M.run.eq_1) <| And.intro (@M.run.eq_2) <| And.intro (@M.run.eq_3) <| And.intro (@M.run.eq_4) <| And.intro (@M.run.eq_5) <| And.intro (@M.run.eq_6) <| And.intro (@M.runA.eq_1) <| And.intro (@M.runA.eq_2) <| And.intro (@M.runA.eq_3) <| And.intro (@M.runA.eq_4) <| And.intro (@M.runA.eq_5) <| And.intro (@M.runA.eq_6) <| And.intro (@bld.eq_1) <| And.intro (@bld.eq_2) <| And.intro (@bldP.eq_1) <| And.intro (@bldP.eq_2) <| And.intro (@zV.eq_1) <| And.intro (@zV.eq_2) <| And.intro (@bslK.eq_1) <| And.intro (@appK.eq_1) <| And.intro (@inArgs.eq_1) <| And.intro (@inArgs.eq_2) <| And.intro (@inV.eq_1) <| And.intro (@inV.eq_2) <| And.intro (@inV.eq_3) <| And.intro (@inV.eq_4) <| And.intro (@inV.eq_5) <| And.intro (@inV.eq_6) <| And.intro (@inVs.eq_1) <| And.intro (@inVs.eq_2) <| And.intro (@fin.eq_1) <| And.intro (@outs.eq_1) <| And.intro (@outs.eq_2) <| And.intro (@outV.eq_1) <| And.intro (@outV.eq_2) <| And.intro (@outV.eq_3) <| And.intro (@outTs.eq_1) <| And.intro (@outTs.eq_2) <| And.intro (@outT.eq_1) <| And.intro (@outT.eq_2) <| And.intro (@resV.eq_1) <| And.intro (@resV.eq_2) <| And.intro (@shape.eq_1) <| And.intro (@afters.eq_1) <| And.intro (@afterE.eq_1) <| And.intro (@afterE.eq_2) <| And.intro (@frzRs.eq_1) <| And.intro (@frzRs.eq_2) <| And.intro (@frzR.eq_1) <| And.intro (@frzR.eq_2) <| And.intro (@frz.eq_1) <| And.intro (@frz.eq_2) <| And.intro (@frz.eq_3) <| And.intro (@allOwn.eq_1) <| And.intro (@allOwn.eq_2) <| And.intro (@allOwn.eq_3) <| And.intro (@allOwnR.eq_1) <| And.intro (@allOwnR.eq_2) <| And.intro (@allOwnRs.eq_1) <| And.intro (@allOwnRs.eq_2) <| And.intro (@RV.allOwn.eq_1) <| And.intro (@RV.allOwn.eq_2) <| And.intro (@RV.allOwn.eq_3) <| And.intro (@backIds.eq_1) <| And.intro (@backIds.eq_2) <| And.intro (@backIds.eq_3) <| And.intro (@backIds.eq_4) <| And.intro (@nodupIds.eq_1) <| And.intro (@nodupIds.eq_2) <| And.intro (@PA.reads.eq_1) <| And.intro (@PA.reads.eq_2) <| And.intro (@PA.reads.eq_3) <| And.intro (@V.isOwned.eq_1) <| And.intro (@V.isOwned.eq_2) <| And.intro (@V.isOwned.eq_3) <| And.intro (@PA.arg.eq_1) <| And.intro (@PA.arg.eq_2) <| And.intro (@eqVs.eq_1) <| And.intro (@eqVs.eq_2) <| And.intro (@eqK_int) <| And.intro (@eqK_str) <| And.intro (@eqK_bool) <| And.intro (@bytesOf.eq_1) <| And.intro (@bytesOf_u8) <| And.intro (@Option.bind_some.{0, 0}) <| And.intro (@Option.bind_none.{0, 0}) <| And.intro (@Option.map_some.{0, 0}) <| And.intro (@Option.map_none.{0, 0}) <| And.intro (@Option.getD_some.{0}) <| And.intro (@Option.getD_none.{0}) <| And.intro (@Option.bind_assoc.{0, 0, 0}) <| And.intro (@List.map_cons.{0, 0}) <| And.intro (@List.map_nil.{0, 0}) <| And.intro (@List.cons_append.{0}) <| And.intro (@List.nil_append.{0}) <| And.intro (@List.append_nil.{0}) <| And.intro (@List.length_cons.{0}) <| And.intro (@List.length_nil.{0}) <| And.intro (@List.length_map.{0, 0}) <| And.intro (@List.length_append.{0}) <| And.intro (@List.length_replicate.{0}) <| And.intro (@List.take_succ_cons.{0}) <| And.intro (@List.take_zero.{0}) <| And.intro (@List.take_nil.{0}) <| And.intro (@List.drop_succ_cons.{0}) <| And.intro (@List.drop_zero.{0}) <| And.intro (@List.drop_nil.{0}) <| And.intro (@List.replicate_succ.{0}) <| And.intro (@List.replicate_zero.{0}) <| And.intro (@List.all_cons.{0}) <| And.intro (@List.all_nil.{0}) <| And.intro (@List.any_cons.{0}) <| And.intro (@List.any_nil.{0}) <| And.intro (@List.isEmpty_nil.{0}) <| And.intro (@List.isEmpty_cons.{0}) <| And.intro (@List.flatMap_cons.{0, 0}) <| And.intro (@List.flatMap_nil.{0, 0}) <| And.intro (@List.contains_cons.{0}) <| And.intro (@List.contains_nil.{0}) <| And.intro (@List.all_append.{0}) <| And.intro (@Bool.true_and) <| And.intro (@Bool.and_true) <| And.intro (@Bool.false_and) <| And.intro (@Bool.and_false) <| And.intro (@Bool.or_false) <| And.intro (@Bool.false_or) <| And.intro (@Bool.or_true) <| And.intro (@Bool.true_or) <| And.intro (@Bool.not_true) <| And.intro (@Bool.not_false) <| And.intro (@Bool.false_eq_true) <| And.intro (@decide_true) <| And.intro (@decide_false) <| And.intro (@eq_self.{0}) <| And.intro (@true_and) <| And.intro (@and_true) <| And.intro (@false_and) <| And.intro (@and_false) <| And.intro (@Nat.zero_add) <| And.intro (@Nat.add_zero) <| And.intro (@beq_self_eq_true.{0}) <| And.intro (@Bool.and_self) <| And.intro (@not_true_eq_false) <| (@not_false_eq_true)
def SS (FT : Env) := And.intro (S0 FT) (And.intro S1 S2)
end TT
namespace TT
open Go
def putS : List V → List (Nat × V) → List V
 | s, [] => s
 | s, q :: l => putS (s.set q.1 q.2) l
def putR : R → List (Nat × List Ent) → R
 | s, [] => s
 | s, q :: l => putR (s.set q.1 q.2) l
theorem Ok_tail {ρ : Type} {x : Option ρ} {e : ρ → Res} {y y' : Option Res} (h : Ok x e y') (he : y = y') : Ok x e y := fun r hr => he.trans (h r hr)
theorem Ok_callq {β ρ : Type} {g : Option β} {f : β → Option ρ} {e : ρ → Res} {e' : β → Res} {Y Y' : Option Res} {k : Res → Option Res} (hg : Ok g e' Y) (hy : Y' = Y) (h : ∀ v, Ok (f v) e (k (e' v))) : Ok (g >>= f) e (Y'.bind k) := by
 subst hy; exact Ok_call hg h
theorem Ok_get {α ρ : Type} {l : List α} {i : Int} {f : α → Option ρ} {e : ρ → Res} {y : Option Res} (h : ∀ a, 0 ≤ i ∧ getI l i = some a ∧ l[i.toNat]? = some a ∧ i.toNat < l.length → Ok (f a) e y) : Ok (getI l i >>= f) e y := Ok_prim fun a ha => by
 have h0 : 0 ≤ i := by
  unfold getI at ha
  by_cases hi : 0 ≤ i
  ·exact hi
  ·rw [if_neg hi] at ha; cases ha
 have h1 : l[i.toNat]? = some a := by rw [← getI_pos h0]; exact ha
 exact h a ⟨h0, ha, h1, (List.getElem?_eq_some_iff.1 h1).1⟩
theorem putS_nil (s : List V) : putS s [] = s := rfl
theorem putS_cons (s : List V) (i : Nat) (v : V) (l : List (Nat × V)) : putS s ((i, v) :: l) = putS (s.set i v) l := rfl
theorem putR_nil (s : R) : putR s [] = s := rfl
theorem putR_cons (s : R) (i : Nat) (v : List Ent) (l : List (Nat × List Ent)) : putR s ((i, v) :: l) = putR (s.set i v) l := rfl
theorem setRC_eq (rows : Rows) (i c : Nat) (t : T) : setRC rows i c t = match rows[i]? with | some row => rows.set i (row.set c t) | none => rows := rfl
theorem some_bnd {α β : Type} (a : α) (f : α → Option β) : (some a >>= f) = f a := rfl
theorem rI_eq (x : Int) : rI x = [.v (.int .i64 x)] := rfl
theorem rK_eq (k : IntKind) (x : Int) : rK k x = [.v (.int k x)] := rfl
theorem rS_eq (x : ByteArray) : rS x = [.v (.string x)] := rfl
theorem rB_eq (x : Bool) : rB x = [.v (.bool x)] := rfl
theorem rL_eq {α : Type} (o : Bool) (f : α → List T) (l : List α) : rL o f l = [.sl o (l.map f)] := rfl
def sameL {α β : Type} (l : List α) (l' : List β) : Option Unit := if l.length = l'.length then some () else none
theorem lens_eq {α : Type} (f : α → List T) (n : Nat) (h : ∀ x, (f x).length = n) (l l' : List α) : ((l.map f).map (·.length) = (l'.map f).map (·.length)) = ((if l.length = l'.length then some () else none) = some ()) := by
 have e : ∀ l : List α, (l.map f).map (·.length) = List.replicate l.length n := by
  intro l
  induction l with
  | nil => rfl
  | cons x l ih => simp only [List.map_cons, ih, h, List.length_cons, List.replicate_succ]
 rw [e, e]
 apply propext
 constructor
 ·intro hh
  have := congrArg List.length hh
  simp only [List.length_replicate] at this
  rw [if_pos this]
 ·intro hh
  split at hh
  ·rename_i h1; rw [h1]
  ·cases hh
theorem len_rI (l l' : List Int) : ((l.map rI).map (·.length) = (l'.map rI).map (·.length)) = ((if l.length = l'.length then some () else none) = some ()) := lens_eq rI 1 (fun _ => rfl) l l'
theorem len_rS (l l' : List ByteArray) : ((l.map rS).map (·.length) = (l'.map rS).map (·.length)) = ((if l.length = l'.length then some () else none) = some ()) := lens_eq rS 1 (fun _ => rfl) l l'
theorem len_rL {α : Type} (o : Bool) (f : α → List T) (l l' : List (List α)) : ((l.map (rL o f)).map (·.length) = (l'.map (rL o f)).map (·.length)) = ((if l.length = l'.length then some () else none) = some ()) := lens_eq (rL o f) 1 (fun _ => rfl) l l'
theorem Ok_same {α β ρ : Type} {l : List α} {l' : List β} {f : Unit → Option ρ} {e : ρ → Res} {y : Option Res} (h : l.length = l'.length → Ok (f ()) e y) : Ok (sameL l l' >>= f) e y := Ok_prim fun a ha => by
 unfold sameL at ha
 split at ha
 ·rename_i h1; cases ha; exact h h1
 ·cases ha
theorem ptrRow_cons (rows : Rows) (stt : Nat) (q : Nat × Nat) (p : Path) (i n st : Nat) : ptrRow rows stt (q :: p) i n st = if st = stt then (getP rows (q :: p)).bind (·[i]?) else none := rfl
theorem getP_nil (rows : Rows) : getP rows [] = some rows := rfl
def getPT (p : Path) : Option T → Option Rows
 | some (.sl true rows) => getP rows p
 | _ => none
theorem getPT_some (p : Path) (rows : Rows) : getPT p (some (.sl true rows)) = getP rows p := rfl
theorem getP_cons (rows : Rows) (i c : Nat) (p : Path) : getP rows ((i, c) :: p) = getPT p (rows[i]?.bind (·[c]?)) := by
 simp only [getP, getPT]; cases rows[i]?.bind (·[c]?) with
 | none => rfl
 | some t => cases t <;> try rfl
theorem getC_all (rows : Rows) (p : Path) (i c : Nat) : getC rows p i c = (getP rows p).bind fun rs => rs[i]?.bind (·[c]?) := rfl
def setCT (rows : Rows) (i0 c0 : Nat) (p : Path) (i c : Nat) (t : T) : Option T → Rows
 | some (.sl true rows') => setRC rows i0 c0 (.sl true (setC rows' p i c t))
 | _ => rows
theorem setCT_some (rows : Rows) (i0 c0 : Nat) (p : Path) (i c : Nat) (t : T) (rows' : Rows) : setCT rows i0 c0 p i c t (some (.sl true rows')) = setRC rows i0 c0 (.sl true (setC rows' p i c t)) := rfl
theorem setC_cons (rows : Rows) (i0 c0 : Nat) (p : Path) (i c : Nat) (t : T) : setC rows ((i0, c0) :: p) i c t = setCT rows i0 c0 p i c t (rows[i0]?.bind (·[c0]?)) := by
 simp only [setC, setCT]; cases rows[i0]?.bind (·[c0]?) with
 | none => rfl
 | some t => cases t <;> try rfl
theorem getI_set_self {α : Type} (l : List α) (i : Int) (x : α) : getI (l.set i.toNat x) i = if 0 ≤ i then (if i.toNat < l.length then some x else none) else none := by
 unfold getI
 split
 ·simp [List.getElem?_set]
 ·rfl
def iaCT (sz : Nat) (id : Id) (p : Path) (n : Int) (m st : Nat) : T → M V
 | .sl true rs => iaS sz id p n m st rs
 | _ => .fail
theorem iaCT_sl (sz : Nat) (id : Id) (p : Path) (n : Int) (m st : Nat) (rs : Rows) : iaCT sz id p n m st (.sl true rs) = iaS sz id p n m st rs := rfl
theorem iaC_mem (sz : Nat) (id : Id) (p : Path) (j c : Nat) (n : Int) (m st : Nat) (rows : Rows) (stt : Nat) (fx : Bool) : iaC sz id p j c n m st (.mem rows stt fx) = if st = stt then oneM (getC rows p j c) (iaCT sz id (p ++ [(j, c)]) n m st) else .fail := by
 simp only [iaC]; split
 ·cases getC rows p j c with
  | none => rfl
  | some t => cases t <;> try rfl
 ·rfl
theorem fset {α : Type} (f : α → List T) (l : List α) (i : Nat) (x : α) (r : List T) (h : f x = r) : (l.map f).set i r = (l.set i x).map f := by rw [← h, List.map_set]
theorem fapp {α : Type} (f : α → List T) (l : List α) (x : α) (r : List T) (rs : Rows) (h : f x = r) : l.map f ++ (r :: rs) = (l ++ [x]).map f ++ rs := by rw [← h]; simp
theorem fset_rI (l : List Int) (i : Nat) (x : Int) : (l.map rI).set i [.v (.int .i64 x)] = (l.set i x).map rI := fset rI l i x _ rfl
theorem fset_rK (k : IntKind) (l : List Int) (i : Nat) (x : Int) : (l.map (rK k)).set i [.v (.int k x)] = (l.set i x).map (rK k) := fset (rK k) l i x _ rfl
theorem fset_rS (l : List ByteArray) (i : Nat) (x : ByteArray) : (l.map rS).set i [.v (.string x)] = (l.set i x).map rS := fset rS l i x _ rfl
theorem fset_rB (l : List Bool) (i : Nat) (x : Bool) : (l.map rB).set i [.v (.bool x)] = (l.set i x).map rB := fset rB l i x _ rfl
theorem fset_rL {α : Type} (o : Bool) (f : α → List T) (l : List (List α)) (i : Nat) (x : List α) : (l.map (rL o f)).set i [.sl o (x.map f)] = (l.set i x).map (rL o f) := fset (rL o f) l i x _ rfl
theorem fset_rLn {α : Type} (o : Bool) (f : α → List T) (l : List (List α)) (i : Nat) : (l.map (rL o f)).set i [.sl o []] = (l.set i []).map (rL o f) := fset (rL o f) l i [] _ rfl
theorem fapp_rI (l : List Int) (x : Int) (rs : Rows) : l.map rI ++ ([.v (.int .i64 x)] :: rs) = (l ++ [x]).map rI ++ rs := fapp rI l x _ rs rfl
theorem fapp_rK (k : IntKind) (l : List Int) (x : Int) (rs : Rows) : l.map (rK k) ++ ([.v (.int k x)] :: rs) = (l ++ [x]).map (rK k) ++ rs := fapp (rK k) l x _ rs rfl
theorem fapp_rS (l : List ByteArray) (x : ByteArray) (rs : Rows) : l.map rS ++ ([.v (.string x)] :: rs) = (l ++ [x]).map rS ++ rs := fapp rS l x _ rs rfl
theorem fapp_rB (l : List Bool) (x : Bool) (rs : Rows) : l.map rB ++ ([.v (.bool x)] :: rs) = (l ++ [x]).map rB ++ rs := fapp rB l x _ rs rfl
theorem fapp_rL {α : Type} (o : Bool) (f : α → List T) (l : List (List α)) (x : List α) (rs : Rows) : l.map (rL o f) ++ ([.sl o (x.map f)] :: rs) = (l ++ [x]).map (rL o f) ++ rs := fapp (rL o f) l x _ rs rfl
theorem fapp_rLn {α : Type} (o : Bool) (f : α → List T) (l : List (List α)) (rs : Rows) : l.map (rL o f) ++ ([.sl o []] :: rs) = (l ++ [[]]).map (rL o f) ++ rs := fapp (rL o f) l [] _ rs rfl
theorem fapp_map {α : Type} (f : α → List T) (l l' : List α) : l.map f ++ l'.map f = (l ++ l').map f := by simp
theorem frep {α : Type} (f : α → List T) (n : Nat) (x : α) (r : List T) (h : f x = r) : List.replicate n r = (List.replicate n x).map f := by rw [← h, List.map_replicate]
theorem frep_rI (n : Nat) (x : Int) : List.replicate n [T.v (.int .i64 x)] = (List.replicate n x).map rI := frep rI n x _ rfl
theorem frep_rK (k : IntKind) (n : Nat) (x : Int) : List.replicate n [T.v (.int k x)] = (List.replicate n x).map (rK k) := frep (rK k) n x _ rfl
theorem frep_rS (n : Nat) (x : ByteArray) : List.replicate n [T.v (.string x)] = (List.replicate n x).map rS := frep rS n x _ rfl
theorem frep_rB (n : Nat) (x : Bool) : List.replicate n [T.v (.bool x)] = (List.replicate n x).map rB := frep rB n x _ rfl
theorem frep_rLI (n : Nat) (o : Bool) : List.replicate n [T.sl o []] = (List.replicate n []).map (rL o rI) := frep (rL o rI) n [] _ rfl
def S3 := And.intro frep_rI <| And.intro frep_rS <| And.intro frep_rB <| And.intro frep_rLI <| And.intro fset_rI <| And.intro fset_rK <| And.intro fset_rS <| And.intro fset_rB <| And.intro (@fset_rL) <| And.intro (@fset_rLn) <| And.intro fapp_rI <| And.intro fapp_rK <| And.intro fapp_rS <| And.intro fapp_rB <| And.intro (@fapp_rL) <| And.intro (@fapp_rLn) <| And.intro (@fapp_map) <| And.intro (@getI_set_self) <| And.intro iaCT_sl <| And.intro iaC_mem <| And.intro ptrRow_cons <| And.intro getP_nil <| And.intro getPT_some <| And.intro getP_cons <| And.intro getC_all <| And.intro setCT_some <| And.intro setC_cons <| And.intro len_rI <| And.intro len_rS <| And.intro (@len_rL) <| And.intro (@some_bnd) <| And.intro rI_eq <| And.intro rK_eq <| And.intro rS_eq <| And.intro rB_eq <| And.intro (@rL_eq) <| And.intro setRC_eq <| And.intro (@List.set_set.{0}) <| And.intro putS_nil <| And.intro putS_cons <| And.intro putR_nil <| And.intro putR_cons <| And.intro (@List.getElem?_map.{0, 0}) <| And.intro (@List.getElem?_set.{0}) <| (@List.length_set.{0})
end TT
