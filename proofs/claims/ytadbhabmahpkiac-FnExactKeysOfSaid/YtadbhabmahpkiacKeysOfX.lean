/- What functions that FnExactKeysOf reaches compute, and that the program's and the reference's answers are the same. No conditions. -/
import Derived.Test.YtadbhabmahpkiacKeysOfY0
set_option maxRecDepth 100000
set_option maxHeartbeats 4000000
set_option linter.all false
namespace Go.Proofs
open Go.Ab
theorem s36 : ∀ vs r,g_laws_eqKeySS vs = some r → SaysM Try.prog .any 36 vs r := by
 intro vs r h
 unfold g_laws_eqKeySS at h
 split at h
 ·rename_i w0 w1
  cases hd_y0 : decL dc_en1 w0 with
  | none => rw [hd_y0] at h; cases h
  | some y0 =>
  rw [hd_y0] at h
  obtain rfl := decL_inv dc_en1_inv hd_y0
  clear hd_y0
  dsimp only at h
  cases hd_y1 : decL dc_en1 w1 with
  | none => rw [hd_y1] at h; cases h
  | some y1 =>
  rw [hd_y1] at h
  obtain rfl := decL_inv dc_en1_inv hd_y1
  clear hd_y1
  dsimp only at h
  split at h
  ·rename_i hp
   cases h
   refine spec_of (m := .any) (tab := tabOf [(59,wM .any g_laws_eqKeyS)]) (cp := cp36) (ic := ic36) (rvl := [(.t 4)]) hm (tabOk_cons (m := .any) s59 tabOk_nil) Try.func36 rfl rfl rfl (by kernel_rfl) rfl (Nat.le_of_ble_eq_true rfl) (Nat.le_of_ble_eq_true rfl) ?_
   show eA _ _ _ _
   unfold ic36
   simp only [p_laws_eqKeySS,Bool.and_eq_true,Bool.or_eq_true,decide_eq_true_eq,Bool.not_eq_true',decide_eq_false_iff_not] at hp
   refine eS_to ?_
   repeat' (first
    | ((first | (have h := True.intro; refine eS_of ?_) | (refine eGI_of (fun h => ?_) (fun h => ?_)) | (refine eCc_of (fun h => ?_) (fun h => ?_)) | (have h := True.intro; refine KW_refl ?_)) <;> (try simp only [Bool.not_eq_true',Bool.not_eq_false'] at h) <;> (try first | exact nbA h (by assumption) | exact nbB h (by assumption)) <;> (try simp only [h,reduceCtorEq,grpN,Int.reduceEq,Int.reduceLT,Int.reduceLE,if_true,if_false,reduceIte] at hp) <;> (first | (have h2 := h; simp only [decide_eq_true_eq,decide_eq_false_iff_not] at h2; (first | (replace h2 := eq_false h2) | (replace h2 := eq_true h2)); (try simp only [h2,reduceCtorEq,grpN,Int.reduceEq,Int.reduceLT,Int.reduceLE,if_true,if_false,reduceIte] at hp); replace hp := And.intro h2 hp) | (replace hp := And.intro h hp) | skip) <;> simp only [h,
     hp,grpX,purgeH,Option.map,reduceIte,Nat.reduceEqDiff,Nat.reduceAdd,Nat.reduceMul,Nat.reduceLT,Nat.reduceLeDiff,implies_true,forall_const,eq_self,Int.reduceEq,Int.reduceLE,Int.reduceLT,if_true,if_false,grpK,Int.reduceAdd,Int.reduceSub,Int.reduceMul,Int.reduceNeg,Int.reducePow,Nat.reducePow,Int.reduceToNat,Nat.reduceSub,List.replicate,Nat.reduceBEq,grpE,beq_true,beq_false,g_laws_eqKeyS,grpC,grpY])
    | (refine eA_wk (wk_norm (ks := [0,1,5]) (ls := []) ?_) (eA_cast ?_ (sl36_0 y0 y1 _ _ _ _ (getD_some (d := default) (x := (l_laws_eqKeySS_0 y0 y1 (Int.toNat (((List.length y0 : Nat) : Int) - 0) + 2) 0)) ?_) ?_ ?_)); (iterate 2 (simp only [nilS,nilV,nilB,normOk,optIn,blkIn,nameIn,normS,List.map_append,List.length_append,List.map_set,List.length_set,List.map_replicate,List.length_replicate,List.map_nil,List.map_cons,
     hp,grpX,purgeH,Option.map,reduceIte,Nat.reduceEqDiff,Nat.reduceAdd,Nat.reduceMul,Nat.reduceLT,Nat.reduceLeDiff,implies_true,forall_const,eq_self,Int.reduceEq,Int.reduceLE,Int.reduceLT,if_true,if_false,grpK,Int.reduceAdd,Int.reduceSub,Int.reduceMul,Int.reduceNeg,Int.reducePow,Nat.reducePow,Int.reduceToNat,Nat.reduceSub,List.replicate,Nat.reduceBEq,grpE,beq_true,beq_false,g_laws_eqKeyS,grpC,grpY] <;> first | rfl | (simp only [Nat.add_comm]; done))); (simp only [hp]); (
    intro st2 ht hw; simp only [Kq_ret,Kb_ret,Kl_ret,ret_ok]; first | exact h0 _ hw | exact h0 _ rfl hw | exact h1 _ rfl hw | exact h0 _ ht hw | exact h1 _ ht hw | (simp only [ht,need_iff,reduceCtorEq,grpN,Int.reduceEq,Int.reduceLT,Int.reduceLE,if_true,if_false,reduceIte] at h; (repeat (replace h := And.right h)); cases h; first | exact h0 _ hw | exact h0 _ rfl hw | exact h1 _ rfl hw) | refine ⟨_,hw,?_⟩); rotate_left; (
    intro st2 ht hw; (try simp only [ht,reduceCtorEq,grpN,Int.reduceEq,Int.reduceLT,Int.reduceLE,if_true,if_false,reduceIte] at hp); (try replace hp := And.intro ht hp); simp only [
Kq_exit,Kq_normal,Kq_ret,Kb_exit,Kb_normal,Kb_ret,Kl_exit,Kl_normal,Kl_ret,reduceIte,Nat.reduceEqDiff,if_true,if_false,eq_self]; refine KW_of hw ?_; simp only [ht,
     hp,grpX,purgeH,Option.map,reduceIte,Nat.reduceEqDiff,Nat.reduceAdd,Nat.reduceMul,Nat.reduceLT,Nat.reduceLeDiff,implies_true,forall_const,eq_self,Int.reduceEq,Int.reduceLE,Int.reduceLT,if_true,if_false,grpK,Int.reduceAdd,Int.reduceSub,Int.reduceMul,Int.reduceNeg,Int.reducePow,Nat.reducePow,Int.reduceToNat,Nat.reduceSub,List.replicate,Nat.reduceBEq,grpE,beq_true,beq_false,g_laws_eqKeyS,grpC,grpY])))
   all_goals (try simp only [*,m_laws_eqKeySS,grpZ,if_true,if_false,reduceIte,decide_true,decide_false])
   all_goals (try (simp_all; done))
  ·cases h
 ·cases h
def m_laws_eqVector (x0 : (Nat × Nat × Nat)) (x1 : (Nat × Nat × Nat)) : Bool := (if (m_laws_sameFloat (widen x0.1) (widen x1.1)) = true then (if (m_laws_sameFloat (widen x0.2.1) (widen x1.2.1)) = true then (if (m_laws_sameFloat (widen x0.2.2) (widen x1.2.2)) = true then true else false) else false) else false)
def g_laws_eqVector : List AV → Option AV
 | [.agg [.flt .f32 y0,.flt .f32 y1,.flt .f32 y2],.agg [.flt .f32 y3,.flt .f32 y4,.flt .f32 y5]] => some (.bool (m_laws_eqVector (y0,y1,y2) (y3,y4,y5)))
 | _ => none
def ic34 : ICode := (.seq (.reg [⟨some 2,none,.box 3 (.t 0)⟩,⟨some 3,none,.box 3 (.t 1)⟩,⟨some 4,none,.mov (.c (.bool false))⟩] [2,3]) (.seq (.seq (.reg [⟨some 5,none,.faddr 0 (.t 2)⟩,⟨some 6,none,.load none (.t 5)⟩,⟨some 7,none,.conv (.flt .f64) (.t 6)⟩,⟨some 8,none,.faddr 0 (.t 3)⟩,⟨some 9,none,.load none (.t 8)⟩,⟨some 10,none,.conv (.flt .f64) (.t 9)⟩,⟨some 11,none,.call (.fn 57) [(.t 7),(.t 10)] []⟩,⟨some 12,none,.un .not (.t 11)⟩] [2,3,12]) (.cond (.t 12) (.seq (.reg [⟨some 4,none,.mov (.c (.bool false))⟩] [4]) .ret) .skip)) (.seq (.seq (.reg [⟨some 13,none,.faddr 1 (.t 2)⟩,⟨some 14,none,.load none (.t 13)⟩,⟨some 15,none,.conv (.flt .f64) (.t 14)⟩,⟨some 16,none,.faddr 1 (.t 3)⟩,⟨some 17,none,.load none (.t 16)⟩,⟨some 18,none,.conv (.flt .f64) (.t 17)⟩,⟨some 19,none,.call (.fn 57) [(.t 15),(.t 18)] []⟩,⟨some 20,none,.un .not (.t 19)⟩] [2,3,20]) (.cond (.t 20) (.seq (.reg [⟨some 4,none,.mov (.c (.bool false))⟩] [4]) .ret) .skip)) (.seq (.seq (.reg [⟨some 21,none,.faddr 2 (.t 2)⟩,⟨some 22,none,.load none (.t 21)⟩,⟨some 23,none,.conv (.flt .f64) (.t 22)⟩,⟨some 24,none,.faddr 2 (.t 3)⟩,⟨some 25,none,.load none (.t 24)⟩,⟨some 26,none,.conv (.flt .f64) (.t 25)⟩,⟨some 27,none,.call (.fn 57) [(.t 23),(.t 26)] []⟩,⟨some 28,none,.un .not (.t 27)⟩] [28]) (.cond (.t 28) (.seq (.reg [⟨some 4,none,.mov (.c (.bool false))⟩] [4]) .ret) .skip)) (.seq (.reg [⟨some 4,none,.mov (.c (.bool true))⟩] [4]) .ret)))))
def cp34 : CP := CP.mk [] [] [[2,3],[2,3,12],[4],[2,3,20],[4],[28],[4],[4]] 29 [] []
theorem s34 : ∀ vs r,g_laws_eqVector vs = some r → SaysM Try.prog .any 34 vs r := by
 intro vs r h
 unfold g_laws_eqVector at h
 split at h
 ·rename_i y0 y1 y2 y3 y4 y5
  cases h
  refine spec_of (m := .any) (tab := tabOf [(57,wM .any g_laws_sameFloat)]) (cp := cp34) (ic := ic34) (rvl := [(.t 4)]) hm (tabOk_cons (m := .any) s57 tabOk_nil) Try.func34 rfl rfl rfl (by kernel_rfl) rfl (Nat.le_of_ble_eq_true rfl) (Nat.le_of_ble_eq_true rfl) ?_
  show eA _ _ _ _
  unfold ic34
  refine eS_to ?_
  repeat' (first
   | ((first | (have h := True.intro; refine eS_of ?_) | (refine eGI_of (fun h => ?_) (fun h => ?_)) | (refine eCc_of (fun h => ?_) (fun h => ?_))) <;> (try simp only [Bool.not_eq_true',Bool.not_eq_false'] at h) <;> (try first | exact nbA h (by assumption) | exact nbB h (by assumption)) <;> simp only [h,
    grpX,purgeH,Option.map,reduceIte,Nat.reduceEqDiff,Nat.reduceAdd,Nat.reduceMul,Nat.reduceLT,Nat.reduceLeDiff,implies_true,forall_const,eq_self,Int.reduceEq,Int.reduceLE,Int.reduceLT,if_true,if_false,grpK,Int.reduceAdd,Int.reduceSub,Int.reduceMul,Int.reduceNeg,Int.reducePow,Nat.reducePow,Int.reduceToNat,Nat.reduceSub,List.replicate,Nat.reduceBEq,grpE,beq_true,beq_false,g_laws_sameFloat,grpC,grpY]))
  all_goals (try simp only [*,m_laws_eqVector,grpZ,if_true,if_false,reduceIte,decide_true,decide_false])
  all_goals (try (simp_all; done))
 ·cases h
def m_laws_eqRootKey (x0 : (Int × Nat × Nat × Nat)) (x1 : (Int × Nat × Nat × Nat)) : Bool := (if (decide (x0.1 = x1.1)) = true then (if (m_laws_eqVector x0.2 x1.2) = true then true else false) else false)
def g_laws_eqRootKey : List AV → Option AV
 | [.agg [.int .i64 y0,.flt .f32 y1,.flt .f32 y2,.flt .f32 y3],.agg [.int .i64 y4,.flt .f32 y5,.flt .f32 y6,.flt .f32 y7]] => some (.bool (m_laws_eqRootKey (y0,y1,y2,y3) (y4,y5,y6,y7)))
 | _ => none
def ic60 : ICode := (.seq (.reg [⟨some 2,none,.box 4 (.t 0)⟩,⟨some 3,none,.box 4 (.t 1)⟩,⟨some 4,none,.mov (.c (.bool false))⟩] [2,3]) (.seq (.seq (.reg [⟨some 5,none,.faddr 0 (.t 2)⟩,⟨some 6,none,.load none (.t 5)⟩,⟨some 7,none,.faddr 0 (.t 3)⟩,⟨some 8,none,.load none (.t 7)⟩,⟨some 9,none,.bin .neq false (.t 6) (.t 8)⟩] [2,3,9]) (.cond (.t 9) (.seq (.reg [⟨some 4,none,.mov (.c (.bool false))⟩] [4]) .ret) .skip)) (.seq (.seq (.reg [⟨some 10,none,.faddr 1 (.t 2)⟩,⟨some 11,none,.load (some 3) (.t 10)⟩,⟨some 12,none,.faddr 1 (.t 3)⟩,⟨some 13,none,.load (some 3) (.t 12)⟩,⟨some 14,none,.call (.fn 34) [(.t 11),(.t 13)] []⟩,⟨some 15,none,.un .not (.t 14)⟩] [15]) (.cond (.t 15) (.seq (.reg [⟨some 4,none,.mov (.c (.bool false))⟩] [4]) .ret) .skip)) (.seq (.reg [⟨some 4,none,.mov (.c (.bool true))⟩] [4]) .ret))))
def cp60 : CP := CP.mk [] [] [[2,3],[2,3,9],[4],[15],[4],[4]] 16 [] []
theorem s60 : ∀ vs r,g_laws_eqRootKey vs = some r → SaysM Try.prog .any 60 vs r := by
 intro vs r h
 unfold g_laws_eqRootKey at h
 split at h
 ·rename_i y0 y1 y2 y3 y4 y5 y6 y7
  cases h
  refine spec_of (m := .any) (tab := tabOf [(34,wM .any g_laws_eqVector)]) (cp := cp60) (ic := ic60) (rvl := [(.t 4)]) hm (tabOk_cons (m := .any) s34 tabOk_nil) Try.func60 rfl rfl rfl (by kernel_rfl) rfl (Nat.le_of_ble_eq_true rfl) (Nat.le_of_ble_eq_true rfl) ?_
  show eA _ _ _ _
  unfold ic60
  refine eS_to ?_
  repeat' (first
   | ((first | (have h := True.intro; refine eS_of ?_) | (refine eGI_of (fun h => ?_) (fun h => ?_)) | (refine eCc_of (fun h => ?_) (fun h => ?_))) <;> (try simp only [Bool.not_eq_true',Bool.not_eq_false'] at h) <;> (try first | exact nbA h (by assumption) | exact nbB h (by assumption)) <;> simp only [h,
    grpX,purgeH,Option.map,reduceIte,Nat.reduceEqDiff,Nat.reduceAdd,Nat.reduceMul,Nat.reduceLT,Nat.reduceLeDiff,implies_true,forall_const,eq_self,Int.reduceEq,Int.reduceLE,Int.reduceLT,if_true,if_false,grpK,Int.reduceAdd,Int.reduceSub,Int.reduceMul,Int.reduceNeg,Int.reducePow,Nat.reducePow,Int.reduceToNat,Nat.reduceSub,List.replicate,Nat.reduceBEq,grpE,beq_true,beq_false,g_laws_eqVector,grpC,grpY]))
  all_goals (try simp only [*,m_laws_eqRootKey,grpZ,if_true,if_false,reduceIte,decide_true,decide_false])
  all_goals (try (simp_all; done))
 ·cases h
def l_laws_eqRootKeyS_0 (x0 : (List (Int × Nat × Nat × Nat))) (x1 : (List (Int × Nat × Nat × Nat))) : Nat → Int → Option (Bool × Bool × Unit)
 | 0,_ => none
 | n + 1,z0_0 => (if (decide (z0_0 < ((List.length x0 : Nat) : Int))) = true then (need (inB z0_0 (List.length x0)) (need (inB z0_0 (List.length x1)) (if (m_laws_eqRootKey (atI x0 z0_0) (atI x1 z0_0)) = true then (l_laws_eqRootKeyS_0 x0 x1 n (IntKind.wrap .i64 (z0_0 + 1))) else (some (true,false,default))))) else (some (false,default,())))
def m_laws_eqRootKeyS (x0 : (List (Int × Nat × Nat × Nat))) (x1 : (List (Int × Nat × Nat × Nat))) : Bool := (if (decide (((List.length x0 : Nat) : Int) = ((List.length x1 : Nat) : Int))) = true then (if (Option.getD (l_laws_eqRootKeyS_0 x0 x1 (Int.toNat (((List.length x0 : Nat) : Int) - 0) + 2) 0) default).1 = true then (Option.getD (l_laws_eqRootKeyS_0 x0 x1 (Int.toNat (((List.length x0 : Nat) : Int) - 0) + 2) 0) default).2.1 else true) else false)
def p_laws_eqRootKeyS (x0 : (List (Int × Nat × Nat × Nat))) (x1 : (List (Int × Nat × Nat × Nat))) : Bool := (!(decide (((List.length x0 : Nat) : Int) = ((List.length x1 : Nat) : Int))) || (Option.isSome (l_laws_eqRootKeyS_0 x0 x1 (Int.toNat (((List.length x0 : Nat) : Int) - 0) + 2) 0)))
def g_laws_eqRootKeyS : List AV → Option AV
 | [.sl w0,.sl w1] => (match decL dc_en2 w0 with | some y0 => ((match decL dc_en2 w1 with | some y1 => (if p_laws_eqRootKeyS y0 y1 = true then some (.bool (m_laws_eqRootKeyS y0 y1)) else none) | none => none)) | none => none)
 | _ => none
def lb37_0 : ICode := (.seq (.seq (.reg [⟨some 11,none,.mov (.t 5)⟩,⟨some 12,none,.mov (.t 0)⟩,⟨some 13,none,.len false (.t 12)⟩,⟨some 14,none,.bin .lss false (.t 11) (.t 13)⟩] [0,1,5,14]) (.cond (.t 14) .skip (.exit 0))) (.seq (.block 1 (.seq (.reg [⟨some 17,none,.mov (.t 0)⟩,⟨some 18,none,.mov (.t 5)⟩,⟨some 19,none,.iaddrS 4 (.t 17) (.t 18)⟩,⟨some 20,none,.load (some 4) (.t 19)⟩,⟨some 21,none,.mov (.t 1)⟩,⟨some 22,none,.mov (.t 5)⟩,⟨some 23,none,.iaddrS 4 (.t 21) (.t 22)⟩,⟨some 24,none,.load (some 4) (.t 23)⟩,⟨some 25,none,.call (.fn 60) [(.t 20),(.t 24)] []⟩,⟨some 26,none,.un .not (.t 25)⟩] [0,1,5,26]) (.cond (.t 26) (.seq (.reg [⟨some 4,none,.mov (.c (.bool false))⟩] [4]) .ret) .skip))) (.reg [⟨some 15,none,.mov (.t 5)⟩,⟨some 16,none,.bin .add false (.t 15) (.c (.int .i64 1))⟩,⟨some 5,none,.mov (.t 16)⟩] [0,1,5])))
def ic37 : ICode := (.seq (.reg [⟨some 4,none,.mov (.c (.bool false))⟩] [0,1]) (.seq (.seq (.reg [⟨some 6,none,.mov (.t 0)⟩,⟨some 7,none,.len false (.t 6)⟩,⟨some 8,none,.mov (.t 1)⟩,⟨some 9,none,.len false (.t 8)⟩,⟨some 10,none,.bin .neq false (.t 7) (.t 9)⟩] [0,1,10]) (.cond (.t 10) (.seq (.reg [⟨some 4,none,.mov (.c (.bool false))⟩] [4]) .ret) .skip)) (.seq (.seq (.reg [⟨some 5,none,.mov (.c (.int .i64 0))⟩] [0,1,5]) (.block 0 (.loop lb37_0))) (.seq (.reg [⟨some 4,none,.mov (.c (.bool true))⟩] [4]) .ret))))
def cp37 : CP := CP.mk [] [] [[0,1],[0,1,10],[4],[0,1,5],[0,1,5,14],[0,1,5],[0,1,5,26],[4],[4]] 27 [] []
theorem sl37_0 (x0 : (List (Int × Nat × Nat × Nat))) (x1 : (List (Int × Nat × Nat × Nat))) : ∀ (n : Nat) (z0_0 : Int) (o : (Bool × Bool × Unit)) (K : IExit → St → Prop),l_laws_eqRootKeyS_0 x0 x1 n z0_0 = some o → (∀ st,o.1 = true → outM .any st [(.t 4)] = some (.bool o.2.1) → K .ret st) → (∀ st,o.1 = false → Wk st (⟨[],[]⟩ : St) → K (.exit 0) st) → eA (tabOf [(60,wM .any g_laws_eqRootKey)]) (.loop lb37_0) (⟨[(0,(.sl (List.map en2 x0))),(1,(.sl (List.map en2 x1))),(5,(.int .i64 z0_0))],[]⟩ : St) K := by
 intro n
 induction n with
 | zero =>
  intro z0_0 o K h h0 h1
  simp only [l_laws_eqRootKeyS_0,reduceCtorEq] at h
 | succ n ih =>
  intro z0_0 o K h h0 h1
  refine eA_loop ?_
  unfold lb37_0
  unfold l_laws_eqRootKeyS_0 at h
  (try simp only [need_iff] at h)
  simp only [
   need_iff,h,grpX,purgeH,Option.map,reduceIte,Nat.reduceEqDiff,Nat.reduceAdd,Nat.reduceMul,Nat.reduceLT,Nat.reduceLeDiff,implies_true,forall_const,eq_self,Int.reduceEq,Int.reduceLE,Int.reduceLT,if_true,if_false,grpK,Int.reduceAdd,Int.reduceSub,Int.reduceMul,Int.reduceNeg,Int.reducePow,Nat.reducePow,Int.reduceToNat,Nat.reduceSub,List.replicate,Nat.reduceBEq,grpE,beq_true,beq_false,g_laws_eqRootKey,grpC,grpY]
  repeat' (first
   | ((first | (refine eGI_of (fun hc => ?_) (fun hc => ?_)) | (refine eCc_of (fun hc => ?_) (fun hc => ?_)) | (have hc := True.intro; refine KW_refl ?_)) <;> (try simp only [Bool.not_eq_true',Bool.not_eq_false'] at hc) <;> (try simp only [hc,need_iff,reduceCtorEq,grpN,Int.reduceEq,Int.reduceLT,Int.reduceLE,if_true,if_false,reduceIte] at h) <;> (first | (have hc2 := hc; simp only [decide_eq_true_eq,decide_eq_false_iff_not] at hc2; (first | (replace hc2 := eq_false hc2) | (replace hc2 := eq_true hc2)); (try simp only [hc2,need_iff,reduceCtorEq,grpN,Int.reduceEq,Int.reduceLT,Int.reduceLE,if_true,if_false,reduceIte] at h); replace h := And.intro hc2 h) | (replace h := And.intro hc h) | skip) <;> simp only [hc,
   need_iff,h,grpX,purgeH,Option.map,reduceIte,Nat.reduceEqDiff,Nat.reduceAdd,Nat.reduceMul,Nat.reduceLT,Nat.reduceLeDiff,implies_true,forall_const,eq_self,Int.reduceEq,Int.reduceLE,Int.reduceLT,if_true,if_false,grpK,Int.reduceAdd,Int.reduceSub,Int.reduceMul,Int.reduceNeg,Int.reducePow,Nat.reducePow,Int.reduceToNat,Nat.reduceSub,List.replicate,Nat.reduceBEq,grpE,beq_true,beq_false,g_laws_eqRootKey,grpC,grpY]))
  all_goals (have hf := h)
  all_goals (repeat (replace h := And.right h))
  all_goals ((first | (refine eA_wk (wk_norm (ks := [0,1,5]) (ls := []) ?_) (eA_cast ?_ (ih _ _ _ h h0 h1))) | (cases h; have h := True.intro; refine h0 _ rfl ?_) | (cases h; have h := True.intro; refine h1 _ rfl (Wk.cast (wk_norm (ks := []) (ls := []) ?_) ?_))) <;> simp only [normOk,optIn,blkIn,nameIn,normS,List.map_append,List.length_append,List.map_set,List.length_set,List.map_replicate,List.length_replicate,List.map_nil,List.map_cons,
   need_iff,h,hf,grpX,purgeH,Option.map,reduceIte,Nat.reduceEqDiff,Nat.reduceAdd,Nat.reduceMul,Nat.reduceLT,Nat.reduceLeDiff,implies_true,forall_const,eq_self,Int.reduceEq,Int.reduceLE,Int.reduceLT,if_true,if_false,grpK,Int.reduceAdd,Int.reduceSub,Int.reduceMul,Int.reduceNeg,Int.reducePow,Nat.reducePow,Int.reduceToNat,Nat.reduceSub,List.replicate,Nat.reduceBEq,grpE,beq_true,beq_false,g_laws_eqRootKey,grpC,grpY] <;> first | rfl | (simp only [Nat.add_comm]; done))
theorem s37 : ∀ vs r,g_laws_eqRootKeyS vs = some r → SaysM Try.prog .any 37 vs r := by
 intro vs r h
 unfold g_laws_eqRootKeyS at h
 split at h
 ·rename_i w0 w1
  cases hd_y0 : decL dc_en2 w0 with
  | none => rw [hd_y0] at h; cases h
  | some y0 =>
  rw [hd_y0] at h
  obtain rfl := decL_inv dc_en2_inv hd_y0
  clear hd_y0
  dsimp only at h
  cases hd_y1 : decL dc_en2 w1 with
  | none => rw [hd_y1] at h; cases h
  | some y1 =>
  rw [hd_y1] at h
  obtain rfl := decL_inv dc_en2_inv hd_y1
  clear hd_y1
  dsimp only at h
  split at h
  ·rename_i hp
   cases h
   refine spec_of (m := .any) (tab := tabOf [(60,wM .any g_laws_eqRootKey)]) (cp := cp37) (ic := ic37) (rvl := [(.t 4)]) hm (tabOk_cons (m := .any) s60 tabOk_nil) Try.func37 rfl rfl rfl (by kernel_rfl) rfl (Nat.le_of_ble_eq_true rfl) (Nat.le_of_ble_eq_true rfl) ?_
   show eA _ _ _ _
   unfold ic37
   simp only [p_laws_eqRootKeyS,Bool.and_eq_true,Bool.or_eq_true,decide_eq_true_eq,Bool.not_eq_true',decide_eq_false_iff_not] at hp
   refine eS_to ?_
   repeat' (first
    | ((first | (have h := True.intro; refine eS_of ?_) | (refine eGI_of (fun h => ?_) (fun h => ?_)) | (refine eCc_of (fun h => ?_) (fun h => ?_)) | (have h := True.intro; refine KW_refl ?_)) <;> (try simp only [Bool.not_eq_true',Bool.not_eq_false'] at h) <;> (try first | exact nbA h (by assumption) | exact nbB h (by assumption)) <;> (try simp only [h,reduceCtorEq,grpN,Int.reduceEq,Int.reduceLT,Int.reduceLE,if_true,if_false,reduceIte] at hp) <;> (first | (have h2 := h; simp only [decide_eq_true_eq,decide_eq_false_iff_not] at h2; (first | (replace h2 := eq_false h2) | (replace h2 := eq_true h2)); (try simp only [h2,reduceCtorEq,grpN,Int.reduceEq,Int.reduceLT,Int.reduceLE,if_true,if_false,reduceIte] at hp); replace hp := And.intro h2 hp) | (replace hp := And.intro h hp) | skip) <;> simp only [h,
     hp,grpX,purgeH,Option.map,reduceIte,Nat.reduceEqDiff,Nat.reduceAdd,Nat.reduceMul,Nat.reduceLT,Nat.reduceLeDiff,implies_true,forall_const,eq_self,Int.reduceEq,Int.reduceLE,Int.reduceLT,if_true,if_false,grpK,Int.reduceAdd,Int.reduceSub,Int.reduceMul,Int.reduceNeg,Int.reducePow,Nat.reducePow,Int.reduceToNat,Nat.reduceSub,List.replicate,Nat.reduceBEq,grpE,beq_true,beq_false,g_laws_eqRootKey,grpC,grpY])
    | (refine eA_wk (wk_norm (ks := [0,1,5]) (ls := []) ?_) (eA_cast ?_ (sl37_0 y0 y1 _ _ _ _ (getD_some (d := default) (x := (l_laws_eqRootKeyS_0 y0 y1 (Int.toNat (((List.length y0 : Nat) : Int) - 0) + 2) 0)) ?_) ?_ ?_)); (iterate 2 (simp only [nilS,nilV,nilB,normOk,optIn,blkIn,nameIn,normS,List.map_append,List.length_append,List.map_set,List.length_set,List.map_replicate,List.length_replicate,List.map_nil,List.map_cons,
     hp,grpX,purgeH,Option.map,reduceIte,Nat.reduceEqDiff,Nat.reduceAdd,Nat.reduceMul,Nat.reduceLT,Nat.reduceLeDiff,implies_true,forall_const,eq_self,Int.reduceEq,Int.reduceLE,Int.reduceLT,if_true,if_false,grpK,Int.reduceAdd,Int.reduceSub,Int.reduceMul,Int.reduceNeg,Int.reducePow,Nat.reducePow,Int.reduceToNat,Nat.reduceSub,List.replicate,Nat.reduceBEq,grpE,beq_true,beq_false,g_laws_eqRootKey,grpC,grpY] <;> first | rfl | (simp only [Nat.add_comm]; done))); (simp only [hp]); (
    intro st2 ht hw; simp only [Kq_ret,Kb_ret,Kl_ret,ret_ok]; first | exact h0 _ hw | exact h0 _ rfl hw | exact h1 _ rfl hw | exact h0 _ ht hw | exact h1 _ ht hw | (simp only [ht,need_iff,reduceCtorEq,grpN,Int.reduceEq,Int.reduceLT,Int.reduceLE,if_true,if_false,reduceIte] at h; (repeat (replace h := And.right h)); cases h; first | exact h0 _ hw | exact h0 _ rfl hw | exact h1 _ rfl hw) | refine ⟨_,hw,?_⟩); rotate_left; (
    intro st2 ht hw; (try simp only [ht,reduceCtorEq,grpN,Int.reduceEq,Int.reduceLT,Int.reduceLE,if_true,if_false,reduceIte] at hp); (try replace hp := And.intro ht hp); simp only [
Kq_exit,Kq_normal,Kq_ret,Kb_exit,Kb_normal,Kb_ret,Kl_exit,Kl_normal,Kl_ret,reduceIte,Nat.reduceEqDiff,if_true,if_false,eq_self]; refine KW_of hw ?_; simp only [ht,
     hp,grpX,purgeH,Option.map,reduceIte,Nat.reduceEqDiff,Nat.reduceAdd,Nat.reduceMul,Nat.reduceLT,Nat.reduceLeDiff,implies_true,forall_const,eq_self,Int.reduceEq,Int.reduceLE,Int.reduceLT,if_true,if_false,grpK,Int.reduceAdd,Int.reduceSub,Int.reduceMul,Int.reduceNeg,Int.reducePow,Nat.reducePow,Int.reduceToNat,Nat.reduceSub,List.replicate,Nat.reduceBEq,grpE,beq_true,beq_false,g_laws_eqRootKey,grpC,grpY])))
   all_goals (try simp only [*,m_laws_eqRootKeyS,grpZ,if_true,if_false,reduceIte,decide_true,decide_false])
   all_goals (try (simp_all; done))
  ·cases h
 ·cases h
def m_laws_eqClip (x0 : (Int × Int × (List (List (Int × Nat × Nat × Nat × Nat))) × (List (Int × Nat × Nat × Nat)))) (x1 : (Int × Int × (List (List (Int × Nat × Nat × Nat × Nat))) × (List (Int × Nat × Nat × Nat)))) : Bool := (if (decide (x0.1 = x1.1)) = true then (if (decide (x0.2.1 = x1.2.1)) = true then (if (m_laws_eqKeySS x0.2.2.1 x1.2.2.1) = true then (if (m_laws_eqRootKeyS x0.2.2.2 x1.2.2.2) = true then true else false) else false) else false) else false)
def p_laws_eqClip (x0 : (Int × Int × (List (List (Int × Nat × Nat × Nat × Nat))) × (List (Int × Nat × Nat × Nat)))) (x1 : (Int × Int × (List (List (Int × Nat × Nat × Nat × Nat))) × (List (Int × Nat × Nat × Nat)))) : Bool := (!(decide (x0.1 = x1.1)) || (!(decide (x0.2.1 = x1.2.1)) || ((p_laws_eqKeySS x0.2.2.1 x1.2.2.1) && (!(m_laws_eqKeySS x0.2.2.1 x1.2.2.1) || (p_laws_eqRootKeyS x0.2.2.2 x1.2.2.2)))))
def g_laws_eqClip : List AV → Option AV
 | [.agg [.int .i64 y0,.int .i64 y1,.sl w2,.sl w3],.agg [.int .i64 y4,.int .i64 y5,.sl w6,.sl w7]] => (match decL dc_en1 w2 with | some y2 => ((match decL dc_en2 w3 with | some y3 => ((match decL dc_en1 w6 with | some y6 => ((match decL dc_en2 w7 with | some y7 => (if p_laws_eqClip (y0,y1,y2,y3) (y4,y5,y6,y7) = true then some (.bool (m_laws_eqClip (y0,y1,y2,y3) (y4,y5,y6,y7))) else none) | none => none)) | none => none)) | none => none)) | none => none)
 | _ => none
def ic11 : ICode := (.seq (.reg [⟨some 2,none,.box 4 (.t 0)⟩,⟨some 3,none,.box 4 (.t 1)⟩,⟨some 4,none,.mov (.c (.bool false))⟩] [2,3]) (.seq (.seq (.reg [⟨some 5,none,.faddr 0 (.t 2)⟩,⟨some 6,none,.load none (.t 5)⟩,⟨some 7,none,.faddr 0 (.t 3)⟩,⟨some 8,none,.load none (.t 7)⟩,⟨some 9,none,.bin .neq false (.t 6) (.t 8)⟩] [2,3,9]) (.cond (.t 9) (.seq (.reg [⟨some 4,none,.mov (.c (.bool false))⟩] [4]) .ret) .skip)) (.seq (.seq (.reg [⟨some 10,none,.faddr 1 (.t 2)⟩,⟨some 11,none,.load none (.t 10)⟩,⟨some 12,none,.faddr 1 (.t 3)⟩,⟨some 13,none,.load none (.t 12)⟩,⟨some 14,none,.bin .neq false (.t 11) (.t 13)⟩] [2,3,14]) (.cond (.t 14) (.seq (.reg [⟨some 4,none,.mov (.c (.bool false))⟩] [4]) .ret) .skip)) (.seq (.seq (.reg [⟨some 15,none,.faddr 2 (.t 2)⟩,⟨some 16,none,.load none (.t 15)⟩,⟨some 17,none,.faddr 2 (.t 3)⟩,⟨some 18,none,.load none (.t 17)⟩,⟨some 19,none,.call (.fn 36) [(.t 16),(.t 18)] []⟩,⟨some 20,none,.un .not (.t 19)⟩] [2,3,20]) (.cond (.t 20) (.seq (.reg [⟨some 4,none,.mov (.c (.bool false))⟩] [4]) .ret) .skip)) (.seq (.seq (.reg [⟨some 21,none,.faddr 3 (.t 2)⟩,⟨some 22,none,.load none (.t 21)⟩,⟨some 23,none,.faddr 3 (.t 3)⟩,⟨some 24,none,.load none (.t 23)⟩,⟨some 25,none,.call (.fn 37) [(.t 22),(.t 24)] []⟩,⟨some 26,none,.un .not (.t 25)⟩] [26]) (.cond (.t 26) (.seq (.reg [⟨some 4,none,.mov (.c (.bool false))⟩] [4]) .ret) .skip)) (.seq (.reg [⟨some 4,none,.mov (.c (.bool true))⟩] [4]) .ret))))))
def cp11 : CP := CP.mk [] [] [[2,3],[2,3,9],[4],[2,3,14],[4],[2,3,20],[4],[26],[4],[4]] 27 [] []
theorem s11 : ∀ vs r,g_laws_eqClip vs = some r → SaysM Try.prog .any 11 vs r := by
 intro vs r h
 unfold g_laws_eqClip at h
 split at h
 ·rename_i y0 y1 w2 w3 y4 y5 w6 w7
  cases hd_y2 : decL dc_en1 w2 with
  | none => rw [hd_y2] at h; cases h
  | some y2 =>
  rw [hd_y2] at h
  obtain rfl := decL_inv dc_en1_inv hd_y2
  clear hd_y2
  dsimp only at h
  cases hd_y3 : decL dc_en2 w3 with
  | none => rw [hd_y3] at h; cases h
  | some y3 =>
  rw [hd_y3] at h
  obtain rfl := decL_inv dc_en2_inv hd_y3
  clear hd_y3
  dsimp only at h
  cases hd_y6 : decL dc_en1 w6 with
  | none => rw [hd_y6] at h; cases h
  | some y6 =>
  rw [hd_y6] at h
  obtain rfl := decL_inv dc_en1_inv hd_y6
  clear hd_y6
  dsimp only at h
  cases hd_y7 : decL dc_en2 w7 with
  | none => rw [hd_y7] at h; cases h
  | some y7 =>
  rw [hd_y7] at h
  obtain rfl := decL_inv dc_en2_inv hd_y7
  clear hd_y7
  dsimp only at h
  split at h
  ·rename_i hp
   cases h
   refine spec_of (m := .any) (tab := tabOf [(36,wM .any g_laws_eqKeySS),(37,wM .any g_laws_eqRootKeyS)]) (cp := cp11) (ic := ic11) (rvl := [(.t 4)]) hm (tabOk_cons (m := .any) s36 (tabOk_cons (m := .any) s37 tabOk_nil)) Try.func11 rfl rfl rfl (by kernel_rfl) rfl (Nat.le_of_ble_eq_true rfl) (Nat.le_of_ble_eq_true rfl) ?_
   show eA _ _ _ _
   unfold ic11
   simp only [p_laws_eqClip,Bool.and_eq_true,Bool.or_eq_true,decide_eq_true_eq,Bool.not_eq_true',decide_eq_false_iff_not] at hp
   refine eS_to ?_
   repeat' (first
    | ((first | (have h := True.intro; refine eS_of ?_) | (refine eGI_of (fun h => ?_) (fun h => ?_)) | (refine eCc_of (fun h => ?_) (fun h => ?_))) <;> (try simp only [Bool.not_eq_true',Bool.not_eq_false'] at h) <;> (try first | exact nbA h (by assumption) | exact nbB h (by assumption)) <;> (try simp only [h,reduceCtorEq,grpN,Int.reduceEq,Int.reduceLT,Int.reduceLE,if_true,if_false,reduceIte] at hp) <;> (first | (have h2 := h; simp only [decide_eq_true_eq,decide_eq_false_iff_not] at h2; (first | (replace h2 := eq_false h2) | (replace h2 := eq_true h2)); (try simp only [h2,reduceCtorEq,grpN,Int.reduceEq,Int.reduceLT,Int.reduceLE,if_true,if_false,reduceIte] at hp); replace hp := And.intro h2 hp) | (replace hp := And.intro h hp) | skip) <;> simp only [h,
     hp,grpX,purgeH,Option.map,reduceIte,Nat.reduceEqDiff,Nat.reduceAdd,Nat.reduceMul,Nat.reduceLT,Nat.reduceLeDiff,implies_true,forall_const,eq_self,Int.reduceEq,Int.reduceLE,Int.reduceLT,if_true,if_false,grpK,Int.reduceAdd,Int.reduceSub,Int.reduceMul,Int.reduceNeg,Int.reducePow,Nat.reducePow,Int.reduceToNat,Nat.reduceSub,List.replicate,Nat.reduceBEq,grpE,beq_true,beq_false,g_laws_eqKeySS,g_laws_eqRootKeyS,grpC,grpY]))
   all_goals (try simp only [*,m_laws_eqClip,grpZ,if_true,if_false,reduceIte,decide_true,decide_false])
   all_goals (try (simp_all; done))
  ·cases h
 ·cases h
def l_laws_markKeyS_0 : Nat → (List (Int × Nat × Nat × Nat × Nat)) → Int → Int → Option (Int × (List (Int × Nat × Nat × Nat × Nat)))
 | 0,_,_,_ => none
 | n + 1,z0_0,z0_1,z0_2 => (if (decide (z0_2 < (((List.length z0_0) : Nat) : Int))) = true then (need (inB z0_2 (List.length z0_0)) (l_laws_markKeyS_0 n (List.set z0_0 (Int.toNat z0_2) (z0_1,(ofInt .f32 (IntKind.wrap .i64 (z0_1 + 1))),(ofInt .f32 (IntKind.wrap .i64 ((IntKind.wrap .i64 (z0_1 + 1)) + 1))),(ofInt .f32 (IntKind.wrap .i64 ((IntKind.wrap .i64 ((IntKind.wrap .i64 (z0_1 + 1)) + 1)) + 1))),(ofInt .f32 (IntKind.wrap .i64 ((IntKind.wrap .i64 ((IntKind.wrap .i64 ((IntKind.wrap .i64 (z0_1 + 1)) + 1)) + 1)) + 1))))) (IntKind.wrap .i64 ((IntKind.wrap .i64 ((IntKind.wrap .i64 ((IntKind.wrap .i64 ((IntKind.wrap .i64 (z0_1 + 1)) + 1)) + 1)) + 1)) + 1)) (IntKind.wrap .i64 (z0_2 + 1)))) else (some (z0_1,z0_0)))
def m_laws_markKeyS (x0 : (List (Int × Nat × Nat × Nat × Nat))) (x1 : Int) : (Int × (List (Int × Nat × Nat × Nat × Nat))) := (Option.getD (l_laws_markKeyS_0 (Int.toNat ((((List.length x0) : Nat) : Int) - 0) + 2) x0 x1 0) default)
def p_laws_markKeyS (x0 : (List (Int × Nat × Nat × Nat × Nat))) (x1 : Int) : Bool := ((Option.isSome (l_laws_markKeyS_0 (Int.toNat ((((List.length x0) : Nat) : Int) - 0) + 2) x0 x1 0)) && (decide (List.length (Option.getD (l_laws_markKeyS_0 (Int.toNat ((((List.length x0) : Nat) : Int) - 0) + 2) x0 x1 0) default).2 = List.length x0)))
def g_laws_markKeyS : List AV → Option (AV × Md)
 | [.sl w0,.int .i64 y1] => (match decL dc_en0 w0 with | some y0 => (if p_laws_markKeyS y0 y1 = true then some ((.int .i64 (m_laws_markKeyS y0 y1).1),.wr [5] [List.map en0 (m_laws_markKeyS y0 y1).2]) else none) | none => none)
 | _ => none
def lb61_0 : ICode := (.seq (.seq (.reg [⟨some 6,none,.mov (.t 5)⟩,⟨some 7,none,.mov (.t 0)⟩,⟨some 8,none,.len false (.t 7)⟩,⟨some 9,none,.bin .lss false (.t 6) (.t 8)⟩] [0,1,5,9]) (.cond (.t 9) .skip (.exit 0))) (.seq (.block 1 (.seq (.reg [⟨some 12,none,.mov (.t 0)⟩,⟨some 13,none,.mov (.t 5)⟩,⟨some 14,none,.mov (.t 1)⟩,⟨some 15,none,.iaddrS 5 (.t 12) (.t 13)⟩,⟨some 16,none,.faddr 0 (.t 15)⟩,⟨none,none,(.store 1 (.t 16) (.t 14))⟩] [0,1,5]) (.seq (.reg [⟨some 17,none,.mov (.t 1)⟩,⟨some 18,none,.bin .add false (.t 17) (.c (.int .i64 1))⟩,⟨some 1,none,.mov (.t 18)⟩] [0,1,5]) (.seq (.reg [⟨some 19,none,.mov (.t 0)⟩,⟨some 20,none,.mov (.t 5)⟩,⟨some 21,none,.mov (.t 1)⟩,⟨some 22,none,.conv (.flt .f32) (.t 21)⟩,⟨some 23,none,.iaddrS 5 (.t 19) (.t 20)⟩,⟨some 24,none,.faddr 1 (.t 23)⟩,⟨some 25,none,.faddr 0 (.t 24)⟩,⟨none,none,(.store 1 (.t 25) (.t 22))⟩] [0,1,5]) (.seq (.reg [⟨some 26,none,.mov (.t 1)⟩,⟨some 27,none,.bin .add false (.t 26) (.c (.int .i64 1))⟩,⟨some 1,none,.mov (.t 27)⟩] [0,1,5]) (.seq (.reg [⟨some 28,none,.mov (.t 0)⟩,⟨some 29,none,.mov (.t 5)⟩,⟨some 30,none,.mov (.t 1)⟩,⟨some 31,none,.conv (.flt .f32) (.t 30)⟩,⟨some 32,none,.iaddrS 5 (.t 28) (.t 29)⟩,⟨some 33,none,.faddr 1 (.t 32)⟩,⟨some 34,none,.faddr 1 (.t 33)⟩,⟨none,none,(.store 1 (.t 34) (.t 31))⟩] [0,1,5]) (.seq (.reg [⟨some 35,none,.mov (.t 1)⟩,⟨some 36,none,.bin .add false (.t 35) (.c (.int .i64 1))⟩,⟨some 1,none,.mov (.t 36)⟩] [0,1,5]) (.seq (.reg [⟨some 37,none,.mov (.t 0)⟩,⟨some 38,none,.mov (.t 5)⟩,⟨some 39,none,.mov (.t 1)⟩,⟨some 40,none,.conv (.flt .f32) (.t 39)⟩,⟨some 41,none,.iaddrS 5 (.t 37) (.t 38)⟩,⟨some 42,none,.faddr 1 (.t 41)⟩,⟨some 43,none,.faddr 2 (.t 42)⟩,⟨none,none,(.store 1 (.t 43) (.t 40))⟩] [0,1,5]) (.seq (.reg [⟨some 44,none,.mov (.t 1)⟩,⟨some 45,none,.bin .add false (.t 44) (.c (.int .i64 1))⟩,⟨some 1,none,.mov (.t 45)⟩] [0,1,5]) (.seq (.reg [⟨some 46,none,.mov (.t 0)⟩,⟨some 47,none,.mov (.t 5)⟩,⟨some 48,none,.mov (.t 1)⟩,⟨some 49,none,.conv (.flt .f32) (.t 48)⟩,⟨some 50,none,.iaddrS 5 (.t 46) (.t 47)⟩,⟨some 51,none,.faddr 1 (.t 50)⟩,⟨some 52,none,.faddr 3 (.t 51)⟩,⟨none,none,(.store 1 (.t 52) (.t 49))⟩]
   [0,1,5]) (.reg [⟨some 53,none,.mov (.t 1)⟩,⟨some 54,none,.bin .add false (.t 53) (.c (.int .i64 1))⟩,⟨some 1,none,.mov (.t 54)⟩] [0,1,5]))))))))))) (.reg [⟨some 10,none,.mov (.t 5)⟩,⟨some 11,none,.bin .add false (.t 10) (.c (.int .i64 1))⟩,⟨some 5,none,.mov (.t 11)⟩] [0,1,5])))
def ic61 : ICode := (.seq (.reg [⟨some 4,none,.mov (.c (.int .i64 0))⟩] [0,1]) (.seq (.seq (.reg [⟨some 5,none,.mov (.c (.int .i64 0))⟩] [0,1,5]) (.block 0 (.loop lb61_0))) (.seq (.reg [⟨some 55,none,.mov (.t 1)⟩,⟨some 4,none,.mov (.t 55)⟩] [0,4]) .ret)))
def cp61 : CP := CP.mk [] [] [[0,1],[0,1,5],[0,1,5,9],[0,1,5],[0,1,5],[0,1,5],[0,1,5],[0,1,5],[0,1,5],[0,1,5],[0,1,5],[0,1,5],[0,1,5],[0,1,5],[0,4]] 56 [] []
theorem sl61_0 : ∀ (n : Nat) (z0_0 : (List (Int × Nat × Nat × Nat × Nat))) (z0_1 : Int) (z0_2 : Int) (o : (Int × (List (Int × Nat × Nat × Nat × Nat)))) (K : IExit → St → Prop),l_laws_markKeyS_0 n z0_0 z0_1 z0_2 = some o → (∀ st,Wk st (⟨[(0,(.lsl 1000000 0 (List.length o.2))),(1,(.int .i64 o.1))],[(1000000,(some ⟨5,true,(List.map en0 o.2)⟩))]⟩ : St) → K (.exit 0) st) → eA (tabOf []) (.loop lb61_0) (⟨[(0,(.lsl 1000000 0 (List.length z0_0))),(1,(.int .i64 z0_1)),(5,(.int .i64 z0_2))],[(1000000,(some ⟨5,true,(List.map en0 z0_0)⟩))]⟩ : St) K := by
 intro n
 induction n with
 | zero =>
  intro z0_0 z0_1 z0_2 o K h h0
  simp only [l_laws_markKeyS_0,reduceCtorEq] at h
 | succ n ih =>
  intro z0_0 z0_1 z0_2 o K h h0
  refine eA_loop ?_
  unfold lb61_0
  unfold l_laws_markKeyS_0 at h
  (try simp only [need_iff] at h)
  simp only [
   need_iff,h,grpX,purgeH,Option.map,reduceIte,Nat.reduceEqDiff,Nat.reduceAdd,Nat.reduceMul,Nat.reduceLT,Nat.reduceLeDiff,implies_true,forall_const,eq_self,Int.reduceEq,Int.reduceLE,Int.reduceLT,if_true,if_false,grpK,Int.reduceAdd,Int.reduceSub,Int.reduceMul,Int.reduceNeg,Int.reducePow,Nat.reducePow,Int.reduceToNat,Nat.reduceSub,List.replicate,Nat.reduceBEq,grpE,beq_true,beq_false,grpC,grpY]
  repeat' (first
   | ((first | (refine eGI_of (fun hc => ?_) (fun hc => ?_)) | (refine eCc_of (fun hc => ?_) (fun hc => ?_)) | (have hc := True.intro; refine KW_refl ?_)) <;> (try simp only [Bool.not_eq_true',Bool.not_eq_false'] at hc) <;> (try simp only [hc,need_iff,reduceCtorEq,grpN,Int.reduceEq,Int.reduceLT,Int.reduceLE,if_true,if_false,reduceIte] at h) <;> (first | (have hc2 := hc; simp only [decide_eq_true_eq,decide_eq_false_iff_not] at hc2; (first | (replace hc2 := eq_false hc2) | (replace hc2 := eq_true hc2)); (try simp only [hc2,need_iff,reduceCtorEq,grpN,Int.reduceEq,Int.reduceLT,Int.reduceLE,if_true,if_false,reduceIte] at h); replace h := And.intro hc2 h) | (replace h := And.intro hc h) | skip) <;> simp only [hc,
   need_iff,h,grpX,purgeH,Option.map,reduceIte,Nat.reduceEqDiff,Nat.reduceAdd,Nat.reduceMul,Nat.reduceLT,Nat.reduceLeDiff,implies_true,forall_const,eq_self,Int.reduceEq,Int.reduceLE,Int.reduceLT,if_true,if_false,grpK,Int.reduceAdd,Int.reduceSub,Int.reduceMul,Int.reduceNeg,Int.reducePow,Nat.reducePow,Int.reduceToNat,Nat.reduceSub,List.replicate,Nat.reduceBEq,grpE,beq_true,beq_false,grpC,grpY]))
  all_goals (have hf := h)
  all_goals (repeat (replace h := And.right h))
  all_goals ((first | (refine eA_wk (wk_norm (ks := [0,1,5]) (ls := [1000000]) ?_) (eA_cast ?_ (ih _ _ _ _ _ h h0))) | (cases h; have h := True.intro; refine h0 _ (Wk.cast (wk_norm (ks := [0,1]) (ls := [1000000]) ?_) ?_))) <;> simp only [normOk,optIn,blkIn,nameIn,normS,List.map_append,List.length_append,List.map_set,List.length_set,List.map_replicate,List.length_replicate,List.map_nil,List.map_cons,
   need_iff,h,hf,grpX,purgeH,Option.map,reduceIte,Nat.reduceEqDiff,Nat.reduceAdd,Nat.reduceMul,Nat.reduceLT,Nat.reduceLeDiff,implies_true,forall_const,eq_self,Int.reduceEq,Int.reduceLE,Int.reduceLT,if_true,if_false,grpK,Int.reduceAdd,Int.reduceSub,Int.reduceMul,Int.reduceNeg,Int.reducePow,Nat.reducePow,Int.reduceToNat,Nat.reduceSub,List.replicate,Nat.reduceBEq,grpE,beq_true,beq_false,grpC,grpY] <;> first | rfl | (simp only [Nat.add_comm]; done))
theorem s61 : ∀ vs r m,g_laws_markKeyS vs = some (r,m) → SaysX Try.prog m 61 vs r := by
 intro vs r m h
 unfold g_laws_markKeyS at h
 split at h
 ·rename_i w0 y1
  cases hd_y0 : decL dc_en0 w0 with
  | none => rw [hd_y0] at h; cases h
  | some y0 =>
  rw [hd_y0] at h
  obtain rfl := decL_inv dc_en0_inv hd_y0
  clear hd_y0
  dsimp only at h
  split at h
  ·rename_i hp
   cases h
   have hz : zipW [(1000000,⟨5,true,List.map en0 y0⟩)] [List.map en0 (m_laws_markKeyS y0 y1).2] = some [(1000000,⟨5,true,List.map en0 (m_laws_markKeyS y0 y1).2⟩)] := by simp only [zipW,List.map_cons,List.map_nil,List.length_map,m_laws_markKeyS,p_laws_markKeyS,Bool.and_eq_true,decide_eq_true_eq] at hp ⊢; simp only [hp,if_true]
   refine spec_ofW (tab := tabOf []) (cp := cp61) (ic := ic61) (rvl := [(.t 4)]) (H := [(1000000,⟨5,true,List.map en0 y0⟩)]) (H' := [(1000000,⟨5,true,List.map en0 (m_laws_markKeyS y0 y1).2⟩)]) hm tabOk_nil Try.func61 rfl rfl rfl (by kernel_rfl) rfl (Nat.le_of_ble_eq_true rfl) (Nat.le_of_ble_eq_true rfl) (by rfl) hz (by repeat (first | exact highN_nil | refine highN_cons rfl rfl ?_)) (by rfl) (by rfl) ?_
   show eA _ _ _ _
   unfold ic61
   simp only [p_laws_markKeyS,Bool.and_eq_true,Bool.or_eq_true,decide_eq_true_eq,Bool.not_eq_true',decide_eq_false_iff_not] at hp
   refine eS_to ?_
   repeat' (first
    | ((first | (have h := True.intro; refine eS_of ?_) | (refine eGI_of (fun h => ?_) (fun h => ?_)) | (refine eCc_of (fun h => ?_) (fun h => ?_)) | (have h := True.intro; refine KW_refl ?_)) <;> (try simp only [Bool.not_eq_true',Bool.not_eq_false'] at h) <;> (try first | exact nbA h (by assumption) | exact nbB h (by assumption)) <;> (try simp only [h,reduceCtorEq,grpN,Int.reduceEq,Int.reduceLT,Int.reduceLE,if_true,if_false,reduceIte] at hp) <;> (first | (have h2 := h; simp only [decide_eq_true_eq,decide_eq_false_iff_not] at h2; (first | (replace h2 := eq_false h2) | (replace h2 := eq_true h2)); (try simp only [h2,reduceCtorEq,grpN,Int.reduceEq,Int.reduceLT,Int.reduceLE,if_true,if_false,reduceIte] at hp); replace hp := And.intro h2 hp) | (replace hp := And.intro h hp) | skip) <;> simp only [h,
     hp,grpX,purgeH,Option.map,reduceIte,Nat.reduceEqDiff,Nat.reduceAdd,Nat.reduceMul,Nat.reduceLT,Nat.reduceLeDiff,implies_true,forall_const,eq_self,Int.reduceEq,Int.reduceLE,Int.reduceLT,if_true,if_false,grpK,Int.reduceAdd,Int.reduceSub,Int.reduceMul,Int.reduceNeg,Int.reducePow,Nat.reducePow,Int.reduceToNat,Nat.reduceSub,List.replicate,Nat.reduceBEq,grpE,beq_true,beq_false,grpC,grpY,startW,hpIs])
    | (refine eA_wk (wk_norm (ks := [0,1,5]) (ls := [1000000]) ?_) (eA_cast ?_ (sl61_0 _ _ _ _ _ _ (getD_some (d := default) (x := (l_laws_markKeyS_0 (Int.toNat ((((List.length y0) : Nat) : Int) - 0) + 2) y0 y1 0)) ?_) ?_)); (iterate 2 (simp only [nilS,nilV,nilB,normOk,optIn,blkIn,nameIn,normS,List.map_append,List.length_append,List.map_set,List.length_set,List.map_replicate,List.length_replicate,List.map_nil,List.map_cons,
     hp,grpX,purgeH,Option.map,reduceIte,Nat.reduceEqDiff,Nat.reduceAdd,Nat.reduceMul,Nat.reduceLT,Nat.reduceLeDiff,implies_true,forall_const,eq_self,Int.reduceEq,Int.reduceLE,Int.reduceLT,if_true,if_false,grpK,Int.reduceAdd,Int.reduceSub,Int.reduceMul,Int.reduceNeg,Int.reducePow,Nat.reducePow,Int.reduceToNat,Nat.reduceSub,List.replicate,Nat.reduceBEq,grpE,beq_true,beq_false,grpC,grpY,startW,hpIs] <;> first | rfl | (simp only [Nat.add_comm]; done))); (simp only [hp]); (
    intro st2 hw; (try simp only [reduceCtorEq,grpN,Int.reduceEq,Int.reduceLT,Int.reduceLE,if_true,if_false,reduceIte] at hp); (try replace hp := And.intro ht hp); simp only [
Kq_exit,Kq_normal,Kq_ret,Kb_exit,Kb_normal,Kb_ret,Kl_exit,Kl_normal,Kl_ret,reduceIte,Nat.reduceEqDiff,if_true,if_false,eq_self]; refine KW_of hw ?_; simp only [
     hp,grpX,purgeH,Option.map,reduceIte,Nat.reduceEqDiff,Nat.reduceAdd,Nat.reduceMul,Nat.reduceLT,Nat.reduceLeDiff,implies_true,forall_const,eq_self,Int.reduceEq,Int.reduceLE,Int.reduceLT,if_true,if_false,grpK,Int.reduceAdd,Int.reduceSub,Int.reduceMul,Int.reduceNeg,Int.reducePow,Nat.reducePow,Int.reduceToNat,Nat.reduceSub,List.replicate,Nat.reduceBEq,grpE,beq_true,beq_false,grpC,grpY,startW,hpIs])))
   all_goals (try simp only [*,m_laws_markKeyS,grpZ,if_true,if_false,reduceIte,decide_true,decide_false])
   all_goals (try (simp_all; done))
  ·cases h
 ·cases h
def l_laws_markRootKeyS_0 : Nat → (List (Int × Nat × Nat × Nat)) → Int → Int → Option (Int × (List (Int × Nat × Nat × Nat)))
 | 0,_,_,_ => none
 | n + 1,z0_0,z0_1,z0_2 => (if (decide (z0_2 < (((List.length z0_0) : Nat) : Int))) = true then (need (inB z0_2 (List.length z0_0)) (l_laws_markRootKeyS_0 n (List.set z0_0 (Int.toNat z0_2) (z0_1,(ofInt .f32 (IntKind.wrap .i64 (z0_1 + 1))),(ofInt .f32 (IntKind.wrap .i64 ((IntKind.wrap .i64 (z0_1 + 1)) + 1))),(ofInt .f32 (IntKind.wrap .i64 ((IntKind.wrap .i64 ((IntKind.wrap .i64 (z0_1 + 1)) + 1)) + 1))))) (IntKind.wrap .i64 ((IntKind.wrap .i64 ((IntKind.wrap .i64 ((IntKind.wrap .i64 (z0_1 + 1)) + 1)) + 1)) + 1)) (IntKind.wrap .i64 (z0_2 + 1)))) else (some (z0_1,z0_0)))
def m_laws_markRootKeyS (x0 : (List (Int × Nat × Nat × Nat))) (x1 : Int) : (Int × (List (Int × Nat × Nat × Nat))) := (Option.getD (l_laws_markRootKeyS_0 (Int.toNat ((((List.length x0) : Nat) : Int) - 0) + 2) x0 x1 0) default)
def p_laws_markRootKeyS (x0 : (List (Int × Nat × Nat × Nat))) (x1 : Int) : Bool := ((Option.isSome (l_laws_markRootKeyS_0 (Int.toNat ((((List.length x0) : Nat) : Int) - 0) + 2) x0 x1 0)) && (decide (List.length (Option.getD (l_laws_markRootKeyS_0 (Int.toNat ((((List.length x0) : Nat) : Int) - 0) + 2) x0 x1 0) default).2 = List.length x0)))
def g_laws_markRootKeyS : List AV → Option (AV × Md)
 | [.sl w0,.int .i64 y1] => (match decL dc_en2 w0 with | some y0 => (if p_laws_markRootKeyS y0 y1 = true then some ((.int .i64 (m_laws_markRootKeyS y0 y1).1),.wr [4] [List.map en2 (m_laws_markRootKeyS y0 y1).2]) else none) | none => none)
 | _ => none
def lb39_0 : ICode := (.seq (.seq (.reg [⟨some 6,none,.mov (.t 5)⟩,⟨some 7,none,.mov (.t 0)⟩,⟨some 8,none,.len false (.t 7)⟩,⟨some 9,none,.bin .lss false (.t 6) (.t 8)⟩] [0,1,5,9]) (.cond (.t 9) .skip (.exit 0))) (.seq (.block 1 (.seq (.reg [⟨some 12,none,.mov (.t 0)⟩,⟨some 13,none,.mov (.t 5)⟩,⟨some 14,none,.mov (.t 1)⟩,⟨some 15,none,.iaddrS 4 (.t 12) (.t 13)⟩,⟨some 16,none,.faddr 0 (.t 15)⟩,⟨none,none,(.store 1 (.t 16) (.t 14))⟩] [0,1,5]) (.seq (.reg [⟨some 17,none,.mov (.t 1)⟩,⟨some 18,none,.bin .add false (.t 17) (.c (.int .i64 1))⟩,⟨some 1,none,.mov (.t 18)⟩] [0,1,5]) (.seq (.reg [⟨some 19,none,.mov (.t 0)⟩,⟨some 20,none,.mov (.t 5)⟩,⟨some 21,none,.mov (.t 1)⟩,⟨some 22,none,.conv (.flt .f32) (.t 21)⟩,⟨some 23,none,.iaddrS 4 (.t 19) (.t 20)⟩,⟨some 24,none,.faddr 1 (.t 23)⟩,⟨some 25,none,.faddr 0 (.t 24)⟩,⟨none,none,(.store 1 (.t 25) (.t 22))⟩] [0,1,5]) (.seq (.reg [⟨some 26,none,.mov (.t 1)⟩,⟨some 27,none,.bin .add false (.t 26) (.c (.int .i64 1))⟩,⟨some 1,none,.mov (.t 27)⟩] [0,1,5]) (.seq (.reg [⟨some 28,none,.mov (.t 0)⟩,⟨some 29,none,.mov (.t 5)⟩,⟨some 30,none,.mov (.t 1)⟩,⟨some 31,none,.conv (.flt .f32) (.t 30)⟩,⟨some 32,none,.iaddrS 4 (.t 28) (.t 29)⟩,⟨some 33,none,.faddr 1 (.t 32)⟩,⟨some 34,none,.faddr 1 (.t 33)⟩,⟨none,none,(.store 1 (.t 34) (.t 31))⟩] [0,1,5]) (.seq (.reg [⟨some 35,none,.mov (.t 1)⟩,⟨some 36,none,.bin .add false (.t 35) (.c (.int .i64 1))⟩,⟨some 1,none,.mov (.t 36)⟩] [0,1,5]) (.seq (.reg [⟨some 37,none,.mov (.t 0)⟩,⟨some 38,none,.mov (.t 5)⟩,⟨some 39,none,.mov (.t 1)⟩,⟨some 40,none,.conv (.flt .f32) (.t 39)⟩,⟨some 41,none,.iaddrS 4 (.t 37) (.t 38)⟩,⟨some 42,none,.faddr 1 (.t 41)⟩,⟨some 43,none,.faddr 2 (.t 42)⟩,⟨none,none,(.store 1 (.t 43) (.t 40))⟩] [0,1,5]) (.reg [⟨some 44,none,.mov (.t 1)⟩,⟨some 45,none,.bin .add false (.t 44) (.c (.int .i64 1))⟩,⟨some 1,none,.mov (.t 45)⟩] [0,1,5]))))))))) (.reg [⟨some 10,none,.mov (.t 5)⟩,⟨some 11,none,.bin .add false (.t 10) (.c (.int .i64 1))⟩,⟨some 5,none,.mov (.t 11)⟩] [0,1,5])))
def ic39 : ICode := (.seq (.reg [⟨some 4,none,.mov (.c (.int .i64 0))⟩] [0,1]) (.seq (.seq (.reg [⟨some 5,none,.mov (.c (.int .i64 0))⟩] [0,1,5]) (.block 0 (.loop lb39_0))) (.seq (.reg [⟨some 46,none,.mov (.t 1)⟩,⟨some 4,none,.mov (.t 46)⟩] [0,4]) .ret)))
def cp39 : CP := CP.mk [] [] [[0,1],[0,1,5],[0,1,5,9],[0,1,5],[0,1,5],[0,1,5],[0,1,5],[0,1,5],[0,1,5],[0,1,5],[0,1,5],[0,1,5],[0,4]] 47 [] []
theorem sl39_0 : ∀ (n : Nat) (z0_0 : (List (Int × Nat × Nat × Nat))) (z0_1 : Int) (z0_2 : Int) (o : (Int × (List (Int × Nat × Nat × Nat)))) (K : IExit → St → Prop),l_laws_markRootKeyS_0 n z0_0 z0_1 z0_2 = some o → (∀ st,Wk st (⟨[(0,(.lsl 1000000 0 (List.length o.2))),(1,(.int .i64 o.1))],[(1000000,(some ⟨4,true,(List.map en2 o.2)⟩))]⟩ : St) → K (.exit 0) st) → eA (tabOf []) (.loop lb39_0) (⟨[(0,(.lsl 1000000 0 (List.length z0_0))),(1,(.int .i64 z0_1)),(5,(.int .i64 z0_2))],[(1000000,(some ⟨4,true,(List.map en2 z0_0)⟩))]⟩ : St) K := by
 intro n
 induction n with
 | zero =>
  intro z0_0 z0_1 z0_2 o K h h0
  simp only [l_laws_markRootKeyS_0,reduceCtorEq] at h
 | succ n ih =>
  intro z0_0 z0_1 z0_2 o K h h0
  refine eA_loop ?_
  unfold lb39_0
  unfold l_laws_markRootKeyS_0 at h
  (try simp only [need_iff] at h)
  simp only [
   need_iff,h,grpX,purgeH,Option.map,reduceIte,Nat.reduceEqDiff,Nat.reduceAdd,Nat.reduceMul,Nat.reduceLT,Nat.reduceLeDiff,implies_true,forall_const,eq_self,Int.reduceEq,Int.reduceLE,Int.reduceLT,if_true,if_false,grpK,Int.reduceAdd,Int.reduceSub,Int.reduceMul,Int.reduceNeg,Int.reducePow,Nat.reducePow,Int.reduceToNat,Nat.reduceSub,List.replicate,Nat.reduceBEq,grpE,beq_true,beq_false,grpC,grpY]
  repeat' (first
   | ((first | (refine eGI_of (fun hc => ?_) (fun hc => ?_)) | (refine eCc_of (fun hc => ?_) (fun hc => ?_)) | (have hc := True.intro; refine KW_refl ?_)) <;> (try simp only [Bool.not_eq_true',Bool.not_eq_false'] at hc) <;> (try simp only [hc,need_iff,reduceCtorEq,grpN,Int.reduceEq,Int.reduceLT,Int.reduceLE,if_true,if_false,reduceIte] at h) <;> (first | (have hc2 := hc; simp only [decide_eq_true_eq,decide_eq_false_iff_not] at hc2; (first | (replace hc2 := eq_false hc2) | (replace hc2 := eq_true hc2)); (try simp only [hc2,need_iff,reduceCtorEq,grpN,Int.reduceEq,Int.reduceLT,Int.reduceLE,if_true,if_false,reduceIte] at h); replace h := And.intro hc2 h) | (replace h := And.intro hc h) | skip) <;> simp only [hc,
   need_iff,h,grpX,purgeH,Option.map,reduceIte,Nat.reduceEqDiff,Nat.reduceAdd,Nat.reduceMul,Nat.reduceLT,Nat.reduceLeDiff,implies_true,forall_const,eq_self,Int.reduceEq,Int.reduceLE,Int.reduceLT,if_true,if_false,grpK,Int.reduceAdd,Int.reduceSub,Int.reduceMul,Int.reduceNeg,Int.reducePow,Nat.reducePow,Int.reduceToNat,Nat.reduceSub,List.replicate,Nat.reduceBEq,grpE,beq_true,beq_false,grpC,grpY]))
  all_goals (have hf := h)
  all_goals (repeat (replace h := And.right h))
  all_goals ((first | (refine eA_wk (wk_norm (ks := [0,1,5]) (ls := [1000000]) ?_) (eA_cast ?_ (ih _ _ _ _ _ h h0))) | (cases h; have h := True.intro; refine h0 _ (Wk.cast (wk_norm (ks := [0,1]) (ls := [1000000]) ?_) ?_))) <;> simp only [normOk,optIn,blkIn,nameIn,normS,List.map_append,List.length_append,List.map_set,List.length_set,List.map_replicate,List.length_replicate,List.map_nil,List.map_cons,
   need_iff,h,hf,grpX,purgeH,Option.map,reduceIte,Nat.reduceEqDiff,Nat.reduceAdd,Nat.reduceMul,Nat.reduceLT,Nat.reduceLeDiff,implies_true,forall_const,eq_self,Int.reduceEq,Int.reduceLE,Int.reduceLT,if_true,if_false,grpK,Int.reduceAdd,Int.reduceSub,Int.reduceMul,Int.reduceNeg,Int.reducePow,Nat.reducePow,Int.reduceToNat,Nat.reduceSub,List.replicate,Nat.reduceBEq,grpE,beq_true,beq_false,grpC,grpY] <;> first | rfl | (simp only [Nat.add_comm]; done))
theorem s39 : ∀ vs r m,g_laws_markRootKeyS vs = some (r,m) → SaysX Try.prog m 39 vs r := by
 intro vs r m h
 unfold g_laws_markRootKeyS at h
 split at h
 ·rename_i w0 y1
  cases hd_y0 : decL dc_en2 w0 with
  | none => rw [hd_y0] at h; cases h
  | some y0 =>
  rw [hd_y0] at h
  obtain rfl := decL_inv dc_en2_inv hd_y0
  clear hd_y0
  dsimp only at h
  split at h
  ·rename_i hp
   cases h
   have hz : zipW [(1000000,⟨4,true,List.map en2 y0⟩)] [List.map en2 (m_laws_markRootKeyS y0 y1).2] = some [(1000000,⟨4,true,List.map en2 (m_laws_markRootKeyS y0 y1).2⟩)] := by simp only [zipW,List.map_cons,List.map_nil,List.length_map,m_laws_markRootKeyS,p_laws_markRootKeyS,Bool.and_eq_true,decide_eq_true_eq] at hp ⊢; simp only [hp,if_true]
   refine spec_ofW (tab := tabOf []) (cp := cp39) (ic := ic39) (rvl := [(.t 4)]) (H := [(1000000,⟨4,true,List.map en2 y0⟩)]) (H' := [(1000000,⟨4,true,List.map en2 (m_laws_markRootKeyS y0 y1).2⟩)]) hm tabOk_nil Try.func39 rfl rfl rfl (by kernel_rfl) rfl (Nat.le_of_ble_eq_true rfl) (Nat.le_of_ble_eq_true rfl) (by rfl) hz (by repeat (first | exact highN_nil | refine highN_cons rfl rfl ?_)) (by rfl) (by rfl) ?_
   show eA _ _ _ _
   unfold ic39
   simp only [p_laws_markRootKeyS,Bool.and_eq_true,Bool.or_eq_true,decide_eq_true_eq,Bool.not_eq_true',decide_eq_false_iff_not] at hp
   refine eS_to ?_
   repeat' (first
    | ((first | (have h := True.intro; refine eS_of ?_) | (refine eGI_of (fun h => ?_) (fun h => ?_)) | (refine eCc_of (fun h => ?_) (fun h => ?_)) | (have h := True.intro; refine KW_refl ?_)) <;> (try simp only [Bool.not_eq_true',Bool.not_eq_false'] at h) <;> (try first | exact nbA h (by assumption) | exact nbB h (by assumption)) <;> (try simp only [h,reduceCtorEq,grpN,Int.reduceEq,Int.reduceLT,Int.reduceLE,if_true,if_false,reduceIte] at hp) <;> (first | (have h2 := h; simp only [decide_eq_true_eq,decide_eq_false_iff_not] at h2; (first | (replace h2 := eq_false h2) | (replace h2 := eq_true h2)); (try simp only [h2,reduceCtorEq,grpN,Int.reduceEq,Int.reduceLT,Int.reduceLE,if_true,if_false,reduceIte] at hp); replace hp := And.intro h2 hp) | (replace hp := And.intro h hp) | skip) <;> simp only [h,
     hp,grpX,purgeH,Option.map,reduceIte,Nat.reduceEqDiff,Nat.reduceAdd,Nat.reduceMul,Nat.reduceLT,Nat.reduceLeDiff,implies_true,forall_const,eq_self,Int.reduceEq,Int.reduceLE,Int.reduceLT,if_true,if_false,grpK,Int.reduceAdd,Int.reduceSub,Int.reduceMul,Int.reduceNeg,Int.reducePow,Nat.reducePow,Int.reduceToNat,Nat.reduceSub,List.replicate,Nat.reduceBEq,grpE,beq_true,beq_false,grpC,grpY,startW,hpIs])
    | (refine eA_wk (wk_norm (ks := [0,1,5]) (ls := [1000000]) ?_) (eA_cast ?_ (sl39_0 _ _ _ _ _ _ (getD_some (d := default) (x := (l_laws_markRootKeyS_0 (Int.toNat ((((List.length y0) : Nat) : Int) - 0) + 2) y0 y1 0)) ?_) ?_)); (iterate 2 (simp only [nilS,nilV,nilB,normOk,optIn,blkIn,nameIn,normS,List.map_append,List.length_append,List.map_set,List.length_set,List.map_replicate,List.length_replicate,List.map_nil,List.map_cons,
     hp,grpX,purgeH,Option.map,reduceIte,Nat.reduceEqDiff,Nat.reduceAdd,Nat.reduceMul,Nat.reduceLT,Nat.reduceLeDiff,implies_true,forall_const,eq_self,Int.reduceEq,Int.reduceLE,Int.reduceLT,if_true,if_false,grpK,Int.reduceAdd,Int.reduceSub,Int.reduceMul,Int.reduceNeg,Int.reducePow,Nat.reducePow,Int.reduceToNat,Nat.reduceSub,List.replicate,Nat.reduceBEq,grpE,beq_true,beq_false,grpC,grpY,startW,hpIs] <;> first | rfl | (simp only [Nat.add_comm]; done))); (simp only [hp]); (
    intro st2 hw; (try simp only [reduceCtorEq,grpN,Int.reduceEq,Int.reduceLT,Int.reduceLE,if_true,if_false,reduceIte] at hp); (try replace hp := And.intro ht hp); simp only [
Kq_exit,Kq_normal,Kq_ret,Kb_exit,Kb_normal,Kb_ret,Kl_exit,Kl_normal,Kl_ret,reduceIte,Nat.reduceEqDiff,if_true,if_false,eq_self]; refine KW_of hw ?_; simp only [
     hp,grpX,purgeH,Option.map,reduceIte,Nat.reduceEqDiff,Nat.reduceAdd,Nat.reduceMul,Nat.reduceLT,Nat.reduceLeDiff,implies_true,forall_const,eq_self,Int.reduceEq,Int.reduceLE,Int.reduceLT,if_true,if_false,grpK,Int.reduceAdd,Int.reduceSub,Int.reduceMul,Int.reduceNeg,Int.reducePow,Nat.reducePow,Int.reduceToNat,Nat.reduceSub,List.replicate,Nat.reduceBEq,grpE,beq_true,beq_false,grpC,grpY,startW,hpIs])))
   all_goals (try simp only [*,m_laws_markRootKeyS,grpZ,if_true,if_false,reduceIte,decide_true,decide_false])
   all_goals (try (simp_all; done))
  ·cases h
 ·cases h
def m_laws_markKeySS (x0 : (List (List (Int × Nat × Nat × Nat × Nat)))) (x1 : Int) : (Int × (List (List (Int × Nat × Nat × Nat × Nat)))) := mkSS m_laws_markKeyS x0 x1
def p_laws_markKeySS (x0 : (List (List (Int × Nat × Nat × Nat × Nat)))) (x1 : Int) : Bool := ((decide (List.length x0 ≤ 70368744177664)) && (pSS m_laws_markKeyS (fun x k => (p_laws_markKeyS x k && (decide (List.length (m_laws_markKeyS x k).2 = List.length x)))) x0 x1))
noncomputable def g_laws_markKeySS : List AV → Option (AV × Md) := gH (fun q : ((List (List (Int × Nat × Nat × Nat × Nat))) × Int) => [.lsl 1000003 0 (List.length q.1),.int .i64 q.2,hEnc (clB 1000003 1000019 5 (List.map (List.map en0) q.1))]) (fun q => p_laws_markKeySS q.1 q.2) (fun q => (.int .i64 (m_laws_markKeySS q.1 q.2).1,.wrH (clB 1000003 1000019 5 (List.map (List.map en0) (m_laws_markKeySS q.1 q.2).2))))
theorem ge_laws_markKeySS {x0 : (List (List (Int × Nat × Nat × Nat × Nat)))} {x1 : Int} (hp : p_laws_markKeySS x0 x1 = true) : g_laws_markKeySS [.lsl 1000003 0 (List.length x0),.int .i64 x1,hEnc (clB 1000003 1000019 5 (List.map (List.map en0) x0))] = some (.int .i64 (m_laws_markKeySS x0 x1).1,.wrH (clB 1000003 1000019 5 (List.map (List.map en0) (m_laws_markKeySS x0 x1).2))) := by
 unfold g_laws_markKeySS
 refine gH_eq (q := (x0,x1)) (fun q q' h => ?_) hp
 simp only [List.cons.injEq,AV.int.injEq,AV.lsl.injEq,and_true,true_and] at h
 exact Prod.ext (enc2_inj dc_en0_map (hEnc_clB_inj h.2.2)) h.2.1
def cp38 : CP := CP.mk [] [61] [[0,1],[0,1,5],[0,1,5,9],[0,1,5],[0,1,5],[4]] 19 [] []
theorem s38 : ∀ vs r m,g_laws_markKeySS vs = some (r,m) → SaysX Try.prog m 38 vs r := by
 intro vs r m h
 obtain ⟨⟨x0,x1⟩,rfl,hp,hz⟩ := gH_some h
 cases hz
 simp only [p_laws_markKeySS,Bool.and_eq_true,decide_eq_true_eq] at hp
 obtain ⟨hn,hp⟩ := hp
 have key := markSS (tab := tabOf [(61,g_laws_markKeyS)]) (f := 61) (es := 5) (xss := List.map (List.map en0) x0) (yss := List.map (List.map en0) (m_laws_markKeySS x0 x1).2) (ks := ksSS m_laws_markKeyS x0 x1) (by simp [m_laws_markKeySS,mkSS_len]) (by simp only [List.length_map]; omega) (all_fl dc_en0_fl _) (fun i x y hx hy => by
  simp only [List.getElem?_map,Option.map_eq_some_iff] at hx hy
  obtain ⟨a,ha,rfl⟩ := hx
  obtain ⟨b,hb,rfl⟩ := hy
  obtain ⟨h1,h2,h3⟩ := mkSS_get m_laws_markKeyS (fun x k => (p_laws_markKeyS x k && (decide (List.length (m_laws_markKeyS x k).2 = List.length x)))) x0 x1 i a ha
  have h3 := h3 hp
  simp only [Bool.and_eq_true,decide_eq_true_eq] at h3
  have hb' : some (m_laws_markKeyS a (ksSS m_laws_markKeyS x0 x1 i)).2 = some b := h1.symm.trans hb
  cases hb'
  refine ⟨by simp only [List.length_map]; exact h3.2,?_⟩
  rw [h2]
  simp only [tabOf_cons,if_pos,g_laws_markKeyS,dc_en0_map,h3.1])
 rw [ksSS_zero,List.length_map,← mkSS_fst] at key
 have hlen : List.map List.length (List.map (List.map en0) x0) = List.map List.length (List.map (List.map en0) (m_laws_markKeySS x0 x1).2) := by
  refine List.ext_getElem? fun i => ?_
  simp only [List.getElem?_map]
  cases ha : x0[i]? with
  | none =>
   rw [List.getElem?_eq_none_iff] at ha
   rw [List.getElem?_eq_none (by simp only [m_laws_markKeySS,mkSS_len]; exact ha)]
  | some a =>
   obtain ⟨h1,h2,h3⟩ := mkSS_get m_laws_markKeyS (fun x k => (p_laws_markKeyS x k && (decide (List.length (m_laws_markKeyS x k).2 = List.length x)))) x0 x1 i a ha
   have h3 := h3 hp
   simp only [Bool.and_eq_true,decide_eq_true_eq] at h3
   have h1 : (m_laws_markKeySS x0 x1).2[i]? = some (m_laws_markKeyS a (ksSS m_laws_markKeyS x0 x1 i)).2 := h1
   rw [h1]
   simp only [Option.map,List.length_map]
   rw [h3.2]
 have hno : ∀ f vs r m,tabOf [(61,g_laws_markKeyS)] f vs = some (r,m) → m.isOwnH = false := by
  intro f vs r m h
  simp only [tabOf] at h
  (repeat' split at h) <;> (try simp only [g_laws_markKeyS] at h) <;> (repeat' split at h) <;> cases h <;> rfl
 exact spec_ofN (vs := [.lsl 1000003 0 (List.length x0),.int .i64 x1]) (cp := cp38) (ic := icMk 61) (rvl := [(.t 4)]) hm (tabOk_consW s61 tabOk_nil) hno Try.func38 rfl rfl rfl (by kernel_rfl) rfl (Nat.le_of_ble_eq_true rfl) (Nat.le_of_ble_eq_true rfl) cl_cls (nest_cl hlen (all_fl dc_en0_fl _)) (fun l b hb => cl_clos (all_fl dc_en0_fl _) hb) rfl key
def m_laws_markClip (x0 : (Int × Int × (List (List (Int × Nat × Nat × Nat × Nat))) × (List (Int × Nat × Nat × Nat)))) (x1 : Int) : (Int × (List (List (Int × Nat × Nat × Nat × Nat))) × (List (Int × Nat × Nat × Nat))) := ((m_laws_markRootKeyS x0.2.2.2 (m_laws_markKeySS x0.2.2.1 x1).1).1,(m_laws_markKeySS x0.2.2.1 x1).2,(m_laws_markRootKeyS x0.2.2.2 (m_laws_markKeySS x0.2.2.1 x1).1).2)
def p_laws_markClip (x0 : (Int × Int × (List (List (Int × Nat × Nat × Nat × Nat))) × (List (Int × Nat × Nat × Nat)))) (x1 : Int) : Bool := (p_laws_markKeySS x0.2.2.1 x1 && (p_laws_markRootKeyS x0.2.2.2 (m_laws_markKeySS x0.2.2.1 x1).1 && (decide (List.length (m_laws_markRootKeyS x0.2.2.2 (m_laws_markKeySS x0.2.2.1 x1).1).2 = List.length x0.2.2.2))))
noncomputable def g_laws_markClip : List AV → Option (AV × Md) := gH (fun q : ((Int × Int × (List (List (Int × Nat × Nat × Nat × Nat))) × (List (Int × Nat × Nat × Nat))) × Int) => [.agg [.int .i64 q.1.1,.int .i64 q.1.2.1,.lsl 1000003 0 (List.length q.1.2.2.1),.lsl 1000011 0 (List.length q.1.2.2.2)],.int .i64 q.2,hEnc (clL 5 4 (List.map (List.map en0) q.1.2.2.1) (List.map en2 q.1.2.2.2))]) (fun q => p_laws_markClip q.1 q.2) (fun q => (.int .i64 (m_laws_markClip q.1 q.2).1,.wrH (clL 5 4 (List.map (List.map en0) (m_laws_markClip q.1 q.2).2.1) (List.map en2 (m_laws_markClip q.1 q.2).2.2))))
theorem ge_laws_markClip {a b x1 : Int} {n n' : Nat} {t : (List (List (Int × Nat × Nat × Nat × Nat)))} {r : (List (Int × Nat × Nat × Nat))} (hp : p_laws_markClip (a,b,t,r) x1 = true) (hn : n = List.length t) (hn' : n' = List.length r) : g_laws_markClip [.agg [.int .i64 a,.int .i64 b,.lsl 1000003 0 n,.lsl 1000011 0 n'],.int .i64 x1,hEnc (clL 5 4 (List.map (List.map en0) t) (List.map en2 r))] = some (.int .i64 (m_laws_markClip (a,b,t,r) x1).1,.wrH (clL 5 4 (List.map (List.map en0) (m_laws_markClip (a,b,t,r) x1).2.1) (List.map en2 (m_laws_markClip (a,b,t,r) x1).2.2))) := by
 subst hn hn'
 unfold g_laws_markClip
 refine gH_eq (q := ((a,b,t,r),x1)) (fun q q' h => ?_) hp
 simp only [List.cons.injEq,AV.agg.injEq,AV.int.injEq,AV.lsl.injEq,and_true,true_and] at h
 obtain ⟨⟨h1,h2,_⟩,h3,h4⟩ := h
 obtain ⟨h5,h6⟩ := hEnc_clL_inj h4
 exact Prod.ext (Prod.ext h1 (Prod.ext h2 (Prod.ext (enc2_inj dc_en0_map h5) (enc_inj dc_en2_map h6)))) h3
def cp12 : CP := CP.mk [] [39,38] [[1,2],[1,2],[1],[4]] 14 [] []
theorem s12 : ∀ vs r m,g_laws_markClip vs = some (r,m) → SaysX Try.prog m 12 vs r := by
 intro vs r m h
 obtain ⟨⟨⟨a,b,t,rk⟩,x1⟩,rfl,hp,hz⟩ := gH_some h
 cases hz
 simp only [p_laws_markClip,Bool.and_eq_true,decide_eq_true_eq] at hp
 obtain ⟨hp1,hp2,hp3⟩ := hp
 have hp1' := hp1
 simp only [p_laws_markKeySS,Bool.and_eq_true,decide_eq_true_eq] at hp1'
 have key := mkC (tab := tabOf [(39,g_laws_markRootKeyS),(38,g_laws_markKeySS)]) (f := 38) (g := 39) (es := 5) (e2 := 4) (a := a) (b := b) (k := x1) (k1 := (m_laws_markKeySS t x1).1) (k2 := (m_laws_markRootKeyS rk (m_laws_markKeySS t x1).1).1) (xss := List.map (List.map en0) t) (yss := List.map (List.map en0) (m_laws_markKeySS t x1).2) (rs := List.map en2 rk) (ss := List.map en2 (m_laws_markRootKeyS rk (m_laws_markKeySS t x1).1).2) (all_fl dc_en0_fl _) (dc_en2_fl _) (by simp only [List.length_map]; exact hp3)
  (by simp [tabOf_cons,List.length_map,ge_laws_markKeySS hp1]) (by simp [tabOf_cons,g_laws_markRootKeyS,dc_en2_map,hp2])
 rw [List.length_map,List.length_map] at key
 have hlen : List.map List.length (List.map (List.map en0) t) = List.map List.length (List.map (List.map en0) (m_laws_markKeySS t x1).2) := by
  refine List.ext_getElem? fun i => ?_
  simp only [List.getElem?_map]
  cases ha : t[i]? with
  | none =>
   rw [List.getElem?_eq_none_iff] at ha
   rw [List.getElem?_eq_none (by simp only [m_laws_markKeySS,mkSS_len]; exact ha)]
  | some a =>
   obtain ⟨h1,h2,h3⟩ := mkSS_get m_laws_markKeyS (fun x k => (p_laws_markKeyS x k && (decide (List.length (m_laws_markKeyS x k).2 = List.length x)))) t x1 i a ha
   have h3 := h3 hp1'.2
   simp only [Bool.and_eq_true,decide_eq_true_eq] at h3
   have h1 : (m_laws_markKeySS t x1).2[i]? = some (m_laws_markKeyS a (ksSS m_laws_markKeyS t x1 i)).2 := h1
   rw [h1]
   simp only [Option.map,List.length_map]
   rw [h3.2]
 have hno : ∀ f vs r m,tabOf [(39,g_laws_markRootKeyS),(38,g_laws_markKeySS)] f vs = some (r,m) → m.isOwnH = false := by
  intro f vs r m h
  simp only [tabOf] at h
  split at h
  ·(try simp only [g_laws_markRootKeyS] at h) <;> (repeat' split at h) <;> cases h <;> rfl
  ·split at h
   ·obtain ⟨q,_,_,hz⟩ := gH_some h
    cases hz; rfl
   ·cases h
 exact spec_ofN (vs := [.agg [.int .i64 a,.int .i64 b,.lsl 1000003 0 (List.length t),.lsl 1000011 0 (List.length rk)],.int .i64 x1]) (cp := cp12) (ic := icMkC 38 39) (rvl := [(.t 4)]) hm (tabOk_consW s39 (tabOk_consW s38 tabOk_nil)) hno Try.func12 rfl rfl rfl (by kernel_rfl) rfl (Nat.le_of_ble_eq_true rfl) (Nat.le_of_ble_eq_true rfl) clL_cls (nest_clL hlen (by simp only [List.length_map]; exact hp3.symm) (all_fl dc_en0_fl _) (dc_en2_fl _)) (fun l b hb => clL_clos (all_fl dc_en0_fl _) (dc_en2_fl _) hb) rfl key
def l_laws_markInt64S_0 : Nat → (List Int) → Int → Int → Option (Int × (List Int))
 | 0,_,_,_ => none
 | n + 1,z0_0,z0_1,z0_2 => (if (decide (z0_2 < (((List.length z0_0) : Nat) : Int))) = true then (need (inB z0_2 (List.length z0_0)) (l_laws_markInt64S_0 n (List.set z0_0 (Int.toNat z0_2) z0_1) (IntKind.wrap .i64 (z0_1 + 1)) (IntKind.wrap .i64 (z0_2 + 1)))) else (some (z0_1,z0_0)))
def m_laws_markInt64S (x0 : (List Int)) (x1 : Int) : (Int × (List Int)) := (Option.getD (l_laws_markInt64S_0 (Int.toNat ((((List.length x0) : Nat) : Int) - 0) + 2) x0 x1 0) default)
def p_laws_markInt64S (x0 : (List Int)) (x1 : Int) : Bool := ((Option.isSome (l_laws_markInt64S_0 (Int.toNat ((((List.length x0) : Nat) : Int) - 0) + 2) x0 x1 0)) && (decide (List.length (Option.getD (l_laws_markInt64S_0 (Int.toNat ((((List.length x0) : Nat) : Int) - 0) + 2) x0 x1 0) default).2 = List.length x0)))
def g_laws_markInt64S : List AV → Option (AV × Md)
 | [.sl w0,.int .i64 y1] => (match decL dI64 w0 with | some y0 => (if p_laws_markInt64S y0 y1 = true then some ((.int .i64 (m_laws_markInt64S y0 y1).1),.wr [1] [List.map (AV.int .i64) (m_laws_markInt64S y0 y1).2]) else none) | none => none)
 | _ => none
def lb23_0 : ICode := (.seq (.seq (.reg [⟨some 6,none,.mov (.t 5)⟩,⟨some 7,none,.mov (.t 0)⟩,⟨some 8,none,.len false (.t 7)⟩,⟨some 9,none,.bin .lss false (.t 6) (.t 8)⟩] [0,1,5,9]) (.cond (.t 9) .skip (.exit 0))) (.seq (.block 1 (.seq (.reg [⟨some 12,none,.mov (.t 0)⟩,⟨some 13,none,.mov (.t 5)⟩,⟨some 14,none,.mov (.t 1)⟩,⟨some 15,none,.iaddrS 1 (.t 12) (.t 13)⟩,⟨none,none,(.store 1 (.t 15) (.t 14))⟩] [0,1,5]) (.reg [⟨some 16,none,.mov (.t 1)⟩,⟨some 17,none,.bin .add false (.t 16) (.c (.int .i64 1))⟩,⟨some 1,none,.mov (.t 17)⟩] [0,1,5]))) (.reg [⟨some 10,none,.mov (.t 5)⟩,⟨some 11,none,.bin .add false (.t 10) (.c (.int .i64 1))⟩,⟨some 5,none,.mov (.t 11)⟩] [0,1,5])))
def ic23 : ICode := (.seq (.reg [⟨some 4,none,.mov (.c (.int .i64 0))⟩] [0,1]) (.seq (.seq (.reg [⟨some 5,none,.mov (.c (.int .i64 0))⟩] [0,1,5]) (.block 0 (.loop lb23_0))) (.seq (.reg [⟨some 18,none,.mov (.t 1)⟩,⟨some 4,none,.mov (.t 18)⟩] [0,4]) .ret)))
def cp23 : CP := CP.mk [] [] [[0,1],[0,1,5],[0,1,5,9],[0,1,5],[0,1,5],[0,1,5],[0,4]] 19 [] []
theorem sl23_0 : ∀ (n : Nat) (z0_0 : (List Int)) (z0_1 : Int) (z0_2 : Int) (o : (Int × (List Int))) (K : IExit → St → Prop),l_laws_markInt64S_0 n z0_0 z0_1 z0_2 = some o → (∀ st,Wk st (⟨[(0,(.lsl 1000000 0 (List.length o.2))),(1,(.int .i64 o.1))],[(1000000,(some ⟨1,true,(List.map (AV.int .i64) o.2)⟩))]⟩ : St) → K (.exit 0) st) → eA (tabOf []) (.loop lb23_0) (⟨[(0,(.lsl 1000000 0 (List.length z0_0))),(1,(.int .i64 z0_1)),(5,(.int .i64 z0_2))],[(1000000,(some ⟨1,true,(List.map (AV.int .i64) z0_0)⟩))]⟩ : St) K := by
 intro n
 induction n with
 | zero =>
  intro z0_0 z0_1 z0_2 o K h h0
  simp only [l_laws_markInt64S_0,reduceCtorEq] at h
 | succ n ih =>
  intro z0_0 z0_1 z0_2 o K h h0
  refine eA_loop ?_
  unfold lb23_0
  unfold l_laws_markInt64S_0 at h
  (try simp only [need_iff] at h)
  simp only [
   need_iff,h,grpX,purgeH,Option.map,reduceIte,Nat.reduceEqDiff,Nat.reduceAdd,Nat.reduceMul,Nat.reduceLT,Nat.reduceLeDiff,implies_true,forall_const,eq_self,Int.reduceEq,Int.reduceLE,Int.reduceLT,if_true,if_false,grpK,Int.reduceAdd,Int.reduceSub,Int.reduceMul,Int.reduceNeg,Int.reducePow,Nat.reducePow,Int.reduceToNat,Nat.reduceSub,List.replicate,Nat.reduceBEq,grpE,beq_true,beq_false,grpC,grpY]
  repeat' (first
   | ((first | (refine eGI_of (fun hc => ?_) (fun hc => ?_)) | (refine eCc_of (fun hc => ?_) (fun hc => ?_)) | (have hc := True.intro; refine KW_refl ?_)) <;> (try simp only [Bool.not_eq_true',Bool.not_eq_false'] at hc) <;> (try simp only [hc,need_iff,reduceCtorEq,grpN,Int.reduceEq,Int.reduceLT,Int.reduceLE,if_true,if_false,reduceIte] at h) <;> (first | (have hc2 := hc; simp only [decide_eq_true_eq,decide_eq_false_iff_not] at hc2; (first | (replace hc2 := eq_false hc2) | (replace hc2 := eq_true hc2)); (try simp only [hc2,need_iff,reduceCtorEq,grpN,Int.reduceEq,Int.reduceLT,Int.reduceLE,if_true,if_false,reduceIte] at h); replace h := And.intro hc2 h) | (replace h := And.intro hc h) | skip) <;> simp only [hc,
   need_iff,h,grpX,purgeH,Option.map,reduceIte,Nat.reduceEqDiff,Nat.reduceAdd,Nat.reduceMul,Nat.reduceLT,Nat.reduceLeDiff,implies_true,forall_const,eq_self,Int.reduceEq,Int.reduceLE,Int.reduceLT,if_true,if_false,grpK,Int.reduceAdd,Int.reduceSub,Int.reduceMul,Int.reduceNeg,Int.reducePow,Nat.reducePow,Int.reduceToNat,Nat.reduceSub,List.replicate,Nat.reduceBEq,grpE,beq_true,beq_false,grpC,grpY]))
  all_goals (have hf := h)
  all_goals (repeat (replace h := And.right h))
  all_goals ((first | (refine eA_wk (wk_norm (ks := [0,1,5]) (ls := [1000000]) ?_) (eA_cast ?_ (ih _ _ _ _ _ h h0))) | (cases h; have h := True.intro; refine h0 _ (Wk.cast (wk_norm (ks := [0,1]) (ls := [1000000]) ?_) ?_))) <;> simp only [normOk,optIn,blkIn,nameIn,normS,List.map_append,List.length_append,List.map_set,List.length_set,List.map_replicate,List.length_replicate,List.map_nil,List.map_cons,
   need_iff,h,hf,grpX,purgeH,Option.map,reduceIte,Nat.reduceEqDiff,Nat.reduceAdd,Nat.reduceMul,Nat.reduceLT,Nat.reduceLeDiff,implies_true,forall_const,eq_self,Int.reduceEq,Int.reduceLE,Int.reduceLT,if_true,if_false,grpK,Int.reduceAdd,Int.reduceSub,Int.reduceMul,Int.reduceNeg,Int.reducePow,Nat.reducePow,Int.reduceToNat,Nat.reduceSub,List.replicate,Nat.reduceBEq,grpE,beq_true,beq_false,grpC,grpY] <;> first | rfl | (simp only [Nat.add_comm]; done))
theorem s23 : ∀ vs r m,g_laws_markInt64S vs = some (r,m) → SaysX Try.prog m 23 vs r := by
 intro vs r m h
 unfold g_laws_markInt64S at h
 split at h
 ·rename_i w0 y1
  cases hd_y0 : decL dI64 w0 with
  | none => rw [hd_y0] at h; cases h
  | some y0 =>
  rw [hd_y0] at h
  obtain rfl := decL_inv dI64_inv hd_y0
  clear hd_y0
  dsimp only at h
  split at h
  ·rename_i hp
   cases h
   have hz : zipW [(1000000,⟨1,true,List.map (AV.int .i64) y0⟩)] [List.map (AV.int .i64) (m_laws_markInt64S y0 y1).2] = some [(1000000,⟨1,true,List.map (AV.int .i64) (m_laws_markInt64S y0 y1).2⟩)] := by simp only [zipW,List.map_cons,List.map_nil,List.length_map,m_laws_markInt64S,p_laws_markInt64S,Bool.and_eq_true,decide_eq_true_eq] at hp ⊢; simp only [hp,if_true]
   refine spec_ofW (tab := tabOf []) (cp := cp23) (ic := ic23) (rvl := [(.t 4)]) (H := [(1000000,⟨1,true,List.map (AV.int .i64) y0⟩)]) (H' := [(1000000,⟨1,true,List.map (AV.int .i64) (m_laws_markInt64S y0 y1).2⟩)]) hm tabOk_nil Try.func23 rfl rfl rfl (by kernel_rfl) rfl (Nat.le_of_ble_eq_true rfl) (Nat.le_of_ble_eq_true rfl) (by rfl) hz (by repeat (first | exact highN_nil | refine highN_cons rfl rfl ?_)) (by rfl) (by rfl) ?_
   show eA _ _ _ _
   unfold ic23
   simp only [p_laws_markInt64S,Bool.and_eq_true,Bool.or_eq_true,decide_eq_true_eq,Bool.not_eq_true',decide_eq_false_iff_not] at hp
   refine eS_to ?_
   repeat' (first
    | ((first | (have h := True.intro; refine eS_of ?_) | (refine eGI_of (fun h => ?_) (fun h => ?_)) | (refine eCc_of (fun h => ?_) (fun h => ?_)) | (have h := True.intro; refine KW_refl ?_)) <;> (try simp only [Bool.not_eq_true',Bool.not_eq_false'] at h) <;> (try first | exact nbA h (by assumption) | exact nbB h (by assumption)) <;> (try simp only [h,reduceCtorEq,grpN,Int.reduceEq,Int.reduceLT,Int.reduceLE,if_true,if_false,reduceIte] at hp) <;> (first | (have h2 := h; simp only [decide_eq_true_eq,decide_eq_false_iff_not] at h2; (first | (replace h2 := eq_false h2) | (replace h2 := eq_true h2)); (try simp only [h2,reduceCtorEq,grpN,Int.reduceEq,Int.reduceLT,Int.reduceLE,if_true,if_false,reduceIte] at hp); replace hp := And.intro h2 hp) | (replace hp := And.intro h hp) | skip) <;> simp only [h,
     hp,grpX,purgeH,Option.map,reduceIte,Nat.reduceEqDiff,Nat.reduceAdd,Nat.reduceMul,Nat.reduceLT,Nat.reduceLeDiff,implies_true,forall_const,eq_self,Int.reduceEq,Int.reduceLE,Int.reduceLT,if_true,if_false,grpK,Int.reduceAdd,Int.reduceSub,Int.reduceMul,Int.reduceNeg,Int.reducePow,Nat.reducePow,Int.reduceToNat,Nat.reduceSub,List.replicate,Nat.reduceBEq,grpE,beq_true,beq_false,grpC,grpY,startW,hpIs])
    | (refine eA_wk (wk_norm (ks := [0,1,5]) (ls := [1000000]) ?_) (eA_cast ?_ (sl23_0 _ _ _ _ _ _ (getD_some (d := default) (x := (l_laws_markInt64S_0 (Int.toNat ((((List.length y0) : Nat) : Int) - 0) + 2) y0 y1 0)) ?_) ?_)); (iterate 2 (simp only [nilS,nilV,nilB,normOk,optIn,blkIn,nameIn,normS,List.map_append,List.length_append,List.map_set,List.length_set,List.map_replicate,List.length_replicate,List.map_nil,List.map_cons,
     hp,grpX,purgeH,Option.map,reduceIte,Nat.reduceEqDiff,Nat.reduceAdd,Nat.reduceMul,Nat.reduceLT,Nat.reduceLeDiff,implies_true,forall_const,eq_self,Int.reduceEq,Int.reduceLE,Int.reduceLT,if_true,if_false,grpK,Int.reduceAdd,Int.reduceSub,Int.reduceMul,Int.reduceNeg,Int.reducePow,Nat.reducePow,Int.reduceToNat,Nat.reduceSub,List.replicate,Nat.reduceBEq,grpE,beq_true,beq_false,grpC,grpY,startW,hpIs] <;> first | rfl | (simp only [Nat.add_comm]; done))); (simp only [hp]); (
    intro st2 hw; (try simp only [reduceCtorEq,grpN,Int.reduceEq,Int.reduceLT,Int.reduceLE,if_true,if_false,reduceIte] at hp); (try replace hp := And.intro ht hp); simp only [
Kq_exit,Kq_normal,Kq_ret,Kb_exit,Kb_normal,Kb_ret,Kl_exit,Kl_normal,Kl_ret,reduceIte,Nat.reduceEqDiff,if_true,if_false,eq_self]; refine KW_of hw ?_; simp only [
     hp,grpX,purgeH,Option.map,reduceIte,Nat.reduceEqDiff,Nat.reduceAdd,Nat.reduceMul,Nat.reduceLT,Nat.reduceLeDiff,implies_true,forall_const,eq_self,Int.reduceEq,Int.reduceLE,Int.reduceLT,if_true,if_false,grpK,Int.reduceAdd,Int.reduceSub,Int.reduceMul,Int.reduceNeg,Int.reducePow,Nat.reducePow,Int.reduceToNat,Nat.reduceSub,List.replicate,Nat.reduceBEq,grpE,beq_true,beq_false,grpC,grpY,startW,hpIs])))
   all_goals (try simp only [*,m_laws_markInt64S,grpZ,if_true,if_false,reduceIte,decide_true,decide_false])
   all_goals (try (simp_all; done))
  ·cases h
 ·cases h
def l_laws_heldInt64S_0 (x0 : (List Int)) : Nat → Int → Int → Option (Bool × Int × Int)
 | 0,_,_ => none
 | n + 1,z0_0,z0_1 => (if (decide (z0_1 < ((List.length x0 : Nat) : Int))) = true then (need (inB z0_1 (List.length x0)) (if (decide ((atI x0 z0_1) = z0_0)) = true then (l_laws_heldInt64S_0 x0 n (IntKind.wrap .i64 (z0_0 + 1)) (IntKind.wrap .i64 (z0_1 + 1))) else (some (true,(-1),default)))) else (some (false,default,z0_0)))
def m_laws_heldInt64S (x0 : (List Int)) (x1 : Int) : Int := (if (Option.getD (l_laws_heldInt64S_0 x0 (Int.toNat (((List.length x0 : Nat) : Int) - 0) + 2) x1 0) default).1 = true then (Option.getD (l_laws_heldInt64S_0 x0 (Int.toNat (((List.length x0 : Nat) : Int) - 0) + 2) x1 0) default).2.1 else (Option.getD (l_laws_heldInt64S_0 x0 (Int.toNat (((List.length x0 : Nat) : Int) - 0) + 2) x1 0) default).2.2)
def p_laws_heldInt64S (x0 : (List Int)) (x1 : Int) : Bool := (Option.isSome (l_laws_heldInt64S_0 x0 (Int.toNat (((List.length x0 : Nat) : Int) - 0) + 2) x1 0))
def g_laws_heldInt64S : List AV → Option AV
 | [.sl w0,.int .i64 y1] => (match decL dI64 w0 with | some y0 => (if p_laws_heldInt64S y0 y1 = true then some (.int .i64 (m_laws_heldInt64S y0 y1)) else none) | none => none)
 | _ => none
def lb24_0 : ICode := (.seq (.seq (.reg [⟨some 6,none,.mov (.t 5)⟩,⟨some 7,none,.mov (.t 0)⟩,⟨some 8,none,.len false (.t 7)⟩,⟨some 9,none,.bin .lss false (.t 6) (.t 8)⟩] [0,1,5,9]) (.cond (.t 9) .skip (.exit 0))) (.seq (.block 1 (.seq (.seq (.reg [⟨some 12,none,.mov (.t 0)⟩,⟨some 13,none,.mov (.t 5)⟩,⟨some 14,none,.iaddrS 1 (.t 12) (.t 13)⟩,⟨some 15,none,.load none (.t 14)⟩,⟨some 16,none,.mov (.t 1)⟩,⟨some 17,none,.bin .neq false (.t 15) (.t 16)⟩] [0,1,5,17]) (.cond (.t 17) (.seq (.reg [⟨some 4,none,.mov (.c (.int .i64 (-1)))⟩] [4]) .ret) .skip)) (.reg [⟨some 18,none,.mov (.t 1)⟩,⟨some 19,none,.bin .add false (.t 18) (.c (.int .i64 1))⟩,⟨some 1,none,.mov (.t 19)⟩] [0,1,5]))) (.reg [⟨some 10,none,.mov (.t 5)⟩,⟨some 11,none,.bin .add false (.t 10) (.c (.int .i64 1))⟩,⟨some 5,none,.mov (.t 11)⟩] [0,1,5])))
def ic24 : ICode := (.seq (.reg [⟨some 4,none,.mov (.c (.int .i64 0))⟩] [0,1]) (.seq (.seq (.reg [⟨some 5,none,.mov (.c (.int .i64 0))⟩] [0,1,5]) (.block 0 (.loop lb24_0))) (.seq (.reg [⟨some 20,none,.mov (.t 1)⟩,⟨some 4,none,.mov (.t 20)⟩] [4]) .ret)))
def cp24 : CP := CP.mk [] [] [[0,1],[0,1,5],[0,1,5,9],[0,1,5],[0,1,5,17],[4],[0,1,5],[4]] 21 [] []
theorem sl24_0 (x0 : (List Int)) : ∀ (n : Nat) (z0_0 : Int) (z0_1 : Int) (o : (Bool × Int × Int)) (K : IExit → St → Prop),l_laws_heldInt64S_0 x0 n z0_0 z0_1 = some o → (∀ st,o.1 = true → outM .any st [(.t 4)] = some (.int .i64 o.2.1) → K .ret st) → (∀ st,o.1 = false → Wk st (⟨[(1,(.int .i64 o.2.2))],[]⟩ : St) → K (.exit 0) st) → eA (tabOf []) (.loop lb24_0) (⟨[(0,(.sl (List.map (AV.int .i64) x0))),(1,(.int .i64 z0_0)),(5,(.int .i64 z0_1))],[]⟩ : St) K := by
 intro n
 induction n with
 | zero =>
  intro z0_0 z0_1 o K h h0 h1
  simp only [l_laws_heldInt64S_0,reduceCtorEq] at h
 | succ n ih =>
  intro z0_0 z0_1 o K h h0 h1
  refine eA_loop ?_
  unfold lb24_0
  unfold l_laws_heldInt64S_0 at h
  (try simp only [need_iff] at h)
  simp only [
   need_iff,h,grpX,purgeH,Option.map,reduceIte,Nat.reduceEqDiff,Nat.reduceAdd,Nat.reduceMul,Nat.reduceLT,Nat.reduceLeDiff,implies_true,forall_const,eq_self,Int.reduceEq,Int.reduceLE,Int.reduceLT,if_true,if_false,grpK,Int.reduceAdd,Int.reduceSub,Int.reduceMul,Int.reduceNeg,Int.reducePow,Nat.reducePow,Int.reduceToNat,Nat.reduceSub,List.replicate,Nat.reduceBEq,grpE,beq_true,beq_false,grpC,grpY]
  repeat' (first
   | ((first | (refine eGI_of (fun hc => ?_) (fun hc => ?_)) | (refine eCc_of (fun hc => ?_) (fun hc => ?_)) | (have hc := True.intro; refine KW_refl ?_)) <;> (try simp only [Bool.not_eq_true',Bool.not_eq_false'] at hc) <;> (try simp only [hc,need_iff,reduceCtorEq,grpN,Int.reduceEq,Int.reduceLT,Int.reduceLE,if_true,if_false,reduceIte] at h) <;> (first | (have hc2 := hc; simp only [decide_eq_true_eq,decide_eq_false_iff_not] at hc2; (first | (replace hc2 := eq_false hc2) | (replace hc2 := eq_true hc2)); (try simp only [hc2,need_iff,reduceCtorEq,grpN,Int.reduceEq,Int.reduceLT,Int.reduceLE,if_true,if_false,reduceIte] at h); replace h := And.intro hc2 h) | (replace h := And.intro hc h) | skip) <;> simp only [hc,
   need_iff,h,grpX,purgeH,Option.map,reduceIte,Nat.reduceEqDiff,Nat.reduceAdd,Nat.reduceMul,Nat.reduceLT,Nat.reduceLeDiff,implies_true,forall_const,eq_self,Int.reduceEq,Int.reduceLE,Int.reduceLT,if_true,if_false,grpK,Int.reduceAdd,Int.reduceSub,Int.reduceMul,Int.reduceNeg,Int.reducePow,Nat.reducePow,Int.reduceToNat,Nat.reduceSub,List.replicate,Nat.reduceBEq,grpE,beq_true,beq_false,grpC,grpY]))
  all_goals (have hf := h)
  all_goals (repeat (replace h := And.right h))
  all_goals ((first | (refine eA_wk (wk_norm (ks := [0,1,5]) (ls := []) ?_) (eA_cast ?_ (ih _ _ _ _ h h0 h1))) | (cases h; have h := True.intro; refine h0 _ rfl ?_) | (cases h; have h := True.intro; refine h1 _ rfl (Wk.cast (wk_norm (ks := [1]) (ls := []) ?_) ?_))) <;> simp only [normOk,optIn,blkIn,nameIn,normS,List.map_append,List.length_append,List.map_set,List.length_set,List.map_replicate,List.length_replicate,List.map_nil,List.map_cons,
   need_iff,h,hf,grpX,purgeH,Option.map,reduceIte,Nat.reduceEqDiff,Nat.reduceAdd,Nat.reduceMul,Nat.reduceLT,Nat.reduceLeDiff,implies_true,forall_const,eq_self,Int.reduceEq,Int.reduceLE,Int.reduceLT,if_true,if_false,grpK,Int.reduceAdd,Int.reduceSub,Int.reduceMul,Int.reduceNeg,Int.reducePow,Nat.reducePow,Int.reduceToNat,Nat.reduceSub,List.replicate,Nat.reduceBEq,grpE,beq_true,beq_false,grpC,grpY] <;> first | rfl | (simp only [Nat.add_comm]; done))
theorem s24 : ∀ vs r,g_laws_heldInt64S vs = some r → SaysM Try.prog .any 24 vs r := by
 intro vs r h
 unfold g_laws_heldInt64S at h
 split at h
 ·rename_i w0 y1
  cases hd_y0 : decL dI64 w0 with
  | none => rw [hd_y0] at h; cases h
  | some y0 =>
  rw [hd_y0] at h
  obtain rfl := decL_inv dI64_inv hd_y0
  clear hd_y0
  dsimp only at h
  split at h
  ·rename_i hp
   cases h
   refine spec_of (m := .any) (tab := tabOf []) (cp := cp24) (ic := ic24) (rvl := [(.t 4)]) hm tabOk_nil Try.func24 rfl rfl rfl (by kernel_rfl) rfl (Nat.le_of_ble_eq_true rfl) (Nat.le_of_ble_eq_true rfl) ?_
   show eA _ _ _ _
   unfold ic24
   simp only [p_laws_heldInt64S,Bool.and_eq_true,Bool.or_eq_true,decide_eq_true_eq,Bool.not_eq_true',decide_eq_false_iff_not] at hp
   refine eS_to ?_
   repeat' (first
    | ((first | (have h := True.intro; refine eS_of ?_) | (refine eGI_of (fun h => ?_) (fun h => ?_)) | (refine eCc_of (fun h => ?_) (fun h => ?_)) | (have h := True.intro; refine KW_refl ?_)) <;> (try simp only [Bool.not_eq_true',Bool.not_eq_false'] at h) <;> (try first | exact nbA h (by assumption) | exact nbB h (by assumption)) <;> (try simp only [h,reduceCtorEq,grpN,Int.reduceEq,Int.reduceLT,Int.reduceLE,if_true,if_false,reduceIte] at hp) <;> (first | (have h2 := h; simp only [decide_eq_true_eq,decide_eq_false_iff_not] at h2; (first | (replace h2 := eq_false h2) | (replace h2 := eq_true h2)); (try simp only [h2,reduceCtorEq,grpN,Int.reduceEq,Int.reduceLT,Int.reduceLE,if_true,if_false,reduceIte] at hp); replace hp := And.intro h2 hp) | (replace hp := And.intro h hp) | skip) <;> simp only [h,
     hp,grpX,purgeH,Option.map,reduceIte,Nat.reduceEqDiff,Nat.reduceAdd,Nat.reduceMul,Nat.reduceLT,Nat.reduceLeDiff,implies_true,forall_const,eq_self,Int.reduceEq,Int.reduceLE,Int.reduceLT,if_true,if_false,grpK,Int.reduceAdd,Int.reduceSub,Int.reduceMul,Int.reduceNeg,Int.reducePow,Nat.reducePow,Int.reduceToNat,Nat.reduceSub,List.replicate,Nat.reduceBEq,grpE,beq_true,beq_false,grpC,grpY])
    | (refine eA_wk (wk_norm (ks := [0,1,5]) (ls := []) ?_) (eA_cast ?_ (sl24_0 y0 _ _ _ _ _ (getD_some (d := default) (x := (l_laws_heldInt64S_0 y0 (Int.toNat (((List.length y0 : Nat) : Int) - 0) + 2) y1 0)) ?_) ?_ ?_)); (iterate 2 (simp only [nilS,nilV,nilB,normOk,optIn,blkIn,nameIn,normS,List.map_append,List.length_append,List.map_set,List.length_set,List.map_replicate,List.length_replicate,List.map_nil,List.map_cons,
     hp,grpX,purgeH,Option.map,reduceIte,Nat.reduceEqDiff,Nat.reduceAdd,Nat.reduceMul,Nat.reduceLT,Nat.reduceLeDiff,implies_true,forall_const,eq_self,Int.reduceEq,Int.reduceLE,Int.reduceLT,if_true,if_false,grpK,Int.reduceAdd,Int.reduceSub,Int.reduceMul,Int.reduceNeg,Int.reducePow,Nat.reducePow,Int.reduceToNat,Nat.reduceSub,List.replicate,Nat.reduceBEq,grpE,beq_true,beq_false,grpC,grpY] <;> first | rfl | (simp only [Nat.add_comm]; done))); (simp only [hp]); (
    intro st2 ht hw; simp only [Kq_ret,Kb_ret,Kl_ret,ret_ok]; first | exact h0 _ hw | exact h0 _ rfl hw | exact h1 _ rfl hw | exact h0 _ ht hw | exact h1 _ ht hw | (simp only [ht,need_iff,reduceCtorEq,grpN,Int.reduceEq,Int.reduceLT,Int.reduceLE,if_true,if_false,reduceIte] at h; (repeat (replace h := And.right h)); cases h; first | exact h0 _ hw | exact h0 _ rfl hw | exact h1 _ rfl hw) | refine ⟨_,hw,?_⟩); rotate_left; (
    intro st2 ht hw; (try simp only [ht,reduceCtorEq,grpN,Int.reduceEq,Int.reduceLT,Int.reduceLE,if_true,if_false,reduceIte] at hp); (try replace hp := And.intro ht hp); simp only [
Kq_exit,Kq_normal,Kq_ret,Kb_exit,Kb_normal,Kb_ret,Kl_exit,Kl_normal,Kl_ret,reduceIte,Nat.reduceEqDiff,if_true,if_false,eq_self]; refine KW_of hw ?_; simp only [ht,
     hp,grpX,purgeH,Option.map,reduceIte,Nat.reduceEqDiff,Nat.reduceAdd,Nat.reduceMul,Nat.reduceLT,Nat.reduceLeDiff,implies_true,forall_const,eq_self,Int.reduceEq,Int.reduceLE,Int.reduceLT,if_true,if_false,grpK,Int.reduceAdd,Int.reduceSub,Int.reduceMul,Int.reduceNeg,Int.reducePow,Nat.reducePow,Int.reduceToNat,Nat.reduceSub,List.replicate,Nat.reduceBEq,grpE,beq_true,beq_false,grpC,grpY])))
   all_goals (try simp only [*,m_laws_heldInt64S,grpZ,if_true,if_false,reduceIte,decide_true,decide_false])
   all_goals (try (simp_all; done))
  ·cases h
 ·cases h
def m_laws_FnExactKeysOf (x0 : (Int × Int × (List (List (Int × Nat × Nat × Nat × Nat))) × (List (Int × Nat × Nat × Nat)))) : Bool := (if (decide ((m_laws_szClip x0 1048576) < 0)) = true then true else (if (m_laws_eqInt64S (m_impl_KeysOf (m_laws_toClip x0)).1 (m_spec_KeysOf (m_laws_toClip x0)).1) = true then (if ((m_impl_KeysOf (m_laws_toClip x0)).2 == (m_spec_KeysOf (m_laws_toClip x0)).2) = true then (if (m_laws_eqClip (m_laws_toClip x0) (m_laws_toClip x0)) = true then (if (decide ((m_laws_markClip (m_laws_toClip x0) 1).1 < 0)) = true then false else (if (decide ((m_laws_heldInt64S (m_laws_markInt64S (m_impl_KeysOf (m_laws_toClip x0)).1 1).2 1) < 0)) = true then false else (if (decide ((m_laws_heldInt64S (m_laws_markInt64S (m_impl_KeysOf (m_laws_toClip x0)).1 1).2 1) = (m_laws_markInt64S (m_impl_KeysOf (m_laws_toClip x0)).1 1).1)) = true then true else false))) else false) else false) else false))
def p_laws_FnExactKeysOf (x0 : (Int × Int × (List (List (Int × Nat × Nat × Nat × Nat))) × (List (Int × Nat × Nat × Nat)))) : Bool := ((p_laws_szClip x0 1048576) && ((decide ((m_laws_szClip x0 1048576) < 0)) || ((p_laws_toClip x0) && ((p_spec_KeysOf (m_laws_toClip x0)) && ((p_impl_KeysOf (m_laws_toClip x0)) && ((p_laws_eqInt64S (m_impl_KeysOf (m_laws_toClip x0)).1 (m_spec_KeysOf (m_laws_toClip x0)).1) && (!(m_laws_eqInt64S (m_impl_KeysOf (m_laws_toClip x0)).1 (m_spec_KeysOf (m_laws_toClip x0)).1) || (!((m_impl_KeysOf (m_laws_toClip x0)).2 == (m_spec_KeysOf (m_laws_toClip x0)).2) || ((p_laws_eqClip (m_laws_toClip x0) (m_laws_toClip x0)) && (!(m_laws_eqClip (m_laws_toClip x0) (m_laws_toClip x0)) || ((p_laws_markClip (m_laws_toClip x0) 1) && ((decide (List.length (m_laws_markClip (m_laws_toClip x0) 1).2.1 = (List.length (m_laws_toClip x0).2.2.1))) && ((decide (List.length (m_laws_markClip (m_laws_toClip x0) 1).2.2 = (List.length (m_laws_toClip x0).2.2.2))) && ((decide ((m_laws_markClip (m_laws_toClip x0) 1).1 < 0)) || ((p_laws_markInt64S (m_impl_KeysOf (m_laws_toClip x0)).1 1) && ((decide (List.length (m_laws_markInt64S (m_impl_KeysOf (m_laws_toClip x0)).1 1).2 = (List.length (m_impl_KeysOf (m_laws_toClip x0)).1))) && (p_laws_heldInt64S (m_laws_markInt64S (m_impl_KeysOf (m_laws_toClip x0)).1 1).2 1)))))))))))))))))
def g_laws_FnExactKeysOf : List AV → Option AV
 | [.agg [.int .i64 y0,.int .i64 y1,.sl w2,.sl w3]] => (match decL dc_en1 w2 with | some y2 => ((match decL dc_en2 w3 with | some y3 => (if p_laws_FnExactKeysOf (y0,y1,y2,y3) = true then some (.bool (m_laws_FnExactKeysOf (y0,y1,y2,y3))) else none) | none => none)) | none => none)
 | _ => none
def ic5 : ICode := (.seq (.reg [⟨some 1,none,.box 4 (.t 0)⟩,⟨some 2,none,.mov (.c (.bool false))⟩] [1]) (.seq (.reg [⟨some 3,none,.mov (.c (.int .i64 1048576))⟩] [1,3]) (.seq (.reg [⟨some 14,none,.load (some 4) (.t 1)⟩,⟨some 15,none,.mov (.t 3)⟩,⟨some 16,none,.call (.fn 6) [(.t 14),(.t 15)] []⟩,⟨some 3,none,.mov (.t 16)⟩] [1,3]) (.seq (.seq (.reg [⟨some 17,none,.mov (.t 3)⟩,⟨some 18,none,.bin .lss false (.t 17) (.c (.int .i64 0))⟩] [1,18]) (.cond (.t 18) (.seq (.reg [⟨some 2,none,.mov (.c (.bool true))⟩] [2]) .ret) .skip)) (.seq (.reg [⟨some 20,none,.load (some 4) (.t 1)⟩,⟨some 21,none,.call (.fn 8) [(.t 20)] []⟩,⟨some 22,none,.call (.fn 20) [(.t 21)] []⟩,⟨some 19,none,.mov (.t 22)⟩,⟨some 23,none,.extract (.t 19) 0⟩,⟨some 24,none,.extract (.t 19) 1⟩,⟨some 4,none,.mov (.t 23)⟩,⟨some 5,none,.mov (.t 24)⟩] [1,4,5]) (.seq (.reg [⟨some 25,none,.load (some 4) (.t 1)⟩,⟨some 26,none,.call (.fn 8) [(.t 25)] [1]⟩,⟨some 6,none,.alloc (.agg [(.int .i64 0),(.int .i64 0),.snil,.snil])⟩,⟨none,none,(.store 4 (.t 6) (.t 26))⟩] [1,4,5,6]) (.seq (.reg [⟨some 28,none,.load (some 4) (.t 6)⟩,⟨some 29,none,.call (.fn 21) [(.t 28)] [1]⟩,⟨some 27,none,.mov (.t 29)⟩,⟨some 30,none,.extract (.t 27) 0⟩,⟨some 31,none,.extract (.t 27) 1⟩,⟨some 7,none,.mov (.t 30)⟩,⟨some 8,none,.mov (.t 31)⟩] [1,4,5,6,7,8]) (.seq (.seq (.reg [⟨some 32,none,.mov (.t 7)⟩,⟨some 33,none,.mov (.t 4)⟩,⟨some 34,none,.call (.fn 22) [(.t 32),(.t 33)] []⟩,⟨some 35,none,.un .not (.t 34)⟩,⟨some 36,none,.mov (.t 35)⟩,⟨(some 37),(some (36,false)),(.mov (.t 8))⟩,⟨(some 38),(some (36,false)),(.mov (.t 5))⟩,⟨(some 39),(some (36,false)),(.bin .neq true (.t 37) (.t 38))⟩,⟨some 40,none,.pick (.t 36) (.c (.bool true)) (.t 39)⟩] [1,4,5,6,7,8,40]) (.cond (.t 40) (.seq (.reg [⟨some 2,none,.mov (.c (.bool false))⟩] [2]) .ret) .skip)) (.seq (.seq (.reg [⟨some 41,none,.load (some 4) (.t 6)⟩,⟨some 42,none,.load (some 4) (.t 1)⟩,⟨some 43,none,.call (.fn 8) [(.t 42)] []⟩,⟨some 44,none,.call (.fn 11) [(.t 41),(.t 43)] []⟩,⟨some 45,none,.un .not (.t 44)⟩] [1,4,5,6,7,8,45]) (.cond (.t 45) (.seq (.reg [⟨some 2,none,.mov (.c (.bool false))⟩] [2]) .ret) .skip)) (.seq (.reg [⟨some 9,none,.mov (.c (.int .i64 1))⟩] [1,4,
   5,6,7,8,9]) (.seq (.reg [⟨some 46,none,.load (some 4) (.t 6)⟩,⟨some 47,none,.mov (.t 9)⟩,⟨some 48,none,.callM 12 [(.t 46),(.t 47)]⟩,⟨some 9,none,.mov (.t 48)⟩] [1,4,5,7,8,9]) (.seq (.seq (.reg [⟨some 49,none,.mov (.t 9)⟩,⟨some 50,none,.bin .lss false (.t 49) (.c (.int .i64 0))⟩,⟨some 51,none,.mov (.t 50)⟩,⟨(some 52),(some (51,false)),(.mov (.t 7))⟩,⟨(some 53),(some (51,false)),(.mov (.t 4))⟩,⟨(some 54),(some (51,false)),(.call (.fn 22) [(.t 52),(.t 53)] [])⟩,⟨(some 55),(some (51,false)),(.un .not (.t 54))⟩,⟨some 56,none,.pick (.t 51) (.c (.bool true)) (.t 55)⟩,⟨some 57,none,.mov (.t 56)⟩,⟨(some 58),(some (57,false)),(.mov (.t 8))⟩,⟨(some 59),(some (57,false)),(.mov (.t 5))⟩,⟨(some 60),(some (57,false)),(.bin .neq true (.t 58) (.t 59))⟩,⟨some 61,none,.pick (.t 57) (.c (.bool true)) (.t 60)⟩] [1,4,5,7,61]) (.cond (.t 61) (.seq (.reg [⟨some 2,none,.mov (.c (.bool false))⟩] [2]) .ret) .skip)) (.seq (.reg [⟨some 10,none,.mov (.c (.int .i64 1))⟩] [1,4,5,7,10]) (.seq (.reg [⟨some 62,none,.mov (.t 7)⟩,⟨some 63,none,.mov (.t 10)⟩,⟨some 64,none,.callM 23 [(.t 62),(.t 63)]⟩,⟨some 10,none,.mov (.t 64)⟩] [1,4,5,7,10]) (.seq (.reg [⟨some 11,none,.mov (.c (.int .i64 1))⟩] [1,4,5,7,10,11]) (.seq (.reg [⟨some 65,none,.mov (.t 7)⟩,⟨some 66,none,.mov (.t 11)⟩,⟨some 67,none,.call (.fn 24) [(.t 65),(.t 66)] []⟩,⟨some 11,none,.mov (.t 67)⟩] [1,4,5,7,10,11]) (.seq (.seq (.reg [⟨some 68,none,.mov (.t 11)⟩,⟨some 69,none,.bin .lss false (.t 68) (.c (.int .i64 0))⟩] [1,4,5,7,10,11,69]) (.cond (.t 69) (.seq (.reg [⟨some 2,none,.mov (.c (.bool false))⟩] [2]) .ret) .skip)) (.seq (.seq (.reg [⟨some 70,none,.mov (.t 11)⟩,⟨some 71,none,.mov (.t 10)⟩,⟨some 72,none,.bin .neq false (.t 70) (.t 71)⟩] [1,4,5,7,10,72]) (.cond (.t 72) (.seq (.reg [⟨some 2,none,.mov (.c (.bool false))⟩] [2]) .ret) .skip)) (.seq (.reg [⟨some 74,none,.load (some 4) (.t 1)⟩,⟨some 75,none,.call (.fn 8) [(.t 74)] []⟩,⟨some 76,none,.call (.fn 21) [(.t 75)] []⟩,⟨some 73,none,.mov (.t 76)⟩,⟨some 77,none,.extract (.t 73) 0⟩,⟨some 78,none,.extract (.t 73) 1⟩,⟨some 12,none,.mov (.t 77)⟩,⟨some 13,none,.mov (.t 78)⟩] [4,5,7,10,12,13]) (.seq (.seq (.reg [⟨some 79,none,.mov (.t 12)⟩,⟨(some 80),none,
   (.mov (.t 4))⟩,⟨some 81,none,.call (.fn 22) [(.t 79),(.t 80)] []⟩,⟨some 82,none,.un .not (.t 81)⟩,⟨some 83,none,.mov (.t 82)⟩,⟨(some 84),(some (83,false)),(.mov (.t 13))⟩,⟨(some 85),(some (83,false)),(.mov (.t 5))⟩,⟨(some 86),(some (83,false)),(.bin .neq true (.t 84) (.t 85))⟩,⟨some 87,none,.pick (.t 83) (.c (.bool true)) (.t 86)⟩] [7,10,87]) (.cond (.t 87) (.seq (.reg [⟨some 2,none,.mov (.c (.bool false))⟩] [2]) .ret) .skip)) (.seq (.reg [⟨some 11,none,.mov (.c (.int .i64 1))⟩] [7,10,11]) (.seq (.reg [⟨some 88,none,.mov (.t 7)⟩,⟨some 89,none,.mov (.t 11)⟩,⟨some 90,none,.call (.fn 24) [(.t 88),(.t 89)] []⟩,⟨some 11,none,.mov (.t 90)⟩] [10,11]) (.seq (.seq (.reg [⟨some 91,none,.mov (.t 11)⟩,⟨some 92,none,.bin .lss false (.t 91) (.c (.int .i64 0))⟩] [10,11,92]) (.cond (.t 92) (.seq (.reg [⟨some 2,none,.mov (.c (.bool false))⟩] [2]) .ret) .skip)) (.seq (.seq (.reg [⟨some 93,none,.mov (.t 11)⟩,⟨some 94,none,.mov (.t 10)⟩,⟨some 95,none,.bin .neq false (.t 93) (.t 94)⟩] [95]) (.cond (.t 95) (.seq (.reg [⟨some 2,none,.mov (.c (.bool false))⟩] [2]) .ret) .skip)) (.seq (.reg [⟨some 2,none,.mov (.c (.bool true))⟩] [2]) .ret)))))))))))))))))))))))))
def cp5 : CP := CP.mk [(26,[1]),(29,[1])] [12,23] [[1],[1,3],[1,3],[1,18],[2],[1,4,5],[1,4,5,6],[1,4,5,6,7,8],[1,4,5,6,7,8,40],[2],[1,4,5,6,7,8,45],[2],[1,4,5,6,7,8,9],[1,4,5,7,8,9],[1,4,5,7,61],[2],[1,4,5,7,10],[1,4,5,7,10],[1,4,5,7,10,11],[1,4,5,7,10,11],[1,4,5,7,10,11,69],[2],[1,4,5,7,10,72],[2],[4,5,7,10,12,13],[7,10,87],[2],[7,10,11],[10,11],[10,11,92],[2],[95],[2],[2]] 96 [] []
theorem s5 : ∀ vs r,g_laws_FnExactKeysOf vs = some r → SaysM Try.prog .any 5 vs r := by
 intro vs r h
 unfold g_laws_FnExactKeysOf at h
 split at h
 ·rename_i y0 y1 w2 w3
  cases hd_y2 : decL dc_en1 w2 with
  | none => rw [hd_y2] at h; cases h
  | some y2 =>
  rw [hd_y2] at h
  obtain rfl := decL_inv dc_en1_inv hd_y2
  clear hd_y2
  dsimp only at h
  cases hd_y3 : decL dc_en2 w3 with
  | none => rw [hd_y3] at h; cases h
  | some y3 =>
  rw [hd_y3] at h
  obtain rfl := decL_inv dc_en2_inv hd_y3
  clear hd_y3
  dsimp only at h
  split at h
  ·rename_i hp
   cases h
   refine spec_of (m := .any) (tab := tabOf [(6,wM .any g_laws_szClip),(8,g_laws_toClip),(11,wM .any g_laws_eqClip),(12,g_laws_markClip),(20,wM .any g_spec_KeysOf),(21,wM (.own [1]) g_impl_KeysOf),(22,wM .any g_laws_eqInt64S),(23,g_laws_markInt64S),(24,wM .any g_laws_heldInt64S)]) (cp := cp5) (ic := ic5) (rvl := [(.t 2)]) hm (tabOk_cons (m := .any) s6 (tabOk_consW s8 (tabOk_cons (m := .any) s11 (tabOk_consW s12 (tabOk_cons (m := .any) s20 (tabOk_cons (m := (.own [1])) s21 (tabOk_cons (m := .any) s22 (tabOk_consW s23 (tabOk_cons (m := .any) s24 tabOk_nil))))))))) Try.func5 rfl rfl rfl (by kernel_rfl) rfl (Nat.le_of_ble_eq_true rfl) (Nat.le_of_ble_eq_true rfl) ?_
   show eA _ _ _ _
   unfold ic5
   simp only [p_laws_FnExactKeysOf,Bool.and_eq_true,Bool.or_eq_true,decide_eq_true_eq,Bool.not_eq_true',decide_eq_false_iff_not] at hp
   refine eS_to ?_
   repeat' (first
    | ((first | (have h := True.intro; refine eS_of ?_) | (refine eGI_of (fun h => ?_) (fun h => ?_)) | (refine eCc_of (fun h => ?_) (fun h => ?_)) | (refine ePk_of (fun h => ?_) (fun h => ?_))) <;> (try simp only [Bool.not_eq_true',Bool.not_eq_false'] at h) <;> (try first | exact nbA h (by assumption) | exact nbB h (by assumption)) <;> (try simp only [h,reduceCtorEq,grpN,Int.reduceEq,Int.reduceLT,Int.reduceLE,if_true,if_false,reduceIte] at hp) <;> (first | (have h2 := h; simp only [decide_eq_true_eq,decide_eq_false_iff_not] at h2; (first | (replace h2 := eq_false h2) | (replace h2 := eq_true h2)); (try simp only [h2,reduceCtorEq,grpN,Int.reduceEq,Int.reduceLT,Int.reduceLE,if_true,if_false,reduceIte] at hp); replace hp := And.intro h2 hp) | (replace hp := And.intro h hp) | skip) <;> simp only [h,
     hp,grpX,purgeH,Option.map,reduceIte,Nat.reduceEqDiff,Nat.reduceAdd,Nat.reduceMul,Nat.reduceLT,Nat.reduceLeDiff,implies_true,forall_const,eq_self,Int.reduceEq,Int.reduceLE,Int.reduceLT,if_true,if_false,grpK,Int.reduceAdd,Int.reduceSub,Int.reduceMul,Int.reduceNeg,Int.reducePow,Nat.reducePow,Int.reduceToNat,Nat.reduceSub,List.replicate,Nat.reduceBEq,grpE,beq_true,beq_false,g_laws_szClip,g_laws_toClip,g_laws_eqClip,ge_laws_markClip,g_spec_KeysOf,g_impl_KeysOf,g_laws_eqInt64S,g_laws_markInt64S,g_laws_heldInt64S,↓fresh_clB,↓fresh_clL,loH,pureEs_skip,pureEs_clL,pureEs_clB,lk_clL_lo,lk_clL_a,lk_clL_b,tlE_len,grpG,false_and,and_false,List.length_map,nmap_en1,grpC,grpY,↓b_pick,ePk_true,ePk_false]))
   all_goals (try simp only [*,m_laws_FnExactKeysOf,grpZ,if_true,if_false,reduceIte,decide_true,decide_false])
   all_goals (try (simp_all; done))
  ·cases h
 ·cases h
end Go.Proofs
namespace Go.Ab
open Ieee
theorem feq_self_iff {x : Nat} : feq .f32 x x = !(isNaN .f32 x) := by
 cases h : FloatKind.f32.decode x with
 | number s m e =>
  have hn : isNaN .f32 x = false := by unfold isNaN; show (FloatKind.f32.decode x).isNaN = false; rw [h]; rfl
  have o := order_ex (ex32 h) (ex32 h)
  unfold feq ford Format.order
  rw [o,hn,Int.compare_eq_eq.2 rfl]; rfl
 | infinity s =>
  have hn : isNaN .f32 x = false := by unfold isNaN; show (FloatKind.f32.decode x).isNaN = false; rw [h]; rfl
  have h' : FloatKind.f32.format.read x = .infinity s := h
  unfold feq ford Format.order
  rw [h',hn]; cases s <;> rfl
 | nan s t =>
  have hn : isNaN .f32 x = true := by unfold isNaN; show (FloatKind.f32.decode x).isNaN = true; rw [h]; rfl
  have h' : FloatKind.f32.format.read x = .nan s t := h
  unfold feq ford Format.order
  rw [h',hn]; rfl
end Go.Ab
namespace Go.Ab
/-- a list of known length is filled,an element a round -/
theorem fill_loop {β : Type} (l : Nat → List β → Int → Option (List β)) (len : Nat) (F : Nat → β) (hlen : len < 2 ^ 62)
  (H : ∀ (n : Nat) (z : List β) (k : Nat),k < len → z.length = len → l (n + 1) z (k : Int) = l n (z.set k (F k)) (IntKind.wrap .i64 ((k : Int) + 1)))
  (H' : ∀ (n : Nat) (z : List β) (k : Nat),¬ k < len → l (n + 1) z (k : Int) = some z) :
  ∀ (n : Nat) (z : List β) (k : Nat),k ≤ len → z.length = len → len - k < n → l n z (k : Int) = some (z.take k ++ (List.range' k (len - k)).map F)
 | 0,z,k,_,_,h => by omega
 | n + 1,z,k,hk,hz,h => by
  by_cases hlt : k < len
  ·rw [H n z k hlt hz,wrapS (by omega),fill_loop l len F hlen H H' n _ (k + 1) (by omega) (by rw [List.length_set]; exact hz) (by omega),show len - k = (len - (k + 1)) + 1 by omega,List.range'_succ,List.map_cons]
   congr 1
   rw [List.take_succ_eq_append_getElem (by rw [List.length_set]; omega),List.take_set_of_le (Nat.le_refl _),List.getElem_set_self,List.append_assoc,List.singleton_append]
  ·rw [H' n z k hlt,show len - k = 0 by omega]
   have : k = z.length := by omega
   subst this
   simp
/-- elements are put at the end,one a round -/
theorem app_loop {β : Type} (l : Nat → List β → Int → Option (List β)) (len : Nat) (F : Nat → β) (hlen : len < 2 ^ 62) (P : Nat → Nat → Prop)
  (H : ∀ (n : Nat) (z : List β) (k : Nat),k < len → P k z.length → l (n + 1) z (k : Int) = l n (z ++ [F k]) (IntKind.wrap .i64 ((k : Int) + 1)))
  (H' : ∀ (n : Nat) (z : List β) (k : Nat),¬ k < len → l (n + 1) z (k : Int) = some z) (hP : ∀ k j,k < len → P k j → P (k + 1) (j + 1)) :
  ∀ (n : Nat) (z : List β) (k : Nat),k ≤ len → P k z.length → len - k < n → l n z (k : Int) = some (z ++ (List.range' k (len - k)).map F)
 | 0,z,k,_,_,h => by omega
 | n + 1,z,k,hk,hp,h => by
  by_cases hlt : k < len
  ·rw [H n z k hlt hp,wrapS (by omega),app_loop l len F hlen P H H' hP n _ (k + 1) (by omega) (by rw [List.length_append]; exact hP _ _ hlt hp) (by omega),show len - k = (len - (k + 1)) + 1 by omega,List.range'_succ,List.map_cons]
   simp
  ·rw [H' n z k hlt,show len - k = 0 by omega]
   simp
theorem map_range_shift {β : Type} {F G : Nat → β} {k j m : Nat} (h : ∀ i,i < m → F (k + i) = G (j + i)) : (List.range' k m).map F = (List.range' j m).map G := by
 induction m generalizing k j with
 | zero => rfl
 | succ m ih =>
  have h0 := h 0 (by omega)
  rw [Nat.add_zero,Nat.add_zero] at h0
  rw [List.range'_succ,List.range'_succ,List.map_cons,List.map_cons,h0,ih fun i hi => by
   have := h (i + 1) (by omega)
   rw [show k + (i + 1) = k + 1 + i by omega,show j + (i + 1) = j + 1 + i by omega] at this
   exact this]
/-- marks -/
def marks {α : Type} (f : Int → α) (g : Int → Int) : Int → Nat → List α
 | _,0 => []
 | m,n + 1 => f m :: marks f g (g m) n
def iter (g : Int → Int) : Nat → Int → Int
 | 0,m => m
 | n + 1,m => iter g n (g m)
theorem marks_len {α : Type} (f : Int → α) (g : Int → Int) : ∀ (n : Nat) (m : Int),(marks f g m n).length = n
 | 0,_ => rfl
 | n + 1,m => by rw [marks,List.length_cons,marks_len f g n]
theorem marks_get {α : Type} [Inhabited α] (f : Int → α) (g : Int → Int) : ∀ (n : Nat) (m : Int) (i : Nat),i < n → (marks f g m n).getD i default = f (iter g i m)
 | 0,_,_,h => by omega
 | n + 1,m,0,_ => rfl
 | n + 1,m,i + 1,h => by
  rw [marks,List.getD_cons_succ,marks_get f g n (g m) i (by omega)]; rfl
theorem iter_succ (g : Int → Int) : ∀ (i : Nat) (m : Int),g (iter g i m) = iter g (i + 1) m
 | 0,_ => rfl
 | i + 1,m => by rw [iter,iter_succ g i (g m)]; rfl
theorem iter_add {g : Int → Int} {c : Nat} (hg : ∀ m : Int,0 ≤ m → m ≤ 2 ^ 60 → g m = m + c) : ∀ (n : Nat) (m : Int),0 ≤ m → m + ((c * n : Nat) : Int) ≤ 2 ^ 60 → iter g n m = m + ((c * n : Nat) : Int)
 | 0,m,_,_ => by simp [iter]
 | n + 1,m,h0,h => by
  rw [Nat.mul_succ] at h ⊢
  rw [iter,hg m h0 (by omega),iter_add hg n _ (by omega) (by omega)]
  omega
theorem mark_loop {α : Type} (l : Nat → List α → Int → Int → Option (Int × List α)) (f : Int → α) (g : Int → Int)
  (H : ∀ n z m k,l (n + 1) z m k = if (decide (k < ((z.length : Nat) : Int))) = true then need (inB k z.length) (l n (z.set k.toNat (f m)) (g m) (IntKind.wrap .i64 (k + 1))) else some (m,z)) :
  ∀ (n : Nat) (z : List α) (m : Int) (k : Nat),z.length < 2 ^ 62 → k ≤ z.length → z.length - k < n → l n z m (k : Int) = some (iter g (z.length - k) m,z.take k ++ marks f g m (z.length - k))
 | 0,z,m,k,_,_,h => by omega
 | n + 1,z,m,k,hz,hk,h => by
  rw [H]
  by_cases hlt : k < z.length
  ·rw [if_pos (by simp; omega),inB_nat]
   unfold need
   rw [if_pos (by simpa using hlt),wrapS (by omega),Int.toNat_natCast,mark_loop l f g H n _ (g m) (k + 1) (by rw [List.length_set]; exact hz) (by rw [List.length_set]; omega) (by rw [List.length_set]; omega),List.length_set,
    show z.length - k = (z.length - (k + 1)) + 1 by omega]
   congr 2
   rw [List.take_succ_eq_append_getElem (by rw [List.length_set]; omega),List.take_set_of_le (Nat.le_refl _),List.getElem_set_self,List.append_assoc,List.singleton_append]
   rfl
  ·rw [if_neg (by simp; omega),show z.length - k = 0 by omega]
   have : k = z.length := by omega
   subst this
   simp [iter,marks]
theorem mark_all {α : Type} (l : Nat → List α → Int → Int → Option (Int × List α)) (f : Int → α) (g : Int → Int) (x : List α) (m : Int) (hx : x.length < 2 ^ 62)
  (H : ∀ n z m k,l (n + 1) z m k = if (decide (k < ((z.length : Nat) : Int))) = true then need (inB k z.length) (l n (z.set k.toNat (f m)) (g m) (IntKind.wrap .i64 (k + 1))) else some (m,z)) :
  l (Int.toNat (((x.length : Nat) : Int) - 0) + 2) x m 0 = some (iter g x.length m,marks f g m x.length) := by
 have := mark_loop l f g H (Int.toNat (((x.length : Nat) : Int) - 0) + 2) x m 0 hx (Nat.zero_le _) (by omega)
 simpa using this
theorem held_all {α : Type} [Inhabited α] (l : Nat → Int → Int → Option (Bool × Int × Int)) (f : Int → α) (g : Int → Int) (e : α → Int → Bool) (x : List α) (m : Int) (len : Nat) (hx : x = marks f g m len) (hl : len < 2 ^ 62) (he : ∀ m,e (f m) m = true)
  (H : ∀ n m k,l (n + 1) m k = if (decide (k < ((x.length : Nat) : Int))) = true then need (inB k x.length) (if e (atI x k) m = true then l n (g m) (IntKind.wrap .i64 (k + 1)) else some (true,-1,default)) else some (false,default,m)) :
  l (Int.toNat (((x.length : Nat) : Int) - 0) + 2) m 0 = some (false,default,iter g len m) := by
 have hlen : x.length = len := by rw [hx,marks_len]
 have key : ∀ (n k : Nat),k ≤ len → len - k < n → l n (iter g k m) (k : Int) = some (false,default,iter g len m) := by
  intro n
  induction n with
  | zero => intro k _ h; omega
  | succ n ih =>
   intro k hk h
   rw [H,hlen]
   by_cases hlt : k < len
   ·rw [if_pos (by simp; omega),inB_nat]
    unfold need
    rw [if_pos (by simpa using hlt),atI_nat,hx,marks_get f g len m k hlt,if_pos (he _),wrapS (by omega),iter_succ g,ih (k + 1) (by omega) (by omega)]
   ·rw [if_neg (by simp; omega),show k = len by omega]
 have := key (Int.toNat (((x.length : Nat) : Int) - 0) + 2) 0 (Nat.zero_le _) (by omega)
 exact this
/-- a whole number made a float is itself -/
theorem feq_ofInt (n : Int) : feq .f32 (ofInt .f32 n) (ofInt .f32 n) = true := by
 rw [feq_self_iff]
 have h : isNaN .f32 (ofInt .f32 n) = false := by
  unfold isNaN ofInt
  show (FloatKind.f32.format.read (FloatKind.f32.nearest n)).isNaN = false
  rcases read_nearest .f32 (decide (n < 0)) n.natAbs 0 with ⟨m',e',h,_⟩ | h
  all_goals
   have h2 : FloatKind.f32.format.read (FloatKind.f32.nearest n) = _ := h
   rw [h2]; rfl
 rw [h]; rfl
end Go.Ab
namespace Go.Proofs
open Go.Ab
theorem sameFloat_refl (x : Nat) : m_laws_sameFloat x x = true := by
 unfold m_laws_sameFloat
 by_cases h : feq .f64 x x = true
 ·simp [h]
 ·simp [h]
end Go.Proofs
namespace Go.Proofs
open Go.Ab
theorem eq_Vector (a : Nat × Nat × Nat) : m_laws_eqVector a a = true := by unfold m_laws_eqVector; simp [sameFloat_refl]
end Go.Proofs
namespace Go.Proofs
open Go.Ab
abbrev K5 : Type := Int × Nat × Nat × Nat × Nat
abbrev B4 : Type := Int × Nat × Nat × Nat
abbrev ClipT : Type := Int × Int × List (List K5) × List B4
theorem eq_Turn (a : Nat × Nat × Nat × Nat) : m_laws_eqTurn a a = true := by unfold m_laws_eqTurn; simp [sameFloat_refl]
theorem eq_Key (a : K5) : m_laws_eqKey a a = true := by unfold m_laws_eqKey; simp [eq_Turn]
theorem eq_RootKey (a : B4) : m_laws_eqRootKey a a = true := by unfold m_laws_eqRootKey; simp [eq_Vector]
theorem eq_KeyS (x : List K5) (h : x.length ≤ 1048576) : m_laws_eqKeyS x x = true ∧ p_laws_eqKeyS x x = true := by
 unfold m_laws_eqKeyS p_laws_eqKeyS
 rw [show l_laws_eqKeyS_0 x x (Int.toNat (((List.length x : Nat) : Int) - 0) + 2) 0 = some (false,default,()) from eq_loop _ x m_laws_eqKey eq_Key (by omega) fun _ _ => rfl]; simp
theorem eq_RootKeyS (x : List B4) (h : x.length ≤ 1048576) : m_laws_eqRootKeyS x x = true ∧ p_laws_eqRootKeyS x x = true := by
 unfold m_laws_eqRootKeyS p_laws_eqRootKeyS
 rw [show l_laws_eqRootKeyS_0 x x (Int.toNat (((List.length x : Nat) : Int) - 0) + 2) 0 = some (false,default,()) from eq_loop _ x m_laws_eqRootKey eq_RootKey (by omega) fun _ _ => rfl]; simp
theorem to_KeyS (x : List K5) (h : x.length ≤ 1048576) : m_laws_toKeyS x = x ∧ p_laws_toKeyS x = true := by
 unfold m_laws_toKeyS p_laws_toKeyS
 rw [show l_laws_toKeyS_0 x (Int.toNat (((List.length x : Nat) : Int) - 0) + 2) (List.replicate (Int.toNat ((List.length x : Nat) : Int)) (0,0,0,0,0)) 0 = some x by
  rw [copy_all (l_laws_toKeyS_0 x) x m_laws_toKey _ (by omega) fun _ _ _ => rfl]
  congr 1
  exact List.map_id x]
 refine ⟨rfl,?_⟩
 simp; omega
theorem to_RootKeyS (x : List B4) (h : x.length ≤ 1048576) : m_laws_toRootKeyS x = x ∧ p_laws_toRootKeyS x = true := by
 unfold m_laws_toRootKeyS p_laws_toRootKeyS
 rw [show l_laws_toRootKeyS_0 x (Int.toNat (((List.length x : Nat) : Int) - 0) + 2) (List.replicate (Int.toNat ((List.length x : Nat) : Int)) (0,0,0,0)) 0 = some x by
  rw [copy_all (l_laws_toRootKeyS_0 x) x m_laws_toRootKey _ (by omega) fun _ _ _ => rfl]
  congr 1
  exact List.map_id x]
 refine ⟨rfl,?_⟩
 simp; omega
/-- all lists of a list are short -/
def ShortS (x : List (List K5)) : Prop := x.length ≤ 1048576 ∧ ∀ k,k < x.length → (x.getD k default).length ≤ 1048576
theorem map_getD {α : Type} [Inhabited α] (x : List α) : (List.range' 0 x.length).map (fun k => x.getD k default) = x := by
 apply List.ext_getElem (by simp)
 intro i h1 h2
 simp [h2]
theorem short_mem {x : List (List K5)} (h : ShortS x) : ∀ q ∈ x,q.length ≤ 1048576 := by
 intro q hq
 obtain ⟨i,hi⟩ := List.mem_iff_getElem?.1 hq
 have hlt := (List.getElem?_eq_some_iff.1 hi).1
 have := h.2 i hlt
 rwa [List.getD_eq_getElem?_getD,hi] at this
theorem to_KeySS (x : List (List K5)) (h : ShortS x) : m_laws_toKeySS x = x ∧ p_laws_toKeySS x = true := by
 have hm := short_mem h
 obtain ⟨h1,h2⟩ := h
 unfold m_laws_toKeySS p_laws_toKeySS
 refine ⟨?_,?_⟩
 ·have : List.map m_laws_toKeyS x = List.map id x := List.map_congr_left fun q hq => (to_KeyS q (hm q hq)).1
  rw [this,List.map_id]
 ·simp only [Bool.and_eq_true,decide_eq_true_eq,List.all_eq_true]
  exact ⟨by omega,by omega,fun q hq => (to_KeyS q (hm q hq)).2⟩
theorem eq_KeySS (x : List (List K5)) (h : ShortS x) : m_laws_eqKeySS x x = true ∧ p_laws_eqKeySS x x = true := by
 obtain ⟨h1,h2⟩ := h
 unfold m_laws_eqKeySS p_laws_eqKeySS
 have := all_loop (l_laws_eqKeySS_0 x x) x.length (fun _ => true) (by omega) (fun n k hk => by
   show (if (decide ((k : Int) < ((List.length x : Nat) : Int))) = true then _ else _) = _
   rw [if_pos (by simp; omega),inB_nat,atI_nat,(eq_KeyS _ (h2 k hk)).1,(eq_KeyS _ (h2 k hk)).2]
   unfold need
   rw [if_pos (by simp; omega),if_pos (by simp; omega),if_pos rfl]) (fun n k hk => by
   show (if (decide ((k : Int) < ((List.length x : Nat) : Int))) = true then _ else _) = _
   rw [if_neg (by simp; omega)]) (Int.toNat (((List.length x : Nat) : Int) - 0) + 2) 0 (Nat.zero_le _) (by omega)
 rw [show ((0 : Nat) : Int) = 0 from rfl,all_range_true (fun _ _ _ => rfl),if_pos rfl] at this
 rw [this]; simp
theorem sz_KeyS (x : List K5) (n : Int) (hx : x.length ≤ maxLen) (h0 : 0 ≤ n) (hn : n ≤ 1048576) : (m_laws_szKeyS x n < 0) ∨ (m_laws_szKeyS x n = n - x.length ∧ (x.length : Int) ≤ n) := by
 unfold m_laws_szKeyS
 have hx' : x.length ≤ 9223372036854775807 := by unfold maxLen at hx; omega
 rw [wrapI (by omega) (by omega)]
 by_cases h : n - ((List.length x : Nat) : Int) < 0
 ·left; simp [h]
 ·right; rw [if_neg (by simpa using h)]; exact ⟨rfl,by omega⟩
theorem sz_RootKeyS (x : List B4) (n : Int) (hx : x.length ≤ maxLen) (h0 : 0 ≤ n) (hn : n ≤ 1048576) (hs : ¬ (m_laws_szRootKeyS x n < 0)) : x.length ≤ 1048576 ∧ 0 ≤ m_laws_szRootKeyS x n ∧ m_laws_szRootKeyS x n ≤ 1048576 := by
 unfold m_laws_szRootKeyS at hs ⊢
 have hx' : x.length ≤ 9223372036854775807 := by unfold maxLen at hx; omega
 rw [wrapI (by omega) (by omega)] at hs ⊢
 by_cases h : n - ((List.length x : Nat) : Int) < 0
 ·simp [h] at hs
 ·rw [if_neg (by simpa using h)]; omega
theorem sz_loop (x : List (List K5)) (hl : x.length ≤ 1048576) (hx : ∀ k,k < x.length → (x.getD k default).length ≤ maxLen) : ∀ (n : Nat) (left : Int) (k : Nat),0 ≤ left → left ≤ 1048576 → k ≤ x.length → x.length - k < n →
  l_laws_szKeySS_0 x n left (k : Int) = some (true,-1,default) ∨ ∃ r,l_laws_szKeySS_0 x n left (k : Int) = some (false,default,r) ∧ 0 ≤ r ∧ r ≤ 1048576 ∧ ∀ i,k ≤ i → i < x.length → (x.getD i default).length ≤ 1048576
 | 0,left,k,_,_,_,h => by omega
 | n + 1,left,k,h0,h1,hk,h => by
  have e : l_laws_szKeySS_0 x (n + 1) left (k : Int) = (if (decide ((k : Int) < ((List.length x : Nat) : Int))) = true then (need (inB (k : Int) (List.length x)) (if (decide ((m_laws_szKeyS (atI x (k : Int)) left) < 0)) = true then (some (true,(-1),default)) else (l_laws_szKeySS_0 x n (m_laws_szKeyS (atI x (k : Int)) left) (IntKind.wrap .i64 ((k : Int) + 1))))) else (some (false,default,left))) := rfl
  rw [e]
  by_cases hlt : k < x.length
  ·rw [if_pos (by simp; omega),inB_nat]
   unfold need
   rw [if_pos (by simp; omega),atI_nat,wrapS (by omega)]
   rcases sz_KeyS (x.getD k default) left (hx k hlt) h0 h1 with hs | ⟨hs,hs2⟩
   ·left; rw [if_pos (by simpa using hs)]
   ·rw [if_neg (by rw [hs]; simp only [decide_eq_true_eq]; omega),hs]
    rcases sz_loop x hl hx n (left - ((x.getD k default).length : Nat)) (k + 1) (by omega) (by omega) (by omega) (by omega) with h | ⟨r,g1,g2,g3,g4⟩
    ·left; exact h
    ·right
     refine ⟨r,g1,g2,g3,fun i hi1 hi2 => ?_⟩
     by_cases hik : i = k
     ·subst hik; omega
     ·exact g4 i (by omega) hi2
  ·right
   rw [if_neg (by simp; omega)]
   exact ⟨left,rfl,h0,h1,fun i hi1 hi2 => by omega⟩
theorem sz_KeySS (x : List (List K5)) (n : Int) (hl : x.length ≤ maxLen) (hx : ∀ k,k < x.length → (x.getD k default).length ≤ maxLen) (h0 : 0 ≤ n) (hn : n ≤ 1048576) :
  p_laws_szKeySS x n = true ∧ (¬ (m_laws_szKeySS x n < 0) → ShortS x ∧ 0 ≤ m_laws_szKeySS x n ∧ m_laws_szKeySS x n ≤ 1048576) := by
 unfold p_laws_szKeySS m_laws_szKeySS
 have hx' : x.length ≤ 9223372036854775807 := by unfold maxLen at hl; omega
 rw [wrapI (by omega) (by omega)]
 by_cases h : n - ((List.length x : Nat) : Int) < 0
 ·simp [h]
 ·have hl' : x.length ≤ 1048576 := by omega
  rcases sz_loop x hl' hx (Int.toNat (((List.length x : Nat) : Int) - 0) + 2) (n - ((List.length x : Nat) : Int)) 0 (by omega) (by omega) (Nat.zero_le _) (by omega) with e | ⟨r,e,g2,g3,g4⟩
  ·rw [show ((0 : Nat) : Int) = 0 from rfl] at e
   rw [e]; simp [h]
  ·rw [show ((0 : Nat) : Int) = 0 from rfl] at e
   rw [e]
   refine ⟨by simp,fun _ => ⟨⟨hl',fun k hk => g4 k (Nat.zero_le _) hk⟩,?_⟩⟩
   simp [h]; omega
def ShortC (c : ClipT) : Prop := ShortS c.2.2.1 ∧ c.2.2.2.length ≤ 1048576
def HasC' (c : ClipT) : Prop := c.2.2.1.length ≤ maxLen ∧ (∀ k,k < c.2.2.1.length → (c.2.2.1.getD k default).length ≤ maxLen) ∧ c.2.2.2.length ≤ maxLen
theorem sz_Clip (c : ClipT) (n : Int) (hc : HasC' c) (h0 : 0 ≤ n) (hn : n ≤ 1048576) : p_laws_szClip c n = true ∧ (¬ (m_laws_szClip c n < 0) → ShortC c ∧ 0 ≤ m_laws_szClip c n ∧ m_laws_szClip c n ≤ 1048576) := by
 obtain ⟨a1,a2⟩ := sz_KeySS c.2.2.1 n hc.1 hc.2.1 h0 hn
 unfold p_laws_szClip m_laws_szClip
 refine ⟨a1,fun h => ?_⟩
 by_cases h1 : m_laws_szKeySS c.2.2.1 n < 0
 ·simp [h1] at h
 ·obtain ⟨b1,b2,b3⟩ := a2 h1
  by_cases h2 : m_laws_szRootKeyS c.2.2.2 (m_laws_szKeySS c.2.2.1 n) < 0
  ·simp [h1,h2] at h
  ·obtain ⟨d1,d2,d3⟩ := sz_RootKeyS c.2.2.2 _ hc.2.2 b2 b3 h2
   refine ⟨⟨b1,d1⟩,?_⟩
   simp [h1,h2]; omega
theorem to_Clip (c : ClipT) (h : ShortC c) : m_laws_toClip c = c ∧ p_laws_toClip c = true := by
 unfold m_laws_toClip p_laws_toClip
 rw [(to_KeySS _ h.1).1,(to_KeySS _ h.1).2,(to_RootKeyS _ h.2).1,(to_RootKeyS _ h.2).2]
 exact ⟨rfl,rfl⟩
theorem eq_Clip (c : ClipT) (h : ShortC c) : m_laws_eqClip c c = true ∧ p_laws_eqClip c c = true := by
 unfold m_laws_eqClip p_laws_eqClip
 rw [(eq_KeySS _ h.1).1,(eq_KeySS _ h.1).2,(eq_RootKeyS _ h.2).1,(eq_RootKeyS _ h.2).2]
 simp
theorem has_of {x : List (List K5)} (h : ∀ q ∈ x,List.length q ≤ maxLen ∧ (∀ qq ∈ q,(Lit.int .i64 qq.1).wf = true ∧ Canon .f32 qq.2.1 ∧ Canon .f32 qq.2.2.1 ∧ Canon .f32 qq.2.2.2.1 ∧ Canon .f32 qq.2.2.2.2)) : ∀ k,k < x.length → (x.getD k default).length ≤ maxLen := by
 intro k hk
 rw [← atI_nat,atI_lt x hk]
 exact (h _ (List.getElem_mem hk)).1
end Go.Proofs
namespace Go.Proofs
open Go.Ab
theorem l00In_iff (a b c : Int) : m_spec_l00In a b c = (decide (b ≤ a) && decide (a ≤ c)) := by
 unfold m_spec_l00In; cases decide (b ≤ a) <;> simp
def lastOf (t : Nat → Int) (k : Nat) : Int := if k = 0 then -1 else t (k - 1)
def cI (t : Nat → Int) (L : Int) (k : Nat) : Bool := !(decide (t k ≤ lastOf t k)) && !(decide (L < t k))
def cS (t : Nat → Int) (L : Int) (k : Nat) : Bool := (decide (0 ≤ t k) && decide (t k ≤ L)) && (decide (k = 0) || !(decide (t k ≤ t (k - 1))))
theorem all_snoc (c : Nat → Bool) (m : Nat) : (List.range' 0 (m + 1)).all c = ((List.range' 0 m).all c && c m) := by
 rw [List.range'_concat]; simp
theorem all_cIS (t : Nat → Int) (L : Int) : ∀ m,(List.range' 0 m).all (cI t L) = (List.range' 0 m).all (cS t L)
 | 0 => rfl
 | m + 1 => by
  rw [all_snoc,all_snoc,all_cIS t L m]
  cases hq : (List.range' 0 m).all (cS t L) with
  | false => rfl
  | true =>
   rw [Bool.true_and,Bool.true_and]
   unfold cI cS lastOf
   by_cases h0 : m = 0
   ·subst h0
    by_cases h1 : t 0 ≤ -1
    ·have : ¬ 0 ≤ t 0 := by omega
     simp [h1,this]
    ·have h2 : 0 ≤ t 0 := by omega
     by_cases h3 : L < t 0
     ·have : ¬ t 0 ≤ L := by omega
      simp [h1,h2,h3,this]
     ·have : t 0 ≤ L := by omega
      simp [h1,h2,h3,this]
   ·have hp : cS t L (m - 1) = true := List.all_eq_true.1 hq (m - 1) (by rw [List.mem_range']; exact ⟨m - 1,by omega,by omega⟩)
    unfold cS at hp
    simp only [Bool.and_eq_true,decide_eq_true_eq] at hp
    have hp0 := hp.1.1
    by_cases h1 : t m ≤ t (m - 1)
    ·simp [h0,h1]
    ·have h2 : 0 ≤ t m := by omega
     by_cases h3 : L < t m
     ·have : ¬ t m ≤ L := by omega
      simp [h0,h1,h2,h3,this]
     ·have : t m ≤ L := by omega
      simp [h0,h1,h2,h3,this]
theorem impl_valid (l : Nat → Int → Int → Option (Bool × Bool × Unit)) (t : Nat → Int) (len : Nat) (L : Int) (hlen : len < 2 ^ 62)
  (H : ∀ (n : Nat) (last : Int) (k : Nat),k < len → l (n + 1) last (k : Int) = if (decide (t k ≤ last)) = true then some (true,false,default) else if (decide (L < t k)) = true then some (true,false,default) else l n (t k) (IntKind.wrap .i64 ((k : Int) + 1)))
  (H' : ∀ (n : Nat) (last : Int) (k : Nat),¬ k < len → l (n + 1) last (k : Int) = some (false,default,())) :
  ∀ (n k : Nat),k ≤ len → len - k < n → l n (lastOf t k) (k : Int) = some (if (List.range' k (len - k)).all (cI t L) = true then (false,default,()) else (true,false,default))
 | 0,k,_,h => by omega
 | n + 1,k,hk,h => by
  by_cases hlt : k < len
  ·rw [H n _ k hlt,show len - k = (len - (k + 1)) + 1 by omega,List.range'_succ,List.all_cons,wrapS (by omega)]
   have ih := impl_valid l t len L hlen H H' n (k + 1) (by omega) (by omega)
   have e : lastOf t (k + 1) = t k := by unfold lastOf; simp
   rw [e] at ih
   rw [ih]
   have ec : cI t L k = (!(decide (t k ≤ lastOf t k)) && !(decide (L < t k))) := rfl
   rw [ec]
   cases decide (t k ≤ lastOf t k) <;> cases decide (L < t k) <;> first | rfl | simp
  ·rw [H' n _ k hlt,show len - k = 0 by omega]
   rfl
theorem atI_times (t : Nat → Int) {len k : Nat} (h : k < len) : atI ((List.range' 0 len).map t) (k : Int) = t k := by
 rw [atI_nat,List.getD_eq_getElem?_getD]
 simp [h]
theorem spec_times (t : Nat → Int) (len : Nat) (L : Int) (hlen : len ≤ 1048576) : l_spec_l05Times_0 ((List.range' 0 len).map t) L (Int.toNat (((List.length ((List.range' 0 len).map t) : Nat) : Int) - 0) + 2) 0 = some (if (List.range' 0 len).all (cS t L) = true then (false,default,()) else (true,false,default)) := by
 have hL : ((List.range' 0 len).map t).length = len := by simp
 have := all_loop (l_spec_l05Times_0 ((List.range' 0 len).map t) L) len (cS t L) (by omega) (fun n k hk => by
   show (if (decide ((k : Int) < ((List.length ((List.range' 0 len).map t) : Nat) : Int))) = true then _ else _) = _
   rw [if_pos (by rw [hL]; simp; omega),inB_nat,hL,atI_times t hk]
   unfold need
   rw [if_pos (by simp; omega),l00In_iff]
   have ec : cS t L k = ((decide (0 ≤ t k) && decide (t k ≤ L)) && (decide (k = 0) || !(decide (t k ≤ t (k - 1))))) := rfl
   rw [ec]
   by_cases h0 : k = 0
   ·subst h0
    cases decide (0 ≤ t 0) && decide (t 0 ≤ L) <;> simp
   ·have ew : IntKind.wrap .i64 ((k : Int) - 1) = ((k - 1 : Nat) : Int) := by rw [wrapI (by omega) (by omega)]; omega
    rw [ew,inB_nat,atI_times t (show k - 1 < len by omega)]
    have e1 : decide (k - 1 < len) = true := by simp; omega
    have e2 : decide ((0 : Int) < (k : Int)) = true := by simp; omega
    rw [e1,e2]
    cases decide (0 ≤ t k) && decide (t k ≤ L) <;> cases decide (t k ≤ t (k - 1)) <;> simp [h0]) (fun n k hk => by
   show (if (decide ((k : Int) < ((List.length ((List.range' 0 len).map t) : Nat) : Int))) = true then _ else _) = _
   rw [if_neg (by rw [hL]; simp; omega)]) (Int.toNat (((List.length ((List.range' 0 len).map t) : Nat) : Int) - 0) + 2) 0 (Nat.zero_le _) (by omega)
 exact this
def tK (x : List K5) (k : Nat) : Int := (x.getD k default).1
def tR (x : List B4) (k : Nat) : Int := (x.getD k default).1
theorem at_eq (x : List K5) (h : x.length ≤ 1048576) : m_spec_l05At x = (List.range' 0 x.length).map (tK x) ∧ p_spec_l05At x = true := by
 have := app_loop (l_spec_l05At_0 x) x.length (tK x) (by omega) (fun k j => k = j) (fun n z k hk hj => by
   show (if (decide ((k : Int) < ((List.length x : Nat) : Int))) = true then _ else _) = _
   rw [if_pos (by simp; omega),inB_nat,atI_nat]
   unfold need
   rw [if_pos (by simp; omega),if_pos (by simp; omega),if_pos (by simp; omega)]
   rfl) (fun n z k hk => by
   show (if (decide ((k : Int) < ((List.length x : Nat) : Int))) = true then _ else _) = _
   rw [if_neg (by simp; omega)]) (fun k j _ h => by omega) (Int.toNat (((List.length x : Nat) : Int) - 0) + 2) [] 0 (Nat.zero_le _) (by simp) (by omega)
 have e : l_spec_l05At_0 x (Int.toNat (((List.length x : Nat) : Int) - 0) + 2) [] 0 = some ((List.range' 0 x.length).map (tK x)) := this
 unfold m_spec_l05At p_spec_l05At
 rw [e]; exact ⟨rfl,rfl⟩
theorem rootAt_eq (x : List B4) (h : x.length ≤ 1048576) : m_spec_l05RootAt x = (List.range' 0 x.length).map (tR x) ∧ p_spec_l05RootAt x = true := by
 have := app_loop (l_spec_l05RootAt_0 x) x.length (tR x) (by omega) (fun k j => k = j) (fun n z k hk hj => by
   show (if (decide ((k : Int) < ((List.length x : Nat) : Int))) = true then _ else _) = _
   rw [if_pos (by simp; omega),inB_nat,atI_nat]
   unfold need
   rw [if_pos (by simp; omega),if_pos (by simp; omega),if_pos (by simp; omega)]
   rfl) (fun n z k hk => by
   show (if (decide ((k : Int) < ((List.length x : Nat) : Int))) = true then _ else _) = _
   rw [if_neg (by simp; omega)]) (fun k j _ h => by omega) (Int.toNat (((List.length x : Nat) : Int) - 0) + 2) [] 0 (Nat.zero_le _) (by simp) (by omega)
 have e : l_spec_l05RootAt_0 x (Int.toNat (((List.length x : Nat) : Int) - 0) + 2) [] 0 = some ((List.range' 0 x.length).map (tR x)) := this
 unfold m_spec_l05RootAt p_spec_l05RootAt
 rw [e]; exact ⟨rfl,rfl⟩
/-- what a track has to be -/
def okT (t : Nat → Int) (len : Nat) (L : Int) : Bool := (List.range' 0 len).all (cS t L) && (decide (1 ≤ (len : Int)) && decide ((len : Int) ≤ 12))
theorem times_ok (t : Nat → Int) (len : Nat) (L : Int) (hlen : len ≤ 1048576) : m_spec_l05Times ((List.range' 0 len).map t) L = okT t len L ∧ p_spec_l05Times ((List.range' 0 len).map t) L = true := by
 unfold m_spec_l05Times p_spec_l05Times okT
 rw [spec_times t len L hlen]
 cases (List.range' 0 len).all (cS t L) with
 | false => simp
 | true =>
  simp only [if_true,Option.getD_some,Option.isSome_some,Bool.false_eq_true,if_false,Bool.true_and,List.length_map,List.length_range',and_true]
  by_cases h : (1 : Int) ≤ (len : Int)
  ·simp [h]
  ·simp [h]
theorem key_ok (x : List K5) (L : Int) (h : x.length ≤ 1048576) : m_impl_Key_valid ((),(),()) x L = okT (tK x) x.length L ∧ p_impl_Key_valid ((),(),()) x L = true := by
 have := impl_valid (l_impl_Key_valid_0 x L) (tK x) x.length L (by omega) (fun n last k hk => by
   show (if (decide ((k : Int) < ((List.length x : Nat) : Int))) = true then _ else _) = _
   rw [if_pos (by simp; omega),inB_nat,atI_nat]
   unfold need
   rw [if_pos (by simp; omega)]
   rfl) (fun n last k hk => by
   show (if (decide ((k : Int) < ((List.length x : Nat) : Int))) = true then _ else _) = _
   rw [if_neg (by simp; omega)]) (Int.toNat (((List.length x : Nat) : Int) - 0) + 2) 0 (Nat.zero_le _) (by omega)
 have e : l_impl_Key_valid_0 x L (Int.toNat (((List.length x : Nat) : Int) - 0) + 2) (-1) 0 = some (if (List.range' 0 x.length).all (cI (tK x) L) = true then (false,default,()) else (true,false,default)) := this
 unfold m_impl_Key_valid p_impl_Key_valid okT
 rw [e,all_cIS]
 cases (List.range' 0 x.length).all (cS (tK x) L) with
 | false => simp
 | true =>
  simp only [if_true,Option.getD_some,Option.isSome_some,Bool.false_eq_true,if_false,Bool.true_and,and_true]
  by_cases h : (1 : Int) ≤ ((List.length x : Nat) : Int)
  ·simp [h]
  ·simp [h]
theorem root_ok (x : List B4) (L : Int) (h : x.length ≤ 1048576) : m_impl_RootKey_valid ((),(),()) x L = okT (tR x) x.length L ∧ p_impl_RootKey_valid ((),(),()) x L = true := by
 have := impl_valid (l_impl_RootKey_valid_0 x L) (tR x) x.length L (by omega) (fun n last k hk => by
   show (if (decide ((k : Int) < ((List.length x : Nat) : Int))) = true then _ else _) = _
   rw [if_pos (by simp; omega),inB_nat,atI_nat]
   unfold need
   rw [if_pos (by simp; omega)]
   rfl) (fun n last k hk => by
   show (if (decide ((k : Int) < ((List.length x : Nat) : Int))) = true then _ else _) = _
   rw [if_neg (by simp; omega)]) (Int.toNat (((List.length x : Nat) : Int) - 0) + 2) 0 (Nat.zero_le _) (by omega)
 have e : l_impl_RootKey_valid_0 x L (Int.toNat (((List.length x : Nat) : Int) - 0) + 2) (-1) 0 = some (if (List.range' 0 x.length).all (cI (tR x) L) = true then (false,default,()) else (true,false,default)) := this
 unfold m_impl_RootKey_valid p_impl_RootKey_valid okT
 rw [e,all_cIS]
 cases (List.range' 0 x.length).all (cS (tR x) L) with
 | false => simp
 | true =>
  simp only [if_true,Option.getD_some,Option.isSome_some,Bool.false_eq_true,if_false,Bool.true_and,and_true]
  by_cases h : (1 : Int) ≤ ((List.length x : Nat) : Int)
  ·simp [h]
  ·simp [h]
def okTracks (c : ClipT) : Bool := (List.range' 0 c.2.2.1.length).all fun k => okT (tK (c.2.2.1.getD k default)) (c.2.2.1.getD k default).length c.1
def okClip (c : ClipT) : Bool := (decide (1 ≤ c.1) && decide (c.1 ≤ 1000)) && ((decide (0 ≤ c.2.1) && decide (c.2.1 ≤ 2)) && ((decide (1 ≤ ((List.length c.2.2.1 : Nat) : Int)) && decide (((List.length c.2.2.1 : Nat) : Int) ≤ 12)) && (okTracks c && okT (tR c.2.2.2) c.2.2.2.length c.1)))
theorem spec_tracks (c : ClipT) (h : ShortC c) : l_spec_l05Is_0 c (Int.toNat (((List.length c.2.2.1 : Nat) : Int) - 0) + 2) 0 = some (if okTracks c = true then (false,default,()) else (true,false,default)) := by
 have h1 := h.1.1
 have := all_loop (l_spec_l05Is_0 c) c.2.2.1.length (fun k => okT (tK (c.2.2.1.getD k default)) (c.2.2.1.getD k default).length c.1) (by omega) (fun n k hk => by
   show (if (decide ((k : Int) < ((List.length c.2.2.1 : Nat) : Int))) = true then _ else _) = _
   have hs := h.1.2 k hk
   rw [if_pos (by simp; omega),inB_nat,atI_nat,(at_eq _ hs).1,(at_eq _ hs).2,(times_ok _ _ _ hs).1,(times_ok _ _ _ hs).2]
   unfold need
   rw [if_pos (by simp; omega),if_pos rfl,if_pos rfl]) (fun n k hk => by
   show (if (decide ((k : Int) < ((List.length c.2.2.1 : Nat) : Int))) = true then _ else _) = _
   rw [if_neg (by simp; omega)]) (Int.toNat (((List.length c.2.2.1 : Nat) : Int) - 0) + 2) 0 (Nat.zero_le _) (by omega)
 exact this
theorem impl_tracks (c : ClipT) (h : ShortC c) : l_impl_ValidClip_0 c (Int.toNat (((List.length c.2.2.1 : Nat) : Int) - 0) + 2) 0 = some (if okTracks c = true then (false,default,()) else (true,false,default)) := by
 have h1 := h.1.1
 have := all_loop (l_impl_ValidClip_0 c) c.2.2.1.length (fun k => okT (tK (c.2.2.1.getD k default)) (c.2.2.1.getD k default).length c.1) (by omega) (fun n k hk => by
   show (if (decide ((k : Int) < ((List.length c.2.2.1 : Nat) : Int))) = true then _ else _) = _
   have hs := h.1.2 k hk
   rw [if_pos (by simp; omega),inB_nat,atI_nat,(key_ok _ _ hs).1,(key_ok _ _ hs).2]
   unfold need
   rw [if_pos (by simp; omega),if_pos rfl]) (fun n k hk => by
   show (if (decide ((k : Int) < ((List.length c.2.2.1 : Nat) : Int))) = true then _ else _) = _
   rw [if_neg (by simp; omega)]) (Int.toNat (((List.length c.2.2.1 : Nat) : Int) - 0) + 2) 0 (Nat.zero_le _) (by omega)
 exact this
theorem core_ValidClip (c : ClipT) (h : ShortC c) : p_impl_ValidClip c = true ∧ p_spec_l05Is c = true ∧ m_impl_ValidClip c = okClip c ∧ m_spec_l05Is c = okClip c := by
 unfold p_impl_ValidClip p_spec_l05Is m_impl_ValidClip m_spec_l05Is okClip
 rw [spec_tracks c h,impl_tracks c h,l00In_iff,l00In_iff,(root_ok _ _ h.2).1,(root_ok _ _ h.2).2,(rootAt_eq _ h.2).1,(rootAt_eq _ h.2).2,(times_ok _ _ _ h.2).1,(times_ok _ _ _ h.2).2]
 have f : ∀ a b : Int,decide (a < b) = !(decide (b ≤ a)) := by
  intro a b
  by_cases hh : a < b
  ·have : ¬ b ≤ a := by omega
   simp [hh,this]
  ·have : b ≤ a := by omega
   simp [hh,this]
 rw [f c.1 1,f 1000 c.1,f c.2.1 0,f 2 c.2.1,f _ 1,f 12 _]
 cases decide (1 ≤ c.1) <;> cases decide (c.1 ≤ 1000) <;> cases decide (0 ≤ c.2.1) <;> cases decide (c.2.1 ≤ 2) <;> cases decide (1 ≤ ((List.length c.2.2.1 : Nat) : Int)) <;> cases decide (((List.length c.2.2.1 : Nat) : Int) ≤ 12) <;> cases okTracks c <;> simp
end Go.Proofs
namespace Go.Proofs
open Go.Ab
def gK (m : Int) : Int := IntKind.wrap .i64 ((IntKind.wrap .i64 ((IntKind.wrap .i64 ((IntKind.wrap .i64 ((IntKind.wrap .i64 (m + 1)) + 1)) + 1)) + 1)) + 1)
theorem gK_add (m : Int) (h0 : 0 ≤ m) (h : m ≤ 2 ^ 60) : gK m = m + (5 : Nat) := by
 unfold gK
 rw [wrapI (n := m + 1) (by omega) (by omega),wrapI (n := m + 1 + 1) (by omega) (by omega),wrapI (n := m + 1 + 1 + 1) (by omega) (by omega),wrapI (n := m + 1 + 1 + 1 + 1) (by omega) (by omega),wrapI (by omega) (by omega)]
 omega
def fK (z0_1 : Int) : K5 := (z0_1,(ofInt .f32 (IntKind.wrap .i64 (z0_1 + 1))),(ofInt .f32 (IntKind.wrap .i64 ((IntKind.wrap .i64 (z0_1 + 1)) + 1))),(ofInt .f32 (IntKind.wrap .i64 ((IntKind.wrap .i64 ((IntKind.wrap .i64 (z0_1 + 1)) + 1)) + 1))),(ofInt .f32 (IntKind.wrap .i64 ((IntKind.wrap .i64 ((IntKind.wrap .i64 ((IntKind.wrap .i64 (z0_1 + 1)) + 1)) + 1)) + 1))))
theorem mark_KeyS (x : List K5) (m : Int) (h : x.length ≤ 1048576) : m_laws_markKeyS x m = (iter gK x.length m,marks fK gK m x.length) ∧ p_laws_markKeyS x m = true := by
 unfold m_laws_markKeyS p_laws_markKeyS
 rw [mark_all l_laws_markKeyS_0 fK gK x m (by omega) fun _ _ _ _ => rfl]
 simp [marks_len]
def gR (m : Int) : Int := IntKind.wrap .i64 ((IntKind.wrap .i64 ((IntKind.wrap .i64 ((IntKind.wrap .i64 (m + 1)) + 1)) + 1)) + 1)
theorem gR_add (m : Int) (h0 : 0 ≤ m) (h : m ≤ 2 ^ 60) : gR m = m + (4 : Nat) := by
 unfold gR
 rw [wrapI (n := m + 1) (by omega) (by omega),wrapI (n := m + 1 + 1) (by omega) (by omega),wrapI (n := m + 1 + 1 + 1) (by omega) (by omega),wrapI (by omega) (by omega)]
 omega
def fR (z0_1 : Int) : B4 := (z0_1,(ofInt .f32 (IntKind.wrap .i64 (z0_1 + 1))),(ofInt .f32 (IntKind.wrap .i64 ((IntKind.wrap .i64 (z0_1 + 1)) + 1))),(ofInt .f32 (IntKind.wrap .i64 ((IntKind.wrap .i64 ((IntKind.wrap .i64 (z0_1 + 1)) + 1)) + 1))))
theorem mark_RootKeyS (x : List B4) (m : Int) (h : x.length ≤ 1048576) : m_laws_markRootKeyS x m = (iter gR x.length m,marks fR gR m x.length) ∧ p_laws_markRootKeyS x m = true := by
 unfold m_laws_markRootKeyS p_laws_markRootKeyS
 rw [mark_all l_laws_markRootKeyS_0 fR gR x m (by omega) fun _ _ _ _ => rfl]
 simp [marks_len]
theorem mark_SS : ∀ (x : List (List K5)) (k : Int),(∀ q ∈ x,q.length ≤ 1048576) → 0 ≤ k → k + 5242880 * (x.length : Int) ≤ 2 ^ 59 →
  0 ≤ (mkSS m_laws_markKeyS x k).1 ∧ (mkSS m_laws_markKeyS x k).1 ≤ k + 5242880 * (x.length : Int) ∧ pSS m_laws_markKeyS (fun x k => (p_laws_markKeyS x k && (decide (List.length (m_laws_markKeyS x k).2 = List.length x)))) x k = true
 | [],k,_,h0,_ => ⟨h0,by simp [mkSS],rfl⟩
 | q :: r,k,hq,h0,h1 => by
  have hql := hq q List.mem_cons_self
  obtain ⟨a1,a2⟩ := mark_KeyS q k hql
  simp only [List.length_cons] at h1
  have e : (m_laws_markKeyS q k).1 = k + ((5 * q.length : Nat) : Int) := by
   rw [a1]
   exact iter_add gK_add q.length k h0 (by omega)
  have ih := mark_SS r (m_laws_markKeyS q k).1 (fun z hz => hq z (List.mem_cons_of_mem _ hz)) (by omega) (by omega)
  refine ⟨ih.1,?_,?_⟩
  ·have := ih.2.1
   simp only [mkSS,List.length_cons]
   omega
  ·simp only [pSS,ih.2.2,a2,Bool.true_and,Bool.and_true,decide_eq_true_eq]
   rw [a1]; exact marks_len _ _ _ _
theorem mark_Clip (c : ClipT) (h : ShortC c) : p_laws_markClip c 1 = true ∧ ¬ (m_laws_markClip c 1).1 < 0 ∧ (m_laws_markClip c 1).2.1.length = c.2.2.1.length ∧ (m_laws_markClip c 1).2.2.length = c.2.2.2.length := by
 have hl := h.1.1
 obtain ⟨a1,a2,a3⟩ := mark_SS c.2.2.1 1 (short_mem h.1) (by omega) (by omega)
 have hr := h.2
 obtain ⟨b1,b2⟩ := mark_RootKeyS c.2.2.2 (mkSS m_laws_markKeyS c.2.2.1 1).1 hr
 have e : (iter gR c.2.2.2.length (mkSS m_laws_markKeyS c.2.2.1 1).1) = (mkSS m_laws_markKeyS c.2.2.1 1).1 + ((4 * c.2.2.2.length : Nat) : Int) := iter_add gR_add _ _ a1 (by omega)
 unfold p_laws_markClip m_laws_markClip p_laws_markKeySS m_laws_markKeySS
 simp only [b1,b2,a3,marks_len,mkSS_len,decide_true,Bool.and_true,e,and_true]
 refine ⟨by simp; omega,by omega⟩
end Go.Proofs
namespace Go.Proofs
open Go.Ab
theorem eq_Int64S (x : List Int) (h : x.length ≤ 1048576) : m_laws_eqInt64S x x = true ∧ p_laws_eqInt64S x x = true := by
 unfold m_laws_eqInt64S p_laws_eqInt64S
 rw [show l_laws_eqInt64S_0 x x (Int.toNat (((List.length x : Nat) : Int) - 0) + 2) 0 = some (false,default,()) from eq_loop _ x (fun a b => decide (a = b)) (fun _ => by simp) (by omega) fun _ _ => rfl]; simp
def gI (m : Int) : Int := IntKind.wrap .i64 (m + 1)
theorem gI_add (m : Int) (h0 : 0 ≤ m) (h : m ≤ 2 ^ 60) : gI m = m + (1 : Nat) := wrapI (by omega) (by omega)
theorem mark_Int64S (x : List Int) (m : Int) (h : x.length ≤ 1048576) : m_laws_markInt64S x m = (iter gI x.length m,marks id gI m x.length) ∧ p_laws_markInt64S x m = true := by
 unfold m_laws_markInt64S p_laws_markInt64S
 rw [show l_laws_markInt64S_0 (Int.toNat (((List.length x : Nat) : Int) - 0) + 2) x m 0 = some (iter gI x.length m,marks id gI m x.length) from mark_all _ id gI x m (by omega) fun _ _ _ _ => rfl]
 exact ⟨rfl,by simp [marks_len]⟩
theorem held_Int64S (n : Nat) (m : Int) (h : n ≤ 1048576) : m_laws_heldInt64S (marks id gI m n) m = iter gI n m ∧ p_laws_heldInt64S (marks id gI m n) m = true := by
 unfold m_laws_heldInt64S p_laws_heldInt64S
 rw [show l_laws_heldInt64S_0 (marks id gI m n) (Int.toNat (((List.length (marks id gI m n) : Nat) : Int) - 0) + 2) m 0 = some (false,default,iter gI n m) from
  held_all _ id gI (fun a m => decide (a = m)) _ m n rfl (by omega) (fun m => by simp) fun _ _ _ => rfl]
 exact ⟨by simp,rfl⟩
end Go.Proofs
namespace Go.Ab
/-- a number put into a rising list,once -/
def putI : List Int → Int → List Int
 | [],a => [a]
 | y :: r,a => if a ≤ y then (if a < y then a :: y :: r else y :: r) else y :: putI r a
theorem put_mem : ∀ (z : List Int) (a b : Int),b ∈ putI z a ↔ b = a ∨ b ∈ z
 | [],a,b => by simp [putI]
 | y :: r,a,b => by
  unfold putI
  split
  ·split
   ·simp
   ·have : a = y := by omega
    subst this; simp
  ·simp only [List.mem_cons,put_mem r a b]
   constructor
   ·rintro (h | h | h) <;> simp [h]
   ·rintro (h | h | h) <;> simp [h]
theorem put_rise : ∀ (z : List Int) (a : Int),z.Pairwise (· < ·) → (putI z a).Pairwise (· < ·)
 | [],a,_ => by simp [putI]
 | y :: r,a,h => by
  obtain ⟨h1,h2⟩ := List.pairwise_cons.1 h
  unfold putI
  split
  ·split
   ·rename_i hlt
    refine List.pairwise_cons.2 ⟨fun b hb => ?_,h⟩
    rcases List.mem_cons.1 hb with rfl | hb
    ·exact hlt
    ·have := h1 b hb; omega
   ·exact h
  ·refine List.pairwise_cons.2 ⟨fun b hb => ?_,put_rise r a h2⟩
   rcases (put_mem r a b).1 hb with rfl | hb
   ·omega
   ·exact h1 b hb
theorem put_len : ∀ (z : List Int) (a : Int),(putI z a).length ≤ z.length + 1
 | [],a => by simp [putI]
 | y :: r,a => by
  unfold putI
  split
  ·split <;> simp
  ·have := put_len r a
   simp; omega
theorem puts_len : ∀ (l z : List Int),(l.foldl putI z).length ≤ z.length + l.length
 | [],z => by simp
 | a :: l,z => by
  have h1 := puts_len l (putI z a)
  have h2 := put_len z a
  simp only [List.foldl_cons,List.length_cons]
  omega
theorem puts_mem : ∀ (l z : List Int) (b : Int),b ∈ l.foldl putI z ↔ b ∈ z ∨ b ∈ l
 | [],z,b => by simp
 | a :: l,z,b => by
  rw [List.foldl_cons,puts_mem l (putI z a) b,put_mem]
  simp only [List.mem_cons]
  constructor
  ·rintro ((h | h) | h) <;> simp [h]
  ·rintro (h | h | h) <;> simp [h]
theorem puts_rise : ∀ (l z : List Int),z.Pairwise (· < ·) → (l.foldl putI z).Pairwise (· < ·)
 | [],z,h => h
 | a :: l,z,h => puts_rise l _ (put_rise z a h)
/-- rising lists of the same numbers are one -/
theorem rise_ext : ∀ (xs ys : List Int),xs.Pairwise (· < ·) → ys.Pairwise (· < ·) → (∀ b,b ∈ xs ↔ b ∈ ys) → xs = ys
 | [],[],_,_,_ => rfl
 | [],y :: ys,_,_,h => absurd ((h y).2 List.mem_cons_self) (by simp)
 | x :: xs,[],_,_,h => absurd ((h x).1 List.mem_cons_self) (by simp)
 | x :: xs,y :: ys,h1,h2,h => by
  obtain ⟨a1,a2⟩ := List.pairwise_cons.1 h1
  obtain ⟨b1,b2⟩ := List.pairwise_cons.1 h2
  have e : x = y := by
   rcases List.mem_cons.1 ((h x).1 List.mem_cons_self) with e | hx
   ·exact e
   ·rcases List.mem_cons.1 ((h y).2 List.mem_cons_self) with e | hy
    ·exact e.symm
    ·have := b1 x hx; have := a1 y hy; omega
  subst e
  rw [rise_ext xs ys a2 b2 fun b => ?_]
  have hb := h b
  simp only [List.mem_cons] at hb
  constructor
  ·intro hx
   rcases hb.1 (.inr hx) with e | e
   ·subst e; exact absurd (a1 b hx) (by omega)
   ·exact e
  ·intro hx
   rcases hb.2 (.inr hx) with e | e
   ·subst e; exact absurd (b1 b hx) (by omega)
   ·exact e
theorem uniq_rise {xs : List Int} (h : xs.Pairwise (· ≤ ·)) : ∀ m,m ≤ xs.length → (Lib.compactUpTo xs.toArray m).Pairwise (· < ·) ∧ ∀ b,b ∈ Lib.compactUpTo xs.toArray m ↔ ∃ j,j < m ∧ xs.toArray[j]! = b
 | 0,_ => ⟨by simp [Lib.compactUpTo],fun b => by simp [Lib.compactUpTo]⟩
 | m + 1,hm => by
  obtain ⟨i1,i2⟩ := uniq_rise h m (by omega)
  have get : ∀ j (hj : j < xs.length),xs.toArray[j]! = xs[j] := fun j hj => by simp [hj]
  have le : ∀ j,j < m → xs.toArray[j]! ≤ xs.toArray[m - 1]! := fun j hj => by
   rw [get j (by omega),get (m - 1) (by omega)]
   by_cases e : j = m - 1
   ·subst e; exact Int.le_refl _
   ·exact List.pairwise_iff_getElem.1 h j (m - 1) (by omega) (by omega) (by omega)
  rw [Lib.compactUpTo_succ]
  by_cases hk : Lib.keeps xs.toArray m = true
  ·rw [if_pos hk]
   refine ⟨List.pairwise_append.2 ⟨i1,by simp,fun a ha b hb => ?_⟩,fun b => ?_⟩
   ·simp only [List.mem_singleton] at hb
    subst hb
    obtain ⟨j,hj,rfl⟩ := (i2 a).1 ha
    have h1 := le j hj
    simp only [Lib.keeps,decide_eq_true_eq] at hk
    rcases hk with hk | hk
    ·omega
    ·have h2 : xs.toArray[m - 1]! ≤ xs.toArray[m]! := by
      rw [get (m - 1) (by omega),get m (by omega)]
      exact List.pairwise_iff_getElem.1 h (m - 1) m (by omega) (by omega) (by omega)
     omega
   ·rw [List.mem_append,i2 b,List.mem_singleton]
    constructor
    ·rintro (⟨j,hj,e⟩ | e)
     ·exact ⟨j,by omega,e⟩
     ·exact ⟨m,by omega,e.symm⟩
    ·rintro ⟨j,hj,e⟩
     by_cases ej : j = m
     ·subst ej; exact .inr e.symm
     ·exact .inl ⟨j,by omega,e⟩
  ·rw [if_neg hk,List.append_nil]
   refine ⟨i1,fun b => ?_⟩
   rw [i2 b]
   simp only [Lib.keeps,decide_eq_true_eq,not_or,Decidable.not_not] at hk
   constructor
   ·rintro ⟨j,hj,e⟩; exact ⟨j,by omega,e⟩
   ·rintro ⟨j,hj,e⟩
    by_cases ej : j = m
    ·subst ej; exact ⟨j - 1,by omega,by rw [← hk.2]; exact e⟩
    ·exact ⟨j,by omega,e⟩
/-- in order and told once: what putting one by one gives -/
theorem puts_eq (l : List Int) : l.foldl putI [] = uniqI (sortI l) := by
 have hs : (sortI l).Pairwise (· ≤ ·) := by
  have := List.pairwise_mergeSort (le := fun x y : Int => decide (x ≤ y)) (fun a b c h1 h2 => by simp only [decide_eq_true_eq] at *; omega) (fun a b => by simp only [Bool.or_eq_true,decide_eq_true_eq]; omega) l
  exact this.imp fun h => by simpa using h
 obtain ⟨u1,u2⟩ := uniq_rise hs (sortI l).length (Nat.le_refl _)
 have eu : uniqI (sortI l) = Lib.compactUpTo (sortI l).toArray (sortI l).length := by unfold uniqI; rw [List.size_toArray]
 rw [eu]
 refine rise_ext _ _ (puts_rise l [] List.Pairwise.nil) u1 fun b => ?_
 rw [puts_mem,u2 b]
 have hm : b ∈ sortI l ↔ b ∈ l := List.mem_mergeSort
 rw [← hm]
 constructor
 ·rintro (h | h)
  ·cases h
  ·obtain ⟨i,hi,e⟩ := List.getElem_of_mem h
   exact ⟨i,hi,by simp [hi,e]⟩
 ·rintro ⟨j,hj,e⟩
  right
  have : (sortI l).toArray[j]! = (sortI l)[j] := by simp [hj]
  rw [← e,this]; exact List.getElem_mem hj
end Go.Ab
namespace Go.Ab
/-- a loop over a list's places -/
theorem run_loop {α : Type} (l : Nat → α → Int → Option α) (f : α → Nat → α) (len : Nat) (hlen : len < 2 ^ 62) (Q : Nat → α → Prop)
  (H : ∀ (n : Nat) (z : α) (k : Nat),k < len → Q k z → l (n + 1) z (k : Int) = l n (f z k) (IntKind.wrap .i64 ((k : Int) + 1))) (HQ : ∀ (z : α) (k : Nat),k < len → Q k z → Q (k + 1) (f z k))
  (H' : ∀ (n : Nat) (z : α) (k : Nat),¬ k < len → l (n + 1) z (k : Int) = some z) :
  ∀ (n : Nat) (z : α) (k : Nat),k ≤ len → Q k z → len - k < n → l n z (k : Int) = some ((List.range' k (len - k)).foldl f z)
 | 0,z,k,_,_,h => by omega
 | n + 1,z,k,hk,hq,h => by
  by_cases hlt : k < len
  ·rw [H n z k hlt hq,wrapS (by omega),run_loop l f len hlen Q H HQ H' n _ (k + 1) (by omega) (HQ z k hlt hq) (by omega),show len - k = (len - (k + 1)) + 1 by omega,List.range'_succ,List.foldl_cons]
  ·rw [H' n z k hlt,show len - k = 0 by omega]
   rfl
theorem foldl_app (g : Nat → Int) : ∀ (l : List Nat) (z : List Int),l.foldl (fun z j => z ++ [g j]) z = z ++ l.map g
 | [],z => by simp
 | a :: l,z => by rw [List.foldl_cons,foldl_app g l]; simp
theorem foldl_apps (g : Nat → List Int) : ∀ (l : List Nat) (z : List Int),l.foldl (fun z k => z ++ g k) z = z ++ l.flatMap g
 | [],z => by simp
 | a :: l,z => by rw [List.foldl_cons,foldl_apps g l]; simp
theorem foldl_puts (g : Nat → List Int) : ∀ (l : List Nat) (z : List Int),l.foldl (fun z k => (g k).foldl putI z) z = (l.flatMap g).foldl putI z
 | [],z => rfl
 | a :: l,z => by rw [List.foldl_cons,foldl_puts g l,List.flatMap_cons,List.foldl_append]
theorem flat_len (g : Nat → List Int) (h : ∀ k,(g k).length ≤ 12) : ∀ l : List Nat,(l.flatMap g).length ≤ 12 * l.length
 | [] => by simp
 | a :: l => by
  have := flat_len g h l
  have := h a
  simp only [List.flatMap_cons,List.length_append,List.length_cons]
  omega
end Go.Ab
namespace Go.Proofs
open Go.Ab
theorem put_done (x : List Int) (a : Int) (hx : x.length ≤ 1000) : ∀ (n : Nat) (out : List Int) (k : Nat),k ≤ x.length → x.length - k < n → out.length ≤ k + 1 → l_spec_l00Put_0 x a n out true (k : Int) = some (true,out ++ x.drop k)
 | 0,out,k,_,h,_ => by omega
 | n + 1,out,k,hk,h,ho => by
  unfold l_spec_l00Put_0
  by_cases hlt : k < x.length
  ·rw [if_pos (by simp; omega),if_pos rfl,inB_nat,atI_nat]
   unfold need
   rw [if_pos (by simpa using hlt),if_pos (by simp; omega),if_pos (by simp; omega),wrapS (by omega),put_done x a hx n _ (k + 1) (by omega) (by omega) (by simp; omega)]
   rw [List.drop_eq_getElem_cons hlt,List.append_assoc]
   have : x.getD k default = x[k] := by simp [hlt]
   rw [this]; rfl
  ·rw [if_neg (by simp; omega),List.drop_eq_nil_of_le (by omega),List.append_nil]
theorem put_go (x : List Int) (a : Int) (hx : x.length ≤ 1000) : ∀ (n : Nat) (out : List Int) (k : Nat),k ≤ x.length → x.length - k < n → out.length ≤ k →
  (l_spec_l00Put_0 x a n out false (k : Int) = some (true,out ++ putI (x.drop k) a)) ∨ (l_spec_l00Put_0 x a n out false (k : Int) = some (false,out ++ x.drop k) ∧ putI (x.drop k) a = x.drop k ++ [a])
 | 0,out,k,_,h,_ => by omega
 | n + 1,out,k,hk,h,ho => by
  unfold l_spec_l00Put_0
  by_cases hlt : k < x.length
  ·have hg : x.getD k default = x[k] := by simp [hlt]
   rw [if_pos (by simp; omega),if_neg (by simp),inB_nat,atI_nat,hg,List.drop_eq_getElem_cons hlt]
   unfold need
   rw [if_pos (by simpa using hlt)]
   unfold putI
   by_cases h1 : a ≤ x[k]
   ·left
    rw [if_pos (by simpa using h1),if_pos h1]
    by_cases h2 : a < x[k]
    ·rw [if_pos (by simpa using h2),if_pos h2,if_pos (by simp; omega),if_pos (by simp; omega),if_pos (by simp; omega),if_pos (by simp; omega),wrapS (by omega),put_done x a hx n _ (k + 1) (by omega) (by omega) (by simp; omega)]
     simp
    ·rw [if_neg (by simpa using h2),if_neg h2,if_pos (by simp; omega),if_pos (by simp; omega),wrapS (by omega),put_done x a hx n _ (k + 1) (by omega) (by omega) (by simp; omega)]
     simp
   ·rw [if_neg (by simpa using h1),if_neg h1,if_pos (by simp; omega),if_pos (by simp; omega),wrapS (by omega)]
    rcases put_go x a hx n (out ++ [x[k]]) (k + 1) (by omega) (by omega) (by simp; omega) with e | ⟨e,e2⟩
    ·left; rw [e]; simp
    ·right; rw [e,e2]; exact ⟨by rw [List.append_assoc]; rfl,rfl⟩
  ·right
   rw [if_neg (by simp; omega),List.drop_eq_nil_of_le (by omega),List.append_nil]
   exact ⟨rfl,rfl⟩
theorem l00Put_eq (x : List Int) (a : Int) (hx : x.length ≤ 1000) : m_spec_l00Put x a = putI x a ∧ p_spec_l00Put x a = true := by
 unfold m_spec_l00Put p_spec_l00Put
 rcases put_go x a hx (Int.toNat (((List.length x : Nat) : Int) - 0) + 2) [] 0 (Nat.zero_le _) (by omega) (by simp) with e | ⟨e,e2⟩
 ·rw [show ((0 : Nat) : Int) = 0 from rfl] at e
  rw [e]; simp
 ·rw [show ((0 : Nat) : Int) = 0 from rfl] at e
  rw [List.drop_zero] at e2
  rw [e,e2]; simp; omega
/-- the times of a list of keys -/
def timesK (x : List K5) : List Int := (List.range' 0 x.length).map (tK x)
def timesR (x : List B4) : List Int := (List.range' 0 x.length).map (tR x)
/-- all times of a clip -/
def timesC (c : ClipT) : List Int := (List.range' 0 c.2.2.1.length).flatMap (fun k => timesK (c.2.2.1.getD k default)) ++ timesR c.2.2.2
theorem okT_len {t : Nat → Int} {len : Nat} {L : Int} (h : okT t len L = true) : 1 ≤ len ∧ len ≤ 12 := by
 unfold okT at h
 simp only [Bool.and_eq_true,decide_eq_true_eq] at h
 omega
theorem okClip_lens {c : ClipT} (h : okClip c = true) : c.2.2.1.length ≤ 12 ∧ (∀ k,k < c.2.2.1.length → (c.2.2.1.getD k default).length ≤ 12) ∧ 1 ≤ c.2.2.2.length ∧ c.2.2.2.length ≤ 12 := by
 unfold okClip at h
 simp only [Bool.and_eq_true,decide_eq_true_eq] at h
 obtain ⟨_,_,h1,h2,h3⟩ := h
 refine ⟨by omega,fun k hk => ?_,(okT_len h3).1,(okT_len h3).2⟩
 exact (okT_len (List.all_eq_true.1 h2 k (by rw [List.mem_range']; exact ⟨k,hk,by omega⟩))).2
section
variable {c : ClipT} (hok : okClip c = true)
include hok
theorem tr_len (k : Nat) : (timesK (c.2.2.1.getD k default)).length ≤ 12 := by
 obtain ⟨h1,h2,h3,h4⟩ := okClip_lens hok
 by_cases hk : k < c.2.2.1.length
 ·have := h2 k hk
  simpa [timesK] using this
 ·have e : c.2.2.1.getD k default = [] := by
   rw [List.getD_eq_getElem?_getD,List.getElem?_eq_none (by omega)]; rfl
  rw [e]; simp [timesK]
theorem impl_in (z : List Int) (k : Nat) (hk : k < c.2.2.1.length) (hz : z.length ≤ 1000) :
  l_impl_KeysOf_0 c (k : Int) (Int.toNat (((List.length (c.2.2.1.getD k default) : Nat) : Int) - 0) + 2) z 0 = some (z ++ timesK (c.2.2.1.getD k default)) := by
 obtain ⟨h1,h2,h3,h4⟩ := okClip_lens hok
 have hl := h2 k hk
 have := app_loop (l_impl_KeysOf_0 c (k : Int)) (c.2.2.1.getD k default).length (tK (c.2.2.1.getD k default)) (by omega) (fun j m => m ≤ 1000 + j) (fun n z j hj hz => by
   show (if (decide ((j : Int) < ((List.length (atI c.2.2.1 (k : Int)) : Nat) : Int))) = true then (need (inB (j : Int) (List.length (atI c.2.2.1 (k : Int)))) (need (decide (((List.length z) + 1) * 8 ≤ 17592186044416)) (need (decide ((List.length z) + 1 ≤ 17592186044416)) (l_impl_KeysOf_0 c (k : Int) n (z ++ [(atI (atI c.2.2.1 (k : Int)) (j : Int)).1]) (IntKind.wrap .i64 ((j : Int) + 1)))))) else (some z)) = _
   rw [atI_nat,if_pos (by simpa using hj),inB_nat,atI_nat]
   unfold need
   rw [if_pos (by simpa using hj),if_pos (by simp; omega),if_pos (by simp; omega)]
   rfl) (fun n z j hj => by
   show (if (decide ((j : Int) < ((List.length (atI c.2.2.1 (k : Int)) : Nat) : Int))) = true then _ else _) = _
   rw [atI_nat,if_neg (by simpa using hj)]) (fun j m _ h => by omega) (Int.toNat (((List.length (c.2.2.1.getD k default) : Nat) : Int) - 0) + 2) z 0 (Nat.zero_le _) (by omega) (by omega)
 exact this
theorem spec_in (z : List Int) (k : Nat) (hk : k < c.2.2.1.length) (hz : z.length ≤ 900) :
  l_spec_KeysOf_0 c (k : Int) (Int.toNat (((List.length (c.2.2.1.getD k default) : Nat) : Int) - 0) + 2) z 0 = some ((timesK (c.2.2.1.getD k default)).foldl putI z) := by
 obtain ⟨h1,h2,h3,h4⟩ := okClip_lens hok
 have hl := h2 k hk
 have := run_loop (l_spec_KeysOf_0 c (k : Int)) (fun z j => putI z (tK (c.2.2.1.getD k default) j)) (c.2.2.1.getD k default).length (by omega) (fun j z => z.length ≤ 900 + j) (fun n z j hj hz => by
   show (if (decide ((j : Int) < ((List.length (atI c.2.2.1 (k : Int)) : Nat) : Int))) = true then (need (inB (k : Int) (List.length c.2.2.1)) (need (inB (j : Int) (List.length (atI c.2.2.1 (k : Int)))) (need (p_spec_l00Put z (atI (atI c.2.2.1 (k : Int)) (j : Int)).1) (l_spec_KeysOf_0 c (k : Int) n (m_spec_l00Put z (atI (atI c.2.2.1 (k : Int)) (j : Int)).1) (IntKind.wrap .i64 ((j : Int) + 1)))))) else (some z)) = _
   rw [atI_nat,if_pos (by simpa using hj),inB_nat,inB_nat,atI_nat,(l00Put_eq z _ (by omega)).1,(l00Put_eq z _ (by omega)).2]
   unfold need
   rw [if_pos (by simpa using hk),if_pos (by simpa using hj),if_pos rfl]
   rfl) (fun z j hj hz => by
   have := put_len z (tK (c.2.2.1.getD k default) j)
   show (putI z (tK (c.2.2.1.getD k default) j)).length ≤ 900 + (j + 1)
   omega) (fun n z j hj => by
   show (if (decide ((j : Int) < ((List.length (atI c.2.2.1 (k : Int)) : Nat) : Int))) = true then _ else _) = _
   rw [atI_nat,if_neg (by simpa using hj)]) (Int.toNat (((List.length (c.2.2.1.getD k default) : Nat) : Int) - 0) + 2) z 0 (Nat.zero_le _) (by omega) (by omega)
 refine this.trans ?_
 unfold timesK
 rw [List.foldl_map,Nat.sub_zero]
theorem impl_out : l_impl_KeysOf_1 c (Int.toNat (((List.length c.2.2.1 : Nat) : Int) - 0) + 2) [] 0 = some ((List.range' 0 c.2.2.1.length).flatMap fun k => timesK (c.2.2.1.getD k default)) := by
 obtain ⟨h1,h2,h3,h4⟩ := okClip_lens hok
 have := run_loop (l_impl_KeysOf_1 c) (fun z k => z ++ timesK (c.2.2.1.getD k default)) c.2.2.1.length (by omega) (fun k z => z.length ≤ 12 * k) (fun n z k hk hz => by
   show (if (decide ((k : Int) < ((List.length c.2.2.1 : Nat) : Int))) = true then (need (inB (k : Int) (List.length c.2.2.1)) (need (Option.isSome (l_impl_KeysOf_0 c (k : Int) (Int.toNat (((List.length (atI c.2.2.1 (k : Int)) : Nat) : Int) - 0) + 2) z 0)) (l_impl_KeysOf_1 c n (Option.getD (l_impl_KeysOf_0 c (k : Int) (Int.toNat (((List.length (atI c.2.2.1 (k : Int)) : Nat) : Int) - 0) + 2) z 0) default) (IntKind.wrap .i64 ((k : Int) + 1))))) else (some z)) = _
   rw [if_pos (by simpa using hk),inB_nat,atI_nat,impl_in hok z k hk (by omega)]
   unfold need
   rw [if_pos (by simpa using hk),Option.isSome_some,if_pos rfl,Option.getD_some]) (fun z k hk hz => by
   have := tr_len hok k
   show (z ++ timesK (c.2.2.1.getD k default)).length ≤ 12 * (k + 1)
   rw [List.length_append]; omega) (fun n z k hk => by
   show (if (decide ((k : Int) < ((List.length c.2.2.1 : Nat) : Int))) = true then _ else _) = _
   rw [if_neg (by simpa using hk)]) (Int.toNat (((List.length c.2.2.1 : Nat) : Int) - 0) + 2) [] 0 (Nat.zero_le _) (by simp) (by omega)
 refine this.trans ?_
 rw [foldl_apps,List.nil_append,Nat.sub_zero]
theorem spec_out : l_spec_KeysOf_1 c (Int.toNat (((List.length c.2.2.1 : Nat) : Int) - 0) + 2) [] 0 = some (((List.range' 0 c.2.2.1.length).flatMap fun k => timesK (c.2.2.1.getD k default)).foldl putI []) := by
 obtain ⟨h1,h2,h3,h4⟩ := okClip_lens hok
 have := run_loop (l_spec_KeysOf_1 c) (fun z k => (timesK (c.2.2.1.getD k default)).foldl putI z) c.2.2.1.length (by omega) (fun k z => z.length ≤ 12 * k) (fun n z k hk hz => by
   show (if (decide ((k : Int) < ((List.length c.2.2.1 : Nat) : Int))) = true then (need (inB (k : Int) (List.length c.2.2.1)) (need (Option.isSome (l_spec_KeysOf_0 c (k : Int) (Int.toNat (((List.length (atI c.2.2.1 (k : Int)) : Nat) : Int) - 0) + 2) z 0)) (l_spec_KeysOf_1 c n (Option.getD (l_spec_KeysOf_0 c (k : Int) (Int.toNat (((List.length (atI c.2.2.1 (k : Int)) : Nat) : Int) - 0) + 2) z 0) default) (IntKind.wrap .i64 ((k : Int) + 1))))) else (some z)) = _
   rw [if_pos (by simpa using hk),inB_nat,atI_nat,spec_in hok z k hk (by omega)]
   unfold need
   rw [if_pos (by simpa using hk),Option.isSome_some,if_pos rfl,Option.getD_some]) (fun z k hk hz => by
   have h5 := tr_len hok k
   have h6 := puts_len (timesK (c.2.2.1.getD k default)) z
   show ((timesK (c.2.2.1.getD k default)).foldl putI z).length ≤ 12 * (k + 1)
   omega) (fun n z k hk => by
   show (if (decide ((k : Int) < ((List.length c.2.2.1 : Nat) : Int))) = true then _ else _) = _
   rw [if_neg (by simpa using hk)]) (Int.toNat (((List.length c.2.2.1 : Nat) : Int) - 0) + 2) [] 0 (Nat.zero_le _) (by simp) (by omega)
 refine this.trans ?_
 rw [foldl_puts,Nat.sub_zero]
theorem impl_roots (z : List Int) (hz : z.length ≤ 1000) : l_impl_KeysOf_2 c (Int.toNat (((List.length c.2.2.2 : Nat) : Int) - 0) + 2) z 0 = some (z ++ timesR c.2.2.2) := by
 obtain ⟨h1,h2,h3,h4⟩ := okClip_lens hok
 have := app_loop (l_impl_KeysOf_2 c) c.2.2.2.length (tR c.2.2.2) (by omega) (fun j m => m ≤ 1000 + j) (fun n z j hj hz => by
   show (if (decide ((j : Int) < ((List.length c.2.2.2 : Nat) : Int))) = true then (need (inB (j : Int) (List.length c.2.2.2)) (need (decide (((List.length z) + 1) * 8 ≤ 17592186044416)) (need (decide ((List.length z) + 1 ≤ 17592186044416)) (l_impl_KeysOf_2 c n (z ++ [(atI c.2.2.2 (j : Int)).1]) (IntKind.wrap .i64 ((j : Int) + 1)))))) else (some z)) = _
   rw [if_pos (by simpa using hj),inB_nat,atI_nat]
   unfold need
   rw [if_pos (by simpa using hj),if_pos (by simp; omega),if_pos (by simp; omega)]
   rfl) (fun n z j hj => by
   show (if (decide ((j : Int) < ((List.length c.2.2.2 : Nat) : Int))) = true then _ else _) = _
   rw [if_neg (by simpa using hj)]) (fun j m _ h => by omega) (Int.toNat (((List.length c.2.2.2 : Nat) : Int) - 0) + 2) z 0 (Nat.zero_le _) (by omega) (by omega)
 exact this
theorem spec_roots (z : List Int) (hz : z.length ≤ 900) : l_spec_KeysOf_2 c (Int.toNat (((List.length c.2.2.2 : Nat) : Int) - 0) + 2) z 0 = some ((timesR c.2.2.2).foldl putI z) := by
 obtain ⟨h1,h2,h3,h4⟩ := okClip_lens hok
 have := run_loop (l_spec_KeysOf_2 c) (fun z j => putI z (tR c.2.2.2 j)) c.2.2.2.length (by omega) (fun j z => z.length ≤ 900 + j) (fun n z j hj hz => by
   show (if (decide ((j : Int) < ((List.length c.2.2.2 : Nat) : Int))) = true then (need (inB (j : Int) (List.length c.2.2.2)) (need (p_spec_l00Put z (atI c.2.2.2 (j : Int)).1) (l_spec_KeysOf_2 c n (m_spec_l00Put z (atI c.2.2.2 (j : Int)).1) (IntKind.wrap .i64 ((j : Int) + 1))))) else (some z)) = _
   rw [if_pos (by simpa using hj),inB_nat,atI_nat,(l00Put_eq z _ (by omega)).1,(l00Put_eq z _ (by omega)).2]
   unfold need
   rw [if_pos (by simpa using hj),if_pos rfl]
   rfl) (fun z j hj hz => by
   have := put_len z (tR c.2.2.2 j)
   show (putI z (tR c.2.2.2 j)).length ≤ 900 + (j + 1)
   omega) (fun n z j hj => by
   show (if (decide ((j : Int) < ((List.length c.2.2.2 : Nat) : Int))) = true then _ else _) = _
   rw [if_neg (by simpa using hj)]) (Int.toNat (((List.length c.2.2.2 : Nat) : Int) - 0) + 2) z 0 (Nat.zero_le _) (by omega) (by omega)
 refine this.trans ?_
 unfold timesR
 rw [List.foldl_map,Nat.sub_zero]
end
theorem core_KeysOf (c : ClipT) (h : ShortC c) : p_impl_KeysOf c = true ∧ p_spec_KeysOf c = true ∧ m_impl_KeysOf c = m_spec_KeysOf c ∧ (m_spec_KeysOf c).1.length ≤ 1048576 := by
 obtain ⟨c1,c2,c3,c4⟩ := core_ValidClip c h
 unfold p_impl_KeysOf p_spec_KeysOf m_impl_KeysOf m_spec_KeysOf
 rw [c1,c2,c3,c4]
 cases hk : okClip c with
 | false => simp
 | true =>
  obtain ⟨h1,h2,h3,h4⟩ := okClip_lens hk
  have hf := flat_len (fun k => timesK (c.2.2.1.getD k default)) (tr_len hk) (List.range' 0 c.2.2.1.length)
  rw [List.length_range'] at hf
  have hp := puts_len ((List.range' 0 c.2.2.1.length).flatMap fun k => timesK (c.2.2.1.getD k default)) []
  rw [List.length_nil] at hp
  rw [impl_out hk,spec_out hk,Option.getD_some,Option.getD_some,impl_roots hk _ (by omega),spec_roots hk _ (by omega),Option.getD_some,Option.getD_some,← List.foldl_append]
  have hR : (timesR c.2.2.2).length = c.2.2.2.length := by simp [timesR]
  generalize hL : (List.range' 0 c.2.2.1.length).flatMap (fun k => timesK (c.2.2.1.getD k default)) ++ timesR c.2.2.2 = L
  have hLl : 0 < L.length ∧ L.length ≤ 156 := by rw [← hL,List.length_append]; omega
  have hs : (sortI L).length = L.length := List.length_mergeSort _
  have hu := uniq_len (sortI L)
  unfold p_slices_Sort p_slices_Compact m_slices_Sort m_slices_Compact
  refine ⟨by simp [hs]; omega,by simp,by simp [puts_eq],by simp [puts_eq]; omega⟩
theorem law_KeysOf (a b : Int) (x : List (List K5)) (y : List B4) (_ : (Lit.int .i64 a).wf = true) (_ : (Lit.int .i64 b).wf = true) (hx : x.length ≤ maxLen)
  (hq : ∀ q ∈ x,List.length q ≤ maxLen ∧ (∀ qq ∈ q,(Lit.int .i64 qq.1).wf = true ∧ Canon .f32 qq.2.1 ∧ Canon .f32 qq.2.2.1 ∧ Canon .f32 qq.2.2.2.1 ∧ Canon .f32 qq.2.2.2.2)) (hy : y.length ≤ maxLen)
  (_ : ∀ q ∈ y,(Lit.int .i64 q.1).wf = true ∧ Canon .f32 q.2.1 ∧ Canon .f32 q.2.2.1 ∧ Canon .f32 q.2.2.2) :
  g_laws_FnExactKeysOf [.agg [.int .i64 a,.int .i64 b,.sl (List.map en1 x),.sl (List.map en2 y)]] = some (.bool true) := by
 have key : p_laws_FnExactKeysOf (a,b,x,y) = true ∧ m_laws_FnExactKeysOf (a,b,x,y) = true := by
  unfold p_laws_FnExactKeysOf m_laws_FnExactKeysOf
  have hc : HasC' (a,b,x,y) := ⟨hx,has_of hq,hy⟩
  obtain ⟨s1,s2⟩ := sz_Clip (a,b,x,y) 1048576 hc (by omega) (by omega)
  by_cases hs : m_laws_szClip (a,b,x,y) 1048576 < 0
  ·simp [hs,s1]
  ·obtain ⟨k1,k2,k3⟩ := s2 hs
   obtain ⟨c1,c2,c3,c4⟩ := core_KeysOf (a,b,x,y) k1
   obtain ⟨m1,m2,m3,m4⟩ := mark_Clip (a,b,x,y) k1
   rw [(to_Clip _ k1).1,c3]
   generalize (m_spec_KeysOf (a,b,x,y)) = r at *
   have i2 : ¬ iter gI r.1.length 1 < 0 := by rw [iter_add (g := gI) (c := 1) gI_add _ _ (by omega) (by omega)]; omega
   simp [hs,s1,to_Clip _ k1,c1,c2,eq_Int64S r.1 c4,eq_Clip _ k1,m1,m2,m3,m4,mark_Int64S r.1 1 c4,held_Int64S _ 1 c4,marks_len,i2]
 unfold g_laws_FnExactKeysOf
 simp only [dc_en1_map,dc_en2_map,key.1,key.2,if_true]
end Go.Proofs
