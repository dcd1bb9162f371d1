/- What functions that FnExactPlayClip reaches compute. No conditions. -/
import Derived.Test.YtadbhabmahpkiacPlayClipY0
set_option maxRecDepth 100000
set_option maxHeartbeats 4000000
set_option linter.all false
namespace Go.Proofs
open Go.Ab
def p_impl_RootKey_sample (x0 : (Unit × Unit × Unit)) (x1 : (List (Int × Nat × Nat × Nat))) (x2 : Int) (x3 : Int) : Bool := ((Option.isSome (l_impl_RootKey_sample_0 x1 x2 x3 (Int.toNat (((List.length x1 : Nat) : Int) - 0) + 2) 0)) && (if (decide ((Option.getD (l_impl_RootKey_sample_0 x1 x2 x3 (Int.toNat (((List.length x1 : Nat) : Int) - 0) + 2) 0) default) = 0)) = true then (inB 0 (List.length x1)) else (if (decide ((Option.getD (l_impl_RootKey_sample_0 x1 x2 x3 (Int.toNat (((List.length x1 : Nat) : Int) - 0) + 2) 0) default) = ((List.length x1 : Nat) : Int))) = true then (inB (IntKind.wrap .i64 ((Option.getD (l_impl_RootKey_sample_0 x1 x2 x3 (Int.toNat (((List.length x1 : Nat) : Int) - 0) + 2) 0) default) - 1)) (List.length x1)) else ((inB (IntKind.wrap .i64 ((Option.getD (l_impl_RootKey_sample_0 x1 x2 x3 (Int.toNat (((List.length x1 : Nat) : Int) - 0) + 2) 0) default) - 1)) (List.length x1)) && ((decide ((v_impl_RootKey_sample_0 x1 x2 x3) = x3)) || ((decide (x2 = 0)) || (inB (Option.getD (l_impl_RootKey_sample_0 x1 x2 x3 (Int.toNat (((List.length x1 : Nat) : Int) - 0) + 2) 0) default) (List.length x1))))))))
def g_impl_RootKey_sample : List AV → Option AV
 | [.agg [.fn (.func 80) [] [],.fn (.func 81) [] [],.fn (.func 82) [] []],.sl w0,.int .i64 y1,.int .i64 y2] => (match decL dc_en2 w0 with | some y0 => (if p_impl_RootKey_sample ((),(),()) y0 y1 y2 = true then some (AV.agg [(.int .i64 (m_impl_RootKey_sample ((),(),()) y0 y1 y2).1),(.flt .f32 (m_impl_RootKey_sample ((),(),()) y0 y1 y2).2.1),(.flt .f32 (m_impl_RootKey_sample ((),(),()) y0 y1 y2).2.2.1),(.flt .f32 (m_impl_RootKey_sample ((),(),()) y0 y1 y2).2.2.2)]) else none) | none => none)
 | _ => none
def lb73_0 : ICode := (.seq (.seq (.reg [⟨some 13,none,.mov (.t 9)⟩,⟨some 14,none,.mov (.t 1)⟩,⟨some 15,none,.len false (.t 14)⟩,⟨some 16,none,.bin .lss false (.t 13) (.t 15)⟩,⟨some 17,none,.mov (.t 16)⟩,⟨(some 18),(some (17,true)),(.faddr 0 (.t 4))⟩,⟨(some 19),(some (17,true)),(.load none (.o 18 4))⟩,⟨(some 20),(some (17,true)),(.mov (.t 1))⟩,⟨(some 21),(some (17,true)),(.mov (.t 9))⟩,⟨(some 22),(some (17,true)),(.iaddrS 4 (.p 20) (.t 21))⟩,⟨(some 23),(some (17,true)),(.load (some 4) (.p 22))⟩,⟨(some 24),(some (17,true)),(.call (.dyn (.t 19)) [(.t 23)] [])⟩,⟨(some 25),(some (17,true)),(.mov (.t 3))⟩,⟨(some 26),(some (17,true)),(.bin .leq false (.t 24) (.t 25))⟩,⟨some 27,none,.pick (.t 17) (.t 26) (.c (.bool false))⟩] [1,2,3,4,8,9,27]) (.cond (.t 27) .skip (.exit 0))) (.block 1 (.reg [⟨some 28,none,.mov (.t 9)⟩,⟨some 29,none,.bin .add false (.t 28) (.c (.int .i64 1))⟩,⟨some 9,none,.mov (.t 29)⟩] [1,2,3,4,8,9])))
def ic73 : ICode := (.seq (.reg [⟨some 4,none,.box 3 (.t 0)⟩,⟨some 8,none,.alloc (.agg [(.int .i64 0),(.flt .f32 0),(.flt .f32 0),(.flt .f32 0)])⟩] [1,2,3,4,8]) (.seq (.reg [⟨some 9,none,.mov (.c (.int .i64 0))⟩] [1,2,3,4,8,9]) (.seq (.block 0 (.loop lb73_0)) (.seq (.block 2 (.seq (.reg [⟨some 31,none,.mov (.t 9)⟩,⟨some 32,none,.bin .eql false (.t 31) (.c (.int .i64 0))⟩,⟨some 30,none,.mov (.t 32)⟩] [1,2,3,4,8,9,30]) (.cond (.t 30) (.seq (.reg [⟨some 33,none,.faddr 1 (.t 4)⟩,⟨some 34,none,.load none (.o 33 4)⟩,⟨some 35,none,.mov (.t 1)⟩,⟨some 36,none,.iaddrS 4 (.p 35) (.c (.int .i64 0))⟩,⟨some 37,none,.load (some 4) (.t 36)⟩,⟨some 38,none,.mov (.t 3)⟩,⟨some 39,none,.call (.dyn (.t 34)) [(.t 37),(.t 38)] []⟩,⟨none,none,(.store 4 (.o 8 8) (.t 39))⟩] [8]) .ret) (.seq (.reg [⟨some 41,none,.mov (.t 9)⟩,⟨some 42,none,.mov (.t 1)⟩,⟨some 43,none,.len false (.t 42)⟩,⟨some 44,none,.bin .eql false (.t 41) (.t 43)⟩,⟨some 45,none,.mov (.t 44)⟩,⟨(some 46),(some (45,false)),(.faddr 0 (.t 4))⟩,⟨(some 47),(some (45,false)),(.load none (.o 46 4))⟩,⟨(some 48),(some (45,false)),(.mov (.t 1))⟩,⟨(some 49),(some (45,false)),(.mov (.t 9))⟩,⟨(some 50),(some (45,false)),(.bin .sub false (.t 49) (.c (.int .i64 1)))⟩,⟨(some 51),(some (45,false)),(.iaddrS 4 (.p 48) (.t 50))⟩,⟨(some 52),(some (45,false)),(.load (some 4) (.p 51))⟩,⟨(some 53),(some (45,false)),(.call (.dyn (.t 47)) [(.t 52)] [])⟩,⟨(some 54),(some (45,false)),(.mov (.t 3))⟩,⟨(some 55),(some (45,false)),(.bin .eql false (.t 53) (.t 54))⟩,⟨some 56,none,.pick (.t 45) (.c (.bool true)) (.t 55)⟩,⟨some 57,none,.mov (.t 56)⟩,⟨(some 58),(some (57,false)),(.mov (.t 2))⟩,⟨(some 59),(some (57,false)),(.bin .eql false (.t 58) (.c (.int .i64 0)))⟩,⟨some 60,none,.pick (.t 57) (.c (.bool true)) (.t 59)⟩,⟨some 40,none,.mov (.t 60)⟩] [1,2,3,4,8,9,40]) (.cond (.t 40) (.seq (.reg [⟨some 61,none,.faddr 1 (.t 4)⟩,⟨some 62,none,.load none (.o 61 4)⟩,⟨some 63,none,.mov (.t 1)⟩,⟨some 64,none,.mov (.t 9)⟩,⟨some 65,none,.bin .sub false (.t 64) (.c (.int .i64 1))⟩,⟨some 66,none,.iaddrS 4 (.p 63) (.t 65)⟩,⟨some 67,none,.load (some 4) (.p 66)⟩,⟨some 68,none,.mov (.t 3)⟩,⟨some 69,none,.call (.dyn (.t 62)) [(.t 67),(.t 68)] []⟩,⟨none,none,(.store 4 (.o 8 8) (.t 69))⟩]
   [8]) .ret) .skip))))) (.seq (.reg [⟨some 70,none,.mov (.t 1)⟩,⟨some 71,none,.mov (.t 9)⟩,⟨some 72,none,.bin .sub false (.t 71) (.c (.int .i64 1))⟩,⟨some 73,none,.iaddrS 4 (.p 70) (.t 72)⟩,⟨some 74,none,.load (some 4) (.p 73)⟩,⟨some 75,none,.mov (.t 1)⟩,⟨some 76,none,.mov (.t 9)⟩,⟨some 77,none,.iaddrS 4 (.p 75) (.t 76)⟩,⟨some 78,none,.load (some 4) (.p 77)⟩,⟨some 10,none,.alloc (.agg [(.int .i64 0),(.flt .f32 0),(.flt .f32 0),(.flt .f32 0)])⟩,⟨some 11,none,.alloc (.agg [(.int .i64 0),(.flt .f32 0),(.flt .f32 0),(.flt .f32 0)])⟩,⟨none,none,(.store 4 (.o 10 10) (.t 74))⟩,⟨none,none,(.store 4 (.o 11 11) (.t 78))⟩] [2,3,4,8,10,11]) (.seq (.reg [⟨some 79,none,.faddr 0 (.t 4)⟩,⟨some 80,none,.load none (.o 79 4)⟩,⟨some 81,none,.load (some 4) (.o 10 10)⟩,⟨some 82,none,.call (.dyn (.t 80)) [(.t 81)] []⟩,⟨some 83,none,.mov (.t 3)⟩,⟨some 84,none,.faddr 0 (.t 4)⟩,⟨some 85,none,.load none (.o 84 4)⟩,⟨some 86,none,.load (some 4) (.o 11 11)⟩,⟨some 87,none,.call (.dyn (.t 85)) [(.t 86)] []⟩,⟨some 88,none,.call (.fn 78) [(.t 82),(.t 83),(.t 87)] []⟩,⟨some 12,none,.mov (.t 88)⟩] [2,3,4,8,10,11,12]) (.seq (.seq (.reg [⟨some 89,none,.mov (.t 2)⟩,⟨some 90,none,.bin .eql false (.t 89) (.c (.int .i64 2))⟩] [3,4,8,10,11,12,90]) (.cond (.t 90) (.reg [⟨some 91,none,.mov (.t 12)⟩,⟨some 92,none,.mov (.t 12)⟩,⟨some 93,none,.bin .mul false (.t 91) (.t 92)⟩,⟨some 94,none,.mov (.t 12)⟩,⟨some 95,none,.bin .mul false (.c (.flt .f32 1073741824)) (.t 94)⟩,⟨some 96,none,.bin .sub false (.c (.flt .f32 1077936128)) (.t 95)⟩,⟨some 97,none,.bin .mul false (.t 93) (.t 96)⟩,⟨some 12,none,.mov (.t 97)⟩] [3,4,8,10,11,12]) .skip)) (.seq (.reg [⟨some 98,none,.faddr 1 (.t 4)⟩,⟨some 99,none,.load none (.o 98 4)⟩,⟨some 100,none,.faddr 2 (.t 4)⟩,⟨some 101,none,.load none (.o 100 4)⟩,⟨some 102,none,.load (some 4) (.o 10 10)⟩,⟨some 103,none,.load (some 4) (.o 11 11)⟩,⟨some 104,none,.mov (.t 12)⟩,⟨some 105,none,.call (.dyn (.t 101)) [(.t 102),(.t 103),(.t 104)] []⟩,⟨some 106,none,.mov (.t 3)⟩,⟨some 107,none,.call (.dyn (.t 99)) [(.t 105),(.t 106)] []⟩,⟨none,none,(.store 4 (.o 8 8) (.t 107))⟩] [8]) .ret))))))))
def cp73 : CP := CP.mk [] [] [[1,2,3,4,8],[1,2,3,4,8,9],[1,2,3,4,8,9,27],[1,2,3,4,8,9],[1,2,3,4,8,9,30],[8],[1,2,3,4,8,9,40],[8],[2,3,4,8,10,11],[2,3,4,8,10,11,12],[3,4,8,10,11,12,90],[3,4,8,10,11,12],[8]] 108 [(8,8),(10,10),(11,11),(18,4),(33,4),(46,4),(61,4),(79,4),(84,4),(98,4),(100,4)] [20,22,35,48,51,63,66,70,73,75,77]
theorem sl73_0 (x1 : (List (Int × Nat × Nat × Nat))) (x2 : Int) (x3 : Int) : ∀ (n : Nat) (z0_0 : Int) (o : Int) (K : IExit → St → Prop),l_impl_RootKey_sample_0 x1 x2 x3 n z0_0 = some o → (∀ st,Wk st (⟨[(1,(.sl (List.map en2 x1))),(2,(.int .i64 x2)),(3,(.int .i64 x3)),(4,(.lptr 4 0 0)),(8,(.lptr 8 0 0)),(9,(.int .i64 o))],[(4,(some ⟨3,false,[(AV.agg [(.fn (.func 80) [] []),(.fn (.func 81) [] []),(.fn (.func 82) [] [])])]⟩)),(8,(some ⟨4,false,[(AV.agg [(.int .i64 0),(.flt .f32 0),(.flt .f32 0),(.flt .f32 0)])]⟩))]⟩ : St) → K (.exit 0) st) → eA (tabOf [(78,wM .any g_impl_share),(80,wM .any g_impl_rootTrack_1),(81,wM .any g_impl_rootTrack_2),(82,wM .any g_impl_rootTrack_3)]) (.loop lb73_0) (⟨[(1,(.sl (List.map en2 x1))),(2,(.int .i64 x2)),(3,(.int .i64 x3)),(4,(.lptr 4 0 0)),(8,(.lptr 8 0 0)),(9,(.int .i64 z0_0))],[(4,(some ⟨3,false,[(AV.agg [(.fn (.func 80) [] []),(.fn (.func 81) [] []),(.fn (.func 82) [] [])])]⟩)),(8,(some ⟨4,false,[(AV.agg [(.int .i64 0),(.flt .f32 0),(.flt .f32 0),(.flt .f32 0)])]⟩))]⟩ : St) K := by
 intro n
 induction n with
 | zero =>
  intro z0_0 o K h h0
  simp only [l_impl_RootKey_sample_0,reduceCtorEq] at h
 | succ n ih =>
  intro z0_0 o K h h0
  refine eA_loop ?_
  unfold lb73_0
  unfold l_impl_RootKey_sample_0 at h
  (try simp only [need_iff,v_impl_RootKey_sample_0,v_impl_RootKey_sample_1,v_impl_RootKey_sample_2] at h)
  simp only [
   need_iff,h,grpX,purgeH,Option.map,reduceIte,Nat.reduceEqDiff,Nat.reduceAdd,Nat.reduceMul,Nat.reduceLT,Nat.reduceLeDiff,implies_true,forall_const,eq_self,Int.reduceEq,Int.reduceLE,Int.reduceLT,if_true,if_false,grpK,Int.reduceAdd,Int.reduceSub,Int.reduceMul,Int.reduceNeg,Int.reducePow,Nat.reducePow,Int.reduceToNat,Nat.reduceSub,List.replicate,Nat.reduceBEq,grpE,beq_true,beq_false,g_impl_share,g_impl_rootTrack_1,g_impl_rootTrack_2,g_impl_rootTrack_3,grpC,grpY,↓b_pick,ePk_true,ePk_false]
  repeat' (first
   | ((first | (refine eGI_of (fun hc => ?_) (fun hc => ?_)) | (refine eCc_of (fun hc => ?_) (fun hc => ?_)) | (refine ePk_of (fun hc => ?_) (fun hc => ?_)) | (have hc := True.intro; refine KW_refl ?_)) <;> (try simp only [Bool.not_eq_true',Bool.not_eq_false'] at hc) <;> (try simp only [hc,need_iff,reduceCtorEq,grpN,Int.reduceEq,Int.reduceLT,Int.reduceLE,if_true,if_false,reduceIte] at h) <;> (first | (have hc2 := hc; simp only [decide_eq_true_eq,decide_eq_false_iff_not] at hc2; (first | (replace hc2 := eq_false hc2) | (replace hc2 := eq_true hc2)); (try simp only [hc2,need_iff,reduceCtorEq,grpN,Int.reduceEq,Int.reduceLT,Int.reduceLE,if_true,if_false,reduceIte] at h); replace h := And.intro hc2 h) | (replace h := And.intro hc h) | skip) <;> simp only [hc,
   need_iff,h,grpX,purgeH,Option.map,reduceIte,Nat.reduceEqDiff,Nat.reduceAdd,Nat.reduceMul,Nat.reduceLT,Nat.reduceLeDiff,implies_true,forall_const,eq_self,Int.reduceEq,Int.reduceLE,Int.reduceLT,if_true,if_false,grpK,Int.reduceAdd,Int.reduceSub,Int.reduceMul,Int.reduceNeg,Int.reducePow,Nat.reducePow,Int.reduceToNat,Nat.reduceSub,List.replicate,Nat.reduceBEq,grpE,beq_true,beq_false,g_impl_share,g_impl_rootTrack_1,g_impl_rootTrack_2,g_impl_rootTrack_3,grpC,grpY,↓b_pick,ePk_true,ePk_false]))
  all_goals (have hf := h)
  all_goals (repeat (replace h := And.right h))
  all_goals ((first | (refine eA_wk (wk_norm (ks := [1,2,3,4,8,9]) (ls := [4,8]) ?_) (eA_cast ?_ (ih _ _ _ h h0))) | (cases h; have h := True.intro; refine h0 _ (Wk.cast (wk_norm (ks := [1,2,3,4,8,9]) (ls := [4,8]) ?_) ?_))) <;> simp only [normOk,optIn,blkIn,nameIn,normS,List.map_append,List.length_append,List.map_set,List.length_set,List.map_replicate,List.length_replicate,List.map_nil,List.map_cons,
   need_iff,h,hf,grpX,purgeH,Option.map,reduceIte,Nat.reduceEqDiff,Nat.reduceAdd,Nat.reduceMul,Nat.reduceLT,Nat.reduceLeDiff,implies_true,forall_const,eq_self,Int.reduceEq,Int.reduceLE,Int.reduceLT,if_true,if_false,grpK,Int.reduceAdd,Int.reduceSub,Int.reduceMul,Int.reduceNeg,Int.reducePow,Nat.reducePow,Int.reduceToNat,Nat.reduceSub,List.replicate,Nat.reduceBEq,grpE,beq_true,beq_false,g_impl_share,g_impl_rootTrack_1,g_impl_rootTrack_2,g_impl_rootTrack_3,grpC,grpY,↓b_pick,ePk_true,ePk_false] <;> first | rfl | (simp only [Nat.add_comm]; done))
theorem s73 : ∀ vs r,g_impl_RootKey_sample vs = some r → SaysM Try.prog .any 73 vs r := by
 intro vs r h
 unfold g_impl_RootKey_sample at h
 split at h
 ·rename_i w0 y1 y2
  cases hd_y0 : decL dc_en2 w0 with
  | none => rw [hd_y0] at h; cases h
  | some y0 =>
  rw [hd_y0] at h
  obtain rfl := decL_inv dc_en2_inv hd_y0
  clear hd_y0
  dsimp only at h
  split at h
  ·rename_i hp
   cases h
   refine spec_of (m := .any) (tab := tabOf [(78,wM .any g_impl_share),(80,wM .any g_impl_rootTrack_1),(81,wM .any g_impl_rootTrack_2),(82,wM .any g_impl_rootTrack_3)]) (cp := cp73) (ic := ic73) (rvl := [(.c 8 (some 4))]) hm (tabOk_cons (m := .any) s78 (tabOk_cons (m := .any) s80 (tabOk_cons (m := .any) s81 (tabOk_cons (m := .any) s82 tabOk_nil)))) Try.func73 rfl rfl rfl (by kernel_rfl) rfl (Nat.le_of_ble_eq_true rfl) (Nat.le_of_ble_eq_true rfl) ?_
   show eA _ _ _ _
   unfold ic73
   unfold p_impl_RootKey_sample at hp
   (try delta v_impl_RootKey_sample_2 v_impl_RootKey_sample_1 v_impl_RootKey_sample_0 at hp)
   (try dsimp only at hp)
   (try simp only [Bool.and_eq_true,Bool.or_eq_true,decide_eq_true_eq,Bool.not_eq_true',decide_eq_false_iff_not] at hp)
   refine eS_to ?_
   repeat' (first
    | ((first | (have h := True.intro; refine eS_of ?_) | (refine eGI_of (fun h => ?_) (fun h => ?_)) | (refine eCc_of (fun h => ?_) (fun h => ?_)) | (refine ePk_of (fun h => ?_) (fun h => ?_)) | (have h := True.intro; refine KW_refl ?_)) <;> (try simp only [Bool.not_eq_true',Bool.not_eq_false'] at h) <;> (try first | exact nbA h (by assumption) | exact nbB h (by assumption)) <;> (try simp only [h,reduceCtorEq,grpN,Int.reduceEq,Int.reduceLT,Int.reduceLE,if_true,if_false,reduceIte] at hp) <;> (first | (have h2 := h; simp only [decide_eq_true_eq,decide_eq_false_iff_not] at h2; (first | (replace h2 := eq_false h2) | (replace h2 := eq_true h2)); (try simp only [h2,reduceCtorEq,grpN,Int.reduceEq,Int.reduceLT,Int.reduceLE,if_true,if_false,reduceIte] at hp); replace hp := And.intro h2 hp) | (replace hp := And.intro h hp) | skip) <;> simp only [h,
     hp,grpX,purgeH,Option.map,reduceIte,Nat.reduceEqDiff,Nat.reduceAdd,Nat.reduceMul,Nat.reduceLT,Nat.reduceLeDiff,implies_true,forall_const,eq_self,Int.reduceEq,Int.reduceLE,Int.reduceLT,if_true,if_false,grpK,Int.reduceAdd,Int.reduceSub,Int.reduceMul,Int.reduceNeg,Int.reducePow,Nat.reducePow,Int.reduceToNat,Nat.reduceSub,List.replicate,Nat.reduceBEq,grpE,beq_true,beq_false,g_impl_share,g_impl_rootTrack_1,g_impl_rootTrack_2,g_impl_rootTrack_3,grpC,grpY,↓b_pick,ePk_true,ePk_false])
    | (refine eA_wk (wk_norm (ks := [1,2,3,4,8,9]) (ls := [4,8]) ?_) (eA_cast ?_ (sl73_0 y0 y1 y2 _ _ _ _ (getD_some (d := default) (x := (l_impl_RootKey_sample_0 y0 y1 y2 (Int.toNat (((List.length y0 : Nat) : Int) - 0) + 2) 0)) ?_) ?_)); (iterate 2 (simp only [nilS,nilV,nilB,normOk,optIn,blkIn,nameIn,normS,List.map_append,List.length_append,List.map_set,List.length_set,List.map_replicate,List.length_replicate,List.map_nil,List.map_cons,
     hp,grpX,purgeH,Option.map,reduceIte,Nat.reduceEqDiff,Nat.reduceAdd,Nat.reduceMul,Nat.reduceLT,Nat.reduceLeDiff,implies_true,forall_const,eq_self,Int.reduceEq,Int.reduceLE,Int.reduceLT,if_true,if_false,grpK,Int.reduceAdd,Int.reduceSub,Int.reduceMul,Int.reduceNeg,Int.reducePow,Nat.reducePow,Int.reduceToNat,Nat.reduceSub,List.replicate,Nat.reduceBEq,grpE,beq_true,beq_false,g_impl_share,g_impl_rootTrack_1,g_impl_rootTrack_2,g_impl_rootTrack_3,grpC,grpY,↓b_pick,ePk_true,ePk_false] <;> first | rfl | (simp only [Nat.add_comm]; done))); (simp only [hp]); (
    intro st2 hw; (try simp only [reduceCtorEq,grpN,Int.reduceEq,Int.reduceLT,Int.reduceLE,if_true,if_false,reduceIte] at hp); (try replace hp := And.intro ht hp); simp only [
Kq_exit,Kq_normal,Kq_ret,Kb_exit,Kb_normal,Kb_ret,Kl_exit,Kl_normal,Kl_ret,reduceIte,Nat.reduceEqDiff,if_true,if_false,eq_self]; refine KW_of hw ?_; simp only [
     hp,grpX,purgeH,Option.map,reduceIte,Nat.reduceEqDiff,Nat.reduceAdd,Nat.reduceMul,Nat.reduceLT,Nat.reduceLeDiff,implies_true,forall_const,eq_self,Int.reduceEq,Int.reduceLE,Int.reduceLT,if_true,if_false,grpK,Int.reduceAdd,Int.reduceSub,Int.reduceMul,Int.reduceNeg,Int.reducePow,Nat.reducePow,Int.reduceToNat,Nat.reduceSub,List.replicate,Nat.reduceBEq,grpE,beq_true,beq_false,g_impl_share,g_impl_rootTrack_1,g_impl_rootTrack_2,g_impl_rootTrack_3,grpC,grpY,↓b_pick,ePk_true,ePk_false])))
   all_goals (try simp only [*,m_impl_RootKey_sample,v_impl_RootKey_sample_0,v_impl_RootKey_sample_1,v_impl_RootKey_sample_2,grpZ,if_true,if_false,reduceIte,decide_true,decide_false])
   all_goals (try (simp_all; done))
  ·cases h
 ·cases h
def m_impl_Clip_root (x0 : (Int × Int × (List (List (Int × Nat × Nat × Nat × Nat))) × (List (Int × Nat × Nat × Nat)))) (x1 : Int) : (Nat × Nat × Nat) := (m_impl_RootKey_sample ((),(),()) x0.2.2.2 x0.2.1 x1).2
def p_impl_Clip_root (x0 : (Int × Int × (List (List (Int × Nat × Nat × Nat × Nat))) × (List (Int × Nat × Nat × Nat)))) (x1 : Int) : Bool := (p_impl_RootKey_sample ((),(),()) x0.2.2.2 x0.2.1 x1)
def g_impl_Clip_root : List AV → Option AV
 | [.ptr (.agg [.int .i64 y0,.int .i64 y1,.sl w2,.sl w3]) 0,.int .i64 y4] => (match decL dc_en1 w2 with | some y2 => ((match decL dc_en2 w3 with | some y3 => (if p_impl_Clip_root (y0,y1,y2,y3) y4 = true then some (AV.agg [(.flt .f32 (m_impl_Clip_root (y0,y1,y2,y3) y4).1),(.flt .f32 (m_impl_Clip_root (y0,y1,y2,y3) y4).2.1),(.flt .f32 (m_impl_Clip_root (y0,y1,y2,y3) y4).2.2)]) else none) | none => none)) | none => none)
 | _ => none
def ic54 : ICode := (.seq (.reg [⟨some 4,none,.alloc (.agg [(.flt .f32 0),(.flt .f32 0),(.flt .f32 0)])⟩] [0,1,4]) (.seq (.reg [⟨some 5,none,.call (.fn 63) [] []⟩,⟨some 6,none,.mov (.t 0)⟩,⟨some 7,none,.nilchk (.t 6)⟩,⟨some 8,none,.faddr 3 (.t 7)⟩,⟨some 9,none,.load none (.t 8)⟩,⟨some 10,none,.mov (.t 0)⟩,⟨some 11,none,.nilchk (.t 10)⟩,⟨some 12,none,.faddr 1 (.t 11)⟩,⟨some 13,none,.load none (.t 12)⟩,⟨some 14,none,.mov (.t 1)⟩,⟨some 15,none,.call (.fn 73) [(.t 5),(.t 9),(.t 13),(.t 14)] []⟩,⟨some 16,none,.field 1 (some 3) (.t 15)⟩,⟨none,none,(.store 3 (.t 4) (.t 16))⟩] [4]) .ret))
def cp54 : CP := CP.mk [] [] [[0,1,4],[4]] 17 [] []
theorem s54 : ∀ vs r,g_impl_Clip_root vs = some r → SaysM Try.prog .any 54 vs r := by
 intro vs r h
 unfold g_impl_Clip_root at h
 split at h
 ·rename_i y0 y1 w2 w3 y4
  cases hd_y2 : decL dc_en1 w2 with
  | none => rw [hd_y2] at h; cases h
  | some y2 =>
  rw [hd_y2] at h
  obtain rfl := decL_inv dc_en1_inv hd_y2
  clear hd_y2
  dsimp only at h
  cases hd_y3 : decL dc_en2 w3 with
  | none => rw [hd_y3] at h; cases h
  | some y3 =>
  rw [hd_y3] at h
  obtain rfl := decL_inv dc_en2_inv hd_y3
  clear hd_y3
  dsimp only at h
  split at h
  ·rename_i hp
   cases h
   refine spec_of (m := .any) (tab := tabOf [(63,wM .any g_impl_rootTrack),(73,wM .any g_impl_RootKey_sample)]) (cp := cp54) (ic := ic54) (rvl := [(.c 4 (some 3))]) hm (tabOk_cons (m := .any) s63 (tabOk_cons (m := .any) s73 tabOk_nil)) Try.func54 rfl rfl rfl (by kernel_rfl) rfl (Nat.le_of_ble_eq_true rfl) (Nat.le_of_ble_eq_true rfl) ?_
   show eA _ _ _ _
   unfold ic54
   simp only [p_impl_Clip_root,Bool.and_eq_true,Bool.or_eq_true,decide_eq_true_eq,Bool.not_eq_true',decide_eq_false_iff_not] at hp
   simp only [
     hp,grpX,purgeH,Option.map,reduceIte,Nat.reduceEqDiff,Nat.reduceAdd,Nat.reduceMul,Nat.reduceLT,Nat.reduceLeDiff,implies_true,forall_const,eq_self,Int.reduceEq,Int.reduceLE,Int.reduceLT,if_true,if_false,grpK,Int.reduceAdd,Int.reduceSub,Int.reduceMul,Int.reduceNeg,Int.reducePow,Nat.reducePow,Int.reduceToNat,Nat.reduceSub,List.replicate,Nat.reduceBEq,grpE,beq_true,beq_false,g_impl_rootTrack,g_impl_RootKey_sample,grpC,grpY]
   all_goals (try simp only [*,m_impl_Clip_root,grpZ,if_true,if_false,reduceIte,decide_true,decide_false])
   all_goals (try (simp_all; done))
  ·cases h
 ·cases h
def m_impl_turnTrack_2 (x0 : (Int × Nat × Nat × Nat × Nat)) (x1 : Int) : (Int × Nat × Nat × Nat × Nat) := (x1,x0.2.1,x0.2.2.1,x0.2.2.2.1,x0.2.2.2.2)
def g_impl_turnTrack_2 : List AV → Option AV
 | [.agg [.int .i64 y0,.flt .f32 y1,.flt .f32 y2,.flt .f32 y3,.flt .f32 y4],.int .i64 y5] => some (AV.agg [(.int .i64 (m_impl_turnTrack_2 (y0,y1,y2,y3,y4) y5).1),(.flt .f32 (m_impl_turnTrack_2 (y0,y1,y2,y3,y4) y5).2.1),(.flt .f32 (m_impl_turnTrack_2 (y0,y1,y2,y3,y4) y5).2.2.1),(.flt .f32 (m_impl_turnTrack_2 (y0,y1,y2,y3,y4) y5).2.2.2.1),(.flt .f32 (m_impl_turnTrack_2 (y0,y1,y2,y3,y4) y5).2.2.2.2)])
 | _ => none
def ic75 : ICode := (.seq (.reg [⟨some 2,none,.box 5 (.t 0)⟩,⟨some 4,none,.alloc (.agg [(.int .i64 0),(.flt .f32 0),(.flt .f32 0),(.flt .f32 0),(.flt .f32 0)])⟩] [1,2,4]) (.seq (.reg [⟨some 5,none,.mov (.t 1)⟩,⟨some 6,none,.faddr 0 (.t 2)⟩,⟨none,none,(.store 1 (.t 6) (.t 5))⟩] [2,4]) (.seq (.reg [⟨some 7,none,.load (some 5) (.t 2)⟩,⟨none,none,(.store 5 (.t 4) (.t 7))⟩] [4]) .ret)))
def cp75 : CP := CP.mk [] [] [[1,2,4],[2,4],[4]] 8 [] []
theorem s75 : ∀ vs r,g_impl_turnTrack_2 vs = some r → SaysM Try.prog .any 75 vs r := by
 intro vs r h
 unfold g_impl_turnTrack_2 at h
 split at h
 ·rename_i y0 y1 y2 y3 y4 y5
  cases h
  refine spec_of (m := .any) (tab := tabOf []) (cp := cp75) (ic := ic75) (rvl := [(.c 4 (some 5))]) hm tabOk_nil Try.func75 rfl rfl rfl (by kernel_rfl) rfl (Nat.le_of_ble_eq_true rfl) (Nat.le_of_ble_eq_true rfl) ?_
  show eA _ _ _ _
  unfold ic75
  simp only [
    grpX,purgeH,Option.map,reduceIte,Nat.reduceEqDiff,Nat.reduceAdd,Nat.reduceMul,Nat.reduceLT,Nat.reduceLeDiff,implies_true,forall_const,eq_self,Int.reduceEq,Int.reduceLE,Int.reduceLT,if_true,if_false,grpK,Int.reduceAdd,Int.reduceSub,Int.reduceMul,Int.reduceNeg,Int.reducePow,Nat.reducePow,Int.reduceToNat,Nat.reduceSub,List.replicate,Nat.reduceBEq,grpE,beq_true,beq_false,grpC,grpY]
  all_goals (try simp only [*,m_impl_turnTrack_2,grpZ,if_true,if_false,reduceIte,decide_true,decide_false])
  all_goals (try (simp_all; done))
 ·cases h
def m_impl_InnerOfTurns (x0 : (Nat × Nat × Nat × Nat)) (x1 : (Nat × Nat × Nat × Nat)) : Nat := (fadd .f32 (fadd .f32 (fadd .f32 (fmul .f32 x0.1 x1.1) (fmul .f32 x0.2.1 x1.2.1)) (fmul .f32 x0.2.2.1 x1.2.2.1)) (fmul .f32 x0.2.2.2 x1.2.2.2))
def g_impl_InnerOfTurns : List AV → Option AV
 | [.agg [.flt .f32 y0,.flt .f32 y1,.flt .f32 y2,.flt .f32 y3],.agg [.flt .f32 y4,.flt .f32 y5,.flt .f32 y6,.flt .f32 y7]] => some (.flt .f32 (m_impl_InnerOfTurns (y0,y1,y2,y3) (y4,y5,y6,y7)))
 | _ => none
def ic103 : ICode := (.seq (.reg [⟨some 2,none,.box 4 (.t 0)⟩,⟨some 3,none,.box 4 (.t 1)⟩,⟨some 4,none,.mov (.c (.flt .f32 0))⟩] [2,3]) (.seq (.reg [⟨some 5,none,.faddr 0 (.t 2)⟩,⟨some 6,none,.load none (.t 5)⟩,⟨some 7,none,.faddr 0 (.t 3)⟩,⟨some 8,none,.load none (.t 7)⟩,⟨some 9,none,.bin .mul false (.t 6) (.t 8)⟩,⟨some 10,none,.faddr 1 (.t 2)⟩,⟨some 11,none,.load none (.t 10)⟩,⟨some 12,none,.faddr 1 (.t 3)⟩,⟨some 13,none,.load none (.t 12)⟩,⟨some 14,none,.bin .mul false (.t 11) (.t 13)⟩,⟨some 15,none,.bin .add false (.t 9) (.t 14)⟩,⟨some 16,none,.faddr 2 (.t 2)⟩,⟨some 17,none,.load none (.t 16)⟩,⟨some 18,none,.faddr 2 (.t 3)⟩,⟨some 19,none,.load none (.t 18)⟩,⟨some 20,none,.bin .mul false (.t 17) (.t 19)⟩,⟨some 21,none,.bin .add false (.t 15) (.t 20)⟩,⟨some 22,none,.faddr 3 (.t 2)⟩,⟨some 23,none,.load none (.t 22)⟩,⟨some 24,none,.faddr 3 (.t 3)⟩,⟨some 25,none,.load none (.t 24)⟩,⟨some 26,none,.bin .mul false (.t 23) (.t 25)⟩,⟨some 27,none,.bin .add false (.t 21) (.t 26)⟩,⟨some 4,none,.mov (.t 27)⟩] [4]) .ret))
def cp103 : CP := CP.mk [] [] [[2,3],[4]] 28 [] []
theorem s103 : ∀ vs r,g_impl_InnerOfTurns vs = some r → SaysM Try.prog .any 103 vs r := by
 intro vs r h
 unfold g_impl_InnerOfTurns at h
 split at h
 ·rename_i y0 y1 y2 y3 y4 y5 y6 y7
  cases h
  refine spec_of (m := .any) (tab := tabOf []) (cp := cp103) (ic := ic103) (rvl := [(.t 4)]) hm tabOk_nil Try.func103 rfl rfl rfl (by kernel_rfl) rfl (Nat.le_of_ble_eq_true rfl) (Nat.le_of_ble_eq_true rfl) ?_
  show eA _ _ _ _
  unfold ic103
  simp only [
    grpX,purgeH,Option.map,reduceIte,Nat.reduceEqDiff,Nat.reduceAdd,Nat.reduceMul,Nat.reduceLT,Nat.reduceLeDiff,implies_true,forall_const,eq_self,Int.reduceEq,Int.reduceLE,Int.reduceLT,if_true,if_false,grpK,Int.reduceAdd,Int.reduceSub,Int.reduceMul,Int.reduceNeg,Int.reducePow,Nat.reducePow,Int.reduceToNat,Nat.reduceSub,List.replicate,Nat.reduceBEq,grpE,beq_true,beq_false,grpC,grpY]
  all_goals (try simp only [*,m_impl_InnerOfTurns,grpZ,if_true,if_false,reduceIte,decide_true,decide_false])
  all_goals (try (simp_all; done))
 ·cases h
def m_impl_Turn_opposite (x0 : (Nat × Nat × Nat × Nat)) : (Nat × Nat × Nat × Nat) := ((fneg .f32 x0.1),(fneg .f32 x0.2.1),(fneg .f32 x0.2.2.1),(fneg .f32 x0.2.2.2))
def g_impl_Turn_opposite : List AV → Option AV
 | [.agg [.flt .f32 y0,.flt .f32 y1,.flt .f32 y2,.flt .f32 y3]] => some (AV.agg [(.flt .f32 (m_impl_Turn_opposite (y0,y1,y2,y3)).1),(.flt .f32 (m_impl_Turn_opposite (y0,y1,y2,y3)).2.1),(.flt .f32 (m_impl_Turn_opposite (y0,y1,y2,y3)).2.2.1),(.flt .f32 (m_impl_Turn_opposite (y0,y1,y2,y3)).2.2.2)])
 | _ => none
def ic104 : ICode := (.seq (.reg [⟨some 1,none,.box 4 (.t 0)⟩,⟨some 2,none,.alloc (.agg [(.flt .f32 0),(.flt .f32 0),(.flt .f32 0),(.flt .f32 0)])⟩] [1,2]) (.seq (.reg [⟨some 3,none,.faddr 0 (.t 1)⟩,⟨some 4,none,.load none (.t 3)⟩,⟨some 5,none,.un .neg (.t 4)⟩,⟨some 6,none,.faddr 1 (.t 1)⟩,⟨some 7,none,.load none (.t 6)⟩,⟨some 8,none,.un .neg (.t 7)⟩,⟨some 9,none,.faddr 2 (.t 1)⟩,⟨some 10,none,.load none (.t 9)⟩,⟨some 11,none,.un .neg (.t 10)⟩,⟨some 12,none,.faddr 3 (.t 1)⟩,⟨some 13,none,.load none (.t 12)⟩,⟨some 14,none,.un .neg (.t 13)⟩,⟨some 15,none,.build [(.flt .f32 0),(.flt .f32 0),(.flt .f32 0),(.flt .f32 0)] [(0,1,(.t 5)),(1,1,(.t 8)),(2,1,(.t 11)),(3,1,(.t 14))]⟩,⟨none,none,(.store 4 (.t 2) (.t 15))⟩] [2]) .ret))
def cp104 : CP := CP.mk [] [] [[1,2],[2]] 16 [] []
theorem s104 : ∀ vs r,g_impl_Turn_opposite vs = some r → SaysM Try.prog .any 104 vs r := by
 intro vs r h
 unfold g_impl_Turn_opposite at h
 split at h
 ·rename_i y0 y1 y2 y3
  cases h
  refine spec_of (m := .any) (tab := tabOf []) (cp := cp104) (ic := ic104) (rvl := [(.c 2 (some 4))]) hm tabOk_nil Try.func104 rfl rfl rfl (by kernel_rfl) rfl (Nat.le_of_ble_eq_true rfl) (Nat.le_of_ble_eq_true rfl) ?_
  show eA _ _ _ _
  unfold ic104
  simp only [
    grpX,purgeH,Option.map,reduceIte,Nat.reduceEqDiff,Nat.reduceAdd,Nat.reduceMul,Nat.reduceLT,Nat.reduceLeDiff,implies_true,forall_const,eq_self,Int.reduceEq,Int.reduceLE,Int.reduceLT,if_true,if_false,grpK,Int.reduceAdd,Int.reduceSub,Int.reduceMul,Int.reduceNeg,Int.reducePow,Nat.reducePow,Int.reduceToNat,Nat.reduceSub,List.replicate,Nat.reduceBEq,grpE,beq_true,beq_false,grpC,grpY]
  all_goals (try simp only [*,m_impl_Turn_opposite,grpZ,if_true,if_false,reduceIte,decide_true,decide_false])
  all_goals (try (simp_all; done))
 ·cases h
def m_impl_between (x0 : Nat) (x1 : Nat) (x2 : Nat) : Nat := (fadd .f32 x0 (fmul .f32 x2 (fsub .f32 x1 x0)))
def g_impl_between : List AV → Option AV
 | [.flt .f32 y0,.flt .f32 y1,.flt .f32 y2] => some (.flt .f32 (m_impl_between y0 y1 y2))
 | _ => none
def ic106 : ICode := (.seq (.reg [⟨some 6,none,.mov (.c (.flt .f32 0))⟩] [0,1,2]) (.seq (.reg [⟨some 7,none,.mov (.t 0)⟩,⟨some 8,none,.mov (.t 2)⟩,⟨some 9,none,.mov (.t 1)⟩,⟨some 10,none,.mov (.t 0)⟩,⟨some 11,none,.bin .sub false (.t 9) (.t 10)⟩,⟨some 12,none,.bin .mul false (.t 8) (.t 11)⟩,⟨some 13,none,.bin .add false (.t 7) (.t 12)⟩,⟨some 6,none,.mov (.t 13)⟩] [6]) .ret))
def cp106 : CP := CP.mk [] [] [[0,1,2],[6]] 14 [] []
theorem s106 : ∀ vs r,g_impl_between vs = some r → SaysM Try.prog .any 106 vs r := by
 intro vs r h
 unfold g_impl_between at h
 split at h
 ·rename_i y0 y1 y2
  cases h
  refine spec_of (m := .any) (tab := tabOf []) (cp := cp106) (ic := ic106) (rvl := [(.t 6)]) hm tabOk_nil Try.func106 rfl rfl rfl (by kernel_rfl) rfl (Nat.le_of_ble_eq_true rfl) (Nat.le_of_ble_eq_true rfl) ?_
  show eA _ _ _ _
  unfold ic106
  simp only [
    grpX,purgeH,Option.map,reduceIte,Nat.reduceEqDiff,Nat.reduceAdd,Nat.reduceMul,Nat.reduceLT,Nat.reduceLeDiff,implies_true,forall_const,eq_self,Int.reduceEq,Int.reduceLE,Int.reduceLT,if_true,if_false,grpK,Int.reduceAdd,Int.reduceSub,Int.reduceMul,Int.reduceNeg,Int.reducePow,Nat.reducePow,Int.reduceToNat,Nat.reduceSub,List.replicate,Nat.reduceBEq,grpE,beq_true,beq_false,grpC,grpY]
  all_goals (try simp only [*,m_impl_between,grpZ,if_true,if_false,reduceIte,decide_true,decide_false])
  all_goals (try (simp_all; done))
 ·cases h
def m_impl_RootNumber (x0 : Nat) : Nat := (narrow (m_math_Sqrt (widen x0)))
def p_impl_RootNumber (x0 : Nat) : Bool := (narrowOk (m_math_Sqrt (widen x0)))
def g_impl_RootNumber : List AV → Option AV
 | [.flt .f32 y0] => if p_impl_RootNumber y0 = true then some (.flt .f32 (m_impl_RootNumber y0)) else none
 | _ => none
def ic125 : ICode := (.seq (.reg [⟨some 2,none,.mov (.c (.flt .f32 0))⟩] [0]) (.seq (.reg [⟨some 3,none,.mov (.t 0)⟩,⟨some 4,none,.conv (.flt .f64) (.t 3)⟩,⟨some 5,none,.call (.fn 124) [(.t 4)] []⟩,⟨some 6,none,.conv (.flt .f32) (.t 5)⟩,⟨some 2,none,.mov (.t 6)⟩] [2]) .ret))
def cp125 : CP := CP.mk [] [] [[0],[2]] 7 [] []
theorem s125 : ∀ vs r,g_impl_RootNumber vs = some r → SaysM Try.prog .any 125 vs r := by
 intro vs r h
 unfold g_impl_RootNumber at h
 split at h
 ·rename_i y0
  split at h
  ·rename_i hp
   cases h
   refine spec_of (m := .any) (tab := tabOf [(124,wM .any g_math_Sqrt)]) (cp := cp125) (ic := ic125) (rvl := [(.t 2)]) hm (tabOk_cons (m := .any) s124 tabOk_nil) Try.func125 rfl rfl rfl (by kernel_rfl) rfl (Nat.le_of_ble_eq_true rfl) (Nat.le_of_ble_eq_true rfl) ?_
   show eA _ _ _ _
   unfold ic125
   simp only [p_impl_RootNumber,Bool.and_eq_true,Bool.or_eq_true,decide_eq_true_eq,Bool.not_eq_true',decide_eq_false_iff_not] at hp
   simp only [
     hp,grpX,purgeH,Option.map,reduceIte,Nat.reduceEqDiff,Nat.reduceAdd,Nat.reduceMul,Nat.reduceLT,Nat.reduceLeDiff,implies_true,forall_const,eq_self,Int.reduceEq,Int.reduceLE,Int.reduceLT,if_true,if_false,grpK,Int.reduceAdd,Int.reduceSub,Int.reduceMul,Int.reduceNeg,Int.reducePow,Nat.reducePow,Int.reduceToNat,Nat.reduceSub,List.replicate,Nat.reduceBEq,grpE,beq_true,beq_false,g_math_Sqrt,grpC,grpY]
   all_goals (try simp only [*,m_impl_RootNumber,grpZ,if_true,if_false,reduceIte,decide_true,decide_false])
   all_goals (try (simp_all; done))
  ·cases h
 ·cases h
def m_impl_LengthOfTurn (x0 : (Nat × Nat × Nat × Nat)) : Nat := (m_impl_RootNumber (m_impl_InnerOfTurns x0 x0))
def p_impl_LengthOfTurn (x0 : (Nat × Nat × Nat × Nat)) : Bool := (p_impl_RootNumber (m_impl_InnerOfTurns x0 x0))
def g_impl_LengthOfTurn : List AV → Option AV
 | [.agg [.flt .f32 y0,.flt .f32 y1,.flt .f32 y2,.flt .f32 y3]] => if p_impl_LengthOfTurn (y0,y1,y2,y3) = true then some (.flt .f32 (m_impl_LengthOfTurn (y0,y1,y2,y3))) else none
 | _ => none
def ic119 : ICode := (.seq (.reg [⟨some 1,none,.box 4 (.t 0)⟩,⟨some 2,none,.mov (.c (.flt .f32 0))⟩] [1]) (.seq (.reg [⟨some 3,none,.load (some 4) (.t 1)⟩,⟨some 4,none,.load (some 4) (.t 1)⟩,⟨some 5,none,.call (.fn 103) [(.t 3),(.t 4)] []⟩,⟨some 6,none,.call (.fn 125) [(.t 5)] []⟩,⟨some 2,none,.mov (.t 6)⟩] [2]) .ret))
def cp119 : CP := CP.mk [] [] [[1],[2]] 7 [] []
theorem s119 : ∀ vs r,g_impl_LengthOfTurn vs = some r → SaysM Try.prog .any 119 vs r := by
 intro vs r h
 unfold g_impl_LengthOfTurn at h
 split at h
 ·rename_i y0 y1 y2 y3
  split at h
  ·rename_i hp
   cases h
   refine spec_of (m := .any) (tab := tabOf [(103,wM .any g_impl_InnerOfTurns),(125,wM .any g_impl_RootNumber)]) (cp := cp119) (ic := ic119) (rvl := [(.t 2)]) hm (tabOk_cons (m := .any) s103 (tabOk_cons (m := .any) s125 tabOk_nil)) Try.func119 rfl rfl rfl (by kernel_rfl) rfl (Nat.le_of_ble_eq_true rfl) (Nat.le_of_ble_eq_true rfl) ?_
   show eA _ _ _ _
   unfold ic119
   simp only [p_impl_LengthOfTurn,Bool.and_eq_true,Bool.or_eq_true,decide_eq_true_eq,Bool.not_eq_true',decide_eq_false_iff_not] at hp
   simp only [
     hp,grpX,purgeH,Option.map,reduceIte,Nat.reduceEqDiff,Nat.reduceAdd,Nat.reduceMul,Nat.reduceLT,Nat.reduceLeDiff,implies_true,forall_const,eq_self,Int.reduceEq,Int.reduceLE,Int.reduceLT,if_true,if_false,grpK,Int.reduceAdd,Int.reduceSub,Int.reduceMul,Int.reduceNeg,Int.reducePow,Nat.reducePow,Int.reduceToNat,Nat.reduceSub,List.replicate,Nat.reduceBEq,grpE,beq_true,beq_false,g_impl_InnerOfTurns,g_impl_RootNumber,grpC,grpY]
   all_goals (try simp only [*,m_impl_LengthOfTurn,grpZ,if_true,if_false,reduceIte,decide_true,decide_false])
   all_goals (try (simp_all; done))
  ·cases h
 ·cases h
def m_impl_IsFinite (x0 : Nat) : Bool := (feq .f32 (fsub .f32 x0 x0) 0)
def g_impl_IsFinite : List AV → Option AV
 | [.flt .f32 y0] => some (.bool (m_impl_IsFinite y0))
 | _ => none
def ic126 : ICode := (.seq (.reg [⟨some 2,none,.mov (.c (.bool false))⟩] [0]) (.seq (.reg [⟨some 3,none,.mov (.t 0)⟩,⟨some 4,none,.mov (.t 0)⟩,⟨some 5,none,.bin .sub false (.t 3) (.t 4)⟩,⟨some 6,none,.bin .eql false (.t 5) (.c (.flt .f32 0))⟩,⟨some 2,none,.mov (.t 6)⟩] [2]) .ret))
def cp126 : CP := CP.mk [] [] [[0],[2]] 7 [] []
theorem s126 : ∀ vs r,g_impl_IsFinite vs = some r → SaysM Try.prog .any 126 vs r := by
 intro vs r h
 unfold g_impl_IsFinite at h
 split at h
 ·rename_i y0
  cases h
  refine spec_of (m := .any) (tab := tabOf []) (cp := cp126) (ic := ic126) (rvl := [(.t 2)]) hm tabOk_nil Try.func126 rfl rfl rfl (by kernel_rfl) rfl (Nat.le_of_ble_eq_true rfl) (Nat.le_of_ble_eq_true rfl) ?_
  show eA _ _ _ _
  unfold ic126
  simp only [
    grpX,purgeH,Option.map,reduceIte,Nat.reduceEqDiff,Nat.reduceAdd,Nat.reduceMul,Nat.reduceLT,Nat.reduceLeDiff,implies_true,forall_const,eq_self,Int.reduceEq,Int.reduceLE,Int.reduceLT,if_true,if_false,grpK,Int.reduceAdd,Int.reduceSub,Int.reduceMul,Int.reduceNeg,Int.reducePow,Nat.reducePow,Int.reduceToNat,Nat.reduceSub,List.replicate,Nat.reduceBEq,grpE,beq_true,beq_false,grpC,grpY]
  all_goals (try simp only [*,m_impl_IsFinite,grpZ,if_true,if_false,reduceIte,decide_true,decide_false])
  all_goals (try (simp_all; done))
 ·cases h
def m_impl_isLength (x0 : Nat) : Bool := (if (m_impl_IsFinite x0) = true then (!(feq .f32 x0 0)) else false)
def g_impl_isLength : List AV → Option AV
 | [.flt .f32 y0] => some (.bool (m_impl_isLength y0))
 | _ => none
def ic120 : ICode := (.seq (.reg [⟨some 2,none,.mov (.c (.bool false))⟩] [0]) (.seq (.reg [⟨some 3,none,.mov (.t 0)⟩,⟨some 4,none,.call (.fn 126) [(.t 3)] []⟩,⟨some 5,none,.mov (.t 4)⟩,⟨(some 6),(some (5,true)),(.mov (.t 0))⟩,⟨(some 7),(some (5,true)),(.bin .neq false (.t 6) (.c (.flt .f32 0)))⟩,⟨some 8,none,.pick (.t 5) (.t 7) (.c (.bool false))⟩,⟨some 2,none,.mov (.t 8)⟩] [2]) .ret))
def cp120 : CP := CP.mk [] [] [[0],[2]] 9 [] []
theorem s120 : ∀ vs r,g_impl_isLength vs = some r → SaysM Try.prog .any 120 vs r := by
 intro vs r h
 unfold g_impl_isLength at h
 split at h
 ·rename_i y0
  cases h
  refine spec_of (m := .any) (tab := tabOf [(126,wM .any g_impl_IsFinite)]) (cp := cp120) (ic := ic120) (rvl := [(.t 2)]) hm (tabOk_cons (m := .any) s126 tabOk_nil) Try.func120 rfl rfl rfl (by kernel_rfl) rfl (Nat.le_of_ble_eq_true rfl) (Nat.le_of_ble_eq_true rfl) ?_
  show eA _ _ _ _
  unfold ic120
  refine eS_to ?_
  repeat' (first
   | ((first | (have h := True.intro; refine eS_of ?_) | (refine eGI_of (fun h => ?_) (fun h => ?_)) | (refine eCc_of (fun h => ?_) (fun h => ?_)) | (refine ePk_of (fun h => ?_) (fun h => ?_))) <;> (try simp only [Bool.not_eq_true',Bool.not_eq_false'] at h) <;> (try first | exact nbA h (by assumption) | exact nbB h (by assumption)) <;> simp only [h,
    grpX,purgeH,Option.map,reduceIte,Nat.reduceEqDiff,Nat.reduceAdd,Nat.reduceMul,Nat.reduceLT,Nat.reduceLeDiff,implies_true,forall_const,eq_self,Int.reduceEq,Int.reduceLE,Int.reduceLT,if_true,if_false,grpK,Int.reduceAdd,Int.reduceSub,Int.reduceMul,Int.reduceNeg,Int.reducePow,Nat.reducePow,Int.reduceToNat,Nat.reduceSub,List.replicate,Nat.reduceBEq,grpE,beq_true,beq_false,g_impl_IsFinite,grpC,grpY,↓b_pick,ePk_true,ePk_false]))
  all_goals (try simp only [*,m_impl_isLength,grpZ,if_true,if_false,reduceIte,decide_true,decide_false])
  all_goals (try (simp_all; done))
 ·cases h
def m_impl_NoTurn  : (Nat × Nat × Nat × Nat) := (1065353216,0,0,0)
def g_impl_NoTurn : List AV → Option AV
 | [] => some (AV.agg [(.flt .f32 (m_impl_NoTurn).1),(.flt .f32 (m_impl_NoTurn).2.1),(.flt .f32 (m_impl_NoTurn).2.2.1),(.flt .f32 (m_impl_NoTurn).2.2.2)])
 | _ => none
def ic121 : ICode := (.seq (.reg [⟨some 0,none,.alloc (.agg [(.flt .f32 0),(.flt .f32 0),(.flt .f32 0),(.flt .f32 0)])⟩] [0]) (.seq (.reg [⟨some 1,none,.build [(.flt .f32 0),(.flt .f32 0),(.flt .f32 0),(.flt .f32 0)] [(0,1,(.c (.flt .f32 1065353216)))]⟩,⟨none,none,(.store 4 (.t 0) (.t 1))⟩] [0]) .ret))
def cp121 : CP := CP.mk [] [] [[0],[0]] 2 [] []
theorem s121 : ∀ vs r,g_impl_NoTurn vs = some r → SaysM Try.prog .any 121 vs r := by
 intro vs r h
 unfold g_impl_NoTurn at h
 split at h
 ·cases h
  refine spec_of (m := .any) (tab := tabOf []) (cp := cp121) (ic := ic121) (rvl := [(.c 0 (some 4))]) hm tabOk_nil Try.func121 rfl rfl rfl (by kernel_rfl) rfl (Nat.le_of_ble_eq_true rfl) (Nat.le_of_ble_eq_true rfl) ?_
  show eA _ _ _ _
  unfold ic121
  simp only [
    grpX,purgeH,Option.map,reduceIte,Nat.reduceEqDiff,Nat.reduceAdd,Nat.reduceMul,Nat.reduceLT,Nat.reduceLeDiff,implies_true,forall_const,eq_self,Int.reduceEq,Int.reduceLE,Int.reduceLT,if_true,if_false,grpK,Int.reduceAdd,Int.reduceSub,Int.reduceMul,Int.reduceNeg,Int.reducePow,Nat.reducePow,Int.reduceToNat,Nat.reduceSub,List.replicate,Nat.reduceBEq,grpE,beq_true,beq_false,grpC,grpY]
  all_goals (try simp only [*,m_impl_NoTurn,grpZ,if_true,if_false,reduceIte,decide_true,decide_false])
  all_goals (try (simp_all; done))
 ·cases h
def m_impl_MendTurn (x0 : (Nat × Nat × Nat × Nat)) : (Nat × Nat × Nat × Nat) := (if (m_impl_isLength (m_impl_LengthOfTurn x0)) = true then ((fdiv .f32 x0.1 (m_impl_LengthOfTurn x0)),(fdiv .f32 x0.2.1 (m_impl_LengthOfTurn x0)),(fdiv .f32 x0.2.2.1 (m_impl_LengthOfTurn x0)),(fdiv .f32 x0.2.2.2 (m_impl_LengthOfTurn x0))) else (m_impl_NoTurn))
def p_impl_MendTurn (x0 : (Nat × Nat × Nat × Nat)) : Bool := (p_impl_LengthOfTurn x0)
def g_impl_MendTurn : List AV → Option AV
 | [.agg [.flt .f32 y0,.flt .f32 y1,.flt .f32 y2,.flt .f32 y3]] => if p_impl_MendTurn (y0,y1,y2,y3) = true then some (AV.agg [(.flt .f32 (m_impl_MendTurn (y0,y1,y2,y3)).1),(.flt .f32 (m_impl_MendTurn (y0,y1,y2,y3)).2.1),(.flt .f32 (m_impl_MendTurn (y0,y1,y2,y3)).2.2.1),(.flt .f32 (m_impl_MendTurn (y0,y1,y2,y3)).2.2.2)]) else none
 | _ => none
def ic105 : ICode := (.seq (.reg [⟨some 1,none,.box 4 (.t 0)⟩,⟨some 2,none,.alloc (.agg [(.flt .f32 0),(.flt .f32 0),(.flt .f32 0),(.flt .f32 0)])⟩] [1,2]) (.seq (.reg [⟨some 4,none,.load (some 4) (.t 1)⟩,⟨some 5,none,.call (.fn 119) [(.t 4)] []⟩,⟨some 3,none,.mov (.t 5)⟩] [1,2,3]) (.seq (.seq (.reg [⟨some 6,none,.mov (.t 3)⟩,⟨some 7,none,.call (.fn 120) [(.t 6)] []⟩,⟨some 8,none,.un .not (.t 7)⟩] [1,2,3,8]) (.cond (.t 8) (.seq (.reg [⟨some 9,none,.call (.fn 121) [] []⟩,⟨none,none,(.store 4 (.t 2) (.t 9))⟩] [2]) .ret) .skip)) (.seq (.reg [⟨some 10,none,.faddr 0 (.t 1)⟩,⟨some 11,none,.load none (.t 10)⟩,⟨some 12,none,.mov (.t 3)⟩,⟨some 13,none,.bin .quo false (.t 11) (.t 12)⟩,⟨some 14,none,.faddr 1 (.t 1)⟩,⟨some 15,none,.load none (.t 14)⟩,⟨some 16,none,.mov (.t 3)⟩,⟨some 17,none,.bin .quo false (.t 15) (.t 16)⟩,⟨some 18,none,.faddr 2 (.t 1)⟩,⟨some 19,none,.load none (.t 18)⟩,⟨some 20,none,.mov (.t 3)⟩,⟨some 21,none,.bin .quo false (.t 19) (.t 20)⟩,⟨some 22,none,.faddr 3 (.t 1)⟩,⟨some 23,none,.load none (.t 22)⟩,⟨some 24,none,.mov (.t 3)⟩,⟨some 25,none,.bin .quo false (.t 23) (.t 24)⟩,⟨some 26,none,.build [(.flt .f32 0),(.flt .f32 0),(.flt .f32 0),(.flt .f32 0)] [(0,1,(.t 13)),(1,1,(.t 17)),(2,1,(.t 21)),(3,1,(.t 25))]⟩,⟨none,none,(.store 4 (.t 2) (.t 26))⟩] [2]) .ret))))
def cp105 : CP := CP.mk [] [] [[1,2],[1,2,3],[1,2,3,8],[2],[2]] 27 [] []
theorem s105 : ∀ vs r,g_impl_MendTurn vs = some r → SaysM Try.prog .any 105 vs r := by
 intro vs r h
 unfold g_impl_MendTurn at h
 split at h
 ·rename_i y0 y1 y2 y3
  split at h
  ·rename_i hp
   cases h
   refine spec_of (m := .any) (tab := tabOf [(119,wM .any g_impl_LengthOfTurn),(120,wM .any g_impl_isLength),(121,wM .any g_impl_NoTurn)]) (cp := cp105) (ic := ic105) (rvl := [(.c 2 (some 4))]) hm (tabOk_cons (m := .any) s119 (tabOk_cons (m := .any) s120 (tabOk_cons (m := .any) s121 tabOk_nil))) Try.func105 rfl rfl rfl (by kernel_rfl) rfl (Nat.le_of_ble_eq_true rfl) (Nat.le_of_ble_eq_true rfl) ?_
   show eA _ _ _ _
   unfold ic105
   simp only [p_impl_MendTurn,Bool.and_eq_true,Bool.or_eq_true,decide_eq_true_eq,Bool.not_eq_true',decide_eq_false_iff_not] at hp
   refine eS_to ?_
   repeat' (first
    | ((first | (have h := True.intro; refine eS_of ?_) | (refine eGI_of (fun h => ?_) (fun h => ?_)) | (refine eCc_of (fun h => ?_) (fun h => ?_))) <;> (try simp only [Bool.not_eq_true',Bool.not_eq_false'] at h) <;> (try first | exact nbA h (by assumption) | exact nbB h (by assumption)) <;> (try simp only [h,reduceCtorEq,grpN,Int.reduceEq,Int.reduceLT,Int.reduceLE,if_true,if_false,reduceIte] at hp) <;> (first | (have h2 := h; simp only [decide_eq_true_eq,decide_eq_false_iff_not] at h2; (first | (replace h2 := eq_false h2) | (replace h2 := eq_true h2)); (try simp only [h2,reduceCtorEq,grpN,Int.reduceEq,Int.reduceLT,Int.reduceLE,if_true,if_false,reduceIte] at hp); replace hp := And.intro h2 hp) | (replace hp := And.intro h hp) | skip) <;> simp only [h,
     hp,grpX,purgeH,Option.map,reduceIte,Nat.reduceEqDiff,Nat.reduceAdd,Nat.reduceMul,Nat.reduceLT,Nat.reduceLeDiff,implies_true,forall_const,eq_self,Int.reduceEq,Int.reduceLE,Int.reduceLT,if_true,if_false,grpK,Int.reduceAdd,Int.reduceSub,Int.reduceMul,Int.reduceNeg,Int.reducePow,Nat.reducePow,Int.reduceToNat,Nat.reduceSub,List.replicate,Nat.reduceBEq,grpE,beq_true,beq_false,g_impl_LengthOfTurn,g_impl_isLength,g_impl_NoTurn,grpC,grpY]))
   all_goals (try simp only [*,m_impl_MendTurn,grpZ,if_true,if_false,reduceIte,decide_true,decide_false])
   all_goals (try (simp_all; done))
  ·cases h
 ·cases h
def m_impl_NearTurn (x0 : (Nat × Nat × Nat × Nat)) (x1 : (Nat × Nat × Nat × Nat)) (x2 : Nat) : (Nat × Nat × Nat × Nat) := (m_impl_MendTurn ((m_impl_between x0.1 (if (flt .f32 (m_impl_InnerOfTurns x0 x1) 0) = true then (m_impl_Turn_opposite x1) else x1).1 x2),(m_impl_between x0.2.1 (if (flt .f32 (m_impl_InnerOfTurns x0 x1) 0) = true then (m_impl_Turn_opposite x1) else x1).2.1 x2),(m_impl_between x0.2.2.1 (if (flt .f32 (m_impl_InnerOfTurns x0 x1) 0) = true then (m_impl_Turn_opposite x1) else x1).2.2.1 x2),(m_impl_between x0.2.2.2 (if (flt .f32 (m_impl_InnerOfTurns x0 x1) 0) = true then (m_impl_Turn_opposite x1) else x1).2.2.2 x2)))
def p_impl_NearTurn (x0 : (Nat × Nat × Nat × Nat)) (x1 : (Nat × Nat × Nat × Nat)) (x2 : Nat) : Bool := (p_impl_MendTurn ((m_impl_between x0.1 (if (flt .f32 (m_impl_InnerOfTurns x0 x1) 0) = true then (m_impl_Turn_opposite x1) else x1).1 x2),(m_impl_between x0.2.1 (if (flt .f32 (m_impl_InnerOfTurns x0 x1) 0) = true then (m_impl_Turn_opposite x1) else x1).2.1 x2),(m_impl_between x0.2.2.1 (if (flt .f32 (m_impl_InnerOfTurns x0 x1) 0) = true then (m_impl_Turn_opposite x1) else x1).2.2.1 x2),(m_impl_between x0.2.2.2 (if (flt .f32 (m_impl_InnerOfTurns x0 x1) 0) = true then (m_impl_Turn_opposite x1) else x1).2.2.2 x2)))
def g_impl_NearTurn : List AV → Option AV
 | [.agg [.flt .f32 y0,.flt .f32 y1,.flt .f32 y2,.flt .f32 y3],.agg [.flt .f32 y4,.flt .f32 y5,.flt .f32 y6,.flt .f32 y7],.flt .f32 y8] => if p_impl_NearTurn (y0,y1,y2,y3) (y4,y5,y6,y7) y8 = true then some (AV.agg [(.flt .f32 (m_impl_NearTurn (y0,y1,y2,y3) (y4,y5,y6,y7) y8).1),(.flt .f32 (m_impl_NearTurn (y0,y1,y2,y3) (y4,y5,y6,y7) y8).2.1),(.flt .f32 (m_impl_NearTurn (y0,y1,y2,y3) (y4,y5,y6,y7) y8).2.2.1),(.flt .f32 (m_impl_NearTurn (y0,y1,y2,y3) (y4,y5,y6,y7) y8).2.2.2)]) else none
 | _ => none
def ic77 : ICode := (.seq (.reg [⟨some 3,none,.box 4 (.t 0)⟩,⟨some 4,none,.box 4 (.t 1)⟩,⟨some 6,none,.alloc (.agg [(.flt .f32 0),(.flt .f32 0),(.flt .f32 0),(.flt .f32 0)])⟩] [2,3,4,6]) (.seq (.seq (.reg [⟨some 7,none,.load (some 4) (.t 3)⟩,⟨some 8,none,.load (some 4) (.t 4)⟩,⟨some 9,none,.call (.fn 103) [(.t 7),(.t 8)] []⟩,⟨some 10,none,.bin .lss false (.t 9) (.c (.flt .f32 0))⟩] [2,3,4,6,10]) (.cond (.t 10) (.reg [⟨some 11,none,.load (some 4) (.t 4)⟩,⟨some 12,none,.call (.fn 104) [(.t 11)] []⟩,⟨none,none,(.store 4 (.t 4) (.t 12))⟩] [2,3,4,6]) .skip)) (.seq (.reg [⟨some 13,none,.faddr 0 (.t 3)⟩,⟨some 14,none,.load none (.t 13)⟩,⟨some 15,none,.faddr 0 (.t 4)⟩,⟨some 16,none,.load none (.t 15)⟩,⟨some 17,none,.mov (.t 2)⟩,⟨some 18,none,.call (.fn 106) [(.t 14),(.t 16),(.t 17)] []⟩,⟨some 19,none,.faddr 1 (.t 3)⟩,⟨some 20,none,.load none (.t 19)⟩,⟨some 21,none,.faddr 1 (.t 4)⟩,⟨some 22,none,.load none (.t 21)⟩,⟨some 23,none,.mov (.t 2)⟩,⟨some 24,none,.call (.fn 106) [(.t 20),(.t 22),(.t 23)] []⟩,⟨some 25,none,.faddr 2 (.t 3)⟩,⟨some 26,none,.load none (.t 25)⟩,⟨some 27,none,.faddr 2 (.t 4)⟩,⟨some 28,none,.load none (.t 27)⟩,⟨some 29,none,.mov (.t 2)⟩,⟨some 30,none,.call (.fn 106) [(.t 26),(.t 28),(.t 29)] []⟩,⟨some 31,none,.faddr 3 (.t 3)⟩,⟨some 32,none,.load none (.t 31)⟩,⟨some 33,none,.faddr 3 (.t 4)⟩,⟨some 34,none,.load none (.t 33)⟩,⟨some 35,none,.mov (.t 2)⟩,⟨some 36,none,.call (.fn 106) [(.t 32),(.t 34),(.t 35)] []⟩,⟨some 37,none,.build [(.flt .f32 0),(.flt .f32 0),(.flt .f32 0),(.flt .f32 0)] [(0,1,(.t 18)),(1,1,(.t 24)),(2,1,(.t 30)),(3,1,(.t 36))]⟩,⟨some 38,none,.call (.fn 105) [(.t 37)] []⟩,⟨none,none,(.store 4 (.t 6) (.t 38))⟩] [6]) .ret)))
def cp77 : CP := CP.mk [] [] [[2,3,4,6],[2,3,4,6,10],[2,3,4,6],[6]] 39 [] []
theorem s77 : ∀ vs r,g_impl_NearTurn vs = some r → SaysM Try.prog .any 77 vs r := by
 intro vs r h
 unfold g_impl_NearTurn at h
 split at h
 ·rename_i y0 y1 y2 y3 y4 y5 y6 y7 y8
  split at h
  ·rename_i hp
   cases h
   refine spec_of (m := .any) (tab := tabOf [(103,wM .any g_impl_InnerOfTurns),(104,wM .any g_impl_Turn_opposite),(105,wM .any g_impl_MendTurn),(106,wM .any g_impl_between)]) (cp := cp77) (ic := ic77) (rvl := [(.c 6 (some 4))]) hm (tabOk_cons (m := .any) s103 (tabOk_cons (m := .any) s104 (tabOk_cons (m := .any) s105 (tabOk_cons (m := .any) s106 tabOk_nil)))) Try.func77 rfl rfl rfl (by kernel_rfl) rfl (Nat.le_of_ble_eq_true rfl) (Nat.le_of_ble_eq_true rfl) ?_
   show eA _ _ _ _
   unfold ic77
   simp only [p_impl_NearTurn,Bool.and_eq_true,Bool.or_eq_true,decide_eq_true_eq,Bool.not_eq_true',decide_eq_false_iff_not] at hp
   refine eS_to ?_
   repeat' (first
    | ((first | (have h := True.intro; refine eS_of ?_) | (refine eGI_of (fun h => ?_) (fun h => ?_)) | (refine eCc_of (fun h => ?_) (fun h => ?_))) <;> (try simp only [Bool.not_eq_true',Bool.not_eq_false'] at h) <;> (try first | exact nbA h (by assumption) | exact nbB h (by assumption)) <;> (try simp only [h,reduceCtorEq,grpN,Int.reduceEq,Int.reduceLT,Int.reduceLE,if_true,if_false,reduceIte] at hp) <;> (first | (have h2 := h; simp only [decide_eq_true_eq,decide_eq_false_iff_not] at h2; (first | (replace h2 := eq_false h2) | (replace h2 := eq_true h2)); (try simp only [h2,reduceCtorEq,grpN,Int.reduceEq,Int.reduceLT,Int.reduceLE,if_true,if_false,reduceIte] at hp); replace hp := And.intro h2 hp) | (replace hp := And.intro h hp) | skip) <;> simp only [h,
     hp,grpX,purgeH,Option.map,reduceIte,Nat.reduceEqDiff,Nat.reduceAdd,Nat.reduceMul,Nat.reduceLT,Nat.reduceLeDiff,implies_true,forall_const,eq_self,Int.reduceEq,Int.reduceLE,Int.reduceLT,if_true,if_false,grpK,Int.reduceAdd,Int.reduceSub,Int.reduceMul,Int.reduceNeg,Int.reducePow,Nat.reducePow,Int.reduceToNat,Nat.reduceSub,List.replicate,Nat.reduceBEq,grpE,beq_true,beq_false,g_impl_InnerOfTurns,g_impl_Turn_opposite,g_impl_MendTurn,g_impl_between,grpC,grpY]))
   all_goals (try simp only [*,m_impl_NearTurn,grpZ,if_true,if_false,reduceIte,decide_true,decide_false])
   all_goals (try (simp_all; done))
  ·cases h
 ·cases h
def m_impl_turnTrack_3 (x0 : (Int × Nat × Nat × Nat × Nat)) (x1 : (Int × Nat × Nat × Nat × Nat)) (x2 : Nat) : (Int × Nat × Nat × Nat × Nat) := (x0.1,(m_impl_NearTurn x0.2 x1.2 x2).1,(m_impl_NearTurn x0.2 x1.2 x2).2.1,(m_impl_NearTurn x0.2 x1.2 x2).2.2.1,(m_impl_NearTurn x0.2 x1.2 x2).2.2.2)
def p_impl_turnTrack_3 (x0 : (Int × Nat × Nat × Nat × Nat)) (x1 : (Int × Nat × Nat × Nat × Nat)) (x2 : Nat) : Bool := (p_impl_NearTurn x0.2 x1.2 x2)
def g_impl_turnTrack_3 : List AV → Option AV
 | [.agg [.int .i64 y0,.flt .f32 y1,.flt .f32 y2,.flt .f32 y3,.flt .f32 y4],.agg [.int .i64 y5,.flt .f32 y6,.flt .f32 y7,.flt .f32 y8,.flt .f32 y9],.flt .f32 y10] => if p_impl_turnTrack_3 (y0,y1,y2,y3,y4) (y5,y6,y7,y8,y9) y10 = true then some (AV.agg [(.int .i64 (m_impl_turnTrack_3 (y0,y1,y2,y3,y4) (y5,y6,y7,y8,y9) y10).1),(.flt .f32 (m_impl_turnTrack_3 (y0,y1,y2,y3,y4) (y5,y6,y7,y8,y9) y10).2.1),(.flt .f32 (m_impl_turnTrack_3 (y0,y1,y2,y3,y4) (y5,y6,y7,y8,y9) y10).2.2.1),(.flt .f32 (m_impl_turnTrack_3 (y0,y1,y2,y3,y4) (y5,y6,y7,y8,y9) y10).2.2.2.1),(.flt .f32 (m_impl_turnTrack_3 (y0,y1,y2,y3,y4) (y5,y6,y7,y8,y9) y10).2.2.2.2)]) else none
 | _ => none
def ic76 : ICode := (.seq (.reg [⟨some 3,none,.box 5 (.t 0)⟩,⟨some 4,none,.box 5 (.t 1)⟩,⟨some 6,none,.alloc (.agg [(.int .i64 0),(.flt .f32 0),(.flt .f32 0),(.flt .f32 0),(.flt .f32 0)])⟩] [2,3,4,6]) (.seq (.reg [⟨some 7,none,.faddr 1 (.t 3)⟩,⟨some 8,none,.load (some 4) (.t 7)⟩,⟨some 9,none,.faddr 1 (.t 4)⟩,⟨some 10,none,.load (some 4) (.t 9)⟩,⟨some 11,none,.mov (.t 2)⟩,⟨some 12,none,.call (.fn 77) [(.t 8),(.t 10),(.t 11)] []⟩,⟨some 13,none,.faddr 1 (.t 3)⟩,⟨none,none,(.store 4 (.t 13) (.t 12))⟩] [3,6]) (.seq (.reg [⟨some 14,none,.load (some 5) (.t 3)⟩,⟨none,none,(.store 5 (.t 6) (.t 14))⟩] [6]) .ret)))
def cp76 : CP := CP.mk [] [] [[2,3,4,6],[3,6],[6]] 15 [] []
theorem s76 : ∀ vs r,g_impl_turnTrack_3 vs = some r → SaysM Try.prog .any 76 vs r := by
 intro vs r h
 unfold g_impl_turnTrack_3 at h
 split at h
 ·rename_i y0 y1 y2 y3 y4 y5 y6 y7 y8 y9 y10
  split at h
  ·rename_i hp
   cases h
   refine spec_of (m := .any) (tab := tabOf [(77,wM .any g_impl_NearTurn)]) (cp := cp76) (ic := ic76) (rvl := [(.c 6 (some 5))]) hm (tabOk_cons (m := .any) s77 tabOk_nil) Try.func76 rfl rfl rfl (by kernel_rfl) rfl (Nat.le_of_ble_eq_true rfl) (Nat.le_of_ble_eq_true rfl) ?_
   show eA _ _ _ _
   unfold ic76
   simp only [p_impl_turnTrack_3,Bool.and_eq_true,Bool.or_eq_true,decide_eq_true_eq,Bool.not_eq_true',decide_eq_false_iff_not] at hp
   simp only [
     hp,grpX,purgeH,Option.map,reduceIte,Nat.reduceEqDiff,Nat.reduceAdd,Nat.reduceMul,Nat.reduceLT,Nat.reduceLeDiff,implies_true,forall_const,eq_self,Int.reduceEq,Int.reduceLE,Int.reduceLT,if_true,if_false,grpK,Int.reduceAdd,Int.reduceSub,Int.reduceMul,Int.reduceNeg,Int.reducePow,Nat.reducePow,Int.reduceToNat,Nat.reduceSub,List.replicate,Nat.reduceBEq,grpE,beq_true,beq_false,g_impl_NearTurn,grpC,grpY]
   all_goals (try simp only [*,m_impl_turnTrack_3,grpZ,if_true,if_false,reduceIte,decide_true,decide_false])
   all_goals (try (simp_all; done))
  ·cases h
 ·cases h
def l_impl_Key_sample_0 (x1 : (List (Int × Nat × Nat × Nat × Nat))) (x2 : Int) (x3 : Int) : Nat → Int → Option Int
 | 0,_ => none
 | n + 1,z0_0 => (if (decide (z0_0 < ((List.length x1 : Nat) : Int))) = true then (need (inB z0_0 (List.length x1)) (if (decide ((m_impl_turnTrack_1 (atI x1 z0_0)) ≤ x3)) = true then (l_impl_Key_sample_0 x1 x2 x3 n (IntKind.wrap .i64 (z0_0 + 1))) else (some z0_0))) else (some z0_0))
def v_impl_Key_sample_0 (x1 : (List (Int × Nat × Nat × Nat × Nat))) (x2 : Int) (x3 : Int) : Int := (m_impl_turnTrack_1 (atI x1 (IntKind.wrap .i64 ((Option.getD (l_impl_Key_sample_0 x1 x2 x3 (Int.toNat (((List.length x1 : Nat) : Int) - 0) + 2) 0) default) - 1))))
def v_impl_Key_sample_1 (x1 : (List (Int × Nat × Nat × Nat × Nat))) (x2 : Int) (x3 : Int) : Nat := (m_impl_share (v_impl_Key_sample_0 x1 x2 x3) x3 (m_impl_turnTrack_1 (atI x1 (Option.getD (l_impl_Key_sample_0 x1 x2 x3 (Int.toNat (((List.length x1 : Nat) : Int) - 0) + 2) 0) default))))
def v_impl_Key_sample_2 (x1 : (List (Int × Nat × Nat × Nat × Nat))) (x2 : Int) (x3 : Int) : Nat := (fmul .f32 (fmul .f32 (v_impl_Key_sample_1 x1 x2 x3) (v_impl_Key_sample_1 x1 x2 x3)) (fsub .f32 1077936128 (fmul .f32 1073741824 (v_impl_Key_sample_1 x1 x2 x3))))
def m_impl_Key_sample (x0 : (Unit × Unit × Unit)) (x1 : (List (Int × Nat × Nat × Nat × Nat))) (x2 : Int) (x3 : Int) : (Int × Nat × Nat × Nat × Nat) := (if (decide ((Option.getD (l_impl_Key_sample_0 x1 x2 x3 (Int.toNat (((List.length x1 : Nat) : Int) - 0) + 2) 0) default) = 0)) = true then (m_impl_turnTrack_2 (atI x1 0) x3) else (if (decide ((Option.getD (l_impl_Key_sample_0 x1 x2 x3 (Int.toNat (((List.length x1 : Nat) : Int) - 0) + 2) 0) default) = ((List.length x1 : Nat) : Int))) = true then (m_impl_turnTrack_2 (atI x1 (IntKind.wrap .i64 ((Option.getD (l_impl_Key_sample_0 x1 x2 x3 (Int.toNat (((List.length x1 : Nat) : Int) - 0) + 2) 0) default) - 1))) x3) else (if (decide ((v_impl_Key_sample_0 x1 x2 x3) = x3)) = true then (m_impl_turnTrack_2 (atI x1 (IntKind.wrap .i64 ((Option.getD (l_impl_Key_sample_0 x1 x2 x3 (Int.toNat (((List.length x1 : Nat) : Int) - 0) + 2) 0) default) - 1))) x3) else (if (decide (x2 = 0)) = true then (m_impl_turnTrack_2 (atI x1 (IntKind.wrap .i64 ((Option.getD (l_impl_Key_sample_0 x1 x2 x3 (Int.toNat (((List.length x1 : Nat) : Int) - 0) + 2) 0) default) - 1))) x3) else (m_impl_turnTrack_2 (m_impl_turnTrack_3 (atI x1 (IntKind.wrap .i64 ((Option.getD (l_impl_Key_sample_0 x1 x2 x3 (Int.toNat (((List.length x1 : Nat) : Int) - 0) + 2) 0) default) - 1))) (atI x1 (Option.getD (l_impl_Key_sample_0 x1 x2 x3 (Int.toNat (((List.length x1 : Nat) : Int) - 0) + 2) 0) default)) (if (decide (x2 = 2)) = true then (v_impl_Key_sample_2 x1 x2 x3) else (v_impl_Key_sample_1 x1 x2 x3))) x3)))))
def p_impl_Key_sample (x0 : (Unit × Unit × Unit)) (x1 : (List (Int × Nat × Nat × Nat × Nat))) (x2 : Int) (x3 : Int) : Bool := ((Option.isSome (l_impl_Key_sample_0 x1 x2 x3 (Int.toNat (((List.length x1 : Nat) : Int) - 0) + 2) 0)) && (if (decide ((Option.getD (l_impl_Key_sample_0 x1 x2 x3 (Int.toNat (((List.length x1 : Nat) : Int) - 0) + 2) 0) default) = 0)) = true then (inB 0 (List.length x1)) else (if (decide ((Option.getD (l_impl_Key_sample_0 x1 x2 x3 (Int.toNat (((List.length x1 : Nat) : Int) - 0) + 2) 0) default) = ((List.length x1 : Nat) : Int))) = true then (inB (IntKind.wrap .i64 ((Option.getD (l_impl_Key_sample_0 x1 x2 x3 (Int.toNat (((List.length x1 : Nat) : Int) - 0) + 2) 0) default) - 1)) (List.length x1)) else ((inB (IntKind.wrap .i64 ((Option.getD (l_impl_Key_sample_0 x1 x2 x3 (Int.toNat (((List.length x1 : Nat) : Int) - 0) + 2) 0) default) - 1)) (List.length x1)) && ((decide ((v_impl_Key_sample_0 x1 x2 x3) = x3)) || ((decide (x2 = 0)) || ((inB (Option.getD (l_impl_Key_sample_0 x1 x2 x3 (Int.toNat (((List.length x1 : Nat) : Int) - 0) + 2) 0) default) (List.length x1)) && (p_impl_turnTrack_3 (atI x1 (IntKind.wrap .i64 ((Option.getD (l_impl_Key_sample_0 x1 x2 x3 (Int.toNat (((List.length x1 : Nat) : Int) - 0) + 2) 0) default) - 1))) (atI x1 (Option.getD (l_impl_Key_sample_0 x1 x2 x3 (Int.toNat (((List.length x1 : Nat) : Int) - 0) + 2) 0) default)) (if (decide (x2 = 2)) = true then (v_impl_Key_sample_2 x1 x2 x3) else (v_impl_Key_sample_1 x1 x2 x3))))))))))
def g_impl_Key_sample : List AV → Option AV
 | [.agg [.fn (.func 74) [] [],.fn (.func 75) [] [],.fn (.func 76) [] []],.sl w0,.int .i64 y1,.int .i64 y2] => (match decL dc_en0 w0 with | some y0 => (if p_impl_Key_sample ((),(),()) y0 y1 y2 = true then some (AV.agg [(.int .i64 (m_impl_Key_sample ((),(),()) y0 y1 y2).1),(.flt .f32 (m_impl_Key_sample ((),(),()) y0 y1 y2).2.1),(.flt .f32 (m_impl_Key_sample ((),(),()) y0 y1 y2).2.2.1),(.flt .f32 (m_impl_Key_sample ((),(),()) y0 y1 y2).2.2.2.1),(.flt .f32 (m_impl_Key_sample ((),(),()) y0 y1 y2).2.2.2.2)]) else none) | none => none)
 | _ => none
def lb56_0 : ICode := (.seq (.seq (.reg [⟨some 13,none,.mov (.t 9)⟩,⟨some 14,none,.mov (.t 1)⟩,⟨some 15,none,.len false (.t 14)⟩,⟨some 16,none,.bin .lss false (.t 13) (.t 15)⟩,⟨some 17,none,.mov (.t 16)⟩,⟨(some 18),(some (17,true)),(.faddr 0 (.t 4))⟩,⟨(some 19),(some (17,true)),(.load none (.o 18 4))⟩,⟨(some 20),(some (17,true)),(.mov (.t 1))⟩,⟨(some 21),(some (17,true)),(.mov (.t 9))⟩,⟨(some 22),(some (17,true)),(.iaddrS 5 (.p 20) (.t 21))⟩,⟨(some 23),(some (17,true)),(.load (some 5) (.p 22))⟩,⟨(some 24),(some (17,true)),(.call (.dyn (.t 19)) [(.t 23)] [])⟩,⟨(some 25),(some (17,true)),(.mov (.t 3))⟩,⟨(some 26),(some (17,true)),(.bin .leq false (.t 24) (.t 25))⟩,⟨some 27,none,.pick (.t 17) (.t 26) (.c (.bool false))⟩] [1,2,3,4,8,9,27]) (.cond (.t 27) .skip (.exit 0))) (.block 1 (.reg [⟨some 28,none,.mov (.t 9)⟩,⟨some 29,none,.bin .add false (.t 28) (.c (.int .i64 1))⟩,⟨some 9,none,.mov (.t 29)⟩] [1,2,3,4,8,9])))
def ic56 : ICode := (.seq (.reg [⟨some 4,none,.box 3 (.t 0)⟩,⟨some 8,none,.alloc (.agg [(.int .i64 0),(.flt .f32 0),(.flt .f32 0),(.flt .f32 0),(.flt .f32 0)])⟩] [1,2,3,4,8]) (.seq (.reg [⟨some 9,none,.mov (.c (.int .i64 0))⟩] [1,2,3,4,8,9]) (.seq (.block 0 (.loop lb56_0)) (.seq (.block 2 (.seq (.reg [⟨some 31,none,.mov (.t 9)⟩,⟨some 32,none,.bin .eql false (.t 31) (.c (.int .i64 0))⟩,⟨some 30,none,.mov (.t 32)⟩] [1,2,3,4,8,9,30]) (.cond (.t 30) (.seq (.reg [⟨some 33,none,.faddr 1 (.t 4)⟩,⟨some 34,none,.load none (.o 33 4)⟩,⟨some 35,none,.mov (.t 1)⟩,⟨some 36,none,.iaddrS 5 (.p 35) (.c (.int .i64 0))⟩,⟨some 37,none,.load (some 5) (.t 36)⟩,⟨some 38,none,.mov (.t 3)⟩,⟨some 39,none,.call (.dyn (.t 34)) [(.t 37),(.t 38)] []⟩,⟨none,none,(.store 5 (.o 8 8) (.t 39))⟩] [8]) .ret) (.seq (.reg [⟨some 41,none,.mov (.t 9)⟩,⟨some 42,none,.mov (.t 1)⟩,⟨some 43,none,.len false (.t 42)⟩,⟨some 44,none,.bin .eql false (.t 41) (.t 43)⟩,⟨some 45,none,.mov (.t 44)⟩,⟨(some 46),(some (45,false)),(.faddr 0 (.t 4))⟩,⟨(some 47),(some (45,false)),(.load none (.o 46 4))⟩,⟨(some 48),(some (45,false)),(.mov (.t 1))⟩,⟨(some 49),(some (45,false)),(.mov (.t 9))⟩,⟨(some 50),(some (45,false)),(.bin .sub false (.t 49) (.c (.int .i64 1)))⟩,⟨(some 51),(some (45,false)),(.iaddrS 5 (.p 48) (.t 50))⟩,⟨(some 52),(some (45,false)),(.load (some 5) (.p 51))⟩,⟨(some 53),(some (45,false)),(.call (.dyn (.t 47)) [(.t 52)] [])⟩,⟨(some 54),(some (45,false)),(.mov (.t 3))⟩,⟨(some 55),(some (45,false)),(.bin .eql false (.t 53) (.t 54))⟩,⟨some 56,none,.pick (.t 45) (.c (.bool true)) (.t 55)⟩,⟨some 57,none,.mov (.t 56)⟩,⟨(some 58),(some (57,false)),(.mov (.t 2))⟩,⟨(some 59),(some (57,false)),(.bin .eql false (.t 58) (.c (.int .i64 0)))⟩,⟨some 60,none,.pick (.t 57) (.c (.bool true)) (.t 59)⟩,⟨some 40,none,.mov (.t 60)⟩] [1,2,3,4,8,9,40]) (.cond (.t 40) (.seq (.reg [⟨some 61,none,.faddr 1 (.t 4)⟩,⟨some 62,none,.load none (.o 61 4)⟩,⟨some 63,none,.mov (.t 1)⟩,⟨some 64,none,.mov (.t 9)⟩,⟨some 65,none,.bin .sub false (.t 64) (.c (.int .i64 1))⟩,⟨some 66,none,.iaddrS 5 (.p 63) (.t 65)⟩,⟨some 67,none,.load (some 5) (.p 66)⟩,⟨some 68,none,.mov (.t 3)⟩,⟨some 69,none,.call (.dyn (.t 62)) [(.t 67),(.t 68)] []⟩,⟨none,none,(.store 5 (.o
   8 8) (.t 69))⟩] [8]) .ret) .skip))))) (.seq (.reg [⟨some 70,none,.mov (.t 1)⟩,⟨some 71,none,.mov (.t 9)⟩,⟨some 72,none,.bin .sub false (.t 71) (.c (.int .i64 1))⟩,⟨some 73,none,.iaddrS 5 (.p 70) (.t 72)⟩,⟨some 74,none,.load (some 5) (.p 73)⟩,⟨some 75,none,.mov (.t 1)⟩,⟨some 76,none,.mov (.t 9)⟩,⟨some 77,none,.iaddrS 5 (.p 75) (.t 76)⟩,⟨some 78,none,.load (some 5) (.p 77)⟩,⟨some 10,none,.alloc (.agg [(.int .i64 0),(.flt .f32 0),(.flt .f32 0),(.flt .f32 0),(.flt .f32 0)])⟩,⟨some 11,none,.alloc (.agg [(.int .i64 0),(.flt .f32 0),(.flt .f32 0),(.flt .f32 0),(.flt .f32 0)])⟩,⟨none,none,(.store 5 (.o 10 10) (.t 74))⟩,⟨none,none,(.store 5 (.o 11 11) (.t 78))⟩] [2,3,4,8,10,11]) (.seq (.reg [⟨some 79,none,.faddr 0 (.t 4)⟩,⟨some 80,none,.load none (.o 79 4)⟩,⟨some 81,none,.load (some 5) (.o 10 10)⟩,⟨some 82,none,.call (.dyn (.t 80)) [(.t 81)] []⟩,⟨some 83,none,.mov (.t 3)⟩,⟨some 84,none,.faddr 0 (.t 4)⟩,⟨some 85,none,.load none (.o 84 4)⟩,⟨some 86,none,.load (some 5) (.o 11 11)⟩,⟨some 87,none,.call (.dyn (.t 85)) [(.t 86)] []⟩,⟨some 88,none,.call (.fn 78) [(.t 82),(.t 83),(.t 87)] []⟩,⟨some 12,none,.mov (.t 88)⟩] [2,3,4,8,10,11,12]) (.seq (.seq (.reg [⟨some 89,none,.mov (.t 2)⟩,⟨some 90,none,.bin .eql false (.t 89) (.c (.int .i64 2))⟩] [3,4,8,10,11,12,90]) (.cond (.t 90) (.reg [⟨some 91,none,.mov (.t 12)⟩,⟨some 92,none,.mov (.t 12)⟩,⟨some 93,none,.bin .mul false (.t 91) (.t 92)⟩,⟨some 94,none,.mov (.t 12)⟩,⟨some 95,none,.bin .mul false (.c (.flt .f32 1073741824)) (.t 94)⟩,⟨some 96,none,.bin .sub false (.c (.flt .f32 1077936128)) (.t 95)⟩,⟨some 97,none,.bin .mul false (.t 93) (.t 96)⟩,⟨some 12,none,.mov (.t 97)⟩] [3,4,8,10,11,12]) .skip)) (.seq (.reg [⟨some 98,none,.faddr 1 (.t 4)⟩,⟨some 99,none,.load none (.o 98 4)⟩,⟨some 100,none,.faddr 2 (.t 4)⟩,⟨some 101,none,.load none (.o 100 4)⟩,⟨some 102,none,.load (some 5) (.o 10 10)⟩,⟨some 103,none,.load (some 5) (.o 11 11)⟩,⟨some 104,none,.mov (.t 12)⟩,⟨some 105,none,.call (.dyn (.t 101)) [(.t 102),(.t 103),(.t 104)] []⟩,⟨some 106,none,.mov (.t 3)⟩,⟨some 107,none,.call (.dyn (.t 99)) [(.t 105),(.t 106)] []⟩,⟨none,none,(.store 5 (.o 8 8) (.t 107))⟩] [8]) .ret))))))))
def cp56 : CP := CP.mk [] [] [[1,2,3,4,8],[1,2,3,4,8,9],[1,2,3,4,8,9,27],[1,2,3,4,8,9],[1,2,3,4,8,9,30],[8],[1,2,3,4,8,9,40],[8],[2,3,4,8,10,11],[2,3,4,8,10,11,12],[3,4,8,10,11,12,90],[3,4,8,10,11,12],[8]] 108 [(8,8),(10,10),(11,11),(18,4),(33,4),(46,4),(61,4),(79,4),(84,4),(98,4),(100,4)] [20,22,35,48,51,63,66,70,73,75,77]
theorem sl56_0 (x1 : (List (Int × Nat × Nat × Nat × Nat))) (x2 : Int) (x3 : Int) : ∀ (n : Nat) (z0_0 : Int) (o : Int) (K : IExit → St → Prop),l_impl_Key_sample_0 x1 x2 x3 n z0_0 = some o → (∀ st,Wk st (⟨[(1,(.sl (List.map en0 x1))),(2,(.int .i64 x2)),(3,(.int .i64 x3)),(4,(.lptr 4 0 0)),(8,(.lptr 8 0 0)),(9,(.int .i64 o))],[(4,(some ⟨3,false,[(AV.agg [(.fn (.func 74) [] []),(.fn (.func 75) [] []),(.fn (.func 76) [] [])])]⟩)),(8,(some ⟨5,false,[(AV.agg [(.int .i64 0),(.flt .f32 0),(.flt .f32 0),(.flt .f32 0),(.flt .f32 0)])]⟩))]⟩ : St) → K (.exit 0) st) → eA (tabOf [(74,wM .any g_impl_turnTrack_1),(75,wM .any g_impl_turnTrack_2),(76,wM .any g_impl_turnTrack_3),(78,wM .any g_impl_share)]) (.loop lb56_0) (⟨[(1,(.sl (List.map en0 x1))),(2,(.int .i64 x2)),(3,(.int .i64 x3)),(4,(.lptr 4 0 0)),(8,(.lptr 8 0 0)),(9,(.int .i64 z0_0))],[(4,(some ⟨3,false,[(AV.agg [(.fn (.func 74) [] []),(.fn (.func 75) [] []),(.fn (.func 76) [] [])])]⟩)),(8,(some ⟨5,false,[(AV.agg [(.int .i64 0),(.flt .f32 0),(.flt .f32 0),(.flt .f32 0),(.flt .f32 0)])]⟩))]⟩ : St) K := by
 intro n
 induction n with
 | zero =>
  intro z0_0 o K h h0
  simp only [l_impl_Key_sample_0,reduceCtorEq] at h
 | succ n ih =>
  intro z0_0 o K h h0
  refine eA_loop ?_
  unfold lb56_0
  unfold l_impl_Key_sample_0 at h
  (try simp only [need_iff,v_impl_Key_sample_0,v_impl_Key_sample_1,v_impl_Key_sample_2] at h)
  simp only [
   need_iff,h,grpX,purgeH,Option.map,reduceIte,Nat.reduceEqDiff,Nat.reduceAdd,Nat.reduceMul,Nat.reduceLT,Nat.reduceLeDiff,implies_true,forall_const,eq_self,Int.reduceEq,Int.reduceLE,Int.reduceLT,if_true,if_false,grpK,Int.reduceAdd,Int.reduceSub,Int.reduceMul,Int.reduceNeg,Int.reducePow,Nat.reducePow,Int.reduceToNat,Nat.reduceSub,List.replicate,Nat.reduceBEq,grpE,beq_true,beq_false,g_impl_turnTrack_1,g_impl_turnTrack_2,g_impl_turnTrack_3,g_impl_share,grpC,grpY,↓b_pick,ePk_true,ePk_false]
  repeat' (first
   | ((first | (refine eGI_of (fun hc => ?_) (fun hc => ?_)) | (refine eCc_of (fun hc => ?_) (fun hc => ?_)) | (refine ePk_of (fun hc => ?_) (fun hc => ?_)) | (have hc := True.intro; refine KW_refl ?_)) <;> (try simp only [Bool.not_eq_true',Bool.not_eq_false'] at hc) <;> (try simp only [hc,need_iff,reduceCtorEq,grpN,Int.reduceEq,Int.reduceLT,Int.reduceLE,if_true,if_false,reduceIte] at h) <;> (first | (have hc2 := hc; simp only [decide_eq_true_eq,decide_eq_false_iff_not] at hc2; (first | (replace hc2 := eq_false hc2) | (replace hc2 := eq_true hc2)); (try simp only [hc2,need_iff,reduceCtorEq,grpN,Int.reduceEq,Int.reduceLT,Int.reduceLE,if_true,if_false,reduceIte] at h); replace h := And.intro hc2 h) | (replace h := And.intro hc h) | skip) <;> simp only [hc,
   need_iff,h,grpX,purgeH,Option.map,reduceIte,Nat.reduceEqDiff,Nat.reduceAdd,Nat.reduceMul,Nat.reduceLT,Nat.reduceLeDiff,implies_true,forall_const,eq_self,Int.reduceEq,Int.reduceLE,Int.reduceLT,if_true,if_false,grpK,Int.reduceAdd,Int.reduceSub,Int.reduceMul,Int.reduceNeg,Int.reducePow,Nat.reducePow,Int.reduceToNat,Nat.reduceSub,List.replicate,Nat.reduceBEq,grpE,beq_true,beq_false,g_impl_turnTrack_1,g_impl_turnTrack_2,g_impl_turnTrack_3,g_impl_share,grpC,grpY,↓b_pick,ePk_true,ePk_false]))
  all_goals (have hf := h)
  all_goals (repeat (replace h := And.right h))
  all_goals ((first | (refine eA_wk (wk_norm (ks := [1,2,3,4,8,9]) (ls := [4,8]) ?_) (eA_cast ?_ (ih _ _ _ h h0))) | (cases h; have h := True.intro; refine h0 _ (Wk.cast (wk_norm (ks := [1,2,3,4,8,9]) (ls := [4,8]) ?_) ?_))) <;> simp only [normOk,optIn,blkIn,nameIn,normS,List.map_append,List.length_append,List.map_set,List.length_set,List.map_replicate,List.length_replicate,List.map_nil,List.map_cons,
   need_iff,h,hf,grpX,purgeH,Option.map,reduceIte,Nat.reduceEqDiff,Nat.reduceAdd,Nat.reduceMul,Nat.reduceLT,Nat.reduceLeDiff,implies_true,forall_const,eq_self,Int.reduceEq,Int.reduceLE,Int.reduceLT,if_true,if_false,grpK,Int.reduceAdd,Int.reduceSub,Int.reduceMul,Int.reduceNeg,Int.reducePow,Nat.reducePow,Int.reduceToNat,Nat.reduceSub,List.replicate,Nat.reduceBEq,grpE,beq_true,beq_false,g_impl_turnTrack_1,g_impl_turnTrack_2,g_impl_turnTrack_3,g_impl_share,grpC,grpY,↓b_pick,ePk_true,ePk_false] <;> first | rfl | (simp only [Nat.add_comm]; done))
theorem s56 : ∀ vs r,g_impl_Key_sample vs = some r → SaysM Try.prog .any 56 vs r := by
 intro vs r h
 unfold g_impl_Key_sample at h
 split at h
 ·rename_i w0 y1 y2
  cases hd_y0 : decL dc_en0 w0 with
  | none => rw [hd_y0] at h; cases h
  | some y0 =>
  rw [hd_y0] at h
  obtain rfl := decL_inv dc_en0_inv hd_y0
  clear hd_y0
  dsimp only at h
  split at h
  ·rename_i hp
   cases h
   refine spec_of (m := .any) (tab := tabOf [(74,wM .any g_impl_turnTrack_1),(75,wM .any g_impl_turnTrack_2),(76,wM .any g_impl_turnTrack_3),(78,wM .any g_impl_share)]) (cp := cp56) (ic := ic56) (rvl := [(.c 8 (some 5))]) hm (tabOk_cons (m := .any) s74 (tabOk_cons (m := .any) s75 (tabOk_cons (m := .any) s76 (tabOk_cons (m := .any) s78 tabOk_nil)))) Try.func56 rfl rfl rfl (by kernel_rfl) rfl (Nat.le_of_ble_eq_true rfl) (Nat.le_of_ble_eq_true rfl) ?_
   show eA _ _ _ _
   unfold ic56
   unfold p_impl_Key_sample at hp
   (try delta v_impl_Key_sample_2 v_impl_Key_sample_1 v_impl_Key_sample_0 at hp)
   (try dsimp only at hp)
   (try simp only [Bool.and_eq_true,Bool.or_eq_true,decide_eq_true_eq,Bool.not_eq_true',decide_eq_false_iff_not] at hp)
   refine eS_to ?_
   repeat' (first
    | ((first | (have h := True.intro; refine eS_of ?_) | (refine eGI_of (fun h => ?_) (fun h => ?_)) | (refine eCc_of (fun h => ?_) (fun h => ?_)) | (refine ePk_of (fun h => ?_) (fun h => ?_)) | (have h := True.intro; refine KW_refl ?_)) <;> (try simp only [Bool.not_eq_true',Bool.not_eq_false'] at h) <;> (try first | exact nbA h (by assumption) | exact nbB h (by assumption)) <;> (try simp only [h,reduceCtorEq,grpN,Int.reduceEq,Int.reduceLT,Int.reduceLE,if_true,if_false,reduceIte] at hp) <;> (first | (have h2 := h; simp only [decide_eq_true_eq,decide_eq_false_iff_not] at h2; (first | (replace h2 := eq_false h2) | (replace h2 := eq_true h2)); (try simp only [h2,reduceCtorEq,grpN,Int.reduceEq,Int.reduceLT,Int.reduceLE,if_true,if_false,reduceIte] at hp); replace hp := And.intro h2 hp) | (replace hp := And.intro h hp) | skip) <;> simp only [h,
     hp,grpX,purgeH,Option.map,reduceIte,Nat.reduceEqDiff,Nat.reduceAdd,Nat.reduceMul,Nat.reduceLT,Nat.reduceLeDiff,implies_true,forall_const,eq_self,Int.reduceEq,Int.reduceLE,Int.reduceLT,if_true,if_false,grpK,Int.reduceAdd,Int.reduceSub,Int.reduceMul,Int.reduceNeg,Int.reducePow,Nat.reducePow,Int.reduceToNat,Nat.reduceSub,List.replicate,Nat.reduceBEq,grpE,beq_true,beq_false,g_impl_turnTrack_1,g_impl_turnTrack_2,g_impl_turnTrack_3,g_impl_share,grpC,grpY,↓b_pick,ePk_true,ePk_false])
    | (refine eA_wk (wk_norm (ks := [1,2,3,4,8,9]) (ls := [4,8]) ?_) (eA_cast ?_ (sl56_0 y0 y1 y2 _ _ _ _ (getD_some (d := default) (x := (l_impl_Key_sample_0 y0 y1 y2 (Int.toNat (((List.length y0 : Nat) : Int) - 0) + 2) 0)) ?_) ?_)); (iterate 2 (simp only [nilS,nilV,nilB,normOk,optIn,blkIn,nameIn,normS,List.map_append,List.length_append,List.map_set,List.length_set,List.map_replicate,List.length_replicate,List.map_nil,List.map_cons,
     hp,grpX,purgeH,Option.map,reduceIte,Nat.reduceEqDiff,Nat.reduceAdd,Nat.reduceMul,Nat.reduceLT,Nat.reduceLeDiff,implies_true,forall_const,eq_self,Int.reduceEq,Int.reduceLE,Int.reduceLT,if_true,if_false,grpK,Int.reduceAdd,Int.reduceSub,Int.reduceMul,Int.reduceNeg,Int.reducePow,Nat.reducePow,Int.reduceToNat,Nat.reduceSub,List.replicate,Nat.reduceBEq,grpE,beq_true,beq_false,g_impl_turnTrack_1,g_impl_turnTrack_2,g_impl_turnTrack_3,g_impl_share,grpC,grpY,↓b_pick,ePk_true,ePk_false] <;> first | rfl | (simp only [Nat.add_comm]; done))); (simp only [hp]); (
    intro st2 hw; (try simp only [reduceCtorEq,grpN,Int.reduceEq,Int.reduceLT,Int.reduceLE,if_true,if_false,reduceIte] at hp); (try replace hp := And.intro ht hp); simp only [
Kq_exit,Kq_normal,Kq_ret,Kb_exit,Kb_normal,Kb_ret,Kl_exit,Kl_normal,Kl_ret,reduceIte,Nat.reduceEqDiff,if_true,if_false,eq_self]; refine KW_of hw ?_; simp only [
     hp,grpX,purgeH,Option.map,reduceIte,Nat.reduceEqDiff,Nat.reduceAdd,Nat.reduceMul,Nat.reduceLT,Nat.reduceLeDiff,implies_true,forall_const,eq_self,Int.reduceEq,Int.reduceLE,Int.reduceLT,if_true,if_false,grpK,Int.reduceAdd,Int.reduceSub,Int.reduceMul,Int.reduceNeg,Int.reducePow,Nat.reducePow,Int.reduceToNat,Nat.reduceSub,List.replicate,Nat.reduceBEq,grpE,beq_true,beq_false,g_impl_turnTrack_1,g_impl_turnTrack_2,g_impl_turnTrack_3,g_impl_share,grpC,grpY,↓b_pick,ePk_true,ePk_false])))
   all_goals (try simp only [*,m_impl_Key_sample,v_impl_Key_sample_0,v_impl_Key_sample_1,v_impl_Key_sample_2,grpZ,if_true,if_false,reduceIte,decide_true,decide_false])
   all_goals (try (simp_all; done))
  ·cases h
 ·cases h
def l_impl_Clip_sample_0 (x0 : (Int × Int × (List (List (Int × Nat × Nat × Nat × Nat))) × (List (Int × Nat × Nat × Nat)))) (x1 : Int) : Nat → (List (Nat × Nat × Nat × Nat)) → Int → Option (List (Nat × Nat × Nat × Nat))
 | 0,_,_ => none
 | n + 1,z0_0,z0_1 => (if (decide (z0_1 < ((List.length x0.2.2.1 : Nat) : Int))) = true then (need (inB z0_1 (List.length x0.2.2.1)) (need (p_impl_Key_sample ((),(),()) (atI x0.2.2.1 z0_1) x0.2.1 x1) (need (inB z0_1 (List.length z0_0)) (l_impl_Clip_sample_0 x0 x1 n (List.set z0_0 (Int.toNat z0_1) (m_impl_Key_sample ((),(),()) (atI x0.2.2.1 z0_1) x0.2.1 x1).2) (IntKind.wrap .i64 (z0_1 + 1)))))) else (some z0_0))
def m_impl_Clip_sample (x0 : (Int × Int × (List (List (Int × Nat × Nat × Nat × Nat))) × (List (Int × Nat × Nat × Nat)))) (x1 : Int) : (Nat × Nat × Nat × (List (Nat × Nat × Nat × Nat))) := ((m_impl_Clip_root x0 x1).1,(m_impl_Clip_root x0 x1).2.1,(m_impl_Clip_root x0 x1).2.2,(Option.getD (l_impl_Clip_sample_0 x0 x1 (Int.toNat (((List.length x0.2.2.1 : Nat) : Int) - 0) + 2) (List.replicate (Int.toNat ((List.length x0.2.2.1 : Nat) : Int)) (0,0,0,0)) 0) default))
def p_impl_Clip_sample (x0 : (Int × Int × (List (List (Int × Nat × Nat × Nat × Nat))) × (List (Int × Nat × Nat × Nat)))) (x1 : Int) : Bool := ((p_impl_Clip_root x0 x1) && ((decide (0 ≤ ((List.length x0.2.2.1 : Nat) : Int))) && ((decide (((List.length x0.2.2.1 : Nat) : Int) * 16 ≤ 70368744177664)) && ((decide (((List.length x0.2.2.1 : Nat) : Int) ≤ 70368744177664)) && (Option.isSome (l_impl_Clip_sample_0 x0 x1 (Int.toNat (((List.length x0.2.2.1 : Nat) : Int) - 0) + 2) (List.replicate (Int.toNat ((List.length x0.2.2.1 : Nat) : Int)) (0,0,0,0)) 0))))))
def g_impl_Clip_sample : List AV → Option AV
 | [.ptr (.agg [.int .i64 y0,.int .i64 y1,.sl w2,.sl w3]) 0,.int .i64 y4] => (match decL dc_en1 w2 with | some y2 => ((match decL dc_en2 w3 with | some y3 => (if p_impl_Clip_sample (y0,y1,y2,y3) y4 = true then some (AV.agg [(.flt .f32 (m_impl_Clip_sample (y0,y1,y2,y3) y4).1),(.flt .f32 (m_impl_Clip_sample (y0,y1,y2,y3) y4).2.1),(.flt .f32 (m_impl_Clip_sample (y0,y1,y2,y3) y4).2.2.1),(.sl (List.map en3 (m_impl_Clip_sample (y0,y1,y2,y3) y4).2.2.2))]) else none) | none => none)) | none => none)
 | _ => none
def lb33_0 : ICode := (.seq (.reg [⟨some 24,none,.bin .lss false (.t 23) (.t 22)⟩] [0,1,4,5,21,22,23,24]) (.seq (.cond (.t 24) .skip (.exit 0)) (.seq (.block 1 (.seq (.reg [⟨some 25,none,.mov (.t 23)⟩,⟨some 26,none,.iaddrS 1 (.t 21) (.t 23)⟩,⟨some 27,none,.load none (.t 26)⟩,⟨some 6,none,.mov (.t 25)⟩,⟨some 7,none,.mov (.t 27)⟩] [0,1,4,5,6,7,21,22,23]) (.reg [⟨some 28,none,.faddr 3 (.t 5)⟩,⟨some 29,none,.load none (.t 28)⟩,⟨some 30,none,.mov (.t 6)⟩,⟨some 31,none,.call (.fn 55) [] []⟩,⟨some 32,none,.mov (.t 7)⟩,⟨some 33,none,.mov (.t 0)⟩,⟨some 34,none,.nilchk (.t 33)⟩,⟨some 35,none,.faddr 1 (.t 34)⟩,⟨some 36,none,.load none (.t 35)⟩,⟨some 37,none,.mov (.t 1)⟩,⟨some 38,none,.call (.fn 56) [(.t 31),(.t 32),(.t 36),(.t 37)] []⟩,⟨some 39,none,.field 1 (some 4) (.t 38)⟩,⟨some 40,none,.iaddrS 4 (.t 29) (.t 30)⟩,⟨none,none,(.store 4 (.t 40) (.t 39))⟩] [0,1,4,5,21,22,23]))) (.reg [⟨some 41,none,.bin .add false (.t 23) (.c (.int .i64 1))⟩,⟨some 23,none,.mov (.t 41)⟩] [0,1,4,5,21,22,23]))))
def ic33 : ICode := (.seq (.reg [⟨some 4,none,.alloc (.agg [(.flt .f32 0),(.flt .f32 0),(.flt .f32 0),.snil])⟩] [0,1,4]) (.seq (.reg [⟨some 8,none,.mov (.t 0)⟩,⟨some 9,none,.mov (.t 1)⟩,⟨some 10,none,.call (.fn 54) [(.t 8),(.t 9)] []⟩,⟨some 11,none,.mov (.t 0)⟩,⟨some 12,none,.nilchk (.t 11)⟩,⟨some 13,none,.faddr 2 (.t 12)⟩,⟨some 14,none,.load none (.t 13)⟩,⟨some 15,none,.len false (.t 14)⟩,⟨some 16,none,.mkslice 4 16 (.agg [(.flt .f32 0),(.flt .f32 0),(.flt .f32 0),(.flt .f32 0)]) (.t 15) (.t 15)⟩,⟨some 17,none,.build [(.flt .f32 0),(.flt .f32 0),(.flt .f32 0),.snil] [(0,3,(.t 10)),(3,1,(.t 16))]⟩,⟨some 5,none,.alloc (.agg [(.flt .f32 0),(.flt .f32 0),(.flt .f32 0),.snil])⟩,⟨none,none,(.store 4 (.t 5) (.t 17))⟩] [0,1,4,5]) (.seq (.seq (.reg [⟨some 18,none,.mov (.t 0)⟩,⟨some 19,none,.nilchk (.t 18)⟩,⟨some 20,none,.faddr 2 (.t 19)⟩,⟨some 21,none,.load none (.t 20)⟩,⟨some 22,none,.len false (.t 21)⟩,⟨some 23,none,.mov (.c (.int .i64 0))⟩] [0,1,4,5,21,22,23]) (.block 0 (.loop lb33_0))) (.seq (.reg [⟨some 42,none,.load (some 4) (.t 5)⟩,⟨none,none,(.store 4 (.t 4) (.t 42))⟩] [4]) .ret))))
def cp33 : CP := CP.mk [] [] [[0,1,4],[0,1,4,5],[0,1,4,5,21,22,23],[0,1,4,5,21,22,23,24],[0,1,4,5,6,7,21,22,23],[0,1,4,5,21,22,23],[0,1,4,5,21,22,23],[4]] 43 [] []
theorem sl33_0 (x0 : (Int × Int × (List (List (Int × Nat × Nat × Nat × Nat))) × (List (Int × Nat × Nat × Nat)))) (x1 : Int) : ∀ (n : Nat) (z0_0 : (List (Nat × Nat × Nat × Nat))) (z0_1 : Int) (o : (List (Nat × Nat × Nat × Nat))) (K : IExit → St → Prop),l_impl_Clip_sample_0 x0 x1 n z0_0 z0_1 = some o → (∀ st,Wk st (⟨[(4,(.lptr 4 0 0)),(5,(.lptr 5 0 0))],[(4,(some ⟨4,false,[(AV.agg [(.flt .f32 0),(.flt .f32 0),(.flt .f32 0),.snil])]⟩)),(5,(some ⟨4,false,[(AV.agg [(.flt .f32 (m_impl_Clip_root x0 x1).1),(.flt .f32 (m_impl_Clip_root x0 x1).2.1),(.flt .f32 (m_impl_Clip_root x0 x1).2.2),(.lsl 16 0 (List.length o))])]⟩)),(16,(some ⟨4,true,(List.map en3 o)⟩))]⟩ : St) → K (.exit 0) st) → eA (tabOf [(54,wM .any g_impl_Clip_root),(55,wM .any g_impl_turnTrack),(56,wM .any g_impl_Key_sample)]) (.loop lb33_0) (⟨[(0,(.ptr (AV.agg [(.int .i64 x0.1),(.int .i64 x0.2.1),(.sl (List.map en1 x0.2.2.1)),(.sl (List.map en2 x0.2.2.2))]) 0)),(1,(.int .i64 x1)),(4,(.lptr 4 0 0)),(5,(.lptr 5 0 0)),(21,(.sl (List.map en1 x0.2.2.1))),(22,(.int .i64 ((List.length x0.2.2.1 : Nat) : Int))),(23,(.int .i64 z0_1))],[(4,(some ⟨4,false,[(AV.agg [(.flt .f32 0),(.flt .f32 0),(.flt .f32 0),.snil])]⟩)),(5,(some ⟨4,false,[(AV.agg [(.flt .f32 (m_impl_Clip_root x0 x1).1),(.flt .f32 (m_impl_Clip_root x0 x1).2.1),(.flt .f32 (m_impl_Clip_root x0 x1).2.2),(.lsl 16 0 (List.length z0_0))])]⟩)),(16,(some ⟨4,true,(List.map en3 z0_0)⟩))]⟩ : St) K := by
 intro n
 induction n with
 | zero =>
  intro z0_0 z0_1 o K h h0
  simp only [l_impl_Clip_sample_0,reduceCtorEq] at h
 | succ n ih =>
  intro z0_0 z0_1 o K h h0
  refine eA_loop ?_
  unfold lb33_0
  unfold l_impl_Clip_sample_0 at h
  (try simp only [need_iff] at h)
  simp only [
   need_iff,h,grpX,purgeH,Option.map,reduceIte,Nat.reduceEqDiff,Nat.reduceAdd,Nat.reduceMul,Nat.reduceLT,Nat.reduceLeDiff,implies_true,forall_const,eq_self,Int.reduceEq,Int.reduceLE,Int.reduceLT,if_true,if_false,grpK,Int.reduceAdd,Int.reduceSub,Int.reduceMul,Int.reduceNeg,Int.reducePow,Nat.reducePow,Int.reduceToNat,Nat.reduceSub,List.replicate,Nat.reduceBEq,grpE,beq_true,beq_false,g_impl_Clip_root,g_impl_turnTrack,g_impl_Key_sample,grpC,grpY]
  repeat' (first
   | ((first | (refine eGI_of (fun hc => ?_) (fun hc => ?_)) | (refine eCc_of (fun hc => ?_) (fun hc => ?_)) | (have hc := True.intro; refine KW_refl ?_)) <;> (try simp only [Bool.not_eq_true',Bool.not_eq_false'] at hc) <;> (try simp only [hc,need_iff,reduceCtorEq,grpN,Int.reduceEq,Int.reduceLT,Int.reduceLE,if_true,if_false,reduceIte] at h) <;> (first | (have hc2 := hc; simp only [decide_eq_true_eq,decide_eq_false_iff_not] at hc2; (first | (replace hc2 := eq_false hc2) | (replace hc2 := eq_true hc2)); (try simp only [hc2,need_iff,reduceCtorEq,grpN,Int.reduceEq,Int.reduceLT,Int.reduceLE,if_true,if_false,reduceIte] at h); replace h := And.intro hc2 h) | (replace h := And.intro hc h) | skip) <;> simp only [hc,
   need_iff,h,grpX,purgeH,Option.map,reduceIte,Nat.reduceEqDiff,Nat.reduceAdd,Nat.reduceMul,Nat.reduceLT,Nat.reduceLeDiff,implies_true,forall_const,eq_self,Int.reduceEq,Int.reduceLE,Int.reduceLT,if_true,if_false,grpK,Int.reduceAdd,Int.reduceSub,Int.reduceMul,Int.reduceNeg,Int.reducePow,Nat.reducePow,Int.reduceToNat,Nat.reduceSub,List.replicate,Nat.reduceBEq,grpE,beq_true,beq_false,g_impl_Clip_root,g_impl_turnTrack,g_impl_Key_sample,grpC,grpY]))
  all_goals (have hf := h)
  all_goals (repeat (replace h := And.right h))
  all_goals ((first | (refine eA_wk (wk_norm (ks := [0,1,4,5,21,22,23]) (ls := [4,5,16]) ?_) (eA_cast ?_ (ih _ _ _ _ h h0))) | (cases h; have h := True.intro; refine h0 _ (Wk.cast (wk_norm (ks := [4,5]) (ls := [4,5,16]) ?_) ?_))) <;> simp only [normOk,optIn,blkIn,nameIn,normS,List.map_append,List.length_append,List.map_set,List.length_set,List.map_replicate,List.length_replicate,List.map_nil,List.map_cons,
   need_iff,h,hf,grpX,purgeH,Option.map,reduceIte,Nat.reduceEqDiff,Nat.reduceAdd,Nat.reduceMul,Nat.reduceLT,Nat.reduceLeDiff,implies_true,forall_const,eq_self,Int.reduceEq,Int.reduceLE,Int.reduceLT,if_true,if_false,grpK,Int.reduceAdd,Int.reduceSub,Int.reduceMul,Int.reduceNeg,Int.reducePow,Nat.reducePow,Int.reduceToNat,Nat.reduceSub,List.replicate,Nat.reduceBEq,grpE,beq_true,beq_false,g_impl_Clip_root,g_impl_turnTrack,g_impl_Key_sample,grpC,grpY] <;> first | rfl | (simp only [Nat.add_comm]; done))
theorem s33 : ∀ vs r,g_impl_Clip_sample vs = some r → SaysM Try.prog (.own [4]) 33 vs r := by
 intro vs r h
 unfold g_impl_Clip_sample at h
 split at h
 ·rename_i y0 y1 w2 w3 y4
  cases hd_y2 : decL dc_en1 w2 with
  | none => rw [hd_y2] at h; cases h
  | some y2 =>
  rw [hd_y2] at h
  obtain rfl := decL_inv dc_en1_inv hd_y2
  clear hd_y2
  dsimp only at h
  cases hd_y3 : decL dc_en2 w3 with
  | none => rw [hd_y3] at h; cases h
  | some y3 =>
  rw [hd_y3] at h
  obtain rfl := decL_inv dc_en2_inv hd_y3
  clear hd_y3
  dsimp only at h
  split at h
  ·rename_i hp
   cases h
   refine spec_of (m := (.own [4])) (tab := tabOf [(54,wM .any g_impl_Clip_root),(55,wM .any g_impl_turnTrack),(56,wM .any g_impl_Key_sample)]) (cp := cp33) (ic := ic33) (rvl := [(.c 4 (some 4))]) hm (tabOk_cons (m := .any) s54 (tabOk_cons (m := .any) s55 (tabOk_cons (m := .any) s56 tabOk_nil))) Try.func33 rfl rfl rfl (by kernel_rfl) rfl (Nat.le_of_ble_eq_true rfl) (Nat.le_of_ble_eq_true rfl) ?_
   show eA _ _ _ _
   unfold ic33
   simp only [p_impl_Clip_sample,Bool.and_eq_true,Bool.or_eq_true,decide_eq_true_eq,Bool.not_eq_true',decide_eq_false_iff_not] at hp
   refine eS_to ?_
   repeat' (first
    | ((first | (have h := True.intro; refine eS_of ?_) | (refine eGI_of (fun h => ?_) (fun h => ?_)) | (refine eCc_of (fun h => ?_) (fun h => ?_)) | (have h := True.intro; refine KW_refl ?_)) <;> (try simp only [Bool.not_eq_true',Bool.not_eq_false'] at h) <;> (try first | exact nbA h (by assumption) | exact nbB h (by assumption)) <;> (try simp only [h,reduceCtorEq,grpN,Int.reduceEq,Int.reduceLT,Int.reduceLE,if_true,if_false,reduceIte] at hp) <;> (first | (have h2 := h; simp only [decide_eq_true_eq,decide_eq_false_iff_not] at h2; (first | (replace h2 := eq_false h2) | (replace h2 := eq_true h2)); (try simp only [h2,reduceCtorEq,grpN,Int.reduceEq,Int.reduceLT,Int.reduceLE,if_true,if_false,reduceIte] at hp); replace hp := And.intro h2 hp) | (replace hp := And.intro h hp) | skip) <;> simp only [h,
     hp,grpX,purgeH,Option.map,reduceIte,Nat.reduceEqDiff,Nat.reduceAdd,Nat.reduceMul,Nat.reduceLT,Nat.reduceLeDiff,implies_true,forall_const,eq_self,Int.reduceEq,Int.reduceLE,Int.reduceLT,if_true,if_false,grpK,Int.reduceAdd,Int.reduceSub,Int.reduceMul,Int.reduceNeg,Int.reducePow,Nat.reducePow,Int.reduceToNat,Nat.reduceSub,List.replicate,Nat.reduceBEq,grpE,beq_true,beq_false,g_impl_Clip_root,g_impl_turnTrack,g_impl_Key_sample,grpC,grpY])
    | (refine eA_wk (wk_norm (ks := [0,1,4,5,21,22,23]) (ls := [4,5,16]) ?_) (eA_cast ?_ (sl33_0 (y0,y1,y2,y3) y4 _ _ _ _ _ (getD_some (d := default) (x := (l_impl_Clip_sample_0 (y0,y1,y2,y3) y4 (Int.toNat (((List.length (y0,y1,y2,y3).2.2.1 : Nat) : Int) - 0) + 2) (List.replicate (Int.toNat ((List.length (y0,y1,y2,y3).2.2.1 : Nat) : Int)) (0,0,0,0)) 0)) ?_) ?_)); (iterate 2 (simp only [nilS,nilV,nilB,normOk,optIn,blkIn,nameIn,normS,List.map_append,List.length_append,List.map_set,List.length_set,List.map_replicate,List.length_replicate,List.map_nil,List.map_cons,
     hp,grpX,purgeH,Option.map,reduceIte,Nat.reduceEqDiff,Nat.reduceAdd,Nat.reduceMul,Nat.reduceLT,Nat.reduceLeDiff,implies_true,forall_const,eq_self,Int.reduceEq,Int.reduceLE,Int.reduceLT,if_true,if_false,grpK,Int.reduceAdd,Int.reduceSub,Int.reduceMul,Int.reduceNeg,Int.reducePow,Nat.reducePow,Int.reduceToNat,Nat.reduceSub,List.replicate,Nat.reduceBEq,grpE,beq_true,beq_false,g_impl_Clip_root,g_impl_turnTrack,g_impl_Key_sample,grpC,grpY] <;> first | rfl | (simp only [Nat.add_comm]; done))); (simp only [hp]); (
    intro st2 hw; (try simp only [reduceCtorEq,grpN,Int.reduceEq,Int.reduceLT,Int.reduceLE,if_true,if_false,reduceIte] at hp); (try replace hp := And.intro ht hp); simp only [
Kq_exit,Kq_normal,Kq_ret,Kb_exit,Kb_normal,Kb_ret,Kl_exit,Kl_normal,Kl_ret,reduceIte,Nat.reduceEqDiff,if_true,if_false,eq_self]; refine KW_of hw ?_; simp only [
     hp,grpX,purgeH,Option.map,reduceIte,Nat.reduceEqDiff,Nat.reduceAdd,Nat.reduceMul,Nat.reduceLT,Nat.reduceLeDiff,implies_true,forall_const,eq_self,Int.reduceEq,Int.reduceLE,Int.reduceLT,if_true,if_false,grpK,Int.reduceAdd,Int.reduceSub,Int.reduceMul,Int.reduceNeg,Int.reducePow,Nat.reducePow,Int.reduceToNat,Nat.reduceSub,List.replicate,Nat.reduceBEq,grpE,beq_true,beq_false,g_impl_Clip_root,g_impl_turnTrack,g_impl_Key_sample,grpC,grpY])))
   all_goals (try simp only [*,m_impl_Clip_sample,grpZ,if_true,if_false,reduceIte,decide_true,decide_false])
   all_goals (try (simp_all; done))
  ·cases h
 ·cases h
def toPT (p : (Nat × Nat × Nat × (List (Nat × Nat × Nat × Nat)))) : PT := (p.1,p.2.1,p.2.2.1,List.map en3 p.2.2.2)
theorem nmapP (x : List (Nat × Nat × Nat × (List (Nat × Nat × Nat × Nat)))) : List.map posP (List.map toPT x) = List.map en4 x := by rw [List.map_map]; rfl
theorem toPT_fl (x : List (Nat × Nat × Nat × (List (Nat × Nat × Nat × Nat)))) : ∀ p ∈ List.map toPT x,p.2.2.2.all flatE = true := by
 intro p hp
 obtain ⟨y,_,rfl⟩ := List.mem_map.1 hp
 exact dc_en3_fl _
def t_impl_PlayClip (x0 : (Int × Int × (List (List (Int × Nat × Nat × Nat × Nat))) × (List (Int × Nat × Nat × Nat)))) (x1 : Int) (x2 : Int) (i : Nat) : Int := Int.tmod (IntKind.wrap .i64 (x1 + IntKind.wrap .i64 ((i : Int) * x2))) x0.1
def bad_impl_PlayClip (x0 : (Int × Int × (List (List (Int × Nat × Nat × Nat × Nat))) × (List (Int × Nat × Nat × Nat)))) (x1 : Int) (x2 : Int) (x3 : Int) : Bool := (!m_impl_ValidClip x0 || (decide (x1 < 0) || (decide (1000 < x1) || (decide (x2 < 0) || (decide (1000 < x2) || (decide (x3 < 0) || decide (64 < x3)))))))
def m_impl_PlayClip (x0 : (Int × Int × (List (List (Int × Nat × Nat × Nat × Nat))) × (List (Int × Nat × Nat × Nat)))) (x1 : Int) (x2 : Int) (x3 : Int) : ((List (Nat × Nat × Nat × (List (Nat × Nat × Nat × Nat)))) × Bool) := if bad_impl_PlayClip x0 x1 x2 x3 = true then ([],false) else (List.map (fun i => m_impl_Clip_sample x0 (t_impl_PlayClip x0 x1 x2 i)) (List.range' 0 (Int.toNat x3)),true)
def p_impl_PlayClip (x0 : (Int × Int × (List (List (Int × Nat × Nat × Nat × Nat))) × (List (Int × Nat × Nat × Nat)))) (x1 : Int) (x2 : Int) (x3 : Int) : Bool := (p_impl_ValidClip x0 && (bad_impl_PlayClip x0 x1 x2 x3 || ((!decide (x0.1 = 0)) && List.all (List.range' 0 (Int.toNat x3)) (fun i => p_impl_Clip_sample x0 (t_impl_PlayClip x0 x1 x2 i)))))
def g_impl_PlayClip : List AV → Option (AV × Md)
 | [.agg [.int .i64 y0,.int .i64 y1,.sl w2,.sl w3],.int .i64 y4,.int .i64 y5,.int .i64 y6] => (match decL dc_en1 w2 with | some y2 => ((match decL dc_en2 w3 with | some y3 => (if p_impl_PlayClip (y0,y1,y2,y3) y4 y5 y6 = true then some (.tup [.sl (List.map en4 (m_impl_PlayClip (y0,y1,y2,y3) y4 y5 y6).1),.bool (m_impl_PlayClip (y0,y1,y2,y3) y4 y5 y6).2],
   .ownH (.tup [.lsl 1000007 0 (List.length (m_impl_PlayClip (y0,y1,y2,y3) y4 y5 y6).1),.bool (m_impl_PlayClip (y0,y1,y2,y3) y4 y5 y6).2]) (plB 4 (List.map toPT (m_impl_PlayClip (y0,y1,y2,y3) y4 y5 y6).1))) else none) | none => none)) | none => none)
 | _ => none
def cp16 : CP := CP.mk [(52,[4])] [] [[1,2,3,4],[1,2,3,4,38],[8,9],[1,2,3,4,10],[1,2,4,10,39,40],[1,2,4,10,39,40,41],[1,2,4,10,11,39,40],[1,2,4,10,39,40],[1,2,4,10,39,40],[8,9]] 57 [] []
theorem s16 : ∀ vs r m,g_impl_PlayClip vs = some (r,m) → SaysX Try.prog m 16 vs r := by
 intro vs r m h
 unfold g_impl_PlayClip at h
 split at h
 ·rename_i y0 y1 w2 w3 y4 y5 y6
  cases hd2 : decL dc_en1 w2 with
  | none => rw [hd2] at h; cases h
  | some y2 =>
  rw [hd2] at h
  obtain rfl := decL_inv dc_en1_inv hd2
  clear hd2
  dsimp only at h
  cases hd3 : decL dc_en2 w3 with
  | none => rw [hd3] at h; cases h
  | some y3 =>
  rw [hd3] at h
  obtain rfl := decL_inv dc_en2_inv hd3
  clear hd3
  dsimp only at h
  split at h
  ·rename_i hp
   cases h
   simp only [p_impl_PlayClip,Bool.and_eq_true,Bool.or_eq_true] at hp
   obtain ⟨hpV,hp⟩ := hp
   have hv : tabOf [(33,wM (.own [4]) g_impl_Clip_sample),(42,wM .any g_impl_ValidClip)] 42 [.agg [.int .i64 y0,.int .i64 y1,.sl (List.map en1 y2),.sl (List.map en2 y3)]] = some (.bool (m_impl_ValidClip (y0,y1,y2,y3)),.any) := by
    simp [tabOf_cons,wM_eq,g_impl_ValidClip,dc_en1_map,dc_en2_map,hpV,withM_some]
   cases hb : bad_impl_PlayClip (y0,y1,y2,y3) y4 y5 y6 with
   | true =>
    have em : m_impl_PlayClip (y0,y1,y2,y3) y4 y5 y6 = ([],false) := if_pos hb
    have key := plC_bad (tab := tabOf [(33,wM (.own [4]) g_impl_Clip_sample),(42,wM .any g_impl_ValidClip)]) (v := 42) (f := 33) (a := y4) (b := y5) (n := y6) (L := y0) (kd := y1) (T := List.map en1 y2) (R := List.map en2 y3) hv hb
    rw [em]
    exact spec_ofO (cp := cp16) (ic := icPl 42 33) (rvl := [(.t 8),(.t 9)]) hm (tabOk_cons (m := (.own [4])) s33 (tabOk_cons (m := .any) s42 tabOk_nil)) Try.func16 rfl rfl rfl (by kernel_rfl) rfl pl_cls (Nat.le_of_ble_eq_true rfl) (Nat.le_of_ble_eq_true rfl) key
   | false =>
    have em : m_impl_PlayClip (y0,y1,y2,y3) y4 y5 y6 = (List.map (fun i => m_impl_Clip_sample (y0,y1,y2,y3) (t_impl_PlayClip (y0,y1,y2,y3) y4 y5 i)) (List.range' 0 (Int.toNat y6)),true) := if_neg (by rw [hb]; simp)
    have hbb := hb
    simp only [bad_impl_PlayClip,Bool.or_eq_false_iff,Bool.not_eq_false'] at hbb
    obtain ⟨b0,b1,b2,b3,b4,b5,b6⟩ := hbb
    rw [hb] at hp
    simp only [Bool.false_eq_true,false_or,Bool.and_eq_true,Bool.not_eq_true',decide_eq_false_iff_not,List.all_eq_true] at hp
    obtain ⟨hL,hpW⟩ := hp
    rw [em]
    have hlen : ((List.length (List.map toPT (List.map (fun i => m_impl_Clip_sample (y0,y1,y2,y3) (t_impl_PlayClip (y0,y1,y2,y3) y4 y5 i)) (List.range' 0 (Int.toNat y6)))) : Nat) : Int) = y6 := by
     simp only [List.length_map,List.length_range']
     simp at b5; omega
    have key := plC_ok (tab := tabOf [(33,wM (.own [4]) g_impl_Clip_sample),(42,wM .any g_impl_ValidClip)]) (v := 42) (f := 33) (a := y4) (b := y5) (L := y0) (kd := y1) (T := List.map en1 y2) (R := List.map en2 y3) (ps := List.map toPT (List.map (fun i => m_impl_Clip_sample (y0,y1,y2,y3) (t_impl_PlayClip (y0,y1,y2,y3) y4 y5 i)) (List.range' 0 (Int.toNat y6)))) hL (toPT_fl _) (by rw [← b0]; exact hv) b1 b2 b3 b4 (by rw [hlen]; exact b5) (by rw [hlen]; exact b6) (fun i p hpi => by
     simp only [List.getElem?_map,Option.map_eq_some_iff] at hpi
     obtain ⟨q,⟨j,hj,rfl⟩,rfl⟩ := hpi
     have hji : j = i := by
      have := List.getElem?_eq_some_iff.1 hj
      obtain ⟨h1,h2⟩ := this
      simp at h2; omega
     subst hji
     have hw := hpW j (List.mem_of_getElem? hj)
     have e : Int.tmod (IntKind.wrap .i64 (y4 + IntKind.wrap .i64 ((j : Int) * y5))) y0 = t_impl_PlayClip (y0,y1,y2,y3) y4 y5 j := rfl
     rw [e]
     simp only [tabOf_cons,if_pos,wM_eq,g_impl_Clip_sample,dc_en1_map,dc_en2_map,hw,withM_some]
     rfl)
    rw [hlen,nmapP,List.length_map] at key
    exact spec_ofO (cp := cp16) (ic := icPl 42 33) (rvl := [(.t 8),(.t 9)]) hm (tabOk_cons (m := (.own [4])) s33 (tabOk_cons (m := .any) s42 tabOk_nil)) Try.func16 rfl rfl rfl (by kernel_rfl) rfl pl_cls (Nat.le_of_ble_eq_true rfl) (Nat.le_of_ble_eq_true rfl) key
  ·cases h
 ·cases h
def m_laws_sameFloat (x0 : Nat) (x1 : Nat) : Bool := (if (feq .f64 x0 x0) = true then (if (feq .f64 x1 x1) = true then (if (feq .f64 x0 0) = true then (if (feq .f64 x1 0) = true then ((flt .f64 0 (fdiv .f64 4607182418800017408 x0)) == (flt .f64 0 (fdiv .f64 4607182418800017408 x1))) else (feq .f64 x0 x1)) else (feq .f64 x0 x1)) else false) else (!(feq .f64 x1 x1)))
def g_laws_sameFloat : List AV → Option AV
 | [.flt .f64 y0,.flt .f64 y1] => some (.bool (m_laws_sameFloat y0 y1))
 | _ => none
def ic57 : ICode := (.seq (.reg [⟨some 4,none,.mov (.c (.bool false))⟩] [0,1]) (.seq (.seq (.reg [⟨some 5,none,.mov (.t 0)⟩,⟨some 6,none,.mov (.t 0)⟩,⟨some 7,none,.bin .neq false (.t 5) (.t 6)⟩,⟨some 8,none,.mov (.t 7)⟩,⟨(some 9),(some (8,false)),(.mov (.t 1))⟩,⟨(some 10),(some (8,false)),(.mov (.t 1))⟩,⟨(some 11),(some (8,false)),(.bin .neq false (.t 9) (.t 10))⟩,⟨some 12,none,.pick (.t 8) (.c (.bool true)) (.t 11)⟩] [0,1,12]) (.cond (.t 12) (.seq (.reg [⟨some 13,none,.mov (.t 0)⟩,⟨some 14,none,.mov (.t 0)⟩,⟨some 15,none,.bin .neq false (.t 13) (.t 14)⟩,⟨some 16,none,.mov (.t 15)⟩,⟨(some 17),(some (16,true)),(.mov (.t 1))⟩,⟨(some 18),(some (16,true)),(.mov (.t 1))⟩,⟨(some 19),(some (16,true)),(.bin .neq false (.t 17) (.t 18))⟩,⟨some 20,none,.pick (.t 16) (.t 19) (.c (.bool false))⟩,⟨some 4,none,.mov (.t 20)⟩] [4]) .ret) .skip)) (.seq (.seq (.reg [⟨some 21,none,.mov (.t 0)⟩,⟨some 22,none,.bin .eql false (.t 21) (.c (.flt .f64 0))⟩,⟨some 23,none,.mov (.t 22)⟩,⟨(some 24),(some (23,true)),(.mov (.t 1))⟩,⟨(some 25),(some (23,true)),(.bin .eql false (.t 24) (.c (.flt .f64 0)))⟩,⟨some 26,none,.pick (.t 23) (.t 25) (.c (.bool false))⟩] [0,1,26]) (.cond (.t 26) (.seq (.reg [⟨some 27,none,.mov (.t 0)⟩,⟨some 28,none,.bin .quo false (.c (.flt .f64 4607182418800017408)) (.t 27)⟩,⟨some 29,none,.bin .gtr false (.t 28) (.c (.flt .f64 0))⟩,⟨some 30,none,.mov (.t 1)⟩,⟨some 31,none,.bin .quo false (.c (.flt .f64 4607182418800017408)) (.t 30)⟩,⟨some 32,none,.bin .gtr false (.t 31) (.c (.flt .f64 0))⟩,⟨some 33,none,.bin .eql true (.t 29) (.t 32)⟩,⟨some 4,none,.mov (.t 33)⟩] [4]) .ret) .skip)) (.seq (.reg [⟨some 34,none,.mov (.t 0)⟩,⟨some 35,none,.mov (.t 1)⟩,⟨some 36,none,.bin .eql false (.t 34) (.t 35)⟩,⟨some 4,none,.mov (.t 36)⟩] [4]) .ret))))
def cp57 : CP := CP.mk [] [] [[0,1],[0,1,12],[4],[0,1,26],[4],[4]] 37 [] []
theorem s57 : ∀ vs r,g_laws_sameFloat vs = some r → SaysM Try.prog .any 57 vs r := by
 intro vs r h
 unfold g_laws_sameFloat at h
 split at h
 ·rename_i y0 y1
  cases h
  refine spec_of (m := .any) (tab := tabOf []) (cp := cp57) (ic := ic57) (rvl := [(.t 4)]) hm tabOk_nil Try.func57 rfl rfl rfl (by kernel_rfl) rfl (Nat.le_of_ble_eq_true rfl) (Nat.le_of_ble_eq_true rfl) ?_
  show eA _ _ _ _
  unfold ic57
  refine eS_to ?_
  repeat' (first
   | ((first | (have h := True.intro; refine eS_of ?_) | (refine eGI_of (fun h => ?_) (fun h => ?_)) | (refine eCc_of (fun h => ?_) (fun h => ?_)) | (refine ePk_of (fun h => ?_) (fun h => ?_))) <;> (try simp only [Bool.not_eq_true',Bool.not_eq_false'] at h) <;> (try first | exact nbA h (by assumption) | exact nbB h (by assumption)) <;> simp only [h,
    grpX,purgeH,Option.map,reduceIte,Nat.reduceEqDiff,Nat.reduceAdd,Nat.reduceMul,Nat.reduceLT,Nat.reduceLeDiff,implies_true,forall_const,eq_self,Int.reduceEq,Int.reduceLE,Int.reduceLT,if_true,if_false,grpK,Int.reduceAdd,Int.reduceSub,Int.reduceMul,Int.reduceNeg,Int.reducePow,Nat.reducePow,Int.reduceToNat,Nat.reduceSub,List.replicate,Nat.reduceBEq,grpE,beq_true,beq_false,grpC,grpY,↓b_pick,ePk_true,ePk_false]))
  all_goals (try simp only [*,m_laws_sameFloat,grpZ,if_true,if_false,reduceIte,decide_true,decide_false])
  all_goals (try (simp_all; done))
 ·cases h
def m_laws_eqVector (x0 : (Nat × Nat × Nat)) (x1 : (Nat × Nat × Nat)) : Bool := (if (m_laws_sameFloat (widen x0.1) (widen x1.1)) = true then (if (m_laws_sameFloat (widen x0.2.1) (widen x1.2.1)) = true then (if (m_laws_sameFloat (widen x0.2.2) (widen x1.2.2)) = true then true else false) else false) else false)
def g_laws_eqVector : List AV → Option AV
 | [.agg [.flt .f32 y0,.flt .f32 y1,.flt .f32 y2],.agg [.flt .f32 y3,.flt .f32 y4,.flt .f32 y5]] => some (.bool (m_laws_eqVector (y0,y1,y2) (y3,y4,y5)))
 | _ => none
def ic34 : ICode := (.seq (.reg [⟨some 2,none,.box 3 (.t 0)⟩,⟨some 3,none,.box 3 (.t 1)⟩,⟨some 4,none,.mov (.c (.bool false))⟩] [2,3]) (.seq (.seq (.reg [⟨some 5,none,.faddr 0 (.t 2)⟩,⟨some 6,none,.load none (.t 5)⟩,⟨some 7,none,.conv (.flt .f64) (.t 6)⟩,⟨some 8,none,.faddr 0 (.t 3)⟩,⟨some 9,none,.load none (.t 8)⟩,⟨some 10,none,.conv (.flt .f64) (.t 9)⟩,⟨some 11,none,.call (.fn 57) [(.t 7),(.t 10)] []⟩,⟨some 12,none,.un .not (.t 11)⟩] [2,3,12]) (.cond (.t 12) (.seq (.reg [⟨some 4,none,.mov (.c (.bool false))⟩] [4]) .ret) .skip)) (.seq (.seq (.reg [⟨some 13,none,.faddr 1 (.t 2)⟩,⟨some 14,none,.load none (.t 13)⟩,⟨some 15,none,.conv (.flt .f64) (.t 14)⟩,⟨some 16,none,.faddr 1 (.t 3)⟩,⟨some 17,none,.load none (.t 16)⟩,⟨some 18,none,.conv (.flt .f64) (.t 17)⟩,⟨some 19,none,.call (.fn 57) [(.t 15),(.t 18)] []⟩,⟨some 20,none,.un .not (.t 19)⟩] [2,3,20]) (.cond (.t 20) (.seq (.reg [⟨some 4,none,.mov (.c (.bool false))⟩] [4]) .ret) .skip)) (.seq (.seq (.reg [⟨some 21,none,.faddr 2 (.t 2)⟩,⟨some 22,none,.load none (.t 21)⟩,⟨some 23,none,.conv (.flt .f64) (.t 22)⟩,⟨some 24,none,.faddr 2 (.t 3)⟩,⟨some 25,none,.load none (.t 24)⟩,⟨some 26,none,.conv (.flt .f64) (.t 25)⟩,⟨some 27,none,.call (.fn 57) [(.t 23),(.t 26)] []⟩,⟨some 28,none,.un .not (.t 27)⟩] [28]) (.cond (.t 28) (.seq (.reg [⟨some 4,none,.mov (.c (.bool false))⟩] [4]) .ret) .skip)) (.seq (.reg [⟨some 4,none,.mov (.c (.bool true))⟩] [4]) .ret)))))
def cp34 : CP := CP.mk [] [] [[2,3],[2,3,12],[4],[2,3,20],[4],[28],[4],[4]] 29 [] []
theorem s34 : ∀ vs r,g_laws_eqVector vs = some r → SaysM Try.prog .any 34 vs r := by
 intro vs r h
 unfold g_laws_eqVector at h
 split at h
 ·rename_i y0 y1 y2 y3 y4 y5
  cases h
  refine spec_of (m := .any) (tab := tabOf [(57,wM .any g_laws_sameFloat)]) (cp := cp34) (ic := ic34) (rvl := [(.t 4)]) hm (tabOk_cons (m := .any) s57 tabOk_nil) Try.func34 rfl rfl rfl (by kernel_rfl) rfl (Nat.le_of_ble_eq_true rfl) (Nat.le_of_ble_eq_true rfl) ?_
  show eA _ _ _ _
  unfold ic34
  refine eS_to ?_
  repeat' (first
   | ((first | (have h := True.intro; refine eS_of ?_) | (refine eGI_of (fun h => ?_) (fun h => ?_)) | (refine eCc_of (fun h => ?_) (fun h => ?_))) <;> (try simp only [Bool.not_eq_true',Bool.not_eq_false'] at h) <;> (try first | exact nbA h (by assumption) | exact nbB h (by assumption)) <;> simp only [h,
    grpX,purgeH,Option.map,reduceIte,Nat.reduceEqDiff,Nat.reduceAdd,Nat.reduceMul,Nat.reduceLT,Nat.reduceLeDiff,implies_true,forall_const,eq_self,Int.reduceEq,Int.reduceLE,Int.reduceLT,if_true,if_false,grpK,Int.reduceAdd,Int.reduceSub,Int.reduceMul,Int.reduceNeg,Int.reducePow,Nat.reducePow,Int.reduceToNat,Nat.reduceSub,List.replicate,Nat.reduceBEq,grpE,beq_true,beq_false,g_laws_sameFloat,grpC,grpY]))
  all_goals (try simp only [*,m_laws_eqVector,grpZ,if_true,if_false,reduceIte,decide_true,decide_false])
  all_goals (try (simp_all; done))
 ·cases h
def m_laws_eqTurn (x0 : (Nat × Nat × Nat × Nat)) (x1 : (Nat × Nat × Nat × Nat)) : Bool := (if (m_laws_sameFloat (widen x0.1) (widen x1.1)) = true then (if (m_laws_sameFloat (widen x0.2.1) (widen x1.2.1)) = true then (if (m_laws_sameFloat (widen x0.2.2.1) (widen x1.2.2.1)) = true then (if (m_laws_sameFloat (widen x0.2.2.2) (widen x1.2.2.2)) = true then true else false) else false) else false) else false)
def g_laws_eqTurn : List AV → Option AV
 | [.agg [.flt .f32 y0,.flt .f32 y1,.flt .f32 y2,.flt .f32 y3],.agg [.flt .f32 y4,.flt .f32 y5,.flt .f32 y6,.flt .f32 y7]] => some (.bool (m_laws_eqTurn (y0,y1,y2,y3) (y4,y5,y6,y7)))
 | _ => none
def ic58 : ICode := (.seq (.reg [⟨some 2,none,.box 4 (.t 0)⟩,⟨some 3,none,.box 4 (.t 1)⟩,⟨some 4,none,.mov (.c (.bool false))⟩] [2,3]) (.seq (.seq (.reg [⟨some 5,none,.faddr 0 (.t 2)⟩,⟨some 6,none,.load none (.t 5)⟩,⟨some 7,none,.conv (.flt .f64) (.t 6)⟩,⟨some 8,none,.faddr 0 (.t 3)⟩,⟨some 9,none,.load none (.t 8)⟩,⟨some 10,none,.conv (.flt .f64) (.t 9)⟩,⟨some 11,none,.call (.fn 57) [(.t 7),(.t 10)] []⟩,⟨some 12,none,.un .not (.t 11)⟩] [2,3,12]) (.cond (.t 12) (.seq (.reg [⟨some 4,none,.mov (.c (.bool false))⟩] [4]) .ret) .skip)) (.seq (.seq (.reg [⟨some 13,none,.faddr 1 (.t 2)⟩,⟨some 14,none,.load none (.t 13)⟩,⟨some 15,none,.conv (.flt .f64) (.t 14)⟩,⟨some 16,none,.faddr 1 (.t 3)⟩,⟨some 17,none,.load none (.t 16)⟩,⟨some 18,none,.conv (.flt .f64) (.t 17)⟩,⟨some 19,none,.call (.fn 57) [(.t 15),(.t 18)] []⟩,⟨some 20,none,.un .not (.t 19)⟩] [2,3,20]) (.cond (.t 20) (.seq (.reg [⟨some 4,none,.mov (.c (.bool false))⟩] [4]) .ret) .skip)) (.seq (.seq (.reg [⟨some 21,none,.faddr 2 (.t 2)⟩,⟨some 22,none,.load none (.t 21)⟩,⟨some 23,none,.conv (.flt .f64) (.t 22)⟩,⟨some 24,none,.faddr 2 (.t 3)⟩,⟨some 25,none,.load none (.t 24)⟩,⟨some 26,none,.conv (.flt .f64) (.t 25)⟩,⟨some 27,none,.call (.fn 57) [(.t 23),(.t 26)] []⟩,⟨some 28,none,.un .not (.t 27)⟩] [2,3,28]) (.cond (.t 28) (.seq (.reg [⟨some 4,none,.mov (.c (.bool false))⟩] [4]) .ret) .skip)) (.seq (.seq (.reg [⟨some 29,none,.faddr 3 (.t 2)⟩,⟨some 30,none,.load none (.t 29)⟩,⟨some 31,none,.conv (.flt .f64) (.t 30)⟩,⟨some 32,none,.faddr 3 (.t 3)⟩,⟨some 33,none,.load none (.t 32)⟩,⟨some 34,none,.conv (.flt .f64) (.t 33)⟩,⟨some 35,none,.call (.fn 57) [(.t 31),(.t 34)] []⟩,⟨some 36,none,.un .not (.t 35)⟩] [36]) (.cond (.t 36) (.seq (.reg [⟨some 4,none,.mov (.c (.bool false))⟩] [4]) .ret) .skip)) (.seq (.reg [⟨some 4,none,.mov (.c (.bool true))⟩] [4]) .ret))))))
def cp58 : CP := CP.mk [] [] [[2,3],[2,3,12],[4],[2,3,20],[4],[2,3,28],[4],[36],[4],[4]] 37 [] []
theorem s58 : ∀ vs r,g_laws_eqTurn vs = some r → SaysM Try.prog .any 58 vs r := by
 intro vs r h
 unfold g_laws_eqTurn at h
 split at h
 ·rename_i y0 y1 y2 y3 y4 y5 y6 y7
  cases h
  refine spec_of (m := .any) (tab := tabOf [(57,wM .any g_laws_sameFloat)]) (cp := cp58) (ic := ic58) (rvl := [(.t 4)]) hm (tabOk_cons (m := .any) s57 tabOk_nil) Try.func58 rfl rfl rfl (by kernel_rfl) rfl (Nat.le_of_ble_eq_true rfl) (Nat.le_of_ble_eq_true rfl) ?_
  show eA _ _ _ _
  unfold ic58
  refine eS_to ?_
  repeat' (first
   | ((first | (have h := True.intro; refine eS_of ?_) | (refine eGI_of (fun h => ?_) (fun h => ?_)) | (refine eCc_of (fun h => ?_) (fun h => ?_))) <;> (try simp only [Bool.not_eq_true',Bool.not_eq_false'] at h) <;> (try first | exact nbA h (by assumption) | exact nbB h (by assumption)) <;> simp only [h,
    grpX,purgeH,Option.map,reduceIte,Nat.reduceEqDiff,Nat.reduceAdd,Nat.reduceMul,Nat.reduceLT,Nat.reduceLeDiff,implies_true,forall_const,eq_self,Int.reduceEq,Int.reduceLE,Int.reduceLT,if_true,if_false,grpK,Int.reduceAdd,Int.reduceSub,Int.reduceMul,Int.reduceNeg,Int.reducePow,Nat.reducePow,Int.reduceToNat,Nat.reduceSub,List.replicate,Nat.reduceBEq,grpE,beq_true,beq_false,g_laws_sameFloat,grpC,grpY]))
  all_goals (try simp only [*,m_laws_eqTurn,grpZ,if_true,if_false,reduceIte,decide_true,decide_false])
  all_goals (try (simp_all; done))
 ·cases h
def l_laws_eqTurnS_0 (x0 : (List (Nat × Nat × Nat × Nat))) (x1 : (List (Nat × Nat × Nat × Nat))) : Nat → Int → Option (Bool × Bool × Unit)
 | 0,_ => none
 | n + 1,z0_0 => (if (decide (z0_0 < ((List.length x0 : Nat) : Int))) = true then (need (inB z0_0 (List.length x0)) (need (inB z0_0 (List.length x1)) (if (m_laws_eqTurn (atI x0 z0_0) (atI x1 z0_0)) = true then (l_laws_eqTurnS_0 x0 x1 n (IntKind.wrap .i64 (z0_0 + 1))) else (some (true,false,default))))) else (some (false,default,())))
def m_laws_eqTurnS (x0 : (List (Nat × Nat × Nat × Nat))) (x1 : (List (Nat × Nat × Nat × Nat))) : Bool := (if (decide (((List.length x0 : Nat) : Int) = ((List.length x1 : Nat) : Int))) = true then (if (Option.getD (l_laws_eqTurnS_0 x0 x1 (Int.toNat (((List.length x0 : Nat) : Int) - 0) + 2) 0) default).1 = true then (Option.getD (l_laws_eqTurnS_0 x0 x1 (Int.toNat (((List.length x0 : Nat) : Int) - 0) + 2) 0) default).2.1 else true) else false)
def p_laws_eqTurnS (x0 : (List (Nat × Nat × Nat × Nat))) (x1 : (List (Nat × Nat × Nat × Nat))) : Bool := (!(decide (((List.length x0 : Nat) : Int) = ((List.length x1 : Nat) : Int))) || (Option.isSome (l_laws_eqTurnS_0 x0 x1 (Int.toNat (((List.length x0 : Nat) : Int) - 0) + 2) 0)))
def g_laws_eqTurnS : List AV → Option AV
 | [.sl w0,.sl w1] => (match decL dc_en3 w0 with | some y0 => ((match decL dc_en3 w1 with | some y1 => (if p_laws_eqTurnS y0 y1 = true then some (.bool (m_laws_eqTurnS y0 y1)) else none) | none => none)) | none => none)
 | _ => none
def lb35_0 : ICode := (.seq (.seq (.reg [⟨some 11,none,.mov (.t 5)⟩,⟨some 12,none,.mov (.t 0)⟩,⟨some 13,none,.len false (.t 12)⟩,⟨some 14,none,.bin .lss false (.t 11) (.t 13)⟩] [0,1,5,14]) (.cond (.t 14) .skip (.exit 0))) (.seq (.block 1 (.seq (.reg [⟨some 17,none,.mov (.t 0)⟩,⟨some 18,none,.mov (.t 5)⟩,⟨some 19,none,.iaddrS 4 (.t 17) (.t 18)⟩,⟨some 20,none,.load (some 4) (.t 19)⟩,⟨some 21,none,.mov (.t 1)⟩,⟨some 22,none,.mov (.t 5)⟩,⟨some 23,none,.iaddrS 4 (.t 21) (.t 22)⟩,⟨some 24,none,.load (some 4) (.t 23)⟩,⟨some 25,none,.call (.fn 58) [(.t 20),(.t 24)] []⟩,⟨some 26,none,.un .not (.t 25)⟩] [0,1,5,26]) (.cond (.t 26) (.seq (.reg [⟨some 4,none,.mov (.c (.bool false))⟩] [4]) .ret) .skip))) (.reg [⟨some 15,none,.mov (.t 5)⟩,⟨some 16,none,.bin .add false (.t 15) (.c (.int .i64 1))⟩,⟨some 5,none,.mov (.t 16)⟩] [0,1,5])))
def ic35 : ICode := (.seq (.reg [⟨some 4,none,.mov (.c (.bool false))⟩] [0,1]) (.seq (.seq (.reg [⟨some 6,none,.mov (.t 0)⟩,⟨some 7,none,.len false (.t 6)⟩,⟨some 8,none,.mov (.t 1)⟩,⟨some 9,none,.len false (.t 8)⟩,⟨some 10,none,.bin .neq false (.t 7) (.t 9)⟩] [0,1,10]) (.cond (.t 10) (.seq (.reg [⟨some 4,none,.mov (.c (.bool false))⟩] [4]) .ret) .skip)) (.seq (.seq (.reg [⟨some 5,none,.mov (.c (.int .i64 0))⟩] [0,1,5]) (.block 0 (.loop lb35_0))) (.seq (.reg [⟨some 4,none,.mov (.c (.bool true))⟩] [4]) .ret))))
def cp35 : CP := CP.mk [] [] [[0,1],[0,1,10],[4],[0,1,5],[0,1,5,14],[0,1,5],[0,1,5,26],[4],[4]] 27 [] []
theorem sl35_0 (x0 : (List (Nat × Nat × Nat × Nat))) (x1 : (List (Nat × Nat × Nat × Nat))) : ∀ (n : Nat) (z0_0 : Int) (o : (Bool × Bool × Unit)) (K : IExit → St → Prop),l_laws_eqTurnS_0 x0 x1 n z0_0 = some o → (∀ st,o.1 = true → outM .any st [(.t 4)] = some (.bool o.2.1) → K .ret st) → (∀ st,o.1 = false → Wk st (⟨[],[]⟩ : St) → K (.exit 0) st) → eA (tabOf [(58,wM .any g_laws_eqTurn)]) (.loop lb35_0) (⟨[(0,(.sl (List.map en3 x0))),(1,(.sl (List.map en3 x1))),(5,(.int .i64 z0_0))],[]⟩ : St) K := by
 intro n
 induction n with
 | zero =>
  intro z0_0 o K h h0 h1
  simp only [l_laws_eqTurnS_0,reduceCtorEq] at h
 | succ n ih =>
  intro z0_0 o K h h0 h1
  refine eA_loop ?_
  unfold lb35_0
  unfold l_laws_eqTurnS_0 at h
  (try simp only [need_iff] at h)
  simp only [
   need_iff,h,grpX,purgeH,Option.map,reduceIte,Nat.reduceEqDiff,Nat.reduceAdd,Nat.reduceMul,Nat.reduceLT,Nat.reduceLeDiff,implies_true,forall_const,eq_self,Int.reduceEq,Int.reduceLE,Int.reduceLT,if_true,if_false,grpK,Int.reduceAdd,Int.reduceSub,Int.reduceMul,Int.reduceNeg,Int.reducePow,Nat.reducePow,Int.reduceToNat,Nat.reduceSub,List.replicate,Nat.reduceBEq,grpE,beq_true,beq_false,g_laws_eqTurn,grpC,grpY]
  repeat' (first
   | ((first | (refine eGI_of (fun hc => ?_) (fun hc => ?_)) | (refine eCc_of (fun hc => ?_) (fun hc => ?_)) | (have hc := True.intro; refine KW_refl ?_)) <;> (try simp only [Bool.not_eq_true',Bool.not_eq_false'] at hc) <;> (try simp only [hc,need_iff,reduceCtorEq,grpN,Int.reduceEq,Int.reduceLT,Int.reduceLE,if_true,if_false,reduceIte] at h) <;> (first | (have hc2 := hc; simp only [decide_eq_true_eq,decide_eq_false_iff_not] at hc2; (first | (replace hc2 := eq_false hc2) | (replace hc2 := eq_true hc2)); (try simp only [hc2,need_iff,reduceCtorEq,grpN,Int.reduceEq,Int.reduceLT,Int.reduceLE,if_true,if_false,reduceIte] at h); replace h := And.intro hc2 h) | (replace h := And.intro hc h) | skip) <;> simp only [hc,
   need_iff,h,grpX,purgeH,Option.map,reduceIte,Nat.reduceEqDiff,Nat.reduceAdd,Nat.reduceMul,Nat.reduceLT,Nat.reduceLeDiff,implies_true,forall_const,eq_self,Int.reduceEq,Int.reduceLE,Int.reduceLT,if_true,if_false,grpK,Int.reduceAdd,Int.reduceSub,Int.reduceMul,Int.reduceNeg,Int.reducePow,Nat.reducePow,Int.reduceToNat,Nat.reduceSub,List.replicate,Nat.reduceBEq,grpE,beq_true,beq_false,g_laws_eqTurn,grpC,grpY]))
  all_goals (have hf := h)
  all_goals (repeat (replace h := And.right h))
  all_goals ((first | (refine eA_wk (wk_norm (ks := [0,1,5]) (ls := []) ?_) (eA_cast ?_ (ih _ _ _ h h0 h1))) | (cases h; have h := True.intro; refine h0 _ rfl ?_) | (cases h; have h := True.intro; refine h1 _ rfl (Wk.cast (wk_norm (ks := []) (ls := []) ?_) ?_))) <;> simp only [normOk,optIn,blkIn,nameIn,normS,List.map_append,List.length_append,List.map_set,List.length_set,List.map_replicate,List.length_replicate,List.map_nil,List.map_cons,
   need_iff,h,hf,grpX,purgeH,Option.map,reduceIte,Nat.reduceEqDiff,Nat.reduceAdd,Nat.reduceMul,Nat.reduceLT,Nat.reduceLeDiff,implies_true,forall_const,eq_self,Int.reduceEq,Int.reduceLE,Int.reduceLT,if_true,if_false,grpK,Int.reduceAdd,Int.reduceSub,Int.reduceMul,Int.reduceNeg,Int.reducePow,Nat.reducePow,Int.reduceToNat,Nat.reduceSub,List.replicate,Nat.reduceBEq,grpE,beq_true,beq_false,g_laws_eqTurn,grpC,grpY] <;> first | rfl | (simp only [Nat.add_comm]; done))
theorem s35 : ∀ vs r,g_laws_eqTurnS vs = some r → SaysM Try.prog .any 35 vs r := by
 intro vs r h
 unfold g_laws_eqTurnS at h
 split at h
 ·rename_i w0 w1
  cases hd_y0 : decL dc_en3 w0 with
  | none => rw [hd_y0] at h; cases h
  | some y0 =>
  rw [hd_y0] at h
  obtain rfl := decL_inv dc_en3_inv hd_y0
  clear hd_y0
  dsimp only at h
  cases hd_y1 : decL dc_en3 w1 with
  | none => rw [hd_y1] at h; cases h
  | some y1 =>
  rw [hd_y1] at h
  obtain rfl := decL_inv dc_en3_inv hd_y1
  clear hd_y1
  dsimp only at h
  split at h
  ·rename_i hp
   cases h
   refine spec_of (m := .any) (tab := tabOf [(58,wM .any g_laws_eqTurn)]) (cp := cp35) (ic := ic35) (rvl := [(.t 4)]) hm (tabOk_cons (m := .any) s58 tabOk_nil) Try.func35 rfl rfl rfl (by kernel_rfl) rfl (Nat.le_of_ble_eq_true rfl) (Nat.le_of_ble_eq_true rfl) ?_
   show eA _ _ _ _
   unfold ic35
   simp only [p_laws_eqTurnS,Bool.and_eq_true,Bool.or_eq_true,decide_eq_true_eq,Bool.not_eq_true',decide_eq_false_iff_not] at hp
   refine eS_to ?_
   repeat' (first
    | ((first | (have h := True.intro; refine eS_of ?_) | (refine eGI_of (fun h => ?_) (fun h => ?_)) | (refine eCc_of (fun h => ?_) (fun h => ?_)) | (have h := True.intro; refine KW_refl ?_)) <;> (try simp only [Bool.not_eq_true',Bool.not_eq_false'] at h) <;> (try first | exact nbA h (by assumption) | exact nbB h (by assumption)) <;> (try simp only [h,reduceCtorEq,grpN,Int.reduceEq,Int.reduceLT,Int.reduceLE,if_true,if_false,reduceIte] at hp) <;> (first | (have h2 := h; simp only [decide_eq_true_eq,decide_eq_false_iff_not] at h2; (first | (replace h2 := eq_false h2) | (replace h2 := eq_true h2)); (try simp only [h2,reduceCtorEq,grpN,Int.reduceEq,Int.reduceLT,Int.reduceLE,if_true,if_false,reduceIte] at hp); replace hp := And.intro h2 hp) | (replace hp := And.intro h hp) | skip) <;> simp only [h,
     hp,grpX,purgeH,Option.map,reduceIte,Nat.reduceEqDiff,Nat.reduceAdd,Nat.reduceMul,Nat.reduceLT,Nat.reduceLeDiff,implies_true,forall_const,eq_self,Int.reduceEq,Int.reduceLE,Int.reduceLT,if_true,if_false,grpK,Int.reduceAdd,Int.reduceSub,Int.reduceMul,Int.reduceNeg,Int.reducePow,Nat.reducePow,Int.reduceToNat,Nat.reduceSub,List.replicate,Nat.reduceBEq,grpE,beq_true,beq_false,g_laws_eqTurn,grpC,grpY])
    | (refine eA_wk (wk_norm (ks := [0,1,5]) (ls := []) ?_) (eA_cast ?_ (sl35_0 y0 y1 _ _ _ _ (getD_some (d := default) (x := (l_laws_eqTurnS_0 y0 y1 (Int.toNat (((List.length y0 : Nat) : Int) - 0) + 2) 0)) ?_) ?_ ?_)); (iterate 2 (simp only [nilS,nilV,nilB,normOk,optIn,blkIn,nameIn,normS,List.map_append,List.length_append,List.map_set,List.length_set,List.map_replicate,List.length_replicate,List.map_nil,List.map_cons,
     hp,grpX,purgeH,Option.map,reduceIte,Nat.reduceEqDiff,Nat.reduceAdd,Nat.reduceMul,Nat.reduceLT,Nat.reduceLeDiff,implies_true,forall_const,eq_self,Int.reduceEq,Int.reduceLE,Int.reduceLT,if_true,if_false,grpK,Int.reduceAdd,Int.reduceSub,Int.reduceMul,Int.reduceNeg,Int.reducePow,Nat.reducePow,Int.reduceToNat,Nat.reduceSub,List.replicate,Nat.reduceBEq,grpE,beq_true,beq_false,g_laws_eqTurn,grpC,grpY] <;> first | rfl | (simp only [Nat.add_comm]; done))); (simp only [hp]); (
    intro st2 ht hw; simp only [Kq_ret,Kb_ret,Kl_ret,ret_ok]; first | exact h0 _ hw | exact h0 _ rfl hw | exact h1 _ rfl hw | exact h0 _ ht hw | exact h1 _ ht hw | (simp only [ht,need_iff,reduceCtorEq,grpN,Int.reduceEq,Int.reduceLT,Int.reduceLE,if_true,if_false,reduceIte] at h; (repeat (replace h := And.right h)); cases h; first | exact h0 _ hw | exact h0 _ rfl hw | exact h1 _ rfl hw) | refine ⟨_,hw,?_⟩); rotate_left; (
    intro st2 ht hw; (try simp only [ht,reduceCtorEq,grpN,Int.reduceEq,Int.reduceLT,Int.reduceLE,if_true,if_false,reduceIte] at hp); (try replace hp := And.intro ht hp); simp only [
Kq_exit,Kq_normal,Kq_ret,Kb_exit,Kb_normal,Kb_ret,Kl_exit,Kl_normal,Kl_ret,reduceIte,Nat.reduceEqDiff,if_true,if_false,eq_self]; refine KW_of hw ?_; simp only [ht,
     hp,grpX,purgeH,Option.map,reduceIte,Nat.reduceEqDiff,Nat.reduceAdd,Nat.reduceMul,Nat.reduceLT,Nat.reduceLeDiff,implies_true,forall_const,eq_self,Int.reduceEq,Int.reduceLE,Int.reduceLT,if_true,if_false,grpK,Int.reduceAdd,Int.reduceSub,Int.reduceMul,Int.reduceNeg,Int.reducePow,Nat.reducePow,Int.reduceToNat,Nat.reduceSub,List.replicate,Nat.reduceBEq,grpE,beq_true,beq_false,g_laws_eqTurn,grpC,grpY])))
   all_goals (try simp only [*,m_laws_eqTurnS,grpZ,if_true,if_false,reduceIte,decide_true,decide_false])
   all_goals (try (simp_all; done))
  ·cases h
 ·cases h
def m_laws_eqPose (x0 : (Nat × Nat × Nat × (List (Nat × Nat × Nat × Nat)))) (x1 : (Nat × Nat × Nat × (List (Nat × Nat × Nat × Nat)))) : Bool := (if (m_laws_eqVector (x0.1,x0.2.1,x0.2.2.1) (x1.1,x1.2.1,x1.2.2.1)) = true then (if (m_laws_eqTurnS x0.2.2.2 x1.2.2.2) = true then true else false) else false)
def p_laws_eqPose (x0 : (Nat × Nat × Nat × (List (Nat × Nat × Nat × Nat)))) (x1 : (Nat × Nat × Nat × (List (Nat × Nat × Nat × Nat)))) : Bool := (!(m_laws_eqVector (x0.1,x0.2.1,x0.2.2.1) (x1.1,x1.2.1,x1.2.2.1)) || (p_laws_eqTurnS x0.2.2.2 x1.2.2.2))
def g_laws_eqPose : List AV → Option AV
 | [.agg [.flt .f32 y0,.flt .f32 y1,.flt .f32 y2,.sl w3],.agg [.flt .f32 y4,.flt .f32 y5,.flt .f32 y6,.sl w7]] => (match decL dc_en3 w3 with | some y3 => ((match decL dc_en3 w7 with | some y7 => (if p_laws_eqPose (y0,y1,y2,y3) (y4,y5,y6,y7) = true then some (.bool (m_laws_eqPose (y0,y1,y2,y3) (y4,y5,y6,y7))) else none) | none => none)) | none => none)
 | _ => none
def ic10 : ICode := (.seq (.reg [⟨some 2,none,.box 4 (.t 0)⟩,⟨some 3,none,.box 4 (.t 1)⟩,⟨some 4,none,.mov (.c (.bool false))⟩] [2,3]) (.seq (.seq (.reg [⟨some 5,none,.faddr 0 (.t 2)⟩,⟨some 6,none,.load (some 3) (.t 5)⟩,⟨some 7,none,.faddr 0 (.t 3)⟩,⟨some 8,none,.load (some 3) (.t 7)⟩,⟨some 9,none,.call (.fn 34) [(.t 6),(.t 8)] []⟩,⟨some 10,none,.un .not (.t 9)⟩] [2,3,10]) (.cond (.t 10) (.seq (.reg [⟨some 4,none,.mov (.c (.bool false))⟩] [4]) .ret) .skip)) (.seq (.seq (.reg [⟨some 11,none,.faddr 3 (.t 2)⟩,⟨some 12,none,.load none (.t 11)⟩,⟨some 13,none,.faddr 3 (.t 3)⟩,⟨some 14,none,.load none (.t 13)⟩,⟨some 15,none,.call (.fn 35) [(.t 12),(.t 14)] []⟩,⟨some 16,none,.un .not (.t 15)⟩] [16]) (.cond (.t 16) (.seq (.reg [⟨some 4,none,.mov (.c (.bool false))⟩] [4]) .ret) .skip)) (.seq (.reg [⟨some 4,none,.mov (.c (.bool true))⟩] [4]) .ret))))
def cp10 : CP := CP.mk [] [] [[2,3],[2,3,10],[4],[16],[4],[4]] 17 [] []
theorem s10 : ∀ vs r,g_laws_eqPose vs = some r → SaysM Try.prog .any 10 vs r := by
 intro vs r h
 unfold g_laws_eqPose at h
 split at h
 ·rename_i y0 y1 y2 w3 y4 y5 y6 w7
  cases hd_y3 : decL dc_en3 w3 with
  | none => rw [hd_y3] at h; cases h
  | some y3 =>
  rw [hd_y3] at h
  obtain rfl := decL_inv dc_en3_inv hd_y3
  clear hd_y3
  dsimp only at h
  cases hd_y7 : decL dc_en3 w7 with
  | none => rw [hd_y7] at h; cases h
  | some y7 =>
  rw [hd_y7] at h
  obtain rfl := decL_inv dc_en3_inv hd_y7
  clear hd_y7
  dsimp only at h
  split at h
  ·rename_i hp
   cases h
   refine spec_of (m := .any) (tab := tabOf [(34,wM .any g_laws_eqVector),(35,wM .any g_laws_eqTurnS)]) (cp := cp10) (ic := ic10) (rvl := [(.t 4)]) hm (tabOk_cons (m := .any) s34 (tabOk_cons (m := .any) s35 tabOk_nil)) Try.func10 rfl rfl rfl (by kernel_rfl) rfl (Nat.le_of_ble_eq_true rfl) (Nat.le_of_ble_eq_true rfl) ?_
   show eA _ _ _ _
   unfold ic10
   simp only [p_laws_eqPose,Bool.and_eq_true,Bool.or_eq_true,decide_eq_true_eq,Bool.not_eq_true',decide_eq_false_iff_not] at hp
   refine eS_to ?_
   repeat' (first
    | ((first | (have h := True.intro; refine eS_of ?_) | (refine eGI_of (fun h => ?_) (fun h => ?_)) | (refine eCc_of (fun h => ?_) (fun h => ?_))) <;> (try simp only [Bool.not_eq_true',Bool.not_eq_false'] at h) <;> (try first | exact nbA h (by assumption) | exact nbB h (by assumption)) <;> (try simp only [h,reduceCtorEq,grpN,Int.reduceEq,Int.reduceLT,Int.reduceLE,if_true,if_false,reduceIte] at hp) <;> (first | (have h2 := h; simp only [decide_eq_true_eq,decide_eq_false_iff_not] at h2; (first | (replace h2 := eq_false h2) | (replace h2 := eq_true h2)); (try simp only [h2,reduceCtorEq,grpN,Int.reduceEq,Int.reduceLT,Int.reduceLE,if_true,if_false,reduceIte] at hp); replace hp := And.intro h2 hp) | (replace hp := And.intro h hp) | skip) <;> simp only [h,
     hp,grpX,purgeH,Option.map,reduceIte,Nat.reduceEqDiff,Nat.reduceAdd,Nat.reduceMul,Nat.reduceLT,Nat.reduceLeDiff,implies_true,forall_const,eq_self,Int.reduceEq,Int.reduceLE,Int.reduceLT,if_true,if_false,grpK,Int.reduceAdd,Int.reduceSub,Int.reduceMul,Int.reduceNeg,Int.reducePow,Nat.reducePow,Int.reduceToNat,Nat.reduceSub,List.replicate,Nat.reduceBEq,grpE,beq_true,beq_false,g_laws_eqVector,g_laws_eqTurnS,grpC,grpY]))
   all_goals (try simp only [*,m_laws_eqPose,grpZ,if_true,if_false,reduceIte,decide_true,decide_false])
   all_goals (try (simp_all; done))
  ·cases h
 ·cases h
def l_laws_eqPoseS_0 (x0 : (List (Nat × Nat × Nat × (List (Nat × Nat × Nat × Nat))))) (x1 : (List (Nat × Nat × Nat × (List (Nat × Nat × Nat × Nat))))) : Nat → Int → Option (Bool × Bool × Unit)
 | 0,_ => none
 | n + 1,z0_0 => (if (decide (z0_0 < ((List.length x0 : Nat) : Int))) = true then (need (inB z0_0 (List.length x0)) (need (inB z0_0 (List.length x1)) (need (p_laws_eqPose (atI x0 z0_0) (atI x1 z0_0)) (if (m_laws_eqPose (atI x0 z0_0) (atI x1 z0_0)) = true then (l_laws_eqPoseS_0 x0 x1 n (IntKind.wrap .i64 (z0_0 + 1))) else (some (true,false,default)))))) else (some (false,default,())))
def m_laws_eqPoseS (x0 : (List (Nat × Nat × Nat × (List (Nat × Nat × Nat × Nat))))) (x1 : (List (Nat × Nat × Nat × (List (Nat × Nat × Nat × Nat))))) : Bool := (if (decide (((List.length x0 : Nat) : Int) = ((List.length x1 : Nat) : Int))) = true then (if (Option.getD (l_laws_eqPoseS_0 x0 x1 (Int.toNat (((List.length x0 : Nat) : Int) - 0) + 2) 0) default).1 = true then (Option.getD (l_laws_eqPoseS_0 x0 x1 (Int.toNat (((List.length x0 : Nat) : Int) - 0) + 2) 0) default).2.1 else true) else false)
def p_laws_eqPoseS (x0 : (List (Nat × Nat × Nat × (List (Nat × Nat × Nat × Nat))))) (x1 : (List (Nat × Nat × Nat × (List (Nat × Nat × Nat × Nat))))) : Bool := (!(decide (((List.length x0 : Nat) : Int) = ((List.length x1 : Nat) : Int))) || (Option.isSome (l_laws_eqPoseS_0 x0 x1 (Int.toNat (((List.length x0 : Nat) : Int) - 0) + 2) 0)))
def g_laws_eqPoseS : List AV → Option AV
 | [.sl w0,.sl w1] => (match decL dc_en4 w0 with | some y0 => ((match decL dc_en4 w1 with | some y1 => (if p_laws_eqPoseS y0 y1 = true then some (.bool (m_laws_eqPoseS y0 y1)) else none) | none => none)) | none => none)
 | _ => none
def lb17_0 : ICode := (.seq (.seq (.reg [⟨some 11,none,.mov (.t 5)⟩,⟨some 12,none,.mov (.t 0)⟩,⟨some 13,none,.len false (.t 12)⟩,⟨some 14,none,.bin .lss false (.t 11) (.t 13)⟩] [0,1,5,14]) (.cond (.t 14) .skip (.exit 0))) (.seq (.block 1 (.seq (.reg [⟨some 17,none,.mov (.t 0)⟩,⟨some 18,none,.mov (.t 5)⟩,⟨some 19,none,.iaddrS 4 (.t 17) (.t 18)⟩,⟨some 20,none,.load (some 4) (.t 19)⟩,⟨some 21,none,.mov (.t 1)⟩,⟨some 22,none,.mov (.t 5)⟩,⟨some 23,none,.iaddrS 4 (.t 21) (.t 22)⟩,⟨some 24,none,.load (some 4) (.t 23)⟩,⟨some 25,none,.call (.fn 10) [(.t 20),(.t 24)] []⟩,⟨some 26,none,.un .not (.t 25)⟩] [0,1,5,26]) (.cond (.t 26) (.seq (.reg [⟨some 4,none,.mov (.c (.bool false))⟩] [4]) .ret) .skip))) (.reg [⟨some 15,none,.mov (.t 5)⟩,⟨some 16,none,.bin .add false (.t 15) (.c (.int .i64 1))⟩,⟨some 5,none,.mov (.t 16)⟩] [0,1,5])))
def ic17 : ICode := (.seq (.reg [⟨some 4,none,.mov (.c (.bool false))⟩] [0,1]) (.seq (.seq (.reg [⟨some 6,none,.mov (.t 0)⟩,⟨some 7,none,.len false (.t 6)⟩,⟨some 8,none,.mov (.t 1)⟩,⟨some 9,none,.len false (.t 8)⟩,⟨some 10,none,.bin .neq false (.t 7) (.t 9)⟩] [0,1,10]) (.cond (.t 10) (.seq (.reg [⟨some 4,none,.mov (.c (.bool false))⟩] [4]) .ret) .skip)) (.seq (.seq (.reg [⟨some 5,none,.mov (.c (.int .i64 0))⟩] [0,1,5]) (.block 0 (.loop lb17_0))) (.seq (.reg [⟨some 4,none,.mov (.c (.bool true))⟩] [4]) .ret))))
def cp17 : CP := CP.mk [] [] [[0,1],[0,1,10],[4],[0,1,5],[0,1,5,14],[0,1,5],[0,1,5,26],[4],[4]] 27 [] []
theorem sl17_0 (x0 : (List (Nat × Nat × Nat × (List (Nat × Nat × Nat × Nat))))) (x1 : (List (Nat × Nat × Nat × (List (Nat × Nat × Nat × Nat))))) : ∀ (n : Nat) (z0_0 : Int) (o : (Bool × Bool × Unit)) (K : IExit → St → Prop),l_laws_eqPoseS_0 x0 x1 n z0_0 = some o → (∀ st,o.1 = true → outM .any st [(.t 4)] = some (.bool o.2.1) → K .ret st) → (∀ st,o.1 = false → Wk st (⟨[],[]⟩ : St) → K (.exit 0) st) → eA (tabOf [(10,wM .any g_laws_eqPose)]) (.loop lb17_0) (⟨[(0,(.sl (List.map en4 x0))),(1,(.sl (List.map en4 x1))),(5,(.int .i64 z0_0))],[]⟩ : St) K := by
 intro n
 induction n with
 | zero =>
  intro z0_0 o K h h0 h1
  simp only [l_laws_eqPoseS_0,reduceCtorEq] at h
 | succ n ih =>
  intro z0_0 o K h h0 h1
  refine eA_loop ?_
  unfold lb17_0
  unfold l_laws_eqPoseS_0 at h
  (try simp only [need_iff] at h)
  simp only [
   need_iff,h,grpX,purgeH,Option.map,reduceIte,Nat.reduceEqDiff,Nat.reduceAdd,Nat.reduceMul,Nat.reduceLT,Nat.reduceLeDiff,implies_true,forall_const,eq_self,Int.reduceEq,Int.reduceLE,Int.reduceLT,if_true,if_false,grpK,Int.reduceAdd,Int.reduceSub,Int.reduceMul,Int.reduceNeg,Int.reducePow,Nat.reducePow,Int.reduceToNat,Nat.reduceSub,List.replicate,Nat.reduceBEq,grpE,beq_true,beq_false,g_laws_eqPose,grpC,grpY]
  repeat' (first
   | ((first | (refine eGI_of (fun hc => ?_) (fun hc => ?_)) | (refine eCc_of (fun hc => ?_) (fun hc => ?_)) | (have hc := True.intro; refine KW_refl ?_)) <;> (try simp only [Bool.not_eq_true',Bool.not_eq_false'] at hc) <;> (try simp only [hc,need_iff,reduceCtorEq,grpN,Int.reduceEq,Int.reduceLT,Int.reduceLE,if_true,if_false,reduceIte] at h) <;> (first | (have hc2 := hc; simp only [decide_eq_true_eq,decide_eq_false_iff_not] at hc2; (first | (replace hc2 := eq_false hc2) | (replace hc2 := eq_true hc2)); (try simp only [hc2,need_iff,reduceCtorEq,grpN,Int.reduceEq,Int.reduceLT,Int.reduceLE,if_true,if_false,reduceIte] at h); replace h := And.intro hc2 h) | (replace h := And.intro hc h) | skip) <;> simp only [hc,
   need_iff,h,grpX,purgeH,Option.map,reduceIte,Nat.reduceEqDiff,Nat.reduceAdd,Nat.reduceMul,Nat.reduceLT,Nat.reduceLeDiff,implies_true,forall_const,eq_self,Int.reduceEq,Int.reduceLE,Int.reduceLT,if_true,if_false,grpK,Int.reduceAdd,Int.reduceSub,Int.reduceMul,Int.reduceNeg,Int.reducePow,Nat.reducePow,Int.reduceToNat,Nat.reduceSub,List.replicate,Nat.reduceBEq,grpE,beq_true,beq_false,g_laws_eqPose,grpC,grpY]))
  all_goals (have hf := h)
  all_goals (repeat (replace h := And.right h))
  all_goals ((first | (refine eA_wk (wk_norm (ks := [0,1,5]) (ls := []) ?_) (eA_cast ?_ (ih _ _ _ h h0 h1))) | (cases h; have h := True.intro; refine h0 _ rfl ?_) | (cases h; have h := True.intro; refine h1 _ rfl (Wk.cast (wk_norm (ks := []) (ls := []) ?_) ?_))) <;> simp only [normOk,optIn,blkIn,nameIn,normS,List.map_append,List.length_append,List.map_set,List.length_set,List.map_replicate,List.length_replicate,List.map_nil,List.map_cons,
   need_iff,h,hf,grpX,purgeH,Option.map,reduceIte,Nat.reduceEqDiff,Nat.reduceAdd,Nat.reduceMul,Nat.reduceLT,Nat.reduceLeDiff,implies_true,forall_const,eq_self,Int.reduceEq,Int.reduceLE,Int.reduceLT,if_true,if_false,grpK,Int.reduceAdd,Int.reduceSub,Int.reduceMul,Int.reduceNeg,Int.reducePow,Nat.reducePow,Int.reduceToNat,Nat.reduceSub,List.replicate,Nat.reduceBEq,grpE,beq_true,beq_false,g_laws_eqPose,grpC,grpY] <;> first | rfl | (simp only [Nat.add_comm]; done))
theorem s17 : ∀ vs r,g_laws_eqPoseS vs = some r → SaysM Try.prog .any 17 vs r := by
 intro vs r h
 unfold g_laws_eqPoseS at h
 split at h
 ·rename_i w0 w1
  cases hd_y0 : decL dc_en4 w0 with
  | none => rw [hd_y0] at h; cases h
  | some y0 =>
  rw [hd_y0] at h
  obtain rfl := decL_inv dc_en4_inv hd_y0
  clear hd_y0
  dsimp only at h
  cases hd_y1 : decL dc_en4 w1 with
  | none => rw [hd_y1] at h; cases h
  | some y1 =>
  rw [hd_y1] at h
  obtain rfl := decL_inv dc_en4_inv hd_y1
  clear hd_y1
  dsimp only at h
  split at h
  ·rename_i hp
   cases h
   refine spec_of (m := .any) (tab := tabOf [(10,wM .any g_laws_eqPose)]) (cp := cp17) (ic := ic17) (rvl := [(.t 4)]) hm (tabOk_cons (m := .any) s10 tabOk_nil) Try.func17 rfl rfl rfl (by kernel_rfl) rfl (Nat.le_of_ble_eq_true rfl) (Nat.le_of_ble_eq_true rfl) ?_
   show eA _ _ _ _
   unfold ic17
   simp only [p_laws_eqPoseS,Bool.and_eq_true,Bool.or_eq_true,decide_eq_true_eq,Bool.not_eq_true',decide_eq_false_iff_not] at hp
   refine eS_to ?_
   repeat' (first
    | ((first | (have h := True.intro; refine eS_of ?_) | (refine eGI_of (fun h => ?_) (fun h => ?_)) | (refine eCc_of (fun h => ?_) (fun h => ?_)) | (have h := True.intro; refine KW_refl ?_)) <;> (try simp only [Bool.not_eq_true',Bool.not_eq_false'] at h) <;> (try first | exact nbA h (by assumption) | exact nbB h (by assumption)) <;> (try simp only [h,reduceCtorEq,grpN,Int.reduceEq,Int.reduceLT,Int.reduceLE,if_true,if_false,reduceIte] at hp) <;> (first | (have h2 := h; simp only [decide_eq_true_eq,decide_eq_false_iff_not] at h2; (first | (replace h2 := eq_false h2) | (replace h2 := eq_true h2)); (try simp only [h2,reduceCtorEq,grpN,Int.reduceEq,Int.reduceLT,Int.reduceLE,if_true,if_false,reduceIte] at hp); replace hp := And.intro h2 hp) | (replace hp := And.intro h hp) | skip) <;> simp only [h,
     hp,grpX,purgeH,Option.map,reduceIte,Nat.reduceEqDiff,Nat.reduceAdd,Nat.reduceMul,Nat.reduceLT,Nat.reduceLeDiff,implies_true,forall_const,eq_self,Int.reduceEq,Int.reduceLE,Int.reduceLT,if_true,if_false,grpK,Int.reduceAdd,Int.reduceSub,Int.reduceMul,Int.reduceNeg,Int.reducePow,Nat.reducePow,Int.reduceToNat,Nat.reduceSub,List.replicate,Nat.reduceBEq,grpE,beq_true,beq_false,g_laws_eqPose,grpC,grpY])
    | (refine eA_wk (wk_norm (ks := [0,1,5]) (ls := []) ?_) (eA_cast ?_ (sl17_0 y0 y1 _ _ _ _ (getD_some (d := default) (x := (l_laws_eqPoseS_0 y0 y1 (Int.toNat (((List.length y0 : Nat) : Int) - 0) + 2) 0)) ?_) ?_ ?_)); (iterate 2 (simp only [nilS,nilV,nilB,normOk,optIn,blkIn,nameIn,normS,List.map_append,List.length_append,List.map_set,List.length_set,List.map_replicate,List.length_replicate,List.map_nil,List.map_cons,
     hp,grpX,purgeH,Option.map,reduceIte,Nat.reduceEqDiff,Nat.reduceAdd,Nat.reduceMul,Nat.reduceLT,Nat.reduceLeDiff,implies_true,forall_const,eq_self,Int.reduceEq,Int.reduceLE,Int.reduceLT,if_true,if_false,grpK,Int.reduceAdd,Int.reduceSub,Int.reduceMul,Int.reduceNeg,Int.reducePow,Nat.reducePow,Int.reduceToNat,Nat.reduceSub,List.replicate,Nat.reduceBEq,grpE,beq_true,beq_false,g_laws_eqPose,grpC,grpY] <;> first | rfl | (simp only [Nat.add_comm]; done))); (simp only [hp]); (
    intro st2 ht hw; simp only [Kq_ret,Kb_ret,Kl_ret,ret_ok]; first | exact h0 _ hw | exact h0 _ rfl hw | exact h1 _ rfl hw | exact h0 _ ht hw | exact h1 _ ht hw | (simp only [ht,need_iff,reduceCtorEq,grpN,Int.reduceEq,Int.reduceLT,Int.reduceLE,if_true,if_false,reduceIte] at h; (repeat (replace h := And.right h)); cases h; first | exact h0 _ hw | exact h0 _ rfl hw | exact h1 _ rfl hw) | refine ⟨_,hw,?_⟩); rotate_left; (
    intro st2 ht hw; (try simp only [ht,reduceCtorEq,grpN,Int.reduceEq,Int.reduceLT,Int.reduceLE,if_true,if_false,reduceIte] at hp); (try replace hp := And.intro ht hp); simp only [
Kq_exit,Kq_normal,Kq_ret,Kb_exit,Kb_normal,Kb_ret,Kl_exit,Kl_normal,Kl_ret,reduceIte,Nat.reduceEqDiff,if_true,if_false,eq_self]; refine KW_of hw ?_; simp only [ht,
     hp,grpX,purgeH,Option.map,reduceIte,Nat.reduceEqDiff,Nat.reduceAdd,Nat.reduceMul,Nat.reduceLT,Nat.reduceLeDiff,implies_true,forall_const,eq_self,Int.reduceEq,Int.reduceLE,Int.reduceLT,if_true,if_false,grpK,Int.reduceAdd,Int.reduceSub,Int.reduceMul,Int.reduceNeg,Int.reducePow,Nat.reducePow,Int.reduceToNat,Nat.reduceSub,List.replicate,Nat.reduceBEq,grpE,beq_true,beq_false,g_laws_eqPose,grpC,grpY])))
   all_goals (try simp only [*,m_laws_eqPoseS,grpZ,if_true,if_false,reduceIte,decide_true,decide_false])
   all_goals (try (simp_all; done))
  ·cases h
 ·cases h
def m_laws_eqKey (x0 : (Int × Nat × Nat × Nat × Nat)) (x1 : (Int × Nat × Nat × Nat × Nat)) : Bool := (if (decide (x0.1 = x1.1)) = true then (if (m_laws_eqTurn x0.2 x1.2) = true then true else false) else false)
def g_laws_eqKey : List AV → Option AV
 | [.agg [.int .i64 y0,.flt .f32 y1,.flt .f32 y2,.flt .f32 y3,.flt .f32 y4],.agg [.int .i64 y5,.flt .f32 y6,.flt .f32 y7,.flt .f32 y8,.flt .f32 y9]] => some (.bool (m_laws_eqKey (y0,y1,y2,y3,y4) (y5,y6,y7,y8,y9)))
 | _ => none
def ic79 : ICode := (.seq (.reg [⟨some 2,none,.box 5 (.t 0)⟩,⟨some 3,none,.box 5 (.t 1)⟩,⟨some 4,none,.mov (.c (.bool false))⟩] [2,3]) (.seq (.seq (.reg [⟨some 5,none,.faddr 0 (.t 2)⟩,⟨some 6,none,.load none (.t 5)⟩,⟨some 7,none,.faddr 0 (.t 3)⟩,⟨some 8,none,.load none (.t 7)⟩,⟨some 9,none,.bin .neq false (.t 6) (.t 8)⟩] [2,3,9]) (.cond (.t 9) (.seq (.reg [⟨some 4,none,.mov (.c (.bool false))⟩] [4]) .ret) .skip)) (.seq (.seq (.reg [⟨some 10,none,.faddr 1 (.t 2)⟩,⟨some 11,none,.load (some 4) (.t 10)⟩,⟨some 12,none,.faddr 1 (.t 3)⟩,⟨some 13,none,.load (some 4) (.t 12)⟩,⟨some 14,none,.call (.fn 58) [(.t 11),(.t 13)] []⟩,⟨some 15,none,.un .not (.t 14)⟩] [15]) (.cond (.t 15) (.seq (.reg [⟨some 4,none,.mov (.c (.bool false))⟩] [4]) .ret) .skip)) (.seq (.reg [⟨some 4,none,.mov (.c (.bool true))⟩] [4]) .ret))))
def cp79 : CP := CP.mk [] [] [[2,3],[2,3,9],[4],[15],[4],[4]] 16 [] []
theorem s79 : ∀ vs r,g_laws_eqKey vs = some r → SaysM Try.prog .any 79 vs r := by
 intro vs r h
 unfold g_laws_eqKey at h
 split at h
 ·rename_i y0 y1 y2 y3 y4 y5 y6 y7 y8 y9
  cases h
  refine spec_of (m := .any) (tab := tabOf [(58,wM .any g_laws_eqTurn)]) (cp := cp79) (ic := ic79) (rvl := [(.t 4)]) hm (tabOk_cons (m := .any) s58 tabOk_nil) Try.func79 rfl rfl rfl (by kernel_rfl) rfl (Nat.le_of_ble_eq_true rfl) (Nat.le_of_ble_eq_true rfl) ?_
  show eA _ _ _ _
  unfold ic79
  refine eS_to ?_
  repeat' (first
   | ((first | (have h := True.intro; refine eS_of ?_) | (refine eGI_of (fun h => ?_) (fun h => ?_)) | (refine eCc_of (fun h => ?_) (fun h => ?_))) <;> (try simp only [Bool.not_eq_true',Bool.not_eq_false'] at h) <;> (try first | exact nbA h (by assumption) | exact nbB h (by assumption)) <;> simp only [h,
    grpX,purgeH,Option.map,reduceIte,Nat.reduceEqDiff,Nat.reduceAdd,Nat.reduceMul,Nat.reduceLT,Nat.reduceLeDiff,implies_true,forall_const,eq_self,Int.reduceEq,Int.reduceLE,Int.reduceLT,if_true,if_false,grpK,Int.reduceAdd,Int.reduceSub,Int.reduceMul,Int.reduceNeg,Int.reducePow,Nat.reducePow,Int.reduceToNat,Nat.reduceSub,List.replicate,Nat.reduceBEq,grpE,beq_true,beq_false,g_laws_eqTurn,grpC,grpY]))
  all_goals (try simp only [*,m_laws_eqKey,grpZ,if_true,if_false,reduceIte,decide_true,decide_false])
  all_goals (try (simp_all; done))
 ·cases h
def l_laws_eqKeyS_0 (x0 : (List (Int × Nat × Nat × Nat × Nat))) (x1 : (List (Int × Nat × Nat × Nat × Nat))) : Nat → Int → Option (Bool × Bool × Unit)
 | 0,_ => none
 | n + 1,z0_0 => (if (decide (z0_0 < ((List.length x0 : Nat) : Int))) = true then (need (inB z0_0 (List.length x0)) (need (inB z0_0 (List.length x1)) (if (m_laws_eqKey (atI x0 z0_0) (atI x1 z0_0)) = true then (l_laws_eqKeyS_0 x0 x1 n (IntKind.wrap .i64 (z0_0 + 1))) else (some (true,false,default))))) else (some (false,default,())))
def m_laws_eqKeyS (x0 : (List (Int × Nat × Nat × Nat × Nat))) (x1 : (List (Int × Nat × Nat × Nat × Nat))) : Bool := (if (decide (((List.length x0 : Nat) : Int) = ((List.length x1 : Nat) : Int))) = true then (if (Option.getD (l_laws_eqKeyS_0 x0 x1 (Int.toNat (((List.length x0 : Nat) : Int) - 0) + 2) 0) default).1 = true then (Option.getD (l_laws_eqKeyS_0 x0 x1 (Int.toNat (((List.length x0 : Nat) : Int) - 0) + 2) 0) default).2.1 else true) else false)
def p_laws_eqKeyS (x0 : (List (Int × Nat × Nat × Nat × Nat))) (x1 : (List (Int × Nat × Nat × Nat × Nat))) : Bool := (!(decide (((List.length x0 : Nat) : Int) = ((List.length x1 : Nat) : Int))) || (Option.isSome (l_laws_eqKeyS_0 x0 x1 (Int.toNat (((List.length x0 : Nat) : Int) - 0) + 2) 0)))
def g_laws_eqKeyS : List AV → Option AV
 | [.sl w0,.sl w1] => (match decL dc_en0 w0 with | some y0 => ((match decL dc_en0 w1 with | some y1 => (if p_laws_eqKeyS y0 y1 = true then some (.bool (m_laws_eqKeyS y0 y1)) else none) | none => none)) | none => none)
 | _ => none
def lb59_0 : ICode := (.seq (.seq (.reg [⟨some 11,none,.mov (.t 5)⟩,⟨some 12,none,.mov (.t 0)⟩,⟨some 13,none,.len false (.t 12)⟩,⟨some 14,none,.bin .lss false (.t 11) (.t 13)⟩] [0,1,5,14]) (.cond (.t 14) .skip (.exit 0))) (.seq (.block 1 (.seq (.reg [⟨some 17,none,.mov (.t 0)⟩,⟨some 18,none,.mov (.t 5)⟩,⟨some 19,none,.iaddrS 5 (.t 17) (.t 18)⟩,⟨some 20,none,.load (some 5) (.t 19)⟩,⟨some 21,none,.mov (.t 1)⟩,⟨some 22,none,.mov (.t 5)⟩,⟨some 23,none,.iaddrS 5 (.t 21) (.t 22)⟩,⟨some 24,none,.load (some 5) (.t 23)⟩,⟨some 25,none,.call (.fn 79) [(.t 20),(.t 24)] []⟩,⟨some 26,none,.un .not (.t 25)⟩] [0,1,5,26]) (.cond (.t 26) (.seq (.reg [⟨some 4,none,.mov (.c (.bool false))⟩] [4]) .ret) .skip))) (.reg [⟨some 15,none,.mov (.t 5)⟩,⟨some 16,none,.bin .add false (.t 15) (.c (.int .i64 1))⟩,⟨some 5,none,.mov (.t 16)⟩] [0,1,5])))
def ic59 : ICode := (.seq (.reg [⟨some 4,none,.mov (.c (.bool false))⟩] [0,1]) (.seq (.seq (.reg [⟨some 6,none,.mov (.t 0)⟩,⟨some 7,none,.len false (.t 6)⟩,⟨some 8,none,.mov (.t 1)⟩,⟨some 9,none,.len false (.t 8)⟩,⟨some 10,none,.bin .neq false (.t 7) (.t 9)⟩] [0,1,10]) (.cond (.t 10) (.seq (.reg [⟨some 4,none,.mov (.c (.bool false))⟩] [4]) .ret) .skip)) (.seq (.seq (.reg [⟨some 5,none,.mov (.c (.int .i64 0))⟩] [0,1,5]) (.block 0 (.loop lb59_0))) (.seq (.reg [⟨some 4,none,.mov (.c (.bool true))⟩] [4]) .ret))))
def cp59 : CP := CP.mk [] [] [[0,1],[0,1,10],[4],[0,1,5],[0,1,5,14],[0,1,5],[0,1,5,26],[4],[4]] 27 [] []
theorem sl59_0 (x0 : (List (Int × Nat × Nat × Nat × Nat))) (x1 : (List (Int × Nat × Nat × Nat × Nat))) : ∀ (n : Nat) (z0_0 : Int) (o : (Bool × Bool × Unit)) (K : IExit → St → Prop),l_laws_eqKeyS_0 x0 x1 n z0_0 = some o → (∀ st,o.1 = true → outM .any st [(.t 4)] = some (.bool o.2.1) → K .ret st) → (∀ st,o.1 = false → Wk st (⟨[],[]⟩ : St) → K (.exit 0) st) → eA (tabOf [(79,wM .any g_laws_eqKey)]) (.loop lb59_0) (⟨[(0,(.sl (List.map en0 x0))),(1,(.sl (List.map en0 x1))),(5,(.int .i64 z0_0))],[]⟩ : St) K := by
 intro n
 induction n with
 | zero =>
  intro z0_0 o K h h0 h1
  simp only [l_laws_eqKeyS_0,reduceCtorEq] at h
 | succ n ih =>
  intro z0_0 o K h h0 h1
  refine eA_loop ?_
  unfold lb59_0
  unfold l_laws_eqKeyS_0 at h
  (try simp only [need_iff] at h)
  simp only [
   need_iff,h,grpX,purgeH,Option.map,reduceIte,Nat.reduceEqDiff,Nat.reduceAdd,Nat.reduceMul,Nat.reduceLT,Nat.reduceLeDiff,implies_true,forall_const,eq_self,Int.reduceEq,Int.reduceLE,Int.reduceLT,if_true,if_false,grpK,Int.reduceAdd,Int.reduceSub,Int.reduceMul,Int.reduceNeg,Int.reducePow,Nat.reducePow,Int.reduceToNat,Nat.reduceSub,List.replicate,Nat.reduceBEq,grpE,beq_true,beq_false,g_laws_eqKey,grpC,grpY]
  repeat' (first
   | ((first | (refine eGI_of (fun hc => ?_) (fun hc => ?_)) | (refine eCc_of (fun hc => ?_) (fun hc => ?_)) | (have hc := True.intro; refine KW_refl ?_)) <;> (try simp only [Bool.not_eq_true',Bool.not_eq_false'] at hc) <;> (try simp only [hc,need_iff,reduceCtorEq,grpN,Int.reduceEq,Int.reduceLT,Int.reduceLE,if_true,if_false,reduceIte] at h) <;> (first | (have hc2 := hc; simp only [decide_eq_true_eq,decide_eq_false_iff_not] at hc2; (first | (replace hc2 := eq_false hc2) | (replace hc2 := eq_true hc2)); (try simp only [hc2,need_iff,reduceCtorEq,grpN,Int.reduceEq,Int.reduceLT,Int.reduceLE,if_true,if_false,reduceIte] at h); replace h := And.intro hc2 h) | (replace h := And.intro hc h) | skip) <;> simp only [hc,
   need_iff,h,grpX,purgeH,Option.map,reduceIte,Nat.reduceEqDiff,Nat.reduceAdd,Nat.reduceMul,Nat.reduceLT,Nat.reduceLeDiff,implies_true,forall_const,eq_self,Int.reduceEq,Int.reduceLE,Int.reduceLT,if_true,if_false,grpK,Int.reduceAdd,Int.reduceSub,Int.reduceMul,Int.reduceNeg,Int.reducePow,Nat.reducePow,Int.reduceToNat,Nat.reduceSub,List.replicate,Nat.reduceBEq,grpE,beq_true,beq_false,g_laws_eqKey,grpC,grpY]))
  all_goals (have hf := h)
  all_goals (repeat (replace h := And.right h))
  all_goals ((first | (refine eA_wk (wk_norm (ks := [0,1,5]) (ls := []) ?_) (eA_cast ?_ (ih _ _ _ h h0 h1))) | (cases h; have h := True.intro; refine h0 _ rfl ?_) | (cases h; have h := True.intro; refine h1 _ rfl (Wk.cast (wk_norm (ks := []) (ls := []) ?_) ?_))) <;> simp only [normOk,optIn,blkIn,nameIn,normS,List.map_append,List.length_append,List.map_set,List.length_set,List.map_replicate,List.length_replicate,List.map_nil,List.map_cons,
   need_iff,h,hf,grpX,purgeH,Option.map,reduceIte,Nat.reduceEqDiff,Nat.reduceAdd,Nat.reduceMul,Nat.reduceLT,Nat.reduceLeDiff,implies_true,forall_const,eq_self,Int.reduceEq,Int.reduceLE,Int.reduceLT,if_true,if_false,grpK,Int.reduceAdd,Int.reduceSub,Int.reduceMul,Int.reduceNeg,Int.reducePow,Nat.reducePow,Int.reduceToNat,Nat.reduceSub,List.replicate,Nat.reduceBEq,grpE,beq_true,beq_false,g_laws_eqKey,grpC,grpY] <;> first | rfl | (simp only [Nat.add_comm]; done))
theorem s59 : ∀ vs r,g_laws_eqKeyS vs = some r → SaysM Try.prog .any 59 vs r := by
 intro vs r h
 unfold g_laws_eqKeyS at h
 split at h
 ·rename_i w0 w1
  cases hd_y0 : decL dc_en0 w0 with
  | none => rw [hd_y0] at h; cases h
  | some y0 =>
  rw [hd_y0] at h
  obtain rfl := decL_inv dc_en0_inv hd_y0
  clear hd_y0
  dsimp only at h
  cases hd_y1 : decL dc_en0 w1 with
  | none => rw [hd_y1] at h; cases h
  | some y1 =>
  rw [hd_y1] at h
  obtain rfl := decL_inv dc_en0_inv hd_y1
  clear hd_y1
  dsimp only at h
  split at h
  ·rename_i hp
   cases h
   refine spec_of (m := .any) (tab := tabOf [(79,wM .any g_laws_eqKey)]) (cp := cp59) (ic := ic59) (rvl := [(.t 4)]) hm (tabOk_cons (m := .any) s79 tabOk_nil) Try.func59 rfl rfl rfl (by kernel_rfl) rfl (Nat.le_of_ble_eq_true rfl) (Nat.le_of_ble_eq_true rfl) ?_
   show eA _ _ _ _
   unfold ic59
   simp only [p_laws_eqKeyS,Bool.and_eq_true,Bool.or_eq_true,decide_eq_true_eq,Bool.not_eq_true',decide_eq_false_iff_not] at hp
   refine eS_to ?_
   repeat' (first
    | ((first | (have h := True.intro; refine eS_of ?_) | (refine eGI_of (fun h => ?_) (fun h => ?_)) | (refine eCc_of (fun h => ?_) (fun h => ?_)) | (have h := True.intro; refine KW_refl ?_)) <;> (try simp only [Bool.not_eq_true',Bool.not_eq_false'] at h) <;> (try first | exact nbA h (by assumption) | exact nbB h (by assumption)) <;> (try simp only [h,reduceCtorEq,grpN,Int.reduceEq,Int.reduceLT,Int.reduceLE,if_true,if_false,reduceIte] at hp) <;> (first | (have h2 := h; simp only [decide_eq_true_eq,decide_eq_false_iff_not] at h2; (first | (replace h2 := eq_false h2) | (replace h2 := eq_true h2)); (try simp only [h2,reduceCtorEq,grpN,Int.reduceEq,Int.reduceLT,Int.reduceLE,if_true,if_false,reduceIte] at hp); replace hp := And.intro h2 hp) | (replace hp := And.intro h hp) | skip) <;> simp only [h,
     hp,grpX,purgeH,Option.map,reduceIte,Nat.reduceEqDiff,Nat.reduceAdd,Nat.reduceMul,Nat.reduceLT,Nat.reduceLeDiff,implies_true,forall_const,eq_self,Int.reduceEq,Int.reduceLE,Int.reduceLT,if_true,if_false,grpK,Int.reduceAdd,Int.reduceSub,Int.reduceMul,Int.reduceNeg,Int.reducePow,Nat.reducePow,Int.reduceToNat,Nat.reduceSub,List.replicate,Nat.reduceBEq,grpE,beq_true,beq_false,g_laws_eqKey,grpC,grpY])
    | (refine eA_wk (wk_norm (ks := [0,1,5]) (ls := []) ?_) (eA_cast ?_ (sl59_0 y0 y1 _ _ _ _ (getD_some (d := default) (x := (l_laws_eqKeyS_0 y0 y1 (Int.toNat (((List.length y0 : Nat) : Int) - 0) + 2) 0)) ?_) ?_ ?_)); (iterate 2 (simp only [nilS,nilV,nilB,normOk,optIn,blkIn,nameIn,normS,List.map_append,List.length_append,List.map_set,List.length_set,List.map_replicate,List.length_replicate,List.map_nil,List.map_cons,
     hp,grpX,purgeH,Option.map,reduceIte,Nat.reduceEqDiff,Nat.reduceAdd,Nat.reduceMul,Nat.reduceLT,Nat.reduceLeDiff,implies_true,forall_const,eq_self,Int.reduceEq,Int.reduceLE,Int.reduceLT,if_true,if_false,grpK,Int.reduceAdd,Int.reduceSub,Int.reduceMul,Int.reduceNeg,Int.reducePow,Nat.reducePow,Int.reduceToNat,Nat.reduceSub,List.replicate,Nat.reduceBEq,grpE,beq_true,beq_false,g_laws_eqKey,grpC,grpY] <;> first | rfl | (simp only [Nat.add_comm]; done))); (simp only [hp]); (
    intro st2 ht hw; simp only [Kq_ret,Kb_ret,Kl_ret,ret_ok]; first | exact h0 _ hw | exact h0 _ rfl hw | exact h1 _ rfl hw | exact h0 _ ht hw | exact h1 _ ht hw | (simp only [ht,need_iff,reduceCtorEq,grpN,Int.reduceEq,Int.reduceLT,Int.reduceLE,if_true,if_false,reduceIte] at h; (repeat (replace h := And.right h)); cases h; first | exact h0 _ hw | exact h0 _ rfl hw | exact h1 _ rfl hw) | refine ⟨_,hw,?_⟩); rotate_left; (
    intro st2 ht hw; (try simp only [ht,reduceCtorEq,grpN,Int.reduceEq,Int.reduceLT,Int.reduceLE,if_true,if_false,reduceIte] at hp); (try replace hp := And.intro ht hp); simp only [
Kq_exit,Kq_normal,Kq_ret,Kb_exit,Kb_normal,Kb_ret,Kl_exit,Kl_normal,Kl_ret,reduceIte,Nat.reduceEqDiff,if_true,if_false,eq_self]; refine KW_of hw ?_; simp only [ht,
     hp,grpX,purgeH,Option.map,reduceIte,Nat.reduceEqDiff,Nat.reduceAdd,Nat.reduceMul,Nat.reduceLT,Nat.reduceLeDiff,implies_true,forall_const,eq_self,Int.reduceEq,Int.reduceLE,Int.reduceLT,if_true,if_false,grpK,Int.reduceAdd,Int.reduceSub,Int.reduceMul,Int.reduceNeg,Int.reducePow,Nat.reducePow,Int.reduceToNat,Nat.reduceSub,List.replicate,Nat.reduceBEq,grpE,beq_true,beq_false,g_laws_eqKey,grpC,grpY])))
   all_goals (try simp only [*,m_laws_eqKeyS,grpZ,if_true,if_false,reduceIte,decide_true,decide_false])
   all_goals (try (simp_all; done))
  ·cases h
 ·cases h
def l_laws_eqKeySS_0 (x0 : (List (List (Int × Nat × Nat × Nat × Nat)))) (x1 : (List (List (Int × Nat × Nat × Nat × Nat)))) : Nat → Int → Option (Bool × Bool × Unit)
 | 0,_ => none
 | n + 1,z0_0 => (if (decide (z0_0 < ((List.length x0 : Nat) : Int))) = true then (need (inB z0_0 (List.length x0)) (need (inB z0_0 (List.length x1)) (need (p_laws_eqKeyS (atI x0 z0_0) (atI x1 z0_0)) (if (m_laws_eqKeyS (atI x0 z0_0) (atI x1 z0_0)) = true then (l_laws_eqKeySS_0 x0 x1 n (IntKind.wrap .i64 (z0_0 + 1))) else (some (true,false,default)))))) else (some (false,default,())))
def m_laws_eqKeySS (x0 : (List (List (Int × Nat × Nat × Nat × Nat)))) (x1 : (List (List (Int × Nat × Nat × Nat × Nat)))) : Bool := (if (decide (((List.length x0 : Nat) : Int) = ((List.length x1 : Nat) : Int))) = true then (if (Option.getD (l_laws_eqKeySS_0 x0 x1 (Int.toNat (((List.length x0 : Nat) : Int) - 0) + 2) 0) default).1 = true then (Option.getD (l_laws_eqKeySS_0 x0 x1 (Int.toNat (((List.length x0 : Nat) : Int) - 0) + 2) 0) default).2.1 else true) else false)
def p_laws_eqKeySS (x0 : (List (List (Int × Nat × Nat × Nat × Nat)))) (x1 : (List (List (Int × Nat × Nat × Nat × Nat)))) : Bool := (!(decide (((List.length x0 : Nat) : Int) = ((List.length x1 : Nat) : Int))) || (Option.isSome (l_laws_eqKeySS_0 x0 x1 (Int.toNat (((List.length x0 : Nat) : Int) - 0) + 2) 0)))
def g_laws_eqKeySS : List AV → Option AV
 | [.sl w0,.sl w1] => (match decL dc_en1 w0 with | some y0 => ((match decL dc_en1 w1 with | some y1 => (if p_laws_eqKeySS y0 y1 = true then some (.bool (m_laws_eqKeySS y0 y1)) else none) | none => none)) | none => none)
 | _ => none
def lb36_0 : ICode := (.seq (.seq (.reg [⟨some 11,none,.mov (.t 5)⟩,⟨some 12,none,.mov (.t 0)⟩,⟨some 13,none,.len false (.t 12)⟩,⟨some 14,none,.bin .lss false (.t 11) (.t 13)⟩] [0,1,5,14]) (.cond (.t 14) .skip (.exit 0))) (.seq (.block 1 (.seq (.reg [⟨some 17,none,.mov (.t 0)⟩,⟨some 18,none,.mov (.t 5)⟩,⟨some 19,none,.iaddrS 1 (.t 17) (.t 18)⟩,⟨some 20,none,.load none (.t 19)⟩,⟨some 21,none,.mov (.t 1)⟩,⟨some 22,none,.mov (.t 5)⟩,⟨some 23,none,.iaddrS 1 (.t 21) (.t 22)⟩,⟨some 24,none,.load none (.t 23)⟩,⟨some 25,none,.call (.fn 59) [(.t 20),(.t 24)] []⟩,⟨some 26,none,.un .not (.t 25)⟩] [0,1,5,26]) (.cond (.t 26) (.seq (.reg [⟨some 4,none,.mov (.c (.bool false))⟩] [4]) .ret) .skip))) (.reg [⟨some 15,none,.mov (.t 5)⟩,⟨some 16,none,.bin .add false (.t 15) (.c (.int .i64 1))⟩,⟨some 5,none,.mov (.t 16)⟩] [0,1,5])))
def ic36 : ICode := (.seq (.reg [⟨some 4,none,.mov (.c (.bool false))⟩] [0,1]) (.seq (.seq (.reg [⟨some 6,none,.mov (.t 0)⟩,⟨some 7,none,.len false (.t 6)⟩,⟨some 8,none,.mov (.t 1)⟩,⟨some 9,none,.len false (.t 8)⟩,⟨some 10,none,.bin .neq false (.t 7) (.t 9)⟩] [0,1,10]) (.cond (.t 10) (.seq (.reg [⟨some 4,none,.mov (.c (.bool false))⟩] [4]) .ret) .skip)) (.seq (.seq (.reg [⟨some 5,none,.mov (.c (.int .i64 0))⟩] [0,1,5]) (.block 0 (.loop lb36_0))) (.seq (.reg [⟨some 4,none,.mov (.c (.bool true))⟩] [4]) .ret))))
def cp36 : CP := CP.mk [] [] [[0,1],[0,1,10],[4],[0,1,5],[0,1,5,14],[0,1,5],[0,1,5,26],[4],[4]] 27 [] []
theorem sl36_0 (x0 : (List (List (Int × Nat × Nat × Nat × Nat)))) (x1 : (List (List (Int × Nat × Nat × Nat × Nat)))) : ∀ (n : Nat) (z0_0 : Int) (o : (Bool × Bool × Unit)) (K : IExit → St → Prop),l_laws_eqKeySS_0 x0 x1 n z0_0 = some o → (∀ st,o.1 = true → outM .any st [(.t 4)] = some (.bool o.2.1) → K .ret st) → (∀ st,o.1 = false → Wk st (⟨[],[]⟩ : St) → K (.exit 0) st) → eA (tabOf [(59,wM .any g_laws_eqKeyS)]) (.loop lb36_0) (⟨[(0,(.sl (List.map en1 x0))),(1,(.sl (List.map en1 x1))),(5,(.int .i64 z0_0))],[]⟩ : St) K := by
 intro n
 induction n with
 | zero =>
  intro z0_0 o K h h0 h1
  simp only [l_laws_eqKeySS_0,reduceCtorEq] at h
 | succ n ih =>
  intro z0_0 o K h h0 h1
  refine eA_loop ?_
  unfold lb36_0
  unfold l_laws_eqKeySS_0 at h
  (try simp only [need_iff] at h)
  simp only [
   need_iff,h,grpX,purgeH,Option.map,reduceIte,Nat.reduceEqDiff,Nat.reduceAdd,Nat.reduceMul,Nat.reduceLT,Nat.reduceLeDiff,implies_true,forall_const,eq_self,Int.reduceEq,Int.reduceLE,Int.reduceLT,if_true,if_false,grpK,Int.reduceAdd,Int.reduceSub,Int.reduceMul,Int.reduceNeg,Int.reducePow,Nat.reducePow,Int.reduceToNat,Nat.reduceSub,List.replicate,Nat.reduceBEq,grpE,beq_true,beq_false,g_laws_eqKeyS,grpC,grpY]
  repeat' (first
   | ((first | (refine eGI_of (fun hc => ?_) (fun hc => ?_)) | (refine eCc_of (fun hc => ?_) (fun hc => ?_)) | (have hc := True.intro; refine KW_refl ?_)) <;> (try simp only [Bool.not_eq_true',Bool.not_eq_false'] at hc) <;> (try simp only [hc,need_iff,reduceCtorEq,grpN,Int.reduceEq,Int.reduceLT,Int.reduceLE,if_true,if_false,reduceIte] at h) <;> (first | (have hc2 := hc; simp only [decide_eq_true_eq,decide_eq_false_iff_not] at hc2; (first | (replace hc2 := eq_false hc2) | (replace hc2 := eq_true hc2)); (try simp only [hc2,need_iff,reduceCtorEq,grpN,Int.reduceEq,Int.reduceLT,Int.reduceLE,if_true,if_false,reduceIte] at h); replace h := And.intro hc2 h) | (replace h := And.intro hc h) | skip) <;> simp only [hc,
   need_iff,h,grpX,purgeH,Option.map,reduceIte,Nat.reduceEqDiff,Nat.reduceAdd,Nat.reduceMul,Nat.reduceLT,Nat.reduceLeDiff,implies_true,forall_const,eq_self,Int.reduceEq,Int.reduceLE,Int.reduceLT,if_true,if_false,grpK,Int.reduceAdd,Int.reduceSub,Int.reduceMul,Int.reduceNeg,Int.reducePow,Nat.reducePow,Int.reduceToNat,Nat.reduceSub,List.replicate,Nat.reduceBEq,grpE,beq_true,beq_false,g_laws_eqKeyS,grpC,grpY]))
  all_goals (have hf := h)
  all_goals (repeat (replace h := And.right h))
  all_goals ((first | (refine eA_wk (wk_norm (ks := [0,1,5]) (ls := []) ?_) (eA_cast ?_ (ih _ _ _ h h0 h1))) | (cases h; have h := True.intro; refine h0 _ rfl ?_) | (cases h; have h := True.intro; refine h1 _ rfl (Wk.cast (wk_norm (ks := []) (ls := []) ?_) ?_))) <;> simp only [normOk,optIn,blkIn,nameIn,normS,List.map_append,List.length_append,List.map_set,List.length_set,List.map_replicate,List.length_replicate,List.map_nil,List.map_cons,
   need_iff,h,hf,grpX,purgeH,Option.map,reduceIte,Nat.reduceEqDiff,Nat.reduceAdd,Nat.reduceMul,Nat.reduceLT,Nat.reduceLeDiff,implies_true,forall_const,eq_self,Int.reduceEq,Int.reduceLE,Int.reduceLT,if_true,if_false,grpK,Int.reduceAdd,Int.reduceSub,Int.reduceMul,Int.reduceNeg,Int.reducePow,Nat.reducePow,Int.reduceToNat,Nat.reduceSub,List.replicate,Nat.reduceBEq,grpE,beq_true,beq_false,g_laws_eqKeyS,grpC,grpY] <;> first | rfl | (simp only [Nat.add_comm]; done))
theorem s36 : ∀ vs r,g_laws_eqKeySS vs = some r → SaysM Try.prog .any 36 vs r := by
 intro vs r h
 unfold g_laws_eqKeySS at h
 split at h
 ·rename_i w0 w1
  cases hd_y0 : decL dc_en1 w0 with
  | none => rw [hd_y0] at h; cases h
  | some y0 =>
  rw [hd_y0] at h
  obtain rfl := decL_inv dc_en1_inv hd_y0
  clear hd_y0
  dsimp only at h
  cases hd_y1 : decL dc_en1 w1 with
  | none => rw [hd_y1] at h; cases h
  | some y1 =>
  rw [hd_y1] at h
  obtain rfl := decL_inv dc_en1_inv hd_y1
  clear hd_y1
  dsimp only at h
  split at h
  ·rename_i hp
   cases h
   refine spec_of (m := .any) (tab := tabOf [(59,wM .any g_laws_eqKeyS)]) (cp := cp36) (ic := ic36) (rvl := [(.t 4)]) hm (tabOk_cons (m := .any) s59 tabOk_nil) Try.func36 rfl rfl rfl (by kernel_rfl) rfl (Nat.le_of_ble_eq_true rfl) (Nat.le_of_ble_eq_true rfl) ?_
   show eA _ _ _ _
   unfold ic36
   simp only [p_laws_eqKeySS,Bool.and_eq_true,Bool.or_eq_true,decide_eq_true_eq,Bool.not_eq_true',decide_eq_false_iff_not] at hp
   refine eS_to ?_
   repeat' (first
    | ((first | (have h := True.intro; refine eS_of ?_) | (refine eGI_of (fun h => ?_) (fun h => ?_)) | (refine eCc_of (fun h => ?_) (fun h => ?_)) | (have h := True.intro; refine KW_refl ?_)) <;> (try simp only [Bool.not_eq_true',Bool.not_eq_false'] at h) <;> (try first | exact nbA h (by assumption) | exact nbB h (by assumption)) <;> (try simp only [h,reduceCtorEq,grpN,Int.reduceEq,Int.reduceLT,Int.reduceLE,if_true,if_false,reduceIte] at hp) <;> (first | (have h2 := h; simp only [decide_eq_true_eq,decide_eq_false_iff_not] at h2; (first | (replace h2 := eq_false h2) | (replace h2 := eq_true h2)); (try simp only [h2,reduceCtorEq,grpN,Int.reduceEq,Int.reduceLT,Int.reduceLE,if_true,if_false,reduceIte] at hp); replace hp := And.intro h2 hp) | (replace hp := And.intro h hp) | skip) <;> simp only [h,
     hp,grpX,purgeH,Option.map,reduceIte,Nat.reduceEqDiff,Nat.reduceAdd,Nat.reduceMul,Nat.reduceLT,Nat.reduceLeDiff,implies_true,forall_const,eq_self,Int.reduceEq,Int.reduceLE,Int.reduceLT,if_true,if_false,grpK,Int.reduceAdd,Int.reduceSub,Int.reduceMul,Int.reduceNeg,Int.reducePow,Nat.reducePow,Int.reduceToNat,Nat.reduceSub,List.replicate,Nat.reduceBEq,grpE,beq_true,beq_false,g_laws_eqKeyS,grpC,grpY])
    | (refine eA_wk (wk_norm (ks := [0,1,5]) (ls := []) ?_) (eA_cast ?_ (sl36_0 y0 y1 _ _ _ _ (getD_some (d := default) (x := (l_laws_eqKeySS_0 y0 y1 (Int.toNat (((List.length y0 : Nat) : Int) - 0) + 2) 0)) ?_) ?_ ?_)); (iterate 2 (simp only [nilS,nilV,nilB,normOk,optIn,blkIn,nameIn,normS,List.map_append,List.length_append,List.map_set,List.length_set,List.map_replicate,List.length_replicate,List.map_nil,List.map_cons,
     hp,grpX,purgeH,Option.map,reduceIte,Nat.reduceEqDiff,Nat.reduceAdd,Nat.reduceMul,Nat.reduceLT,Nat.reduceLeDiff,implies_true,forall_const,eq_self,Int.reduceEq,Int.reduceLE,Int.reduceLT,if_true,if_false,grpK,Int.reduceAdd,Int.reduceSub,Int.reduceMul,Int.reduceNeg,Int.reducePow,Nat.reducePow,Int.reduceToNat,Nat.reduceSub,List.replicate,Nat.reduceBEq,grpE,beq_true,beq_false,g_laws_eqKeyS,grpC,grpY] <;> first | rfl | (simp only [Nat.add_comm]; done))); (simp only [hp]); (
    intro st2 ht hw; simp only [Kq_ret,Kb_ret,Kl_ret,ret_ok]; first | exact h0 _ hw | exact h0 _ rfl hw | exact h1 _ rfl hw | exact h0 _ ht hw | exact h1 _ ht hw | (simp only [ht,need_iff,reduceCtorEq,grpN,Int.reduceEq,Int.reduceLT,Int.reduceLE,if_true,if_false,reduceIte] at h; (repeat (replace h := And.right h)); cases h; first | exact h0 _ hw | exact h0 _ rfl hw | exact h1 _ rfl hw) | refine ⟨_,hw,?_⟩); rotate_left; (
    intro st2 ht hw; (try simp only [ht,reduceCtorEq,grpN,Int.reduceEq,Int.reduceLT,Int.reduceLE,if_true,if_false,reduceIte] at hp); (try replace hp := And.intro ht hp); simp only [
Kq_exit,Kq_normal,Kq_ret,Kb_exit,Kb_normal,Kb_ret,Kl_exit,Kl_normal,Kl_ret,reduceIte,Nat.reduceEqDiff,if_true,if_false,eq_self]; refine KW_of hw ?_; simp only [ht,
     hp,grpX,purgeH,Option.map,reduceIte,Nat.reduceEqDiff,Nat.reduceAdd,Nat.reduceMul,Nat.reduceLT,Nat.reduceLeDiff,implies_true,forall_const,eq_self,Int.reduceEq,Int.reduceLE,Int.reduceLT,if_true,if_false,grpK,Int.reduceAdd,Int.reduceSub,Int.reduceMul,Int.reduceNeg,Int.reducePow,Nat.reducePow,Int.reduceToNat,Nat.reduceSub,List.replicate,Nat.reduceBEq,grpE,beq_true,beq_false,g_laws_eqKeyS,grpC,grpY])))
   all_goals (try simp only [*,m_laws_eqKeySS,grpZ,if_true,if_false,reduceIte,decide_true,decide_false])
   all_goals (try (simp_all; done))
  ·cases h
 ·cases h
def m_laws_eqRootKey (x0 : (Int × Nat × Nat × Nat)) (x1 : (Int × Nat × Nat × Nat)) : Bool := (if (decide (x0.1 = x1.1)) = true then (if (m_laws_eqVector x0.2 x1.2) = true then true else false) else false)
def g_laws_eqRootKey : List AV → Option AV
 | [.agg [.int .i64 y0,.flt .f32 y1,.flt .f32 y2,.flt .f32 y3],.agg [.int .i64 y4,.flt .f32 y5,.flt .f32 y6,.flt .f32 y7]] => some (.bool (m_laws_eqRootKey (y0,y1,y2,y3) (y4,y5,y6,y7)))
 | _ => none
def ic60 : ICode := (.seq (.reg [⟨some 2,none,.box 4 (.t 0)⟩,⟨some 3,none,.box 4 (.t 1)⟩,⟨some 4,none,.mov (.c (.bool false))⟩] [2,3]) (.seq (.seq (.reg [⟨some 5,none,.faddr 0 (.t 2)⟩,⟨some 6,none,.load none (.t 5)⟩,⟨some 7,none,.faddr 0 (.t 3)⟩,⟨some 8,none,.load none (.t 7)⟩,⟨some 9,none,.bin .neq false (.t 6) (.t 8)⟩] [2,3,9]) (.cond (.t 9) (.seq (.reg [⟨some 4,none,.mov (.c (.bool false))⟩] [4]) .ret) .skip)) (.seq (.seq (.reg [⟨some 10,none,.faddr 1 (.t 2)⟩,⟨some 11,none,.load (some 3) (.t 10)⟩,⟨some 12,none,.faddr 1 (.t 3)⟩,⟨some 13,none,.load (some 3) (.t 12)⟩,⟨some 14,none,.call (.fn 34) [(.t 11),(.t 13)] []⟩,⟨some 15,none,.un .not (.t 14)⟩] [15]) (.cond (.t 15) (.seq (.reg [⟨some 4,none,.mov (.c (.bool false))⟩] [4]) .ret) .skip)) (.seq (.reg [⟨some 4,none,.mov (.c (.bool true))⟩] [4]) .ret))))
def cp60 : CP := CP.mk [] [] [[2,3],[2,3,9],[4],[15],[4],[4]] 16 [] []
theorem s60 : ∀ vs r,g_laws_eqRootKey vs = some r → SaysM Try.prog .any 60 vs r := by
 intro vs r h
 unfold g_laws_eqRootKey at h
 split at h
 ·rename_i y0 y1 y2 y3 y4 y5 y6 y7
  cases h
  refine spec_of (m := .any) (tab := tabOf [(34,wM .any g_laws_eqVector)]) (cp := cp60) (ic := ic60) (rvl := [(.t 4)]) hm (tabOk_cons (m := .any) s34 tabOk_nil) Try.func60 rfl rfl rfl (by kernel_rfl) rfl (Nat.le_of_ble_eq_true rfl) (Nat.le_of_ble_eq_true rfl) ?_
  show eA _ _ _ _
  unfold ic60
  refine eS_to ?_
  repeat' (first
   | ((first | (have h := True.intro; refine eS_of ?_) | (refine eGI_of (fun h => ?_) (fun h => ?_)) | (refine eCc_of (fun h => ?_) (fun h => ?_))) <;> (try simp only [Bool.not_eq_true',Bool.not_eq_false'] at h) <;> (try first | exact nbA h (by assumption) | exact nbB h (by assumption)) <;> simp only [h,
    grpX,purgeH,Option.map,reduceIte,Nat.reduceEqDiff,Nat.reduceAdd,Nat.reduceMul,Nat.reduceLT,Nat.reduceLeDiff,implies_true,forall_const,eq_self,Int.reduceEq,Int.reduceLE,Int.reduceLT,if_true,if_false,grpK,Int.reduceAdd,Int.reduceSub,Int.reduceMul,Int.reduceNeg,Int.reducePow,Nat.reducePow,Int.reduceToNat,Nat.reduceSub,List.replicate,Nat.reduceBEq,grpE,beq_true,beq_false,g_laws_eqVector,grpC,grpY]))
  all_goals (try simp only [*,m_laws_eqRootKey,grpZ,if_true,if_false,reduceIte,decide_true,decide_false])
  all_goals (try (simp_all; done))
 ·cases h
def l_laws_eqRootKeyS_0 (x0 : (List (Int × Nat × Nat × Nat))) (x1 : (List (Int × Nat × Nat × Nat))) : Nat → Int → Option (Bool × Bool × Unit)
 | 0,_ => none
 | n + 1,z0_0 => (if (decide (z0_0 < ((List.length x0 : Nat) : Int))) = true then (need (inB z0_0 (List.length x0)) (need (inB z0_0 (List.length x1)) (if (m_laws_eqRootKey (atI x0 z0_0) (atI x1 z0_0)) = true then (l_laws_eqRootKeyS_0 x0 x1 n (IntKind.wrap .i64 (z0_0 + 1))) else (some (true,false,default))))) else (some (false,default,())))
def m_laws_eqRootKeyS (x0 : (List (Int × Nat × Nat × Nat))) (x1 : (List (Int × Nat × Nat × Nat))) : Bool := (if (decide (((List.length x0 : Nat) : Int) = ((List.length x1 : Nat) : Int))) = true then (if (Option.getD (l_laws_eqRootKeyS_0 x0 x1 (Int.toNat (((List.length x0 : Nat) : Int) - 0) + 2) 0) default).1 = true then (Option.getD (l_laws_eqRootKeyS_0 x0 x1 (Int.toNat (((List.length x0 : Nat) : Int) - 0) + 2) 0) default).2.1 else true) else false)
def p_laws_eqRootKeyS (x0 : (List (Int × Nat × Nat × Nat))) (x1 : (List (Int × Nat × Nat × Nat))) : Bool := (!(decide (((List.length x0 : Nat) : Int) = ((List.length x1 : Nat) : Int))) || (Option.isSome (l_laws_eqRootKeyS_0 x0 x1 (Int.toNat (((List.length x0 : Nat) : Int) - 0) + 2) 0)))
def g_laws_eqRootKeyS : List AV → Option AV
 | [.sl w0,.sl w1] => (match decL dc_en2 w0 with | some y0 => ((match decL dc_en2 w1 with | some y1 => (if p_laws_eqRootKeyS y0 y1 = true then some (.bool (m_laws_eqRootKeyS y0 y1)) else none) | none => none)) | none => none)
 | _ => none
def lb37_0 : ICode := (.seq (.seq (.reg [⟨some 11,none,.mov (.t 5)⟩,⟨some 12,none,.mov (.t 0)⟩,⟨some 13,none,.len false (.t 12)⟩,⟨some 14,none,.bin .lss false (.t 11) (.t 13)⟩] [0,1,5,14]) (.cond (.t 14) .skip (.exit 0))) (.seq (.block 1 (.seq (.reg [⟨some 17,none,.mov (.t 0)⟩,⟨some 18,none,.mov (.t 5)⟩,⟨some 19,none,.iaddrS 4 (.t 17) (.t 18)⟩,⟨some 20,none,.load (some 4) (.t 19)⟩,⟨some 21,none,.mov (.t 1)⟩,⟨some 22,none,.mov (.t 5)⟩,⟨some 23,none,.iaddrS 4 (.t 21) (.t 22)⟩,⟨some 24,none,.load (some 4) (.t 23)⟩,⟨some 25,none,.call (.fn 60) [(.t 20),(.t 24)] []⟩,⟨some 26,none,.un .not (.t 25)⟩] [0,1,5,26]) (.cond (.t 26) (.seq (.reg [⟨some 4,none,.mov (.c (.bool false))⟩] [4]) .ret) .skip))) (.reg [⟨some 15,none,.mov (.t 5)⟩,⟨some 16,none,.bin .add false (.t 15) (.c (.int .i64 1))⟩,⟨some 5,none,.mov (.t 16)⟩] [0,1,5])))
def ic37 : ICode := (.seq (.reg [⟨some 4,none,.mov (.c (.bool false))⟩] [0,1]) (.seq (.seq (.reg [⟨some 6,none,.mov (.t 0)⟩,⟨some 7,none,.len false (.t 6)⟩,⟨some 8,none,.mov (.t 1)⟩,⟨some 9,none,.len false (.t 8)⟩,⟨some 10,none,.bin .neq false (.t 7) (.t 9)⟩] [0,1,10]) (.cond (.t 10) (.seq (.reg [⟨some 4,none,.mov (.c (.bool false))⟩] [4]) .ret) .skip)) (.seq (.seq (.reg [⟨some 5,none,.mov (.c (.int .i64 0))⟩] [0,1,5]) (.block 0 (.loop lb37_0))) (.seq (.reg [⟨some 4,none,.mov (.c (.bool true))⟩] [4]) .ret))))
def cp37 : CP := CP.mk [] [] [[0,1],[0,1,10],[4],[0,1,5],[0,1,5,14],[0,1,5],[0,1,5,26],[4],[4]] 27 [] []
theorem sl37_0 (x0 : (List (Int × Nat × Nat × Nat))) (x1 : (List (Int × Nat × Nat × Nat))) : ∀ (n : Nat) (z0_0 : Int) (o : (Bool × Bool × Unit)) (K : IExit → St → Prop),l_laws_eqRootKeyS_0 x0 x1 n z0_0 = some o → (∀ st,o.1 = true → outM .any st [(.t 4)] = some (.bool o.2.1) → K .ret st) → (∀ st,o.1 = false → Wk st (⟨[],[]⟩ : St) → K (.exit 0) st) → eA (tabOf [(60,wM .any g_laws_eqRootKey)]) (.loop lb37_0) (⟨[(0,(.sl (List.map en2 x0))),(1,(.sl (List.map en2 x1))),(5,(.int .i64 z0_0))],[]⟩ : St) K := by
 intro n
 induction n with
 | zero =>
  intro z0_0 o K h h0 h1
  simp only [l_laws_eqRootKeyS_0,reduceCtorEq] at h
 | succ n ih =>
  intro z0_0 o K h h0 h1
  refine eA_loop ?_
  unfold lb37_0
  unfold l_laws_eqRootKeyS_0 at h
  (try simp only [need_iff] at h)
  simp only [
   need_iff,h,grpX,purgeH,Option.map,reduceIte,Nat.reduceEqDiff,Nat.reduceAdd,Nat.reduceMul,Nat.reduceLT,Nat.reduceLeDiff,implies_true,forall_const,eq_self,Int.reduceEq,Int.reduceLE,Int.reduceLT,if_true,if_false,grpK,Int.reduceAdd,Int.reduceSub,Int.reduceMul,Int.reduceNeg,Int.reducePow,Nat.reducePow,Int.reduceToNat,Nat.reduceSub,List.replicate,Nat.reduceBEq,grpE,beq_true,beq_false,g_laws_eqRootKey,grpC,grpY]
  repeat' (first
   | ((first | (refine eGI_of (fun hc => ?_) (fun hc => ?_)) | (refine eCc_of (fun hc => ?_) (fun hc => ?_)) | (have hc := True.intro; refine KW_refl ?_)) <;> (try simp only [Bool.not_eq_true',Bool.not_eq_false'] at hc) <;> (try simp only [hc,need_iff,reduceCtorEq,grpN,Int.reduceEq,Int.reduceLT,Int.reduceLE,if_true,if_false,reduceIte] at h) <;> (first | (have hc2 := hc; simp only [decide_eq_true_eq,decide_eq_false_iff_not] at hc2; (first | (replace hc2 := eq_false hc2) | (replace hc2 := eq_true hc2)); (try simp only [hc2,need_iff,reduceCtorEq,grpN,Int.reduceEq,Int.reduceLT,Int.reduceLE,if_true,if_false,reduceIte] at h); replace h := And.intro hc2 h) | (replace h := And.intro hc h) | skip) <;> simp only [hc,
   need_iff,h,grpX,purgeH,Option.map,reduceIte,Nat.reduceEqDiff,Nat.reduceAdd,Nat.reduceMul,Nat.reduceLT,Nat.reduceLeDiff,implies_true,forall_const,eq_self,Int.reduceEq,Int.reduceLE,Int.reduceLT,if_true,if_false,grpK,Int.reduceAdd,Int.reduceSub,Int.reduceMul,Int.reduceNeg,Int.reducePow,Nat.reducePow,Int.reduceToNat,Nat.reduceSub,List.replicate,Nat.reduceBEq,grpE,beq_true,beq_false,g_laws_eqRootKey,grpC,grpY]))
  all_goals (have hf := h)
  all_goals (repeat (replace h := And.right h))
  all_goals ((first | (refine eA_wk (wk_norm (ks := [0,1,5]) (ls := []) ?_) (eA_cast ?_ (ih _ _ _ h h0 h1))) | (cases h; have h := True.intro; refine h0 _ rfl ?_) | (cases h; have h := True.intro; refine h1 _ rfl (Wk.cast (wk_norm (ks := []) (ls := []) ?_) ?_))) <;> simp only [normOk,optIn,blkIn,nameIn,normS,List.map_append,List.length_append,List.map_set,List.length_set,List.map_replicate,List.length_replicate,List.map_nil,List.map_cons,
   need_iff,h,hf,grpX,purgeH,Option.map,reduceIte,Nat.reduceEqDiff,Nat.reduceAdd,Nat.reduceMul,Nat.reduceLT,Nat.reduceLeDiff,implies_true,forall_const,eq_self,Int.reduceEq,Int.reduceLE,Int.reduceLT,if_true,if_false,grpK,Int.reduceAdd,Int.reduceSub,Int.reduceMul,Int.reduceNeg,Int.reducePow,Nat.reducePow,Int.reduceToNat,Nat.reduceSub,List.replicate,Nat.reduceBEq,grpE,beq_true,beq_false,g_laws_eqRootKey,grpC,grpY] <;> first | rfl | (simp only [Nat.add_comm]; done))
theorem s37 : ∀ vs r,g_laws_eqRootKeyS vs = some r → SaysM Try.prog .any 37 vs r := by
 intro vs r h
 unfold g_laws_eqRootKeyS at h
 split at h
 ·rename_i w0 w1
  cases hd_y0 : decL dc_en2 w0 with
  | none => rw [hd_y0] at h; cases h
  | some y0 =>
  rw [hd_y0] at h
  obtain rfl := decL_inv dc_en2_inv hd_y0
  clear hd_y0
  dsimp only at h
  cases hd_y1 : decL dc_en2 w1 with
  | none => rw [hd_y1] at h; cases h
  | some y1 =>
  rw [hd_y1] at h
  obtain rfl := decL_inv dc_en2_inv hd_y1
  clear hd_y1
  dsimp only at h
  split at h
  ·rename_i hp
   cases h
   refine spec_of (m := .any) (tab := tabOf [(60,wM .any g_laws_eqRootKey)]) (cp := cp37) (ic := ic37) (rvl := [(.t 4)]) hm (tabOk_cons (m := .any) s60 tabOk_nil) Try.func37 rfl rfl rfl (by kernel_rfl) rfl (Nat.le_of_ble_eq_true rfl) (Nat.le_of_ble_eq_true rfl) ?_
   show eA _ _ _ _
   unfold ic37
   simp only [p_laws_eqRootKeyS,Bool.and_eq_true,Bool.or_eq_true,decide_eq_true_eq,Bool.not_eq_true',decide_eq_false_iff_not] at hp
   refine eS_to ?_
   repeat' (first
    | ((first | (have h := True.intro; refine eS_of ?_) | (refine eGI_of (fun h => ?_) (fun h => ?_)) | (refine eCc_of (fun h => ?_) (fun h => ?_)) | (have h := True.intro; refine KW_refl ?_)) <;> (try simp only [Bool.not_eq_true',Bool.not_eq_false'] at h) <;> (try first | exact nbA h (by assumption) | exact nbB h (by assumption)) <;> (try simp only [h,reduceCtorEq,grpN,Int.reduceEq,Int.reduceLT,Int.reduceLE,if_true,if_false,reduceIte] at hp) <;> (first | (have h2 := h; simp only [decide_eq_true_eq,decide_eq_false_iff_not] at h2; (first | (replace h2 := eq_false h2) | (replace h2 := eq_true h2)); (try simp only [h2,reduceCtorEq,grpN,Int.reduceEq,Int.reduceLT,Int.reduceLE,if_true,if_false,reduceIte] at hp); replace hp := And.intro h2 hp) | (replace hp := And.intro h hp) | skip) <;> simp only [h,
     hp,grpX,purgeH,Option.map,reduceIte,Nat.reduceEqDiff,Nat.reduceAdd,Nat.reduceMul,Nat.reduceLT,Nat.reduceLeDiff,implies_true,forall_const,eq_self,Int.reduceEq,Int.reduceLE,Int.reduceLT,if_true,if_false,grpK,Int.reduceAdd,Int.reduceSub,Int.reduceMul,Int.reduceNeg,Int.reducePow,Nat.reducePow,Int.reduceToNat,Nat.reduceSub,List.replicate,Nat.reduceBEq,grpE,beq_true,beq_false,g_laws_eqRootKey,grpC,grpY])
    | (refine eA_wk (wk_norm (ks := [0,1,5]) (ls := []) ?_) (eA_cast ?_ (sl37_0 y0 y1 _ _ _ _ (getD_some (d := default) (x := (l_laws_eqRootKeyS_0 y0 y1 (Int.toNat (((List.length y0 : Nat) : Int) - 0) + 2) 0)) ?_) ?_ ?_)); (iterate 2 (simp only [nilS,nilV,nilB,normOk,optIn,blkIn,nameIn,normS,List.map_append,List.length_append,List.map_set,List.length_set,List.map_replicate,List.length_replicate,List.map_nil,List.map_cons,
     hp,grpX,purgeH,Option.map,reduceIte,Nat.reduceEqDiff,Nat.reduceAdd,Nat.reduceMul,Nat.reduceLT,Nat.reduceLeDiff,implies_true,forall_const,eq_self,Int.reduceEq,Int.reduceLE,Int.reduceLT,if_true,if_false,grpK,Int.reduceAdd,Int.reduceSub,Int.reduceMul,Int.reduceNeg,Int.reducePow,Nat.reducePow,Int.reduceToNat,Nat.reduceSub,List.replicate,Nat.reduceBEq,grpE,beq_true,beq_false,g_laws_eqRootKey,grpC,grpY] <;> first | rfl | (simp only [Nat.add_comm]; done))); (simp only [hp]); (
    intro st2 ht hw; simp only [Kq_ret,Kb_ret,Kl_ret,ret_ok]; first | exact h0 _ hw | exact h0 _ rfl hw | exact h1 _ rfl hw | exact h0 _ ht hw | exact h1 _ ht hw | (simp only [ht,need_iff,reduceCtorEq,grpN,Int.reduceEq,Int.reduceLT,Int.reduceLE,if_true,if_false,reduceIte] at h; (repeat (replace h := And.right h)); cases h; first | exact h0 _ hw | exact h0 _ rfl hw | exact h1 _ rfl hw) | refine ⟨_,hw,?_⟩); rotate_left; (
    intro st2 ht hw; (try simp only [ht,reduceCtorEq,grpN,Int.reduceEq,Int.reduceLT,Int.reduceLE,if_true,if_false,reduceIte] at hp); (try replace hp := And.intro ht hp); simp only [
Kq_exit,Kq_normal,Kq_ret,Kb_exit,Kb_normal,Kb_ret,Kl_exit,Kl_normal,Kl_ret,reduceIte,Nat.reduceEqDiff,if_true,if_false,eq_self]; refine KW_of hw ?_; simp only [ht,
     hp,grpX,purgeH,Option.map,reduceIte,Nat.reduceEqDiff,Nat.reduceAdd,Nat.reduceMul,Nat.reduceLT,Nat.reduceLeDiff,implies_true,forall_const,eq_self,Int.reduceEq,Int.reduceLE,Int.reduceLT,if_true,if_false,grpK,Int.reduceAdd,Int.reduceSub,Int.reduceMul,Int.reduceNeg,Int.reducePow,Nat.reducePow,Int.reduceToNat,Nat.reduceSub,List.replicate,Nat.reduceBEq,grpE,beq_true,beq_false,g_laws_eqRootKey,grpC,grpY])))
   all_goals (try simp only [*,m_laws_eqRootKeyS,grpZ,if_true,if_false,reduceIte,decide_true,decide_false])
   all_goals (try (simp_all; done))
  ·cases h
 ·cases h
def m_laws_eqClip (x0 : (Int × Int × (List (List (Int × Nat × Nat × Nat × Nat))) × (List (Int × Nat × Nat × Nat)))) (x1 : (Int × Int × (List (List (Int × Nat × Nat × Nat × Nat))) × (List (Int × Nat × Nat × Nat)))) : Bool := (if (decide (x0.1 = x1.1)) = true then (if (decide (x0.2.1 = x1.2.1)) = true then (if (m_laws_eqKeySS x0.2.2.1 x1.2.2.1) = true then (if (m_laws_eqRootKeyS x0.2.2.2 x1.2.2.2) = true then true else false) else false) else false) else false)
def p_laws_eqClip (x0 : (Int × Int × (List (List (Int × Nat × Nat × Nat × Nat))) × (List (Int × Nat × Nat × Nat)))) (x1 : (Int × Int × (List (List (Int × Nat × Nat × Nat × Nat))) × (List (Int × Nat × Nat × Nat)))) : Bool := (!(decide (x0.1 = x1.1)) || (!(decide (x0.2.1 = x1.2.1)) || ((p_laws_eqKeySS x0.2.2.1 x1.2.2.1) && (!(m_laws_eqKeySS x0.2.2.1 x1.2.2.1) || (p_laws_eqRootKeyS x0.2.2.2 x1.2.2.2)))))
def g_laws_eqClip : List AV → Option AV
 | [.agg [.int .i64 y0,.int .i64 y1,.sl w2,.sl w3],.agg [.int .i64 y4,.int .i64 y5,.sl w6,.sl w7]] => (match decL dc_en1 w2 with | some y2 => ((match decL dc_en2 w3 with | some y3 => ((match decL dc_en1 w6 with | some y6 => ((match decL dc_en2 w7 with | some y7 => (if p_laws_eqClip (y0,y1,y2,y3) (y4,y5,y6,y7) = true then some (.bool (m_laws_eqClip (y0,y1,y2,y3) (y4,y5,y6,y7))) else none) | none => none)) | none => none)) | none => none)) | none => none)
 | _ => none
def ic11 : ICode := (.seq (.reg [⟨some 2,none,.box 4 (.t 0)⟩,⟨some 3,none,.box 4 (.t 1)⟩,⟨some 4,none,.mov (.c (.bool false))⟩] [2,3]) (.seq (.seq (.reg [⟨some 5,none,.faddr 0 (.t 2)⟩,⟨some 6,none,.load none (.t 5)⟩,⟨some 7,none,.faddr 0 (.t 3)⟩,⟨some 8,none,.load none (.t 7)⟩,⟨some 9,none,.bin .neq false (.t 6) (.t 8)⟩] [2,3,9]) (.cond (.t 9) (.seq (.reg [⟨some 4,none,.mov (.c (.bool false))⟩] [4]) .ret) .skip)) (.seq (.seq (.reg [⟨some 10,none,.faddr 1 (.t 2)⟩,⟨some 11,none,.load none (.t 10)⟩,⟨some 12,none,.faddr 1 (.t 3)⟩,⟨some 13,none,.load none (.t 12)⟩,⟨some 14,none,.bin .neq false (.t 11) (.t 13)⟩] [2,3,14]) (.cond (.t 14) (.seq (.reg [⟨some 4,none,.mov (.c (.bool false))⟩] [4]) .ret) .skip)) (.seq (.seq (.reg [⟨some 15,none,.faddr 2 (.t 2)⟩,⟨some 16,none,.load none (.t 15)⟩,⟨some 17,none,.faddr 2 (.t 3)⟩,⟨some 18,none,.load none (.t 17)⟩,⟨some 19,none,.call (.fn 36) [(.t 16),(.t 18)] []⟩,⟨some 20,none,.un .not (.t 19)⟩] [2,3,20]) (.cond (.t 20) (.seq (.reg [⟨some 4,none,.mov (.c (.bool false))⟩] [4]) .ret) .skip)) (.seq (.seq (.reg [⟨some 21,none,.faddr 3 (.t 2)⟩,⟨some 22,none,.load none (.t 21)⟩,⟨some 23,none,.faddr 3 (.t 3)⟩,⟨some 24,none,.load none (.t 23)⟩,⟨some 25,none,.call (.fn 37) [(.t 22),(.t 24)] []⟩,⟨some 26,none,.un .not (.t 25)⟩] [26]) (.cond (.t 26) (.seq (.reg [⟨some 4,none,.mov (.c (.bool false))⟩] [4]) .ret) .skip)) (.seq (.reg [⟨some 4,none,.mov (.c (.bool true))⟩] [4]) .ret))))))
def cp11 : CP := CP.mk [] [] [[2,3],[2,3,9],[4],[2,3,14],[4],[2,3,20],[4],[26],[4],[4]] 27 [] []
theorem s11 : ∀ vs r,g_laws_eqClip vs = some r → SaysM Try.prog .any 11 vs r := by
 intro vs r h
 unfold g_laws_eqClip at h
 split at h
 ·rename_i y0 y1 w2 w3 y4 y5 w6 w7
  cases hd_y2 : decL dc_en1 w2 with
  | none => rw [hd_y2] at h; cases h
  | some y2 =>
  rw [hd_y2] at h
  obtain rfl := decL_inv dc_en1_inv hd_y2
  clear hd_y2
  dsimp only at h
  cases hd_y3 : decL dc_en2 w3 with
  | none => rw [hd_y3] at h; cases h
  | some y3 =>
  rw [hd_y3] at h
  obtain rfl := decL_inv dc_en2_inv hd_y3
  clear hd_y3
  dsimp only at h
  cases hd_y6 : decL dc_en1 w6 with
  | none => rw [hd_y6] at h; cases h
  | some y6 =>
  rw [hd_y6] at h
  obtain rfl := decL_inv dc_en1_inv hd_y6
  clear hd_y6
  dsimp only at h
  cases hd_y7 : decL dc_en2 w7 with
  | none => rw [hd_y7] at h; cases h
  | some y7 =>
  rw [hd_y7] at h
  obtain rfl := decL_inv dc_en2_inv hd_y7
  clear hd_y7
  dsimp only at h
  split at h
  ·rename_i hp
   cases h
   refine spec_of (m := .any) (tab := tabOf [(36,wM .any g_laws_eqKeySS),(37,wM .any g_laws_eqRootKeyS)]) (cp := cp11) (ic := ic11) (rvl := [(.t 4)]) hm (tabOk_cons (m := .any) s36 (tabOk_cons (m := .any) s37 tabOk_nil)) Try.func11 rfl rfl rfl (by kernel_rfl) rfl (Nat.le_of_ble_eq_true rfl) (Nat.le_of_ble_eq_true rfl) ?_
   show eA _ _ _ _
   unfold ic11
   simp only [p_laws_eqClip,Bool.and_eq_true,Bool.or_eq_true,decide_eq_true_eq,Bool.not_eq_true',decide_eq_false_iff_not] at hp
   refine eS_to ?_
   repeat' (first
    | ((first | (have h := True.intro; refine eS_of ?_) | (refine eGI_of (fun h => ?_) (fun h => ?_)) | (refine eCc_of (fun h => ?_) (fun h => ?_))) <;> (try simp only [Bool.not_eq_true',Bool.not_eq_false'] at h) <;> (try first | exact nbA h (by assumption) | exact nbB h (by assumption)) <;> (try simp only [h,reduceCtorEq,grpN,Int.reduceEq,Int.reduceLT,Int.reduceLE,if_true,if_false,reduceIte] at hp) <;> (first | (have h2 := h; simp only [decide_eq_true_eq,decide_eq_false_iff_not] at h2; (first | (replace h2 := eq_false h2) | (replace h2 := eq_true h2)); (try simp only [h2,reduceCtorEq,grpN,Int.reduceEq,Int.reduceLT,Int.reduceLE,if_true,if_false,reduceIte] at hp); replace hp := And.intro h2 hp) | (replace hp := And.intro h hp) | skip) <;> simp only [h,
     hp,grpX,purgeH,Option.map,reduceIte,Nat.reduceEqDiff,Nat.reduceAdd,Nat.reduceMul,Nat.reduceLT,Nat.reduceLeDiff,implies_true,forall_const,eq_self,Int.reduceEq,Int.reduceLE,Int.reduceLT,if_true,if_false,grpK,Int.reduceAdd,Int.reduceSub,Int.reduceMul,Int.reduceNeg,Int.reducePow,Nat.reducePow,Int.reduceToNat,Nat.reduceSub,List.replicate,Nat.reduceBEq,grpE,beq_true,beq_false,g_laws_eqKeySS,g_laws_eqRootKeyS,grpC,grpY]))
   all_goals (try simp only [*,m_laws_eqClip,grpZ,if_true,if_false,reduceIte,decide_true,decide_false])
   all_goals (try (simp_all; done))
  ·cases h
 ·cases h
def l_laws_markKeyS_0 : Nat → (List (Int × Nat × Nat × Nat × Nat)) → Int → Int → Option (Int × (List (Int × Nat × Nat × Nat × Nat)))
 | 0,_,_,_ => none
 | n + 1,z0_0,z0_1,z0_2 => (if (decide (z0_2 < (((List.length z0_0) : Nat) : Int))) = true then (need (inB z0_2 (List.length z0_0)) (l_laws_markKeyS_0 n (List.set z0_0 (Int.toNat z0_2) (z0_1,(ofInt .f32 (IntKind.wrap .i64 (z0_1 + 1))),(ofInt .f32 (IntKind.wrap .i64 ((IntKind.wrap .i64 (z0_1 + 1)) + 1))),(ofInt .f32 (IntKind.wrap .i64 ((IntKind.wrap .i64 ((IntKind.wrap .i64 (z0_1 + 1)) + 1)) + 1))),(ofInt .f32 (IntKind.wrap .i64 ((IntKind.wrap .i64 ((IntKind.wrap .i64 ((IntKind.wrap .i64 (z0_1 + 1)) + 1)) + 1)) + 1))))) (IntKind.wrap .i64 ((IntKind.wrap .i64 ((IntKind.wrap .i64 ((IntKind.wrap .i64 ((IntKind.wrap .i64 (z0_1 + 1)) + 1)) + 1)) + 1)) + 1)) (IntKind.wrap .i64 (z0_2 + 1)))) else (some (z0_1,z0_0)))
def m_laws_markKeyS (x0 : (List (Int × Nat × Nat × Nat × Nat))) (x1 : Int) : (Int × (List (Int × Nat × Nat × Nat × Nat))) := (Option.getD (l_laws_markKeyS_0 (Int.toNat ((((List.length x0) : Nat) : Int) - 0) + 2) x0 x1 0) default)
def p_laws_markKeyS (x0 : (List (Int × Nat × Nat × Nat × Nat))) (x1 : Int) : Bool := ((Option.isSome (l_laws_markKeyS_0 (Int.toNat ((((List.length x0) : Nat) : Int) - 0) + 2) x0 x1 0)) && (decide (List.length (Option.getD (l_laws_markKeyS_0 (Int.toNat ((((List.length x0) : Nat) : Int) - 0) + 2) x0 x1 0) default).2 = List.length x0)))
def g_laws_markKeyS : List AV → Option (AV × Md)
 | [.sl w0,.int .i64 y1] => (match decL dc_en0 w0 with | some y0 => (if p_laws_markKeyS y0 y1 = true then some ((.int .i64 (m_laws_markKeyS y0 y1).1),.wr [5] [List.map en0 (m_laws_markKeyS y0 y1).2]) else none) | none => none)
 | _ => none
def lb61_0 : ICode := (.seq (.seq (.reg [⟨some 6,none,.mov (.t 5)⟩,⟨some 7,none,.mov (.t 0)⟩,⟨some 8,none,.len false (.t 7)⟩,⟨some 9,none,.bin .lss false (.t 6) (.t 8)⟩] [0,1,5,9]) (.cond (.t 9) .skip (.exit 0))) (.seq (.block 1 (.seq (.reg [⟨some 12,none,.mov (.t 0)⟩,⟨some 13,none,.mov (.t 5)⟩,⟨some 14,none,.mov (.t 1)⟩,⟨some 15,none,.iaddrS 5 (.t 12) (.t 13)⟩,⟨some 16,none,.faddr 0 (.t 15)⟩,⟨none,none,(.store 1 (.t 16) (.t 14))⟩] [0,1,5]) (.seq (.reg [⟨some 17,none,.mov (.t 1)⟩,⟨some 18,none,.bin .add false (.t 17) (.c (.int .i64 1))⟩,⟨some 1,none,.mov (.t 18)⟩] [0,1,5]) (.seq (.reg [⟨some 19,none,.mov (.t 0)⟩,⟨some 20,none,.mov (.t 5)⟩,⟨some 21,none,.mov (.t 1)⟩,⟨some 22,none,.conv (.flt .f32) (.t 21)⟩,⟨some 23,none,.iaddrS 5 (.t 19) (.t 20)⟩,⟨some 24,none,.faddr 1 (.t 23)⟩,⟨some 25,none,.faddr 0 (.t 24)⟩,⟨none,none,(.store 1 (.t 25) (.t 22))⟩] [0,1,5]) (.seq (.reg [⟨some 26,none,.mov (.t 1)⟩,⟨some 27,none,.bin .add false (.t 26) (.c (.int .i64 1))⟩,⟨some 1,none,.mov (.t 27)⟩] [0,1,5]) (.seq (.reg [⟨some 28,none,.mov (.t 0)⟩,⟨some 29,none,.mov (.t 5)⟩,⟨some 30,none,.mov (.t 1)⟩,⟨some 31,none,.conv (.flt .f32) (.t 30)⟩,⟨some 32,none,.iaddrS 5 (.t 28) (.t 29)⟩,⟨some 33,none,.faddr 1 (.t 32)⟩,⟨some 34,none,.faddr 1 (.t 33)⟩,⟨none,none,(.store 1 (.t 34) (.t 31))⟩] [0,1,5]) (.seq (.reg [⟨some 35,none,.mov (.t 1)⟩,⟨some 36,none,.bin .add false (.t 35) (.c (.int .i64 1))⟩,⟨some 1,none,.mov (.t 36)⟩] [0,1,5]) (.seq (.reg [⟨some 37,none,.mov (.t 0)⟩,⟨some 38,none,.mov (.t 5)⟩,⟨some 39,none,.mov (.t 1)⟩,⟨some 40,none,.conv (.flt .f32) (.t 39)⟩,⟨some 41,none,.iaddrS 5 (.t 37) (.t 38)⟩,⟨some 42,none,.faddr 1 (.t 41)⟩,⟨some 43,none,.faddr 2 (.t 42)⟩,⟨none,none,(.store 1 (.t 43) (.t 40))⟩] [0,1,5]) (.seq (.reg [⟨some 44,none,.mov (.t 1)⟩,⟨some 45,none,.bin .add false (.t 44) (.c (.int .i64 1))⟩,⟨some 1,none,.mov (.t 45)⟩] [0,1,5]) (.seq (.reg [⟨some 46,none,.mov (.t 0)⟩,⟨some 47,none,.mov (.t 5)⟩,⟨some 48,none,.mov (.t 1)⟩,⟨some 49,none,.conv (.flt .f32) (.t 48)⟩,⟨some 50,none,.iaddrS 5 (.t 46) (.t 47)⟩,⟨some 51,none,.faddr 1 (.t 50)⟩,⟨some 52,none,.faddr 3 (.t 51)⟩,⟨none,none,(.store 1 (.t 52) (.t 49))⟩]
   [0,1,5]) (.reg [⟨some 53,none,.mov (.t 1)⟩,⟨some 54,none,.bin .add false (.t 53) (.c (.int .i64 1))⟩,⟨some 1,none,.mov (.t 54)⟩] [0,1,5]))))))))))) (.reg [⟨some 10,none,.mov (.t 5)⟩,⟨some 11,none,.bin .add false (.t 10) (.c (.int .i64 1))⟩,⟨some 5,none,.mov (.t 11)⟩] [0,1,5])))
def ic61 : ICode := (.seq (.reg [⟨some 4,none,.mov (.c (.int .i64 0))⟩] [0,1]) (.seq (.seq (.reg [⟨some 5,none,.mov (.c (.int .i64 0))⟩] [0,1,5]) (.block 0 (.loop lb61_0))) (.seq (.reg [⟨some 55,none,.mov (.t 1)⟩,⟨some 4,none,.mov (.t 55)⟩] [0,4]) .ret)))
def cp61 : CP := CP.mk [] [] [[0,1],[0,1,5],[0,1,5,9],[0,1,5],[0,1,5],[0,1,5],[0,1,5],[0,1,5],[0,1,5],[0,1,5],[0,1,5],[0,1,5],[0,1,5],[0,1,5],[0,4]] 56 [] []
theorem sl61_0 : ∀ (n : Nat) (z0_0 : (List (Int × Nat × Nat × Nat × Nat))) (z0_1 : Int) (z0_2 : Int) (o : (Int × (List (Int × Nat × Nat × Nat × Nat)))) (K : IExit → St → Prop),l_laws_markKeyS_0 n z0_0 z0_1 z0_2 = some o → (∀ st,Wk st (⟨[(0,(.lsl 1000000 0 (List.length o.2))),(1,(.int .i64 o.1))],[(1000000,(some ⟨5,true,(List.map en0 o.2)⟩))]⟩ : St) → K (.exit 0) st) → eA (tabOf []) (.loop lb61_0) (⟨[(0,(.lsl 1000000 0 (List.length z0_0))),(1,(.int .i64 z0_1)),(5,(.int .i64 z0_2))],[(1000000,(some ⟨5,true,(List.map en0 z0_0)⟩))]⟩ : St) K := by
 intro n
 induction n with
 | zero =>
  intro z0_0 z0_1 z0_2 o K h h0
  simp only [l_laws_markKeyS_0,reduceCtorEq] at h
 | succ n ih =>
  intro z0_0 z0_1 z0_2 o K h h0
  refine eA_loop ?_
  unfold lb61_0
  unfold l_laws_markKeyS_0 at h
  (try simp only [need_iff] at h)
  simp only [
   need_iff,h,grpX,purgeH,Option.map,reduceIte,Nat.reduceEqDiff,Nat.reduceAdd,Nat.reduceMul,Nat.reduceLT,Nat.reduceLeDiff,implies_true,forall_const,eq_self,Int.reduceEq,Int.reduceLE,Int.reduceLT,if_true,if_false,grpK,Int.reduceAdd,Int.reduceSub,Int.reduceMul,Int.reduceNeg,Int.reducePow,Nat.reducePow,Int.reduceToNat,Nat.reduceSub,List.replicate,Nat.reduceBEq,grpE,beq_true,beq_false,grpC,grpY]
  repeat' (first
   | ((first | (refine eGI_of (fun hc => ?_) (fun hc => ?_)) | (refine eCc_of (fun hc => ?_) (fun hc => ?_)) | (have hc := True.intro; refine KW_refl ?_)) <;> (try simp only [Bool.not_eq_true',Bool.not_eq_false'] at hc) <;> (try simp only [hc,need_iff,reduceCtorEq,grpN,Int.reduceEq,Int.reduceLT,Int.reduceLE,if_true,if_false,reduceIte] at h) <;> (first | (have hc2 := hc; simp only [decide_eq_true_eq,decide_eq_false_iff_not] at hc2; (first | (replace hc2 := eq_false hc2) | (replace hc2 := eq_true hc2)); (try simp only [hc2,need_iff,reduceCtorEq,grpN,Int.reduceEq,Int.reduceLT,Int.reduceLE,if_true,if_false,reduceIte] at h); replace h := And.intro hc2 h) | (replace h := And.intro hc h) | skip) <;> simp only [hc,
   need_iff,h,grpX,purgeH,Option.map,reduceIte,Nat.reduceEqDiff,Nat.reduceAdd,Nat.reduceMul,Nat.reduceLT,Nat.reduceLeDiff,implies_true,forall_const,eq_self,Int.reduceEq,Int.reduceLE,Int.reduceLT,if_true,if_false,grpK,Int.reduceAdd,Int.reduceSub,Int.reduceMul,Int.reduceNeg,Int.reducePow,Nat.reducePow,Int.reduceToNat,Nat.reduceSub,List.replicate,Nat.reduceBEq,grpE,beq_true,beq_false,grpC,grpY]))
  all_goals (have hf := h)
  all_goals (repeat (replace h := And.right h))
  all_goals ((first | (refine eA_wk (wk_norm (ks := [0,1,5]) (ls := [1000000]) ?_) (eA_cast ?_ (ih _ _ _ _ _ h h0))) | (cases h; have h := True.intro; refine h0 _ (Wk.cast (wk_norm (ks := [0,1]) (ls := [1000000]) ?_) ?_))) <;> simp only [normOk,optIn,blkIn,nameIn,normS,List.map_append,List.length_append,List.map_set,List.length_set,List.map_replicate,List.length_replicate,List.map_nil,List.map_cons,
   need_iff,h,hf,grpX,purgeH,Option.map,reduceIte,Nat.reduceEqDiff,Nat.reduceAdd,Nat.reduceMul,Nat.reduceLT,Nat.reduceLeDiff,implies_true,forall_const,eq_self,Int.reduceEq,Int.reduceLE,Int.reduceLT,if_true,if_false,grpK,Int.reduceAdd,Int.reduceSub,Int.reduceMul,Int.reduceNeg,Int.reducePow,Nat.reducePow,Int.reduceToNat,Nat.reduceSub,List.replicate,Nat.reduceBEq,grpE,beq_true,beq_false,grpC,grpY] <;> first | rfl | (simp only [Nat.add_comm]; done))
theorem s61 : ∀ vs r m,g_laws_markKeyS vs = some (r,m) → SaysX Try.prog m 61 vs r := by
 intro vs r m h
 unfold g_laws_markKeyS at h
 split at h
 ·rename_i w0 y1
  cases hd_y0 : decL dc_en0 w0 with
  | none => rw [hd_y0] at h; cases h
  | some y0 =>
  rw [hd_y0] at h
  obtain rfl := decL_inv dc_en0_inv hd_y0
  clear hd_y0
  dsimp only at h
  split at h
  ·rename_i hp
   cases h
   have hz : zipW [(1000000,⟨5,true,List.map en0 y0⟩)] [List.map en0 (m_laws_markKeyS y0 y1).2] = some [(1000000,⟨5,true,List.map en0 (m_laws_markKeyS y0 y1).2⟩)] := by simp only [zipW,List.map_cons,List.map_nil,List.length_map,m_laws_markKeyS,p_laws_markKeyS,Bool.and_eq_true,decide_eq_true_eq] at hp ⊢; simp only [hp,if_true]
   refine spec_ofW (tab := tabOf []) (cp := cp61) (ic := ic61) (rvl := [(.t 4)]) (H := [(1000000,⟨5,true,List.map en0 y0⟩)]) (H' := [(1000000,⟨5,true,List.map en0 (m_laws_markKeyS y0 y1).2⟩)]) hm tabOk_nil Try.func61 rfl rfl rfl (by kernel_rfl) rfl (Nat.le_of_ble_eq_true rfl) (Nat.le_of_ble_eq_true rfl) (by rfl) hz (by repeat (first | exact highN_nil | refine highN_cons rfl rfl ?_)) (by rfl) (by rfl) ?_
   show eA _ _ _ _
   unfold ic61
   simp only [p_laws_markKeyS,Bool.and_eq_true,Bool.or_eq_true,decide_eq_true_eq,Bool.not_eq_true',decide_eq_false_iff_not] at hp
   refine eS_to ?_
   repeat' (first
    | ((first | (have h := True.intro; refine eS_of ?_) | (refine eGI_of (fun h => ?_) (fun h => ?_)) | (refine eCc_of (fun h => ?_) (fun h => ?_)) | (have h := True.intro; refine KW_refl ?_)) <;> (try simp only [Bool.not_eq_true',Bool.not_eq_false'] at h) <;> (try first | exact nbA h (by assumption) | exact nbB h (by assumption)) <;> (try simp only [h,reduceCtorEq,grpN,Int.reduceEq,Int.reduceLT,Int.reduceLE,if_true,if_false,reduceIte] at hp) <;> (first | (have h2 := h; simp only [decide_eq_true_eq,decide_eq_false_iff_not] at h2; (first | (replace h2 := eq_false h2) | (replace h2 := eq_true h2)); (try simp only [h2,reduceCtorEq,grpN,Int.reduceEq,Int.reduceLT,Int.reduceLE,if_true,if_false,reduceIte] at hp); replace hp := And.intro h2 hp) | (replace hp := And.intro h hp) | skip) <;> simp only [h,
     hp,grpX,purgeH,Option.map,reduceIte,Nat.reduceEqDiff,Nat.reduceAdd,Nat.reduceMul,Nat.reduceLT,Nat.reduceLeDiff,implies_true,forall_const,eq_self,Int.reduceEq,Int.reduceLE,Int.reduceLT,if_true,if_false,grpK,Int.reduceAdd,Int.reduceSub,Int.reduceMul,Int.reduceNeg,Int.reducePow,Nat.reducePow,Int.reduceToNat,Nat.reduceSub,List.replicate,Nat.reduceBEq,grpE,beq_true,beq_false,grpC,grpY,startW,hpIs])
    | (refine eA_wk (wk_norm (ks := [0,1,5]) (ls := [1000000]) ?_) (eA_cast ?_ (sl61_0 _ _ _ _ _ _ (getD_some (d := default) (x := (l_laws_markKeyS_0 (Int.toNat ((((List.length y0) : Nat) : Int) - 0) + 2) y0 y1 0)) ?_) ?_)); (iterate 2 (simp only [nilS,nilV,nilB,normOk,optIn,blkIn,nameIn,normS,List.map_append,List.length_append,List.map_set,List.length_set,List.map_replicate,List.length_replicate,List.map_nil,List.map_cons,
     hp,grpX,purgeH,Option.map,reduceIte,Nat.reduceEqDiff,Nat.reduceAdd,Nat.reduceMul,Nat.reduceLT,Nat.reduceLeDiff,implies_true,forall_const,eq_self,Int.reduceEq,Int.reduceLE,Int.reduceLT,if_true,if_false,grpK,Int.reduceAdd,Int.reduceSub,Int.reduceMul,Int.reduceNeg,Int.reducePow,Nat.reducePow,Int.reduceToNat,Nat.reduceSub,List.replicate,Nat.reduceBEq,grpE,beq_true,beq_false,grpC,grpY,startW,hpIs] <;> first | rfl | (simp only [Nat.add_comm]; done))); (simp only [hp]); (
    intro st2 hw; (try simp only [reduceCtorEq,grpN,Int.reduceEq,Int.reduceLT,Int.reduceLE,if_true,if_false,reduceIte] at hp); (try replace hp := And.intro ht hp); simp only [
Kq_exit,Kq_normal,Kq_ret,Kb_exit,Kb_normal,Kb_ret,Kl_exit,Kl_normal,Kl_ret,reduceIte,Nat.reduceEqDiff,if_true,if_false,eq_self]; refine KW_of hw ?_; simp only [
     hp,grpX,purgeH,Option.map,reduceIte,Nat.reduceEqDiff,Nat.reduceAdd,Nat.reduceMul,Nat.reduceLT,Nat.reduceLeDiff,implies_true,forall_const,eq_self,Int.reduceEq,Int.reduceLE,Int.reduceLT,if_true,if_false,grpK,Int.reduceAdd,Int.reduceSub,Int.reduceMul,Int.reduceNeg,Int.reducePow,Nat.reducePow,Int.reduceToNat,Nat.reduceSub,List.replicate,Nat.reduceBEq,grpE,beq_true,beq_false,grpC,grpY,startW,hpIs])))
   all_goals (try simp only [*,m_laws_markKeyS,grpZ,if_true,if_false,reduceIte,decide_true,decide_false])
   all_goals (try (simp_all; done))
  ·cases h
 ·cases h
def l_laws_markRootKeyS_0 : Nat → (List (Int × Nat × Nat × Nat)) → Int → Int → Option (Int × (List (Int × Nat × Nat × Nat)))
 | 0,_,_,_ => none
 | n + 1,z0_0,z0_1,z0_2 => (if (decide (z0_2 < (((List.length z0_0) : Nat) : Int))) = true then (need (inB z0_2 (List.length z0_0)) (l_laws_markRootKeyS_0 n (List.set z0_0 (Int.toNat z0_2) (z0_1,(ofInt .f32 (IntKind.wrap .i64 (z0_1 + 1))),(ofInt .f32 (IntKind.wrap .i64 ((IntKind.wrap .i64 (z0_1 + 1)) + 1))),(ofInt .f32 (IntKind.wrap .i64 ((IntKind.wrap .i64 ((IntKind.wrap .i64 (z0_1 + 1)) + 1)) + 1))))) (IntKind.wrap .i64 ((IntKind.wrap .i64 ((IntKind.wrap .i64 ((IntKind.wrap .i64 (z0_1 + 1)) + 1)) + 1)) + 1)) (IntKind.wrap .i64 (z0_2 + 1)))) else (some (z0_1,z0_0)))
def m_laws_markRootKeyS (x0 : (List (Int × Nat × Nat × Nat))) (x1 : Int) : (Int × (List (Int × Nat × Nat × Nat))) := (Option.getD (l_laws_markRootKeyS_0 (Int.toNat ((((List.length x0) : Nat) : Int) - 0) + 2) x0 x1 0) default)
def p_laws_markRootKeyS (x0 : (List (Int × Nat × Nat × Nat))) (x1 : Int) : Bool := ((Option.isSome (l_laws_markRootKeyS_0 (Int.toNat ((((List.length x0) : Nat) : Int) - 0) + 2) x0 x1 0)) && (decide (List.length (Option.getD (l_laws_markRootKeyS_0 (Int.toNat ((((List.length x0) : Nat) : Int) - 0) + 2) x0 x1 0) default).2 = List.length x0)))
def g_laws_markRootKeyS : List AV → Option (AV × Md)
 | [.sl w0,.int .i64 y1] => (match decL dc_en2 w0 with | some y0 => (if p_laws_markRootKeyS y0 y1 = true then some ((.int .i64 (m_laws_markRootKeyS y0 y1).1),.wr [4] [List.map en2 (m_laws_markRootKeyS y0 y1).2]) else none) | none => none)
 | _ => none
def lb39_0 : ICode := (.seq (.seq (.reg [⟨some 6,none,.mov (.t 5)⟩,⟨some 7,none,.mov (.t 0)⟩,⟨some 8,none,.len false (.t 7)⟩,⟨some 9,none,.bin .lss false (.t 6) (.t 8)⟩] [0,1,5,9]) (.cond (.t 9) .skip (.exit 0))) (.seq (.block 1 (.seq (.reg [⟨some 12,none,.mov (.t 0)⟩,⟨some 13,none,.mov (.t 5)⟩,⟨some 14,none,.mov (.t 1)⟩,⟨some 15,none,.iaddrS 4 (.t 12) (.t 13)⟩,⟨some 16,none,.faddr 0 (.t 15)⟩,⟨none,none,(.store 1 (.t 16) (.t 14))⟩] [0,1,5]) (.seq (.reg [⟨some 17,none,.mov (.t 1)⟩,⟨some 18,none,.bin .add false (.t 17) (.c (.int .i64 1))⟩,⟨some 1,none,.mov (.t 18)⟩] [0,1,5]) (.seq (.reg [⟨some 19,none,.mov (.t 0)⟩,⟨some 20,none,.mov (.t 5)⟩,⟨some 21,none,.mov (.t 1)⟩,⟨some 22,none,.conv (.flt .f32) (.t 21)⟩,⟨some 23,none,.iaddrS 4 (.t 19) (.t 20)⟩,⟨some 24,none,.faddr 1 (.t 23)⟩,⟨some 25,none,.faddr 0 (.t 24)⟩,⟨none,none,(.store 1 (.t 25) (.t 22))⟩] [0,1,5]) (.seq (.reg [⟨some 26,none,.mov (.t 1)⟩,⟨some 27,none,.bin .add false (.t 26) (.c (.int .i64 1))⟩,⟨some 1,none,.mov (.t 27)⟩] [0,1,5]) (.seq (.reg [⟨some 28,none,.mov (.t 0)⟩,⟨some 29,none,.mov (.t 5)⟩,⟨some 30,none,.mov (.t 1)⟩,⟨some 31,none,.conv (.flt .f32) (.t 30)⟩,⟨some 32,none,.iaddrS 4 (.t 28) (.t 29)⟩,⟨some 33,none,.faddr 1 (.t 32)⟩,⟨some 34,none,.faddr 1 (.t 33)⟩,⟨none,none,(.store 1 (.t 34) (.t 31))⟩] [0,1,5]) (.seq (.reg [⟨some 35,none,.mov (.t 1)⟩,⟨some 36,none,.bin .add false (.t 35) (.c (.int .i64 1))⟩,⟨some 1,none,.mov (.t 36)⟩] [0,1,5]) (.seq (.reg [⟨some 37,none,.mov (.t 0)⟩,⟨some 38,none,.mov (.t 5)⟩,⟨some 39,none,.mov (.t 1)⟩,⟨some 40,none,.conv (.flt .f32) (.t 39)⟩,⟨some 41,none,.iaddrS 4 (.t 37) (.t 38)⟩,⟨some 42,none,.faddr 1 (.t 41)⟩,⟨some 43,none,.faddr 2 (.t 42)⟩,⟨none,none,(.store 1 (.t 43) (.t 40))⟩] [0,1,5]) (.reg [⟨some 44,none,.mov (.t 1)⟩,⟨some 45,none,.bin .add false (.t 44) (.c (.int .i64 1))⟩,⟨some 1,none,.mov (.t 45)⟩] [0,1,5]))))))))) (.reg [⟨some 10,none,.mov (.t 5)⟩,⟨some 11,none,.bin .add false (.t 10) (.c (.int .i64 1))⟩,⟨some 5,none,.mov (.t 11)⟩] [0,1,5])))
def ic39 : ICode := (.seq (.reg [⟨some 4,none,.mov (.c (.int .i64 0))⟩] [0,1]) (.seq (.seq (.reg [⟨some 5,none,.mov (.c (.int .i64 0))⟩] [0,1,5]) (.block 0 (.loop lb39_0))) (.seq (.reg [⟨some 46,none,.mov (.t 1)⟩,⟨some 4,none,.mov (.t 46)⟩] [0,4]) .ret)))
def cp39 : CP := CP.mk [] [] [[0,1],[0,1,5],[0,1,5,9],[0,1,5],[0,1,5],[0,1,5],[0,1,5],[0,1,5],[0,1,5],[0,1,5],[0,1,5],[0,1,5],[0,4]] 47 [] []
theorem sl39_0 : ∀ (n : Nat) (z0_0 : (List (Int × Nat × Nat × Nat))) (z0_1 : Int) (z0_2 : Int) (o : (Int × (List (Int × Nat × Nat × Nat)))) (K : IExit → St → Prop),l_laws_markRootKeyS_0 n z0_0 z0_1 z0_2 = some o → (∀ st,Wk st (⟨[(0,(.lsl 1000000 0 (List.length o.2))),(1,(.int .i64 o.1))],[(1000000,(some ⟨4,true,(List.map en2 o.2)⟩))]⟩ : St) → K (.exit 0) st) → eA (tabOf []) (.loop lb39_0) (⟨[(0,(.lsl 1000000 0 (List.length z0_0))),(1,(.int .i64 z0_1)),(5,(.int .i64 z0_2))],[(1000000,(some ⟨4,true,(List.map en2 z0_0)⟩))]⟩ : St) K := by
 intro n
 induction n with
 | zero =>
  intro z0_0 z0_1 z0_2 o K h h0
  simp only [l_laws_markRootKeyS_0,reduceCtorEq] at h
 | succ n ih =>
  intro z0_0 z0_1 z0_2 o K h h0
  refine eA_loop ?_
  unfold lb39_0
  unfold l_laws_markRootKeyS_0 at h
  (try simp only [need_iff] at h)
  simp only [
   need_iff,h,grpX,purgeH,Option.map,reduceIte,Nat.reduceEqDiff,Nat.reduceAdd,Nat.reduceMul,Nat.reduceLT,Nat.reduceLeDiff,implies_true,forall_const,eq_self,Int.reduceEq,Int.reduceLE,Int.reduceLT,if_true,if_false,grpK,Int.reduceAdd,Int.reduceSub,Int.reduceMul,Int.reduceNeg,Int.reducePow,Nat.reducePow,Int.reduceToNat,Nat.reduceSub,List.replicate,Nat.reduceBEq,grpE,beq_true,beq_false,grpC,grpY]
  repeat' (first
   | ((first | (refine eGI_of (fun hc => ?_) (fun hc => ?_)) | (refine eCc_of (fun hc => ?_) (fun hc => ?_)) | (have hc := True.intro; refine KW_refl ?_)) <;> (try simp only [Bool.not_eq_true',Bool.not_eq_false'] at hc) <;> (try simp only [hc,need_iff,reduceCtorEq,grpN,Int.reduceEq,Int.reduceLT,Int.reduceLE,if_true,if_false,reduceIte] at h) <;> (first | (have hc2 := hc; simp only [decide_eq_true_eq,decide_eq_false_iff_not] at hc2; (first | (replace hc2 := eq_false hc2) | (replace hc2 := eq_true hc2)); (try simp only [hc2,need_iff,reduceCtorEq,grpN,Int.reduceEq,Int.reduceLT,Int.reduceLE,if_true,if_false,reduceIte] at h); replace h := And.intro hc2 h) | (replace h := And.intro hc h) | skip) <;> simp only [hc,
   need_iff,h,grpX,purgeH,Option.map,reduceIte,Nat.reduceEqDiff,Nat.reduceAdd,Nat.reduceMul,Nat.reduceLT,Nat.reduceLeDiff,implies_true,forall_const,eq_self,Int.reduceEq,Int.reduceLE,Int.reduceLT,if_true,if_false,grpK,Int.reduceAdd,Int.reduceSub,Int.reduceMul,Int.reduceNeg,Int.reducePow,Nat.reducePow,Int.reduceToNat,Nat.reduceSub,List.replicate,Nat.reduceBEq,grpE,beq_true,beq_false,grpC,grpY]))
  all_goals (have hf := h)
  all_goals (repeat (replace h := And.right h))
  all_goals ((first | (refine eA_wk (wk_norm (ks := [0,1,5]) (ls := [1000000]) ?_) (eA_cast ?_ (ih _ _ _ _ _ h h0))) | (cases h; have h := True.intro; refine h0 _ (Wk.cast (wk_norm (ks := [0,1]) (ls := [1000000]) ?_) ?_))) <;> simp only [normOk,optIn,blkIn,nameIn,normS,List.map_append,List.length_append,List.map_set,List.length_set,List.map_replicate,List.length_replicate,List.map_nil,List.map_cons,
   need_iff,h,hf,grpX,purgeH,Option.map,reduceIte,Nat.reduceEqDiff,Nat.reduceAdd,Nat.reduceMul,Nat.reduceLT,Nat.reduceLeDiff,implies_true,forall_const,eq_self,Int.reduceEq,Int.reduceLE,Int.reduceLT,if_true,if_false,grpK,Int.reduceAdd,Int.reduceSub,Int.reduceMul,Int.reduceNeg,Int.reducePow,Nat.reducePow,Int.reduceToNat,Nat.reduceSub,List.replicate,Nat.reduceBEq,grpE,beq_true,beq_false,grpC,grpY] <;> first | rfl | (simp only [Nat.add_comm]; done))
theorem s39 : ∀ vs r m,g_laws_markRootKeyS vs = some (r,m) → SaysX Try.prog m 39 vs r := by
 intro vs r m h
 unfold g_laws_markRootKeyS at h
 split at h
 ·rename_i w0 y1
  cases hd_y0 : decL dc_en2 w0 with
  | none => rw [hd_y0] at h; cases h
  | some y0 =>
  rw [hd_y0] at h
  obtain rfl := decL_inv dc_en2_inv hd_y0
  clear hd_y0
  dsimp only at h
  split at h
  ·rename_i hp
   cases h
   have hz : zipW [(1000000,⟨4,true,List.map en2 y0⟩)] [List.map en2 (m_laws_markRootKeyS y0 y1).2] = some [(1000000,⟨4,true,List.map en2 (m_laws_markRootKeyS y0 y1).2⟩)] := by simp only [zipW,List.map_cons,List.map_nil,List.length_map,m_laws_markRootKeyS,p_laws_markRootKeyS,Bool.and_eq_true,decide_eq_true_eq] at hp ⊢; simp only [hp,if_true]
   refine spec_ofW (tab := tabOf []) (cp := cp39) (ic := ic39) (rvl := [(.t 4)]) (H := [(1000000,⟨4,true,List.map en2 y0⟩)]) (H' := [(1000000,⟨4,true,List.map en2 (m_laws_markRootKeyS y0 y1).2⟩)]) hm tabOk_nil Try.func39 rfl rfl rfl (by kernel_rfl) rfl (Nat.le_of_ble_eq_true rfl) (Nat.le_of_ble_eq_true rfl) (by rfl) hz (by repeat (first | exact highN_nil | refine highN_cons rfl rfl ?_)) (by rfl) (by rfl) ?_
   show eA _ _ _ _
   unfold ic39
   simp only [p_laws_markRootKeyS,Bool.and_eq_true,Bool.or_eq_true,decide_eq_true_eq,Bool.not_eq_true',decide_eq_false_iff_not] at hp
   refine eS_to ?_
   repeat' (first
    | ((first | (have h := True.intro; refine eS_of ?_) | (refine eGI_of (fun h => ?_) (fun h => ?_)) | (refine eCc_of (fun h => ?_) (fun h => ?_)) | (have h := True.intro; refine KW_refl ?_)) <;> (try simp only [Bool.not_eq_true',Bool.not_eq_false'] at h) <;> (try first | exact nbA h (by assumption) | exact nbB h (by assumption)) <;> (try simp only [h,reduceCtorEq,grpN,Int.reduceEq,Int.reduceLT,Int.reduceLE,if_true,if_false,reduceIte] at hp) <;> (first | (have h2 := h; simp only [decide_eq_true_eq,decide_eq_false_iff_not] at h2; (first | (replace h2 := eq_false h2) | (replace h2 := eq_true h2)); (try simp only [h2,reduceCtorEq,grpN,Int.reduceEq,Int.reduceLT,Int.reduceLE,if_true,if_false,reduceIte] at hp); replace hp := And.intro h2 hp) | (replace hp := And.intro h hp) | skip) <;> simp only [h,
     hp,grpX,purgeH,Option.map,reduceIte,Nat.reduceEqDiff,Nat.reduceAdd,Nat.reduceMul,Nat.reduceLT,Nat.reduceLeDiff,implies_true,forall_const,eq_self,Int.reduceEq,Int.reduceLE,Int.reduceLT,if_true,if_false,grpK,Int.reduceAdd,Int.reduceSub,Int.reduceMul,Int.reduceNeg,Int.reducePow,Nat.reducePow,Int.reduceToNat,Nat.reduceSub,List.replicate,Nat.reduceBEq,grpE,beq_true,beq_false,grpC,grpY,startW,hpIs])
    | (refine eA_wk (wk_norm (ks := [0,1,5]) (ls := [1000000]) ?_) (eA_cast ?_ (sl39_0 _ _ _ _ _ _ (getD_some (d := default) (x := (l_laws_markRootKeyS_0 (Int.toNat ((((List.length y0) : Nat) : Int) - 0) + 2) y0 y1 0)) ?_) ?_)); (iterate 2 (simp only [nilS,nilV,nilB,normOk,optIn,blkIn,nameIn,normS,List.map_append,List.length_append,List.map_set,List.length_set,List.map_replicate,List.length_replicate,List.map_nil,List.map_cons,
     hp,grpX,purgeH,Option.map,reduceIte,Nat.reduceEqDiff,Nat.reduceAdd,Nat.reduceMul,Nat.reduceLT,Nat.reduceLeDiff,implies_true,forall_const,eq_self,Int.reduceEq,Int.reduceLE,Int.reduceLT,if_true,if_false,grpK,Int.reduceAdd,Int.reduceSub,Int.reduceMul,Int.reduceNeg,Int.reducePow,Nat.reducePow,Int.reduceToNat,Nat.reduceSub,List.replicate,Nat.reduceBEq,grpE,beq_true,beq_false,grpC,grpY,startW,hpIs] <;> first | rfl | (simp only [Nat.add_comm]; done))); (simp only [hp]); (
    intro st2 hw; (try simp only [reduceCtorEq,grpN,Int.reduceEq,Int.reduceLT,Int.reduceLE,if_true,if_false,reduceIte] at hp); (try replace hp := And.intro ht hp); simp only [
Kq_exit,Kq_normal,Kq_ret,Kb_exit,Kb_normal,Kb_ret,Kl_exit,Kl_normal,Kl_ret,reduceIte,Nat.reduceEqDiff,if_true,if_false,eq_self]; refine KW_of hw ?_; simp only [
     hp,grpX,purgeH,Option.map,reduceIte,Nat.reduceEqDiff,Nat.reduceAdd,Nat.reduceMul,Nat.reduceLT,Nat.reduceLeDiff,implies_true,forall_const,eq_self,Int.reduceEq,Int.reduceLE,Int.reduceLT,if_true,if_false,grpK,Int.reduceAdd,Int.reduceSub,Int.reduceMul,Int.reduceNeg,Int.reducePow,Nat.reducePow,Int.reduceToNat,Nat.reduceSub,List.replicate,Nat.reduceBEq,grpE,beq_true,beq_false,grpC,grpY,startW,hpIs])))
   all_goals (try simp only [*,m_laws_markRootKeyS,grpZ,if_true,if_false,reduceIte,decide_true,decide_false])
   all_goals (try (simp_all; done))
  ·cases h
 ·cases h
def m_laws_markKeySS (x0 : (List (List (Int × Nat × Nat × Nat × Nat)))) (x1 : Int) : (Int × (List (List (Int × Nat × Nat × Nat × Nat)))) := mkSS m_laws_markKeyS x0 x1
def p_laws_markKeySS (x0 : (List (List (Int × Nat × Nat × Nat × Nat)))) (x1 : Int) : Bool := ((decide (List.length x0 ≤ 70368744177664)) && (pSS m_laws_markKeyS (fun x k => (p_laws_markKeyS x k && (decide (List.length (m_laws_markKeyS x k).2 = List.length x)))) x0 x1))
noncomputable def g_laws_markKeySS : List AV → Option (AV × Md) := gH (fun q : ((List (List (Int × Nat × Nat × Nat × Nat))) × Int) => [.lsl 1000003 0 (List.length q.1),.int .i64 q.2,hEnc (clB 1000003 1000019 5 (List.map (List.map en0) q.1))]) (fun q => p_laws_markKeySS q.1 q.2) (fun q => (.int .i64 (m_laws_markKeySS q.1 q.2).1,.wrH (clB 1000003 1000019 5 (List.map (List.map en0) (m_laws_markKeySS q.1 q.2).2))))
theorem ge_laws_markKeySS {x0 : (List (List (Int × Nat × Nat × Nat × Nat)))} {x1 : Int} (hp : p_laws_markKeySS x0 x1 = true) : g_laws_markKeySS [.lsl 1000003 0 (List.length x0),.int .i64 x1,hEnc (clB 1000003 1000019 5 (List.map (List.map en0) x0))] = some (.int .i64 (m_laws_markKeySS x0 x1).1,.wrH (clB 1000003 1000019 5 (List.map (List.map en0) (m_laws_markKeySS x0 x1).2))) := by
 unfold g_laws_markKeySS
 refine gH_eq (q := (x0,x1)) (fun q q' h => ?_) hp
 simp only [List.cons.injEq,AV.int.injEq,AV.lsl.injEq,and_true,true_and] at h
 exact Prod.ext (enc2_inj dc_en0_map (hEnc_clB_inj h.2.2)) h.2.1
def cp38 : CP := CP.mk [] [61] [[0,1],[0,1,5],[0,1,5,9],[0,1,5],[0,1,5],[4]] 19 [] []
theorem s38 : ∀ vs r m,g_laws_markKeySS vs = some (r,m) → SaysX Try.prog m 38 vs r := by
 intro vs r m h
 obtain ⟨⟨x0,x1⟩,rfl,hp,hz⟩ := gH_some h
 cases hz
 simp only [p_laws_markKeySS,Bool.and_eq_true,decide_eq_true_eq] at hp
 obtain ⟨hn,hp⟩ := hp
 have key := markSS (tab := tabOf [(61,g_laws_markKeyS)]) (f := 61) (es := 5) (xss := List.map (List.map en0) x0) (yss := List.map (List.map en0) (m_laws_markKeySS x0 x1).2) (ks := ksSS m_laws_markKeyS x0 x1) (by simp [m_laws_markKeySS,mkSS_len]) (by simp only [List.length_map]; omega) (all_fl dc_en0_fl _) (fun i x y hx hy => by
  simp only [List.getElem?_map,Option.map_eq_some_iff] at hx hy
  obtain ⟨a,ha,rfl⟩ := hx
  obtain ⟨b,hb,rfl⟩ := hy
  obtain ⟨h1,h2,h3⟩ := mkSS_get m_laws_markKeyS (fun x k => (p_laws_markKeyS x k && (decide (List.length (m_laws_markKeyS x k).2 = List.length x)))) x0 x1 i a ha
  have h3 := h3 hp
  simp only [Bool.and_eq_true,decide_eq_true_eq] at h3
  have hb' : some (m_laws_markKeyS a (ksSS m_laws_markKeyS x0 x1 i)).2 = some b := h1.symm.trans hb
  cases hb'
  refine ⟨by simp only [List.length_map]; exact h3.2,?_⟩
  rw [h2]
  simp only [tabOf_cons,if_pos,g_laws_markKeyS,dc_en0_map,h3.1])
 rw [ksSS_zero,List.length_map,← mkSS_fst] at key
 have hlen : List.map List.length (List.map (List.map en0) x0) = List.map List.length (List.map (List.map en0) (m_laws_markKeySS x0 x1).2) := by
  refine List.ext_getElem? fun i => ?_
  simp only [List.getElem?_map]
  cases ha : x0[i]? with
  | none =>
   rw [List.getElem?_eq_none_iff] at ha
   rw [List.getElem?_eq_none (by simp only [m_laws_markKeySS,mkSS_len]; exact ha)]
  | some a =>
   obtain ⟨h1,h2,h3⟩ := mkSS_get m_laws_markKeyS (fun x k => (p_laws_markKeyS x k && (decide (List.length (m_laws_markKeyS x k).2 = List.length x)))) x0 x1 i a ha
   have h3 := h3 hp
   simp only [Bool.and_eq_true,decide_eq_true_eq] at h3
   have h1 : (m_laws_markKeySS x0 x1).2[i]? = some (m_laws_markKeyS a (ksSS m_laws_markKeyS x0 x1 i)).2 := h1
   rw [h1]
   simp only [Option.map,List.length_map]
   rw [h3.2]
 have hno : ∀ f vs r m,tabOf [(61,g_laws_markKeyS)] f vs = some (r,m) → m.isOwnH = false := by
  intro f vs r m h
  simp only [tabOf] at h
  (repeat' split at h) <;> (try simp only [g_laws_markKeyS] at h) <;> (repeat' split at h) <;> cases h <;> rfl
 exact spec_ofN (vs := [.lsl 1000003 0 (List.length x0),.int .i64 x1]) (cp := cp38) (ic := icMk 61) (rvl := [(.t 4)]) hm (tabOk_consW s61 tabOk_nil) hno Try.func38 rfl rfl rfl (by kernel_rfl) rfl (Nat.le_of_ble_eq_true rfl) (Nat.le_of_ble_eq_true rfl) cl_cls (nest_cl hlen (all_fl dc_en0_fl _)) (fun l b hb => cl_clos (all_fl dc_en0_fl _) hb) rfl key
def m_laws_markClip (x0 : (Int × Int × (List (List (Int × Nat × Nat × Nat × Nat))) × (List (Int × Nat × Nat × Nat)))) (x1 : Int) : (Int × (List (List (Int × Nat × Nat × Nat × Nat))) × (List (Int × Nat × Nat × Nat))) := ((m_laws_markRootKeyS x0.2.2.2 (m_laws_markKeySS x0.2.2.1 x1).1).1,(m_laws_markKeySS x0.2.2.1 x1).2,(m_laws_markRootKeyS x0.2.2.2 (m_laws_markKeySS x0.2.2.1 x1).1).2)
def p_laws_markClip (x0 : (Int × Int × (List (List (Int × Nat × Nat × Nat × Nat))) × (List (Int × Nat × Nat × Nat)))) (x1 : Int) : Bool := (p_laws_markKeySS x0.2.2.1 x1 && (p_laws_markRootKeyS x0.2.2.2 (m_laws_markKeySS x0.2.2.1 x1).1 && (decide (List.length (m_laws_markRootKeyS x0.2.2.2 (m_laws_markKeySS x0.2.2.1 x1).1).2 = List.length x0.2.2.2))))
noncomputable def g_laws_markClip : List AV → Option (AV × Md) := gH (fun q : ((Int × Int × (List (List (Int × Nat × Nat × Nat × Nat))) × (List (Int × Nat × Nat × Nat))) × Int) => [.agg [.int .i64 q.1.1,.int .i64 q.1.2.1,.lsl 1000003 0 (List.length q.1.2.2.1),.lsl 1000011 0 (List.length q.1.2.2.2)],.int .i64 q.2,hEnc (clL 5 4 (List.map (List.map en0) q.1.2.2.1) (List.map en2 q.1.2.2.2))]) (fun q => p_laws_markClip q.1 q.2) (fun q => (.int .i64 (m_laws_markClip q.1 q.2).1,.wrH (clL 5 4 (List.map (List.map en0) (m_laws_markClip q.1 q.2).2.1) (List.map en2 (m_laws_markClip q.1 q.2).2.2))))
theorem ge_laws_markClip {a b x1 : Int} {n n' : Nat} {t : (List (List (Int × Nat × Nat × Nat × Nat)))} {r : (List (Int × Nat × Nat × Nat))} (hp : p_laws_markClip (a,b,t,r) x1 = true) (hn : n = List.length t) (hn' : n' = List.length r) : g_laws_markClip [.agg [.int .i64 a,.int .i64 b,.lsl 1000003 0 n,.lsl 1000011 0 n'],.int .i64 x1,hEnc (clL 5 4 (List.map (List.map en0) t) (List.map en2 r))] = some (.int .i64 (m_laws_markClip (a,b,t,r) x1).1,.wrH (clL 5 4 (List.map (List.map en0) (m_laws_markClip (a,b,t,r) x1).2.1) (List.map en2 (m_laws_markClip (a,b,t,r) x1).2.2))) := by
 subst hn hn'
 unfold g_laws_markClip
 refine gH_eq (q := ((a,b,t,r),x1)) (fun q q' h => ?_) hp
 simp only [List.cons.injEq,AV.agg.injEq,AV.int.injEq,AV.lsl.injEq,and_true,true_and] at h
 obtain ⟨⟨h1,h2,_⟩,h3,h4⟩ := h
 obtain ⟨h5,h6⟩ := hEnc_clL_inj h4
 exact Prod.ext (Prod.ext h1 (Prod.ext h2 (Prod.ext (enc2_inj dc_en0_map h5) (enc_inj dc_en2_map h6)))) h3
def cp12 : CP := CP.mk [] [39,38] [[1,2],[1,2],[1],[4]] 14 [] []
theorem s12 : ∀ vs r m,g_laws_markClip vs = some (r,m) → SaysX Try.prog m 12 vs r := by
 intro vs r m h
 obtain ⟨⟨⟨a,b,t,rk⟩,x1⟩,rfl,hp,hz⟩ := gH_some h
 cases hz
 simp only [p_laws_markClip,Bool.and_eq_true,decide_eq_true_eq] at hp
 obtain ⟨hp1,hp2,hp3⟩ := hp
 have hp1' := hp1
 simp only [p_laws_markKeySS,Bool.and_eq_true,decide_eq_true_eq] at hp1'
 have key := mkC (tab := tabOf [(39,g_laws_markRootKeyS),(38,g_laws_markKeySS)]) (f := 38) (g := 39) (es := 5) (e2 := 4) (a := a) (b := b) (k := x1) (k1 := (m_laws_markKeySS t x1).1) (k2 := (m_laws_markRootKeyS rk (m_laws_markKeySS t x1).1).1) (xss := List.map (List.map en0) t) (yss := List.map (List.map en0) (m_laws_markKeySS t x1).2) (rs := List.map en2 rk) (ss := List.map en2 (m_laws_markRootKeyS rk (m_laws_markKeySS t x1).1).2) (all_fl dc_en0_fl _) (dc_en2_fl _) (by simp only [List.length_map]; exact hp3)
  (by simp [tabOf_cons,List.length_map,ge_laws_markKeySS hp1]) (by simp [tabOf_cons,g_laws_markRootKeyS,dc_en2_map,hp2])
 rw [List.length_map,List.length_map] at key
 have hlen : List.map List.length (List.map (List.map en0) t) = List.map List.length (List.map (List.map en0) (m_laws_markKeySS t x1).2) := by
  refine List.ext_getElem? fun i => ?_
  simp only [List.getElem?_map]
  cases ha : t[i]? with
  | none =>
   rw [List.getElem?_eq_none_iff] at ha
   rw [List.getElem?_eq_none (by simp only [m_laws_markKeySS,mkSS_len]; exact ha)]
  | some a =>
   obtain ⟨h1,h2,h3⟩ := mkSS_get m_laws_markKeyS (fun x k => (p_laws_markKeyS x k && (decide (List.length (m_laws_markKeyS x k).2 = List.length x)))) t x1 i a ha
   have h3 := h3 hp1'.2
   simp only [Bool.and_eq_true,decide_eq_true_eq] at h3
   have h1 : (m_laws_markKeySS t x1).2[i]? = some (m_laws_markKeyS a (ksSS m_laws_markKeyS t x1 i)).2 := h1
   rw [h1]
   simp only [Option.map,List.length_map]
   rw [h3.2]
 have hno : ∀ f vs r m,tabOf [(39,g_laws_markRootKeyS),(38,g_laws_markKeySS)] f vs = some (r,m) → m.isOwnH = false := by
  intro f vs r m h
  simp only [tabOf] at h
  split at h
  ·(try simp only [g_laws_markRootKeyS] at h) <;> (repeat' split at h) <;> cases h <;> rfl
  ·split at h
   ·obtain ⟨q,_,_,hz⟩ := gH_some h
    cases hz; rfl
   ·cases h
 exact spec_ofN (vs := [.agg [.int .i64 a,.int .i64 b,.lsl 1000003 0 (List.length t),.lsl 1000011 0 (List.length rk)],.int .i64 x1]) (cp := cp12) (ic := icMkC 38 39) (rvl := [(.t 4)]) hm (tabOk_consW s39 (tabOk_consW s38 tabOk_nil)) hno Try.func12 rfl rfl rfl (by kernel_rfl) rfl (Nat.le_of_ble_eq_true rfl) (Nat.le_of_ble_eq_true rfl) clL_cls (nest_clL hlen (by simp only [List.length_map]; exact hp3.symm) (all_fl dc_en0_fl _) (dc_en2_fl _)) (fun l b hb => clL_clos (all_fl dc_en0_fl _) (dc_en2_fl _) hb) rfl key
def l_laws_markTurnS_0 : Nat → (List (Nat × Nat × Nat × Nat)) → Int → Int → Option (Int × (List (Nat × Nat × Nat × Nat)))
 | 0,_,_,_ => none
 | n + 1,z0_0,z0_1,z0_2 => (if (decide (z0_2 < (((List.length z0_0) : Nat) : Int))) = true then (need (inB z0_2 (List.length z0_0)) (l_laws_markTurnS_0 n (List.set z0_0 (Int.toNat z0_2) ((ofInt .f32 z0_1),(ofInt .f32 (IntKind.wrap .i64 (z0_1 + 1))),(ofInt .f32 (IntKind.wrap .i64 ((IntKind.wrap .i64 (z0_1 + 1)) + 1))),(ofInt .f32 (IntKind.wrap .i64 ((IntKind.wrap .i64 ((IntKind.wrap .i64 (z0_1 + 1)) + 1)) + 1))))) (IntKind.wrap .i64 ((IntKind.wrap .i64 ((IntKind.wrap .i64 ((IntKind.wrap .i64 (z0_1 + 1)) + 1)) + 1)) + 1)) (IntKind.wrap .i64 (z0_2 + 1)))) else (some (z0_1,z0_0)))
def m_laws_markTurnS (x0 : (List (Nat × Nat × Nat × Nat))) (x1 : Int) : (Int × (List (Nat × Nat × Nat × Nat))) := (Option.getD (l_laws_markTurnS_0 (Int.toNat ((((List.length x0) : Nat) : Int) - 0) + 2) x0 x1 0) default)
def p_laws_markTurnS (x0 : (List (Nat × Nat × Nat × Nat))) (x1 : Int) : Bool := ((Option.isSome (l_laws_markTurnS_0 (Int.toNat ((((List.length x0) : Nat) : Int) - 0) + 2) x0 x1 0)) && (decide (List.length (Option.getD (l_laws_markTurnS_0 (Int.toNat ((((List.length x0) : Nat) : Int) - 0) + 2) x0 x1 0) default).2 = List.length x0)))
def g_laws_markTurnS : List AV → Option (AV × Md)
 | [.sl w0,.int .i64 y1] => (match decL dc_en3 w0 with | some y0 => (if p_laws_markTurnS y0 y1 = true then some ((.int .i64 (m_laws_markTurnS y0 y1).1),.wr [4] [List.map en3 (m_laws_markTurnS y0 y1).2]) else none) | none => none)
 | _ => none
def lb40_0 : ICode := (.seq (.seq (.reg [⟨some 6,none,.mov (.t 5)⟩,⟨some 7,none,.mov (.t 0)⟩,⟨some 8,none,.len false (.t 7)⟩,⟨some 9,none,.bin .lss false (.t 6) (.t 8)⟩] [0,1,5,9]) (.cond (.t 9) .skip (.exit 0))) (.seq (.block 1 (.seq (.reg [⟨some 12,none,.mov (.t 0)⟩,⟨some 13,none,.mov (.t 5)⟩,⟨some 14,none,.mov (.t 1)⟩,⟨some 15,none,.conv (.flt .f32) (.t 14)⟩,⟨some 16,none,.iaddrS 4 (.t 12) (.t 13)⟩,⟨some 17,none,.faddr 0 (.t 16)⟩,⟨none,none,(.store 1 (.t 17) (.t 15))⟩] [0,1,5]) (.seq (.reg [⟨some 18,none,.mov (.t 1)⟩,⟨some 19,none,.bin .add false (.t 18) (.c (.int .i64 1))⟩,⟨some 1,none,.mov (.t 19)⟩] [0,1,5]) (.seq (.reg [⟨some 20,none,.mov (.t 0)⟩,⟨some 21,none,.mov (.t 5)⟩,⟨some 22,none,.mov (.t 1)⟩,⟨some 23,none,.conv (.flt .f32) (.t 22)⟩,⟨some 24,none,.iaddrS 4 (.t 20) (.t 21)⟩,⟨some 25,none,.faddr 1 (.t 24)⟩,⟨none,none,(.store 1 (.t 25) (.t 23))⟩] [0,1,5]) (.seq (.reg [⟨some 26,none,.mov (.t 1)⟩,⟨some 27,none,.bin .add false (.t 26) (.c (.int .i64 1))⟩,⟨some 1,none,.mov (.t 27)⟩] [0,1,5]) (.seq (.reg [⟨some 28,none,.mov (.t 0)⟩,⟨some 29,none,.mov (.t 5)⟩,⟨some 30,none,.mov (.t 1)⟩,⟨some 31,none,.conv (.flt .f32) (.t 30)⟩,⟨some 32,none,.iaddrS 4 (.t 28) (.t 29)⟩,⟨some 33,none,.faddr 2 (.t 32)⟩,⟨none,none,(.store 1 (.t 33) (.t 31))⟩] [0,1,5]) (.seq (.reg [⟨some 34,none,.mov (.t 1)⟩,⟨some 35,none,.bin .add false (.t 34) (.c (.int .i64 1))⟩,⟨some 1,none,.mov (.t 35)⟩] [0,1,5]) (.seq (.reg [⟨some 36,none,.mov (.t 0)⟩,⟨some 37,none,.mov (.t 5)⟩,⟨some 38,none,.mov (.t 1)⟩,⟨some 39,none,.conv (.flt .f32) (.t 38)⟩,⟨some 40,none,.iaddrS 4 (.t 36) (.t 37)⟩,⟨some 41,none,.faddr 3 (.t 40)⟩,⟨none,none,(.store 1 (.t 41) (.t 39))⟩] [0,1,5]) (.reg [⟨some 42,none,.mov (.t 1)⟩,⟨some 43,none,.bin .add false (.t 42) (.c (.int .i64 1))⟩,⟨some 1,none,.mov (.t 43)⟩] [0,1,5]))))))))) (.reg [⟨some 10,none,.mov (.t 5)⟩,⟨some 11,none,.bin .add false (.t 10) (.c (.int .i64 1))⟩,⟨some 5,none,.mov (.t 11)⟩] [0,1,5])))
def ic40 : ICode := (.seq (.reg [⟨some 4,none,.mov (.c (.int .i64 0))⟩] [0,1]) (.seq (.seq (.reg [⟨some 5,none,.mov (.c (.int .i64 0))⟩] [0,1,5]) (.block 0 (.loop lb40_0))) (.seq (.reg [⟨some 44,none,.mov (.t 1)⟩,⟨some 4,none,.mov (.t 44)⟩] [0,4]) .ret)))
def cp40 : CP := CP.mk [] [] [[0,1],[0,1,5],[0,1,5,9],[0,1,5],[0,1,5],[0,1,5],[0,1,5],[0,1,5],[0,1,5],[0,1,5],[0,1,5],[0,1,5],[0,4]] 45 [] []
theorem sl40_0 : ∀ (n : Nat) (z0_0 : (List (Nat × Nat × Nat × Nat))) (z0_1 : Int) (z0_2 : Int) (o : (Int × (List (Nat × Nat × Nat × Nat)))) (K : IExit → St → Prop),l_laws_markTurnS_0 n z0_0 z0_1 z0_2 = some o → (∀ st,Wk st (⟨[(0,(.lsl 1000000 0 (List.length o.2))),(1,(.int .i64 o.1))],[(1000000,(some ⟨4,true,(List.map en3 o.2)⟩))]⟩ : St) → K (.exit 0) st) → eA (tabOf []) (.loop lb40_0) (⟨[(0,(.lsl 1000000 0 (List.length z0_0))),(1,(.int .i64 z0_1)),(5,(.int .i64 z0_2))],[(1000000,(some ⟨4,true,(List.map en3 z0_0)⟩))]⟩ : St) K := by
 intro n
 induction n with
 | zero =>
  intro z0_0 z0_1 z0_2 o K h h0
  simp only [l_laws_markTurnS_0,reduceCtorEq] at h
 | succ n ih =>
  intro z0_0 z0_1 z0_2 o K h h0
  refine eA_loop ?_
  unfold lb40_0
  unfold l_laws_markTurnS_0 at h
  (try simp only [need_iff] at h)
  simp only [
   need_iff,h,grpX,purgeH,Option.map,reduceIte,Nat.reduceEqDiff,Nat.reduceAdd,Nat.reduceMul,Nat.reduceLT,Nat.reduceLeDiff,implies_true,forall_const,eq_self,Int.reduceEq,Int.reduceLE,Int.reduceLT,if_true,if_false,grpK,Int.reduceAdd,Int.reduceSub,Int.reduceMul,Int.reduceNeg,Int.reducePow,Nat.reducePow,Int.reduceToNat,Nat.reduceSub,List.replicate,Nat.reduceBEq,grpE,beq_true,beq_false,grpC,grpY]
  repeat' (first
   | ((first | (refine eGI_of (fun hc => ?_) (fun hc => ?_)) | (refine eCc_of (fun hc => ?_) (fun hc => ?_)) | (have hc := True.intro; refine KW_refl ?_)) <;> (try simp only [Bool.not_eq_true',Bool.not_eq_false'] at hc) <;> (try simp only [hc,need_iff,reduceCtorEq,grpN,Int.reduceEq,Int.reduceLT,Int.reduceLE,if_true,if_false,reduceIte] at h) <;> (first | (have hc2 := hc; simp only [decide_eq_true_eq,decide_eq_false_iff_not] at hc2; (first | (replace hc2 := eq_false hc2) | (replace hc2 := eq_true hc2)); (try simp only [hc2,need_iff,reduceCtorEq,grpN,Int.reduceEq,Int.reduceLT,Int.reduceLE,if_true,if_false,reduceIte] at h); replace h := And.intro hc2 h) | (replace h := And.intro hc h) | skip) <;> simp only [hc,
   need_iff,h,grpX,purgeH,Option.map,reduceIte,Nat.reduceEqDiff,Nat.reduceAdd,Nat.reduceMul,Nat.reduceLT,Nat.reduceLeDiff,implies_true,forall_const,eq_self,Int.reduceEq,Int.reduceLE,Int.reduceLT,if_true,if_false,grpK,Int.reduceAdd,Int.reduceSub,Int.reduceMul,Int.reduceNeg,Int.reducePow,Nat.reducePow,Int.reduceToNat,Nat.reduceSub,List.replicate,Nat.reduceBEq,grpE,beq_true,beq_false,grpC,grpY]))
  all_goals (have hf := h)
  all_goals (repeat (replace h := And.right h))
  all_goals ((first | (refine eA_wk (wk_norm (ks := [0,1,5]) (ls := [1000000]) ?_) (eA_cast ?_ (ih _ _ _ _ _ h h0))) | (cases h; have h := True.intro; refine h0 _ (Wk.cast (wk_norm (ks := [0,1]) (ls := [1000000]) ?_) ?_))) <;> simp only [normOk,optIn,blkIn,nameIn,normS,List.map_append,List.length_append,List.map_set,List.length_set,List.map_replicate,List.length_replicate,List.map_nil,List.map_cons,
   need_iff,h,hf,grpX,purgeH,Option.map,reduceIte,Nat.reduceEqDiff,Nat.reduceAdd,Nat.reduceMul,Nat.reduceLT,Nat.reduceLeDiff,implies_true,forall_const,eq_self,Int.reduceEq,Int.reduceLE,Int.reduceLT,if_true,if_false,grpK,Int.reduceAdd,Int.reduceSub,Int.reduceMul,Int.reduceNeg,Int.reducePow,Nat.reducePow,Int.reduceToNat,Nat.reduceSub,List.replicate,Nat.reduceBEq,grpE,beq_true,beq_false,grpC,grpY] <;> first | rfl | (simp only [Nat.add_comm]; done))
theorem s40 : ∀ vs r m,g_laws_markTurnS vs = some (r,m) → SaysX Try.prog m 40 vs r := by
 intro vs r m h
 unfold g_laws_markTurnS at h
 split at h
 ·rename_i w0 y1
  cases hd_y0 : decL dc_en3 w0 with
  | none => rw [hd_y0] at h; cases h
  | some y0 =>
  rw [hd_y0] at h
  obtain rfl := decL_inv dc_en3_inv hd_y0
  clear hd_y0
  dsimp only at h
  split at h
  ·rename_i hp
   cases h
   have hz : zipW [(1000000,⟨4,true,List.map en3 y0⟩)] [List.map en3 (m_laws_markTurnS y0 y1).2] = some [(1000000,⟨4,true,List.map en3 (m_laws_markTurnS y0 y1).2⟩)] := by simp only [zipW,List.map_cons,List.map_nil,List.length_map,m_laws_markTurnS,p_laws_markTurnS,Bool.and_eq_true,decide_eq_true_eq] at hp ⊢; simp only [hp,if_true]
   refine spec_ofW (tab := tabOf []) (cp := cp40) (ic := ic40) (rvl := [(.t 4)]) (H := [(1000000,⟨4,true,List.map en3 y0⟩)]) (H' := [(1000000,⟨4,true,List.map en3 (m_laws_markTurnS y0 y1).2⟩)]) hm tabOk_nil Try.func40 rfl rfl rfl (by kernel_rfl) rfl (Nat.le_of_ble_eq_true rfl) (Nat.le_of_ble_eq_true rfl) (by rfl) hz (by repeat (first | exact highN_nil | refine highN_cons rfl rfl ?_)) (by rfl) (by rfl) ?_
   show eA _ _ _ _
   unfold ic40
   simp only [p_laws_markTurnS,Bool.and_eq_true,Bool.or_eq_true,decide_eq_true_eq,Bool.not_eq_true',decide_eq_false_iff_not] at hp
   refine eS_to ?_
   repeat' (first
    | ((first | (have h := True.intro; refine eS_of ?_) | (refine eGI_of (fun h => ?_) (fun h => ?_)) | (refine eCc_of (fun h => ?_) (fun h => ?_)) | (have h := True.intro; refine KW_refl ?_)) <;> (try simp only [Bool.not_eq_true',Bool.not_eq_false'] at h) <;> (try first | exact nbA h (by assumption) | exact nbB h (by assumption)) <;> (try simp only [h,reduceCtorEq,grpN,Int.reduceEq,Int.reduceLT,Int.reduceLE,if_true,if_false,reduceIte] at hp) <;> (first | (have h2 := h; simp only [decide_eq_true_eq,decide_eq_false_iff_not] at h2; (first | (replace h2 := eq_false h2) | (replace h2 := eq_true h2)); (try simp only [h2,reduceCtorEq,grpN,Int.reduceEq,Int.reduceLT,Int.reduceLE,if_true,if_false,reduceIte] at hp); replace hp := And.intro h2 hp) | (replace hp := And.intro h hp) | skip) <;> simp only [h,
     hp,grpX,purgeH,Option.map,reduceIte,Nat.reduceEqDiff,Nat.reduceAdd,Nat.reduceMul,Nat.reduceLT,Nat.reduceLeDiff,implies_true,forall_const,eq_self,Int.reduceEq,Int.reduceLE,Int.reduceLT,if_true,if_false,grpK,Int.reduceAdd,Int.reduceSub,Int.reduceMul,Int.reduceNeg,Int.reducePow,Nat.reducePow,Int.reduceToNat,Nat.reduceSub,List.replicate,Nat.reduceBEq,grpE,beq_true,beq_false,grpC,grpY,startW,hpIs])
    | (refine eA_wk (wk_norm (ks := [0,1,5]) (ls := [1000000]) ?_) (eA_cast ?_ (sl40_0 _ _ _ _ _ _ (getD_some (d := default) (x := (l_laws_markTurnS_0 (Int.toNat ((((List.length y0) : Nat) : Int) - 0) + 2) y0 y1 0)) ?_) ?_)); (iterate 2 (simp only [nilS,nilV,nilB,normOk,optIn,blkIn,nameIn,normS,List.map_append,List.length_append,List.map_set,List.length_set,List.map_replicate,List.length_replicate,List.map_nil,List.map_cons,
     hp,grpX,purgeH,Option.map,reduceIte,Nat.reduceEqDiff,Nat.reduceAdd,Nat.reduceMul,Nat.reduceLT,Nat.reduceLeDiff,implies_true,forall_const,eq_self,Int.reduceEq,Int.reduceLE,Int.reduceLT,if_true,if_false,grpK,Int.reduceAdd,Int.reduceSub,Int.reduceMul,Int.reduceNeg,Int.reducePow,Nat.reducePow,Int.reduceToNat,Nat.reduceSub,List.replicate,Nat.reduceBEq,grpE,beq_true,beq_false,grpC,grpY,startW,hpIs] <;> first | rfl | (simp only [Nat.add_comm]; done))); (simp only [hp]); (
    intro st2 hw; (try simp only [reduceCtorEq,grpN,Int.reduceEq,Int.reduceLT,Int.reduceLE,if_true,if_false,reduceIte] at hp); (try replace hp := And.intro ht hp); simp only [
Kq_exit,Kq_normal,Kq_ret,Kb_exit,Kb_normal,Kb_ret,Kl_exit,Kl_normal,Kl_ret,reduceIte,Nat.reduceEqDiff,if_true,if_false,eq_self]; refine KW_of hw ?_; simp only [
     hp,grpX,purgeH,Option.map,reduceIte,Nat.reduceEqDiff,Nat.reduceAdd,Nat.reduceMul,Nat.reduceLT,Nat.reduceLeDiff,implies_true,forall_const,eq_self,Int.reduceEq,Int.reduceLE,Int.reduceLT,if_true,if_false,grpK,Int.reduceAdd,Int.reduceSub,Int.reduceMul,Int.reduceNeg,Int.reducePow,Nat.reducePow,Int.reduceToNat,Nat.reduceSub,List.replicate,Nat.reduceBEq,grpE,beq_true,beq_false,grpC,grpY,startW,hpIs])))
   all_goals (try simp only [*,m_laws_markTurnS,grpZ,if_true,if_false,reduceIte,decide_true,decide_false])
   all_goals (try (simp_all; done))
  ·cases h
 ·cases h
def w3_laws_markPoseS (k : Int) : Int := IntKind.wrap .i64 (IntKind.wrap .i64 (IntKind.wrap .i64 (k + 1) + 1) + 1)
def mkP_laws_markPoseS (p : (Nat × Nat × Nat × (List (Nat × Nat × Nat × Nat)))) (k : Int) : (Int × (Nat × Nat × Nat × (List (Nat × Nat × Nat × Nat)))) := ((m_laws_markTurnS p.2.2.2 (w3_laws_markPoseS k)).1,(ofInt .f32 k,ofInt .f32 (IntKind.wrap .i64 (k + 1)),ofInt .f32 (IntKind.wrap .i64 (IntKind.wrap .i64 (k + 1) + 1)),(m_laws_markTurnS p.2.2.2 (w3_laws_markPoseS k)).2))
def m_laws_markPoseS (x0 : List (Nat × Nat × Nat × (List (Nat × Nat × Nat × Nat)))) (x1 : Int) : (Int × (List (Nat × Nat × Nat × (List (Nat × Nat × Nat × Nat))))) := mkSS mkP_laws_markPoseS x0 x1
def p_laws_markPoseS (x0 : List (Nat × Nat × Nat × (List (Nat × Nat × Nat × Nat)))) (x1 : Int) : Bool := ((decide (List.length x0 ≤ 70368744177664)) && (pSS mkP_laws_markPoseS (fun p k => (p_laws_markTurnS p.2.2.2 (w3_laws_markPoseS k) && (decide (List.length (m_laws_markTurnS p.2.2.2 (w3_laws_markPoseS k)).2 = List.length p.2.2.2)))) x0 x1))
noncomputable def g_laws_markPoseS : List AV → Option (AV × Md) := gH (fun q : ((List (Nat × Nat × Nat × (List (Nat × Nat × Nat × Nat)))) × Int) => [.lsl 1000007 0 (List.length q.1),.int .i64 q.2,hEnc (plB 4 (List.map toPT q.1))]) (fun q => p_laws_markPoseS q.1 q.2) (fun q => (.int .i64 (m_laws_markPoseS q.1 q.2).1,.wrH (plB 4 (List.map toPT (m_laws_markPoseS q.1 q.2).2))))
theorem toPT_inj {x y : List (Nat × Nat × Nat × (List (Nat × Nat × Nat × Nat)))} (h : List.map toPT x = List.map toPT y) : x = y := by
 refine List.ext_getElem? fun i => ?_
 have e := congrArg (fun l => l[i]?) h
 simp only [List.getElem?_map] at e
 cases hx : x[i]? with
 | none => rw [hx] at e; cases hy : y[i]? with
  | none => rfl
  | some b => rw [hy] at e; cases e
 | some a => rw [hx] at e; cases hy : y[i]? with
  | none => rw [hy] at e; cases e
  | some b =>
   rw [hy] at e
   obtain ⟨a1,a2,a3,a4⟩ := a
   obtain ⟨b1,b2,b3,b4⟩ := b
   simp only [Option.map,Option.some.injEq,toPT,Prod.mk.injEq] at e
   rw [e.1,e.2.1,e.2.2.1,enc_inj dc_en3_map e.2.2.2]
theorem ge_laws_markPoseS {x0 : List (Nat × Nat × Nat × (List (Nat × Nat × Nat × Nat)))} {x1 : Int} {n : Nat} (hp : p_laws_markPoseS x0 x1 = true) (hn : n = List.length x0) : g_laws_markPoseS [.lsl 1000007 0 n,.int .i64 x1,hEnc (plB 4 (List.map toPT x0))] = some (.int .i64 (m_laws_markPoseS x0 x1).1,.wrH (plB 4 (List.map toPT (m_laws_markPoseS x0 x1).2))) := by
 subst hn
 unfold g_laws_markPoseS
 refine gH_eq (q := (x0,x1)) (fun q q' h => ?_) hp
 simp only [List.cons.injEq,AV.int.injEq,AV.lsl.injEq,and_true,true_and] at h
 exact Prod.ext (toPT_inj (hEnc_pl_inj h.2.2)) h.2.1
def cp18 : CP := CP.mk [] [40] [[0,1],[0,1,5],[0,1,5,9],[0,1,5],[0,1,5],[0,1,5],[0,1,5],[0,1,5],[0,1,5],[0,1,5],[0,1,5],[4]] 47 [] []
theorem s18 : ∀ vs r m,g_laws_markPoseS vs = some (r,m) → SaysX Try.prog m 18 vs r := by
 intro vs r m h
 obtain ⟨⟨x0,x1⟩,rfl,hp,hz⟩ := gH_some h
 cases hz
 simp only [p_laws_markPoseS,Bool.and_eq_true,decide_eq_true_eq] at hp
 obtain ⟨hn,hp⟩ := hp
 have step : ∀ (i : Nat) (a : (Nat × Nat × Nat × (List (Nat × Nat × Nat × Nat)))),x0[i]? = some a → (m_laws_markPoseS x0 x1).2[i]? = some (mkP_laws_markPoseS a (ksSS mkP_laws_markPoseS x0 x1 i)).2 ∧ ksSS mkP_laws_markPoseS x0 x1 (i + 1) = (mkP_laws_markPoseS a (ksSS mkP_laws_markPoseS x0 x1 i)).1 ∧ p_laws_markTurnS a.2.2.2 (w3_laws_markPoseS (ksSS mkP_laws_markPoseS x0 x1 i)) = true ∧ List.length (m_laws_markTurnS a.2.2.2 (w3_laws_markPoseS (ksSS mkP_laws_markPoseS x0 x1 i))).2 = List.length a.2.2.2 := by
  intro i a ha
  obtain ⟨h1,h2,h3⟩ := mkSS_get mkP_laws_markPoseS (fun p k => (p_laws_markTurnS p.2.2.2 (w3_laws_markPoseS k) && (decide (List.length (m_laws_markTurnS p.2.2.2 (w3_laws_markPoseS k)).2 = List.length p.2.2.2)))) x0 x1 i a ha
  have h3 := h3 hp
  simp only [Bool.and_eq_true,decide_eq_true_eq] at h3
  exact ⟨h1,h2,h3.1,h3.2⟩
 have key := markPS (tab := tabOf [(40,g_laws_markTurnS)]) (f := 40) (es := 4) (ps := List.map toPT x0) (qs := List.map toPT (m_laws_markPoseS x0 x1).2) (ks := ksSS mkP_laws_markPoseS x0 x1) (by simp [m_laws_markPoseS,mkSS_len]) (by simp only [List.length_map]; omega) (toPT_fl _) (fun i x y hx hy => by
  simp only [List.getElem?_map,Option.map_eq_some_iff] at hx hy
  obtain ⟨a,ha,rfl⟩ := hx
  obtain ⟨b,hb,rfl⟩ := hy
  obtain ⟨h1,h2,h3,h4⟩ := step i a ha
  rw [h1] at hb; cases hb
  refine ⟨rfl,rfl,rfl,by simpa [toPT,mkP_laws_markPoseS] using h4,?_⟩
  rw [h2]
  have e : IntKind.wrap .i64 (IntKind.wrap .i64 (IntKind.wrap .i64 (ksSS mkP_laws_markPoseS x0 x1 i + 1) + 1) + 1) = w3_laws_markPoseS (ksSS mkP_laws_markPoseS x0 x1 i) := rfl
  rw [e]
  simp only [tabOf_cons,if_pos,g_laws_markTurnS,toPT,dc_en3_map,h3,mkP_laws_markPoseS])
 rw [ksSS_zero,List.length_map,← mkSS_fst] at key
 have hlen : List.map List.length (ins (List.map toPT x0)) = List.map List.length (ins (List.map toPT (m_laws_markPoseS x0 x1).2)) := by
  refine List.ext_getElem? fun i => ?_
  simp only [ins,List.getElem?_map]
  cases ha : x0[i]? with
  | none =>
   rw [List.getElem?_eq_none_iff] at ha
   rw [List.getElem?_eq_none (by simp only [m_laws_markPoseS,mkSS_len]; exact ha)]
  | some a =>
   obtain ⟨h1,h2,h3,h4⟩ := step i a ha
   rw [h1]
   simp only [Option.map,toPT,List.length_map,mkP_laws_markPoseS]
   rw [h4]
 have hno : ∀ f vs r m,tabOf [(40,g_laws_markTurnS)] f vs = some (r,m) → m.isOwnH = false := by
  intro f vs r m h
  simp only [tabOf] at h
  (repeat' split at h) <;> (try simp only [g_laws_markTurnS] at h) <;> (repeat' split at h) <;> cases h <;> rfl
 exact spec_ofN (vs := [.lsl 1000007 0 (List.length x0),.int .i64 x1]) (cp := cp18) (ic := icMp 40) (rvl := [(.t 4)]) hm (tabOk_consW s40 tabOk_nil) hno Try.func18 rfl rfl rfl (by kernel_rfl) rfl (Nat.le_of_ble_eq_true rfl) (Nat.le_of_ble_eq_true rfl) pl_cls (nest_pl hlen (toPT_fl _)) (fun l b hb => pl_clos (toPT_fl _) hb) rfl key
def l_laws_heldTurnS_0 (x0 : (List (Nat × Nat × Nat × Nat))) : Nat → Int → Int → Option (Bool × Int × Int)
 | 0,_,_ => none
 | n + 1,z0_0,z0_1 => (if (decide (z0_1 < ((List.length x0 : Nat) : Int))) = true then (need (inB z0_1 (List.length x0)) (if (feq .f32 (atI x0 z0_1).1 (ofInt .f32 z0_0)) = true then (if (feq .f32 (atI x0 z0_1).2.1 (ofInt .f32 (IntKind.wrap .i64 (z0_0 + 1)))) = true then (if (feq .f32 (atI x0 z0_1).2.2.1 (ofInt .f32 (IntKind.wrap .i64 ((IntKind.wrap .i64 (z0_0 + 1)) + 1)))) = true then (if (feq .f32 (atI x0 z0_1).2.2.2 (ofInt .f32 (IntKind.wrap .i64 ((IntKind.wrap .i64 ((IntKind.wrap .i64 (z0_0 + 1)) + 1)) + 1)))) = true then (l_laws_heldTurnS_0 x0 n (IntKind.wrap .i64 ((IntKind.wrap .i64 ((IntKind.wrap .i64 ((IntKind.wrap .i64 (z0_0 + 1)) + 1)) + 1)) + 1)) (IntKind.wrap .i64 (z0_1 + 1))) else (some (true,(-1),default))) else (some (true,(-1),default))) else (some (true,(-1),default))) else (some (true,(-1),default)))) else (some (false,default,z0_0)))
def m_laws_heldTurnS (x0 : (List (Nat × Nat × Nat × Nat))) (x1 : Int) : Int := (if (Option.getD (l_laws_heldTurnS_0 x0 (Int.toNat (((List.length x0 : Nat) : Int) - 0) + 2) x1 0) default).1 = true then (Option.getD (l_laws_heldTurnS_0 x0 (Int.toNat (((List.length x0 : Nat) : Int) - 0) + 2) x1 0) default).2.1 else (Option.getD (l_laws_heldTurnS_0 x0 (Int.toNat (((List.length x0 : Nat) : Int) - 0) + 2) x1 0) default).2.2)
def p_laws_heldTurnS (x0 : (List (Nat × Nat × Nat × Nat))) (x1 : Int) : Bool := (Option.isSome (l_laws_heldTurnS_0 x0 (Int.toNat (((List.length x0 : Nat) : Int) - 0) + 2) x1 0))
def g_laws_heldTurnS : List AV → Option AV
 | [.sl w0,.int .i64 y1] => (match decL dc_en3 w0 with | some y0 => (if p_laws_heldTurnS y0 y1 = true then some (.int .i64 (m_laws_heldTurnS y0 y1)) else none) | none => none)
 | _ => none
def lb41_0 : ICode := (.seq (.seq (.reg [⟨some 6,none,.mov (.t 5)⟩,⟨some 7,none,.mov (.t 0)⟩,⟨some 8,none,.len false (.t 7)⟩,⟨some 9,none,.bin .lss false (.t 6) (.t 8)⟩] [0,1,5,9]) (.cond (.t 9) .skip (.exit 0))) (.seq (.block 1 (.seq (.seq (.reg [⟨some 12,none,.mov (.t 0)⟩,⟨some 13,none,.mov (.t 5)⟩,⟨some 14,none,.iaddrS 4 (.t 12) (.t 13)⟩,⟨some 15,none,.faddr 0 (.t 14)⟩,⟨some 16,none,.load none (.t 15)⟩,⟨some 17,none,.mov (.t 1)⟩,⟨some 18,none,.conv (.flt .f32) (.t 17)⟩,⟨some 19,none,.bin .neq false (.t 16) (.t 18)⟩] [0,1,5,19]) (.cond (.t 19) (.seq (.reg [⟨some 4,none,.mov (.c (.int .i64 (-1)))⟩] [4]) .ret) .skip)) (.seq (.reg [⟨some 20,none,.mov (.t 1)⟩,⟨some 21,none,.bin .add false (.t 20) (.c (.int .i64 1))⟩,⟨some 1,none,.mov (.t 21)⟩] [0,1,5]) (.seq (.seq (.reg [⟨some 22,none,.mov (.t 0)⟩,⟨some 23,none,.mov (.t 5)⟩,⟨some 24,none,.iaddrS 4 (.t 22) (.t 23)⟩,⟨some 25,none,.faddr 1 (.t 24)⟩,⟨some 26,none,.load none (.t 25)⟩,⟨some 27,none,.mov (.t 1)⟩,⟨some 28,none,.conv (.flt .f32) (.t 27)⟩,⟨some 29,none,.bin .neq false (.t 26) (.t 28)⟩] [0,1,5,29]) (.cond (.t 29) (.seq (.reg [⟨some 4,none,.mov (.c (.int .i64 (-1)))⟩] [4]) .ret) .skip)) (.seq (.reg [⟨some 30,none,.mov (.t 1)⟩,⟨some 31,none,.bin .add false (.t 30) (.c (.int .i64 1))⟩,⟨some 1,none,.mov (.t 31)⟩] [0,1,5]) (.seq (.seq (.reg [⟨some 32,none,.mov (.t 0)⟩,⟨some 33,none,.mov (.t 5)⟩,⟨some 34,none,.iaddrS 4 (.t 32) (.t 33)⟩,⟨some 35,none,.faddr 2 (.t 34)⟩,⟨some 36,none,.load none (.t 35)⟩,⟨some 37,none,.mov (.t 1)⟩,⟨some 38,none,.conv (.flt .f32) (.t 37)⟩,⟨some 39,none,.bin .neq false (.t 36) (.t 38)⟩] [0,1,5,39]) (.cond (.t 39) (.seq (.reg [⟨some 4,none,.mov (.c (.int .i64 (-1)))⟩] [4]) .ret) .skip)) (.seq (.reg [⟨some 40,none,.mov (.t 1)⟩,⟨some 41,none,.bin .add false (.t 40) (.c (.int .i64 1))⟩,⟨some 1,none,.mov (.t 41)⟩] [0,1,5]) (.seq (.seq (.reg [⟨some 42,none,.mov (.t 0)⟩,⟨some 43,none,.mov (.t 5)⟩,⟨some 44,none,.iaddrS 4 (.t 42) (.t 43)⟩,⟨some 45,none,.faddr 3 (.t 44)⟩,⟨some 46,none,.load none (.t 45)⟩,⟨some 47,none,.mov (.t 1)⟩,⟨some 48,none,.conv (.flt .f32) (.t 47)⟩,⟨some 49,none,.bin .neq false (.t 46) (.t 48)⟩] [0,1,5,49]) (.cond (.t 49) (.seq
   (.reg [⟨some 4,none,.mov (.c (.int .i64 (-1)))⟩] [4]) .ret) .skip)) (.reg [⟨some 50,none,.mov (.t 1)⟩,⟨some 51,none,.bin .add false (.t 50) (.c (.int .i64 1))⟩,⟨some 1,none,.mov (.t 51)⟩] [0,1,5]))))))))) (.reg [⟨some 10,none,.mov (.t 5)⟩,⟨some 11,none,.bin .add false (.t 10) (.c (.int .i64 1))⟩,⟨some 5,none,.mov (.t 11)⟩] [0,1,5])))
def ic41 : ICode := (.seq (.reg [⟨some 4,none,.mov (.c (.int .i64 0))⟩] [0,1]) (.seq (.seq (.reg [⟨some 5,none,.mov (.c (.int .i64 0))⟩] [0,1,5]) (.block 0 (.loop lb41_0))) (.seq (.reg [⟨some 52,none,.mov (.t 1)⟩,⟨some 4,none,.mov (.t 52)⟩] [4]) .ret)))
def cp41 : CP := CP.mk [] [] [[0,1],[0,1,5],[0,1,5,9],[0,1,5],[0,1,5,19],[4],[0,1,5],[0,1,5,29],[4],[0,1,5],[0,1,5,39],[4],[0,1,5],[0,1,5,49],[4],[0,1,5],[4]] 53 [] []
theorem sl41_0 (x0 : (List (Nat × Nat × Nat × Nat))) : ∀ (n : Nat) (z0_0 : Int) (z0_1 : Int) (o : (Bool × Int × Int)) (K : IExit → St → Prop),l_laws_heldTurnS_0 x0 n z0_0 z0_1 = some o → (∀ st,o.1 = true → outM .any st [(.t 4)] = some (.int .i64 o.2.1) → K .ret st) → (∀ st,o.1 = false → Wk st (⟨[(1,(.int .i64 o.2.2))],[]⟩ : St) → K (.exit 0) st) → eA (tabOf []) (.loop lb41_0) (⟨[(0,(.sl (List.map en3 x0))),(1,(.int .i64 z0_0)),(5,(.int .i64 z0_1))],[]⟩ : St) K := by
 intro n
 induction n with
 | zero =>
  intro z0_0 z0_1 o K h h0 h1
  simp only [l_laws_heldTurnS_0,reduceCtorEq] at h
 | succ n ih =>
  intro z0_0 z0_1 o K h h0 h1
  refine eA_loop ?_
  unfold lb41_0
  unfold l_laws_heldTurnS_0 at h
  (try simp only [need_iff] at h)
  simp only [
   need_iff,h,grpX,purgeH,Option.map,reduceIte,Nat.reduceEqDiff,Nat.reduceAdd,Nat.reduceMul,Nat.reduceLT,Nat.reduceLeDiff,implies_true,forall_const,eq_self,Int.reduceEq,Int.reduceLE,Int.reduceLT,if_true,if_false,grpK,Int.reduceAdd,Int.reduceSub,Int.reduceMul,Int.reduceNeg,Int.reducePow,Nat.reducePow,Int.reduceToNat,Nat.reduceSub,List.replicate,Nat.reduceBEq,grpE,beq_true,beq_false,grpC,grpY]
  repeat' (first
   | ((first | (refine eGI_of (fun hc => ?_) (fun hc => ?_)) | (refine eCc_of (fun hc => ?_) (fun hc => ?_)) | (have hc := True.intro; refine KW_refl ?_)) <;> (try simp only [Bool.not_eq_true',Bool.not_eq_false'] at hc) <;> (try simp only [hc,need_iff,reduceCtorEq,grpN,Int.reduceEq,Int.reduceLT,Int.reduceLE,if_true,if_false,reduceIte] at h) <;> (first | (have hc2 := hc; simp only [decide_eq_true_eq,decide_eq_false_iff_not] at hc2; (first | (replace hc2 := eq_false hc2) | (replace hc2 := eq_true hc2)); (try simp only [hc2,need_iff,reduceCtorEq,grpN,Int.reduceEq,Int.reduceLT,Int.reduceLE,if_true,if_false,reduceIte] at h); replace h := And.intro hc2 h) | (replace h := And.intro hc h) | skip) <;> simp only [hc,
   need_iff,h,grpX,purgeH,Option.map,reduceIte,Nat.reduceEqDiff,Nat.reduceAdd,Nat.reduceMul,Nat.reduceLT,Nat.reduceLeDiff,implies_true,forall_const,eq_self,Int.reduceEq,Int.reduceLE,Int.reduceLT,if_true,if_false,grpK,Int.reduceAdd,Int.reduceSub,Int.reduceMul,Int.reduceNeg,Int.reducePow,Nat.reducePow,Int.reduceToNat,Nat.reduceSub,List.replicate,Nat.reduceBEq,grpE,beq_true,beq_false,grpC,grpY]))
  all_goals (have hf := h)
  all_goals (repeat (replace h := And.right h))
  all_goals ((first | (refine eA_wk (wk_norm (ks := [0,1,5]) (ls := []) ?_) (eA_cast ?_ (ih _ _ _ _ h h0 h1))) | (cases h; have h := True.intro; refine h0 _ rfl ?_) | (cases h; have h := True.intro; refine h1 _ rfl (Wk.cast (wk_norm (ks := [1]) (ls := []) ?_) ?_))) <;> simp only [normOk,optIn,blkIn,nameIn,normS,List.map_append,List.length_append,List.map_set,List.length_set,List.map_replicate,List.length_replicate,List.map_nil,List.map_cons,
   need_iff,h,hf,grpX,purgeH,Option.map,reduceIte,Nat.reduceEqDiff,Nat.reduceAdd,Nat.reduceMul,Nat.reduceLT,Nat.reduceLeDiff,implies_true,forall_const,eq_self,Int.reduceEq,Int.reduceLE,Int.reduceLT,if_true,if_false,grpK,Int.reduceAdd,Int.reduceSub,Int.reduceMul,Int.reduceNeg,Int.reducePow,Nat.reducePow,Int.reduceToNat,Nat.reduceSub,List.replicate,Nat.reduceBEq,grpE,beq_true,beq_false,grpC,grpY] <;> first | rfl | (simp only [Nat.add_comm]; done))
theorem s41 : ∀ vs r,g_laws_heldTurnS vs = some r → SaysM Try.prog .any 41 vs r := by
 intro vs r h
 unfold g_laws_heldTurnS at h
 split at h
 ·rename_i w0 y1
  cases hd_y0 : decL dc_en3 w0 with
  | none => rw [hd_y0] at h; cases h
  | some y0 =>
  rw [hd_y0] at h
  obtain rfl := decL_inv dc_en3_inv hd_y0
  clear hd_y0
  dsimp only at h
  split at h
  ·rename_i hp
   cases h
   refine spec_of (m := .any) (tab := tabOf []) (cp := cp41) (ic := ic41) (rvl := [(.t 4)]) hm tabOk_nil Try.func41 rfl rfl rfl (by kernel_rfl) rfl (Nat.le_of_ble_eq_true rfl) (Nat.le_of_ble_eq_true rfl) ?_
   show eA _ _ _ _
   unfold ic41
   simp only [p_laws_heldTurnS,Bool.and_eq_true,Bool.or_eq_true,decide_eq_true_eq,Bool.not_eq_true',decide_eq_false_iff_not] at hp
   refine eS_to ?_
   repeat' (first
    | ((first | (have h := True.intro; refine eS_of ?_) | (refine eGI_of (fun h => ?_) (fun h => ?_)) | (refine eCc_of (fun h => ?_) (fun h => ?_)) | (have h := True.intro; refine KW_refl ?_)) <;> (try simp only [Bool.not_eq_true',Bool.not_eq_false'] at h) <;> (try first | exact nbA h (by assumption) | exact nbB h (by assumption)) <;> (try simp only [h,reduceCtorEq,grpN,Int.reduceEq,Int.reduceLT,Int.reduceLE,if_true,if_false,reduceIte] at hp) <;> (first | (have h2 := h; simp only [decide_eq_true_eq,decide_eq_false_iff_not] at h2; (first | (replace h2 := eq_false h2) | (replace h2 := eq_true h2)); (try simp only [h2,reduceCtorEq,grpN,Int.reduceEq,Int.reduceLT,Int.reduceLE,if_true,if_false,reduceIte] at hp); replace hp := And.intro h2 hp) | (replace hp := And.intro h hp) | skip) <;> simp only [h,
     hp,grpX,purgeH,Option.map,reduceIte,Nat.reduceEqDiff,Nat.reduceAdd,Nat.reduceMul,Nat.reduceLT,Nat.reduceLeDiff,implies_true,forall_const,eq_self,Int.reduceEq,Int.reduceLE,Int.reduceLT,if_true,if_false,grpK,Int.reduceAdd,Int.reduceSub,Int.reduceMul,Int.reduceNeg,Int.reducePow,Nat.reducePow,Int.reduceToNat,Nat.reduceSub,List.replicate,Nat.reduceBEq,grpE,beq_true,beq_false,grpC,grpY])
    | (refine eA_wk (wk_norm (ks := [0,1,5]) (ls := []) ?_) (eA_cast ?_ (sl41_0 y0 _ _ _ _ _ (getD_some (d := default) (x := (l_laws_heldTurnS_0 y0 (Int.toNat (((List.length y0 : Nat) : Int) - 0) + 2) y1 0)) ?_) ?_ ?_)); (iterate 2 (simp only [nilS,nilV,nilB,normOk,optIn,blkIn,nameIn,normS,List.map_append,List.length_append,List.map_set,List.length_set,List.map_replicate,List.length_replicate,List.map_nil,List.map_cons,
     hp,grpX,purgeH,Option.map,reduceIte,Nat.reduceEqDiff,Nat.reduceAdd,Nat.reduceMul,Nat.reduceLT,Nat.reduceLeDiff,implies_true,forall_const,eq_self,Int.reduceEq,Int.reduceLE,Int.reduceLT,if_true,if_false,grpK,Int.reduceAdd,Int.reduceSub,Int.reduceMul,Int.reduceNeg,Int.reducePow,Nat.reducePow,Int.reduceToNat,Nat.reduceSub,List.replicate,Nat.reduceBEq,grpE,beq_true,beq_false,grpC,grpY] <;> first | rfl | (simp only [Nat.add_comm]; done))); (simp only [hp]); (
    intro st2 ht hw; simp only [Kq_ret,Kb_ret,Kl_ret,ret_ok]; first | exact h0 _ hw | exact h0 _ rfl hw | exact h1 _ rfl hw | exact h0 _ ht hw | exact h1 _ ht hw | (simp only [ht,need_iff,reduceCtorEq,grpN,Int.reduceEq,Int.reduceLT,Int.reduceLE,if_true,if_false,reduceIte] at h; (repeat (replace h := And.right h)); cases h; first | exact h0 _ hw | exact h0 _ rfl hw | exact h1 _ rfl hw) | refine ⟨_,hw,?_⟩); rotate_left; (
    intro st2 ht hw; (try simp only [ht,reduceCtorEq,grpN,Int.reduceEq,Int.reduceLT,Int.reduceLE,if_true,if_false,reduceIte] at hp); (try replace hp := And.intro ht hp); simp only [
Kq_exit,Kq_normal,Kq_ret,Kb_exit,Kb_normal,Kb_ret,Kl_exit,Kl_normal,Kl_ret,reduceIte,Nat.reduceEqDiff,if_true,if_false,eq_self]; refine KW_of hw ?_; simp only [ht,
     hp,grpX,purgeH,Option.map,reduceIte,Nat.reduceEqDiff,Nat.reduceAdd,Nat.reduceMul,Nat.reduceLT,Nat.reduceLeDiff,implies_true,forall_const,eq_self,Int.reduceEq,Int.reduceLE,Int.reduceLT,if_true,if_false,grpK,Int.reduceAdd,Int.reduceSub,Int.reduceMul,Int.reduceNeg,Int.reducePow,Nat.reducePow,Int.reduceToNat,Nat.reduceSub,List.replicate,Nat.reduceBEq,grpE,beq_true,beq_false,grpC,grpY])))
   all_goals (try simp only [*,m_laws_heldTurnS,grpZ,if_true,if_false,reduceIte,decide_true,decide_false])
   all_goals (try (simp_all; done))
  ·cases h
 ·cases h
def l_laws_heldPoseS_0 (x0 : (List (Nat × Nat × Nat × (List (Nat × Nat × Nat × Nat))))) : Nat → Int → Int → Option (Bool × Int × Int)
 | 0,_,_ => none
 | n + 1,z0_0,z0_1 => (if (decide (z0_1 < ((List.length x0 : Nat) : Int))) = true then (need (inB z0_1 (List.length x0)) (if (feq .f32 (atI x0 z0_1).1 (ofInt .f32 z0_0)) = true then (if (feq .f32 (atI x0 z0_1).2.1 (ofInt .f32 (IntKind.wrap .i64 (z0_0 + 1)))) = true then (if (feq .f32 (atI x0 z0_1).2.2.1 (ofInt .f32 (IntKind.wrap .i64 ((IntKind.wrap .i64 (z0_0 + 1)) + 1)))) = true then (need (p_laws_heldTurnS (atI x0 z0_1).2.2.2 (IntKind.wrap .i64 ((IntKind.wrap .i64 ((IntKind.wrap .i64 (z0_0 + 1)) + 1)) + 1))) (if (decide ((m_laws_heldTurnS (atI x0 z0_1).2.2.2 (IntKind.wrap .i64 ((IntKind.wrap .i64 ((IntKind.wrap .i64 (z0_0 + 1)) + 1)) + 1))) < 0)) = true then (some (true,(-1),default)) else (l_laws_heldPoseS_0 x0 n (m_laws_heldTurnS (atI x0 z0_1).2.2.2 (IntKind.wrap .i64 ((IntKind.wrap .i64 ((IntKind.wrap .i64 (z0_0 + 1)) + 1)) + 1))) (IntKind.wrap .i64 (z0_1 + 1))))) else (some (true,(-1),default))) else (some (true,(-1),default))) else (some (true,(-1),default)))) else (some (false,default,z0_0)))
def m_laws_heldPoseS (x0 : (List (Nat × Nat × Nat × (List (Nat × Nat × Nat × Nat))))) (x1 : Int) : Int := (if (Option.getD (l_laws_heldPoseS_0 x0 (Int.toNat (((List.length x0 : Nat) : Int) - 0) + 2) x1 0) default).1 = true then (Option.getD (l_laws_heldPoseS_0 x0 (Int.toNat (((List.length x0 : Nat) : Int) - 0) + 2) x1 0) default).2.1 else (Option.getD (l_laws_heldPoseS_0 x0 (Int.toNat (((List.length x0 : Nat) : Int) - 0) + 2) x1 0) default).2.2)
def p_laws_heldPoseS (x0 : (List (Nat × Nat × Nat × (List (Nat × Nat × Nat × Nat))))) (x1 : Int) : Bool := (Option.isSome (l_laws_heldPoseS_0 x0 (Int.toNat (((List.length x0 : Nat) : Int) - 0) + 2) x1 0))
def g_laws_heldPoseS : List AV → Option AV
 | [.sl w0,.int .i64 y1] => (match decL dc_en4 w0 with | some y0 => (if p_laws_heldPoseS y0 y1 = true then some (.int .i64 (m_laws_heldPoseS y0 y1)) else none) | none => none)
 | _ => none
def lb19_0 : ICode := (.seq (.seq (.reg [⟨some 6,none,.mov (.t 5)⟩,⟨some 7,none,.mov (.t 0)⟩,⟨some 8,none,.len false (.t 7)⟩,⟨some 9,none,.bin .lss false (.t 6) (.t 8)⟩] [0,1,5,9]) (.cond (.t 9) .skip (.exit 0))) (.seq (.block 1 (.seq (.seq (.reg [⟨some 12,none,.mov (.t 0)⟩,⟨some 13,none,.mov (.t 5)⟩,⟨some 14,none,.iaddrS 4 (.t 12) (.t 13)⟩,⟨some 15,none,.faddr 0 (.t 14)⟩,⟨some 16,none,.faddr 0 (.t 15)⟩,⟨some 17,none,.load none (.t 16)⟩,⟨some 18,none,.mov (.t 1)⟩,⟨some 19,none,.conv (.flt .f32) (.t 18)⟩,⟨some 20,none,.bin .neq false (.t 17) (.t 19)⟩] [0,1,5,20]) (.cond (.t 20) (.seq (.reg [⟨some 4,none,.mov (.c (.int .i64 (-1)))⟩] [4]) .ret) .skip)) (.seq (.reg [⟨some 21,none,.mov (.t 1)⟩,⟨some 22,none,.bin .add false (.t 21) (.c (.int .i64 1))⟩,⟨some 1,none,.mov (.t 22)⟩] [0,1,5]) (.seq (.seq (.reg [⟨some 23,none,.mov (.t 0)⟩,⟨some 24,none,.mov (.t 5)⟩,⟨some 25,none,.iaddrS 4 (.t 23) (.t 24)⟩,⟨some 26,none,.faddr 0 (.t 25)⟩,⟨some 27,none,.faddr 1 (.t 26)⟩,⟨some 28,none,.load none (.t 27)⟩,⟨some 29,none,.mov (.t 1)⟩,⟨some 30,none,.conv (.flt .f32) (.t 29)⟩,⟨some 31,none,.bin .neq false (.t 28) (.t 30)⟩] [0,1,5,31]) (.cond (.t 31) (.seq (.reg [⟨some 4,none,.mov (.c (.int .i64 (-1)))⟩] [4]) .ret) .skip)) (.seq (.reg [⟨some 32,none,.mov (.t 1)⟩,⟨some 33,none,.bin .add false (.t 32) (.c (.int .i64 1))⟩,⟨some 1,none,.mov (.t 33)⟩] [0,1,5]) (.seq (.seq (.reg [⟨some 34,none,.mov (.t 0)⟩,⟨some 35,none,.mov (.t 5)⟩,⟨some 36,none,.iaddrS 4 (.t 34) (.t 35)⟩,⟨some 37,none,.faddr 0 (.t 36)⟩,⟨some 38,none,.faddr 2 (.t 37)⟩,⟨some 39,none,.load none (.t 38)⟩,⟨some 40,none,.mov (.t 1)⟩,⟨some 41,none,.conv (.flt .f32) (.t 40)⟩,⟨some 42,none,.bin .neq false (.t 39) (.t 41)⟩] [0,1,5,42]) (.cond (.t 42) (.seq (.reg [⟨some 4,none,.mov (.c (.int .i64 (-1)))⟩] [4]) .ret) .skip)) (.seq (.reg [⟨some 43,none,.mov (.t 1)⟩,⟨some 44,none,.bin .add false (.t 43) (.c (.int .i64 1))⟩,⟨some 1,none,.mov (.t 44)⟩] [0,1,5]) (.seq (.reg [⟨some 45,none,.mov (.t 0)⟩,⟨some 46,none,.mov (.t 5)⟩,⟨some 47,none,.iaddrS 4 (.t 45) (.t 46)⟩,⟨some 48,none,.faddr 3 (.t 47)⟩,⟨some 49,none,.load none (.t 48)⟩,⟨some 50,none,.mov (.t 1)⟩,⟨some 51,none,.call
   (.fn 41) [(.t 49),(.t 50)] []⟩,⟨some 1,none,.mov (.t 51)⟩] [0,1,5]) (.seq (.reg [⟨some 52,none,.mov (.t 1)⟩,⟨some 53,none,.bin .lss false (.t 52) (.c (.int .i64 0))⟩] [0,1,5,53]) (.cond (.t 53) (.seq (.reg [⟨some 4,none,.mov (.c (.int .i64 (-1)))⟩] [4]) .ret) .skip)))))))))) (.reg [⟨some 10,none,.mov (.t 5)⟩,⟨some 11,none,.bin .add false (.t 10) (.c (.int .i64 1))⟩,⟨some 5,none,.mov (.t 11)⟩] [0,1,5])))
def ic19 : ICode := (.seq (.reg [⟨some 4,none,.mov (.c (.int .i64 0))⟩] [0,1]) (.seq (.seq (.reg [⟨some 5,none,.mov (.c (.int .i64 0))⟩] [0,1,5]) (.block 0 (.loop lb19_0))) (.seq (.reg [⟨some 54,none,.mov (.t 1)⟩,⟨some 4,none,.mov (.t 54)⟩] [4]) .ret)))
def cp19 : CP := CP.mk [] [] [[0,1],[0,1,5],[0,1,5,9],[0,1,5],[0,1,5,20],[4],[0,1,5],[0,1,5,31],[4],[0,1,5],[0,1,5,42],[4],[0,1,5],[0,1,5],[0,1,5,53],[4],[4]] 55 [] []
theorem sl19_0 (x0 : (List (Nat × Nat × Nat × (List (Nat × Nat × Nat × Nat))))) : ∀ (n : Nat) (z0_0 : Int) (z0_1 : Int) (o : (Bool × Int × Int)) (K : IExit → St → Prop),l_laws_heldPoseS_0 x0 n z0_0 z0_1 = some o → (∀ st,o.1 = true → outM .any st [(.t 4)] = some (.int .i64 o.2.1) → K .ret st) → (∀ st,o.1 = false → Wk st (⟨[(1,(.int .i64 o.2.2))],[]⟩ : St) → K (.exit 0) st) → eA (tabOf [(41,wM .any g_laws_heldTurnS)]) (.loop lb19_0) (⟨[(0,(.sl (List.map en4 x0))),(1,(.int .i64 z0_0)),(5,(.int .i64 z0_1))],[]⟩ : St) K := by
 intro n
 induction n with
 | zero =>
  intro z0_0 z0_1 o K h h0 h1
  simp only [l_laws_heldPoseS_0,reduceCtorEq] at h
 | succ n ih =>
  intro z0_0 z0_1 o K h h0 h1
  refine eA_loop ?_
  unfold lb19_0
  unfold l_laws_heldPoseS_0 at h
  (try simp only [need_iff] at h)
  simp only [
   need_iff,h,grpX,purgeH,Option.map,reduceIte,Nat.reduceEqDiff,Nat.reduceAdd,Nat.reduceMul,Nat.reduceLT,Nat.reduceLeDiff,implies_true,forall_const,eq_self,Int.reduceEq,Int.reduceLE,Int.reduceLT,if_true,if_false,grpK,Int.reduceAdd,Int.reduceSub,Int.reduceMul,Int.reduceNeg,Int.reducePow,Nat.reducePow,Int.reduceToNat,Nat.reduceSub,List.replicate,Nat.reduceBEq,grpE,beq_true,beq_false,g_laws_heldTurnS,grpC,grpY]
  repeat' (first
   | ((first | (refine eGI_of (fun hc => ?_) (fun hc => ?_)) | (refine eCc_of (fun hc => ?_) (fun hc => ?_)) | (have hc := True.intro; refine KW_refl ?_)) <;> (try simp only [Bool.not_eq_true',Bool.not_eq_false'] at hc) <;> (try simp only [hc,need_iff,reduceCtorEq,grpN,Int.reduceEq,Int.reduceLT,Int.reduceLE,if_true,if_false,reduceIte] at h) <;> (first | (have hc2 := hc; simp only [decide_eq_true_eq,decide_eq_false_iff_not] at hc2; (first | (replace hc2 := eq_false hc2) | (replace hc2 := eq_true hc2)); (try simp only [hc2,need_iff,reduceCtorEq,grpN,Int.reduceEq,Int.reduceLT,Int.reduceLE,if_true,if_false,reduceIte] at h); replace h := And.intro hc2 h) | (replace h := And.intro hc h) | skip) <;> simp only [hc,
   need_iff,h,grpX,purgeH,Option.map,reduceIte,Nat.reduceEqDiff,Nat.reduceAdd,Nat.reduceMul,Nat.reduceLT,Nat.reduceLeDiff,implies_true,forall_const,eq_self,Int.reduceEq,Int.reduceLE,Int.reduceLT,if_true,if_false,grpK,Int.reduceAdd,Int.reduceSub,Int.reduceMul,Int.reduceNeg,Int.reducePow,Nat.reducePow,Int.reduceToNat,Nat.reduceSub,List.replicate,Nat.reduceBEq,grpE,beq_true,beq_false,g_laws_heldTurnS,grpC,grpY]))
  all_goals (have hf := h)
  all_goals (repeat (replace h := And.right h))
  all_goals ((first | (refine eA_wk (wk_norm (ks := [0,1,5]) (ls := []) ?_) (eA_cast ?_ (ih _ _ _ _ h h0 h1))) | (cases h; have h := True.intro; refine h0 _ rfl ?_) | (cases h; have h := True.intro; refine h1 _ rfl (Wk.cast (wk_norm (ks := [1]) (ls := []) ?_) ?_))) <;> simp only [normOk,optIn,blkIn,nameIn,normS,List.map_append,List.length_append,List.map_set,List.length_set,List.map_replicate,List.length_replicate,List.map_nil,List.map_cons,
   need_iff,h,hf,grpX,purgeH,Option.map,reduceIte,Nat.reduceEqDiff,Nat.reduceAdd,Nat.reduceMul,Nat.reduceLT,Nat.reduceLeDiff,implies_true,forall_const,eq_self,Int.reduceEq,Int.reduceLE,Int.reduceLT,if_true,if_false,grpK,Int.reduceAdd,Int.reduceSub,Int.reduceMul,Int.reduceNeg,Int.reducePow,Nat.reducePow,Int.reduceToNat,Nat.reduceSub,List.replicate,Nat.reduceBEq,grpE,beq_true,beq_false,g_laws_heldTurnS,grpC,grpY] <;> first | rfl | (simp only [Nat.add_comm]; done))
theorem s19 : ∀ vs r,g_laws_heldPoseS vs = some r → SaysM Try.prog .any 19 vs r := by
 intro vs r h
 unfold g_laws_heldPoseS at h
 split at h
 ·rename_i w0 y1
  cases hd_y0 : decL dc_en4 w0 with
  | none => rw [hd_y0] at h; cases h
  | some y0 =>
  rw [hd_y0] at h
  obtain rfl := decL_inv dc_en4_inv hd_y0
  clear hd_y0
  dsimp only at h
  split at h
  ·rename_i hp
   cases h
   refine spec_of (m := .any) (tab := tabOf [(41,wM .any g_laws_heldTurnS)]) (cp := cp19) (ic := ic19) (rvl := [(.t 4)]) hm (tabOk_cons (m := .any) s41 tabOk_nil) Try.func19 rfl rfl rfl (by kernel_rfl) rfl (Nat.le_of_ble_eq_true rfl) (Nat.le_of_ble_eq_true rfl) ?_
   show eA _ _ _ _
   unfold ic19
   simp only [p_laws_heldPoseS,Bool.and_eq_true,Bool.or_eq_true,decide_eq_true_eq,Bool.not_eq_true',decide_eq_false_iff_not] at hp
   refine eS_to ?_
   repeat' (first
    | ((first | (have h := True.intro; refine eS_of ?_) | (refine eGI_of (fun h => ?_) (fun h => ?_)) | (refine eCc_of (fun h => ?_) (fun h => ?_)) | (have h := True.intro; refine KW_refl ?_)) <;> (try simp only [Bool.not_eq_true',Bool.not_eq_false'] at h) <;> (try first | exact nbA h (by assumption) | exact nbB h (by assumption)) <;> (try simp only [h,reduceCtorEq,grpN,Int.reduceEq,Int.reduceLT,Int.reduceLE,if_true,if_false,reduceIte] at hp) <;> (first | (have h2 := h; simp only [decide_eq_true_eq,decide_eq_false_iff_not] at h2; (first | (replace h2 := eq_false h2) | (replace h2 := eq_true h2)); (try simp only [h2,reduceCtorEq,grpN,Int.reduceEq,Int.reduceLT,Int.reduceLE,if_true,if_false,reduceIte] at hp); replace hp := And.intro h2 hp) | (replace hp := And.intro h hp) | skip) <;> simp only [h,
     hp,grpX,purgeH,Option.map,reduceIte,Nat.reduceEqDiff,Nat.reduceAdd,Nat.reduceMul,Nat.reduceLT,Nat.reduceLeDiff,implies_true,forall_const,eq_self,Int.reduceEq,Int.reduceLE,Int.reduceLT,if_true,if_false,grpK,Int.reduceAdd,Int.reduceSub,Int.reduceMul,Int.reduceNeg,Int.reducePow,Nat.reducePow,Int.reduceToNat,Nat.reduceSub,List.replicate,Nat.reduceBEq,grpE,beq_true,beq_false,g_laws_heldTurnS,grpC,grpY])
    | (refine eA_wk (wk_norm (ks := [0,1,5]) (ls := []) ?_) (eA_cast ?_ (sl19_0 y0 _ _ _ _ _ (getD_some (d := default) (x := (l_laws_heldPoseS_0 y0 (Int.toNat (((List.length y0 : Nat) : Int) - 0) + 2) y1 0)) ?_) ?_ ?_)); (iterate 2 (simp only [nilS,nilV,nilB,normOk,optIn,blkIn,nameIn,normS,List.map_append,List.length_append,List.map_set,List.length_set,List.map_replicate,List.length_replicate,List.map_nil,List.map_cons,
     hp,grpX,purgeH,Option.map,reduceIte,Nat.reduceEqDiff,Nat.reduceAdd,Nat.reduceMul,Nat.reduceLT,Nat.reduceLeDiff,implies_true,forall_const,eq_self,Int.reduceEq,Int.reduceLE,Int.reduceLT,if_true,if_false,grpK,Int.reduceAdd,Int.reduceSub,Int.reduceMul,Int.reduceNeg,Int.reducePow,Nat.reducePow,Int.reduceToNat,Nat.reduceSub,List.replicate,Nat.reduceBEq,grpE,beq_true,beq_false,g_laws_heldTurnS,grpC,grpY] <;> first | rfl | (simp only [Nat.add_comm]; done))); (simp only [hp]); (
    intro st2 ht hw; simp only [Kq_ret,Kb_ret,Kl_ret,ret_ok]; first | exact h0 _ hw | exact h0 _ rfl hw | exact h1 _ rfl hw | exact h0 _ ht hw | exact h1 _ ht hw | (simp only [ht,need_iff,reduceCtorEq,grpN,Int.reduceEq,Int.reduceLT,Int.reduceLE,if_true,if_false,reduceIte] at h; (repeat (replace h := And.right h)); cases h; first | exact h0 _ hw | exact h0 _ rfl hw | exact h1 _ rfl hw) | refine ⟨_,hw,?_⟩); rotate_left; (
    intro st2 ht hw; (try simp only [ht,reduceCtorEq,grpN,Int.reduceEq,Int.reduceLT,Int.reduceLE,if_true,if_false,reduceIte] at hp); (try replace hp := And.intro ht hp); simp only [
Kq_exit,Kq_normal,Kq_ret,Kb_exit,Kb_normal,Kb_ret,Kl_exit,Kl_normal,Kl_ret,reduceIte,Nat.reduceEqDiff,if_true,if_false,eq_self]; refine KW_of hw ?_; simp only [ht,
     hp,grpX,purgeH,Option.map,reduceIte,Nat.reduceEqDiff,Nat.reduceAdd,Nat.reduceMul,Nat.reduceLT,Nat.reduceLeDiff,implies_true,forall_const,eq_self,Int.reduceEq,Int.reduceLE,Int.reduceLT,if_true,if_false,grpK,Int.reduceAdd,Int.reduceSub,Int.reduceMul,Int.reduceNeg,Int.reducePow,Nat.reducePow,Int.reduceToNat,Nat.reduceSub,List.replicate,Nat.reduceBEq,grpE,beq_true,beq_false,g_laws_heldTurnS,grpC,grpY])))
   all_goals (try simp only [*,m_laws_heldPoseS,grpZ,if_true,if_false,reduceIte,decide_true,decide_false])
   all_goals (try (simp_all; done))
  ·cases h
 ·cases h
def v_laws_FnExactPlayClip_0 (x0 : (Int × Int × (List (List (Int × Nat × Nat × Nat × Nat))) × (List (Int × Nat × Nat × Nat)))) (x1 : Int) (x2 : Int) (x3 : Int) : Bool := (!(decide ((m_laws_heldPoseS (m_laws_markPoseS (m_impl_PlayClip (m_laws_toClip x0) x1 x2 x3).1 1).2 1) = (m_laws_markPoseS (m_impl_PlayClip (m_laws_toClip x0) x1 x2 x3).1 1).1)))
def m_laws_FnExactPlayClip (x0 : (Int × Int × (List (List (Int × Nat × Nat × Nat × Nat))) × (List (Int × Nat × Nat × Nat)))) (x1 : Int) (x2 : Int) (x3 : Int) : Bool := (if (decide ((m_laws_szClip x0 1048576) < 0)) = true then true else (if (m_laws_eqPoseS (m_impl_PlayClip (m_laws_toClip x0) x1 x2 x3).1 (m_spec_PlayClip (m_laws_toClip x0) x1 x2 x3).1) = true then (if ((m_impl_PlayClip (m_laws_toClip x0) x1 x2 x3).2 == (m_spec_PlayClip (m_laws_toClip x0) x1 x2 x3).2) = true then (if (m_laws_eqClip (m_laws_toClip x0) (m_laws_toClip x0)) = true then (if (decide ((m_laws_markClip (m_laws_toClip x0) 1).1 < 0)) = true then false else (if (decide ((m_laws_heldPoseS (m_laws_markPoseS (m_impl_PlayClip (m_laws_toClip x0) x1 x2 x3).1 1).2 1) < 0)) = true then false else (if (v_laws_FnExactPlayClip_0 x0 x1 x2 x3) = true then false else true))) else false) else false) else false))
def p_laws_FnExactPlayClip (x0 : (Int × Int × (List (List (Int × Nat × Nat × Nat × Nat))) × (List (Int × Nat × Nat × Nat)))) (x1 : Int) (x2 : Int) (x3 : Int) : Bool := ((p_laws_szClip x0 1048576) && ((decide ((m_laws_szClip x0 1048576) < 0)) || ((p_laws_toClip x0) && ((p_spec_PlayClip (m_laws_toClip x0) x1 x2 x3) && ((p_impl_PlayClip (m_laws_toClip x0) x1 x2 x3) && ((p_laws_eqPoseS (m_impl_PlayClip (m_laws_toClip x0) x1 x2 x3).1 (m_spec_PlayClip (m_laws_toClip x0) x1 x2 x3).1) && (!(m_laws_eqPoseS (m_impl_PlayClip (m_laws_toClip x0) x1 x2 x3).1 (m_spec_PlayClip (m_laws_toClip x0) x1 x2 x3).1) || (!((m_impl_PlayClip (m_laws_toClip x0) x1 x2 x3).2 == (m_spec_PlayClip (m_laws_toClip x0) x1 x2 x3).2) || ((p_laws_eqClip (m_laws_toClip x0) (m_laws_toClip x0)) && (!(m_laws_eqClip (m_laws_toClip x0) (m_laws_toClip x0)) || ((p_laws_markClip (m_laws_toClip x0) 1) && ((decide (List.length (m_laws_markClip (m_laws_toClip x0) 1).2.1 = (List.length (m_laws_toClip x0).2.2.1))) && ((decide (List.length (m_laws_markClip (m_laws_toClip x0) 1).2.2 = (List.length (m_laws_toClip x0).2.2.2))) && ((decide ((m_laws_markClip (m_laws_toClip x0) 1).1 < 0)) || ((p_laws_markPoseS (m_impl_PlayClip (m_laws_toClip x0) x1 x2 x3).1 1) && ((decide (List.length (m_laws_markPoseS (m_impl_PlayClip (m_laws_toClip x0) x1 x2 x3).1 1).2 = (List.length (m_impl_PlayClip (m_laws_toClip x0) x1 x2 x3).1))) && (p_laws_heldPoseS (m_laws_markPoseS (m_impl_PlayClip (m_laws_toClip x0) x1 x2 x3).1 1).2 1)))))))))))))))))
def g_laws_FnExactPlayClip : List AV → Option AV
 | [.agg [.int .i64 y0,.int .i64 y1,.sl w2,.sl w3],.int .i64 y4,.int .i64 y5,.int .i64 y6] => (match decL dc_en1 w2 with | some y2 => ((match decL dc_en2 w3 with | some y3 => (if p_laws_FnExactPlayClip (y0,y1,y2,y3) y4 y5 y6 = true then some (.bool (m_laws_FnExactPlayClip (y0,y1,y2,y3) y4 y5 y6)) else none) | none => none)) | none => none)
 | _ => none
def ic4 : ICode := (.seq (.reg [⟨some 4,none,.box 4 (.t 0)⟩,⟨some 8,none,.mov (.c (.bool false))⟩] [1,2,3,4]) (.seq (.reg [⟨some 9,none,.mov (.c (.int .i64 1048576))⟩] [1,2,3,4,9]) (.seq (.reg [⟨some 20,none,.load (some 4) (.t 4)⟩,⟨some 21,none,.mov (.t 9)⟩,⟨some 22,none,.call (.fn 6) [(.t 20),(.t 21)] []⟩,⟨some 9,none,.mov (.t 22)⟩] [1,2,3,4,9]) (.seq (.seq (.reg [⟨some 23,none,.mov (.t 9)⟩,⟨some 24,none,.bin .lss false (.t 23) (.c (.int .i64 0))⟩] [1,2,3,4,24]) (.cond (.t 24) (.seq (.reg [⟨some 8,none,.mov (.c (.bool true))⟩] [8]) .ret) .skip)) (.seq (.reg [⟨some 26,none,.load (some 4) (.t 4)⟩,⟨some 27,none,.call (.fn 8) [(.t 26)] []⟩,⟨some 28,none,.mov (.t 1)⟩,⟨some 29,none,.mov (.t 2)⟩,⟨some 30,none,.mov (.t 3)⟩,⟨some 31,none,.call (.fn 15) [(.t 27),(.t 28),(.t 29),(.t 30)] []⟩,⟨some 25,none,.mov (.t 31)⟩,⟨some 32,none,.extract (.t 25) 0⟩,⟨some 33,none,.extract (.t 25) 1⟩,⟨some 10,none,.mov (.t 32)⟩,⟨some 11,none,.mov (.t 33)⟩] [1,2,3,4,10,11]) (.seq (.reg [⟨some 34,none,.load (some 4) (.t 4)⟩,⟨some 35,none,.call (.fn 8) [(.t 34)] [1]⟩,⟨some 12,none,.alloc (.agg [(.int .i64 0),(.int .i64 0),.snil,.snil])⟩,⟨none,none,(.store 4 (.t 12) (.t 35))⟩] [1,2,3,4,10,11,12]) (.seq (.reg [⟨some 37,none,.load (some 4) (.t 12)⟩,⟨some 38,none,.mov (.t 1)⟩,⟨some 39,none,.mov (.t 2)⟩,⟨some 40,none,.mov (.t 3)⟩,⟨some 41,none,.call (.fn 16) [(.t 37),(.t 38),(.t 39),(.t 40)] [1]⟩,⟨some 36,none,.mov (.t 41)⟩,⟨some 42,none,.extract (.t 36) 0⟩,⟨some 43,none,.extract (.t 36) 1⟩,⟨some 13,none,.mov (.t 42)⟩,⟨some 14,none,.mov (.t 43)⟩] [1,2,3,4,10,11,12,13,14]) (.seq (.seq (.reg [⟨some 44,none,.mov (.t 13)⟩,⟨some 45,none,.mov (.t 10)⟩,⟨some 46,none,.call (.fn 17) [(.t 44),(.t 45)] []⟩,⟨some 47,none,.un .not (.t 46)⟩,⟨some 48,none,.mov (.t 47)⟩,⟨(some 49),(some (48,false)),(.mov (.t 14))⟩,⟨(some 50),(some (48,false)),(.mov (.t 11))⟩,⟨(some 51),(some (48,false)),(.bin .neq true (.t 49) (.t 50))⟩,⟨some 52,none,.pick (.t 48) (.c (.bool true)) (.t 51)⟩] [1,2,3,4,10,11,12,13,14,52]) (.cond (.t 52) (.seq (.reg [⟨some 8,none,.mov (.c (.bool false))⟩] [8]) .ret) .skip)) (.seq (.seq (.reg [⟨some 53,none,.load (some 4) (.t 12)⟩,⟨(some 54),
   none,(.load (some 4) (.t 4))⟩,⟨some 55,none,.call (.fn 8) [(.t 54)] []⟩,⟨some 56,none,.call (.fn 11) [(.t 53),(.t 55)] []⟩,⟨some 57,none,.un .not (.t 56)⟩] [1,2,3,4,10,11,12,13,14,57]) (.cond (.t 57) (.seq (.reg [⟨some 8,none,.mov (.c (.bool false))⟩] [8]) .ret) .skip)) (.seq (.reg [⟨some 15,none,.mov (.c (.int .i64 1))⟩] [1,2,3,4,10,11,12,13,14,15]) (.seq (.reg [⟨some 58,none,.load (some 4) (.t 12)⟩,⟨some 59,none,.mov (.t 15)⟩,⟨some 60,none,.callM 12 [(.t 58),(.t 59)]⟩,⟨some 15,none,.mov (.t 60)⟩] [1,2,3,4,10,11,13,14,15]) (.seq (.seq (.reg [⟨some 61,none,.mov (.t 15)⟩,⟨some 62,none,.bin .lss false (.t 61) (.c (.int .i64 0))⟩,⟨some 63,none,.mov (.t 62)⟩,⟨(some 64),(some (63,false)),(.mov (.t 13))⟩,⟨(some 65),(some (63,false)),(.mov (.t 10))⟩,⟨(some 66),(some (63,false)),(.call (.fn 17) [(.t 64),(.t 65)] [])⟩,⟨(some 67),(some (63,false)),(.un .not (.t 66))⟩,⟨some 68,none,.pick (.t 63) (.c (.bool true)) (.t 67)⟩,⟨some 69,none,.mov (.t 68)⟩,⟨(some 70),(some (69,false)),(.mov (.t 14))⟩,⟨(some 71),(some (69,false)),(.mov (.t 11))⟩,⟨(some 72),(some (69,false)),(.bin .neq true (.t 70) (.t 71))⟩,⟨some 73,none,.pick (.t 69) (.c (.bool true)) (.t 72)⟩] [1,2,3,4,10,11,13,73]) (.cond (.t 73) (.seq (.reg [⟨some 8,none,.mov (.c (.bool false))⟩] [8]) .ret) .skip)) (.seq (.reg [⟨some 16,none,.mov (.c (.int .i64 1))⟩] [1,2,3,4,10,11,13,16]) (.seq (.reg [⟨some 74,none,.mov (.t 13)⟩,⟨some 75,none,.mov (.t 16)⟩,⟨some 76,none,.callM 18 [(.t 74),(.t 75)]⟩,⟨some 16,none,.mov (.t 76)⟩] [1,2,3,4,10,11,13,16]) (.seq (.reg [⟨some 17,none,.mov (.c (.int .i64 1))⟩] [1,2,3,4,10,11,13,16,17]) (.seq (.reg [⟨some 77,none,.mov (.t 13)⟩,⟨some 78,none,.mov (.t 17)⟩,⟨some 79,none,.call (.fn 19) [(.t 77),(.t 78)] []⟩,⟨some 17,none,.mov (.t 79)⟩] [1,2,3,4,10,11,13,16,17]) (.seq (.seq (.reg [⟨some 80,none,.mov (.t 17)⟩,⟨some 81,none,.bin .lss false (.t 80) (.c (.int .i64 0))⟩] [1,2,3,4,10,11,13,16,17,81]) (.cond (.t 81) (.seq (.reg [⟨some 8,none,.mov (.c (.bool false))⟩] [8]) .ret) .skip)) (.seq (.seq (.reg [⟨some 82,none,.mov (.t 17)⟩,⟨some 83,none,.mov (.t 16)⟩,⟨some 84,none,.bin .neq false (.t 82) (.t 83)⟩] [1,2,3,4,10,11,13,16,84]) (.cond (.t 84) (.seq (.reg [⟨(some
   8),none,(.mov (.c (.bool false)))⟩] [8]) .ret) .skip)) (.seq (.reg [⟨some 86,none,.load (some 4) (.t 4)⟩,⟨some 87,none,.call (.fn 8) [(.t 86)] []⟩,⟨some 88,none,.mov (.t 1)⟩,⟨some 89,none,.mov (.t 2)⟩,⟨some 90,none,.mov (.t 3)⟩,⟨some 91,none,.call (.fn 16) [(.t 87),(.t 88),(.t 89),(.t 90)] []⟩,⟨some 85,none,.mov (.t 91)⟩,⟨some 92,none,.extract (.t 85) 0⟩,⟨some 93,none,.extract (.t 85) 1⟩,⟨some 18,none,.mov (.t 92)⟩,⟨some 19,none,.mov (.t 93)⟩] [10,11,13,16,18,19]) (.seq (.seq (.reg [⟨some 94,none,.mov (.t 18)⟩,⟨some 95,none,.mov (.t 10)⟩,⟨some 96,none,.call (.fn 17) [(.t 94),(.t 95)] []⟩,⟨some 97,none,.un .not (.t 96)⟩,⟨some 98,none,.mov (.t 97)⟩,⟨(some 99),(some (98,false)),(.mov (.t 19))⟩,⟨(some 100),(some (98,false)),(.mov (.t 11))⟩,⟨(some 101),(some (98,false)),(.bin .neq true (.t 99) (.t 100))⟩,⟨some 102,none,.pick (.t 98) (.c (.bool true)) (.t 101)⟩] [13,16,102]) (.cond (.t 102) (.seq (.reg [⟨some 8,none,.mov (.c (.bool false))⟩] [8]) .ret) .skip)) (.seq (.reg [⟨some 17,none,.mov (.c (.int .i64 1))⟩] [13,16,17]) (.seq (.reg [⟨some 103,none,.mov (.t 13)⟩,⟨some 104,none,.mov (.t 17)⟩,⟨some 105,none,.call (.fn 19) [(.t 103),(.t 104)] []⟩,⟨some 17,none,.mov (.t 105)⟩] [16,17]) (.seq (.seq (.reg [⟨some 106,none,.mov (.t 17)⟩,⟨some 107,none,.bin .lss false (.t 106) (.c (.int .i64 0))⟩] [16,17,107]) (.cond (.t 107) (.seq (.reg [⟨some 8,none,.mov (.c (.bool false))⟩] [8]) .ret) .skip)) (.seq (.seq (.reg [⟨some 108,none,.mov (.t 17)⟩,⟨some 109,none,.mov (.t 16)⟩,⟨some 110,none,.bin .neq false (.t 108) (.t 109)⟩] [110]) (.cond (.t 110) (.seq (.reg [⟨some 8,none,.mov (.c (.bool false))⟩] [8]) .ret) .skip)) (.seq (.reg [⟨some 8,none,.mov (.c (.bool true))⟩] [8]) .ret)))))))))))))))))))))))))
def cp4 : CP := CP.mk [(35,[1]),(41,[1])] [12,18] [[1,2,3,4],[1,2,3,4,9],[1,2,3,4,9],[1,2,3,4,24],[8],[1,2,3,4,10,11],[1,2,3,4,10,11,12],[1,2,3,4,10,11,12,13,14],[1,2,3,4,10,11,12,13,14,52],[8],[1,2,3,4,10,11,12,13,14,57],[8],[1,2,3,4,10,11,12,13,14,15],[1,2,3,4,10,11,13,14,15],[1,2,3,4,10,11,13,73],[8],[1,2,3,4,10,11,13,16],[1,2,3,4,10,11,13,16],[1,2,3,4,10,11,13,16,17],[1,2,3,4,10,11,13,16,17],[1,2,3,4,10,11,13,16,17,81],[8],[1,2,3,4,10,11,13,16,84],[8],[10,11,13,16,18,19],[13,16,102],[8],[13,16,17],[16,17],[16,17,107],[8],[110],[8],[8]] 111 [] []
theorem s4 : ∀ vs r,g_laws_FnExactPlayClip vs = some r → SaysM Try.prog .any 4 vs r := by
 intro vs r h
 unfold g_laws_FnExactPlayClip at h
 split at h
 ·rename_i y0 y1 w2 w3 y4 y5 y6
  cases hd_y2 : decL dc_en1 w2 with
  | none => rw [hd_y2] at h; cases h
  | some y2 =>
  rw [hd_y2] at h
  obtain rfl := decL_inv dc_en1_inv hd_y2
  clear hd_y2
  dsimp only at h
  cases hd_y3 : decL dc_en2 w3 with
  | none => rw [hd_y3] at h; cases h
  | some y3 =>
  rw [hd_y3] at h
  obtain rfl := decL_inv dc_en2_inv hd_y3
  clear hd_y3
  dsimp only at h
  split at h
  ·rename_i hp
   cases h
   refine spec_of (m := .any) (tab := tabOf [(6,wM .any g_laws_szClip),(8,g_laws_toClip),(11,wM .any g_laws_eqClip),(12,g_laws_markClip),(15,wM .any g_spec_PlayClip),(16,g_impl_PlayClip),(17,wM .any g_laws_eqPoseS),(18,g_laws_markPoseS),(19,wM .any g_laws_heldPoseS)]) (cp := cp4) (ic := ic4) (rvl := [(.t 8)]) hm (tabOk_cons (m := .any) s6 (tabOk_consW s8 (tabOk_cons (m := .any) s11 (tabOk_consW s12 (tabOk_cons (m := .any) s15 (tabOk_consW s16 (tabOk_cons (m := .any) s17 (tabOk_consW s18 (tabOk_cons (m := .any) s19 tabOk_nil))))))))) Try.func4 rfl rfl rfl (by kernel_rfl) rfl (Nat.le_of_ble_eq_true rfl) (Nat.le_of_ble_eq_true rfl) ?_
   show eA _ _ _ _
   unfold ic4
   unfold p_laws_FnExactPlayClip at hp
   (try delta v_laws_FnExactPlayClip_0 at hp)
   (try dsimp only at hp)
   (try simp only [Bool.and_eq_true,Bool.or_eq_true,decide_eq_true_eq,Bool.not_eq_true',decide_eq_false_iff_not] at hp)
   refine eS_to ?_
   repeat' (first
    | ((first | (have h := True.intro; refine eS_of ?_) | (refine eGI_of (fun h => ?_) (fun h => ?_)) | (refine eCc_of (fun h => ?_) (fun h => ?_)) | (refine ePk_of (fun h => ?_) (fun h => ?_))) <;> (try simp only [Bool.not_eq_true',Bool.not_eq_false'] at h) <;> (try first | exact nbA h (by assumption) | exact nbB h (by assumption)) <;> (try simp only [h,reduceCtorEq,grpN,Int.reduceEq,Int.reduceLT,Int.reduceLE,if_true,if_false,reduceIte] at hp) <;> (first | (have h2 := h; simp only [decide_eq_true_eq,decide_eq_false_iff_not] at h2; (first | (replace h2 := eq_false h2) | (replace h2 := eq_true h2)); (try simp only [h2,reduceCtorEq,grpN,Int.reduceEq,Int.reduceLT,Int.reduceLE,if_true,if_false,reduceIte] at hp); replace hp := And.intro h2 hp) | (replace hp := And.intro h hp) | skip) <;> simp only [h,
     hp,grpX,purgeH,Option.map,reduceIte,Nat.reduceEqDiff,Nat.reduceAdd,Nat.reduceMul,Nat.reduceLT,Nat.reduceLeDiff,implies_true,forall_const,eq_self,Int.reduceEq,Int.reduceLE,Int.reduceLT,if_true,if_false,grpK,Int.reduceAdd,Int.reduceSub,Int.reduceMul,Int.reduceNeg,Int.reducePow,Nat.reducePow,Int.reduceToNat,Nat.reduceSub,List.replicate,Nat.reduceBEq,grpE,beq_true,beq_false,g_laws_szClip,g_laws_toClip,g_laws_eqClip,ge_laws_markClip,g_spec_PlayClip,g_impl_PlayClip,g_laws_eqPoseS,ge_laws_markPoseS,g_laws_heldPoseS,↓fresh_clB,↓fresh_clL,loH,pureEs_skip,pureEs_clL,pureEs_clB,lk_clL_lo,lk_clL_a,lk_clL_b,tlE_len,grpG,false_and,and_false,List.length_map,nmap_en1,↓fresh_pl0,↓fresh_pl1,↓fresh_pl2,lk_pl_lo,lk_pl_a,lk_pl_3,lk_pl_11,lk_clL_7,pureEs_skipPl,pos_skip,pos_skipCl,pos_hit,grab_pl0,grab_plC,grab_pcl0,grab_pcl1,grab_pcl2,posE_len,nmapP,grpC,grpY,↓b_pick,ePk_true,ePk_false]))
   all_goals (try simp only [*,m_laws_FnExactPlayClip,v_laws_FnExactPlayClip_0,grpZ,if_true,if_false,reduceIte,decide_true,decide_false])
   all_goals (try (simp_all; done))
  ·cases h
 ·cases h
end Go.Proofs
