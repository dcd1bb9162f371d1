/- What functions that FnExactKeysOf reaches compute. No conditions. -/
import Derived.Test.YtadbhabmahpkiacFwG
import Derived.Test.YtadbhabmahpkiacProg
import Derived.KernelRfl
set_option maxRecDepth 100000
set_option maxHeartbeats 4000000
set_option linter.all false
namespace Go.Proofs
open Go.Ab
theorem hm : Try.prog.follows .mixedOrders = true := by kernel_rfl
theorem fc0 : IntKind.wrap .i64 0 = 0 := by decide
theorem fc1 : IntKind.wrap .i64 1 = 1 := by decide
theorem fc2 : IntKind.wrap .i64 2 = 2 := by decide
theorem fc3 : IntKind.wrap .i64 3 = 3 := by decide
def grpK := And.intro fc0 <| And.intro fc1 <| And.intro fc2 fc3
def en0 (p : (Int × Nat × Nat × Nat × Nat)) : AV := (AV.agg [(.int .i64 p.1),(.flt .f32 p.2.1),(.flt .f32 p.2.2.1),(.flt .f32 p.2.2.2.1),(.flt .f32 p.2.2.2.2)])
def dc_en0 : AV → Option (Int × Nat × Nat × Nat × Nat)
 | .agg [.int .i64 y0,.flt .f32 y1,.flt .f32 y2,.flt .f32 y3,.flt .f32 y4] => some (y0,y1,y2,y3,y4)
 | _ => none
theorem dc_en0_map (ys : List (Int × Nat × Nat × Nat × Nat)) : decL dc_en0 (List.map en0 ys) = some ys := decL_map (d := dc_en0) (e := en0) (fun p => by rfl) ys
theorem dc_en0_inv : ∀ x p,dc_en0 x = some p → x = en0 p := by
 intro x p h; unfold dc_en0 at h; split at h
 ·cases h; rfl
 ·cases h
theorem dc_en0_es (l : List (Int × Nat × Nat × Nat × Nat)) : List.all (List.map en0 l) (esIs 5) = true := all_enc (fun _ => rfl) l
theorem dc_en0_st (l : List (Int × Nat × Nat × Nat × Nat)) : List.all (List.map en0 l) (esSt 5) = true := all_enc (fun _ => rfl) l
theorem en0_app {xs : List (Int × Nat × Nat × Nat × Nat)} {n : Int} {u0 : Int} {u1 : Nat} {u2 : Nat} {u3 : Nat} {u4 : Nat} (h : inB n (xs.length + 1) = true) : ((List.map en0 xs) ++ [(AV.agg [(.int .i64 u0),(.flt .f32 u1),(.flt .f32 u2),(.flt .f32 u3),(.flt .f32 u4)])])[n.toNat]? = some (en0 (atI (xs ++ [(u0,u1,u2,u3,u4)]) n)) := getE_app (e := en0) (v := (u0,u1,u2,u3,u4)) h
theorem en0_set {xs : List (Int × Nat × Nat × Nat × Nat)} {n : Int} {i : Nat} {u0 : Int} {u1 : Nat} {u2 : Nat} {u3 : Nat} {u4 : Nat} (h : inB n xs.length = true) : ((List.map en0 xs).set i (AV.agg [(.int .i64 u0),(.flt .f32 u1),(.flt .f32 u2),(.flt .f32 u3),(.flt .f32 u4)]))[n.toNat]? = some (en0 (atI (xs.set i (u0,u1,u2,u3,u4)) n)) := getE_set (e := en0) (v := (u0,u1,u2,u3,u4)) h
theorem dc_en0_fl (l : List (Int × Nat × Nat × Nat × Nat)) : List.all (List.map en0 l) flatE = true := all_enc (fun _ => rfl) l
def en1 (p : (List (Int × Nat × Nat × Nat × Nat))) : AV := (.sl (List.map en0 p))
def dc_en1 : AV → Option (List (Int × Nat × Nat × Nat × Nat))
 | .sl w0 => (match decL dc_en0 w0 with | some y0 => (some y0) | none => none)
 | _ => none
theorem dc_en1_map (ys : List (List (Int × Nat × Nat × Nat × Nat))) : decL dc_en1 (List.map en1 ys) = some ys := decL_map (d := dc_en1) (e := en1) (fun p => by simp only [dc_en1,en1,dc_en0_map]) ys
theorem dc_en1_inv : ∀ x p,dc_en1 x = some p → x = en1 p := by
 intro x p h; unfold dc_en1 at h; split at h
 ·split at h
  ·rename_i hd0; obtain rfl := decL_inv dc_en0_inv hd0
   cases h; rfl
  ·cases h
 ·cases h
theorem dc_en1_es (l : List (List (Int × Nat × Nat × Nat × Nat))) : List.all (List.map en1 l) (esIs 1) = true := all_enc (fun _ => rfl) l
theorem dc_en1_st (l : List (List (Int × Nat × Nat × Nat × Nat))) : List.all (List.map en1 l) (esSt 1) = true := all_enc (fun _ => rfl) l
def en2 (p : (Int × Nat × Nat × Nat)) : AV := (AV.agg [(.int .i64 p.1),(.flt .f32 p.2.1),(.flt .f32 p.2.2.1),(.flt .f32 p.2.2.2)])
def dc_en2 : AV → Option (Int × Nat × Nat × Nat)
 | .agg [.int .i64 y0,.flt .f32 y1,.flt .f32 y2,.flt .f32 y3] => some (y0,y1,y2,y3)
 | _ => none
theorem dc_en2_map (ys : List (Int × Nat × Nat × Nat)) : decL dc_en2 (List.map en2 ys) = some ys := decL_map (d := dc_en2) (e := en2) (fun p => by rfl) ys
theorem dc_en2_inv : ∀ x p,dc_en2 x = some p → x = en2 p := by
 intro x p h; unfold dc_en2 at h; split at h
 ·cases h; rfl
 ·cases h
theorem dc_en2_es (l : List (Int × Nat × Nat × Nat)) : List.all (List.map en2 l) (esIs 4) = true := all_enc (fun _ => rfl) l
theorem dc_en2_st (l : List (Int × Nat × Nat × Nat)) : List.all (List.map en2 l) (esSt 4) = true := all_enc (fun _ => rfl) l
theorem en2_app {xs : List (Int × Nat × Nat × Nat)} {n : Int} {u0 : Int} {u1 : Nat} {u2 : Nat} {u3 : Nat} (h : inB n (xs.length + 1) = true) : ((List.map en2 xs) ++ [(AV.agg [(.int .i64 u0),(.flt .f32 u1),(.flt .f32 u2),(.flt .f32 u3)])])[n.toNat]? = some (en2 (atI (xs ++ [(u0,u1,u2,u3)]) n)) := getE_app (e := en2) (v := (u0,u1,u2,u3)) h
theorem en2_set {xs : List (Int × Nat × Nat × Nat)} {n : Int} {i : Nat} {u0 : Int} {u1 : Nat} {u2 : Nat} {u3 : Nat} (h : inB n xs.length = true) : ((List.map en2 xs).set i (AV.agg [(.int .i64 u0),(.flt .f32 u1),(.flt .f32 u2),(.flt .f32 u3)]))[n.toNat]? = some (en2 (atI (xs.set i (u0,u1,u2,u3)) n)) := getE_set (e := en2) (v := (u0,u1,u2,u3)) h
theorem dc_en2_fl (l : List (Int × Nat × Nat × Nat)) : List.all (List.map en2 l) flatE = true := all_enc (fun _ => rfl) l
def grpC := And.intro @dc_en0_map <| And.intro @dc_en0_es <| And.intro @dc_en0_st <| And.intro @en0_app <| And.intro @en0_set <| And.intro @dc_en0_fl <| And.intro @dc_en1_map <| And.intro @dc_en1_es <| And.intro @dc_en1_st <| And.intro @dc_en2_map <| And.intro @dc_en2_es <| And.intro @dc_en2_st <| And.intro @en2_app <| And.intro @en2_set @dc_en2_fl
def grpY := And.intro @en0.eq_1 <| And.intro @dc_en0.eq_def <| And.intro @en1.eq_1 <| And.intro @dc_en1.eq_def <| And.intro @en2.eq_1 @dc_en2.eq_def
def m_laws_szKeyS (x0 : (List (Int × Nat × Nat × Nat × Nat))) (x1 : Int) : Int := (if (decide ((IntKind.wrap .i64 (x1 - ((List.length x0 : Nat) : Int))) < 0)) = true then (-1) else (IntKind.wrap .i64 (x1 - ((List.length x0 : Nat) : Int))))
def g_laws_szKeyS : List AV → Option AV
 | [.sl w0,.int .i64 y1] => (match decL dc_en0 w0 with | some y0 => (some (.int .i64 (m_laws_szKeyS y0 y1))) | none => none)
 | _ => none
def ic46 : ICode := (.seq (.reg [⟨some 4,none,.mov (.c (.int .i64 0))⟩] [0,1]) (.seq (.reg [⟨some 5,none,.mov (.t 1)⟩,⟨some 6,none,.mov (.t 0)⟩,⟨some 7,none,.len false (.t 6)⟩,⟨some 8,none,.bin .sub false (.t 5) (.t 7)⟩,⟨some 1,none,.mov (.t 8)⟩] [1]) (.seq (.seq (.reg [⟨some 9,none,.mov (.t 1)⟩,⟨some 10,none,.bin .lss false (.t 9) (.c (.int .i64 0))⟩] [1,10]) (.cond (.t 10) (.seq (.reg [⟨some 4,none,.mov (.c (.int .i64 (-1)))⟩] [4]) .ret) .skip)) (.seq (.reg [⟨some 11,none,.mov (.t 1)⟩,⟨some 4,none,.mov (.t 11)⟩] [4]) .ret))))
def cp46 : CP := CP.mk [] [] [[0,1],[1],[1,10],[4],[4]] 12 [] []
theorem s46 : ∀ vs r,g_laws_szKeyS vs = some r → SaysM Try.prog .any 46 vs r := by
 intro vs r h
 unfold g_laws_szKeyS at h
 split at h
 ·rename_i w0 y1
  cases hd_y0 : decL dc_en0 w0 with
  | none => rw [hd_y0] at h; cases h
  | some y0 =>
  rw [hd_y0] at h
  obtain rfl := decL_inv dc_en0_inv hd_y0
  clear hd_y0
  dsimp only at h
  cases h
  refine spec_of (m := .any) (tab := tabOf []) (cp := cp46) (ic := ic46) (rvl := [(.t 4)]) hm tabOk_nil Try.func46 rfl rfl rfl (by kernel_rfl) rfl (Nat.le_of_ble_eq_true rfl) (Nat.le_of_ble_eq_true rfl) ?_
  show eA _ _ _ _
  unfold ic46
  refine eS_to ?_
  repeat' (first
   | ((first | (have h := True.intro; refine eS_of ?_) | (refine eGI_of (fun h => ?_) (fun h => ?_)) | (refine eCc_of (fun h => ?_) (fun h => ?_))) <;> (try simp only [Bool.not_eq_true',Bool.not_eq_false'] at h) <;> (try first | exact nbA h (by assumption) | exact nbB h (by assumption)) <;> simp only [h,
    grpX,purgeH,Option.map,reduceIte,Nat.reduceEqDiff,Nat.reduceAdd,Nat.reduceMul,Nat.reduceLT,Nat.reduceLeDiff,implies_true,forall_const,eq_self,Int.reduceEq,Int.reduceLE,Int.reduceLT,if_true,if_false,grpK,Int.reduceAdd,Int.reduceSub,Int.reduceMul,Int.reduceNeg,Int.reducePow,Nat.reducePow,Int.reduceToNat,Nat.reduceSub,List.replicate,Nat.reduceBEq,grpE,beq_true,beq_false,grpC,grpY]))
  all_goals (try simp only [*,m_laws_szKeyS,grpZ,if_true,if_false,reduceIte,decide_true,decide_false])
  all_goals (try (simp_all; done))
 ·cases h
def l_laws_szKeySS_0 (x0 : (List (List (Int × Nat × Nat × Nat × Nat)))) : Nat → Int → Int → Option (Bool × Int × Int)
 | 0,_,_ => none
 | n + 1,z0_0,z0_1 => (if (decide (z0_1 < ((List.length x0 : Nat) : Int))) = true then (need (inB z0_1 (List.length x0)) (if (decide ((m_laws_szKeyS (atI x0 z0_1) z0_0) < 0)) = true then (some (true,(-1),default)) else (l_laws_szKeySS_0 x0 n (m_laws_szKeyS (atI x0 z0_1) z0_0) (IntKind.wrap .i64 (z0_1 + 1))))) else (some (false,default,z0_0)))
def m_laws_szKeySS (x0 : (List (List (Int × Nat × Nat × Nat × Nat)))) (x1 : Int) : Int := (if (decide ((IntKind.wrap .i64 (x1 - ((List.length x0 : Nat) : Int))) < 0)) = true then (-1) else (if (Option.getD (l_laws_szKeySS_0 x0 (Int.toNat (((List.length x0 : Nat) : Int) - 0) + 2) (IntKind.wrap .i64 (x1 - ((List.length x0 : Nat) : Int))) 0) default).1 = true then (Option.getD (l_laws_szKeySS_0 x0 (Int.toNat (((List.length x0 : Nat) : Int) - 0) + 2) (IntKind.wrap .i64 (x1 - ((List.length x0 : Nat) : Int))) 0) default).2.1 else (Option.getD (l_laws_szKeySS_0 x0 (Int.toNat (((List.length x0 : Nat) : Int) - 0) + 2) (IntKind.wrap .i64 (x1 - ((List.length x0 : Nat) : Int))) 0) default).2.2))
def p_laws_szKeySS (x0 : (List (List (Int × Nat × Nat × Nat × Nat)))) (x1 : Int) : Bool := ((decide ((IntKind.wrap .i64 (x1 - ((List.length x0 : Nat) : Int))) < 0)) || (Option.isSome (l_laws_szKeySS_0 x0 (Int.toNat (((List.length x0 : Nat) : Int) - 0) + 2) (IntKind.wrap .i64 (x1 - ((List.length x0 : Nat) : Int))) 0)))
def g_laws_szKeySS : List AV → Option AV
 | [.sl w0,.int .i64 y1] => (match decL dc_en1 w0 with | some y0 => (if p_laws_szKeySS y0 y1 = true then some (.int .i64 (m_laws_szKeySS y0 y1)) else none) | none => none)
 | _ => none
def lb25_0 : ICode := (.seq (.seq (.reg [⟨some 12,none,.mov (.t 5)⟩,⟨some 13,none,.mov (.t 0)⟩,⟨some 14,none,.len false (.t 13)⟩,⟨some 15,none,.bin .lss false (.t 12) (.t 14)⟩] [0,1,5,15]) (.cond (.t 15) .skip (.exit 0))) (.seq (.block 1 (.seq (.reg [⟨some 18,none,.mov (.t 0)⟩,⟨some 19,none,.mov (.t 5)⟩,⟨some 20,none,.iaddrS 1 (.t 18) (.t 19)⟩,⟨some 21,none,.load none (.t 20)⟩,⟨some 22,none,.mov (.t 1)⟩,⟨some 23,none,.call (.fn 46) [(.t 21),(.t 22)] []⟩,⟨some 1,none,.mov (.t 23)⟩] [0,1,5]) (.seq (.reg [⟨some 24,none,.mov (.t 1)⟩,⟨some 25,none,.bin .lss false (.t 24) (.c (.int .i64 0))⟩] [0,1,5,25]) (.cond (.t 25) (.seq (.reg [⟨some 4,none,.mov (.c (.int .i64 (-1)))⟩] [4]) .ret) .skip)))) (.reg [⟨some 16,none,.mov (.t 5)⟩,⟨some 17,none,.bin .add false (.t 16) (.c (.int .i64 1))⟩,⟨some 5,none,.mov (.t 17)⟩] [0,1,5])))
def ic25 : ICode := (.seq (.reg [⟨some 4,none,.mov (.c (.int .i64 0))⟩] [0,1]) (.seq (.reg [⟨some 6,none,.mov (.t 1)⟩,⟨some 7,none,.mov (.t 0)⟩,⟨some 8,none,.len false (.t 7)⟩,⟨some 9,none,.bin .sub false (.t 6) (.t 8)⟩,⟨some 1,none,.mov (.t 9)⟩] [0,1]) (.seq (.seq (.reg [⟨some 10,none,.mov (.t 1)⟩,⟨some 11,none,.bin .lss false (.t 10) (.c (.int .i64 0))⟩] [0,1,11]) (.cond (.t 11) (.seq (.reg [⟨some 4,none,.mov (.c (.int .i64 (-1)))⟩] [4]) .ret) .skip)) (.seq (.seq (.reg [⟨some 5,none,.mov (.c (.int .i64 0))⟩] [0,1,5]) (.block 0 (.loop lb25_0))) (.seq (.reg [⟨some 26,none,.mov (.t 1)⟩,⟨some 4,none,.mov (.t 26)⟩] [4]) .ret)))))
def cp25 : CP := CP.mk [] [] [[0,1],[0,1],[0,1,11],[4],[0,1,5],[0,1,5,15],[0,1,5],[0,1,5],[0,1,5,25],[4],[4]] 27 [] []
theorem sl25_0 (x0 : (List (List (Int × Nat × Nat × Nat × Nat)))) : ∀ (n : Nat) (z0_0 : Int) (z0_1 : Int) (o : (Bool × Int × Int)) (K : IExit → St → Prop),l_laws_szKeySS_0 x0 n z0_0 z0_1 = some o → (∀ st,o.1 = true → outM .any st [(.t 4)] = some (.int .i64 o.2.1) → K .ret st) → (∀ st,o.1 = false → Wk st (⟨[(1,(.int .i64 o.2.2))],[]⟩ : St) → K (.exit 0) st) → eA (tabOf [(46,wM .any g_laws_szKeyS)]) (.loop lb25_0) (⟨[(0,(.sl (List.map en1 x0))),(1,(.int .i64 z0_0)),(5,(.int .i64 z0_1))],[]⟩ : St) K := by
 intro n
 induction n with
 | zero =>
  intro z0_0 z0_1 o K h h0 h1
  simp only [l_laws_szKeySS_0,reduceCtorEq] at h
 | succ n ih =>
  intro z0_0 z0_1 o K h h0 h1
  refine eA_loop ?_
  unfold lb25_0
  unfold l_laws_szKeySS_0 at h
  (try simp only [need_iff] at h)
  simp only [
   need_iff,h,grpX,purgeH,Option.map,reduceIte,Nat.reduceEqDiff,Nat.reduceAdd,Nat.reduceMul,Nat.reduceLT,Nat.reduceLeDiff,implies_true,forall_const,eq_self,Int.reduceEq,Int.reduceLE,Int.reduceLT,if_true,if_false,grpK,Int.reduceAdd,Int.reduceSub,Int.reduceMul,Int.reduceNeg,Int.reducePow,Nat.reducePow,Int.reduceToNat,Nat.reduceSub,List.replicate,Nat.reduceBEq,grpE,beq_true,beq_false,g_laws_szKeyS,grpC,grpY]
  repeat' (first
   | ((first | (refine eGI_of (fun hc => ?_) (fun hc => ?_)) | (refine eCc_of (fun hc => ?_) (fun hc => ?_)) | (have hc := True.intro; refine KW_refl ?_)) <;> (try simp only [Bool.not_eq_true',Bool.not_eq_false'] at hc) <;> (try simp only [hc,need_iff,reduceCtorEq,grpN,Int.reduceEq,Int.reduceLT,Int.reduceLE,if_true,if_false,reduceIte] at h) <;> (first | (have hc2 := hc; simp only [decide_eq_true_eq,decide_eq_false_iff_not] at hc2; (first | (replace hc2 := eq_false hc2) | (replace hc2 := eq_true hc2)); (try simp only [hc2,need_iff,reduceCtorEq,grpN,Int.reduceEq,Int.reduceLT,Int.reduceLE,if_true,if_false,reduceIte] at h); replace h := And.intro hc2 h) | (replace h := And.intro hc h) | skip) <;> simp only [hc,
   need_iff,h,grpX,purgeH,Option.map,reduceIte,Nat.reduceEqDiff,Nat.reduceAdd,Nat.reduceMul,Nat.reduceLT,Nat.reduceLeDiff,implies_true,forall_const,eq_self,Int.reduceEq,Int.reduceLE,Int.reduceLT,if_true,if_false,grpK,Int.reduceAdd,Int.reduceSub,Int.reduceMul,Int.reduceNeg,Int.reducePow,Nat.reducePow,Int.reduceToNat,Nat.reduceSub,List.replicate,Nat.reduceBEq,grpE,beq_true,beq_false,g_laws_szKeyS,grpC,grpY]))
  all_goals (have hf := h)
  all_goals (repeat (replace h := And.right h))
  all_goals ((first | (refine eA_wk (wk_norm (ks := [0,1,5]) (ls := []) ?_) (eA_cast ?_ (ih _ _ _ _ h h0 h1))) | (cases h; have h := True.intro; refine h0 _ rfl ?_) | (cases h; have h := True.intro; refine h1 _ rfl (Wk.cast (wk_norm (ks := [1]) (ls := []) ?_) ?_))) <;> simp only [normOk,optIn,blkIn,nameIn,normS,List.map_append,List.length_append,List.map_set,List.length_set,List.map_replicate,List.length_replicate,List.map_nil,List.map_cons,
   need_iff,h,hf,grpX,purgeH,Option.map,reduceIte,Nat.reduceEqDiff,Nat.reduceAdd,Nat.reduceMul,Nat.reduceLT,Nat.reduceLeDiff,implies_true,forall_const,eq_self,Int.reduceEq,Int.reduceLE,Int.reduceLT,if_true,if_false,grpK,Int.reduceAdd,Int.reduceSub,Int.reduceMul,Int.reduceNeg,Int.reducePow,Nat.reducePow,Int.reduceToNat,Nat.reduceSub,List.replicate,Nat.reduceBEq,grpE,beq_true,beq_false,g_laws_szKeyS,grpC,grpY] <;> first | rfl | (simp only [Nat.add_comm]; done))
theorem s25 : ∀ vs r,g_laws_szKeySS vs = some r → SaysM Try.prog .any 25 vs r := by
 intro vs r h
 unfold g_laws_szKeySS at h
 split at h
 ·rename_i w0 y1
  cases hd_y0 : decL dc_en1 w0 with
  | none => rw [hd_y0] at h; cases h
  | some y0 =>
  rw [hd_y0] at h
  obtain rfl := decL_inv dc_en1_inv hd_y0
  clear hd_y0
  dsimp only at h
  split at h
  ·rename_i hp
   cases h
   refine spec_of (m := .any) (tab := tabOf [(46,wM .any g_laws_szKeyS)]) (cp := cp25) (ic := ic25) (rvl := [(.t 4)]) hm (tabOk_cons (m := .any) s46 tabOk_nil) Try.func25 rfl rfl rfl (by kernel_rfl) rfl (Nat.le_of_ble_eq_true rfl) (Nat.le_of_ble_eq_true rfl) ?_
   show eA _ _ _ _
   unfold ic25
   simp only [p_laws_szKeySS,Bool.and_eq_true,Bool.or_eq_true,decide_eq_true_eq,Bool.not_eq_true',decide_eq_false_iff_not] at hp
   refine eS_to ?_
   repeat' (first
    | ((first | (have h := True.intro; refine eS_of ?_) | (refine eGI_of (fun h => ?_) (fun h => ?_)) | (refine eCc_of (fun h => ?_) (fun h => ?_)) | (have h := True.intro; refine KW_refl ?_)) <;> (try simp only [Bool.not_eq_true',Bool.not_eq_false'] at h) <;> (try first | exact nbA h (by assumption) | exact nbB h (by assumption)) <;> (try simp only [h,reduceCtorEq,grpN,Int.reduceEq,Int.reduceLT,Int.reduceLE,if_true,if_false,reduceIte] at hp) <;> (first | (have h2 := h; simp only [decide_eq_true_eq,decide_eq_false_iff_not] at h2; (first | (replace h2 := eq_false h2) | (replace h2 := eq_true h2)); (try simp only [h2,reduceCtorEq,grpN,Int.reduceEq,Int.reduceLT,Int.reduceLE,if_true,if_false,reduceIte] at hp); replace hp := And.intro h2 hp) | (replace hp := And.intro h hp) | skip) <;> simp only [h,
     hp,grpX,purgeH,Option.map,reduceIte,Nat.reduceEqDiff,Nat.reduceAdd,Nat.reduceMul,Nat.reduceLT,Nat.reduceLeDiff,implies_true,forall_const,eq_self,Int.reduceEq,Int.reduceLE,Int.reduceLT,if_true,if_false,grpK,Int.reduceAdd,Int.reduceSub,Int.reduceMul,Int.reduceNeg,Int.reducePow,Nat.reducePow,Int.reduceToNat,Nat.reduceSub,List.replicate,Nat.reduceBEq,grpE,beq_true,beq_false,g_laws_szKeyS,grpC,grpY])
    | (refine eA_wk (wk_norm (ks := [0,1,5]) (ls := []) ?_) (eA_cast ?_ (sl25_0 y0 _ _ _ _ _ (getD_some (d := default) (x := (l_laws_szKeySS_0 y0 (Int.toNat (((List.length y0 : Nat) : Int) - 0) + 2) (IntKind.wrap .i64 (y1 - ((List.length y0 : Nat) : Int))) 0)) ?_) ?_ ?_)); (iterate 2 (simp only [nilS,nilV,nilB,normOk,optIn,blkIn,nameIn,normS,List.map_append,List.length_append,List.map_set,List.length_set,List.map_replicate,List.length_replicate,List.map_nil,List.map_cons,
     hp,grpX,purgeH,Option.map,reduceIte,Nat.reduceEqDiff,Nat.reduceAdd,Nat.reduceMul,Nat.reduceLT,Nat.reduceLeDiff,implies_true,forall_const,eq_self,Int.reduceEq,Int.reduceLE,Int.reduceLT,if_true,if_false,grpK,Int.reduceAdd,Int.reduceSub,Int.reduceMul,Int.reduceNeg,Int.reducePow,Nat.reducePow,Int.reduceToNat,Nat.reduceSub,List.replicate,Nat.reduceBEq,grpE,beq_true,beq_false,g_laws_szKeyS,grpC,grpY] <;> first | rfl | (simp only [Nat.add_comm]; done))); (simp only [hp]); (
    intro st2 ht hw; simp only [Kq_ret,Kb_ret,Kl_ret,ret_ok]; first | exact h0 _ hw | exact h0 _ rfl hw | exact h1 _ rfl hw | exact h0 _ ht hw | exact h1 _ ht hw | (simp only [ht,need_iff,reduceCtorEq,grpN,Int.reduceEq,Int.reduceLT,Int.reduceLE,if_true,if_false,reduceIte] at h; (repeat (replace h := And.right h)); cases h; first | exact h0 _ hw | exact h0 _ rfl hw | exact h1 _ rfl hw) | refine ⟨_,hw,?_⟩); rotate_left; (
    intro st2 ht hw; (try simp only [ht,reduceCtorEq,grpN,Int.reduceEq,Int.reduceLT,Int.reduceLE,if_true,if_false,reduceIte] at hp); (try replace hp := And.intro ht hp); simp only [
Kq_exit,Kq_normal,Kq_ret,Kb_exit,Kb_normal,Kb_ret,Kl_exit,Kl_normal,Kl_ret,reduceIte,Nat.reduceEqDiff,if_true,if_false,eq_self]; refine KW_of hw ?_; simp only [ht,
     hp,grpX,purgeH,Option.map,reduceIte,Nat.reduceEqDiff,Nat.reduceAdd,Nat.reduceMul,Nat.reduceLT,Nat.reduceLeDiff,implies_true,forall_const,eq_self,Int.reduceEq,Int.reduceLE,Int.reduceLT,if_true,if_false,grpK,Int.reduceAdd,Int.reduceSub,Int.reduceMul,Int.reduceNeg,Int.reducePow,Nat.reducePow,Int.reduceToNat,Nat.reduceSub,List.replicate,Nat.reduceBEq,grpE,beq_true,beq_false,g_laws_szKeyS,grpC,grpY])))
   all_goals (try simp only [*,m_laws_szKeySS,grpZ,if_true,if_false,reduceIte,decide_true,decide_false])
   all_goals (try (simp_all; done))
  ·cases h
 ·cases h
def m_laws_szRootKeyS (x0 : (List (Int × Nat × Nat × Nat))) (x1 : Int) : Int := (if (decide ((IntKind.wrap .i64 (x1 - ((List.length x0 : Nat) : Int))) < 0)) = true then (-1) else (IntKind.wrap .i64 (x1 - ((List.length x0 : Nat) : Int))))
def g_laws_szRootKeyS : List AV → Option AV
 | [.sl w0,.int .i64 y1] => (match decL dc_en2 w0 with | some y0 => (some (.int .i64 (m_laws_szRootKeyS y0 y1))) | none => none)
 | _ => none
def ic26 : ICode := (.seq (.reg [⟨some 4,none,.mov (.c (.int .i64 0))⟩] [0,1]) (.seq (.reg [⟨some 5,none,.mov (.t 1)⟩,⟨some 6,none,.mov (.t 0)⟩,⟨some 7,none,.len false (.t 6)⟩,⟨some 8,none,.bin .sub false (.t 5) (.t 7)⟩,⟨some 1,none,.mov (.t 8)⟩] [1]) (.seq (.seq (.reg [⟨some 9,none,.mov (.t 1)⟩,⟨some 10,none,.bin .lss false (.t 9) (.c (.int .i64 0))⟩] [1,10]) (.cond (.t 10) (.seq (.reg [⟨some 4,none,.mov (.c (.int .i64 (-1)))⟩] [4]) .ret) .skip)) (.seq (.reg [⟨some 11,none,.mov (.t 1)⟩,⟨some 4,none,.mov (.t 11)⟩] [4]) .ret))))
def cp26 : CP := CP.mk [] [] [[0,1],[1],[1,10],[4],[4]] 12 [] []
theorem s26 : ∀ vs r,g_laws_szRootKeyS vs = some r → SaysM Try.prog .any 26 vs r := by
 intro vs r h
 unfold g_laws_szRootKeyS at h
 split at h
 ·rename_i w0 y1
  cases hd_y0 : decL dc_en2 w0 with
  | none => rw [hd_y0] at h; cases h
  | some y0 =>
  rw [hd_y0] at h
  obtain rfl := decL_inv dc_en2_inv hd_y0
  clear hd_y0
  dsimp only at h
  cases h
  refine spec_of (m := .any) (tab := tabOf []) (cp := cp26) (ic := ic26) (rvl := [(.t 4)]) hm tabOk_nil Try.func26 rfl rfl rfl (by kernel_rfl) rfl (Nat.le_of_ble_eq_true rfl) (Nat.le_of_ble_eq_true rfl) ?_
  show eA _ _ _ _
  unfold ic26
  refine eS_to ?_
  repeat' (first
   | ((first | (have h := True.intro; refine eS_of ?_) | (refine eGI_of (fun h => ?_) (fun h => ?_)) | (refine eCc_of (fun h => ?_) (fun h => ?_))) <;> (try simp only [Bool.not_eq_true',Bool.not_eq_false'] at h) <;> (try first | exact nbA h (by assumption) | exact nbB h (by assumption)) <;> simp only [h,
    grpX,purgeH,Option.map,reduceIte,Nat.reduceEqDiff,Nat.reduceAdd,Nat.reduceMul,Nat.reduceLT,Nat.reduceLeDiff,implies_true,forall_const,eq_self,Int.reduceEq,Int.reduceLE,Int.reduceLT,if_true,if_false,grpK,Int.reduceAdd,Int.reduceSub,Int.reduceMul,Int.reduceNeg,Int.reducePow,Nat.reducePow,Int.reduceToNat,Nat.reduceSub,List.replicate,Nat.reduceBEq,grpE,beq_true,beq_false,grpC,grpY]))
  all_goals (try simp only [*,m_laws_szRootKeyS,grpZ,if_true,if_false,reduceIte,decide_true,decide_false])
  all_goals (try (simp_all; done))
 ·cases h
def m_laws_szClip (x0 : (Int × Int × (List (List (Int × Nat × Nat × Nat × Nat))) × (List (Int × Nat × Nat × Nat)))) (x1 : Int) : Int := (if (decide ((m_laws_szKeySS x0.2.2.1 x1) < 0)) = true then (-1) else (if (decide ((m_laws_szRootKeyS x0.2.2.2 (m_laws_szKeySS x0.2.2.1 x1)) < 0)) = true then (-1) else (m_laws_szRootKeyS x0.2.2.2 (m_laws_szKeySS x0.2.2.1 x1))))
def p_laws_szClip (x0 : (Int × Int × (List (List (Int × Nat × Nat × Nat × Nat))) × (List (Int × Nat × Nat × Nat)))) (x1 : Int) : Bool := (p_laws_szKeySS x0.2.2.1 x1)
def g_laws_szClip : List AV → Option AV
 | [.agg [.int .i64 y0,.int .i64 y1,.sl w2,.sl w3],.int .i64 y4] => (match decL dc_en1 w2 with | some y2 => ((match decL dc_en2 w3 with | some y3 => (if p_laws_szClip (y0,y1,y2,y3) y4 = true then some (.int .i64 (m_laws_szClip (y0,y1,y2,y3) y4)) else none) | none => none)) | none => none)
 | _ => none
def ic6 : ICode := (.seq (.reg [⟨some 2,none,.box 4 (.t 0)⟩,⟨some 4,none,.mov (.c (.int .i64 0))⟩] [1,2]) (.seq (.reg [⟨some 5,none,.faddr 2 (.t 2)⟩,⟨some 6,none,.load none (.t 5)⟩,⟨some 7,none,.mov (.t 1)⟩,⟨some 8,none,.call (.fn 25) [(.t 6),(.t 7)] []⟩,⟨some 1,none,.mov (.t 8)⟩] [1,2]) (.seq (.seq (.reg [⟨some 9,none,.mov (.t 1)⟩,⟨some 10,none,.bin .lss false (.t 9) (.c (.int .i64 0))⟩] [1,2,10]) (.cond (.t 10) (.seq (.reg [⟨some 4,none,.mov (.c (.int .i64 (-1)))⟩] [4]) .ret) .skip)) (.seq (.reg [⟨some 11,none,.faddr 3 (.t 2)⟩,⟨some 12,none,.load none (.t 11)⟩,⟨some 13,none,.mov (.t 1)⟩,⟨some 14,none,.call (.fn 26) [(.t 12),(.t 13)] []⟩,⟨some 1,none,.mov (.t 14)⟩] [1]) (.seq (.seq (.reg [⟨some 15,none,.mov (.t 1)⟩,⟨some 16,none,.bin .lss false (.t 15) (.c (.int .i64 0))⟩] [1,16]) (.cond (.t 16) (.seq (.reg [⟨some 4,none,.mov (.c (.int .i64 (-1)))⟩] [4]) .ret) .skip)) (.seq (.reg [⟨some 17,none,.mov (.t 1)⟩,⟨some 4,none,.mov (.t 17)⟩] [4]) .ret))))))
def cp6 : CP := CP.mk [] [] [[1,2],[1,2],[1,2,10],[4],[1],[1,16],[4],[4]] 18 [] []
theorem s6 : ∀ vs r,g_laws_szClip vs = some r → SaysM Try.prog .any 6 vs r := by
 intro vs r h
 unfold g_laws_szClip at h
 split at h
 ·rename_i y0 y1 w2 w3 y4
  cases hd_y2 : decL dc_en1 w2 with
  | none => rw [hd_y2] at h; cases h
  | some y2 =>
  rw [hd_y2] at h
  obtain rfl := decL_inv dc_en1_inv hd_y2
  clear hd_y2
  dsimp only at h
  cases hd_y3 : decL dc_en2 w3 with
  | none => rw [hd_y3] at h; cases h
  | some y3 =>
  rw [hd_y3] at h
  obtain rfl := decL_inv dc_en2_inv hd_y3
  clear hd_y3
  dsimp only at h
  split at h
  ·rename_i hp
   cases h
   refine spec_of (m := .any) (tab := tabOf [(25,wM .any g_laws_szKeySS),(26,wM .any g_laws_szRootKeyS)]) (cp := cp6) (ic := ic6) (rvl := [(.t 4)]) hm (tabOk_cons (m := .any) s25 (tabOk_cons (m := .any) s26 tabOk_nil)) Try.func6 rfl rfl rfl (by kernel_rfl) rfl (Nat.le_of_ble_eq_true rfl) (Nat.le_of_ble_eq_true rfl) ?_
   show eA _ _ _ _
   unfold ic6
   simp only [p_laws_szClip,Bool.and_eq_true,Bool.or_eq_true,decide_eq_true_eq,Bool.not_eq_true',decide_eq_false_iff_not] at hp
   refine eS_to ?_
   repeat' (first
    | ((first | (have h := True.intro; refine eS_of ?_) | (refine eGI_of (fun h => ?_) (fun h => ?_)) | (refine eCc_of (fun h => ?_) (fun h => ?_))) <;> (try simp only [Bool.not_eq_true',Bool.not_eq_false'] at h) <;> (try first | exact nbA h (by assumption) | exact nbB h (by assumption)) <;> (try simp only [h,reduceCtorEq,grpN,Int.reduceEq,Int.reduceLT,Int.reduceLE,if_true,if_false,reduceIte] at hp) <;> (first | (have h2 := h; simp only [decide_eq_true_eq,decide_eq_false_iff_not] at h2; (first | (replace h2 := eq_false h2) | (replace h2 := eq_true h2)); (try simp only [h2,reduceCtorEq,grpN,Int.reduceEq,Int.reduceLT,Int.reduceLE,if_true,if_false,reduceIte] at hp); replace hp := And.intro h2 hp) | (replace hp := And.intro h hp) | skip) <;> simp only [h,
     hp,grpX,purgeH,Option.map,reduceIte,Nat.reduceEqDiff,Nat.reduceAdd,Nat.reduceMul,Nat.reduceLT,Nat.reduceLeDiff,implies_true,forall_const,eq_self,Int.reduceEq,Int.reduceLE,Int.reduceLT,if_true,if_false,grpK,Int.reduceAdd,Int.reduceSub,Int.reduceMul,Int.reduceNeg,Int.reducePow,Nat.reducePow,Int.reduceToNat,Nat.reduceSub,List.replicate,Nat.reduceBEq,grpE,beq_true,beq_false,g_laws_szKeySS,g_laws_szRootKeyS,grpC,grpY]))
   all_goals (try simp only [*,m_laws_szClip,grpZ,if_true,if_false,reduceIte,decide_true,decide_false])
   all_goals (try (simp_all; done))
  ·cases h
 ·cases h
def m_laws_toTurn (x0 : (Nat × Nat × Nat × Nat)) : (Nat × Nat × Nat × Nat) := x0
def g_laws_toTurn : List AV → Option AV
 | [.agg [.flt .f32 y0,.flt .f32 y1,.flt .f32 y2,.flt .f32 y3]] => some (AV.agg [(.flt .f32 (m_laws_toTurn (y0,y1,y2,y3)).1),(.flt .f32 (m_laws_toTurn (y0,y1,y2,y3)).2.1),(.flt .f32 (m_laws_toTurn (y0,y1,y2,y3)).2.2.1),(.flt .f32 (m_laws_toTurn (y0,y1,y2,y3)).2.2.2)])
 | _ => none
def ic102 : ICode := (.seq (.reg [⟨some 1,none,.box 4 (.t 0)⟩,⟨some 2,none,.alloc (.agg [(.flt .f32 0),(.flt .f32 0),(.flt .f32 0),(.flt .f32 0)])⟩] [1,2]) (.seq (.reg [⟨some 3,none,.alloc (.agg [(.flt .f32 0),(.flt .f32 0),(.flt .f32 0),(.flt .f32 0)])⟩] [1,2,3]) (.seq (.reg [⟨some 4,none,.faddr 0 (.t 1)⟩,⟨some 5,none,.load none (.t 4)⟩,⟨some 6,none,.faddr 0 (.t 3)⟩,⟨none,none,(.store 1 (.t 6) (.t 5))⟩] [1,2,3]) (.seq (.reg [⟨some 7,none,.faddr 1 (.t 1)⟩,⟨some 8,none,.load none (.t 7)⟩,⟨some 9,none,.faddr 1 (.t 3)⟩,⟨none,none,(.store 1 (.t 9) (.t 8))⟩] [1,2,3]) (.seq (.reg [⟨some 10,none,.faddr 2 (.t 1)⟩,⟨some 11,none,.load none (.t 10)⟩,⟨some 12,none,.faddr 2 (.t 3)⟩,⟨none,none,(.store 1 (.t 12) (.t 11))⟩] [1,2,3]) (.seq (.reg [⟨some 13,none,.faddr 3 (.t 1)⟩,⟨some 14,none,.load none (.t 13)⟩,⟨some 15,none,.faddr 3 (.t 3)⟩,⟨none,none,(.store 1 (.t 15) (.t 14))⟩] [2,3]) (.seq (.reg [⟨some 16,none,.load (some 4) (.t 3)⟩,⟨none,none,(.store 4 (.t 2) (.t 16))⟩] [2]) .ret)))))))
def cp102 : CP := CP.mk [] [] [[1,2],[1,2,3],[1,2,3],[1,2,3],[1,2,3],[2,3],[2]] 17 [] []
theorem s102 : ∀ vs r,g_laws_toTurn vs = some r → SaysM Try.prog .any 102 vs r := by
 intro vs r h
 unfold g_laws_toTurn at h
 split at h
 ·rename_i y0 y1 y2 y3
  cases h
  refine spec_of (m := .any) (tab := tabOf []) (cp := cp102) (ic := ic102) (rvl := [(.c 2 (some 4))]) hm tabOk_nil Try.func102 rfl rfl rfl (by kernel_rfl) rfl (Nat.le_of_ble_eq_true rfl) (Nat.le_of_ble_eq_true rfl) ?_
  show eA _ _ _ _
  unfold ic102
  simp only [
    grpX,purgeH,Option.map,reduceIte,Nat.reduceEqDiff,Nat.reduceAdd,Nat.reduceMul,Nat.reduceLT,Nat.reduceLeDiff,implies_true,forall_const,eq_self,Int.reduceEq,Int.reduceLE,Int.reduceLT,if_true,if_false,grpK,Int.reduceAdd,Int.reduceSub,Int.reduceMul,Int.reduceNeg,Int.reducePow,Nat.reducePow,Int.reduceToNat,Nat.reduceSub,List.replicate,Nat.reduceBEq,grpE,beq_true,beq_false,grpC,grpY]
  all_goals (try simp only [*,m_laws_toTurn,grpZ,if_true,if_false,reduceIte,decide_true,decide_false])
  all_goals (try (simp_all; done))
 ·cases h
def m_laws_toKey (x0 : (Int × Nat × Nat × Nat × Nat)) : (Int × Nat × Nat × Nat × Nat) := (x0.1,(m_laws_toTurn x0.2).1,(m_laws_toTurn x0.2).2.1,(m_laws_toTurn x0.2).2.2.1,(m_laws_toTurn x0.2).2.2.2)
def g_laws_toKey : List AV → Option AV
 | [.agg [.int .i64 y0,.flt .f32 y1,.flt .f32 y2,.flt .f32 y3,.flt .f32 y4]] => some (AV.agg [(.int .i64 (m_laws_toKey (y0,y1,y2,y3,y4)).1),(.flt .f32 (m_laws_toKey (y0,y1,y2,y3,y4)).2.1),(.flt .f32 (m_laws_toKey (y0,y1,y2,y3,y4)).2.2.1),(.flt .f32 (m_laws_toKey (y0,y1,y2,y3,y4)).2.2.2.1),(.flt .f32 (m_laws_toKey (y0,y1,y2,y3,y4)).2.2.2.2)])
 | _ => none
def ic71 : ICode := (.seq (.reg [⟨some 1,none,.box 5 (.t 0)⟩,⟨some 2,none,.alloc (.agg [(.int .i64 0),(.flt .f32 0),(.flt .f32 0),(.flt .f32 0),(.flt .f32 0)])⟩] [1,2]) (.seq (.reg [⟨some 3,none,.alloc (.agg [(.int .i64 0),(.flt .f32 0),(.flt .f32 0),(.flt .f32 0),(.flt .f32 0)])⟩] [1,2,3]) (.seq (.reg [⟨some 4,none,.faddr 0 (.t 1)⟩,⟨some 5,none,.load none (.t 4)⟩,⟨some 6,none,.faddr 0 (.t 3)⟩,⟨none,none,(.store 1 (.t 6) (.t 5))⟩] [1,2,3]) (.seq (.reg [⟨some 7,none,.faddr 1 (.t 1)⟩,⟨some 8,none,.load (some 4) (.t 7)⟩,⟨some 9,none,.call (.fn 102) [(.t 8)] []⟩,⟨some 10,none,.faddr 1 (.t 3)⟩,⟨none,none,(.store 4 (.t 10) (.t 9))⟩] [2,3]) (.seq (.reg [⟨some 11,none,.load (some 5) (.t 3)⟩,⟨none,none,(.store 5 (.t 2) (.t 11))⟩] [2]) .ret)))))
def cp71 : CP := CP.mk [] [] [[1,2],[1,2,3],[1,2,3],[2,3],[2]] 12 [] []
theorem s71 : ∀ vs r,g_laws_toKey vs = some r → SaysM Try.prog .any 71 vs r := by
 intro vs r h
 unfold g_laws_toKey at h
 split at h
 ·rename_i y0 y1 y2 y3 y4
  cases h
  refine spec_of (m := .any) (tab := tabOf [(102,wM .any g_laws_toTurn)]) (cp := cp71) (ic := ic71) (rvl := [(.c 2 (some 5))]) hm (tabOk_cons (m := .any) s102 tabOk_nil) Try.func71 rfl rfl rfl (by kernel_rfl) rfl (Nat.le_of_ble_eq_true rfl) (Nat.le_of_ble_eq_true rfl) ?_
  show eA _ _ _ _
  unfold ic71
  simp only [
    grpX,purgeH,Option.map,reduceIte,Nat.reduceEqDiff,Nat.reduceAdd,Nat.reduceMul,Nat.reduceLT,Nat.reduceLeDiff,implies_true,forall_const,eq_self,Int.reduceEq,Int.reduceLE,Int.reduceLT,if_true,if_false,grpK,Int.reduceAdd,Int.reduceSub,Int.reduceMul,Int.reduceNeg,Int.reducePow,Nat.reducePow,Int.reduceToNat,Nat.reduceSub,List.replicate,Nat.reduceBEq,grpE,beq_true,beq_false,g_laws_toTurn,grpC,grpY]
  all_goals (try simp only [*,m_laws_toKey,grpZ,if_true,if_false,reduceIte,decide_true,decide_false])
  all_goals (try (simp_all; done))
 ·cases h
def l_laws_toKeyS_0 (x0 : (List (Int × Nat × Nat × Nat × Nat))) : Nat → (List (Int × Nat × Nat × Nat × Nat)) → Int → Option (List (Int × Nat × Nat × Nat × Nat))
 | 0,_,_ => none
 | n + 1,z0_0,z0_1 => (if (decide (z0_1 < ((List.length x0 : Nat) : Int))) = true then (need (inB z0_1 (List.length x0)) (need (inB z0_1 (List.length z0_0)) (l_laws_toKeyS_0 x0 n (List.set z0_0 (Int.toNat z0_1) (m_laws_toKey (atI x0 z0_1))) (IntKind.wrap .i64 (z0_1 + 1))))) else (some z0_0))
def m_laws_toKeyS (x0 : (List (Int × Nat × Nat × Nat × Nat))) : (List (Int × Nat × Nat × Nat × Nat)) := (Option.getD (l_laws_toKeyS_0 x0 (Int.toNat (((List.length x0 : Nat) : Int) - 0) + 2) (List.replicate (Int.toNat ((List.length x0 : Nat) : Int)) (0,0,0,0,0)) 0) default)
def p_laws_toKeyS (x0 : (List (Int × Nat × Nat × Nat × Nat))) : Bool := ((decide (0 ≤ ((List.length x0 : Nat) : Int))) && ((decide (((List.length x0 : Nat) : Int) * 24 ≤ 70368744177664)) && ((decide (((List.length x0 : Nat) : Int) ≤ 70368744177664)) && (Option.isSome (l_laws_toKeyS_0 x0 (Int.toNat (((List.length x0 : Nat) : Int) - 0) + 2) (List.replicate (Int.toNat ((List.length x0 : Nat) : Int)) (0,0,0,0,0)) 0)))))
def g_laws_toKeyS : List AV → Option AV
 | [.sl w0] => (match decL dc_en0 w0 with | some y0 => (if p_laws_toKeyS y0 = true then some (.sl (List.map en0 (m_laws_toKeyS y0))) else none) | none => none)
 | _ => none
def lb52_0 : ICode := (.seq (.seq (.reg [⟨some 8,none,.mov (.t 4)⟩,⟨some 9,none,.mov (.t 0)⟩,⟨some 10,none,.len false (.t 9)⟩,⟨some 11,none,.bin .lss false (.t 8) (.t 10)⟩] [0,3,4,11]) (.cond (.t 11) .skip (.exit 0))) (.seq (.block 1 (.reg [⟨some 14,none,.mov (.t 3)⟩,⟨some 15,none,.mov (.t 4)⟩,⟨some 16,none,.mov (.t 0)⟩,⟨some 17,none,.mov (.t 4)⟩,⟨some 18,none,.iaddrS 5 (.t 16) (.t 17)⟩,⟨some 19,none,.load (some 5) (.t 18)⟩,⟨some 20,none,.call (.fn 71) [(.t 19)] []⟩,⟨some 21,none,.iaddrS 5 (.t 14) (.t 15)⟩,⟨none,none,(.store 5 (.t 21) (.t 20))⟩] [0,3,4])) (.reg [⟨some 12,none,.mov (.t 4)⟩,⟨some 13,none,.bin .add false (.t 12) (.c (.int .i64 1))⟩,⟨some 4,none,.mov (.t 13)⟩] [0,3,4])))
def ic52 : ICode := (.seq (.reg [⟨some 2,none,.mov (.c .snil)⟩] [0]) (.seq (.reg [⟨some 5,none,.mov (.t 0)⟩,⟨some 6,none,.len false (.t 5)⟩,⟨some 7,none,.mkslice 5 24 (.agg [(.int .i64 0),(.flt .f32 0),(.flt .f32 0),(.flt .f32 0),(.flt .f32 0)]) (.t 6) (.t 6)⟩,⟨some 3,none,.mov (.t 7)⟩] [0,3]) (.seq (.seq (.reg [⟨some 4,none,.mov (.c (.int .i64 0))⟩] [0,3,4]) (.block 0 (.loop lb52_0))) (.seq (.reg [⟨some 22,none,.mov (.t 3)⟩,⟨some 2,none,.mov (.t 22)⟩] [2]) .ret))))
def cp52 : CP := CP.mk [] [] [[0],[0,3],[0,3,4],[0,3,4,11],[0,3,4],[0,3,4],[2]] 23 [] []
theorem sl52_0 (x0 : (List (Int × Nat × Nat × Nat × Nat))) : ∀ (n : Nat) (z0_0 : (List (Int × Nat × Nat × Nat × Nat))) (z0_1 : Int) (o : (List (Int × Nat × Nat × Nat × Nat))) (K : IExit → St → Prop),l_laws_toKeyS_0 x0 n z0_0 z0_1 = some o → (∀ st,Wk st (⟨[(3,(.lsl 7 0 (List.length o)))],[(7,(some ⟨5,true,(List.map en0 o)⟩))]⟩ : St) → K (.exit 0) st) → eA (tabOf [(71,wM .any g_laws_toKey)]) (.loop lb52_0) (⟨[(0,(.sl (List.map en0 x0))),(3,(.lsl 7 0 (List.length z0_0))),(4,(.int .i64 z0_1))],[(7,(some ⟨5,true,(List.map en0 z0_0)⟩))]⟩ : St) K := by
 intro n
 induction n with
 | zero =>
  intro z0_0 z0_1 o K h h0
  simp only [l_laws_toKeyS_0,reduceCtorEq] at h
 | succ n ih =>
  intro z0_0 z0_1 o K h h0
  refine eA_loop ?_
  unfold lb52_0
  unfold l_laws_toKeyS_0 at h
  (try simp only [need_iff] at h)
  simp only [
   need_iff,h,grpX,purgeH,Option.map,reduceIte,Nat.reduceEqDiff,Nat.reduceAdd,Nat.reduceMul,Nat.reduceLT,Nat.reduceLeDiff,implies_true,forall_const,eq_self,Int.reduceEq,Int.reduceLE,Int.reduceLT,if_true,if_false,grpK,Int.reduceAdd,Int.reduceSub,Int.reduceMul,Int.reduceNeg,Int.reducePow,Nat.reducePow,Int.reduceToNat,Nat.reduceSub,List.replicate,Nat.reduceBEq,grpE,beq_true,beq_false,g_laws_toKey,grpC,grpY]
  repeat' (first
   | ((first | (refine eGI_of (fun hc => ?_) (fun hc => ?_)) | (refine eCc_of (fun hc => ?_) (fun hc => ?_)) | (have hc := True.intro; refine KW_refl ?_)) <;> (try simp only [Bool.not_eq_true',Bool.not_eq_false'] at hc) <;> (try simp only [hc,need_iff,reduceCtorEq,grpN,Int.reduceEq,Int.reduceLT,Int.reduceLE,if_true,if_false,reduceIte] at h) <;> (first | (have hc2 := hc; simp only [decide_eq_true_eq,decide_eq_false_iff_not] at hc2; (first | (replace hc2 := eq_false hc2) | (replace hc2 := eq_true hc2)); (try simp only [hc2,need_iff,reduceCtorEq,grpN,Int.reduceEq,Int.reduceLT,Int.reduceLE,if_true,if_false,reduceIte] at h); replace h := And.intro hc2 h) | (replace h := And.intro hc h) | skip) <;> simp only [hc,
   need_iff,h,grpX,purgeH,Option.map,reduceIte,Nat.reduceEqDiff,Nat.reduceAdd,Nat.reduceMul,Nat.reduceLT,Nat.reduceLeDiff,implies_true,forall_const,eq_self,Int.reduceEq,Int.reduceLE,Int.reduceLT,if_true,if_false,grpK,Int.reduceAdd,Int.reduceSub,Int.reduceMul,Int.reduceNeg,Int.reducePow,Nat.reducePow,Int.reduceToNat,Nat.reduceSub,List.replicate,Nat.reduceBEq,grpE,beq_true,beq_false,g_laws_toKey,grpC,grpY]))
  all_goals (have hf := h)
  all_goals (repeat (replace h := And.right h))
  all_goals ((first | (refine eA_wk (wk_norm (ks := [0,3,4]) (ls := [7]) ?_) (eA_cast ?_ (ih _ _ _ _ h h0))) | (cases h; have h := True.intro; refine h0 _ (Wk.cast (wk_norm (ks := [3]) (ls := [7]) ?_) ?_))) <;> simp only [normOk,optIn,blkIn,nameIn,normS,List.map_append,List.length_append,List.map_set,List.length_set,List.map_replicate,List.length_replicate,List.map_nil,List.map_cons,
   need_iff,h,hf,grpX,purgeH,Option.map,reduceIte,Nat.reduceEqDiff,Nat.reduceAdd,Nat.reduceMul,Nat.reduceLT,Nat.reduceLeDiff,implies_true,forall_const,eq_self,Int.reduceEq,Int.reduceLE,Int.reduceLT,if_true,if_false,grpK,Int.reduceAdd,Int.reduceSub,Int.reduceMul,Int.reduceNeg,Int.reducePow,Nat.reducePow,Int.reduceToNat,Nat.reduceSub,List.replicate,Nat.reduceBEq,grpE,beq_true,beq_false,g_laws_toKey,grpC,grpY] <;> first | rfl | (simp only [Nat.add_comm]; done))
theorem s52 : ∀ vs r,g_laws_toKeyS vs = some r → SaysM Try.prog (.own [5]) 52 vs r := by
 intro vs r h
 unfold g_laws_toKeyS at h
 split at h
 ·rename_i w0
  cases hd_y0 : decL dc_en0 w0 with
  | none => rw [hd_y0] at h; cases h
  | some y0 =>
  rw [hd_y0] at h
  obtain rfl := decL_inv dc_en0_inv hd_y0
  clear hd_y0
  dsimp only at h
  split at h
  ·rename_i hp
   cases h
   refine spec_of (m := (.own [5])) (tab := tabOf [(71,wM .any g_laws_toKey)]) (cp := cp52) (ic := ic52) (rvl := [(.t 2)]) hm (tabOk_cons (m := .any) s71 tabOk_nil) Try.func52 rfl rfl rfl (by kernel_rfl) rfl (Nat.le_of_ble_eq_true rfl) (Nat.le_of_ble_eq_true rfl) ?_
   show eA _ _ _ _
   unfold ic52
   simp only [p_laws_toKeyS,Bool.and_eq_true,Bool.or_eq_true,decide_eq_true_eq,Bool.not_eq_true',decide_eq_false_iff_not] at hp
   refine eS_to ?_
   repeat' (first
    | ((first | (have h := True.intro; refine eS_of ?_) | (refine eGI_of (fun h => ?_) (fun h => ?_)) | (refine eCc_of (fun h => ?_) (fun h => ?_)) | (have h := True.intro; refine KW_refl ?_)) <;> (try simp only [Bool.not_eq_true',Bool.not_eq_false'] at h) <;> (try first | exact nbA h (by assumption) | exact nbB h (by assumption)) <;> (try simp only [h,reduceCtorEq,grpN,Int.reduceEq,Int.reduceLT,Int.reduceLE,if_true,if_false,reduceIte] at hp) <;> (first | (have h2 := h; simp only [decide_eq_true_eq,decide_eq_false_iff_not] at h2; (first | (replace h2 := eq_false h2) | (replace h2 := eq_true h2)); (try simp only [h2,reduceCtorEq,grpN,Int.reduceEq,Int.reduceLT,Int.reduceLE,if_true,if_false,reduceIte] at hp); replace hp := And.intro h2 hp) | (replace hp := And.intro h hp) | skip) <;> simp only [h,
     hp,grpX,purgeH,Option.map,reduceIte,Nat.reduceEqDiff,Nat.reduceAdd,Nat.reduceMul,Nat.reduceLT,Nat.reduceLeDiff,implies_true,forall_const,eq_self,Int.reduceEq,Int.reduceLE,Int.reduceLT,if_true,if_false,grpK,Int.reduceAdd,Int.reduceSub,Int.reduceMul,Int.reduceNeg,Int.reducePow,Nat.reducePow,Int.reduceToNat,Nat.reduceSub,List.replicate,Nat.reduceBEq,grpE,beq_true,beq_false,g_laws_toKey,grpC,grpY])
    | (refine eA_wk (wk_norm (ks := [0,3,4]) (ls := [7]) ?_) (eA_cast ?_ (sl52_0 y0 _ _ _ _ _ (getD_some (d := default) (x := (l_laws_toKeyS_0 y0 (Int.toNat (((List.length y0 : Nat) : Int) - 0) + 2) (List.replicate (Int.toNat ((List.length y0 : Nat) : Int)) (0,0,0,0,0)) 0)) ?_) ?_)); (iterate 2 (simp only [nilS,nilV,nilB,normOk,optIn,blkIn,nameIn,normS,List.map_append,List.length_append,List.map_set,List.length_set,List.map_replicate,List.length_replicate,List.map_nil,List.map_cons,
     hp,grpX,purgeH,Option.map,reduceIte,Nat.reduceEqDiff,Nat.reduceAdd,Nat.reduceMul,Nat.reduceLT,Nat.reduceLeDiff,implies_true,forall_const,eq_self,Int.reduceEq,Int.reduceLE,Int.reduceLT,if_true,if_false,grpK,Int.reduceAdd,Int.reduceSub,Int.reduceMul,Int.reduceNeg,Int.reducePow,Nat.reducePow,Int.reduceToNat,Nat.reduceSub,List.replicate,Nat.reduceBEq,grpE,beq_true,beq_false,g_laws_toKey,grpC,grpY] <;> first | rfl | (simp only [Nat.add_comm]; done))); (simp only [hp]); (
    intro st2 hw; (try simp only [reduceCtorEq,grpN,Int.reduceEq,Int.reduceLT,Int.reduceLE,if_true,if_false,reduceIte] at hp); (try replace hp := And.intro ht hp); simp only [
Kq_exit,Kq_normal,Kq_ret,Kb_exit,Kb_normal,Kb_ret,Kl_exit,Kl_normal,Kl_ret,reduceIte,Nat.reduceEqDiff,if_true,if_false,eq_self]; refine KW_of hw ?_; simp only [
     hp,grpX,purgeH,Option.map,reduceIte,Nat.reduceEqDiff,Nat.reduceAdd,Nat.reduceMul,Nat.reduceLT,Nat.reduceLeDiff,implies_true,forall_const,eq_self,Int.reduceEq,Int.reduceLE,Int.reduceLT,if_true,if_false,grpK,Int.reduceAdd,Int.reduceSub,Int.reduceMul,Int.reduceNeg,Int.reducePow,Nat.reducePow,Int.reduceToNat,Nat.reduceSub,List.replicate,Nat.reduceBEq,grpE,beq_true,beq_false,g_laws_toKey,grpC,grpY])))
   all_goals (try simp only [*,m_laws_toKeyS,grpZ,if_true,if_false,reduceIte,decide_true,decide_false])
   all_goals (try (simp_all; done))
  ·cases h
 ·cases h
def m_laws_toVector (x0 : (Nat × Nat × Nat)) : (Nat × Nat × Nat) := x0
def g_laws_toVector : List AV → Option AV
 | [.agg [.flt .f32 y0,.flt .f32 y1,.flt .f32 y2]] => some (AV.agg [(.flt .f32 (m_laws_toVector (y0,y1,y2)).1),(.flt .f32 (m_laws_toVector (y0,y1,y2)).2.1),(.flt .f32 (m_laws_toVector (y0,y1,y2)).2.2)])
 | _ => none
def ic72 : ICode := (.seq (.reg [⟨some 1,none,.box 3 (.t 0)⟩,⟨some 2,none,.alloc (.agg [(.flt .f32 0),(.flt .f32 0),(.flt .f32 0)])⟩] [1,2]) (.seq (.reg [⟨some 3,none,.alloc (.agg [(.flt .f32 0),(.flt .f32 0),(.flt .f32 0)])⟩] [1,2,3]) (.seq (.reg [⟨some 4,none,.faddr 0 (.t 1)⟩,⟨some 5,none,.load none (.t 4)⟩,⟨some 6,none,.faddr 0 (.t 3)⟩,⟨none,none,(.store 1 (.t 6) (.t 5))⟩] [1,2,3]) (.seq (.reg [⟨some 7,none,.faddr 1 (.t 1)⟩,⟨some 8,none,.load none (.t 7)⟩,⟨some 9,none,.faddr 1 (.t 3)⟩,⟨none,none,(.store 1 (.t 9) (.t 8))⟩] [1,2,3]) (.seq (.reg [⟨some 10,none,.faddr 2 (.t 1)⟩,⟨some 11,none,.load none (.t 10)⟩,⟨some 12,none,.faddr 2 (.t 3)⟩,⟨none,none,(.store 1 (.t 12) (.t 11))⟩] [2,3]) (.seq (.reg [⟨some 13,none,.load (some 3) (.t 3)⟩,⟨none,none,(.store 3 (.t 2) (.t 13))⟩] [2]) .ret))))))
def cp72 : CP := CP.mk [] [] [[1,2],[1,2,3],[1,2,3],[1,2,3],[2,3],[2]] 14 [] []
theorem s72 : ∀ vs r,g_laws_toVector vs = some r → SaysM Try.prog .any 72 vs r := by
 intro vs r h
 unfold g_laws_toVector at h
 split at h
 ·rename_i y0 y1 y2
  cases h
  refine spec_of (m := .any) (tab := tabOf []) (cp := cp72) (ic := ic72) (rvl := [(.c 2 (some 3))]) hm tabOk_nil Try.func72 rfl rfl rfl (by kernel_rfl) rfl (Nat.le_of_ble_eq_true rfl) (Nat.le_of_ble_eq_true rfl) ?_
  show eA _ _ _ _
  unfold ic72
  simp only [
    grpX,purgeH,Option.map,reduceIte,Nat.reduceEqDiff,Nat.reduceAdd,Nat.reduceMul,Nat.reduceLT,Nat.reduceLeDiff,implies_true,forall_const,eq_self,Int.reduceEq,Int.reduceLE,Int.reduceLT,if_true,if_false,grpK,Int.reduceAdd,Int.reduceSub,Int.reduceMul,Int.reduceNeg,Int.reducePow,Nat.reducePow,Int.reduceToNat,Nat.reduceSub,List.replicate,Nat.reduceBEq,grpE,beq_true,beq_false,grpC,grpY]
  all_goals (try simp only [*,m_laws_toVector,grpZ,if_true,if_false,reduceIte,decide_true,decide_false])
  all_goals (try (simp_all; done))
 ·cases h
def m_laws_toRootKey (x0 : (Int × Nat × Nat × Nat)) : (Int × Nat × Nat × Nat) := (x0.1,(m_laws_toVector x0.2).1,(m_laws_toVector x0.2).2.1,(m_laws_toVector x0.2).2.2)
def g_laws_toRootKey : List AV → Option AV
 | [.agg [.int .i64 y0,.flt .f32 y1,.flt .f32 y2,.flt .f32 y3]] => some (AV.agg [(.int .i64 (m_laws_toRootKey (y0,y1,y2,y3)).1),(.flt .f32 (m_laws_toRootKey (y0,y1,y2,y3)).2.1),(.flt .f32 (m_laws_toRootKey (y0,y1,y2,y3)).2.2.1),(.flt .f32 (m_laws_toRootKey (y0,y1,y2,y3)).2.2.2)])
 | _ => none
def ic53 : ICode := (.seq (.reg [⟨some 1,none,.box 4 (.t 0)⟩,⟨some 2,none,.alloc (.agg [(.int .i64 0),(.flt .f32 0),(.flt .f32 0),(.flt .f32 0)])⟩] [1,2]) (.seq (.reg [⟨some 3,none,.alloc (.agg [(.int .i64 0),(.flt .f32 0),(.flt .f32 0),(.flt .f32 0)])⟩] [1,2,3]) (.seq (.reg [⟨some 4,none,.faddr 0 (.t 1)⟩,⟨some 5,none,.load none (.t 4)⟩,⟨some 6,none,.faddr 0 (.t 3)⟩,⟨none,none,(.store 1 (.t 6) (.t 5))⟩] [1,2,3]) (.seq (.reg [⟨some 7,none,.faddr 1 (.t 1)⟩,⟨some 8,none,.load (some 3) (.t 7)⟩,⟨some 9,none,.call (.fn 72) [(.t 8)] []⟩,⟨some 10,none,.faddr 1 (.t 3)⟩,⟨none,none,(.store 3 (.t 10) (.t 9))⟩] [2,3]) (.seq (.reg [⟨some 11,none,.load (some 4) (.t 3)⟩,⟨none,none,(.store 4 (.t 2) (.t 11))⟩] [2]) .ret)))))
def cp53 : CP := CP.mk [] [] [[1,2],[1,2,3],[1,2,3],[2,3],[2]] 12 [] []
theorem s53 : ∀ vs r,g_laws_toRootKey vs = some r → SaysM Try.prog .any 53 vs r := by
 intro vs r h
 unfold g_laws_toRootKey at h
 split at h
 ·rename_i y0 y1 y2 y3
  cases h
  refine spec_of (m := .any) (tab := tabOf [(72,wM .any g_laws_toVector)]) (cp := cp53) (ic := ic53) (rvl := [(.c 2 (some 4))]) hm (tabOk_cons (m := .any) s72 tabOk_nil) Try.func53 rfl rfl rfl (by kernel_rfl) rfl (Nat.le_of_ble_eq_true rfl) (Nat.le_of_ble_eq_true rfl) ?_
  show eA _ _ _ _
  unfold ic53
  simp only [
    grpX,purgeH,Option.map,reduceIte,Nat.reduceEqDiff,Nat.reduceAdd,Nat.reduceMul,Nat.reduceLT,Nat.reduceLeDiff,implies_true,forall_const,eq_self,Int.reduceEq,Int.reduceLE,Int.reduceLT,if_true,if_false,grpK,Int.reduceAdd,Int.reduceSub,Int.reduceMul,Int.reduceNeg,Int.reducePow,Nat.reducePow,Int.reduceToNat,Nat.reduceSub,List.replicate,Nat.reduceBEq,grpE,beq_true,beq_false,g_laws_toVector,grpC,grpY]
  all_goals (try simp only [*,m_laws_toRootKey,grpZ,if_true,if_false,reduceIte,decide_true,decide_false])
  all_goals (try (simp_all; done))
 ·cases h
def l_laws_toRootKeyS_0 (x0 : (List (Int × Nat × Nat × Nat))) : Nat → (List (Int × Nat × Nat × Nat)) → Int → Option (List (Int × Nat × Nat × Nat))
 | 0,_,_ => none
 | n + 1,z0_0,z0_1 => (if (decide (z0_1 < ((List.length x0 : Nat) : Int))) = true then (need (inB z0_1 (List.length x0)) (need (inB z0_1 (List.length z0_0)) (l_laws_toRootKeyS_0 x0 n (List.set z0_0 (Int.toNat z0_1) (m_laws_toRootKey (atI x0 z0_1))) (IntKind.wrap .i64 (z0_1 + 1))))) else (some z0_0))
def m_laws_toRootKeyS (x0 : (List (Int × Nat × Nat × Nat))) : (List (Int × Nat × Nat × Nat)) := (Option.getD (l_laws_toRootKeyS_0 x0 (Int.toNat (((List.length x0 : Nat) : Int) - 0) + 2) (List.replicate (Int.toNat ((List.length x0 : Nat) : Int)) (0,0,0,0)) 0) default)
def p_laws_toRootKeyS (x0 : (List (Int × Nat × Nat × Nat))) : Bool := ((decide (0 ≤ ((List.length x0 : Nat) : Int))) && ((decide (((List.length x0 : Nat) : Int) * 24 ≤ 70368744177664)) && ((decide (((List.length x0 : Nat) : Int) ≤ 70368744177664)) && (Option.isSome (l_laws_toRootKeyS_0 x0 (Int.toNat (((List.length x0 : Nat) : Int) - 0) + 2) (List.replicate (Int.toNat ((List.length x0 : Nat) : Int)) (0,0,0,0)) 0)))))
def g_laws_toRootKeyS : List AV → Option AV
 | [.sl w0] => (match decL dc_en2 w0 with | some y0 => (if p_laws_toRootKeyS y0 = true then some (.sl (List.map en2 (m_laws_toRootKeyS y0))) else none) | none => none)
 | _ => none
def lb31_0 : ICode := (.seq (.seq (.reg [⟨some 8,none,.mov (.t 4)⟩,⟨some 9,none,.mov (.t 0)⟩,⟨some 10,none,.len false (.t 9)⟩,⟨some 11,none,.bin .lss false (.t 8) (.t 10)⟩] [0,3,4,11]) (.cond (.t 11) .skip (.exit 0))) (.seq (.block 1 (.reg [⟨some 14,none,.mov (.t 3)⟩,⟨some 15,none,.mov (.t 4)⟩,⟨some 16,none,.mov (.t 0)⟩,⟨some 17,none,.mov (.t 4)⟩,⟨some 18,none,.iaddrS 4 (.t 16) (.t 17)⟩,⟨some 19,none,.load (some 4) (.t 18)⟩,⟨some 20,none,.call (.fn 53) [(.t 19)] []⟩,⟨some 21,none,.iaddrS 4 (.t 14) (.t 15)⟩,⟨none,none,(.store 4 (.t 21) (.t 20))⟩] [0,3,4])) (.reg [⟨some 12,none,.mov (.t 4)⟩,⟨some 13,none,.bin .add false (.t 12) (.c (.int .i64 1))⟩,⟨some 4,none,.mov (.t 13)⟩] [0,3,4])))
def ic31 : ICode := (.seq (.reg [⟨some 2,none,.mov (.c .snil)⟩] [0]) (.seq (.reg [⟨some 5,none,.mov (.t 0)⟩,⟨some 6,none,.len false (.t 5)⟩,⟨some 7,none,.mkslice 4 24 (.agg [(.int .i64 0),(.flt .f32 0),(.flt .f32 0),(.flt .f32 0)]) (.t 6) (.t 6)⟩,⟨some 3,none,.mov (.t 7)⟩] [0,3]) (.seq (.seq (.reg [⟨some 4,none,.mov (.c (.int .i64 0))⟩] [0,3,4]) (.block 0 (.loop lb31_0))) (.seq (.reg [⟨some 22,none,.mov (.t 3)⟩,⟨some 2,none,.mov (.t 22)⟩] [2]) .ret))))
def cp31 : CP := CP.mk [] [] [[0],[0,3],[0,3,4],[0,3,4,11],[0,3,4],[0,3,4],[2]] 23 [] []
theorem sl31_0 (x0 : (List (Int × Nat × Nat × Nat))) : ∀ (n : Nat) (z0_0 : (List (Int × Nat × Nat × Nat))) (z0_1 : Int) (o : (List (Int × Nat × Nat × Nat))) (K : IExit → St → Prop),l_laws_toRootKeyS_0 x0 n z0_0 z0_1 = some o → (∀ st,Wk st (⟨[(3,(.lsl 7 0 (List.length o)))],[(7,(some ⟨4,true,(List.map en2 o)⟩))]⟩ : St) → K (.exit 0) st) → eA (tabOf [(53,wM .any g_laws_toRootKey)]) (.loop lb31_0) (⟨[(0,(.sl (List.map en2 x0))),(3,(.lsl 7 0 (List.length z0_0))),(4,(.int .i64 z0_1))],[(7,(some ⟨4,true,(List.map en2 z0_0)⟩))]⟩ : St) K := by
 intro n
 induction n with
 | zero =>
  intro z0_0 z0_1 o K h h0
  simp only [l_laws_toRootKeyS_0,reduceCtorEq] at h
 | succ n ih =>
  intro z0_0 z0_1 o K h h0
  refine eA_loop ?_
  unfold lb31_0
  unfold l_laws_toRootKeyS_0 at h
  (try simp only [need_iff] at h)
  simp only [
   need_iff,h,grpX,purgeH,Option.map,reduceIte,Nat.reduceEqDiff,Nat.reduceAdd,Nat.reduceMul,Nat.reduceLT,Nat.reduceLeDiff,implies_true,forall_const,eq_self,Int.reduceEq,Int.reduceLE,Int.reduceLT,if_true,if_false,grpK,Int.reduceAdd,Int.reduceSub,Int.reduceMul,Int.reduceNeg,Int.reducePow,Nat.reducePow,Int.reduceToNat,Nat.reduceSub,List.replicate,Nat.reduceBEq,grpE,beq_true,beq_false,g_laws_toRootKey,grpC,grpY]
  repeat' (first
   | ((first | (refine eGI_of (fun hc => ?_) (fun hc => ?_)) | (refine eCc_of (fun hc => ?_) (fun hc => ?_)) | (have hc := True.intro; refine KW_refl ?_)) <;> (try simp only [Bool.not_eq_true',Bool.not_eq_false'] at hc) <;> (try simp only [hc,need_iff,reduceCtorEq,grpN,Int.reduceEq,Int.reduceLT,Int.reduceLE,if_true,if_false,reduceIte] at h) <;> (first | (have hc2 := hc; simp only [decide_eq_true_eq,decide_eq_false_iff_not] at hc2; (first | (replace hc2 := eq_false hc2) | (replace hc2 := eq_true hc2)); (try simp only [hc2,need_iff,reduceCtorEq,grpN,Int.reduceEq,Int.reduceLT,Int.reduceLE,if_true,if_false,reduceIte] at h); replace h := And.intro hc2 h) | (replace h := And.intro hc h) | skip) <;> simp only [hc,
   need_iff,h,grpX,purgeH,Option.map,reduceIte,Nat.reduceEqDiff,Nat.reduceAdd,Nat.reduceMul,Nat.reduceLT,Nat.reduceLeDiff,implies_true,forall_const,eq_self,Int.reduceEq,Int.reduceLE,Int.reduceLT,if_true,if_false,grpK,Int.reduceAdd,Int.reduceSub,Int.reduceMul,Int.reduceNeg,Int.reducePow,Nat.reducePow,Int.reduceToNat,Nat.reduceSub,List.replicate,Nat.reduceBEq,grpE,beq_true,beq_false,g_laws_toRootKey,grpC,grpY]))
  all_goals (have hf := h)
  all_goals (repeat (replace h := And.right h))
  all_goals ((first | (refine eA_wk (wk_norm (ks := [0,3,4]) (ls := [7]) ?_) (eA_cast ?_ (ih _ _ _ _ h h0))) | (cases h; have h := True.intro; refine h0 _ (Wk.cast (wk_norm (ks := [3]) (ls := [7]) ?_) ?_))) <;> simp only [normOk,optIn,blkIn,nameIn,normS,List.map_append,List.length_append,List.map_set,List.length_set,List.map_replicate,List.length_replicate,List.map_nil,List.map_cons,
   need_iff,h,hf,grpX,purgeH,Option.map,reduceIte,Nat.reduceEqDiff,Nat.reduceAdd,Nat.reduceMul,Nat.reduceLT,Nat.reduceLeDiff,implies_true,forall_const,eq_self,Int.reduceEq,Int.reduceLE,Int.reduceLT,if_true,if_false,grpK,Int.reduceAdd,Int.reduceSub,Int.reduceMul,Int.reduceNeg,Int.reducePow,Nat.reducePow,Int.reduceToNat,Nat.reduceSub,List.replicate,Nat.reduceBEq,grpE,beq_true,beq_false,g_laws_toRootKey,grpC,grpY] <;> first | rfl | (simp only [Nat.add_comm]; done))
theorem s31 : ∀ vs r,g_laws_toRootKeyS vs = some r → SaysM Try.prog (.own [4]) 31 vs r := by
 intro vs r h
 unfold g_laws_toRootKeyS at h
 split at h
 ·rename_i w0
  cases hd_y0 : decL dc_en2 w0 with
  | none => rw [hd_y0] at h; cases h
  | some y0 =>
  rw [hd_y0] at h
  obtain rfl := decL_inv dc_en2_inv hd_y0
  clear hd_y0
  dsimp only at h
  split at h
  ·rename_i hp
   cases h
   refine spec_of (m := (.own [4])) (tab := tabOf [(53,wM .any g_laws_toRootKey)]) (cp := cp31) (ic := ic31) (rvl := [(.t 2)]) hm (tabOk_cons (m := .any) s53 tabOk_nil) Try.func31 rfl rfl rfl (by kernel_rfl) rfl (Nat.le_of_ble_eq_true rfl) (Nat.le_of_ble_eq_true rfl) ?_
   show eA _ _ _ _
   unfold ic31
   simp only [p_laws_toRootKeyS,Bool.and_eq_true,Bool.or_eq_true,decide_eq_true_eq,Bool.not_eq_true',decide_eq_false_iff_not] at hp
   refine eS_to ?_
   repeat' (first
    | ((first | (have h := True.intro; refine eS_of ?_) | (refine eGI_of (fun h => ?_) (fun h => ?_)) | (refine eCc_of (fun h => ?_) (fun h => ?_)) | (have h := True.intro; refine KW_refl ?_)) <;> (try simp only [Bool.not_eq_true',Bool.not_eq_false'] at h) <;> (try first | exact nbA h (by assumption) | exact nbB h (by assumption)) <;> (try simp only [h,reduceCtorEq,grpN,Int.reduceEq,Int.reduceLT,Int.reduceLE,if_true,if_false,reduceIte] at hp) <;> (first | (have h2 := h; simp only [decide_eq_true_eq,decide_eq_false_iff_not] at h2; (first | (replace h2 := eq_false h2) | (replace h2 := eq_true h2)); (try simp only [h2,reduceCtorEq,grpN,Int.reduceEq,Int.reduceLT,Int.reduceLE,if_true,if_false,reduceIte] at hp); replace hp := And.intro h2 hp) | (replace hp := And.intro h hp) | skip) <;> simp only [h,
     hp,grpX,purgeH,Option.map,reduceIte,Nat.reduceEqDiff,Nat.reduceAdd,Nat.reduceMul,Nat.reduceLT,Nat.reduceLeDiff,implies_true,forall_const,eq_self,Int.reduceEq,Int.reduceLE,Int.reduceLT,if_true,if_false,grpK,Int.reduceAdd,Int.reduceSub,Int.reduceMul,Int.reduceNeg,Int.reducePow,Nat.reducePow,Int.reduceToNat,Nat.reduceSub,List.replicate,Nat.reduceBEq,grpE,beq_true,beq_false,g_laws_toRootKey,grpC,grpY])
    | (refine eA_wk (wk_norm (ks := [0,3,4]) (ls := [7]) ?_) (eA_cast ?_ (sl31_0 y0 _ _ _ _ _ (getD_some (d := default) (x := (l_laws_toRootKeyS_0 y0 (Int.toNat (((List.length y0 : Nat) : Int) - 0) + 2) (List.replicate (Int.toNat ((List.length y0 : Nat) : Int)) (0,0,0,0)) 0)) ?_) ?_)); (iterate 2 (simp only [nilS,nilV,nilB,normOk,optIn,blkIn,nameIn,normS,List.map_append,List.length_append,List.map_set,List.length_set,List.map_replicate,List.length_replicate,List.map_nil,List.map_cons,
     hp,grpX,purgeH,Option.map,reduceIte,Nat.reduceEqDiff,Nat.reduceAdd,Nat.reduceMul,Nat.reduceLT,Nat.reduceLeDiff,implies_true,forall_const,eq_self,Int.reduceEq,Int.reduceLE,Int.reduceLT,if_true,if_false,grpK,Int.reduceAdd,Int.reduceSub,Int.reduceMul,Int.reduceNeg,Int.reducePow,Nat.reducePow,Int.reduceToNat,Nat.reduceSub,List.replicate,Nat.reduceBEq,grpE,beq_true,beq_false,g_laws_toRootKey,grpC,grpY] <;> first | rfl | (simp only [Nat.add_comm]; done))); (simp only [hp]); (
    intro st2 hw; (try simp only [reduceCtorEq,grpN,Int.reduceEq,Int.reduceLT,Int.reduceLE,if_true,if_false,reduceIte] at hp); (try replace hp := And.intro ht hp); simp only [
Kq_exit,Kq_normal,Kq_ret,Kb_exit,Kb_normal,Kb_ret,Kl_exit,Kl_normal,Kl_ret,reduceIte,Nat.reduceEqDiff,if_true,if_false,eq_self]; refine KW_of hw ?_; simp only [
     hp,grpX,purgeH,Option.map,reduceIte,Nat.reduceEqDiff,Nat.reduceAdd,Nat.reduceMul,Nat.reduceLT,Nat.reduceLeDiff,implies_true,forall_const,eq_self,Int.reduceEq,Int.reduceLE,Int.reduceLT,if_true,if_false,grpK,Int.reduceAdd,Int.reduceSub,Int.reduceMul,Int.reduceNeg,Int.reducePow,Nat.reducePow,Int.reduceToNat,Nat.reduceSub,List.replicate,Nat.reduceBEq,grpE,beq_true,beq_false,g_laws_toRootKey,grpC,grpY])))
   all_goals (try simp only [*,m_laws_toRootKeyS,grpZ,if_true,if_false,reduceIte,decide_true,decide_false])
   all_goals (try (simp_all; done))
  ·cases h
 ·cases h
def m_laws_toKeySS (x0 : (List (List (Int × Nat × Nat × Nat × Nat)))) : (List (List (Int × Nat × Nat × Nat × Nat))) := List.map m_laws_toKeyS x0
def p_laws_toKeySS (x0 : (List (List (Int × Nat × Nat × Nat × Nat)))) : Bool := ((decide (List.length x0 * 24 ≤ 70368744177664)) && ((decide (List.length x0 ≤ 70368744177664)) && (List.all x0 p_laws_toKeyS)))
def g_laws_toKeySS : List AV → Option (AV × Md)
 | [.sl w0] => (match decL dc_en1 w0 with | some y0 => (if p_laws_toKeySS y0 = true then some (.sl (List.map en1 (m_laws_toKeySS y0)),.ownH (.lsl 1000003 0 (List.length y0)) (clB 1000003 1000019 5 (List.map (List.map en0) (m_laws_toKeySS y0)))) else none) | none => none)
 | _ => none
theorem nmap_en1 (x : (List (List (Int × Nat × Nat × Nat × Nat)))) : List.map AV.sl (List.map (List.map en0) x) = List.map en1 x := by rw [map_sl]; rfl
def cp30 : CP := CP.mk [(20,[5])] [] [[0],[0,3],[0,3,4],[0,3,4,11],[0,3,4],[0,3,4],[2]] 23 [] []
theorem s30 : ∀ vs r m,g_laws_toKeySS vs = some (r,m) → SaysX Try.prog m 30 vs r := by
 intro vs r m h
 unfold g_laws_toKeySS at h
 split at h
 ·rename_i w0
  cases hd : decL dc_en1 w0 with
  | none => rw [hd] at h; cases h
  | some y0 =>
  rw [hd] at h
  obtain rfl := decL_inv dc_en1_inv hd
  clear hd
  dsimp only at h
  split at h
  ·rename_i hp
   cases h
   simp only [p_laws_toKeySS,Bool.and_eq_true,decide_eq_true_eq,List.all_eq_true] at hp
   obtain ⟨h1,h2,h3⟩ := hp
   have key := toSS (tab := tabOf [(52,wM (.own [5]) g_laws_toKeyS)]) (f := 52) (es := 5) (bytes := 24) (xss := List.map (List.map en0) y0) (yss := List.map (List.map en0) (m_laws_toKeySS y0)) (by simp [m_laws_toKeySS]) (by simpa using h1) (by simpa using h2) (all_fl dc_en0_fl _) (fun i x y hx hy => by
    simp only [List.getElem?_map,Option.map_eq_some_iff,m_laws_toKeySS] at hx hy
    obtain ⟨a,ha,rfl⟩ := hx
    obtain ⟨b,⟨a',ha',rfl⟩,rfl⟩ := hy
    rw [ha] at ha'; cases ha'
    have hpa := h3 _ (List.mem_of_getElem? ha)
    simp only [tabOf_cons,if_pos,wM_eq,g_laws_toKeyS,dc_en0_map,hpa,withM_some])
   rw [nmap_en1,nmap_en1,List.length_map] at key
   exact spec_ofO (cp := cp30) (ic := icTo 52 5 24) (rvl := [(.t 2)]) hm (tabOk_cons (m := (.own [5])) s52 tabOk_nil) Try.func30 rfl rfl rfl (by kernel_rfl) rfl cl_cls (Nat.le_of_ble_eq_true rfl) (Nat.le_of_ble_eq_true rfl) key
  ·cases h
 ·cases h
def m_laws_toClip (x0 : (Int × Int × (List (List (Int × Nat × Nat × Nat × Nat))) × (List (Int × Nat × Nat × Nat)))) : (Int × Int × (List (List (Int × Nat × Nat × Nat × Nat))) × (List (Int × Nat × Nat × Nat))) := (x0.1,x0.2.1,m_laws_toKeySS x0.2.2.1,m_laws_toRootKeyS x0.2.2.2)
def p_laws_toClip (x0 : (Int × Int × (List (List (Int × Nat × Nat × Nat × Nat))) × (List (Int × Nat × Nat × Nat)))) : Bool := (p_laws_toKeySS x0.2.2.1 && p_laws_toRootKeyS x0.2.2.2)
def g_laws_toClip : List AV → Option (AV × Md)
 | [.agg [.int .i64 y0,.int .i64 y1,.sl w2,.sl w3]] => (match decL dc_en1 w2 with | some y2 => ((match decL dc_en2 w3 with | some y3 => (if p_laws_toClip (y0,y1,y2,y3) = true then some (.agg [.int .i64 (m_laws_toClip (y0,y1,y2,y3)).1,.int .i64 (m_laws_toClip (y0,y1,y2,y3)).2.1,.sl (List.map en1 (m_laws_toClip (y0,y1,y2,y3)).2.2.1),.sl (List.map en2 (m_laws_toClip (y0,y1,y2,y3)).2.2.2)],
   .ownH (.agg [.int .i64 (m_laws_toClip (y0,y1,y2,y3)).1,.int .i64 (m_laws_toClip (y0,y1,y2,y3)).2.1,.lsl 1000003 0 (List.length (m_laws_toClip (y0,y1,y2,y3)).2.2.1),.lsl 1000011 0 (List.length (m_laws_toClip (y0,y1,y2,y3)).2.2.2)]) (clL 5 4 (List.map (List.map en0) (m_laws_toClip (y0,y1,y2,y3)).2.2.1) (List.map en2 (m_laws_toClip (y0,y1,y2,y3)).2.2.2))) else none) | none => none)) | none => none)
 | _ => none
def cp8 : CP := CP.mk [(12,[1]),(16,[4])] [] [[1,2],[1,2,3],[1,2,3],[1,2,3],[1,2,3],[2,3],[2]] 19 [] []
theorem s8 : ∀ vs r m,g_laws_toClip vs = some (r,m) → SaysX Try.prog m 8 vs r := by
 intro vs r m h
 unfold g_laws_toClip at h
 split at h
 ·rename_i y0 y1 w2 w3
  cases hd2 : decL dc_en1 w2 with
  | none => rw [hd2] at h; cases h
  | some y2 =>
  rw [hd2] at h
  obtain rfl := decL_inv dc_en1_inv hd2
  clear hd2
  dsimp only at h
  cases hd3 : decL dc_en2 w3 with
  | none => rw [hd3] at h; cases h
  | some y3 =>
  rw [hd3] at h
  obtain rfl := decL_inv dc_en2_inv hd3
  clear hd3
  dsimp only at h
  split at h
  ·rename_i hp
   cases h
   simp only [p_laws_toClip,Bool.and_eq_true] at hp
   have hp1 := hp.1
   have hp2 := hp.2
   have key := toC (tab := tabOf [(30,g_laws_toKeySS),(31,wM (.own [4]) g_laws_toRootKeyS)]) (f := 30) (g := 31) (es := 5) (e2 := 4) (a := y0) (b := y1) (xss := List.map (List.map en0) y2) (yss := List.map (List.map en0) (m_laws_toKeySS y2)) (rs := List.map en2 y3) (ss := List.map en2 (m_laws_toRootKeyS y3)) (all_fl dc_en0_fl _) (dc_en2_fl _) (by simp [m_laws_toKeySS])
    (by simp only [tabOf_cons,if_pos,nmap_en1,g_laws_toKeySS,dc_en1_map,hp1,List.length_map]) (by simp [tabOf_cons,wM_eq,g_laws_toRootKeyS,dc_en2_map,hp2,withM_some])
   rw [nmap_en1,nmap_en1,List.length_map,List.length_map] at key
   exact spec_ofO (cp := cp8) (ic := icToC 30 31 4) (rvl := [(.c 2 (some 4))]) hm (tabOk_consW s30 (tabOk_cons (m := (.own [4])) s31 tabOk_nil)) Try.func8 rfl rfl rfl (by kernel_rfl) rfl clL_cls (Nat.le_of_ble_eq_true rfl) (Nat.le_of_ble_eq_true rfl) key
  ·cases h
 ·cases h
def m_spec_l00In (x0 : Int) (x1 : Int) (x2 : Int) : Bool := (if (decide (x1 ≤ x0)) = true then (decide (x0 ≤ x2)) else false)
def g_spec_l00In : List AV → Option AV
 | [.int .i64 y0,.int .i64 y1,.int .i64 y2] => some (.bool (m_spec_l00In y0 y1 y2))
 | _ => none
def ic28 : ICode := (.seq (.reg [⟨some 6,none,.mov (.c (.bool false))⟩] [0,1,2]) (.seq (.reg [⟨some 7,none,.mov (.t 0)⟩,⟨some 8,none,.mov (.t 1)⟩,⟨some 9,none,.bin .geq false (.t 7) (.t 8)⟩,⟨some 10,none,.mov (.t 9)⟩,⟨(some 11),(some (10,true)),(.mov (.t 0))⟩,⟨(some 12),(some (10,true)),(.mov (.t 2))⟩,⟨(some 13),(some (10,true)),(.bin .leq false (.t 11) (.t 12))⟩,⟨some 14,none,.pick (.t 10) (.t 13) (.c (.bool false))⟩,⟨some 6,none,.mov (.t 14)⟩] [6]) .ret))
def cp28 : CP := CP.mk [] [] [[0,1,2],[6]] 15 [] []
theorem s28 : ∀ vs r,g_spec_l00In vs = some r → SaysM Try.prog .any 28 vs r := by
 intro vs r h
 unfold g_spec_l00In at h
 split at h
 ·rename_i y0 y1 y2
  cases h
  refine spec_of (m := .any) (tab := tabOf []) (cp := cp28) (ic := ic28) (rvl := [(.t 6)]) hm tabOk_nil Try.func28 rfl rfl rfl (by kernel_rfl) rfl (Nat.le_of_ble_eq_true rfl) (Nat.le_of_ble_eq_true rfl) ?_
  show eA _ _ _ _
  unfold ic28
  refine eS_to ?_
  repeat' (first
   | ((first | (have h := True.intro; refine eS_of ?_) | (refine eGI_of (fun h => ?_) (fun h => ?_)) | (refine eCc_of (fun h => ?_) (fun h => ?_)) | (refine ePk_of (fun h => ?_) (fun h => ?_))) <;> (try simp only [Bool.not_eq_true',Bool.not_eq_false'] at h) <;> (try first | exact nbA h (by assumption) | exact nbB h (by assumption)) <;> simp only [h,
    grpX,purgeH,Option.map,reduceIte,Nat.reduceEqDiff,Nat.reduceAdd,Nat.reduceMul,Nat.reduceLT,Nat.reduceLeDiff,implies_true,forall_const,eq_self,Int.reduceEq,Int.reduceLE,Int.reduceLT,if_true,if_false,grpK,Int.reduceAdd,Int.reduceSub,Int.reduceMul,Int.reduceNeg,Int.reducePow,Nat.reducePow,Int.reduceToNat,Nat.reduceSub,List.replicate,Nat.reduceBEq,grpE,beq_true,beq_false,grpC,grpY,↓b_pick,ePk_true,ePk_false]))
  all_goals (try simp only [*,m_spec_l00In,grpZ,if_true,if_false,reduceIte,decide_true,decide_false])
  all_goals (try (simp_all; done))
 ·cases h
def l_spec_l05At_0 (x0 : (List (Int × Nat × Nat × Nat × Nat))) : Nat → (List Int) → Int → Option (List Int)
 | 0,_,_ => none
 | n + 1,z0_0,z0_1 => (if (decide (z0_1 < ((List.length x0 : Nat) : Int))) = true then (need (inB z0_1 (List.length x0)) (need (decide (((List.length z0_0) + 1) * 8 ≤ 17592186044416)) (need (decide ((List.length z0_0) + 1 ≤ 17592186044416)) (l_spec_l05At_0 x0 n (z0_0 ++ [(atI x0 z0_1).1]) (IntKind.wrap .i64 (z0_1 + 1)))))) else (some z0_0))
def m_spec_l05At (x0 : (List (Int × Nat × Nat × Nat × Nat))) : (List Int) := (Option.getD (l_spec_l05At_0 x0 (Int.toNat (((List.length x0 : Nat) : Int) - 0) + 2) [] 0) default)
def p_spec_l05At (x0 : (List (Int × Nat × Nat × Nat × Nat))) : Bool := (Option.isSome (l_spec_l05At_0 x0 (Int.toNat (((List.length x0 : Nat) : Int) - 0) + 2) [] 0))
def g_spec_l05At : List AV → Option AV
 | [.sl w0] => (match decL dc_en0 w0 with | some y0 => (if p_spec_l05At y0 = true then some (.sl (List.map (AV.int .i64) (m_spec_l05At y0))) else none) | none => none)
 | _ => none
def lb48_0 : ICode := (.seq (.reg [⟨some 9,none,.bin .lss false (.t 8) (.t 7)⟩] [0,3,7,8,9]) (.seq (.cond (.t 9) .skip (.exit 0)) (.seq (.block 1 (.seq (.reg [⟨some 10,none,.mov (.t 8)⟩,⟨some 4,none,.mov (.t 10)⟩] [0,3,4,7,8]) (.reg [⟨some 11,none,.mov (.t 3)⟩,⟨some 12,none,.mov (.t 0)⟩,⟨some 13,none,.mov (.t 4)⟩,⟨some 14,none,.iaddrS 5 (.t 12) (.t 13)⟩,⟨some 15,none,.faddr 0 (.t 14)⟩,⟨some 16,none,.load none (.t 15)⟩,⟨some 17,none,.bslice 1 1 (.int .i64 0) [(0,(.t 16))]⟩,⟨some 18,none,.append 1 8 (.t 11) (.t 17)⟩,⟨some 3,none,.mov (.t 18)⟩] [0,3,7,8]))) (.reg [⟨some 19,none,.bin .add false (.t 8) (.c (.int .i64 1))⟩,⟨some 8,none,.mov (.t 19)⟩] [0,3,7,8]))))
def ic48 : ICode := (.seq (.reg [⟨some 2,none,.mov (.c .snil)⟩] [0]) (.seq (.reg [⟨some 5,none,.bslice 1 0 (.int .i64 0) []⟩,⟨some 3,none,.mov (.t 5)⟩] [0,3]) (.seq (.seq (.reg [⟨some 6,none,.mov (.t 0)⟩,⟨some 7,none,.len false (.t 6)⟩,⟨some 8,none,.mov (.c (.int .i64 0))⟩] [0,3,7,8]) (.block 0 (.loop lb48_0))) (.seq (.reg [⟨some 20,none,.mov (.t 3)⟩,⟨some 2,none,.mov (.t 20)⟩] [2]) .ret))))
def cp48 : CP := CP.mk [] [] [[0],[0,3],[0,3,7,8],[0,3,7,8,9],[0,3,4,7,8],[0,3,7,8],[0,3,7,8],[2]] 21 [] []
theorem sl48_0 (x0 : (List (Int × Nat × Nat × Nat × Nat))) : ∀ (n : Nat) (z0_0 : (List Int)) (z0_1 : Int) (o : (List Int)) (K : IExit → St → Prop),l_spec_l05At_0 x0 n z0_0 z0_1 = some o → (∀ st,Wk st (⟨[(3,(.lsl 5 0 (List.length o)))],[(5,(some ⟨1,true,(List.map (AV.int .i64) o)⟩))]⟩ : St) → K (.exit 0) st) → eA (tabOf []) (.loop lb48_0) (⟨[(0,(.sl (List.map en0 x0))),(3,(.lsl 5 0 (List.length z0_0))),(7,(.int .i64 ((List.length x0 : Nat) : Int))),(8,(.int .i64 z0_1))],[(5,(some ⟨1,true,(List.map (AV.int .i64) z0_0)⟩))]⟩ : St) K := by
 intro n
 induction n with
 | zero =>
  intro z0_0 z0_1 o K h h0
  simp only [l_spec_l05At_0,reduceCtorEq] at h
 | succ n ih =>
  intro z0_0 z0_1 o K h h0
  refine eA_loop ?_
  unfold lb48_0
  unfold l_spec_l05At_0 at h
  (try simp only [need_iff] at h)
  simp only [
   need_iff,h,grpX,purgeH,Option.map,reduceIte,Nat.reduceEqDiff,Nat.reduceAdd,Nat.reduceMul,Nat.reduceLT,Nat.reduceLeDiff,implies_true,forall_const,eq_self,Int.reduceEq,Int.reduceLE,Int.reduceLT,if_true,if_false,grpK,Int.reduceAdd,Int.reduceSub,Int.reduceMul,Int.reduceNeg,Int.reducePow,Nat.reducePow,Int.reduceToNat,Nat.reduceSub,List.replicate,Nat.reduceBEq,grpE,beq_true,beq_false,grpC,grpY]
  repeat' (first
   | ((first | (refine eGI_of (fun hc => ?_) (fun hc => ?_)) | (refine eCc_of (fun hc => ?_) (fun hc => ?_)) | (have hc := True.intro; refine KW_refl ?_)) <;> (try simp only [Bool.not_eq_true',Bool.not_eq_false'] at hc) <;> (try simp only [hc,need_iff,reduceCtorEq,grpN,Int.reduceEq,Int.reduceLT,Int.reduceLE,if_true,if_false,reduceIte] at h) <;> (first | (have hc2 := hc; simp only [decide_eq_true_eq,decide_eq_false_iff_not] at hc2; (first | (replace hc2 := eq_false hc2) | (replace hc2 := eq_true hc2)); (try simp only [hc2,need_iff,reduceCtorEq,grpN,Int.reduceEq,Int.reduceLT,Int.reduceLE,if_true,if_false,reduceIte] at h); replace h := And.intro hc2 h) | (replace h := And.intro hc h) | skip) <;> simp only [hc,
   need_iff,h,grpX,purgeH,Option.map,reduceIte,Nat.reduceEqDiff,Nat.reduceAdd,Nat.reduceMul,Nat.reduceLT,Nat.reduceLeDiff,implies_true,forall_const,eq_self,Int.reduceEq,Int.reduceLE,Int.reduceLT,if_true,if_false,grpK,Int.reduceAdd,Int.reduceSub,Int.reduceMul,Int.reduceNeg,Int.reducePow,Nat.reducePow,Int.reduceToNat,Nat.reduceSub,List.replicate,Nat.reduceBEq,grpE,beq_true,beq_false,grpC,grpY]))
  all_goals (have hf := h)
  all_goals (repeat (replace h := And.right h))
  all_goals ((first | (refine eA_wk (wk_norm (ks := [0,3,7,8]) (ls := [5]) ?_) (eA_cast ?_ (ih _ _ _ _ h h0))) | (cases h; have h := True.intro; refine h0 _ (Wk.cast (wk_norm (ks := [3]) (ls := [5]) ?_) ?_))) <;> simp only [normOk,optIn,blkIn,nameIn,normS,List.map_append,List.length_append,List.map_set,List.length_set,List.map_replicate,List.length_replicate,List.map_nil,List.map_cons,
   need_iff,h,hf,grpX,purgeH,Option.map,reduceIte,Nat.reduceEqDiff,Nat.reduceAdd,Nat.reduceMul,Nat.reduceLT,Nat.reduceLeDiff,implies_true,forall_const,eq_self,Int.reduceEq,Int.reduceLE,Int.reduceLT,if_true,if_false,grpK,Int.reduceAdd,Int.reduceSub,Int.reduceMul,Int.reduceNeg,Int.reducePow,Nat.reducePow,Int.reduceToNat,Nat.reduceSub,List.replicate,Nat.reduceBEq,grpE,beq_true,beq_false,grpC,grpY] <;> first | rfl | (simp only [Nat.add_comm]; done))
theorem s48 : ∀ vs r,g_spec_l05At vs = some r → SaysM Try.prog (.own [1]) 48 vs r := by
 intro vs r h
 unfold g_spec_l05At at h
 split at h
 ·rename_i w0
  cases hd_y0 : decL dc_en0 w0 with
  | none => rw [hd_y0] at h; cases h
  | some y0 =>
  rw [hd_y0] at h
  obtain rfl := decL_inv dc_en0_inv hd_y0
  clear hd_y0
  dsimp only at h
  split at h
  ·rename_i hp
   cases h
   refine spec_of (m := (.own [1])) (tab := tabOf []) (cp := cp48) (ic := ic48) (rvl := [(.t 2)]) hm tabOk_nil Try.func48 rfl rfl rfl (by kernel_rfl) rfl (Nat.le_of_ble_eq_true rfl) (Nat.le_of_ble_eq_true rfl) ?_
   show eA _ _ _ _
   unfold ic48
   simp only [p_spec_l05At,Bool.and_eq_true,Bool.or_eq_true,decide_eq_true_eq,Bool.not_eq_true',decide_eq_false_iff_not] at hp
   refine eS_to ?_
   repeat' (first
    | ((first | (have h := True.intro; refine eS_of ?_) | (refine eGI_of (fun h => ?_) (fun h => ?_)) | (refine eCc_of (fun h => ?_) (fun h => ?_)) | (have h := True.intro; refine KW_refl ?_)) <;> (try simp only [Bool.not_eq_true',Bool.not_eq_false'] at h) <;> (try first | exact nbA h (by assumption) | exact nbB h (by assumption)) <;> (try simp only [h,reduceCtorEq,grpN,Int.reduceEq,Int.reduceLT,Int.reduceLE,if_true,if_false,reduceIte] at hp) <;> (first | (have h2 := h; simp only [decide_eq_true_eq,decide_eq_false_iff_not] at h2; (first | (replace h2 := eq_false h2) | (replace h2 := eq_true h2)); (try simp only [h2,reduceCtorEq,grpN,Int.reduceEq,Int.reduceLT,Int.reduceLE,if_true,if_false,reduceIte] at hp); replace hp := And.intro h2 hp) | (replace hp := And.intro h hp) | skip) <;> simp only [h,
     hp,grpX,purgeH,Option.map,reduceIte,Nat.reduceEqDiff,Nat.reduceAdd,Nat.reduceMul,Nat.reduceLT,Nat.reduceLeDiff,implies_true,forall_const,eq_self,Int.reduceEq,Int.reduceLE,Int.reduceLT,if_true,if_false,grpK,Int.reduceAdd,Int.reduceSub,Int.reduceMul,Int.reduceNeg,Int.reducePow,Nat.reducePow,Int.reduceToNat,Nat.reduceSub,List.replicate,Nat.reduceBEq,grpE,beq_true,beq_false,grpC,grpY])
    | (refine eA_wk (wk_norm (ks := [0,3,7,8]) (ls := [5]) ?_) (eA_cast ?_ (sl48_0 y0 _ _ _ _ _ (getD_some (d := default) (x := (l_spec_l05At_0 y0 (Int.toNat (((List.length y0 : Nat) : Int) - 0) + 2) [] 0)) ?_) ?_)); (iterate 2 (simp only [nilS,nilV,nilB,normOk,optIn,blkIn,nameIn,normS,List.map_append,List.length_append,List.map_set,List.length_set,List.map_replicate,List.length_replicate,List.map_nil,List.map_cons,
     hp,grpX,purgeH,Option.map,reduceIte,Nat.reduceEqDiff,Nat.reduceAdd,Nat.reduceMul,Nat.reduceLT,Nat.reduceLeDiff,implies_true,forall_const,eq_self,Int.reduceEq,Int.reduceLE,Int.reduceLT,if_true,if_false,grpK,Int.reduceAdd,Int.reduceSub,Int.reduceMul,Int.reduceNeg,Int.reducePow,Nat.reducePow,Int.reduceToNat,Nat.reduceSub,List.replicate,Nat.reduceBEq,grpE,beq_true,beq_false,grpC,grpY] <;> first | rfl | (simp only [Nat.add_comm]; done))); (simp only [hp]); (
    intro st2 hw; (try simp only [reduceCtorEq,grpN,Int.reduceEq,Int.reduceLT,Int.reduceLE,if_true,if_false,reduceIte] at hp); (try replace hp := And.intro ht hp); simp only [
Kq_exit,Kq_normal,Kq_ret,Kb_exit,Kb_normal,Kb_ret,Kl_exit,Kl_normal,Kl_ret,reduceIte,Nat.reduceEqDiff,if_true,if_false,eq_self]; refine KW_of hw ?_; simp only [
     hp,grpX,purgeH,Option.map,reduceIte,Nat.reduceEqDiff,Nat.reduceAdd,Nat.reduceMul,Nat.reduceLT,Nat.reduceLeDiff,implies_true,forall_const,eq_self,Int.reduceEq,Int.reduceLE,Int.reduceLT,if_true,if_false,grpK,Int.reduceAdd,Int.reduceSub,Int.reduceMul,Int.reduceNeg,Int.reducePow,Nat.reducePow,Int.reduceToNat,Nat.reduceSub,List.replicate,Nat.reduceBEq,grpE,beq_true,beq_false,grpC,grpY])))
   all_goals (try simp only [*,m_spec_l05At,grpZ,if_true,if_false,reduceIte,decide_true,decide_false])
   all_goals (try (simp_all; done))
  ·cases h
 ·cases h
def l_spec_l05Times_0 (x0 : (List Int)) (x1 : Int) : Nat → Int → Option (Bool × Bool × Unit)
 | 0,_ => none
 | n + 1,z0_0 => (if (decide (z0_0 < ((List.length x0 : Nat) : Int))) = true then (need (inB z0_0 (List.length x0)) (if (m_spec_l00In (atI x0 z0_0) 0 x1) = true then (if (decide (0 < z0_0)) = true then (need (inB (IntKind.wrap .i64 (z0_0 - 1)) (List.length x0)) (if (decide ((atI x0 z0_0) ≤ (atI x0 (IntKind.wrap .i64 (z0_0 - 1))))) = true then (some (true,false,default)) else (l_spec_l05Times_0 x0 x1 n (IntKind.wrap .i64 (z0_0 + 1))))) else (l_spec_l05Times_0 x0 x1 n (IntKind.wrap .i64 (z0_0 + 1)))) else (some (true,false,default)))) else (some (false,default,())))
def m_spec_l05Times (x0 : (List Int)) (x1 : Int) : Bool := (if (Option.getD (l_spec_l05Times_0 x0 x1 (Int.toNat (((List.length x0 : Nat) : Int) - 0) + 2) 0) default).1 = true then (Option.getD (l_spec_l05Times_0 x0 x1 (Int.toNat (((List.length x0 : Nat) : Int) - 0) + 2) 0) default).2.1 else (if (decide (1 ≤ ((List.length x0 : Nat) : Int))) = true then (decide (((List.length x0 : Nat) : Int) ≤ 12)) else false))
def p_spec_l05Times (x0 : (List Int)) (x1 : Int) : Bool := (Option.isSome (l_spec_l05Times_0 x0 x1 (Int.toNat (((List.length x0 : Nat) : Int) - 0) + 2) 0))
def g_spec_l05Times : List AV → Option AV
 | [.sl w0,.int .i64 y1] => (match decL dI64 w0 with | some y0 => (if p_spec_l05Times y0 y1 = true then some (.bool (m_spec_l05Times y0 y1)) else none) | none => none)
 | _ => none
def lb47_0 : ICode := (.seq (.reg [⟨some 9,none,.bin .lss false (.t 8) (.t 7)⟩] [0,1,7,8,9]) (.seq (.cond (.t 9) .skip (.exit 0)) (.seq (.block 1 (.seq (.reg [⟨some 10,none,.mov (.t 8)⟩,⟨some 5,none,.mov (.t 10)⟩] [0,1,5,7,8]) (.seq (.reg [⟨some 11,none,.mov (.t 0)⟩,⟨some 12,none,.mov (.t 5)⟩,⟨some 13,none,.iaddrS 1 (.t 11) (.t 12)⟩,⟨some 14,none,.load none (.t 13)⟩,⟨some 15,none,.mov (.t 1)⟩,⟨some 16,none,.call (.fn 28) [(.t 14),(.c (.int .i64 0)),(.t 15)] []⟩,⟨some 17,none,.un .not (.t 16)⟩,⟨some 18,none,.mov (.t 17)⟩,⟨(some 19),(some (18,false)),(.mov (.t 5))⟩,⟨(some 20),(some (18,false)),(.bin .gtr false (.t 19) (.c (.int .i64 0)))⟩,⟨(some 21),(some (18,false)),(.mov (.t 20))⟩,⟨(some 22),(some (21,true)),(.mov (.t 0))⟩,⟨(some 23),(some (21,true)),(.mov (.t 5))⟩,⟨(some 24),(some (21,true)),(.bin .sub false (.t 23) (.c (.int .i64 1)))⟩,⟨(some 25),(some (21,true)),(.iaddrS 1 (.t 22) (.t 24))⟩,⟨(some 26),(some (21,true)),(.load none (.t 25))⟩,⟨(some 27),(some (21,true)),(.mov (.t 0))⟩,⟨(some 28),(some (21,true)),(.mov (.t 5))⟩,⟨(some 29),(some (21,true)),(.iaddrS 1 (.t 27) (.t 28))⟩,⟨(some 30),(some (21,true)),(.load none (.t 29))⟩,⟨(some 31),(some (21,true)),(.bin .geq false (.t 26) (.t 30))⟩,⟨(some 32),(some (18,false)),(.pick (.t 21) (.t 31) (.c (.bool false)))⟩,⟨some 33,none,.pick (.t 18) (.c (.bool true)) (.t 32)⟩] [0,1,7,8,33]) (.cond (.t 33) (.seq (.reg [⟨some 4,none,.mov (.c (.bool false))⟩] [4]) .ret) .skip)))) (.reg [⟨some 34,none,.bin .add false (.t 8) (.c (.int .i64 1))⟩,⟨some 8,none,.mov (.t 34)⟩] [0,1,7,8]))))
def ic47 : ICode := (.seq (.reg [⟨some 4,none,.mov (.c (.bool false))⟩] [0,1]) (.seq (.seq (.reg [⟨some 6,none,.mov (.t 0)⟩,⟨some 7,none,.len false (.t 6)⟩,⟨some 8,none,.mov (.c (.int .i64 0))⟩] [0,1,7,8]) (.block 0 (.loop lb47_0))) (.seq (.reg [⟨some 35,none,.mov (.t 0)⟩,⟨some 36,none,.len false (.t 35)⟩,⟨some 37,none,.bin .geq false (.t 36) (.c (.int .i64 1))⟩,⟨some 38,none,.mov (.t 37)⟩,⟨(some 39),(some (38,true)),(.mov (.t 0))⟩,⟨(some 40),(some (38,true)),(.len false (.t 39))⟩,⟨(some 41),(some (38,true)),(.bin .leq false (.t 40) (.c (.int .i64 12)))⟩,⟨some 42,none,.pick (.t 38) (.t 41) (.c (.bool false))⟩,⟨some 4,none,.mov (.t 42)⟩] [4]) .ret)))
def cp47 : CP := CP.mk [] [] [[0,1],[0,1,7,8],[0,1,7,8,9],[0,1,5,7,8],[0,1,7,8,33],[4],[0,1,7,8],[4]] 43 [] []
theorem sl47_0 (x0 : (List Int)) (x1 : Int) : ∀ (n : Nat) (z0_0 : Int) (o : (Bool × Bool × Unit)) (K : IExit → St → Prop),l_spec_l05Times_0 x0 x1 n z0_0 = some o → (∀ st,o.1 = true → outM .any st [(.t 4)] = some (.bool o.2.1) → K .ret st) → (∀ st,o.1 = false → Wk st (⟨[(0,(.sl (List.map (AV.int .i64) x0)))],[]⟩ : St) → K (.exit 0) st) → eA (tabOf [(28,wM .any g_spec_l00In)]) (.loop lb47_0) (⟨[(0,(.sl (List.map (AV.int .i64) x0))),(1,(.int .i64 x1)),(7,(.int .i64 ((List.length x0 : Nat) : Int))),(8,(.int .i64 z0_0))],[]⟩ : St) K := by
 intro n
 induction n with
 | zero =>
  intro z0_0 o K h h0 h1
  simp only [l_spec_l05Times_0,reduceCtorEq] at h
 | succ n ih =>
  intro z0_0 o K h h0 h1
  refine eA_loop ?_
  unfold lb47_0
  unfold l_spec_l05Times_0 at h
  (try simp only [need_iff] at h)
  simp only [
   need_iff,h,grpX,purgeH,Option.map,reduceIte,Nat.reduceEqDiff,Nat.reduceAdd,Nat.reduceMul,Nat.reduceLT,Nat.reduceLeDiff,implies_true,forall_const,eq_self,Int.reduceEq,Int.reduceLE,Int.reduceLT,if_true,if_false,grpK,Int.reduceAdd,Int.reduceSub,Int.reduceMul,Int.reduceNeg,Int.reducePow,Nat.reducePow,Int.reduceToNat,Nat.reduceSub,List.replicate,Nat.reduceBEq,grpE,beq_true,beq_false,g_spec_l00In,grpC,grpY,↓b_pick,ePk_true,ePk_false]
  repeat' (first
   | ((first | (refine eGI_of (fun hc => ?_) (fun hc => ?_)) | (refine eCc_of (fun hc => ?_) (fun hc => ?_)) | (refine ePk_of (fun hc => ?_) (fun hc => ?_)) | (have hc := True.intro; refine KW_refl ?_)) <;> (try simp only [Bool.not_eq_true',Bool.not_eq_false'] at hc) <;> (try simp only [hc,need_iff,reduceCtorEq,grpN,Int.reduceEq,Int.reduceLT,Int.reduceLE,if_true,if_false,reduceIte] at h) <;> (first | (have hc2 := hc; simp only [decide_eq_true_eq,decide_eq_false_iff_not] at hc2; (first | (replace hc2 := eq_false hc2) | (replace hc2 := eq_true hc2)); (try simp only [hc2,need_iff,reduceCtorEq,grpN,Int.reduceEq,Int.reduceLT,Int.reduceLE,if_true,if_false,reduceIte] at h); replace h := And.intro hc2 h) | (replace h := And.intro hc h) | skip) <;> simp only [hc,
   need_iff,h,grpX,purgeH,Option.map,reduceIte,Nat.reduceEqDiff,Nat.reduceAdd,Nat.reduceMul,Nat.reduceLT,Nat.reduceLeDiff,implies_true,forall_const,eq_self,Int.reduceEq,Int.reduceLE,Int.reduceLT,if_true,if_false,grpK,Int.reduceAdd,Int.reduceSub,Int.reduceMul,Int.reduceNeg,Int.reducePow,Nat.reducePow,Int.reduceToNat,Nat.reduceSub,List.replicate,Nat.reduceBEq,grpE,beq_true,beq_false,g_spec_l00In,grpC,grpY,↓b_pick,ePk_true,ePk_false]))
  all_goals (have hf := h)
  all_goals (repeat (replace h := And.right h))
  all_goals ((first | (refine eA_wk (wk_norm (ks := [0,1,7,8]) (ls := []) ?_) (eA_cast ?_ (ih _ _ _ h h0 h1))) | (cases h; have h := True.intro; refine h0 _ rfl ?_) | (cases h; have h := True.intro; refine h1 _ rfl (Wk.cast (wk_norm (ks := [0]) (ls := []) ?_) ?_))) <;> simp only [normOk,optIn,blkIn,nameIn,normS,List.map_append,List.length_append,List.map_set,List.length_set,List.map_replicate,List.length_replicate,List.map_nil,List.map_cons,
   need_iff,h,hf,grpX,purgeH,Option.map,reduceIte,Nat.reduceEqDiff,Nat.reduceAdd,Nat.reduceMul,Nat.reduceLT,Nat.reduceLeDiff,implies_true,forall_const,eq_self,Int.reduceEq,Int.reduceLE,Int.reduceLT,if_true,if_false,grpK,Int.reduceAdd,Int.reduceSub,Int.reduceMul,Int.reduceNeg,Int.reducePow,Nat.reducePow,Int.reduceToNat,Nat.reduceSub,List.replicate,Nat.reduceBEq,grpE,beq_true,beq_false,g_spec_l00In,grpC,grpY,↓b_pick,ePk_true,ePk_false] <;> first | rfl | (simp only [Nat.add_comm]; done))
theorem s47 : ∀ vs r,g_spec_l05Times vs = some r → SaysM Try.prog .any 47 vs r := by
 intro vs r h
 unfold g_spec_l05Times at h
 split at h
 ·rename_i w0 y1
  cases hd_y0 : decL dI64 w0 with
  | none => rw [hd_y0] at h; cases h
  | some y0 =>
  rw [hd_y0] at h
  obtain rfl := decL_inv dI64_inv hd_y0
  clear hd_y0
  dsimp only at h
  split at h
  ·rename_i hp
   cases h
   refine spec_of (m := .any) (tab := tabOf [(28,wM .any g_spec_l00In)]) (cp := cp47) (ic := ic47) (rvl := [(.t 4)]) hm (tabOk_cons (m := .any) s28 tabOk_nil) Try.func47 rfl rfl rfl (by kernel_rfl) rfl (Nat.le_of_ble_eq_true rfl) (Nat.le_of_ble_eq_true rfl) ?_
   show eA _ _ _ _
   unfold ic47
   simp only [p_spec_l05Times,Bool.and_eq_true,Bool.or_eq_true,decide_eq_true_eq,Bool.not_eq_true',decide_eq_false_iff_not] at hp
   refine eS_to ?_
   repeat' (first
    | ((first | (have h := True.intro; refine eS_of ?_) | (refine eGI_of (fun h => ?_) (fun h => ?_)) | (refine eCc_of (fun h => ?_) (fun h => ?_)) | (refine ePk_of (fun h => ?_) (fun h => ?_)) | (have h := True.intro; refine KW_refl ?_)) <;> (try simp only [Bool.not_eq_true',Bool.not_eq_false'] at h) <;> (try first | exact nbA h (by assumption) | exact nbB h (by assumption)) <;> (try simp only [h,reduceCtorEq,grpN,Int.reduceEq,Int.reduceLT,Int.reduceLE,if_true,if_false,reduceIte] at hp) <;> (first | (have h2 := h; simp only [decide_eq_true_eq,decide_eq_false_iff_not] at h2; (first | (replace h2 := eq_false h2) | (replace h2 := eq_true h2)); (try simp only [h2,reduceCtorEq,grpN,Int.reduceEq,Int.reduceLT,Int.reduceLE,if_true,if_false,reduceIte] at hp); replace hp := And.intro h2 hp) | (replace hp := And.intro h hp) | skip) <;> simp only [h,
     hp,grpX,purgeH,Option.map,reduceIte,Nat.reduceEqDiff,Nat.reduceAdd,Nat.reduceMul,Nat.reduceLT,Nat.reduceLeDiff,implies_true,forall_const,eq_self,Int.reduceEq,Int.reduceLE,Int.reduceLT,if_true,if_false,grpK,Int.reduceAdd,Int.reduceSub,Int.reduceMul,Int.reduceNeg,Int.reducePow,Nat.reducePow,Int.reduceToNat,Nat.reduceSub,List.replicate,Nat.reduceBEq,grpE,beq_true,beq_false,g_spec_l00In,grpC,grpY,↓b_pick,ePk_true,ePk_false])
    | (refine eA_wk (wk_norm (ks := [0,1,7,8]) (ls := []) ?_) (eA_cast ?_ (sl47_0 y0 y1 _ _ _ _ (getD_some (d := default) (x := (l_spec_l05Times_0 y0 y1 (Int.toNat (((List.length y0 : Nat) : Int) - 0) + 2) 0)) ?_) ?_ ?_)); (iterate 2 (simp only [nilS,nilV,nilB,normOk,optIn,blkIn,nameIn,normS,List.map_append,List.length_append,List.map_set,List.length_set,List.map_replicate,List.length_replicate,List.map_nil,List.map_cons,
     hp,grpX,purgeH,Option.map,reduceIte,Nat.reduceEqDiff,Nat.reduceAdd,Nat.reduceMul,Nat.reduceLT,Nat.reduceLeDiff,implies_true,forall_const,eq_self,Int.reduceEq,Int.reduceLE,Int.reduceLT,if_true,if_false,grpK,Int.reduceAdd,Int.reduceSub,Int.reduceMul,Int.reduceNeg,Int.reducePow,Nat.reducePow,Int.reduceToNat,Nat.reduceSub,List.replicate,Nat.reduceBEq,grpE,beq_true,beq_false,g_spec_l00In,grpC,grpY,↓b_pick,ePk_true,ePk_false] <;> first | rfl | (simp only [Nat.add_comm]; done))); (simp only [hp]); (
    intro st2 ht hw; simp only [Kq_ret,Kb_ret,Kl_ret,ret_ok]; first | exact h0 _ hw | exact h0 _ rfl hw | exact h1 _ rfl hw | exact h0 _ ht hw | exact h1 _ ht hw | (simp only [ht,need_iff,reduceCtorEq,grpN,Int.reduceEq,Int.reduceLT,Int.reduceLE,if_true,if_false,reduceIte] at h; (repeat (replace h := And.right h)); cases h; first | exact h0 _ hw | exact h0 _ rfl hw | exact h1 _ rfl hw) | refine ⟨_,hw,?_⟩); rotate_left; (
    intro st2 ht hw; (try simp only [ht,reduceCtorEq,grpN,Int.reduceEq,Int.reduceLT,Int.reduceLE,if_true,if_false,reduceIte] at hp); (try replace hp := And.intro ht hp); simp only [
Kq_exit,Kq_normal,Kq_ret,Kb_exit,Kb_normal,Kb_ret,Kl_exit,Kl_normal,Kl_ret,reduceIte,Nat.reduceEqDiff,if_true,if_false,eq_self]; refine KW_of hw ?_; simp only [ht,
     hp,grpX,purgeH,Option.map,reduceIte,Nat.reduceEqDiff,Nat.reduceAdd,Nat.reduceMul,Nat.reduceLT,Nat.reduceLeDiff,implies_true,forall_const,eq_self,Int.reduceEq,Int.reduceLE,Int.reduceLT,if_true,if_false,grpK,Int.reduceAdd,Int.reduceSub,Int.reduceMul,Int.reduceNeg,Int.reducePow,Nat.reducePow,Int.reduceToNat,Nat.reduceSub,List.replicate,Nat.reduceBEq,grpE,beq_true,beq_false,g_spec_l00In,grpC,grpY,↓b_pick,ePk_true,ePk_false])))
   all_goals (try simp only [*,m_spec_l05Times,grpZ,if_true,if_false,reduceIte,decide_true,decide_false])
   all_goals (try (simp_all; done))
  ·cases h
 ·cases h
def l_spec_l05RootAt_0 (x0 : (List (Int × Nat × Nat × Nat))) : Nat → (List Int) → Int → Option (List Int)
 | 0,_,_ => none
 | n + 1,z0_0,z0_1 => (if (decide (z0_1 < ((List.length x0 : Nat) : Int))) = true then (need (inB z0_1 (List.length x0)) (need (decide (((List.length z0_0) + 1) * 8 ≤ 17592186044416)) (need (decide ((List.length z0_0) + 1 ≤ 17592186044416)) (l_spec_l05RootAt_0 x0 n (z0_0 ++ [(atI x0 z0_1).1]) (IntKind.wrap .i64 (z0_1 + 1)))))) else (some z0_0))
def m_spec_l05RootAt (x0 : (List (Int × Nat × Nat × Nat))) : (List Int) := (Option.getD (l_spec_l05RootAt_0 x0 (Int.toNat (((List.length x0 : Nat) : Int) - 0) + 2) [] 0) default)
def p_spec_l05RootAt (x0 : (List (Int × Nat × Nat × Nat))) : Bool := (Option.isSome (l_spec_l05RootAt_0 x0 (Int.toNat (((List.length x0 : Nat) : Int) - 0) + 2) [] 0))
def g_spec_l05RootAt : List AV → Option AV
 | [.sl w0] => (match decL dc_en2 w0 with | some y0 => (if p_spec_l05RootAt y0 = true then some (.sl (List.map (AV.int .i64) (m_spec_l05RootAt y0))) else none) | none => none)
 | _ => none
def lb49_0 : ICode := (.seq (.reg [⟨some 9,none,.bin .lss false (.t 8) (.t 7)⟩] [0,3,7,8,9]) (.seq (.cond (.t 9) .skip (.exit 0)) (.seq (.block 1 (.seq (.reg [⟨some 10,none,.mov (.t 8)⟩,⟨some 4,none,.mov (.t 10)⟩] [0,3,4,7,8]) (.reg [⟨some 11,none,.mov (.t 3)⟩,⟨some 12,none,.mov (.t 0)⟩,⟨some 13,none,.mov (.t 4)⟩,⟨some 14,none,.iaddrS 4 (.t 12) (.t 13)⟩,⟨some 15,none,.faddr 0 (.t 14)⟩,⟨some 16,none,.load none (.t 15)⟩,⟨some 17,none,.bslice 1 1 (.int .i64 0) [(0,(.t 16))]⟩,⟨some 18,none,.append 1 8 (.t 11) (.t 17)⟩,⟨some 3,none,.mov (.t 18)⟩] [0,3,7,8]))) (.reg [⟨some 19,none,.bin .add false (.t 8) (.c (.int .i64 1))⟩,⟨some 8,none,.mov (.t 19)⟩] [0,3,7,8]))))
def ic49 : ICode := (.seq (.reg [⟨some 2,none,.mov (.c .snil)⟩] [0]) (.seq (.reg [⟨some 5,none,.bslice 1 0 (.int .i64 0) []⟩,⟨some 3,none,.mov (.t 5)⟩] [0,3]) (.seq (.seq (.reg [⟨some 6,none,.mov (.t 0)⟩,⟨some 7,none,.len false (.t 6)⟩,⟨some 8,none,.mov (.c (.int .i64 0))⟩] [0,3,7,8]) (.block 0 (.loop lb49_0))) (.seq (.reg [⟨some 20,none,.mov (.t 3)⟩,⟨some 2,none,.mov (.t 20)⟩] [2]) .ret))))
def cp49 : CP := CP.mk [] [] [[0],[0,3],[0,3,7,8],[0,3,7,8,9],[0,3,4,7,8],[0,3,7,8],[0,3,7,8],[2]] 21 [] []
theorem sl49_0 (x0 : (List (Int × Nat × Nat × Nat))) : ∀ (n : Nat) (z0_0 : (List Int)) (z0_1 : Int) (o : (List Int)) (K : IExit → St → Prop),l_spec_l05RootAt_0 x0 n z0_0 z0_1 = some o → (∀ st,Wk st (⟨[(3,(.lsl 5 0 (List.length o)))],[(5,(some ⟨1,true,(List.map (AV.int .i64) o)⟩))]⟩ : St) → K (.exit 0) st) → eA (tabOf []) (.loop lb49_0) (⟨[(0,(.sl (List.map en2 x0))),(3,(.lsl 5 0 (List.length z0_0))),(7,(.int .i64 ((List.length x0 : Nat) : Int))),(8,(.int .i64 z0_1))],[(5,(some ⟨1,true,(List.map (AV.int .i64) z0_0)⟩))]⟩ : St) K := by
 intro n
 induction n with
 | zero =>
  intro z0_0 z0_1 o K h h0
  simp only [l_spec_l05RootAt_0,reduceCtorEq] at h
 | succ n ih =>
  intro z0_0 z0_1 o K h h0
  refine eA_loop ?_
  unfold lb49_0
  unfold l_spec_l05RootAt_0 at h
  (try simp only [need_iff] at h)
  simp only [
   need_iff,h,grpX,purgeH,Option.map,reduceIte,Nat.reduceEqDiff,Nat.reduceAdd,Nat.reduceMul,Nat.reduceLT,Nat.reduceLeDiff,implies_true,forall_const,eq_self,Int.reduceEq,Int.reduceLE,Int.reduceLT,if_true,if_false,grpK,Int.reduceAdd,Int.reduceSub,Int.reduceMul,Int.reduceNeg,Int.reducePow,Nat.reducePow,Int.reduceToNat,Nat.reduceSub,List.replicate,Nat.reduceBEq,grpE,beq_true,beq_false,grpC,grpY]
  repeat' (first
   | ((first | (refine eGI_of (fun hc => ?_) (fun hc => ?_)) | (refine eCc_of (fun hc => ?_) (fun hc => ?_)) | (have hc := True.intro; refine KW_refl ?_)) <;> (try simp only [Bool.not_eq_true',Bool.not_eq_false'] at hc) <;> (try simp only [hc,need_iff,reduceCtorEq,grpN,Int.reduceEq,Int.reduceLT,Int.reduceLE,if_true,if_false,reduceIte] at h) <;> (first | (have hc2 := hc; simp only [decide_eq_true_eq,decide_eq_false_iff_not] at hc2; (first | (replace hc2 := eq_false hc2) | (replace hc2 := eq_true hc2)); (try simp only [hc2,need_iff,reduceCtorEq,grpN,Int.reduceEq,Int.reduceLT,Int.reduceLE,if_true,if_false,reduceIte] at h); replace h := And.intro hc2 h) | (replace h := And.intro hc h) | skip) <;> simp only [hc,
   need_iff,h,grpX,purgeH,Option.map,reduceIte,Nat.reduceEqDiff,Nat.reduceAdd,Nat.reduceMul,Nat.reduceLT,Nat.reduceLeDiff,implies_true,forall_const,eq_self,Int.reduceEq,Int.reduceLE,Int.reduceLT,if_true,if_false,grpK,Int.reduceAdd,Int.reduceSub,Int.reduceMul,Int.reduceNeg,Int.reducePow,Nat.reducePow,Int.reduceToNat,Nat.reduceSub,List.replicate,Nat.reduceBEq,grpE,beq_true,beq_false,grpC,grpY]))
  all_goals (have hf := h)
  all_goals (repeat (replace h := And.right h))
  all_goals ((first | (refine eA_wk (wk_norm (ks := [0,3,7,8]) (ls := [5]) ?_) (eA_cast ?_ (ih _ _ _ _ h h0))) | (cases h; have h := True.intro; refine h0 _ (Wk.cast (wk_norm (ks := [3]) (ls := [5]) ?_) ?_))) <;> simp only [normOk,optIn,blkIn,nameIn,normS,List.map_append,List.length_append,List.map_set,List.length_set,List.map_replicate,List.length_replicate,List.map_nil,List.map_cons,
   need_iff,h,hf,grpX,purgeH,Option.map,reduceIte,Nat.reduceEqDiff,Nat.reduceAdd,Nat.reduceMul,Nat.reduceLT,Nat.reduceLeDiff,implies_true,forall_const,eq_self,Int.reduceEq,Int.reduceLE,Int.reduceLT,if_true,if_false,grpK,Int.reduceAdd,Int.reduceSub,Int.reduceMul,Int.reduceNeg,Int.reducePow,Nat.reducePow,Int.reduceToNat,Nat.reduceSub,List.replicate,Nat.reduceBEq,grpE,beq_true,beq_false,grpC,grpY] <;> first | rfl | (simp only [Nat.add_comm]; done))
theorem s49 : ∀ vs r,g_spec_l05RootAt vs = some r → SaysM Try.prog (.own [1]) 49 vs r := by
 intro vs r h
 unfold g_spec_l05RootAt at h
 split at h
 ·rename_i w0
  cases hd_y0 : decL dc_en2 w0 with
  | none => rw [hd_y0] at h; cases h
  | some y0 =>
  rw [hd_y0] at h
  obtain rfl := decL_inv dc_en2_inv hd_y0
  clear hd_y0
  dsimp only at h
  split at h
  ·rename_i hp
   cases h
   refine spec_of (m := (.own [1])) (tab := tabOf []) (cp := cp49) (ic := ic49) (rvl := [(.t 2)]) hm tabOk_nil Try.func49 rfl rfl rfl (by kernel_rfl) rfl (Nat.le_of_ble_eq_true rfl) (Nat.le_of_ble_eq_true rfl) ?_
   show eA _ _ _ _
   unfold ic49
   simp only [p_spec_l05RootAt,Bool.and_eq_true,Bool.or_eq_true,decide_eq_true_eq,Bool.not_eq_true',decide_eq_false_iff_not] at hp
   refine eS_to ?_
   repeat' (first
    | ((first | (have h := True.intro; refine eS_of ?_) | (refine eGI_of (fun h => ?_) (fun h => ?_)) | (refine eCc_of (fun h => ?_) (fun h => ?_)) | (have h := True.intro; refine KW_refl ?_)) <;> (try simp only [Bool.not_eq_true',Bool.not_eq_false'] at h) <;> (try first | exact nbA h (by assumption) | exact nbB h (by assumption)) <;> (try simp only [h,reduceCtorEq,grpN,Int.reduceEq,Int.reduceLT,Int.reduceLE,if_true,if_false,reduceIte] at hp) <;> (first | (have h2 := h; simp only [decide_eq_true_eq,decide_eq_false_iff_not] at h2; (first | (replace h2 := eq_false h2) | (replace h2 := eq_true h2)); (try simp only [h2,reduceCtorEq,grpN,Int.reduceEq,Int.reduceLT,Int.reduceLE,if_true,if_false,reduceIte] at hp); replace hp := And.intro h2 hp) | (replace hp := And.intro h hp) | skip) <;> simp only [h,
     hp,grpX,purgeH,Option.map,reduceIte,Nat.reduceEqDiff,Nat.reduceAdd,Nat.reduceMul,Nat.reduceLT,Nat.reduceLeDiff,implies_true,forall_const,eq_self,Int.reduceEq,Int.reduceLE,Int.reduceLT,if_true,if_false,grpK,Int.reduceAdd,Int.reduceSub,Int.reduceMul,Int.reduceNeg,Int.reducePow,Nat.reducePow,Int.reduceToNat,Nat.reduceSub,List.replicate,Nat.reduceBEq,grpE,beq_true,beq_false,grpC,grpY])
    | (refine eA_wk (wk_norm (ks := [0,3,7,8]) (ls := [5]) ?_) (eA_cast ?_ (sl49_0 y0 _ _ _ _ _ (getD_some (d := default) (x := (l_spec_l05RootAt_0 y0 (Int.toNat (((List.length y0 : Nat) : Int) - 0) + 2) [] 0)) ?_) ?_)); (iterate 2 (simp only [nilS,nilV,nilB,normOk,optIn,blkIn,nameIn,normS,List.map_append,List.length_append,List.map_set,List.length_set,List.map_replicate,List.length_replicate,List.map_nil,List.map_cons,
     hp,grpX,purgeH,Option.map,reduceIte,Nat.reduceEqDiff,Nat.reduceAdd,Nat.reduceMul,Nat.reduceLT,Nat.reduceLeDiff,implies_true,forall_const,eq_self,Int.reduceEq,Int.reduceLE,Int.reduceLT,if_true,if_false,grpK,Int.reduceAdd,Int.reduceSub,Int.reduceMul,Int.reduceNeg,Int.reducePow,Nat.reducePow,Int.reduceToNat,Nat.reduceSub,List.replicate,Nat.reduceBEq,grpE,beq_true,beq_false,grpC,grpY] <;> first | rfl | (simp only [Nat.add_comm]; done))); (simp only [hp]); (
    intro st2 hw; (try simp only [reduceCtorEq,grpN,Int.reduceEq,Int.reduceLT,Int.reduceLE,if_true,if_false,reduceIte] at hp); (try replace hp := And.intro ht hp); simp only [
Kq_exit,Kq_normal,Kq_ret,Kb_exit,Kb_normal,Kb_ret,Kl_exit,Kl_normal,Kl_ret,reduceIte,Nat.reduceEqDiff,if_true,if_false,eq_self]; refine KW_of hw ?_; simp only [
     hp,grpX,purgeH,Option.map,reduceIte,Nat.reduceEqDiff,Nat.reduceAdd,Nat.reduceMul,Nat.reduceLT,Nat.reduceLeDiff,implies_true,forall_const,eq_self,Int.reduceEq,Int.reduceLE,Int.reduceLT,if_true,if_false,grpK,Int.reduceAdd,Int.reduceSub,Int.reduceMul,Int.reduceNeg,Int.reducePow,Nat.reducePow,Int.reduceToNat,Nat.reduceSub,List.replicate,Nat.reduceBEq,grpE,beq_true,beq_false,grpC,grpY])))
   all_goals (try simp only [*,m_spec_l05RootAt,grpZ,if_true,if_false,reduceIte,decide_true,decide_false])
   all_goals (try (simp_all; done))
  ·cases h
 ·cases h
def l_spec_l05Is_0 (x0 : (Int × Int × (List (List (Int × Nat × Nat × Nat × Nat))) × (List (Int × Nat × Nat × Nat)))) : Nat → Int → Option (Bool × Bool × Unit)
 | 0,_ => none
 | n + 1,z0_0 => (if (decide (z0_0 < ((List.length x0.2.2.1 : Nat) : Int))) = true then (need (inB z0_0 (List.length x0.2.2.1)) (need (p_spec_l05At (atI x0.2.2.1 z0_0)) (need (p_spec_l05Times (m_spec_l05At (atI x0.2.2.1 z0_0)) x0.1) (if (m_spec_l05Times (m_spec_l05At (atI x0.2.2.1 z0_0)) x0.1) = true then (l_spec_l05Is_0 x0 n (IntKind.wrap .i64 (z0_0 + 1))) else (some (true,false,default)))))) else (some (false,default,())))
def m_spec_l05Is (x0 : (Int × Int × (List (List (Int × Nat × Nat × Nat × Nat))) × (List (Int × Nat × Nat × Nat)))) : Bool := (if (m_spec_l00In x0.1 1 1000) = true then (if (m_spec_l00In x0.2.1 0 2) = true then (if (decide (((List.length x0.2.2.1 : Nat) : Int) < 1)) = true then false else (if (decide (12 < ((List.length x0.2.2.1 : Nat) : Int))) = true then false else (if (Option.getD (l_spec_l05Is_0 x0 (Int.toNat (((List.length x0.2.2.1 : Nat) : Int) - 0) + 2) 0) default).1 = true then (Option.getD (l_spec_l05Is_0 x0 (Int.toNat (((List.length x0.2.2.1 : Nat) : Int) - 0) + 2) 0) default).2.1 else (m_spec_l05Times (m_spec_l05RootAt x0.2.2.2) x0.1)))) else false) else false)
def p_spec_l05Is (x0 : (Int × Int × (List (List (Int × Nat × Nat × Nat × Nat))) × (List (Int × Nat × Nat × Nat)))) : Bool := (!(m_spec_l00In x0.1 1 1000) || (!(m_spec_l00In x0.2.1 0 2) || ((decide (((List.length x0.2.2.1 : Nat) : Int) < 1)) || ((decide (12 < ((List.length x0.2.2.1 : Nat) : Int))) || ((Option.isSome (l_spec_l05Is_0 x0 (Int.toNat (((List.length x0.2.2.1 : Nat) : Int) - 0) + 2) 0)) && ((Option.getD (l_spec_l05Is_0 x0 (Int.toNat (((List.length x0.2.2.1 : Nat) : Int) - 0) + 2) 0) default).1 || ((p_spec_l05RootAt x0.2.2.2) && (p_spec_l05Times (m_spec_l05RootAt x0.2.2.2) x0.1))))))))
def g_spec_l05Is : List AV → Option AV
 | [.ptr (.agg [.int .i64 y0,.int .i64 y1,.sl w2,.sl w3]) 0] => (match decL dc_en1 w2 with | some y2 => ((match decL dc_en2 w3 with | some y3 => (if p_spec_l05Is (y0,y1,y2,y3) = true then some (.bool (m_spec_l05Is (y0,y1,y2,y3))) else none) | none => none)) | none => none)
 | _ => none
def lb27_0 : ICode := (.seq (.reg [⟨some 40,none,.bin .lss false (.t 39) (.t 38)⟩] [0,38,39,40]) (.seq (.cond (.t 40) .skip (.exit 0)) (.seq (.block 1 (.seq (.reg [⟨some 41,none,.mov (.t 39)⟩,⟨some 3,none,.mov (.t 41)⟩] [0,3,38,39]) (.seq (.reg [⟨some 42,none,.mov (.t 0)⟩,⟨some 43,none,.nilchk (.t 42)⟩,⟨some 44,none,.faddr 2 (.t 43)⟩,⟨some 45,none,.load none (.t 44)⟩,⟨some 46,none,.mov (.t 3)⟩,⟨some 47,none,.iaddrS 1 (.t 45) (.t 46)⟩,⟨some 48,none,.load none (.t 47)⟩,⟨some 49,none,.call (.fn 48) [(.t 48)] []⟩,⟨some 50,none,.mov (.t 0)⟩,⟨some 51,none,.nilchk (.t 50)⟩,⟨some 52,none,.faddr 0 (.t 51)⟩,⟨some 53,none,.load none (.t 52)⟩,⟨some 54,none,.call (.fn 47) [(.t 49),(.t 53)] []⟩,⟨some 55,none,.un .not (.t 54)⟩] [0,38,39,55]) (.cond (.t 55) (.seq (.reg [⟨some 2,none,.mov (.c (.bool false))⟩] [2]) .ret) .skip)))) (.reg [⟨some 56,none,.bin .add false (.t 39) (.c (.int .i64 1))⟩,⟨some 39,none,.mov (.t 56)⟩] [0,38,39]))))
def ic27 : ICode := (.seq (.reg [⟨some 2,none,.mov (.c (.bool false))⟩] [0]) (.seq (.seq (.reg [⟨some 4,none,.mov (.t 0)⟩,⟨some 5,none,.nilchk (.t 4)⟩,⟨some 6,none,.faddr 0 (.t 5)⟩,⟨some 7,none,.load none (.t 6)⟩,⟨some 8,none,.call (.fn 28) [(.t 7),(.c (.int .i64 1)),(.c (.int .i64 1000))] []⟩,⟨some 9,none,.un .not (.t 8)⟩,⟨some 10,none,.mov (.t 9)⟩,⟨(some 11),(some (10,false)),(.mov (.t 0))⟩,⟨(some 12),(some (10,false)),(.nilchk (.t 11))⟩,⟨(some 13),(some (10,false)),(.faddr 1 (.t 12))⟩,⟨(some 14),(some (10,false)),(.load none (.t 13))⟩,⟨(some 15),(some (10,false)),(.call (.fn 28) [(.t 14),(.c (.int .i64 0)),(.c (.int .i64 2))] [])⟩,⟨(some 16),(some (10,false)),(.un .not (.t 15))⟩,⟨some 17,none,.pick (.t 10) (.c (.bool true)) (.t 16)⟩,⟨some 18,none,.mov (.t 17)⟩,⟨(some 19),(some (18,false)),(.mov (.t 0))⟩,⟨(some 20),(some (18,false)),(.nilchk (.t 19))⟩,⟨(some 21),(some (18,false)),(.faddr 2 (.t 20))⟩,⟨(some 22),(some (18,false)),(.load none (.t 21))⟩,⟨(some 23),(some (18,false)),(.len false (.t 22))⟩,⟨(some 24),(some (18,false)),(.bin .lss false (.t 23) (.c (.int .i64 1)))⟩,⟨some 25,none,.pick (.t 18) (.c (.bool true)) (.t 24)⟩,⟨some 26,none,.mov (.t 25)⟩,⟨(some 27),(some (26,false)),(.mov (.t 0))⟩,⟨(some 28),(some (26,false)),(.nilchk (.t 27))⟩,⟨(some 29),(some (26,false)),(.faddr 2 (.t 28))⟩,⟨(some 30),(some (26,false)),(.load none (.t 29))⟩,⟨(some 31),(some (26,false)),(.len false (.t 30))⟩,⟨(some 32),(some (26,false)),(.bin .gtr false (.t 31) (.c (.int .i64 12)))⟩,⟨some 33,none,.pick (.t 26) (.c (.bool true)) (.t 32)⟩] [0,33]) (.cond (.t 33) (.seq (.reg [⟨some 2,none,.mov (.c (.bool false))⟩] [2]) .ret) .skip)) (.seq (.seq (.reg [⟨some 34,none,.mov (.t 0)⟩,⟨some 35,none,.nilchk (.t 34)⟩,⟨some 36,none,.faddr 2 (.t 35)⟩,⟨some 37,none,.load none (.t 36)⟩,⟨some 38,none,.len false (.t 37)⟩,⟨some 39,none,.mov (.c (.int .i64 0))⟩] [0,38,39]) (.block 0 (.loop lb27_0))) (.seq (.reg [⟨some 57,none,.mov (.t 0)⟩,⟨some 58,none,.nilchk (.t 57)⟩,⟨some 59,none,.faddr 3 (.t 58)⟩,⟨some 60,none,.load none (.t 59)⟩,⟨some 61,none,.call (.fn 49) [(.t 60)] []⟩,⟨some 62,none,.mov (.t 0)⟩,⟨some 63,none,.nilchk (.t 62)⟩,⟨some 64,none,.faddr 0 (.t 63)⟩,⟨some 65,none,.load none (.t 64)⟩,⟨(some 66),none,
   (.call (.fn 47) [(.t 61),(.t 65)] [])⟩,⟨some 2,none,.mov (.t 66)⟩] [2]) .ret))))
def cp27 : CP := CP.mk [] [] [[0],[0,33],[2],[0,38,39],[0,38,39,40],[0,3,38,39],[0,38,39,55],[2],[0,38,39],[2]] 67 [] []
theorem sl27_0 (x0 : (Int × Int × (List (List (Int × Nat × Nat × Nat × Nat))) × (List (Int × Nat × Nat × Nat)))) : ∀ (n : Nat) (z0_0 : Int) (o : (Bool × Bool × Unit)) (K : IExit → St → Prop),l_spec_l05Is_0 x0 n z0_0 = some o → (∀ st,o.1 = true → outM .any st [(.t 2)] = some (.bool o.2.1) → K .ret st) → (∀ st,o.1 = false → Wk st (⟨[(0,(.ptr (AV.agg [(.int .i64 x0.1),(.int .i64 x0.2.1),(.sl (List.map en1 x0.2.2.1)),(.sl (List.map en2 x0.2.2.2))]) 0))],[]⟩ : St) → K (.exit 0) st) → eA (tabOf [(28,wM .any g_spec_l00In),(47,wM .any g_spec_l05Times),(48,wM (.own [1]) g_spec_l05At),(49,wM (.own [1]) g_spec_l05RootAt)]) (.loop lb27_0) (⟨[(0,(.ptr (AV.agg [(.int .i64 x0.1),(.int .i64 x0.2.1),(.sl (List.map en1 x0.2.2.1)),(.sl (List.map en2 x0.2.2.2))]) 0)),(38,(.int .i64 ((List.length x0.2.2.1 : Nat) : Int))),(39,(.int .i64 z0_0))],[]⟩ : St) K := by
 intro n
 induction n with
 | zero =>
  intro z0_0 o K h h0 h1
  simp only [l_spec_l05Is_0,reduceCtorEq] at h
 | succ n ih =>
  intro z0_0 o K h h0 h1
  refine eA_loop ?_
  unfold lb27_0
  unfold l_spec_l05Is_0 at h
  (try simp only [need_iff] at h)
  simp only [
   need_iff,h,grpX,purgeH,Option.map,reduceIte,Nat.reduceEqDiff,Nat.reduceAdd,Nat.reduceMul,Nat.reduceLT,Nat.reduceLeDiff,implies_true,forall_const,eq_self,Int.reduceEq,Int.reduceLE,Int.reduceLT,if_true,if_false,grpK,Int.reduceAdd,Int.reduceSub,Int.reduceMul,Int.reduceNeg,Int.reducePow,Nat.reducePow,Int.reduceToNat,Nat.reduceSub,List.replicate,Nat.reduceBEq,grpE,beq_true,beq_false,g_spec_l00In,g_spec_l05Times,g_spec_l05At,g_spec_l05RootAt,grpC,grpY,↓b_pick,ePk_true,ePk_false]
  repeat' (first
   | ((first | (refine eGI_of (fun hc => ?_) (fun hc => ?_)) | (refine eCc_of (fun hc => ?_) (fun hc => ?_)) | (refine ePk_of (fun hc => ?_) (fun hc => ?_)) | (have hc := True.intro; refine KW_refl ?_)) <;> (try simp only [Bool.not_eq_true',Bool.not_eq_false'] at hc) <;> (try simp only [hc,need_iff,reduceCtorEq,grpN,Int.reduceEq,Int.reduceLT,Int.reduceLE,if_true,if_false,reduceIte] at h) <;> (first | (have hc2 := hc; simp only [decide_eq_true_eq,decide_eq_false_iff_not] at hc2; (first | (replace hc2 := eq_false hc2) | (replace hc2 := eq_true hc2)); (try simp only [hc2,need_iff,reduceCtorEq,grpN,Int.reduceEq,Int.reduceLT,Int.reduceLE,if_true,if_false,reduceIte] at h); replace h := And.intro hc2 h) | (replace h := And.intro hc h) | skip) <;> simp only [hc,
   need_iff,h,grpX,purgeH,Option.map,reduceIte,Nat.reduceEqDiff,Nat.reduceAdd,Nat.reduceMul,Nat.reduceLT,Nat.reduceLeDiff,implies_true,forall_const,eq_self,Int.reduceEq,Int.reduceLE,Int.reduceLT,if_true,if_false,grpK,Int.reduceAdd,Int.reduceSub,Int.reduceMul,Int.reduceNeg,Int.reducePow,Nat.reducePow,Int.reduceToNat,Nat.reduceSub,List.replicate,Nat.reduceBEq,grpE,beq_true,beq_false,g_spec_l00In,g_spec_l05Times,g_spec_l05At,g_spec_l05RootAt,grpC,grpY,↓b_pick,ePk_true,ePk_false]))
  all_goals (have hf := h)
  all_goals (repeat (replace h := And.right h))
  all_goals ((first | (refine eA_wk (wk_norm (ks := [0,38,39]) (ls := []) ?_) (eA_cast ?_ (ih _ _ _ h h0 h1))) | (cases h; have h := True.intro; refine h0 _ rfl ?_) | (cases h; have h := True.intro; refine h1 _ rfl (Wk.cast (wk_norm (ks := [0]) (ls := []) ?_) ?_))) <;> simp only [normOk,optIn,blkIn,nameIn,normS,List.map_append,List.length_append,List.map_set,List.length_set,List.map_replicate,List.length_replicate,List.map_nil,List.map_cons,
   need_iff,h,hf,grpX,purgeH,Option.map,reduceIte,Nat.reduceEqDiff,Nat.reduceAdd,Nat.reduceMul,Nat.reduceLT,Nat.reduceLeDiff,implies_true,forall_const,eq_self,Int.reduceEq,Int.reduceLE,Int.reduceLT,if_true,if_false,grpK,Int.reduceAdd,Int.reduceSub,Int.reduceMul,Int.reduceNeg,Int.reducePow,Nat.reducePow,Int.reduceToNat,Nat.reduceSub,List.replicate,Nat.reduceBEq,grpE,beq_true,beq_false,g_spec_l00In,g_spec_l05Times,g_spec_l05At,g_spec_l05RootAt,grpC,grpY,↓b_pick,ePk_true,ePk_false] <;> first | rfl | (simp only [Nat.add_comm]; done))
theorem s27 : ∀ vs r,g_spec_l05Is vs = some r → SaysM Try.prog .any 27 vs r := by
 intro vs r h
 unfold g_spec_l05Is at h
 split at h
 ·rename_i y0 y1 w2 w3
  cases hd_y2 : decL dc_en1 w2 with
  | none => rw [hd_y2] at h; cases h
  | some y2 =>
  rw [hd_y2] at h
  obtain rfl := decL_inv dc_en1_inv hd_y2
  clear hd_y2
  dsimp only at h
  cases hd_y3 : decL dc_en2 w3 with
  | none => rw [hd_y3] at h; cases h
  | some y3 =>
  rw [hd_y3] at h
  obtain rfl := decL_inv dc_en2_inv hd_y3
  clear hd_y3
  dsimp only at h
  split at h
  ·rename_i hp
   cases h
   refine spec_of (m := .any) (tab := tabOf [(28,wM .any g_spec_l00In),(47,wM .any g_spec_l05Times),(48,wM (.own [1]) g_spec_l05At),(49,wM (.own [1]) g_spec_l05RootAt)]) (cp := cp27) (ic := ic27) (rvl := [(.t 2)]) hm (tabOk_cons (m := .any) s28 (tabOk_cons (m := .any) s47 (tabOk_cons (m := (.own [1])) s48 (tabOk_cons (m := (.own [1])) s49 tabOk_nil)))) Try.func27 rfl rfl rfl (by kernel_rfl) rfl (Nat.le_of_ble_eq_true rfl) (Nat.le_of_ble_eq_true rfl) ?_
   show eA _ _ _ _
   unfold ic27
   simp only [p_spec_l05Is,Bool.and_eq_true,Bool.or_eq_true,decide_eq_true_eq,Bool.not_eq_true',decide_eq_false_iff_not] at hp
   refine eS_to ?_
   repeat' (first
    | ((first | (have h := True.intro; refine eS_of ?_) | (refine eGI_of (fun h => ?_) (fun h => ?_)) | (refine eCc_of (fun h => ?_) (fun h => ?_)) | (refine ePk_of (fun h => ?_) (fun h => ?_)) | (have h := True.intro; refine KW_refl ?_)) <;> (try simp only [Bool.not_eq_true',Bool.not_eq_false'] at h) <;> (try first | exact nbA h (by assumption) | exact nbB h (by assumption)) <;> (try simp only [h,reduceCtorEq,grpN,Int.reduceEq,Int.reduceLT,Int.reduceLE,if_true,if_false,reduceIte] at hp) <;> (first | (have h2 := h; simp only [decide_eq_true_eq,decide_eq_false_iff_not] at h2; (first | (replace h2 := eq_false h2) | (replace h2 := eq_true h2)); (try simp only [h2,reduceCtorEq,grpN,Int.reduceEq,Int.reduceLT,Int.reduceLE,if_true,if_false,reduceIte] at hp); replace hp := And.intro h2 hp) | (replace hp := And.intro h hp) | skip) <;> simp only [h,
     hp,grpX,purgeH,Option.map,reduceIte,Nat.reduceEqDiff,Nat.reduceAdd,Nat.reduceMul,Nat.reduceLT,Nat.reduceLeDiff,implies_true,forall_const,eq_self,Int.reduceEq,Int.reduceLE,Int.reduceLT,if_true,if_false,grpK,Int.reduceAdd,Int.reduceSub,Int.reduceMul,Int.reduceNeg,Int.reducePow,Nat.reducePow,Int.reduceToNat,Nat.reduceSub,List.replicate,Nat.reduceBEq,grpE,beq_true,beq_false,g_spec_l00In,g_spec_l05Times,g_spec_l05At,g_spec_l05RootAt,grpC,grpY,↓b_pick,ePk_true,ePk_false])
    | (refine eA_wk (wk_norm (ks := [0,38,39]) (ls := []) ?_) (eA_cast ?_ (sl27_0 (y0,y1,y2,y3) _ _ _ _ (getD_some (d := default) (x := (l_spec_l05Is_0 (y0,y1,y2,y3) (Int.toNat (((List.length (y0,y1,y2,y3).2.2.1 : Nat) : Int) - 0) + 2) 0)) ?_) ?_ ?_)); (iterate 2 (simp only [nilS,nilV,nilB,normOk,optIn,blkIn,nameIn,normS,List.map_append,List.length_append,List.map_set,List.length_set,List.map_replicate,List.length_replicate,List.map_nil,List.map_cons,
     hp,grpX,purgeH,Option.map,reduceIte,Nat.reduceEqDiff,Nat.reduceAdd,Nat.reduceMul,Nat.reduceLT,Nat.reduceLeDiff,implies_true,forall_const,eq_self,Int.reduceEq,Int.reduceLE,Int.reduceLT,if_true,if_false,grpK,Int.reduceAdd,Int.reduceSub,Int.reduceMul,Int.reduceNeg,Int.reducePow,Nat.reducePow,Int.reduceToNat,Nat.reduceSub,List.replicate,Nat.reduceBEq,grpE,beq_true,beq_false,g_spec_l00In,g_spec_l05Times,g_spec_l05At,g_spec_l05RootAt,grpC,grpY,↓b_pick,ePk_true,ePk_false] <;> first | rfl | (simp only [Nat.add_comm]; done))); (simp only [hp]); (
    intro st2 ht hw; simp only [Kq_ret,Kb_ret,Kl_ret,ret_ok]; first | exact h0 _ hw | exact h0 _ rfl hw | exact h1 _ rfl hw | exact h0 _ ht hw | exact h1 _ ht hw | (simp only [ht,need_iff,reduceCtorEq,grpN,Int.reduceEq,Int.reduceLT,Int.reduceLE,if_true,if_false,reduceIte] at h; (repeat (replace h := And.right h)); cases h; first | exact h0 _ hw | exact h0 _ rfl hw | exact h1 _ rfl hw) | refine ⟨_,hw,?_⟩); rotate_left; (
    intro st2 ht hw; (try simp only [ht,reduceCtorEq,grpN,Int.reduceEq,Int.reduceLT,Int.reduceLE,if_true,if_false,reduceIte] at hp); (try replace hp := And.intro ht hp); simp only [
Kq_exit,Kq_normal,Kq_ret,Kb_exit,Kb_normal,Kb_ret,Kl_exit,Kl_normal,Kl_ret,reduceIte,Nat.reduceEqDiff,if_true,if_false,eq_self]; refine KW_of hw ?_; simp only [ht,
     hp,grpX,purgeH,Option.map,reduceIte,Nat.reduceEqDiff,Nat.reduceAdd,Nat.reduceMul,Nat.reduceLT,Nat.reduceLeDiff,implies_true,forall_const,eq_self,Int.reduceEq,Int.reduceLE,Int.reduceLT,if_true,if_false,grpK,Int.reduceAdd,Int.reduceSub,Int.reduceMul,Int.reduceNeg,Int.reducePow,Nat.reducePow,Int.reduceToNat,Nat.reduceSub,List.replicate,Nat.reduceBEq,grpE,beq_true,beq_false,g_spec_l00In,g_spec_l05Times,g_spec_l05At,g_spec_l05RootAt,grpC,grpY,↓b_pick,ePk_true,ePk_false])))
   all_goals (try simp only [*,m_spec_l05Is,grpZ,if_true,if_false,reduceIte,decide_true,decide_false])
   all_goals (try (simp_all; done))
  ·cases h
 ·cases h
def l_spec_l00Put_0 (x0 : (List Int)) (x1 : Int) : Nat → (List Int) → Bool → Int → Option (Bool × (List Int))
 | 0,_,_,_ => none
 | n + 1,z0_0,z0_1,z0_2 => (if (decide (z0_2 < ((List.length x0 : Nat) : Int))) = true then (if z0_1 = true then (need (inB z0_2 (List.length x0)) (need (decide (((List.length z0_0) + 1) * 8 ≤ 17592186044416)) (need (decide ((List.length z0_0) + 1 ≤ 17592186044416)) (l_spec_l00Put_0 x0 x1 n (z0_0 ++ [(atI x0 z0_2)]) z0_1 (IntKind.wrap .i64 (z0_2 + 1)))))) else (need (inB z0_2 (List.length x0)) (if (decide (x1 ≤ (atI x0 z0_2))) = true then (if (decide (x1 < (atI x0 z0_2))) = true then (need (decide (((List.length z0_0) + 1) * 8 ≤ 17592186044416)) (need (decide ((List.length z0_0) + 1 ≤ 17592186044416)) (need (decide ((((List.length z0_0) + 1) + 1) * 8 ≤ 17592186044416)) (need (decide (((List.length z0_0) + 1) + 1 ≤ 17592186044416)) (l_spec_l00Put_0 x0 x1 n ((z0_0 ++ [x1]) ++ [(atI x0 z0_2)]) true (IntKind.wrap .i64 (z0_2 + 1))))))) else (need (decide (((List.length z0_0) + 1) * 8 ≤ 17592186044416)) (need (decide ((List.length z0_0) + 1 ≤ 17592186044416)) (l_spec_l00Put_0 x0 x1 n (z0_0 ++ [(atI x0 z0_2)]) true (IntKind.wrap .i64 (z0_2 + 1)))))) else (need (decide (((List.length z0_0) + 1) * 8 ≤ 17592186044416)) (need (decide ((List.length z0_0) + 1 ≤ 17592186044416)) (l_spec_l00Put_0 x0 x1 n (z0_0 ++ [(atI x0 z0_2)]) z0_1 (IntKind.wrap .i64 (z0_2 + 1)))))))) else (some (z0_1,z0_0)))
def m_spec_l00Put (x0 : (List Int)) (x1 : Int) : (List Int) := (if (Option.getD (l_spec_l00Put_0 x0 x1 (Int.toNat (((List.length x0 : Nat) : Int) - 0) + 2) [] false 0) default).1 = true then (Option.getD (l_spec_l00Put_0 x0 x1 (Int.toNat (((List.length x0 : Nat) : Int) - 0) + 2) [] false 0) default).2 else ((Option.getD (l_spec_l00Put_0 x0 x1 (Int.toNat (((List.length x0 : Nat) : Int) - 0) + 2) [] false 0) default).2 ++ [x1]))
def p_spec_l00Put (x0 : (List Int)) (x1 : Int) : Bool := ((Option.isSome (l_spec_l00Put_0 x0 x1 (Int.toNat (((List.length x0 : Nat) : Int) - 0) + 2) [] false 0)) && ((Option.getD (l_spec_l00Put_0 x0 x1 (Int.toNat (((List.length x0 : Nat) : Int) - 0) + 2) [] false 0) default).1 || ((decide (((List.length (Option.getD (l_spec_l00Put_0 x0 x1 (Int.toNat (((List.length x0 : Nat) : Int) - 0) + 2) [] false 0) default).2) + 1) * 8 ≤ 17592186044416)) && (decide ((List.length (Option.getD (l_spec_l00Put_0 x0 x1 (Int.toNat (((List.length x0 : Nat) : Int) - 0) + 2) [] false 0) default).2) + 1 ≤ 17592186044416)))))
def g_spec_l00Put : List AV → Option AV
 | [.sl w0,.int .i64 y1] => (match decL dI64 w0 with | some y0 => (if p_spec_l00Put y0 y1 = true then some (.sl (List.map (AV.int .i64) (m_spec_l00Put y0 y1))) else none) | none => none)
 | _ => none
def lb43_0 : ICode := (.seq (.seq (.reg [⟨some 9,none,.mov (.t 7)⟩,⟨some 10,none,.mov (.t 0)⟩,⟨some 11,none,.len false (.t 10)⟩,⟨some 12,none,.bin .lss false (.t 9) (.t 11)⟩] [0,1,5,6,7,12]) (.cond (.t 12) .skip (.exit 0))) (.seq (.block 1 (.seq (.seq (.reg [⟨some 15,none,.mov (.t 6)⟩,⟨some 16,none,.un .not (.t 15)⟩,⟨some 17,none,.mov (.t 16)⟩,⟨(some 18),(some (17,true)),(.mov (.t 0))⟩,⟨(some 19),(some (17,true)),(.mov (.t 7))⟩,⟨(some 20),(some (17,true)),(.iaddrS 1 (.t 18) (.t 19))⟩,⟨(some 21),(some (17,true)),(.load none (.t 20))⟩,⟨(some 22),(some (17,true)),(.mov (.t 1))⟩,⟨(some 23),(some (17,true)),(.bin .geq false (.t 21) (.t 22))⟩,⟨some 24,none,.pick (.t 17) (.t 23) (.c (.bool false))⟩] [0,1,5,6,7,24]) (.cond (.t 24) (.seq (.reg [⟨some 6,none,.mov (.c (.bool true))⟩] [0,1,5,6,7]) (.seq (.reg [⟨some 25,none,.mov (.t 0)⟩,⟨some 26,none,.mov (.t 7)⟩,⟨some 27,none,.iaddrS 1 (.t 25) (.t 26)⟩,⟨some 28,none,.load none (.t 27)⟩,⟨some 29,none,.mov (.t 1)⟩,⟨some 30,none,.bin .gtr false (.t 28) (.t 29)⟩] [0,1,5,6,7,30]) (.cond (.t 30) (.reg [⟨some 31,none,.mov (.t 5)⟩,⟨some 32,none,.mov (.t 1)⟩,⟨some 33,none,.bslice 1 1 (.int .i64 0) [(0,(.t 32))]⟩,⟨some 34,none,.append 1 8 (.t 31) (.t 33)⟩,⟨some 5,none,.mov (.t 34)⟩] [0,1,5,6,7]) .skip))) .skip)) (.reg [⟨some 35,none,.mov (.t 5)⟩,⟨some 36,none,.mov (.t 0)⟩,⟨some 37,none,.mov (.t 7)⟩,⟨some 38,none,.iaddrS 1 (.t 36) (.t 37)⟩,⟨some 39,none,.load none (.t 38)⟩,⟨some 40,none,.bslice 1 1 (.int .i64 0) [(0,(.t 39))]⟩,⟨some 41,none,.append 1 8 (.t 35) (.t 40)⟩,⟨some 5,none,.mov (.t 41)⟩] [0,1,5,6,7]))) (.reg [⟨some 13,none,.mov (.t 7)⟩,⟨some 14,none,.bin .add false (.t 13) (.c (.int .i64 1))⟩,⟨some 7,none,.mov (.t 14)⟩] [0,1,5,6,7])))
def ic43 : ICode := (.seq (.reg [⟨some 4,none,.mov (.c .snil)⟩] [0,1]) (.seq (.reg [⟨some 8,none,.bslice 1 0 (.int .i64 0) []⟩,⟨some 5,none,.mov (.t 8)⟩] [0,1,5]) (.seq (.reg [⟨some 6,none,.mov (.c (.bool false))⟩] [0,1,5,6]) (.seq (.seq (.reg [⟨some 7,none,.mov (.c (.int .i64 0))⟩] [0,1,5,6,7]) (.block 0 (.loop lb43_0))) (.seq (.seq (.reg [⟨some 42,none,.mov (.t 6)⟩,⟨some 43,none,.un .not (.t 42)⟩] [1,5,43]) (.cond (.t 43) (.reg [⟨some 44,none,.mov (.t 5)⟩,⟨some 45,none,.mov (.t 1)⟩,⟨some 46,none,.bslice 1 1 (.int .i64 0) [(0,(.t 45))]⟩,⟨some 47,none,.append 1 8 (.t 44) (.t 46)⟩,⟨some 5,none,.mov (.t 47)⟩] [5]) .skip)) (.seq (.reg [⟨some 48,none,.mov (.t 5)⟩,⟨some 4,none,.mov (.t 48)⟩] [4]) .ret))))))
def cp43 : CP := CP.mk [] [] [[0,1],[0,1,5],[0,1,5,6],[0,1,5,6,7],[0,1,5,6,7,12],[0,1,5,6,7],[0,1,5,6,7,24],[0,1,5,6,7],[0,1,5,6,7,30],[0,1,5,6,7],[0,1,5,6,7],[1,5,43],[5],[4]] 49 [] []
theorem sl43_0 (x0 : (List Int)) (x1 : Int) : ∀ (n : Nat) (z0_0 : (List Int)) (z0_1 : Bool) (z0_2 : Int) (o : (Bool × (List Int))) (K : IExit → St → Prop),l_spec_l00Put_0 x0 x1 n z0_0 z0_1 z0_2 = some o → (∀ st,Wk st (⟨[(1,(.int .i64 x1)),(5,(.lsl 8 0 (List.length o.2))),(6,(.bool o.1))],[(8,(some ⟨1,true,(List.map (AV.int .i64) o.2)⟩))]⟩ : St) → K (.exit 0) st) → eA (tabOf []) (.loop lb43_0) (⟨[(0,(.sl (List.map (AV.int .i64) x0))),(1,(.int .i64 x1)),(5,(.lsl 8 0 (List.length z0_0))),(6,(.bool z0_1)),(7,(.int .i64 z0_2))],[(8,(some ⟨1,true,(List.map (AV.int .i64) z0_0)⟩))]⟩ : St) K := by
 intro n
 induction n with
 | zero =>
  intro z0_0 z0_1 z0_2 o K h h0
  simp only [l_spec_l00Put_0,reduceCtorEq] at h
 | succ n ih =>
  intro z0_0 z0_1 z0_2 o K h h0
  refine eA_loop ?_
  unfold lb43_0
  unfold l_spec_l00Put_0 at h
  (try simp only [need_iff] at h)
  simp only [
   need_iff,h,grpX,purgeH,Option.map,reduceIte,Nat.reduceEqDiff,Nat.reduceAdd,Nat.reduceMul,Nat.reduceLT,Nat.reduceLeDiff,implies_true,forall_const,eq_self,Int.reduceEq,Int.reduceLE,Int.reduceLT,if_true,if_false,grpK,Int.reduceAdd,Int.reduceSub,Int.reduceMul,Int.reduceNeg,Int.reducePow,Nat.reducePow,Int.reduceToNat,Nat.reduceSub,List.replicate,Nat.reduceBEq,grpE,beq_true,beq_false,grpC,grpY,↓b_pick,ePk_true,ePk_false]
  repeat' (first
   | ((first | (refine eGI_of (fun hc => ?_) (fun hc => ?_)) | (refine eCc_of (fun hc => ?_) (fun hc => ?_)) | (refine ePk_of (fun hc => ?_) (fun hc => ?_)) | (have hc := True.intro; refine KW_refl ?_)) <;> (try simp only [Bool.not_eq_true',Bool.not_eq_false'] at hc) <;> (try simp only [hc,need_iff,reduceCtorEq,grpN,Int.reduceEq,Int.reduceLT,Int.reduceLE,if_true,if_false,reduceIte] at h) <;> (first | (have hc2 := hc; simp only [decide_eq_true_eq,decide_eq_false_iff_not] at hc2; (first | (replace hc2 := eq_false hc2) | (replace hc2 := eq_true hc2)); (try simp only [hc2,need_iff,reduceCtorEq,grpN,Int.reduceEq,Int.reduceLT,Int.reduceLE,if_true,if_false,reduceIte] at h); replace h := And.intro hc2 h) | (replace h := And.intro hc h) | skip) <;> simp only [hc,
   need_iff,h,grpX,purgeH,Option.map,reduceIte,Nat.reduceEqDiff,Nat.reduceAdd,Nat.reduceMul,Nat.reduceLT,Nat.reduceLeDiff,implies_true,forall_const,eq_self,Int.reduceEq,Int.reduceLE,Int.reduceLT,if_true,if_false,grpK,Int.reduceAdd,Int.reduceSub,Int.reduceMul,Int.reduceNeg,Int.reducePow,Nat.reducePow,Int.reduceToNat,Nat.reduceSub,List.replicate,Nat.reduceBEq,grpE,beq_true,beq_false,grpC,grpY,↓b_pick,ePk_true,ePk_false]))
  all_goals (have hf := h)
  all_goals (repeat (replace h := And.right h))
  all_goals ((first | (refine eA_wk (wk_norm (ks := [0,1,5,6,7]) (ls := [8]) ?_) (eA_cast ?_ (ih _ _ _ _ _ h h0))) | (cases h; have h := True.intro; refine h0 _ (Wk.cast (wk_norm (ks := [1,5,6]) (ls := [8]) ?_) ?_))) <;> simp only [normOk,optIn,blkIn,nameIn,normS,List.map_append,List.length_append,List.map_set,List.length_set,List.map_replicate,List.length_replicate,List.map_nil,List.map_cons,
   need_iff,h,hf,grpX,purgeH,Option.map,reduceIte,Nat.reduceEqDiff,Nat.reduceAdd,Nat.reduceMul,Nat.reduceLT,Nat.reduceLeDiff,implies_true,forall_const,eq_self,Int.reduceEq,Int.reduceLE,Int.reduceLT,if_true,if_false,grpK,Int.reduceAdd,Int.reduceSub,Int.reduceMul,Int.reduceNeg,Int.reducePow,Nat.reducePow,Int.reduceToNat,Nat.reduceSub,List.replicate,Nat.reduceBEq,grpE,beq_true,beq_false,grpC,grpY,↓b_pick,ePk_true,ePk_false] <;> first | rfl | (simp only [Nat.add_comm]; done))
theorem s43 : ∀ vs r,g_spec_l00Put vs = some r → SaysM Try.prog (.own [1]) 43 vs r := by
 intro vs r h
 unfold g_spec_l00Put at h
 split at h
 ·rename_i w0 y1
  cases hd_y0 : decL dI64 w0 with
  | none => rw [hd_y0] at h; cases h
  | some y0 =>
  rw [hd_y0] at h
  obtain rfl := decL_inv dI64_inv hd_y0
  clear hd_y0
  dsimp only at h
  split at h
  ·rename_i hp
   cases h
   refine spec_of (m := (.own [1])) (tab := tabOf []) (cp := cp43) (ic := ic43) (rvl := [(.t 4)]) hm tabOk_nil Try.func43 rfl rfl rfl (by kernel_rfl) rfl (Nat.le_of_ble_eq_true rfl) (Nat.le_of_ble_eq_true rfl) ?_
   show eA _ _ _ _
   unfold ic43
   simp only [p_spec_l00Put,Bool.and_eq_true,Bool.or_eq_true,decide_eq_true_eq,Bool.not_eq_true',decide_eq_false_iff_not] at hp
   refine eS_to ?_
   repeat' (first
    | ((first | (have h := True.intro; refine eS_of ?_) | (refine eGI_of (fun h => ?_) (fun h => ?_)) | (refine eCc_of (fun h => ?_) (fun h => ?_)) | (refine ePk_of (fun h => ?_) (fun h => ?_)) | (have h := True.intro; refine KW_refl ?_)) <;> (try simp only [Bool.not_eq_true',Bool.not_eq_false'] at h) <;> (try first | exact nbA h (by assumption) | exact nbB h (by assumption)) <;> (try simp only [h,reduceCtorEq,grpN,Int.reduceEq,Int.reduceLT,Int.reduceLE,if_true,if_false,reduceIte] at hp) <;> (first | (have h2 := h; simp only [decide_eq_true_eq,decide_eq_false_iff_not] at h2; (first | (replace h2 := eq_false h2) | (replace h2 := eq_true h2)); (try simp only [h2,reduceCtorEq,grpN,Int.reduceEq,Int.reduceLT,Int.reduceLE,if_true,if_false,reduceIte] at hp); replace hp := And.intro h2 hp) | (replace hp := And.intro h hp) | skip) <;> simp only [h,
     hp,grpX,purgeH,Option.map,reduceIte,Nat.reduceEqDiff,Nat.reduceAdd,Nat.reduceMul,Nat.reduceLT,Nat.reduceLeDiff,implies_true,forall_const,eq_self,Int.reduceEq,Int.reduceLE,Int.reduceLT,if_true,if_false,grpK,Int.reduceAdd,Int.reduceSub,Int.reduceMul,Int.reduceNeg,Int.reducePow,Nat.reducePow,Int.reduceToNat,Nat.reduceSub,List.replicate,Nat.reduceBEq,grpE,beq_true,beq_false,grpC,grpY,↓b_pick,ePk_true,ePk_false])
    | (refine eA_wk (wk_norm (ks := [0,1,5,6,7]) (ls := [8]) ?_) (eA_cast ?_ (sl43_0 y0 y1 _ _ _ _ _ _ (getD_some (d := default) (x := (l_spec_l00Put_0 y0 y1 (Int.toNat (((List.length y0 : Nat) : Int) - 0) + 2) [] false 0)) ?_) ?_)); (iterate 2 (simp only [nilS,nilV,nilB,normOk,optIn,blkIn,nameIn,normS,List.map_append,List.length_append,List.map_set,List.length_set,List.map_replicate,List.length_replicate,List.map_nil,List.map_cons,
     hp,grpX,purgeH,Option.map,reduceIte,Nat.reduceEqDiff,Nat.reduceAdd,Nat.reduceMul,Nat.reduceLT,Nat.reduceLeDiff,implies_true,forall_const,eq_self,Int.reduceEq,Int.reduceLE,Int.reduceLT,if_true,if_false,grpK,Int.reduceAdd,Int.reduceSub,Int.reduceMul,Int.reduceNeg,Int.reducePow,Nat.reducePow,Int.reduceToNat,Nat.reduceSub,List.replicate,Nat.reduceBEq,grpE,beq_true,beq_false,grpC,grpY,↓b_pick,ePk_true,ePk_false] <;> first | rfl | (simp only [Nat.add_comm]; done))); (simp only [hp]); (
    intro st2 hw; (try simp only [reduceCtorEq,grpN,Int.reduceEq,Int.reduceLT,Int.reduceLE,if_true,if_false,reduceIte] at hp); (try replace hp := And.intro ht hp); simp only [
Kq_exit,Kq_normal,Kq_ret,Kb_exit,Kb_normal,Kb_ret,Kl_exit,Kl_normal,Kl_ret,reduceIte,Nat.reduceEqDiff,if_true,if_false,eq_self]; refine KW_of hw ?_; simp only [
     hp,grpX,purgeH,Option.map,reduceIte,Nat.reduceEqDiff,Nat.reduceAdd,Nat.reduceMul,Nat.reduceLT,Nat.reduceLeDiff,implies_true,forall_const,eq_self,Int.reduceEq,Int.reduceLE,Int.reduceLT,if_true,if_false,grpK,Int.reduceAdd,Int.reduceSub,Int.reduceMul,Int.reduceNeg,Int.reducePow,Nat.reducePow,Int.reduceToNat,Nat.reduceSub,List.replicate,Nat.reduceBEq,grpE,beq_true,beq_false,grpC,grpY,↓b_pick,ePk_true,ePk_false])))
   all_goals (try simp only [*,m_spec_l00Put,grpZ,if_true,if_false,reduceIte,decide_true,decide_false])
   all_goals (try (simp_all; done))
  ·cases h
 ·cases h
def l_spec_KeysOf_0 (x0 : (Int × Int × (List (List (Int × Nat × Nat × Nat × Nat))) × (List (Int × Nat × Nat × Nat)))) (z1_1 : Int) : Nat → (List Int) → Int → Option (List Int)
 | 0,_,_ => none
 | n + 1,z0_0,z0_1 => (if (decide (z0_1 < ((List.length (atI x0.2.2.1 z1_1) : Nat) : Int))) = true then (need (inB z1_1 (List.length x0.2.2.1)) (need (inB z0_1 (List.length (atI x0.2.2.1 z1_1))) (need (p_spec_l00Put z0_0 (atI (atI x0.2.2.1 z1_1) z0_1).1) (l_spec_KeysOf_0 x0 z1_1 n (m_spec_l00Put z0_0 (atI (atI x0.2.2.1 z1_1) z0_1).1) (IntKind.wrap .i64 (z0_1 + 1)))))) else (some z0_0))
def l_spec_KeysOf_1 (x0 : (Int × Int × (List (List (Int × Nat × Nat × Nat × Nat))) × (List (Int × Nat × Nat × Nat)))) : Nat → (List Int) → Int → Option (List Int)
 | 0,_,_ => none
 | n + 1,z1_0,z1_1 => (if (decide (z1_1 < ((List.length x0.2.2.1 : Nat) : Int))) = true then (need (inB z1_1 (List.length x0.2.2.1)) (need (Option.isSome (l_spec_KeysOf_0 x0 z1_1 (Int.toNat (((List.length (atI x0.2.2.1 z1_1) : Nat) : Int) - 0) + 2) z1_0 0)) (l_spec_KeysOf_1 x0 n (Option.getD (l_spec_KeysOf_0 x0 z1_1 (Int.toNat (((List.length (atI x0.2.2.1 z1_1) : Nat) : Int) - 0) + 2) z1_0 0) default) (IntKind.wrap .i64 (z1_1 + 1))))) else (some z1_0))
def l_spec_KeysOf_2 (x0 : (Int × Int × (List (List (Int × Nat × Nat × Nat × Nat))) × (List (Int × Nat × Nat × Nat)))) : Nat → (List Int) → Int → Option (List Int)
 | 0,_,_ => none
 | n + 1,z2_0,z2_1 => (if (decide (z2_1 < ((List.length x0.2.2.2 : Nat) : Int))) = true then (need (inB z2_1 (List.length x0.2.2.2)) (need (p_spec_l00Put z2_0 (atI x0.2.2.2 z2_1).1) (l_spec_KeysOf_2 x0 n (m_spec_l00Put z2_0 (atI x0.2.2.2 z2_1).1) (IntKind.wrap .i64 (z2_1 + 1))))) else (some z2_0))
def m_spec_KeysOf (x0 : (Int × Int × (List (List (Int × Nat × Nat × Nat × Nat))) × (List (Int × Nat × Nat × Nat)))) : ((List Int) × Bool) := (if (m_spec_l05Is x0) = true then ((Option.getD (l_spec_KeysOf_2 x0 (Int.toNat (((List.length x0.2.2.2 : Nat) : Int) - 0) + 2) (Option.getD (l_spec_KeysOf_1 x0 (Int.toNat (((List.length x0.2.2.1 : Nat) : Int) - 0) + 2) [] 0) default) 0) default),true) else ([],false))
def p_spec_KeysOf (x0 : (Int × Int × (List (List (Int × Nat × Nat × Nat × Nat))) × (List (Int × Nat × Nat × Nat)))) : Bool := ((p_spec_l05Is x0) && (!(m_spec_l05Is x0) || ((Option.isSome (l_spec_KeysOf_1 x0 (Int.toNat (((List.length x0.2.2.1 : Nat) : Int) - 0) + 2) [] 0)) && (Option.isSome (l_spec_KeysOf_2 x0 (Int.toNat (((List.length x0.2.2.2 : Nat) : Int) - 0) + 2) (Option.getD (l_spec_KeysOf_1 x0 (Int.toNat (((List.length x0.2.2.1 : Nat) : Int) - 0) + 2) [] 0) default) 0)))))
def g_spec_KeysOf : List AV → Option AV
 | [.agg [.int .i64 y0,.int .i64 y1,.sl w2,.sl w3]] => (match decL dc_en1 w2 with | some y2 => ((match decL dc_en2 w3 with | some y3 => (if p_spec_KeysOf (y0,y1,y2,y3) = true then some (AV.tup [(.sl (List.map (AV.int .i64) (m_spec_KeysOf (y0,y1,y2,y3)).1)),(.bool (m_spec_KeysOf (y0,y1,y2,y3)).2)]) else none) | none => none)) | none => none)
 | _ => none
def lb20_0 : ICode := (.seq (.reg [⟨some 24,none,.bin .lss false (.t 23) (.t 22)⟩] [1,4,5,13,14,22,23,24]) (.seq (.cond (.t 24) .skip (.exit 2)) (.seq (.block 3 (.seq (.reg [⟨some 25,none,.mov (.t 23)⟩,⟨some 6,none,.mov (.t 25)⟩] [1,4,5,6,13,14,22,23]) (.reg [⟨some 26,none,.mov (.t 4)⟩,⟨some 27,none,.faddr 2 (.t 1)⟩,⟨some 28,none,.load none (.t 27)⟩,⟨some 29,none,.mov (.t 5)⟩,⟨some 30,none,.iaddrS 1 (.t 28) (.t 29)⟩,⟨some 31,none,.load none (.t 30)⟩,⟨some 32,none,.mov (.t 6)⟩,⟨some 33,none,.iaddrS 5 (.t 31) (.t 32)⟩,⟨some 34,none,.faddr 0 (.t 33)⟩,⟨some 35,none,.load none (.t 34)⟩,⟨some 36,none,.call (.fn 43) [(.t 26),(.t 35)] []⟩,⟨some 4,none,.mov (.t 36)⟩] [1,4,5,13,14,22,23]))) (.reg [⟨some 37,none,.bin .add false (.t 23) (.c (.int .i64 1))⟩,⟨some 23,none,.mov (.t 37)⟩] [1,4,5,13,14,22,23]))))
def lb20_1 : ICode := (.seq (.reg [⟨some 15,none,.bin .lss false (.t 14) (.t 13)⟩] [1,4,13,14,15]) (.seq (.cond (.t 15) .skip (.exit 0)) (.seq (.block 1 (.seq (.reg [⟨some 16,none,.mov (.t 14)⟩,⟨some 5,none,.mov (.t 16)⟩] [1,4,5,13,14]) (.seq (.reg [⟨some 17,none,.faddr 2 (.t 1)⟩,⟨some 18,none,.load none (.t 17)⟩,⟨some 19,none,.mov (.t 5)⟩,⟨some 20,none,.iaddrS 1 (.t 18) (.t 19)⟩,⟨some 21,none,.load none (.t 20)⟩,⟨some 22,none,.len false (.t 21)⟩,⟨some 23,none,.mov (.c (.int .i64 0))⟩] [1,4,5,13,14,22,23]) (.block 2 (.loop lb20_0))))) (.reg [⟨some 38,none,.bin .add false (.t 14) (.c (.int .i64 1))⟩,⟨some 14,none,.mov (.t 38)⟩] [1,4,13,14]))))
def lb20_2 : ICode := (.seq (.reg [⟨some 43,none,.bin .lss false (.t 42) (.t 41)⟩] [1,4,41,42,43]) (.seq (.cond (.t 43) .skip (.exit 4)) (.seq (.block 5 (.seq (.reg [⟨some 44,none,.mov (.t 42)⟩,⟨some 7,none,.mov (.t 44)⟩] [1,4,7,41,42]) (.reg [⟨some 45,none,.mov (.t 4)⟩,⟨some 46,none,.faddr 3 (.t 1)⟩,⟨some 47,none,.load none (.t 46)⟩,⟨some 48,none,.mov (.t 7)⟩,⟨some 49,none,.iaddrS 4 (.t 47) (.t 48)⟩,⟨some 50,none,.faddr 0 (.t 49)⟩,⟨some 51,none,.load none (.t 50)⟩,⟨some 52,none,.call (.fn 43) [(.t 45),(.t 51)] []⟩,⟨some 4,none,.mov (.t 52)⟩] [1,4,41,42]))) (.reg [⟨some 53,none,.bin .add false (.t 42) (.c (.int .i64 1))⟩,⟨some 42,none,.mov (.t 53)⟩] [1,4,41,42]))))
def ic20 : ICode := (.seq (.reg [⟨some 1,none,.box 4 (.t 0)⟩,⟨some 2,none,.mov (.c .snil)⟩,⟨some 3,none,.mov (.c (.bool false))⟩] [1]) (.seq (.seq (.reg [⟨some 8,none,.call (.fn 27) [(.t 1)] []⟩,⟨some 9,none,.un .not (.t 8)⟩] [1,9]) (.cond (.t 9) (.seq (.reg [⟨some 2,none,.mov (.c .snil)⟩,⟨some 3,none,.mov (.c (.bool false))⟩] [2,3]) .ret) .skip)) (.seq (.reg [⟨some 10,none,.bslice 1 0 (.int .i64 0) []⟩,⟨some 4,none,.mov (.t 10)⟩] [1,4]) (.seq (.seq (.reg [⟨some 11,none,.faddr 2 (.t 1)⟩,⟨some 12,none,.load none (.t 11)⟩,⟨some 13,none,.len false (.t 12)⟩,⟨some 14,none,.mov (.c (.int .i64 0))⟩] [1,4,13,14]) (.block 0 (.loop lb20_1))) (.seq (.seq (.reg [⟨some 39,none,.faddr 3 (.t 1)⟩,⟨some 40,none,.load none (.t 39)⟩,⟨some 41,none,.len false (.t 40)⟩,⟨some 42,none,.mov (.c (.int .i64 0))⟩] [1,4,41,42]) (.block 4 (.loop lb20_2))) (.seq (.reg [⟨some 54,none,.mov (.t 4)⟩,⟨some 2,none,.mov (.t 54)⟩,⟨some 3,none,.mov (.c (.bool true))⟩] [2,3]) .ret))))))
def cp20 : CP := CP.mk [] [] [[1],[1,9],[2,3],[1,4],[1,4,13,14],[1,4,13,14,15],[1,4,5,13,14],[1,4,5,13,14,22,23],[1,4,5,13,14,22,23,24],[1,4,5,6,13,14,22,23],[1,4,5,13,14,22,23],[1,4,5,13,14,22,23],[1,4,13,14],[1,4,41,42],[1,4,41,42,43],[1,4,7,41,42],[1,4,41,42],[1,4,41,42],[2,3]] 55 [] []
theorem sl20_0 (x0 : (Int × Int × (List (List (Int × Nat × Nat × Nat × Nat))) × (List (Int × Nat × Nat × Nat)))) (z1_1 : Int) : ∀ (n : Nat) (z0_0 : (List Int)) (z0_1 : Int) (o : (List Int)) (K : IExit → St → Prop),l_spec_KeysOf_0 x0 z1_1 n z0_0 z0_1 = some o → (∀ st,Wk st (⟨[(1,(.lptr 1 0 0)),(4,(.sl (List.map (AV.int .i64) o))),(13,(.int .i64 ((List.length x0.2.2.1 : Nat) : Int))),(14,(.int .i64 z1_1))],[(1,(some ⟨4,false,[(AV.agg [(.int .i64 x0.1),(.int .i64 x0.2.1),(.sl (List.map en1 x0.2.2.1)),(.sl (List.map en2 x0.2.2.2))])]⟩))]⟩ : St) → K (.exit 2) st) → eA (tabOf [(27,wM .any g_spec_l05Is),(43,wM (.own [1]) g_spec_l00Put)]) (.loop lb20_0) (⟨[(1,(.lptr 1 0 0)),(4,(.sl (List.map (AV.int .i64) z0_0))),(5,(.int .i64 z1_1)),(13,(.int .i64 ((List.length x0.2.2.1 : Nat) : Int))),(14,(.int .i64 z1_1)),(22,(.int .i64 ((List.length (atI x0.2.2.1 z1_1) : Nat) : Int))),(23,(.int .i64 z0_1))],[(1,(some ⟨4,false,[(AV.agg [(.int .i64 x0.1),(.int .i64 x0.2.1),(.sl (List.map en1 x0.2.2.1)),(.sl (List.map en2 x0.2.2.2))])]⟩))]⟩ : St) K := by
 intro n
 induction n with
 | zero =>
  intro z0_0 z0_1 o K h h0
  simp only [l_spec_KeysOf_0,reduceCtorEq] at h
 | succ n ih =>
  intro z0_0 z0_1 o K h h0
  refine eA_loop ?_
  unfold lb20_0
  unfold l_spec_KeysOf_0 at h
  (try simp only [need_iff] at h)
  simp only [
   need_iff,h,grpX,purgeH,Option.map,reduceIte,Nat.reduceEqDiff,Nat.reduceAdd,Nat.reduceMul,Nat.reduceLT,Nat.reduceLeDiff,implies_true,forall_const,eq_self,Int.reduceEq,Int.reduceLE,Int.reduceLT,if_true,if_false,grpK,Int.reduceAdd,Int.reduceSub,Int.reduceMul,Int.reduceNeg,Int.reducePow,Nat.reducePow,Int.reduceToNat,Nat.reduceSub,List.replicate,Nat.reduceBEq,grpE,beq_true,beq_false,g_spec_l05Is,g_spec_l00Put,grpC,grpY]
  repeat' (first
   | ((first | (refine eGI_of (fun hc => ?_) (fun hc => ?_)) | (refine eCc_of (fun hc => ?_) (fun hc => ?_)) | (have hc := True.intro; refine KW_refl ?_)) <;> (try simp only [Bool.not_eq_true',Bool.not_eq_false'] at hc) <;> (try simp only [hc,need_iff,reduceCtorEq,grpN,Int.reduceEq,Int.reduceLT,Int.reduceLE,if_true,if_false,reduceIte] at h) <;> (first | (have hc2 := hc; simp only [decide_eq_true_eq,decide_eq_false_iff_not] at hc2; (first | (replace hc2 := eq_false hc2) | (replace hc2 := eq_true hc2)); (try simp only [hc2,need_iff,reduceCtorEq,grpN,Int.reduceEq,Int.reduceLT,Int.reduceLE,if_true,if_false,reduceIte] at h); replace h := And.intro hc2 h) | (replace h := And.intro hc h) | skip) <;> simp only [hc,
   need_iff,h,grpX,purgeH,Option.map,reduceIte,Nat.reduceEqDiff,Nat.reduceAdd,Nat.reduceMul,Nat.reduceLT,Nat.reduceLeDiff,implies_true,forall_const,eq_self,Int.reduceEq,Int.reduceLE,Int.reduceLT,if_true,if_false,grpK,Int.reduceAdd,Int.reduceSub,Int.reduceMul,Int.reduceNeg,Int.reducePow,Nat.reducePow,Int.reduceToNat,Nat.reduceSub,List.replicate,Nat.reduceBEq,grpE,beq_true,beq_false,g_spec_l05Is,g_spec_l00Put,grpC,grpY]))
  all_goals (have hf := h)
  all_goals (repeat (replace h := And.right h))
  all_goals ((first | (refine eA_wk (wk_norm (ks := [1,4,5,13,14,22,23]) (ls := [1]) ?_) (eA_cast ?_ (ih _ _ _ _ h h0))) | (cases h; have h := True.intro; refine h0 _ (Wk.cast (wk_norm (ks := [1,4,13,14]) (ls := [1]) ?_) ?_))) <;> simp only [normOk,optIn,blkIn,nameIn,normS,List.map_append,List.length_append,List.map_set,List.length_set,List.map_replicate,List.length_replicate,List.map_nil,List.map_cons,
   need_iff,h,hf,grpX,purgeH,Option.map,reduceIte,Nat.reduceEqDiff,Nat.reduceAdd,Nat.reduceMul,Nat.reduceLT,Nat.reduceLeDiff,implies_true,forall_const,eq_self,Int.reduceEq,Int.reduceLE,Int.reduceLT,if_true,if_false,grpK,Int.reduceAdd,Int.reduceSub,Int.reduceMul,Int.reduceNeg,Int.reducePow,Nat.reducePow,Int.reduceToNat,Nat.reduceSub,List.replicate,Nat.reduceBEq,grpE,beq_true,beq_false,g_spec_l05Is,g_spec_l00Put,grpC,grpY] <;> first | rfl | (simp only [Nat.add_comm]; done))
theorem sl20_1 (x0 : (Int × Int × (List (List (Int × Nat × Nat × Nat × Nat))) × (List (Int × Nat × Nat × Nat)))) : ∀ (n : Nat) (z1_0 : (List Int)) (z1_1 : Int) (o : (List Int)) (K : IExit → St → Prop),l_spec_KeysOf_1 x0 n z1_0 z1_1 = some o → (∀ st,Wk st (⟨[(1,(.lptr 1 0 0)),(4,(.sl (List.map (AV.int .i64) o)))],[(1,(some ⟨4,false,[(AV.agg [(.int .i64 x0.1),(.int .i64 x0.2.1),(.sl (List.map en1 x0.2.2.1)),(.sl (List.map en2 x0.2.2.2))])]⟩))]⟩ : St) → K (.exit 0) st) → eA (tabOf [(27,wM .any g_spec_l05Is),(43,wM (.own [1]) g_spec_l00Put)]) (.loop lb20_1) (⟨[(1,(.lptr 1 0 0)),(4,(.sl (List.map (AV.int .i64) z1_0))),(13,(.int .i64 ((List.length x0.2.2.1 : Nat) : Int))),(14,(.int .i64 z1_1))],[(1,(some ⟨4,false,[(AV.agg [(.int .i64 x0.1),(.int .i64 x0.2.1),(.sl (List.map en1 x0.2.2.1)),(.sl (List.map en2 x0.2.2.2))])]⟩))]⟩ : St) K := by
 intro n
 induction n with
 | zero =>
  intro z1_0 z1_1 o K h h0
  simp only [l_spec_KeysOf_1,reduceCtorEq] at h
 | succ n ih =>
  intro z1_0 z1_1 o K h h0
  refine eA_loop ?_
  unfold lb20_1
  unfold l_spec_KeysOf_1 at h
  (try simp only [need_iff] at h)
  simp only [
   need_iff,h,grpX,purgeH,Option.map,reduceIte,Nat.reduceEqDiff,Nat.reduceAdd,Nat.reduceMul,Nat.reduceLT,Nat.reduceLeDiff,implies_true,forall_const,eq_self,Int.reduceEq,Int.reduceLE,Int.reduceLT,if_true,if_false,grpK,Int.reduceAdd,Int.reduceSub,Int.reduceMul,Int.reduceNeg,Int.reducePow,Nat.reducePow,Int.reduceToNat,Nat.reduceSub,List.replicate,Nat.reduceBEq,grpE,beq_true,beq_false,g_spec_l05Is,g_spec_l00Put,grpC,grpY]
  repeat' (first
   | ((first | (refine eGI_of (fun hc => ?_) (fun hc => ?_)) | (refine eCc_of (fun hc => ?_) (fun hc => ?_)) | (have hc := True.intro; refine KW_refl ?_)) <;> (try simp only [Bool.not_eq_true',Bool.not_eq_false'] at hc) <;> (try simp only [hc,need_iff,reduceCtorEq,grpN,Int.reduceEq,Int.reduceLT,Int.reduceLE,if_true,if_false,reduceIte] at h) <;> (first | (have hc2 := hc; simp only [decide_eq_true_eq,decide_eq_false_iff_not] at hc2; (first | (replace hc2 := eq_false hc2) | (replace hc2 := eq_true hc2)); (try simp only [hc2,need_iff,reduceCtorEq,grpN,Int.reduceEq,Int.reduceLT,Int.reduceLE,if_true,if_false,reduceIte] at h); replace h := And.intro hc2 h) | (replace h := And.intro hc h) | skip) <;> simp only [hc,
   need_iff,h,grpX,purgeH,Option.map,reduceIte,Nat.reduceEqDiff,Nat.reduceAdd,Nat.reduceMul,Nat.reduceLT,Nat.reduceLeDiff,implies_true,forall_const,eq_self,Int.reduceEq,Int.reduceLE,Int.reduceLT,if_true,if_false,grpK,Int.reduceAdd,Int.reduceSub,Int.reduceMul,Int.reduceNeg,Int.reducePow,Nat.reducePow,Int.reduceToNat,Nat.reduceSub,List.replicate,Nat.reduceBEq,grpE,beq_true,beq_false,g_spec_l05Is,g_spec_l00Put,grpC,grpY])
   | (refine eA_wk (wk_norm (ks := [1,4,5,13,14,22,23]) (ls := [1]) ?_) (eA_cast ?_ (sl20_0 x0 z1_1 _ _ _ _ _ (getD_some (d := default) (x := (l_spec_KeysOf_0 x0 z1_1 (Int.toNat (((List.length (atI x0.2.2.1 z1_1) : Nat) : Int) - 0) + 2) z1_0 0)) ?_) ?_)); (iterate 2 (simp only [nilS,nilV,nilB,normOk,optIn,blkIn,nameIn,normS,List.map_append,List.length_append,List.map_set,List.length_set,List.map_replicate,List.length_replicate,List.map_nil,List.map_cons,
   need_iff,h,grpX,purgeH,Option.map,reduceIte,Nat.reduceEqDiff,Nat.reduceAdd,Nat.reduceMul,Nat.reduceLT,Nat.reduceLeDiff,implies_true,forall_const,eq_self,Int.reduceEq,Int.reduceLE,Int.reduceLT,if_true,if_false,grpK,Int.reduceAdd,Int.reduceSub,Int.reduceMul,Int.reduceNeg,Int.reducePow,Nat.reducePow,Int.reduceToNat,Nat.reduceSub,List.replicate,Nat.reduceBEq,grpE,beq_true,beq_false,g_spec_l05Is,g_spec_l00Put,grpC,grpY] <;> first | rfl | (simp only [Nat.add_comm]; done))); (simp only [h]); (
    intro st2 hw; (try simp only [reduceCtorEq,grpN,Int.reduceEq,Int.reduceLT,Int.reduceLE,if_true,if_false,reduceIte] at h); (try replace h := And.intro ht h); simp only [
Kq_exit,Kq_normal,Kq_ret,Kb_exit,Kb_normal,Kb_ret,Kl_exit,Kl_normal,Kl_ret,reduceIte,Nat.reduceEqDiff,if_true,if_false,eq_self]; refine KW_of hw ?_; simp only [
   need_iff,h,grpX,purgeH,Option.map,reduceIte,Nat.reduceEqDiff,Nat.reduceAdd,Nat.reduceMul,Nat.reduceLT,Nat.reduceLeDiff,implies_true,forall_const,eq_self,Int.reduceEq,Int.reduceLE,Int.reduceLT,if_true,if_false,grpK,Int.reduceAdd,Int.reduceSub,Int.reduceMul,Int.reduceNeg,Int.reducePow,Nat.reducePow,Int.reduceToNat,Nat.reduceSub,List.replicate,Nat.reduceBEq,grpE,beq_true,beq_false,g_spec_l05Is,g_spec_l00Put,grpC,grpY])))
  all_goals (have hf := h)
  all_goals (repeat (replace h := And.right h))
  all_goals ((first | (refine eA_wk (wk_norm (ks := [1,4,13,14]) (ls := [1]) ?_) (eA_cast ?_ (ih _ _ _ _ h h0))) | (cases h; have h := True.intro; refine h0 _ (Wk.cast (wk_norm (ks := [1,4]) (ls := [1]) ?_) ?_))) <;> simp only [normOk,optIn,blkIn,nameIn,normS,List.map_append,List.length_append,List.map_set,List.length_set,List.map_replicate,List.length_replicate,List.map_nil,List.map_cons,
   need_iff,h,hf,grpX,purgeH,Option.map,reduceIte,Nat.reduceEqDiff,Nat.reduceAdd,Nat.reduceMul,Nat.reduceLT,Nat.reduceLeDiff,implies_true,forall_const,eq_self,Int.reduceEq,Int.reduceLE,Int.reduceLT,if_true,if_false,grpK,Int.reduceAdd,Int.reduceSub,Int.reduceMul,Int.reduceNeg,Int.reducePow,Nat.reducePow,Int.reduceToNat,Nat.reduceSub,List.replicate,Nat.reduceBEq,grpE,beq_true,beq_false,g_spec_l05Is,g_spec_l00Put,grpC,grpY] <;> first | rfl | (simp only [Nat.add_comm]; done))
theorem sl20_2 (x0 : (Int × Int × (List (List (Int × Nat × Nat × Nat × Nat))) × (List (Int × Nat × Nat × Nat)))) : ∀ (n : Nat) (z2_0 : (List Int)) (z2_1 : Int) (o : (List Int)) (K : IExit → St → Prop),l_spec_KeysOf_2 x0 n z2_0 z2_1 = some o → (∀ st,Wk st (⟨[(4,(.sl (List.map (AV.int .i64) o)))],[]⟩ : St) → K (.exit 4) st) → eA (tabOf [(27,wM .any g_spec_l05Is),(43,wM (.own [1]) g_spec_l00Put)]) (.loop lb20_2) (⟨[(1,(.lptr 1 0 0)),(4,(.sl (List.map (AV.int .i64) z2_0))),(41,(.int .i64 ((List.length x0.2.2.2 : Nat) : Int))),(42,(.int .i64 z2_1))],[(1,(some ⟨4,false,[(AV.agg [(.int .i64 x0.1),(.int .i64 x0.2.1),(.sl (List.map en1 x0.2.2.1)),(.sl (List.map en2 x0.2.2.2))])]⟩))]⟩ : St) K := by
 intro n
 induction n with
 | zero =>
  intro z2_0 z2_1 o K h h0
  simp only [l_spec_KeysOf_2,reduceCtorEq] at h
 | succ n ih =>
  intro z2_0 z2_1 o K h h0
  refine eA_loop ?_
  unfold lb20_2
  unfold l_spec_KeysOf_2 at h
  (try simp only [need_iff] at h)
  simp only [
   need_iff,h,grpX,purgeH,Option.map,reduceIte,Nat.reduceEqDiff,Nat.reduceAdd,Nat.reduceMul,Nat.reduceLT,Nat.reduceLeDiff,implies_true,forall_const,eq_self,Int.reduceEq,Int.reduceLE,Int.reduceLT,if_true,if_false,grpK,Int.reduceAdd,Int.reduceSub,Int.reduceMul,Int.reduceNeg,Int.reducePow,Nat.reducePow,Int.reduceToNat,Nat.reduceSub,List.replicate,Nat.reduceBEq,grpE,beq_true,beq_false,g_spec_l05Is,g_spec_l00Put,grpC,grpY]
  repeat' (first
   | ((first | (refine eGI_of (fun hc => ?_) (fun hc => ?_)) | (refine eCc_of (fun hc => ?_) (fun hc => ?_)) | (have hc := True.intro; refine KW_refl ?_)) <;> (try simp only [Bool.not_eq_true',Bool.not_eq_false'] at hc) <;> (try simp only [hc,need_iff,reduceCtorEq,grpN,Int.reduceEq,Int.reduceLT,Int.reduceLE,if_true,if_false,reduceIte] at h) <;> (first | (have hc2 := hc; simp only [decide_eq_true_eq,decide_eq_false_iff_not] at hc2; (first | (replace hc2 := eq_false hc2) | (replace hc2 := eq_true hc2)); (try simp only [hc2,need_iff,reduceCtorEq,grpN,Int.reduceEq,Int.reduceLT,Int.reduceLE,if_true,if_false,reduceIte] at h); replace h := And.intro hc2 h) | (replace h := And.intro hc h) | skip) <;> simp only [hc,
   need_iff,h,grpX,purgeH,Option.map,reduceIte,Nat.reduceEqDiff,Nat.reduceAdd,Nat.reduceMul,Nat.reduceLT,Nat.reduceLeDiff,implies_true,forall_const,eq_self,Int.reduceEq,Int.reduceLE,Int.reduceLT,if_true,if_false,grpK,Int.reduceAdd,Int.reduceSub,Int.reduceMul,Int.reduceNeg,Int.reducePow,Nat.reducePow,Int.reduceToNat,Nat.reduceSub,List.replicate,Nat.reduceBEq,grpE,beq_true,beq_false,g_spec_l05Is,g_spec_l00Put,grpC,grpY]))
  all_goals (have hf := h)
  all_goals (repeat (replace h := And.right h))
  all_goals ((first | (refine eA_wk (wk_norm (ks := [1,4,41,42]) (ls := [1]) ?_) (eA_cast ?_ (ih _ _ _ _ h h0))) | (cases h; have h := True.intro; refine h0 _ (Wk.cast (wk_norm (ks := [4]) (ls := []) ?_) ?_))) <;> simp only [normOk,optIn,blkIn,nameIn,normS,List.map_append,List.length_append,List.map_set,List.length_set,List.map_replicate,List.length_replicate,List.map_nil,List.map_cons,
   need_iff,h,hf,grpX,purgeH,Option.map,reduceIte,Nat.reduceEqDiff,Nat.reduceAdd,Nat.reduceMul,Nat.reduceLT,Nat.reduceLeDiff,implies_true,forall_const,eq_self,Int.reduceEq,Int.reduceLE,Int.reduceLT,if_true,if_false,grpK,Int.reduceAdd,Int.reduceSub,Int.reduceMul,Int.reduceNeg,Int.reducePow,Nat.reducePow,Int.reduceToNat,Nat.reduceSub,List.replicate,Nat.reduceBEq,grpE,beq_true,beq_false,g_spec_l05Is,g_spec_l00Put,grpC,grpY] <;> first | rfl | (simp only [Nat.add_comm]; done))
theorem s20 : ∀ vs r,g_spec_KeysOf vs = some r → SaysM Try.prog .any 20 vs r := by
 intro vs r h
 unfold g_spec_KeysOf at h
 split at h
 ·rename_i y0 y1 w2 w3
  cases hd_y2 : decL dc_en1 w2 with
  | none => rw [hd_y2] at h; cases h
  | some y2 =>
  rw [hd_y2] at h
  obtain rfl := decL_inv dc_en1_inv hd_y2
  clear hd_y2
  dsimp only at h
  cases hd_y3 : decL dc_en2 w3 with
  | none => rw [hd_y3] at h; cases h
  | some y3 =>
  rw [hd_y3] at h
  obtain rfl := decL_inv dc_en2_inv hd_y3
  clear hd_y3
  dsimp only at h
  split at h
  ·rename_i hp
   cases h
   refine spec_of (m := .any) (tab := tabOf [(27,wM .any g_spec_l05Is),(43,wM (.own [1]) g_spec_l00Put)]) (cp := cp20) (ic := ic20) (rvl := [(.t 2),(.t 3)]) hm (tabOk_cons (m := .any) s27 (tabOk_cons (m := (.own [1])) s43 tabOk_nil)) Try.func20 rfl rfl rfl (by kernel_rfl) rfl (Nat.le_of_ble_eq_true rfl) (Nat.le_of_ble_eq_true rfl) ?_
   show eA _ _ _ _
   unfold ic20
   simp only [p_spec_KeysOf,Bool.and_eq_true,Bool.or_eq_true,decide_eq_true_eq,Bool.not_eq_true',decide_eq_false_iff_not] at hp
   refine eS_to ?_
   repeat' (first
    | ((first | (have h := True.intro; refine eS_of ?_) | (refine eGI_of (fun h => ?_) (fun h => ?_)) | (refine eCc_of (fun h => ?_) (fun h => ?_)) | (have h := True.intro; refine KW_refl ?_)) <;> (try simp only [Bool.not_eq_true',Bool.not_eq_false'] at h) <;> (try first | exact nbA h (by assumption) | exact nbB h (by assumption)) <;> (try simp only [h,reduceCtorEq,grpN,Int.reduceEq,Int.reduceLT,Int.reduceLE,if_true,if_false,reduceIte] at hp) <;> (first | (have h2 := h; simp only [decide_eq_true_eq,decide_eq_false_iff_not] at h2; (first | (replace h2 := eq_false h2) | (replace h2 := eq_true h2)); (try simp only [h2,reduceCtorEq,grpN,Int.reduceEq,Int.reduceLT,Int.reduceLE,if_true,if_false,reduceIte] at hp); replace hp := And.intro h2 hp) | (replace hp := And.intro h hp) | skip) <;> simp only [h,
     hp,grpX,purgeH,Option.map,reduceIte,Nat.reduceEqDiff,Nat.reduceAdd,Nat.reduceMul,Nat.reduceLT,Nat.reduceLeDiff,implies_true,forall_const,eq_self,Int.reduceEq,Int.reduceLE,Int.reduceLT,if_true,if_false,grpK,Int.reduceAdd,Int.reduceSub,Int.reduceMul,Int.reduceNeg,Int.reducePow,Nat.reducePow,Int.reduceToNat,Nat.reduceSub,List.replicate,Nat.reduceBEq,grpE,beq_true,beq_false,g_spec_l05Is,g_spec_l00Put,grpC,grpY])
    | (refine eA_wk ((wk_frz (l := 10) (b := ⟨1,true,[]⟩) ?_ ?_).trans (wk_norm (ks := [1,4,13,14]) (ls := [1]) ?_)) (eA_cast ?_ (sl20_1 (y0,y1,y2,y3) _ _ _ _ _ (getD_some (d := default) (x := (l_spec_KeysOf_1 (y0,y1,y2,y3) (Int.toNat (((List.length (y0,y1,y2,y3).2.2.1 : Nat) : Int) - 0) + 2) [] 0)) ?_) ?_)); (iterate 4 (simp only [nilS,nilV,nilB,normOk,optIn,blkIn,nameIn,normS,frzS,frzV,frz1,frzB,partL,List.map_append,List.length_append,List.map_set,List.length_set,List.map_replicate,List.length_replicate,List.map_nil,List.map_cons,
     hp,grpX,purgeH,Option.map,reduceIte,Nat.reduceEqDiff,Nat.reduceAdd,Nat.reduceMul,Nat.reduceLT,Nat.reduceLeDiff,implies_true,forall_const,eq_self,Int.reduceEq,Int.reduceLE,Int.reduceLT,if_true,if_false,grpK,Int.reduceAdd,Int.reduceSub,Int.reduceMul,Int.reduceNeg,Int.reducePow,Nat.reducePow,Int.reduceToNat,Nat.reduceSub,List.replicate,Nat.reduceBEq,grpE,beq_true,beq_false,g_spec_l05Is,g_spec_l00Put,grpC,grpY] <;> first | rfl | (simp only [Nat.add_comm]; done))); (simp only [hp]); (
    intro st2 hw; (try simp only [reduceCtorEq,grpN,Int.reduceEq,Int.reduceLT,Int.reduceLE,if_true,if_false,reduceIte] at hp); (try replace hp := And.intro ht hp); simp only [
Kq_exit,Kq_normal,Kq_ret,Kb_exit,Kb_normal,Kb_ret,Kl_exit,Kl_normal,Kl_ret,reduceIte,Nat.reduceEqDiff,if_true,if_false,eq_self]; refine KW_of hw ?_; simp only [
     hp,grpX,purgeH,Option.map,reduceIte,Nat.reduceEqDiff,Nat.reduceAdd,Nat.reduceMul,Nat.reduceLT,Nat.reduceLeDiff,implies_true,forall_const,eq_self,Int.reduceEq,Int.reduceLE,Int.reduceLT,if_true,if_false,grpK,Int.reduceAdd,Int.reduceSub,Int.reduceMul,Int.reduceNeg,Int.reducePow,Nat.reducePow,Int.reduceToNat,Nat.reduceSub,List.replicate,Nat.reduceBEq,grpE,beq_true,beq_false,g_spec_l05Is,g_spec_l00Put,grpC,grpY]))
    | (refine eA_wk (wk_norm (ks := [1,4,41,42]) (ls := [1]) ?_) (eA_cast ?_ (sl20_2 (y0,y1,y2,y3) _ _ _ _ _ (getD_some (d := default) (x := (l_spec_KeysOf_2 (y0,y1,y2,y3) (Int.toNat (((List.length (y0,y1,y2,y3).2.2.2 : Nat) : Int) - 0) + 2) (Option.getD (l_spec_KeysOf_1 (y0,y1,y2,y3) (Int.toNat (((List.length (y0,y1,y2,y3).2.2.1 : Nat) : Int) - 0) + 2) [] 0) default) 0)) ?_) ?_)); (iterate 2 (simp only [nilS,nilV,nilB,normOk,optIn,blkIn,nameIn,normS,List.map_append,List.length_append,List.map_set,List.length_set,List.map_replicate,List.length_replicate,List.map_nil,List.map_cons,
     hp,grpX,purgeH,Option.map,reduceIte,Nat.reduceEqDiff,Nat.reduceAdd,Nat.reduceMul,Nat.reduceLT,Nat.reduceLeDiff,implies_true,forall_const,eq_self,Int.reduceEq,Int.reduceLE,Int.reduceLT,if_true,if_false,grpK,Int.reduceAdd,Int.reduceSub,Int.reduceMul,Int.reduceNeg,Int.reducePow,Nat.reducePow,Int.reduceToNat,Nat.reduceSub,List.replicate,Nat.reduceBEq,grpE,beq_true,beq_false,g_spec_l05Is,g_spec_l00Put,grpC,grpY] <;> first | rfl | (simp only [Nat.add_comm]; done))); (simp only [hp]); (
    intro st2 hw; (try simp only [reduceCtorEq,grpN,Int.reduceEq,Int.reduceLT,Int.reduceLE,if_true,if_false,reduceIte] at hp); (try replace hp := And.intro ht hp); simp only [
Kq_exit,Kq_normal,Kq_ret,Kb_exit,Kb_normal,Kb_ret,Kl_exit,Kl_normal,Kl_ret,reduceIte,Nat.reduceEqDiff,if_true,if_false,eq_self]; refine KW_of hw ?_; simp only [
     hp,grpX,purgeH,Option.map,reduceIte,Nat.reduceEqDiff,Nat.reduceAdd,Nat.reduceMul,Nat.reduceLT,Nat.reduceLeDiff,implies_true,forall_const,eq_self,Int.reduceEq,Int.reduceLE,Int.reduceLT,if_true,if_false,grpK,Int.reduceAdd,Int.reduceSub,Int.reduceMul,Int.reduceNeg,Int.reducePow,Nat.reducePow,Int.reduceToNat,Nat.reduceSub,List.replicate,Nat.reduceBEq,grpE,beq_true,beq_false,g_spec_l05Is,g_spec_l00Put,grpC,grpY])))
   all_goals (try simp only [*,m_spec_KeysOf,grpZ,if_true,if_false,reduceIte,decide_true,decide_false])
   all_goals (try (simp_all; done))
  ·cases h
 ·cases h
def m_impl_turnTrack  : (Unit × Unit × Unit) := ((),(),())
def g_impl_turnTrack : List AV → Option AV
 | [] => some (AV.agg [(.fn (.func 74) [] []),(.fn (.func 75) [] []),(.fn (.func 76) [] [])])
 | _ => none
def ic55 : ICode := (.seq (.reg [⟨some 0,none,.alloc (.agg [.any,.any,.any])⟩] [0]) (.seq (.reg [⟨some 1,none,.build [.any,.any,.any] [(0,1,(.f 74)),(1,1,(.f 75)),(2,1,(.f 76))]⟩,⟨none,none,(.store 3 (.t 0) (.t 1))⟩] [0]) .ret))
def cp55 : CP := CP.mk [] [] [[0],[0]] 2 [] []
theorem s55 : ∀ vs r,g_impl_turnTrack vs = some r → SaysM Try.prog .any 55 vs r := by
 intro vs r h
 unfold g_impl_turnTrack at h
 split at h
 ·cases h
  refine spec_of (m := .any) (tab := tabOf []) (cp := cp55) (ic := ic55) (rvl := [(.c 0 (some 3))]) hm tabOk_nil Try.func55 rfl rfl rfl (by kernel_rfl) rfl (Nat.le_of_ble_eq_true rfl) (Nat.le_of_ble_eq_true rfl) ?_
  show eA _ _ _ _
  unfold ic55
  simp only [
    grpX,purgeH,Option.map,reduceIte,Nat.reduceEqDiff,Nat.reduceAdd,Nat.reduceMul,Nat.reduceLT,Nat.reduceLeDiff,implies_true,forall_const,eq_self,Int.reduceEq,Int.reduceLE,Int.reduceLT,if_true,if_false,grpK,Int.reduceAdd,Int.reduceSub,Int.reduceMul,Int.reduceNeg,Int.reducePow,Nat.reducePow,Int.reduceToNat,Nat.reduceSub,List.replicate,Nat.reduceBEq,grpE,beq_true,beq_false,grpC,grpY]
  all_goals (try simp only [*,m_impl_turnTrack,grpZ,if_true,if_false,reduceIte,decide_true,decide_false])
  all_goals (try (simp_all; done))
 ·cases h
def m_impl_turnTrack_1 (x0 : (Int × Nat × Nat × Nat × Nat)) : Int := x0.1
def g_impl_turnTrack_1 : List AV → Option AV
 | [.agg [.int .i64 y0,.flt .f32 y1,.flt .f32 y2,.flt .f32 y3,.flt .f32 y4]] => some (.int .i64 (m_impl_turnTrack_1 (y0,y1,y2,y3,y4)))
 | _ => none
def ic74 : ICode := (.seq (.reg [⟨some 1,none,.box 5 (.t 0)⟩,⟨some 2,none,.mov (.c (.int .i64 0))⟩] [1]) (.seq (.reg [⟨some 3,none,.faddr 0 (.t 1)⟩,⟨some 4,none,.load none (.t 3)⟩,⟨some 2,none,.mov (.t 4)⟩] [2]) .ret))
def cp74 : CP := CP.mk [] [] [[1],[2]] 5 [] []
theorem s74 : ∀ vs r,g_impl_turnTrack_1 vs = some r → SaysM Try.prog .any 74 vs r := by
 intro vs r h
 unfold g_impl_turnTrack_1 at h
 split at h
 ·rename_i y0 y1 y2 y3 y4
  cases h
  refine spec_of (m := .any) (tab := tabOf []) (cp := cp74) (ic := ic74) (rvl := [(.t 2)]) hm tabOk_nil Try.func74 rfl rfl rfl (by kernel_rfl) rfl (Nat.le_of_ble_eq_true rfl) (Nat.le_of_ble_eq_true rfl) ?_
  show eA _ _ _ _
  unfold ic74
  simp only [
    grpX,purgeH,Option.map,reduceIte,Nat.reduceEqDiff,Nat.reduceAdd,Nat.reduceMul,Nat.reduceLT,Nat.reduceLeDiff,implies_true,forall_const,eq_self,Int.reduceEq,Int.reduceLE,Int.reduceLT,if_true,if_false,grpK,Int.reduceAdd,Int.reduceSub,Int.reduceMul,Int.reduceNeg,Int.reducePow,Nat.reducePow,Int.reduceToNat,Nat.reduceSub,List.replicate,Nat.reduceBEq,grpE,beq_true,beq_false,grpC,grpY]
  all_goals (try simp only [*,m_impl_turnTrack_1,grpZ,if_true,if_false,reduceIte,decide_true,decide_false])
  all_goals (try (simp_all; done))
 ·cases h
def l_impl_Key_valid_0 (x1 : (List (Int × Nat × Nat × Nat × Nat))) (x2 : Int) : Nat → Int → Int → Option (Bool × Bool × Unit)
 | 0,_,_ => none
 | n + 1,z0_0,z0_1 => (if (decide (z0_1 < ((List.length x1 : Nat) : Int))) = true then (need (inB z0_1 (List.length x1)) (if (decide ((m_impl_turnTrack_1 (atI x1 z0_1)) ≤ z0_0)) = true then (some (true,false,default)) else (if (decide (x2 < (m_impl_turnTrack_1 (atI x1 z0_1)))) = true then (some (true,false,default)) else (l_impl_Key_valid_0 x1 x2 n (m_impl_turnTrack_1 (atI x1 z0_1)) (IntKind.wrap .i64 (z0_1 + 1)))))) else (some (false,default,())))
def m_impl_Key_valid (x0 : (Unit × Unit × Unit)) (x1 : (List (Int × Nat × Nat × Nat × Nat))) (x2 : Int) : Bool := (if (Option.getD (l_impl_Key_valid_0 x1 x2 (Int.toNat (((List.length x1 : Nat) : Int) - 0) + 2) (-1) 0) default).1 = true then (Option.getD (l_impl_Key_valid_0 x1 x2 (Int.toNat (((List.length x1 : Nat) : Int) - 0) + 2) (-1) 0) default).2.1 else (if (decide (1 ≤ ((List.length x1 : Nat) : Int))) = true then (decide (((List.length x1 : Nat) : Int) ≤ 12)) else false))
def p_impl_Key_valid (x0 : (Unit × Unit × Unit)) (x1 : (List (Int × Nat × Nat × Nat × Nat))) (x2 : Int) : Bool := (Option.isSome (l_impl_Key_valid_0 x1 x2 (Int.toNat (((List.length x1 : Nat) : Int) - 0) + 2) (-1) 0))
def g_impl_Key_valid : List AV → Option AV
 | [.agg [.fn (.func 74) [] [],.fn (.func 75) [] [],.fn (.func 76) [] []],.sl w0,.int .i64 y1] => (match decL dc_en0 w0 with | some y0 => (if p_impl_Key_valid ((),(),()) y0 y1 = true then some (.bool (m_impl_Key_valid ((),(),()) y0 y1)) else none) | none => none)
 | _ => none
def lb62_0 : ICode := (.seq (.reg [⟨some 14,none,.bin .lss false (.t 13) (.t 12)⟩] [1,2,3,7,11,12,13,14]) (.seq (.cond (.t 14) .skip (.exit 0)) (.seq (.block 1 (.seq (.reg [⟨some 15,none,.iaddrS 5 (.t 11) (.t 13)⟩,⟨some 16,none,.load (some 5) (.t 15)⟩,⟨some 9,none,.alloc (.agg [(.int .i64 0),(.flt .f32 0),(.flt .f32 0),(.flt .f32 0),(.flt .f32 0)])⟩,⟨none,none,(.store 5 (.t 9) (.t 16))⟩] [1,2,3,7,9,11,12,13]) (.seq (.seq (.reg [⟨some 17,none,.faddr 0 (.t 3)⟩,⟨some 18,none,.load none (.t 17)⟩,⟨some 19,none,.load (some 5) (.t 9)⟩,⟨some 20,none,.call (.dyn (.t 18)) [(.t 19)] []⟩,⟨some 10,none,.mov (.t 20)⟩] [1,2,3,7,9,10,11,12,13]) (.seq (.reg [⟨some 21,none,.mov (.t 10)⟩,⟨some 22,none,.mov (.t 7)⟩,⟨some 23,none,.bin .leq false (.t 21) (.t 22)⟩,⟨some 24,none,.mov (.t 23)⟩,⟨(some 25),(some (24,false)),(.mov (.t 10))⟩,⟨(some 26),(some (24,false)),(.mov (.t 2))⟩,⟨(some 27),(some (24,false)),(.bin .gtr false (.t 25) (.t 26))⟩,⟨some 28,none,.pick (.t 24) (.c (.bool true)) (.t 27)⟩] [1,2,3,9,11,12,13,28]) (.cond (.t 28) (.seq (.reg [⟨some 6,none,.mov (.c (.bool false))⟩] [6]) .ret) .skip))) (.reg [⟨some 29,none,.faddr 0 (.t 3)⟩,⟨some 30,none,.load none (.t 29)⟩,⟨some 31,none,.load (some 5) (.t 9)⟩,⟨some 32,none,.call (.dyn (.t 30)) [(.t 31)] []⟩,⟨some 7,none,.mov (.t 32)⟩] [1,2,3,7,11,12,13])))) (.reg [⟨some 33,none,.bin .add false (.t 13) (.c (.int .i64 1))⟩,⟨some 13,none,.mov (.t 33)⟩] [1,2,3,7,11,12,13]))))
def ic62 : ICode := (.seq (.reg [⟨some 3,none,.box 3 (.t 0)⟩,⟨some 6,none,.mov (.c (.bool false))⟩] [1,2,3]) (.seq (.reg [⟨some 7,none,.mov (.c (.int .i64 (-1)))⟩] [1,2,3,7]) (.seq (.seq (.reg [⟨some 11,none,.mov (.t 1)⟩,⟨some 12,none,.len false (.t 11)⟩,⟨some 13,none,.mov (.c (.int .i64 0))⟩] [1,2,3,7,11,12,13]) (.block 0 (.loop lb62_0))) (.seq (.reg [⟨some 34,none,.mov (.t 1)⟩,⟨some 35,none,.len false (.t 34)⟩,⟨some 36,none,.bin .geq false (.t 35) (.c (.int .i64 1))⟩,⟨some 37,none,.mov (.t 36)⟩,⟨(some 38),(some (37,true)),(.mov (.t 1))⟩,⟨(some 39),(some (37,true)),(.len false (.t 38))⟩,⟨(some 40),(some (37,true)),(.bin .leq false (.t 39) (.c (.int .i64 12)))⟩,⟨some 41,none,.pick (.t 37) (.t 40) (.c (.bool false))⟩,⟨some 6,none,.mov (.t 41)⟩] [6]) .ret))))
def cp62 : CP := CP.mk [] [] [[1,2,3],[1,2,3,7],[1,2,3,7,11,12,13],[1,2,3,7,11,12,13,14],[1,2,3,7,9,11,12,13],[1,2,3,7,9,10,11,12,13],[1,2,3,9,11,12,13,28],[6],[1,2,3,7,11,12,13],[1,2,3,7,11,12,13],[6]] 42 [] []
theorem sl62_0 (x1 : (List (Int × Nat × Nat × Nat × Nat))) (x2 : Int) : ∀ (n : Nat) (z0_0 : Int) (z0_1 : Int) (o : (Bool × Bool × Unit)) (K : IExit → St → Prop),l_impl_Key_valid_0 x1 x2 n z0_0 z0_1 = some o → (∀ st,o.1 = true → outM .any st [(.t 6)] = some (.bool o.2.1) → K .ret st) → (∀ st,o.1 = false → Wk st (⟨[(1,(.sl (List.map en0 x1)))],[]⟩ : St) → K (.exit 0) st) → eA (tabOf [(74,wM .any g_impl_turnTrack_1)]) (.loop lb62_0) (⟨[(1,(.sl (List.map en0 x1))),(2,(.int .i64 x2)),(3,(.lptr 3 0 0)),(7,(.int .i64 z0_0)),(11,(.sl (List.map en0 x1))),(12,(.int .i64 ((List.length x1 : Nat) : Int))),(13,(.int .i64 z0_1))],[(3,(some ⟨3,false,[(AV.agg [(.fn (.func 74) [] []),(.fn (.func 75) [] []),(.fn (.func 76) [] [])])]⟩))]⟩ : St) K := by
 intro n
 induction n with
 | zero =>
  intro z0_0 z0_1 o K h h0 h1
  simp only [l_impl_Key_valid_0,reduceCtorEq] at h
 | succ n ih =>
  intro z0_0 z0_1 o K h h0 h1
  refine eA_loop ?_
  unfold lb62_0
  unfold l_impl_Key_valid_0 at h
  (try simp only [need_iff] at h)
  simp only [
   need_iff,h,grpX,purgeH,Option.map,reduceIte,Nat.reduceEqDiff,Nat.reduceAdd,Nat.reduceMul,Nat.reduceLT,Nat.reduceLeDiff,implies_true,forall_const,eq_self,Int.reduceEq,Int.reduceLE,Int.reduceLT,if_true,if_false,grpK,Int.reduceAdd,Int.reduceSub,Int.reduceMul,Int.reduceNeg,Int.reducePow,Nat.reducePow,Int.reduceToNat,Nat.reduceSub,List.replicate,Nat.reduceBEq,grpE,beq_true,beq_false,g_impl_turnTrack_1,grpC,grpY,↓b_pick,ePk_true,ePk_false]
  repeat' (first
   | ((first | (refine eGI_of (fun hc => ?_) (fun hc => ?_)) | (refine eCc_of (fun hc => ?_) (fun hc => ?_)) | (refine ePk_of (fun hc => ?_) (fun hc => ?_)) | (have hc := True.intro; refine KW_refl ?_)) <;> (try simp only [Bool.not_eq_true',Bool.not_eq_false'] at hc) <;> (try simp only [hc,need_iff,reduceCtorEq,grpN,Int.reduceEq,Int.reduceLT,Int.reduceLE,if_true,if_false,reduceIte] at h) <;> (first | (have hc2 := hc; simp only [decide_eq_true_eq,decide_eq_false_iff_not] at hc2; (first | (replace hc2 := eq_false hc2) | (replace hc2 := eq_true hc2)); (try simp only [hc2,need_iff,reduceCtorEq,grpN,Int.reduceEq,Int.reduceLT,Int.reduceLE,if_true,if_false,reduceIte] at h); replace h := And.intro hc2 h) | (replace h := And.intro hc h) | skip) <;> simp only [hc,
   need_iff,h,grpX,purgeH,Option.map,reduceIte,Nat.reduceEqDiff,Nat.reduceAdd,Nat.reduceMul,Nat.reduceLT,Nat.reduceLeDiff,implies_true,forall_const,eq_self,Int.reduceEq,Int.reduceLE,Int.reduceLT,if_true,if_false,grpK,Int.reduceAdd,Int.reduceSub,Int.reduceMul,Int.reduceNeg,Int.reducePow,Nat.reducePow,Int.reduceToNat,Nat.reduceSub,List.replicate,Nat.reduceBEq,grpE,beq_true,beq_false,g_impl_turnTrack_1,grpC,grpY,↓b_pick,ePk_true,ePk_false]))
  all_goals (have hf := h)
  all_goals (repeat (replace h := And.right h))
  all_goals ((first | (refine eA_wk (wk_norm (ks := [1,2,3,7,11,12,13]) (ls := [3]) ?_) (eA_cast ?_ (ih _ _ _ _ h h0 h1))) | (cases h; have h := True.intro; refine h0 _ rfl ?_) | (cases h; have h := True.intro; refine h1 _ rfl (Wk.cast (wk_norm (ks := [1]) (ls := []) ?_) ?_))) <;> simp only [normOk,optIn,blkIn,nameIn,normS,List.map_append,List.length_append,List.map_set,List.length_set,List.map_replicate,List.length_replicate,List.map_nil,List.map_cons,
   need_iff,h,hf,grpX,purgeH,Option.map,reduceIte,Nat.reduceEqDiff,Nat.reduceAdd,Nat.reduceMul,Nat.reduceLT,Nat.reduceLeDiff,implies_true,forall_const,eq_self,Int.reduceEq,Int.reduceLE,Int.reduceLT,if_true,if_false,grpK,Int.reduceAdd,Int.reduceSub,Int.reduceMul,Int.reduceNeg,Int.reducePow,Nat.reducePow,Int.reduceToNat,Nat.reduceSub,List.replicate,Nat.reduceBEq,grpE,beq_true,beq_false,g_impl_turnTrack_1,grpC,grpY,↓b_pick,ePk_true,ePk_false] <;> first | rfl | (simp only [Nat.add_comm]; done))
theorem s62 : ∀ vs r,g_impl_Key_valid vs = some r → SaysM Try.prog .any 62 vs r := by
 intro vs r h
 unfold g_impl_Key_valid at h
 split at h
 ·rename_i w0 y1
  cases hd_y0 : decL dc_en0 w0 with
  | none => rw [hd_y0] at h; cases h
  | some y0 =>
  rw [hd_y0] at h
  obtain rfl := decL_inv dc_en0_inv hd_y0
  clear hd_y0
  dsimp only at h
  split at h
  ·rename_i hp
   cases h
   refine spec_of (m := .any) (tab := tabOf [(74,wM .any g_impl_turnTrack_1)]) (cp := cp62) (ic := ic62) (rvl := [(.t 6)]) hm (tabOk_cons (m := .any) s74 tabOk_nil) Try.func62 rfl rfl rfl (by kernel_rfl) rfl (Nat.le_of_ble_eq_true rfl) (Nat.le_of_ble_eq_true rfl) ?_
   show eA _ _ _ _
   unfold ic62
   simp only [p_impl_Key_valid,Bool.and_eq_true,Bool.or_eq_true,decide_eq_true_eq,Bool.not_eq_true',decide_eq_false_iff_not] at hp
   refine eS_to ?_
   repeat' (first
    | ((first | (have h := True.intro; refine eS_of ?_) | (refine eGI_of (fun h => ?_) (fun h => ?_)) | (refine eCc_of (fun h => ?_) (fun h => ?_)) | (refine ePk_of (fun h => ?_) (fun h => ?_)) | (have h := True.intro; refine KW_refl ?_)) <;> (try simp only [Bool.not_eq_true',Bool.not_eq_false'] at h) <;> (try first | exact nbA h (by assumption) | exact nbB h (by assumption)) <;> (try simp only [h,reduceCtorEq,grpN,Int.reduceEq,Int.reduceLT,Int.reduceLE,if_true,if_false,reduceIte] at hp) <;> (first | (have h2 := h; simp only [decide_eq_true_eq,decide_eq_false_iff_not] at h2; (first | (replace h2 := eq_false h2) | (replace h2 := eq_true h2)); (try simp only [h2,reduceCtorEq,grpN,Int.reduceEq,Int.reduceLT,Int.reduceLE,if_true,if_false,reduceIte] at hp); replace hp := And.intro h2 hp) | (replace hp := And.intro h hp) | skip) <;> simp only [h,
     hp,grpX,purgeH,Option.map,reduceIte,Nat.reduceEqDiff,Nat.reduceAdd,Nat.reduceMul,Nat.reduceLT,Nat.reduceLeDiff,implies_true,forall_const,eq_self,Int.reduceEq,Int.reduceLE,Int.reduceLT,if_true,if_false,grpK,Int.reduceAdd,Int.reduceSub,Int.reduceMul,Int.reduceNeg,Int.reducePow,Nat.reducePow,Int.reduceToNat,Nat.reduceSub,List.replicate,Nat.reduceBEq,grpE,beq_true,beq_false,g_impl_turnTrack_1,grpC,grpY,↓b_pick,ePk_true,ePk_false])
    | (refine eA_wk (wk_norm (ks := [1,2,3,7,11,12,13]) (ls := [3]) ?_) (eA_cast ?_ (sl62_0 y0 y1 _ _ _ _ _ (getD_some (d := default) (x := (l_impl_Key_valid_0 y0 y1 (Int.toNat (((List.length y0 : Nat) : Int) - 0) + 2) (-1) 0)) ?_) ?_ ?_)); (iterate 2 (simp only [nilS,nilV,nilB,normOk,optIn,blkIn,nameIn,normS,List.map_append,List.length_append,List.map_set,List.length_set,List.map_replicate,List.length_replicate,List.map_nil,List.map_cons,
     hp,grpX,purgeH,Option.map,reduceIte,Nat.reduceEqDiff,Nat.reduceAdd,Nat.reduceMul,Nat.reduceLT,Nat.reduceLeDiff,implies_true,forall_const,eq_self,Int.reduceEq,Int.reduceLE,Int.reduceLT,if_true,if_false,grpK,Int.reduceAdd,Int.reduceSub,Int.reduceMul,Int.reduceNeg,Int.reducePow,Nat.reducePow,Int.reduceToNat,Nat.reduceSub,List.replicate,Nat.reduceBEq,grpE,beq_true,beq_false,g_impl_turnTrack_1,grpC,grpY,↓b_pick,ePk_true,ePk_false] <;> first | rfl | (simp only [Nat.add_comm]; done))); (simp only [hp]); (
    intro st2 ht hw; simp only [Kq_ret,Kb_ret,Kl_ret,ret_ok]; first | exact h0 _ hw | exact h0 _ rfl hw | exact h1 _ rfl hw | exact h0 _ ht hw | exact h1 _ ht hw | (simp only [ht,need_iff,reduceCtorEq,grpN,Int.reduceEq,Int.reduceLT,Int.reduceLE,if_true,if_false,reduceIte] at h; (repeat (replace h := And.right h)); cases h; first | exact h0 _ hw | exact h0 _ rfl hw | exact h1 _ rfl hw) | refine ⟨_,hw,?_⟩); rotate_left; (
    intro st2 ht hw; (try simp only [ht,reduceCtorEq,grpN,Int.reduceEq,Int.reduceLT,Int.reduceLE,if_true,if_false,reduceIte] at hp); (try replace hp := And.intro ht hp); simp only [
Kq_exit,Kq_normal,Kq_ret,Kb_exit,Kb_normal,Kb_ret,Kl_exit,Kl_normal,Kl_ret,reduceIte,Nat.reduceEqDiff,if_true,if_false,eq_self]; refine KW_of hw ?_; simp only [ht,
     hp,grpX,purgeH,Option.map,reduceIte,Nat.reduceEqDiff,Nat.reduceAdd,Nat.reduceMul,Nat.reduceLT,Nat.reduceLeDiff,implies_true,forall_const,eq_self,Int.reduceEq,Int.reduceLE,Int.reduceLT,if_true,if_false,grpK,Int.reduceAdd,Int.reduceSub,Int.reduceMul,Int.reduceNeg,Int.reducePow,Nat.reducePow,Int.reduceToNat,Nat.reduceSub,List.replicate,Nat.reduceBEq,grpE,beq_true,beq_false,g_impl_turnTrack_1,grpC,grpY,↓b_pick,ePk_true,ePk_false])))
   all_goals (try simp only [*,m_impl_Key_valid,grpZ,if_true,if_false,reduceIte,decide_true,decide_false])
   all_goals (try (simp_all; done))
  ·cases h
 ·cases h
def m_impl_rootTrack  : (Unit × Unit × Unit) := ((),(),())
def g_impl_rootTrack : List AV → Option AV
 | [] => some (AV.agg [(.fn (.func 80) [] []),(.fn (.func 81) [] []),(.fn (.func 82) [] [])])
 | _ => none
def ic63 : ICode := (.seq (.reg [⟨some 0,none,.alloc (.agg [.any,.any,.any])⟩] [0]) (.seq (.reg [⟨some 1,none,.build [.any,.any,.any] [(0,1,(.f 80)),(1,1,(.f 81)),(2,1,(.f 82))]⟩,⟨none,none,(.store 3 (.t 0) (.t 1))⟩] [0]) .ret))
def cp63 : CP := CP.mk [] [] [[0],[0]] 2 [] []
theorem s63 : ∀ vs r,g_impl_rootTrack vs = some r → SaysM Try.prog .any 63 vs r := by
 intro vs r h
 unfold g_impl_rootTrack at h
 split at h
 ·cases h
  refine spec_of (m := .any) (tab := tabOf []) (cp := cp63) (ic := ic63) (rvl := [(.c 0 (some 3))]) hm tabOk_nil Try.func63 rfl rfl rfl (by kernel_rfl) rfl (Nat.le_of_ble_eq_true rfl) (Nat.le_of_ble_eq_true rfl) ?_
  show eA _ _ _ _
  unfold ic63
  simp only [
    grpX,purgeH,Option.map,reduceIte,Nat.reduceEqDiff,Nat.reduceAdd,Nat.reduceMul,Nat.reduceLT,Nat.reduceLeDiff,implies_true,forall_const,eq_self,Int.reduceEq,Int.reduceLE,Int.reduceLT,if_true,if_false,grpK,Int.reduceAdd,Int.reduceSub,Int.reduceMul,Int.reduceNeg,Int.reducePow,Nat.reducePow,Int.reduceToNat,Nat.reduceSub,List.replicate,Nat.reduceBEq,grpE,beq_true,beq_false,grpC,grpY]
  all_goals (try simp only [*,m_impl_rootTrack,grpZ,if_true,if_false,reduceIte,decide_true,decide_false])
  all_goals (try (simp_all; done))
 ·cases h
def m_impl_rootTrack_1 (x0 : (Int × Nat × Nat × Nat)) : Int := x0.1
def g_impl_rootTrack_1 : List AV → Option AV
 | [.agg [.int .i64 y0,.flt .f32 y1,.flt .f32 y2,.flt .f32 y3]] => some (.int .i64 (m_impl_rootTrack_1 (y0,y1,y2,y3)))
 | _ => none
def ic80 : ICode := (.seq (.reg [⟨some 1,none,.box 4 (.t 0)⟩,⟨some 2,none,.mov (.c (.int .i64 0))⟩] [1]) (.seq (.reg [⟨some 3,none,.faddr 0 (.t 1)⟩,⟨some 4,none,.load none (.t 3)⟩,⟨some 2,none,.mov (.t 4)⟩] [2]) .ret))
def cp80 : CP := CP.mk [] [] [[1],[2]] 5 [] []
theorem s80 : ∀ vs r,g_impl_rootTrack_1 vs = some r → SaysM Try.prog .any 80 vs r := by
 intro vs r h
 unfold g_impl_rootTrack_1 at h
 split at h
 ·rename_i y0 y1 y2 y3
  cases h
  refine spec_of (m := .any) (tab := tabOf []) (cp := cp80) (ic := ic80) (rvl := [(.t 2)]) hm tabOk_nil Try.func80 rfl rfl rfl (by kernel_rfl) rfl (Nat.le_of_ble_eq_true rfl) (Nat.le_of_ble_eq_true rfl) ?_
  show eA _ _ _ _
  unfold ic80
  simp only [
    grpX,purgeH,Option.map,reduceIte,Nat.reduceEqDiff,Nat.reduceAdd,Nat.reduceMul,Nat.reduceLT,Nat.reduceLeDiff,implies_true,forall_const,eq_self,Int.reduceEq,Int.reduceLE,Int.reduceLT,if_true,if_false,grpK,Int.reduceAdd,Int.reduceSub,Int.reduceMul,Int.reduceNeg,Int.reducePow,Nat.reducePow,Int.reduceToNat,Nat.reduceSub,List.replicate,Nat.reduceBEq,grpE,beq_true,beq_false,grpC,grpY]
  all_goals (try simp only [*,m_impl_rootTrack_1,grpZ,if_true,if_false,reduceIte,decide_true,decide_false])
  all_goals (try (simp_all; done))
 ·cases h
def l_impl_RootKey_valid_0 (x1 : (List (Int × Nat × Nat × Nat))) (x2 : Int) : Nat → Int → Int → Option (Bool × Bool × Unit)
 | 0,_,_ => none
 | n + 1,z0_0,z0_1 => (if (decide (z0_1 < ((List.length x1 : Nat) : Int))) = true then (need (inB z0_1 (List.length x1)) (if (decide ((m_impl_rootTrack_1 (atI x1 z0_1)) ≤ z0_0)) = true then (some (true,false,default)) else (if (decide (x2 < (m_impl_rootTrack_1 (atI x1 z0_1)))) = true then (some (true,false,default)) else (l_impl_RootKey_valid_0 x1 x2 n (m_impl_rootTrack_1 (atI x1 z0_1)) (IntKind.wrap .i64 (z0_1 + 1)))))) else (some (false,default,())))
def m_impl_RootKey_valid (x0 : (Unit × Unit × Unit)) (x1 : (List (Int × Nat × Nat × Nat))) (x2 : Int) : Bool := (if (Option.getD (l_impl_RootKey_valid_0 x1 x2 (Int.toNat (((List.length x1 : Nat) : Int) - 0) + 2) (-1) 0) default).1 = true then (Option.getD (l_impl_RootKey_valid_0 x1 x2 (Int.toNat (((List.length x1 : Nat) : Int) - 0) + 2) (-1) 0) default).2.1 else (if (decide (1 ≤ ((List.length x1 : Nat) : Int))) = true then (decide (((List.length x1 : Nat) : Int) ≤ 12)) else false))
def p_impl_RootKey_valid (x0 : (Unit × Unit × Unit)) (x1 : (List (Int × Nat × Nat × Nat))) (x2 : Int) : Bool := (Option.isSome (l_impl_RootKey_valid_0 x1 x2 (Int.toNat (((List.length x1 : Nat) : Int) - 0) + 2) (-1) 0))
def g_impl_RootKey_valid : List AV → Option AV
 | [.agg [.fn (.func 80) [] [],.fn (.func 81) [] [],.fn (.func 82) [] []],.sl w0,.int .i64 y1] => (match decL dc_en2 w0 with | some y0 => (if p_impl_RootKey_valid ((),(),()) y0 y1 = true then some (.bool (m_impl_RootKey_valid ((),(),()) y0 y1)) else none) | none => none)
 | _ => none
def lb64_0 : ICode := (.seq (.reg [⟨some 14,none,.bin .lss false (.t 13) (.t 12)⟩] [1,2,3,7,11,12,13,14]) (.seq (.cond (.t 14) .skip (.exit 0)) (.seq (.block 1 (.seq (.reg [⟨some 15,none,.iaddrS 4 (.t 11) (.t 13)⟩,⟨some 16,none,.load (some 4) (.t 15)⟩,⟨some 9,none,.alloc (.agg [(.int .i64 0),(.flt .f32 0),(.flt .f32 0),(.flt .f32 0)])⟩,⟨none,none,(.store 4 (.t 9) (.t 16))⟩] [1,2,3,7,9,11,12,13]) (.seq (.seq (.reg [⟨some 17,none,.faddr 0 (.t 3)⟩,⟨some 18,none,.load none (.t 17)⟩,⟨some 19,none,.load (some 4) (.t 9)⟩,⟨some 20,none,.call (.dyn (.t 18)) [(.t 19)] []⟩,⟨some 10,none,.mov (.t 20)⟩] [1,2,3,7,9,10,11,12,13]) (.seq (.reg [⟨some 21,none,.mov (.t 10)⟩,⟨some 22,none,.mov (.t 7)⟩,⟨some 23,none,.bin .leq false (.t 21) (.t 22)⟩,⟨some 24,none,.mov (.t 23)⟩,⟨(some 25),(some (24,false)),(.mov (.t 10))⟩,⟨(some 26),(some (24,false)),(.mov (.t 2))⟩,⟨(some 27),(some (24,false)),(.bin .gtr false (.t 25) (.t 26))⟩,⟨some 28,none,.pick (.t 24) (.c (.bool true)) (.t 27)⟩] [1,2,3,9,11,12,13,28]) (.cond (.t 28) (.seq (.reg [⟨some 6,none,.mov (.c (.bool false))⟩] [6]) .ret) .skip))) (.reg [⟨some 29,none,.faddr 0 (.t 3)⟩,⟨some 30,none,.load none (.t 29)⟩,⟨some 31,none,.load (some 4) (.t 9)⟩,⟨some 32,none,.call (.dyn (.t 30)) [(.t 31)] []⟩,⟨some 7,none,.mov (.t 32)⟩] [1,2,3,7,11,12,13])))) (.reg [⟨some 33,none,.bin .add false (.t 13) (.c (.int .i64 1))⟩,⟨some 13,none,.mov (.t 33)⟩] [1,2,3,7,11,12,13]))))
def ic64 : ICode := (.seq (.reg [⟨some 3,none,.box 3 (.t 0)⟩,⟨some 6,none,.mov (.c (.bool false))⟩] [1,2,3]) (.seq (.reg [⟨some 7,none,.mov (.c (.int .i64 (-1)))⟩] [1,2,3,7]) (.seq (.seq (.reg [⟨some 11,none,.mov (.t 1)⟩,⟨some 12,none,.len false (.t 11)⟩,⟨some 13,none,.mov (.c (.int .i64 0))⟩] [1,2,3,7,11,12,13]) (.block 0 (.loop lb64_0))) (.seq (.reg [⟨some 34,none,.mov (.t 1)⟩,⟨some 35,none,.len false (.t 34)⟩,⟨some 36,none,.bin .geq false (.t 35) (.c (.int .i64 1))⟩,⟨some 37,none,.mov (.t 36)⟩,⟨(some 38),(some (37,true)),(.mov (.t 1))⟩,⟨(some 39),(some (37,true)),(.len false (.t 38))⟩,⟨(some 40),(some (37,true)),(.bin .leq false (.t 39) (.c (.int .i64 12)))⟩,⟨some 41,none,.pick (.t 37) (.t 40) (.c (.bool false))⟩,⟨some 6,none,.mov (.t 41)⟩] [6]) .ret))))
def cp64 : CP := CP.mk [] [] [[1,2,3],[1,2,3,7],[1,2,3,7,11,12,13],[1,2,3,7,11,12,13,14],[1,2,3,7,9,11,12,13],[1,2,3,7,9,10,11,12,13],[1,2,3,9,11,12,13,28],[6],[1,2,3,7,11,12,13],[1,2,3,7,11,12,13],[6]] 42 [] []
theorem sl64_0 (x1 : (List (Int × Nat × Nat × Nat))) (x2 : Int) : ∀ (n : Nat) (z0_0 : Int) (z0_1 : Int) (o : (Bool × Bool × Unit)) (K : IExit → St → Prop),l_impl_RootKey_valid_0 x1 x2 n z0_0 z0_1 = some o → (∀ st,o.1 = true → outM .any st [(.t 6)] = some (.bool o.2.1) → K .ret st) → (∀ st,o.1 = false → Wk st (⟨[(1,(.sl (List.map en2 x1)))],[]⟩ : St) → K (.exit 0) st) → eA (tabOf [(80,wM .any g_impl_rootTrack_1)]) (.loop lb64_0) (⟨[(1,(.sl (List.map en2 x1))),(2,(.int .i64 x2)),(3,(.lptr 3 0 0)),(7,(.int .i64 z0_0)),(11,(.sl (List.map en2 x1))),(12,(.int .i64 ((List.length x1 : Nat) : Int))),(13,(.int .i64 z0_1))],[(3,(some ⟨3,false,[(AV.agg [(.fn (.func 80) [] []),(.fn (.func 81) [] []),(.fn (.func 82) [] [])])]⟩))]⟩ : St) K := by
 intro n
 induction n with
 | zero =>
  intro z0_0 z0_1 o K h h0 h1
  simp only [l_impl_RootKey_valid_0,reduceCtorEq] at h
 | succ n ih =>
  intro z0_0 z0_1 o K h h0 h1
  refine eA_loop ?_
  unfold lb64_0
  unfold l_impl_RootKey_valid_0 at h
  (try simp only [need_iff] at h)
  simp only [
   need_iff,h,grpX,purgeH,Option.map,reduceIte,Nat.reduceEqDiff,Nat.reduceAdd,Nat.reduceMul,Nat.reduceLT,Nat.reduceLeDiff,implies_true,forall_const,eq_self,Int.reduceEq,Int.reduceLE,Int.reduceLT,if_true,if_false,grpK,Int.reduceAdd,Int.reduceSub,Int.reduceMul,Int.reduceNeg,Int.reducePow,Nat.reducePow,Int.reduceToNat,Nat.reduceSub,List.replicate,Nat.reduceBEq,grpE,beq_true,beq_false,g_impl_rootTrack_1,grpC,grpY,↓b_pick,ePk_true,ePk_false]
  repeat' (first
   | ((first | (refine eGI_of (fun hc => ?_) (fun hc => ?_)) | (refine eCc_of (fun hc => ?_) (fun hc => ?_)) | (refine ePk_of (fun hc => ?_) (fun hc => ?_)) | (have hc := True.intro; refine KW_refl ?_)) <;> (try simp only [Bool.not_eq_true',Bool.not_eq_false'] at hc) <;> (try simp only [hc,need_iff,reduceCtorEq,grpN,Int.reduceEq,Int.reduceLT,Int.reduceLE,if_true,if_false,reduceIte] at h) <;> (first | (have hc2 := hc; simp only [decide_eq_true_eq,decide_eq_false_iff_not] at hc2; (first | (replace hc2 := eq_false hc2) | (replace hc2 := eq_true hc2)); (try simp only [hc2,need_iff,reduceCtorEq,grpN,Int.reduceEq,Int.reduceLT,Int.reduceLE,if_true,if_false,reduceIte] at h); replace h := And.intro hc2 h) | (replace h := And.intro hc h) | skip) <;> simp only [hc,
   need_iff,h,grpX,purgeH,Option.map,reduceIte,Nat.reduceEqDiff,Nat.reduceAdd,Nat.reduceMul,Nat.reduceLT,Nat.reduceLeDiff,implies_true,forall_const,eq_self,Int.reduceEq,Int.reduceLE,Int.reduceLT,if_true,if_false,grpK,Int.reduceAdd,Int.reduceSub,Int.reduceMul,Int.reduceNeg,Int.reducePow,Nat.reducePow,Int.reduceToNat,Nat.reduceSub,List.replicate,Nat.reduceBEq,grpE,beq_true,beq_false,g_impl_rootTrack_1,grpC,grpY,↓b_pick,ePk_true,ePk_false]))
  all_goals (have hf := h)
  all_goals (repeat (replace h := And.right h))
  all_goals ((first | (refine eA_wk (wk_norm (ks := [1,2,3,7,11,12,13]) (ls := [3]) ?_) (eA_cast ?_ (ih _ _ _ _ h h0 h1))) | (cases h; have h := True.intro; refine h0 _ rfl ?_) | (cases h; have h := True.intro; refine h1 _ rfl (Wk.cast (wk_norm (ks := [1]) (ls := []) ?_) ?_))) <;> simp only [normOk,optIn,blkIn,nameIn,normS,List.map_append,List.length_append,List.map_set,List.length_set,List.map_replicate,List.length_replicate,List.map_nil,List.map_cons,
   need_iff,h,hf,grpX,purgeH,Option.map,reduceIte,Nat.reduceEqDiff,Nat.reduceAdd,Nat.reduceMul,Nat.reduceLT,Nat.reduceLeDiff,implies_true,forall_const,eq_self,Int.reduceEq,Int.reduceLE,Int.reduceLT,if_true,if_false,grpK,Int.reduceAdd,Int.reduceSub,Int.reduceMul,Int.reduceNeg,Int.reducePow,Nat.reducePow,Int.reduceToNat,Nat.reduceSub,List.replicate,Nat.reduceBEq,grpE,beq_true,beq_false,g_impl_rootTrack_1,grpC,grpY,↓b_pick,ePk_true,ePk_false] <;> first | rfl | (simp only [Nat.add_comm]; done))
theorem s64 : ∀ vs r,g_impl_RootKey_valid vs = some r → SaysM Try.prog .any 64 vs r := by
 intro vs r h
 unfold g_impl_RootKey_valid at h
 split at h
 ·rename_i w0 y1
  cases hd_y0 : decL dc_en2 w0 with
  | none => rw [hd_y0] at h; cases h
  | some y0 =>
  rw [hd_y0] at h
  obtain rfl := decL_inv dc_en2_inv hd_y0
  clear hd_y0
  dsimp only at h
  split at h
  ·rename_i hp
   cases h
   refine spec_of (m := .any) (tab := tabOf [(80,wM .any g_impl_rootTrack_1)]) (cp := cp64) (ic := ic64) (rvl := [(.t 6)]) hm (tabOk_cons (m := .any) s80 tabOk_nil) Try.func64 rfl rfl rfl (by kernel_rfl) rfl (Nat.le_of_ble_eq_true rfl) (Nat.le_of_ble_eq_true rfl) ?_
   show eA _ _ _ _
   unfold ic64
   simp only [p_impl_RootKey_valid,Bool.and_eq_true,Bool.or_eq_true,decide_eq_true_eq,Bool.not_eq_true',decide_eq_false_iff_not] at hp
   refine eS_to ?_
   repeat' (first
    | ((first | (have h := True.intro; refine eS_of ?_) | (refine eGI_of (fun h => ?_) (fun h => ?_)) | (refine eCc_of (fun h => ?_) (fun h => ?_)) | (refine ePk_of (fun h => ?_) (fun h => ?_)) | (have h := True.intro; refine KW_refl ?_)) <;> (try simp only [Bool.not_eq_true',Bool.not_eq_false'] at h) <;> (try first | exact nbA h (by assumption) | exact nbB h (by assumption)) <;> (try simp only [h,reduceCtorEq,grpN,Int.reduceEq,Int.reduceLT,Int.reduceLE,if_true,if_false,reduceIte] at hp) <;> (first | (have h2 := h; simp only [decide_eq_true_eq,decide_eq_false_iff_not] at h2; (first | (replace h2 := eq_false h2) | (replace h2 := eq_true h2)); (try simp only [h2,reduceCtorEq,grpN,Int.reduceEq,Int.reduceLT,Int.reduceLE,if_true,if_false,reduceIte] at hp); replace hp := And.intro h2 hp) | (replace hp := And.intro h hp) | skip) <;> simp only [h,
     hp,grpX,purgeH,Option.map,reduceIte,Nat.reduceEqDiff,Nat.reduceAdd,Nat.reduceMul,Nat.reduceLT,Nat.reduceLeDiff,implies_true,forall_const,eq_self,Int.reduceEq,Int.reduceLE,Int.reduceLT,if_true,if_false,grpK,Int.reduceAdd,Int.reduceSub,Int.reduceMul,Int.reduceNeg,Int.reducePow,Nat.reducePow,Int.reduceToNat,Nat.reduceSub,List.replicate,Nat.reduceBEq,grpE,beq_true,beq_false,g_impl_rootTrack_1,grpC,grpY,↓b_pick,ePk_true,ePk_false])
    | (refine eA_wk (wk_norm (ks := [1,2,3,7,11,12,13]) (ls := [3]) ?_) (eA_cast ?_ (sl64_0 y0 y1 _ _ _ _ _ (getD_some (d := default) (x := (l_impl_RootKey_valid_0 y0 y1 (Int.toNat (((List.length y0 : Nat) : Int) - 0) + 2) (-1) 0)) ?_) ?_ ?_)); (iterate 2 (simp only [nilS,nilV,nilB,normOk,optIn,blkIn,nameIn,normS,List.map_append,List.length_append,List.map_set,List.length_set,List.map_replicate,List.length_replicate,List.map_nil,List.map_cons,
     hp,grpX,purgeH,Option.map,reduceIte,Nat.reduceEqDiff,Nat.reduceAdd,Nat.reduceMul,Nat.reduceLT,Nat.reduceLeDiff,implies_true,forall_const,eq_self,Int.reduceEq,Int.reduceLE,Int.reduceLT,if_true,if_false,grpK,Int.reduceAdd,Int.reduceSub,Int.reduceMul,Int.reduceNeg,Int.reducePow,Nat.reducePow,Int.reduceToNat,Nat.reduceSub,List.replicate,Nat.reduceBEq,grpE,beq_true,beq_false,g_impl_rootTrack_1,grpC,grpY,↓b_pick,ePk_true,ePk_false] <;> first | rfl | (simp only [Nat.add_comm]; done))); (simp only [hp]); (
    intro st2 ht hw; simp only [Kq_ret,Kb_ret,Kl_ret,ret_ok]; first | exact h0 _ hw | exact h0 _ rfl hw | exact h1 _ rfl hw | exact h0 _ ht hw | exact h1 _ ht hw | (simp only [ht,need_iff,reduceCtorEq,grpN,Int.reduceEq,Int.reduceLT,Int.reduceLE,if_true,if_false,reduceIte] at h; (repeat (replace h := And.right h)); cases h; first | exact h0 _ hw | exact h0 _ rfl hw | exact h1 _ rfl hw) | refine ⟨_,hw,?_⟩); rotate_left; (
    intro st2 ht hw; (try simp only [ht,reduceCtorEq,grpN,Int.reduceEq,Int.reduceLT,Int.reduceLE,if_true,if_false,reduceIte] at hp); (try replace hp := And.intro ht hp); simp only [
Kq_exit,Kq_normal,Kq_ret,Kb_exit,Kb_normal,Kb_ret,Kl_exit,Kl_normal,Kl_ret,reduceIte,Nat.reduceEqDiff,if_true,if_false,eq_self]; refine KW_of hw ?_; simp only [ht,
     hp,grpX,purgeH,Option.map,reduceIte,Nat.reduceEqDiff,Nat.reduceAdd,Nat.reduceMul,Nat.reduceLT,Nat.reduceLeDiff,implies_true,forall_const,eq_self,Int.reduceEq,Int.reduceLE,Int.reduceLT,if_true,if_false,grpK,Int.reduceAdd,Int.reduceSub,Int.reduceMul,Int.reduceNeg,Int.reducePow,Nat.reducePow,Int.reduceToNat,Nat.reduceSub,List.replicate,Nat.reduceBEq,grpE,beq_true,beq_false,g_impl_rootTrack_1,grpC,grpY,↓b_pick,ePk_true,ePk_false])))
   all_goals (try simp only [*,m_impl_RootKey_valid,grpZ,if_true,if_false,reduceIte,decide_true,decide_false])
   all_goals (try (simp_all; done))
  ·cases h
 ·cases h
def l_impl_ValidClip_0 (x0 : (Int × Int × (List (List (Int × Nat × Nat × Nat × Nat))) × (List (Int × Nat × Nat × Nat)))) : Nat → Int → Option (Bool × Bool × Unit)
 | 0,_ => none
 | n + 1,z0_0 => (if (decide (z0_0 < ((List.length x0.2.2.1 : Nat) : Int))) = true then (need (inB z0_0 (List.length x0.2.2.1)) (need (p_impl_Key_valid ((),(),()) (atI x0.2.2.1 z0_0) x0.1) (if (m_impl_Key_valid ((),(),()) (atI x0.2.2.1 z0_0) x0.1) = true then (l_impl_ValidClip_0 x0 n (IntKind.wrap .i64 (z0_0 + 1))) else (some (true,false,default))))) else (some (false,default,())))
def m_impl_ValidClip (x0 : (Int × Int × (List (List (Int × Nat × Nat × Nat × Nat))) × (List (Int × Nat × Nat × Nat)))) : Bool := (if (decide (x0.1 < 1)) = true then false else (if (decide (1000 < x0.1)) = true then false else (if (decide (x0.2.1 < 0)) = true then false else (if (decide (2 < x0.2.1)) = true then false else (if (decide (((List.length x0.2.2.1 : Nat) : Int) < 1)) = true then false else (if (decide (12 < ((List.length x0.2.2.1 : Nat) : Int))) = true then false else (if (Option.getD (l_impl_ValidClip_0 x0 (Int.toNat (((List.length x0.2.2.1 : Nat) : Int) - 0) + 2) 0) default).1 = true then (Option.getD (l_impl_ValidClip_0 x0 (Int.toNat (((List.length x0.2.2.1 : Nat) : Int) - 0) + 2) 0) default).2.1 else (m_impl_RootKey_valid ((),(),()) x0.2.2.2 x0.1))))))))
def p_impl_ValidClip (x0 : (Int × Int × (List (List (Int × Nat × Nat × Nat × Nat))) × (List (Int × Nat × Nat × Nat)))) : Bool := ((decide (x0.1 < 1)) || ((decide (1000 < x0.1)) || ((decide (x0.2.1 < 0)) || ((decide (2 < x0.2.1)) || ((decide (((List.length x0.2.2.1 : Nat) : Int) < 1)) || ((decide (12 < ((List.length x0.2.2.1 : Nat) : Int))) || ((Option.isSome (l_impl_ValidClip_0 x0 (Int.toNat (((List.length x0.2.2.1 : Nat) : Int) - 0) + 2) 0)) && ((Option.getD (l_impl_ValidClip_0 x0 (Int.toNat (((List.length x0.2.2.1 : Nat) : Int) - 0) + 2) 0) default).1 || (p_impl_RootKey_valid ((),(),()) x0.2.2.2 x0.1)))))))))
def g_impl_ValidClip : List AV → Option AV
 | [.agg [.int .i64 y0,.int .i64 y1,.sl w2,.sl w3]] => (match decL dc_en1 w2 with | some y2 => ((match decL dc_en2 w3 with | some y3 => (if p_impl_ValidClip (y0,y1,y2,y3) = true then some (.bool (m_impl_ValidClip (y0,y1,y2,y3))) else none) | none => none)) | none => none)
 | _ => none
def lb42_0 : ICode := (.seq (.reg [⟨some 39,none,.bin .lss false (.t 38) (.t 37)⟩] [1,36,37,38,39]) (.seq (.cond (.t 39) .skip (.exit 0)) (.seq (.block 1 (.seq (.reg [⟨some 40,none,.iaddrS 1 (.t 36) (.t 38)⟩,⟨some 41,none,.load none (.t 40)⟩,⟨some 4,none,.mov (.t 41)⟩] [1,4,36,37,38]) (.seq (.reg [⟨some 42,none,.call (.fn 55) [] []⟩,⟨some 43,none,.mov (.t 4)⟩,⟨some 44,none,.faddr 0 (.t 1)⟩,⟨some 45,none,.load none (.t 44)⟩,⟨some 46,none,.call (.fn 62) [(.t 42),(.t 43),(.t 45)] []⟩,⟨some 47,none,.un .not (.t 46)⟩] [1,36,37,38,47]) (.cond (.t 47) (.seq (.reg [⟨some 2,none,.mov (.c (.bool false))⟩] [2]) .ret) .skip)))) (.reg [⟨some 48,none,.bin .add false (.t 38) (.c (.int .i64 1))⟩,⟨some 38,none,.mov (.t 48)⟩] [1,36,37,38]))))
def ic42 : ICode := (.seq (.reg [⟨some 1,none,.box 4 (.t 0)⟩,⟨some 2,none,.mov (.c (.bool false))⟩] [1]) (.seq (.seq (.reg [⟨some 5,none,.faddr 0 (.t 1)⟩,⟨some 6,none,.load none (.t 5)⟩,⟨some 7,none,.bin .lss false (.t 6) (.c (.int .i64 1))⟩,⟨some 8,none,.mov (.t 7)⟩,⟨(some 9),(some (8,false)),(.faddr 0 (.t 1))⟩,⟨(some 10),(some (8,false)),(.load none (.t 9))⟩,⟨(some 11),(some (8,false)),(.bin .gtr false (.t 10) (.c (.int .i64 1000)))⟩,⟨some 12,none,.pick (.t 8) (.c (.bool true)) (.t 11)⟩,⟨some 13,none,.mov (.t 12)⟩,⟨(some 14),(some (13,false)),(.faddr 1 (.t 1))⟩,⟨(some 15),(some (13,false)),(.load none (.t 14))⟩,⟨(some 16),(some (13,false)),(.bin .lss false (.t 15) (.c (.int .i64 0)))⟩,⟨some 17,none,.pick (.t 13) (.c (.bool true)) (.t 16)⟩,⟨some 18,none,.mov (.t 17)⟩,⟨(some 19),(some (18,false)),(.faddr 1 (.t 1))⟩,⟨(some 20),(some (18,false)),(.load none (.t 19))⟩,⟨(some 21),(some (18,false)),(.bin .gtr false (.t 20) (.c (.int .i64 2)))⟩,⟨some 22,none,.pick (.t 18) (.c (.bool true)) (.t 21)⟩,⟨some 23,none,.mov (.t 22)⟩,⟨(some 24),(some (23,false)),(.faddr 2 (.t 1))⟩,⟨(some 25),(some (23,false)),(.load none (.t 24))⟩,⟨(some 26),(some (23,false)),(.len false (.t 25))⟩,⟨(some 27),(some (23,false)),(.bin .lss false (.t 26) (.c (.int .i64 1)))⟩,⟨some 28,none,.pick (.t 23) (.c (.bool true)) (.t 27)⟩,⟨some 29,none,.mov (.t 28)⟩,⟨(some 30),(some (29,false)),(.faddr 2 (.t 1))⟩,⟨(some 31),(some (29,false)),(.load none (.t 30))⟩,⟨(some 32),(some (29,false)),(.len false (.t 31))⟩,⟨(some 33),(some (29,false)),(.bin .gtr false (.t 32) (.c (.int .i64 12)))⟩,⟨some 34,none,.pick (.t 29) (.c (.bool true)) (.t 33)⟩] [1,34]) (.cond (.t 34) (.seq (.reg [⟨some 2,none,.mov (.c (.bool false))⟩] [2]) .ret) .skip)) (.seq (.seq (.reg [⟨some 35,none,.faddr 2 (.t 1)⟩,⟨some 36,none,.load none (.t 35)⟩,⟨some 37,none,.len false (.t 36)⟩,⟨some 38,none,.mov (.c (.int .i64 0))⟩] [1,36,37,38]) (.block 0 (.loop lb42_0))) (.seq (.reg [⟨some 49,none,.call (.fn 63) [] []⟩,⟨some 50,none,.faddr 3 (.t 1)⟩,⟨some 51,none,.load none (.t 50)⟩,⟨some 52,none,.faddr 0 (.t 1)⟩,⟨some 53,none,.load none (.t 52)⟩,⟨some 54,none,.call (.fn 64) [(.t 49),(.t 51),(.t 53)] []⟩,⟨some 2,none,.mov (.t 54)⟩] [2]) .ret))))
def cp42 : CP := CP.mk [] [] [[1],[1,34],[2],[1,36,37,38],[1,36,37,38,39],[1,4,36,37,38],[1,36,37,38,47],[2],[1,36,37,38],[2]] 55 [] []
theorem sl42_0 (x0 : (Int × Int × (List (List (Int × Nat × Nat × Nat × Nat))) × (List (Int × Nat × Nat × Nat)))) : ∀ (n : Nat) (z0_0 : Int) (o : (Bool × Bool × Unit)) (K : IExit → St → Prop),l_impl_ValidClip_0 x0 n z0_0 = some o → (∀ st,o.1 = true → outM .any st [(.t 2)] = some (.bool o.2.1) → K .ret st) → (∀ st,o.1 = false → Wk st (⟨[(1,(.lptr 1 0 0))],[(1,(some ⟨4,false,[(AV.agg [(.int .i64 x0.1),(.int .i64 x0.2.1),(.sl (List.map en1 x0.2.2.1)),(.sl (List.map en2 x0.2.2.2))])]⟩))]⟩ : St) → K (.exit 0) st) → eA (tabOf [(55,wM .any g_impl_turnTrack),(62,wM .any g_impl_Key_valid),(63,wM .any g_impl_rootTrack),(64,wM .any g_impl_RootKey_valid)]) (.loop lb42_0) (⟨[(1,(.lptr 1 0 0)),(36,(.sl (List.map en1 x0.2.2.1))),(37,(.int .i64 ((List.length x0.2.2.1 : Nat) : Int))),(38,(.int .i64 z0_0))],[(1,(some ⟨4,false,[(AV.agg [(.int .i64 x0.1),(.int .i64 x0.2.1),(.sl (List.map en1 x0.2.2.1)),(.sl (List.map en2 x0.2.2.2))])]⟩))]⟩ : St) K := by
 intro n
 induction n with
 | zero =>
  intro z0_0 o K h h0 h1
  simp only [l_impl_ValidClip_0,reduceCtorEq] at h
 | succ n ih =>
  intro z0_0 o K h h0 h1
  refine eA_loop ?_
  unfold lb42_0
  unfold l_impl_ValidClip_0 at h
  (try simp only [need_iff] at h)
  simp only [
   need_iff,h,grpX,purgeH,Option.map,reduceIte,Nat.reduceEqDiff,Nat.reduceAdd,Nat.reduceMul,Nat.reduceLT,Nat.reduceLeDiff,implies_true,forall_const,eq_self,Int.reduceEq,Int.reduceLE,Int.reduceLT,if_true,if_false,grpK,Int.reduceAdd,Int.reduceSub,Int.reduceMul,Int.reduceNeg,Int.reducePow,Nat.reducePow,Int.reduceToNat,Nat.reduceSub,List.replicate,Nat.reduceBEq,grpE,beq_true,beq_false,g_impl_turnTrack,g_impl_Key_valid,g_impl_rootTrack,g_impl_RootKey_valid,grpC,grpY,↓b_pick,ePk_true,ePk_false]
  repeat' (first
   | ((first | (refine eGI_of (fun hc => ?_) (fun hc => ?_)) | (refine eCc_of (fun hc => ?_) (fun hc => ?_)) | (refine ePk_of (fun hc => ?_) (fun hc => ?_)) | (have hc := True.intro; refine KW_refl ?_)) <;> (try simp only [Bool.not_eq_true',Bool.not_eq_false'] at hc) <;> (try simp only [hc,need_iff,reduceCtorEq,grpN,Int.reduceEq,Int.reduceLT,Int.reduceLE,if_true,if_false,reduceIte] at h) <;> (first | (have hc2 := hc; simp only [decide_eq_true_eq,decide_eq_false_iff_not] at hc2; (first | (replace hc2 := eq_false hc2) | (replace hc2 := eq_true hc2)); (try simp only [hc2,need_iff,reduceCtorEq,grpN,Int.reduceEq,Int.reduceLT,Int.reduceLE,if_true,if_false,reduceIte] at h); replace h := And.intro hc2 h) | (replace h := And.intro hc h) | skip) <;> simp only [hc,
   need_iff,h,grpX,purgeH,Option.map,reduceIte,Nat.reduceEqDiff,Nat.reduceAdd,Nat.reduceMul,Nat.reduceLT,Nat.reduceLeDiff,implies_true,forall_const,eq_self,Int.reduceEq,Int.reduceLE,Int.reduceLT,if_true,if_false,grpK,Int.reduceAdd,Int.reduceSub,Int.reduceMul,Int.reduceNeg,Int.reducePow,Nat.reducePow,Int.reduceToNat,Nat.reduceSub,List.replicate,Nat.reduceBEq,grpE,beq_true,beq_false,g_impl_turnTrack,g_impl_Key_valid,g_impl_rootTrack,g_impl_RootKey_valid,grpC,grpY,↓b_pick,ePk_true,ePk_false]))
  all_goals (have hf := h)
  all_goals (repeat (replace h := And.right h))
  all_goals ((first | (refine eA_wk (wk_norm (ks := [1,36,37,38]) (ls := [1]) ?_) (eA_cast ?_ (ih _ _ _ h h0 h1))) | (cases h; have h := True.intro; refine h0 _ rfl ?_) | (cases h; have h := True.intro; refine h1 _ rfl (Wk.cast (wk_norm (ks := [1]) (ls := [1]) ?_) ?_))) <;> simp only [normOk,optIn,blkIn,nameIn,normS,List.map_append,List.length_append,List.map_set,List.length_set,List.map_replicate,List.length_replicate,List.map_nil,List.map_cons,
   need_iff,h,hf,grpX,purgeH,Option.map,reduceIte,Nat.reduceEqDiff,Nat.reduceAdd,Nat.reduceMul,Nat.reduceLT,Nat.reduceLeDiff,implies_true,forall_const,eq_self,Int.reduceEq,Int.reduceLE,Int.reduceLT,if_true,if_false,grpK,Int.reduceAdd,Int.reduceSub,Int.reduceMul,Int.reduceNeg,Int.reducePow,Nat.reducePow,Int.reduceToNat,Nat.reduceSub,List.replicate,Nat.reduceBEq,grpE,beq_true,beq_false,g_impl_turnTrack,g_impl_Key_valid,g_impl_rootTrack,g_impl_RootKey_valid,grpC,grpY,↓b_pick,ePk_true,ePk_false] <;> first | rfl | (simp only [Nat.add_comm]; done))
theorem s42 : ∀ vs r,g_impl_ValidClip vs = some r → SaysM Try.prog .any 42 vs r := by
 intro vs r h
 unfold g_impl_ValidClip at h
 split at h
 ·rename_i y0 y1 w2 w3
  cases hd_y2 : decL dc_en1 w2 with
  | none => rw [hd_y2] at h; cases h
  | some y2 =>
  rw [hd_y2] at h
  obtain rfl := decL_inv dc_en1_inv hd_y2
  clear hd_y2
  dsimp only at h
  cases hd_y3 : decL dc_en2 w3 with
  | none => rw [hd_y3] at h; cases h
  | some y3 =>
  rw [hd_y3] at h
  obtain rfl := decL_inv dc_en2_inv hd_y3
  clear hd_y3
  dsimp only at h
  split at h
  ·rename_i hp
   cases h
   refine spec_of (m := .any) (tab := tabOf [(55,wM .any g_impl_turnTrack),(62,wM .any g_impl_Key_valid),(63,wM .any g_impl_rootTrack),(64,wM .any g_impl_RootKey_valid)]) (cp := cp42) (ic := ic42) (rvl := [(.t 2)]) hm (tabOk_cons (m := .any) s55 (tabOk_cons (m := .any) s62 (tabOk_cons (m := .any) s63 (tabOk_cons (m := .any) s64 tabOk_nil)))) Try.func42 rfl rfl rfl (by kernel_rfl) rfl (Nat.le_of_ble_eq_true rfl) (Nat.le_of_ble_eq_true rfl) ?_
   show eA _ _ _ _
   unfold ic42
   simp only [p_impl_ValidClip,Bool.and_eq_true,Bool.or_eq_true,decide_eq_true_eq,Bool.not_eq_true',decide_eq_false_iff_not] at hp
   refine eS_to ?_
   repeat' (first
    | ((first | (have h := True.intro; refine eS_of ?_) | (refine eGI_of (fun h => ?_) (fun h => ?_)) | (refine eCc_of (fun h => ?_) (fun h => ?_)) | (refine ePk_of (fun h => ?_) (fun h => ?_)) | (have h := True.intro; refine KW_refl ?_)) <;> (try simp only [Bool.not_eq_true',Bool.not_eq_false'] at h) <;> (try first | exact nbA h (by assumption) | exact nbB h (by assumption)) <;> (try simp only [h,reduceCtorEq,grpN,Int.reduceEq,Int.reduceLT,Int.reduceLE,if_true,if_false,reduceIte] at hp) <;> (first | (have h2 := h; simp only [decide_eq_true_eq,decide_eq_false_iff_not] at h2; (first | (replace h2 := eq_false h2) | (replace h2 := eq_true h2)); (try simp only [h2,reduceCtorEq,grpN,Int.reduceEq,Int.reduceLT,Int.reduceLE,if_true,if_false,reduceIte] at hp); replace hp := And.intro h2 hp) | (replace hp := And.intro h hp) | skip) <;> simp only [h,
     hp,grpX,purgeH,Option.map,reduceIte,Nat.reduceEqDiff,Nat.reduceAdd,Nat.reduceMul,Nat.reduceLT,Nat.reduceLeDiff,implies_true,forall_const,eq_self,Int.reduceEq,Int.reduceLE,Int.reduceLT,if_true,if_false,grpK,Int.reduceAdd,Int.reduceSub,Int.reduceMul,Int.reduceNeg,Int.reducePow,Nat.reducePow,Int.reduceToNat,Nat.reduceSub,List.replicate,Nat.reduceBEq,grpE,beq_true,beq_false,g_impl_turnTrack,g_impl_Key_valid,g_impl_rootTrack,g_impl_RootKey_valid,grpC,grpY,↓b_pick,ePk_true,ePk_false])
    | (refine eA_wk (wk_norm (ks := [1,36,37,38]) (ls := [1]) ?_) (eA_cast ?_ (sl42_0 (y0,y1,y2,y3) _ _ _ _ (getD_some (d := default) (x := (l_impl_ValidClip_0 (y0,y1,y2,y3) (Int.toNat (((List.length (y0,y1,y2,y3).2.2.1 : Nat) : Int) - 0) + 2) 0)) ?_) ?_ ?_)); (iterate 2 (simp only [nilS,nilV,nilB,normOk,optIn,blkIn,nameIn,normS,List.map_append,List.length_append,List.map_set,List.length_set,List.map_replicate,List.length_replicate,List.map_nil,List.map_cons,
     hp,grpX,purgeH,Option.map,reduceIte,Nat.reduceEqDiff,Nat.reduceAdd,Nat.reduceMul,Nat.reduceLT,Nat.reduceLeDiff,implies_true,forall_const,eq_self,Int.reduceEq,Int.reduceLE,Int.reduceLT,if_true,if_false,grpK,Int.reduceAdd,Int.reduceSub,Int.reduceMul,Int.reduceNeg,Int.reducePow,Nat.reducePow,Int.reduceToNat,Nat.reduceSub,List.replicate,Nat.reduceBEq,grpE,beq_true,beq_false,g_impl_turnTrack,g_impl_Key_valid,g_impl_rootTrack,g_impl_RootKey_valid,grpC,grpY,↓b_pick,ePk_true,ePk_false] <;> first | rfl | (simp only [Nat.add_comm]; done))); (simp only [hp]); (
    intro st2 ht hw; simp only [Kq_ret,Kb_ret,Kl_ret,ret_ok]; first | exact h0 _ hw | exact h0 _ rfl hw | exact h1 _ rfl hw | exact h0 _ ht hw | exact h1 _ ht hw | (simp only [ht,need_iff,reduceCtorEq,grpN,Int.reduceEq,Int.reduceLT,Int.reduceLE,if_true,if_false,reduceIte] at h; (repeat (replace h := And.right h)); cases h; first | exact h0 _ hw | exact h0 _ rfl hw | exact h1 _ rfl hw) | refine ⟨_,hw,?_⟩); rotate_left; (
    intro st2 ht hw; (try simp only [ht,reduceCtorEq,grpN,Int.reduceEq,Int.reduceLT,Int.reduceLE,if_true,if_false,reduceIte] at hp); (try replace hp := And.intro ht hp); simp only [
Kq_exit,Kq_normal,Kq_ret,Kb_exit,Kb_normal,Kb_ret,Kl_exit,Kl_normal,Kl_ret,reduceIte,Nat.reduceEqDiff,if_true,if_false,eq_self]; refine KW_of hw ?_; simp only [ht,
     hp,grpX,purgeH,Option.map,reduceIte,Nat.reduceEqDiff,Nat.reduceAdd,Nat.reduceMul,Nat.reduceLT,Nat.reduceLeDiff,implies_true,forall_const,eq_self,Int.reduceEq,Int.reduceLE,Int.reduceLT,if_true,if_false,grpK,Int.reduceAdd,Int.reduceSub,Int.reduceMul,Int.reduceNeg,Int.reducePow,Nat.reducePow,Int.reduceToNat,Nat.reduceSub,List.replicate,Nat.reduceBEq,grpE,beq_true,beq_false,g_impl_turnTrack,g_impl_Key_valid,g_impl_rootTrack,g_impl_RootKey_valid,grpC,grpY,↓b_pick,ePk_true,ePk_false])))
   all_goals (try simp only [*,m_impl_ValidClip,grpZ,if_true,if_false,reduceIte,decide_true,decide_false])
   all_goals (try (simp_all; done))
  ·cases h
 ·cases h
def m_slices_Sort (x0 : List Int) : (Unit × (List Int)) := ((),sortI x0)
def p_slices_Sort (x0 : List Int) : Bool := ((decide (0 < List.length x0)) && (decide (List.length x0 < 4611686018427387904)))
def g_slices_Sort : List AV → Option (AV × Md)
 | [.sl w0] => (match decL dI64 w0 with | some y0 => (if p_slices_Sort y0 = true then some ((AV.tup []),.wr [1] [List.map (AV.int .i64) (m_slices_Sort y0).2]) else none) | none => none)
 | _ => none
def lay_slices_Sort_ren : Go.Shelf.Ren := ⟨fun | 5 => 44 | 7 => 65 | 8 => 66 | 10 => 84 | 11 => 85 | 12 => 86 | 13 => 87 | 14 => 88 | 15 => 89 | 16 => 90 | 17 => 91 | 18 => 92 | 19 => 93 | 20 => 94 | 30 => 110 | 31 => 111 | 32 => 112 | 33 => 113 | 34 => 114 | 35 => 115 | 40 => 122 | n => n,fun | 0 => 0 | 3 => 3 | 4 => 4 | 5 => 5 | 9 => 9 | 22 => 51 | 23 => 51 | 25 => 2 | 32 => 121 | 35 => 136 | 36 => 137 | 41 => 142 | 44 => 145 | 46 => 147 | 53 => 156 | 57 => 160 | 63 => 166 | 64 => 167 | n => n,fun | n => n⟩
theorem lay_slices_Sort : SlLaysM.n5 Try.prog lay_slices_Sort_ren := {
 mixed := by kernel_rfl,
 f5 := ⟨Try.f44.name,by decide,Try.func44.trans (congrArg some (by kernel_rfl))⟩,
 f7 := ⟨Try.f65.name,by decide,Try.func65.trans (congrArg some (by kernel_rfl))⟩,
 f8 := Try.func66.trans (congrArg some (by kernel_rfl)),
 f10 := ⟨Try.f84.name,by decide,Try.func84.trans (congrArg some (by kernel_rfl))⟩,
 f11 := ⟨Try.f85.name,by decide,Try.func85.trans (congrArg some (by kernel_rfl))⟩,
 f12 := ⟨Try.f86.name,by decide,Try.func86.trans (congrArg some (by kernel_rfl))⟩,
 f13 := ⟨Try.f87.name,by decide,Try.func87.trans (congrArg some (by kernel_rfl))⟩,
 f14 := ⟨Try.f88.name,by decide,Try.func88.trans (congrArg some (by kernel_rfl))⟩,
 f15 := ⟨Try.f89.name,by decide,Try.func89.trans (congrArg some (by kernel_rfl))⟩,
 f16 := ⟨Try.f90.name,by decide,Try.func90.trans (congrArg some (by kernel_rfl))⟩,
 f17 := ⟨Try.f91.name,by decide,Try.func91.trans (congrArg some (by kernel_rfl))⟩,
 f18 := ⟨Try.f92.name,by decide,Try.func92.trans (congrArg some (by kernel_rfl))⟩,
 f19 := Try.func93.trans (congrArg some (by kernel_rfl)),
 f20 := Try.func94.trans (congrArg some (by kernel_rfl)),
 f30 := ⟨Try.f110.name,by decide,Try.func110.trans (congrArg some (by kernel_rfl))⟩,
 f31 := Try.func111.trans (congrArg some (by kernel_rfl)),
 f32 := Try.func112.trans (congrArg some (by kernel_rfl)),
 f33 := ⟨Try.f113.name,by decide,Try.func113.trans (congrArg some (by kernel_rfl))⟩,
 f34 := ⟨Try.f114.name,by decide,Try.func114.trans (congrArg some (by kernel_rfl))⟩,
 f35 := ⟨Try.f115.name,by decide,Try.func115.trans (congrArg some (by kernel_rfl))⟩,
 f40 := ⟨Try.f122.name,by decide,Try.func122.trans (congrArg some (by kernel_rfl))⟩,
 t0 := Try.underlying0,
 a0 := Try.isAgg0,
 z0 := Try.sizeOf0,
 v0 := Try.zeroValue0,
 t3 := Try.underlying3,
 a3 := Try.isAgg3,
 z3 := Try.sizeOf3,
 v3 := Try.zeroValue3,
 t4 := Try.underlying4,
 a4 := Try.isAgg4,
 z4 := Try.sizeOf4,
 v4 := Try.zeroValue4,
 t5 := Try.underlying5,
 a5 := Try.isAgg5,
 z5 := Try.sizeOf5,
 v5 := Try.zeroValue5,
 t9 := Try.underlying9,
 a9 := Try.isAgg9,
 z9 := Try.sizeOf9,
 v9 := Try.zeroValue9,
 t22 := Try.underlying51,
 a22 := Try.isAgg51,
 z22 := Try.sizeOf51,
 v22 := Try.zeroValue51,
 t23 := Try.underlying51,
 a23 := Try.isAgg51,
 z23 := Try.sizeOf51,
 v23 := Try.zeroValue51,
 t25 := Try.underlying2,
 a25 := Try.isAgg2,
 z25 := Try.sizeOf2,
 v25 := Try.zeroValue2,
 t32 := Try.underlying121,
 a32 := Try.isAgg121,
 z32 := Try.sizeOf121,
 v32 := Try.zeroValue121,
 t35 := Try.underlying136,
 a35 := Try.isAgg136,
 z35 := Try.sizeOf136,
 v35 := Try.zeroValue136,
 t36 := Try.underlying137,
 a36 := Try.isAgg137,
 z36 := Try.sizeOf137,
 v36 := Try.zeroValue137,
 t41 := Try.underlying142,
 a41 := Try.isAgg142,
 z41 := Try.sizeOf142,
 v41 := Try.zeroValue142,
 t44 := Try.underlying145,
 a44 := Try.isAgg145,
 z44 := Try.sizeOf145,
 v44 := Try.zeroValue145,
 t46 := Try.underlying147,
 a46 := Try.isAgg147,
 z46 := Try.sizeOf147,
 v46 := Try.zeroValue147,
 t53 := Try.underlying156,
 a53 := Try.isAgg156,
 z53 := Try.sizeOf156,
 v53 := Try.zeroValue156,
 t57 := Try.underlying160,
 a57 := Try.isAgg160,
 z57 := Try.sizeOf160,
 v57 := Try.zeroValue160,
 t63 := Try.underlying166,
 a63 := Try.isAgg166,
 z63 := Try.sizeOf166,
 v63 := Try.zeroValue166,
 t64 := Try.underlying167,
 a64 := Try.isAgg167,
 z64 := Try.sizeOf167,
 v64 := Try.zeroValue167 }
theorem s44 : ∀ vs r m,g_slices_Sort vs = some (r,m) → SaysX Try.prog m 44 vs r := by
 intro vs r m h
 unfold g_slices_Sort at h
 split at h
 ·rename_i w0
  cases hd : decL dI64 w0 with
  | none => rw [hd] at h; cases h
  | some y0 =>
  rw [hd] at h
  obtain rfl := decL_inv dI64_inv hd
  dsimp only at h
  split at h
  ·rename_i hp
   cases h
   simp only [p_slices_Sort,Bool.and_eq_true,decide_eq_true_eq] at hp
   exact sort_says (Go.Proofs.enters_of Try.func44 (by kernel_rfl) rfl) (fun blk off cap zs w h1 h2 h3 => AnyM.slices_Sort_int lay_slices_Sort blk off cap zs w h1 h2 h3) hp.1 hp.2
  ·cases h
 ·cases h
def m_slices_Compact (x0 : List Int) : (List Int) := (uniqI x0)
def p_slices_Compact (x0 : List Int) : Bool := (decide (0 < List.length x0))
def g_slices_Compact : List AV → Option (AV × Md)
 | [.sl w0] => (match decL dI64 w0 with | some y0 => (if p_slices_Compact y0 = true then some ((.sl (List.map (AV.int .i64) (m_slices_Compact y0))),.tk 1 (List.map (AV.int .i64) (m_slices_Compact y0))) else none) | none => none)
 | _ => none
def lay_slices_Compact_ren : Go.Shelf.Ren := ⟨fun | 43 => 45 | n => n,fun | 0 => 0 | 3 => 3 | 4 => 4 | 22 => 51 | 23 => 2 | n => n,fun | n => n⟩
theorem lay_slices_Compact : SlLaysE.n43 Try.prog lay_slices_Compact_ren := {
 mixed := by kernel_rfl,
 f43 := ⟨Try.f45.name,by decide,Try.func45.trans (congrArg some (by kernel_rfl))⟩,
 t0 := Try.underlying0,
 a0 := Try.isAgg0,
 z0 := Try.sizeOf0,
 v0 := Try.zeroValue0,
 t3 := Try.underlying3,
 a3 := Try.isAgg3,
 z3 := Try.sizeOf3,
 v3 := Try.zeroValue3,
 t4 := Try.underlying4,
 a4 := Try.isAgg4,
 z4 := Try.sizeOf4,
 v4 := Try.zeroValue4,
 t22 := Try.underlying51,
 a22 := Try.isAgg51,
 z22 := Try.sizeOf51,
 v22 := Try.zeroValue51,
 a23 := Try.isAgg2,
 z23 := Try.sizeOf2 }
theorem lay_slices_Compact_v : ∀ w,(zeroValue (lay_slices_Compact_ren.t 23)).run Try.prog w = .ok (Value.int .i64 0) w := Try.zeroValue2
theorem s45 : ∀ vs r m,g_slices_Compact vs = some (r,m) → SaysX Try.prog m 45 vs r := by
 intro vs r m h
 unfold g_slices_Compact at h
 split at h
 ·rename_i w0
  cases hd : decL dI64 w0 with
  | none => rw [hd] at h; cases h
  | some y0 =>
  rw [hd] at h
  obtain rfl := decL_inv dI64_inv hd
  dsimp only at h
  split at h
  ·rename_i hp
   cases h
   simp only [p_slices_Compact,Bool.and_eq_true,decide_eq_true_eq] at hp
   exact uniq_says (Go.Proofs.enters_of Try.func45 (by kernel_rfl) rfl) (fun blk off cap d w h1 h2 h3 => AnyE.slices_Compact lay_slices_Compact (Value.int .i64) (fun _ => rfl) (EqlAt.intD _ _ .i64) (NeqAt.intD _ _ .i64) 0 lay_slices_Compact_v blk off cap d w h1 h2 h3) hp
  ·cases h
 ·cases h
def l_impl_KeysOf_0 (x0 : (Int × Int × (List (List (Int × Nat × Nat × Nat × Nat))) × (List (Int × Nat × Nat × Nat)))) (z1_1 : Int) : Nat → (List Int) → Int → Option (List Int)
 | 0,_,_ => none
 | n + 1,z0_0,z0_1 => (if (decide (z0_1 < ((List.length (atI x0.2.2.1 z1_1) : Nat) : Int))) = true then (need (inB z0_1 (List.length (atI x0.2.2.1 z1_1))) (need (decide (((List.length z0_0) + 1) * 8 ≤ 17592186044416)) (need (decide ((List.length z0_0) + 1 ≤ 17592186044416)) (l_impl_KeysOf_0 x0 z1_1 n (z0_0 ++ [(atI (atI x0.2.2.1 z1_1) z0_1).1]) (IntKind.wrap .i64 (z0_1 + 1)))))) else (some z0_0))
def l_impl_KeysOf_1 (x0 : (Int × Int × (List (List (Int × Nat × Nat × Nat × Nat))) × (List (Int × Nat × Nat × Nat)))) : Nat → (List Int) → Int → Option (List Int)
 | 0,_,_ => none
 | n + 1,z1_0,z1_1 => (if (decide (z1_1 < ((List.length x0.2.2.1 : Nat) : Int))) = true then (need (inB z1_1 (List.length x0.2.2.1)) (need (Option.isSome (l_impl_KeysOf_0 x0 z1_1 (Int.toNat (((List.length (atI x0.2.2.1 z1_1) : Nat) : Int) - 0) + 2) z1_0 0)) (l_impl_KeysOf_1 x0 n (Option.getD (l_impl_KeysOf_0 x0 z1_1 (Int.toNat (((List.length (atI x0.2.2.1 z1_1) : Nat) : Int) - 0) + 2) z1_0 0) default) (IntKind.wrap .i64 (z1_1 + 1))))) else (some z1_0))
def l_impl_KeysOf_2 (x0 : (Int × Int × (List (List (Int × Nat × Nat × Nat × Nat))) × (List (Int × Nat × Nat × Nat)))) : Nat → (List Int) → Int → Option (List Int)
 | 0,_,_ => none
 | n + 1,z2_0,z2_1 => (if (decide (z2_1 < ((List.length x0.2.2.2 : Nat) : Int))) = true then (need (inB z2_1 (List.length x0.2.2.2)) (need (decide (((List.length z2_0) + 1) * 8 ≤ 17592186044416)) (need (decide ((List.length z2_0) + 1 ≤ 17592186044416)) (l_impl_KeysOf_2 x0 n (z2_0 ++ [(atI x0.2.2.2 z2_1).1]) (IntKind.wrap .i64 (z2_1 + 1)))))) else (some z2_0))
def m_impl_KeysOf (x0 : (Int × Int × (List (List (Int × Nat × Nat × Nat × Nat))) × (List (Int × Nat × Nat × Nat)))) : ((List Int) × Bool) := (if (m_impl_ValidClip x0) = true then ((m_slices_Compact (m_slices_Sort (Option.getD (l_impl_KeysOf_2 x0 (Int.toNat (((List.length x0.2.2.2 : Nat) : Int) - 0) + 2) (Option.getD (l_impl_KeysOf_1 x0 (Int.toNat (((List.length x0.2.2.1 : Nat) : Int) - 0) + 2) [] 0) default) 0) default)).2),true) else ([],false))
def p_impl_KeysOf (x0 : (Int × Int × (List (List (Int × Nat × Nat × Nat × Nat))) × (List (Int × Nat × Nat × Nat)))) : Bool := ((p_impl_ValidClip x0) && (!(m_impl_ValidClip x0) || ((Option.isSome (l_impl_KeysOf_1 x0 (Int.toNat (((List.length x0.2.2.1 : Nat) : Int) - 0) + 2) [] 0)) && ((Option.isSome (l_impl_KeysOf_2 x0 (Int.toNat (((List.length x0.2.2.2 : Nat) : Int) - 0) + 2) (Option.getD (l_impl_KeysOf_1 x0 (Int.toNat (((List.length x0.2.2.1 : Nat) : Int) - 0) + 2) [] 0) default) 0)) && ((p_slices_Sort (Option.getD (l_impl_KeysOf_2 x0 (Int.toNat (((List.length x0.2.2.2 : Nat) : Int) - 0) + 2) (Option.getD (l_impl_KeysOf_1 x0 (Int.toNat (((List.length x0.2.2.1 : Nat) : Int) - 0) + 2) [] 0) default) 0) default)) && ((decide (List.length (m_slices_Sort (Option.getD (l_impl_KeysOf_2 x0 (Int.toNat (((List.length x0.2.2.2 : Nat) : Int) - 0) + 2) (Option.getD (l_impl_KeysOf_1 x0 (Int.toNat (((List.length x0.2.2.1 : Nat) : Int) - 0) + 2) [] 0) default) 0) default)).2 = (List.length (Option.getD (l_impl_KeysOf_2 x0 (Int.toNat (((List.length x0.2.2.2 : Nat) : Int) - 0) + 2) (Option.getD (l_impl_KeysOf_1 x0 (Int.toNat (((List.length x0.2.2.1 : Nat) : Int) - 0) + 2) [] 0) default) 0) default)))) && (p_slices_Compact (m_slices_Sort (Option.getD (l_impl_KeysOf_2 x0 (Int.toNat (((List.length x0.2.2.2 : Nat) : Int) - 0) + 2) (Option.getD (l_impl_KeysOf_1 x0 (Int.toNat (((List.length x0.2.2.1 : Nat) : Int) - 0) + 2) [] 0) default) 0) default)).2)))))))
def g_impl_KeysOf : List AV → Option AV
 | [.agg [.int .i64 y0,.int .i64 y1,.sl w2,.sl w3]] => (match decL dc_en1 w2 with | some y2 => ((match decL dc_en2 w3 with | some y3 => (if p_impl_KeysOf (y0,y1,y2,y3) = true then some (AV.tup [(.sl (List.map (AV.int .i64) (m_impl_KeysOf (y0,y1,y2,y3)).1)),(.bool (m_impl_KeysOf (y0,y1,y2,y3)).2)]) else none) | none => none)) | none => none)
 | _ => none
def lb21_0 : ICode := (.seq (.reg [⟨some 24,none,.bin .lss false (.t 23) (.t 22)⟩] [1,4,15,16,17,21,22,23,24]) (.seq (.cond (.t 24) .skip (.exit 2)) (.seq (.block 3 (.seq (.reg [⟨some 25,none,.iaddrS 5 (.t 21) (.t 23)⟩,⟨some 26,none,.load (some 5) (.t 25)⟩,⟨some 8,none,.alloc (.agg [(.int .i64 0),(.flt .f32 0),(.flt .f32 0),(.flt .f32 0),(.flt .f32 0)])⟩,⟨none,none,(.store 5 (.t 8) (.t 26))⟩] [1,4,8,15,16,17,21,22,23]) (.reg [⟨some 27,none,.mov (.t 4)⟩,⟨some 28,none,.faddr 0 (.t 8)⟩,⟨some 29,none,.load none (.t 28)⟩,⟨some 30,none,.bslice 1 1 (.int .i64 0) [(0,(.t 29))]⟩,⟨some 31,none,.append 1 8 (.t 27) (.t 30)⟩,⟨some 4,none,.mov (.t 31)⟩] [1,4,15,16,17,21,22,23]))) (.reg [⟨some 32,none,.bin .add false (.t 23) (.c (.int .i64 1))⟩,⟨some 23,none,.mov (.t 32)⟩] [1,4,15,16,17,21,22,23]))))
def lb21_1 : ICode := (.seq (.reg [⟨some 18,none,.bin .lss false (.t 17) (.t 16)⟩] [1,4,15,16,17,18]) (.seq (.cond (.t 18) .skip (.exit 0)) (.seq (.block 1 (.seq (.reg [⟨some 19,none,.iaddrS 1 (.t 15) (.t 17)⟩,⟨some 20,none,.load none (.t 19)⟩,⟨some 6,none,.mov (.t 20)⟩] [1,4,6,15,16,17]) (.seq (.reg [⟨some 21,none,.mov (.t 6)⟩,⟨some 22,none,.len false (.t 21)⟩,⟨some 23,none,.mov (.c (.int .i64 0))⟩] [1,4,15,16,17,21,22,23]) (.block 2 (.loop lb21_0))))) (.reg [⟨some 33,none,.bin .add false (.t 17) (.c (.int .i64 1))⟩,⟨some 17,none,.mov (.t 33)⟩] [1,4,15,16,17]))))
def lb21_2 : ICode := (.seq (.reg [⟨some 38,none,.bin .lss false (.t 37) (.t 36)⟩] [4,35,36,37,38]) (.seq (.cond (.t 38) .skip (.exit 4)) (.seq (.block 5 (.seq (.reg [⟨some 39,none,.iaddrS 4 (.t 35) (.t 37)⟩,⟨some 40,none,.load (some 4) (.t 39)⟩,⟨some 10,none,.alloc (.agg [(.int .i64 0),(.flt .f32 0),(.flt .f32 0),(.flt .f32 0)])⟩,⟨none,none,(.store 4 (.t 10) (.t 40))⟩] [4,10,35,36,37]) (.reg [⟨some 41,none,.mov (.t 4)⟩,⟨some 42,none,.faddr 0 (.t 10)⟩,⟨some 43,none,.load none (.t 42)⟩,⟨some 44,none,.bslice 1 1 (.int .i64 0) [(0,(.t 43))]⟩,⟨some 45,none,.append 1 8 (.t 41) (.t 44)⟩,⟨some 4,none,.mov (.t 45)⟩] [4,35,36,37]))) (.reg [⟨some 46,none,.bin .add false (.t 37) (.c (.int .i64 1))⟩,⟨some 37,none,.mov (.t 46)⟩] [4,35,36,37]))))
def ic21 : ICode := (.seq (.reg [⟨some 1,none,.box 4 (.t 0)⟩,⟨some 2,none,.mov (.c .snil)⟩,⟨some 3,none,.mov (.c (.bool false))⟩] [1]) (.seq (.seq (.reg [⟨some 11,none,.load (some 4) (.t 1)⟩,⟨some 12,none,.call (.fn 42) [(.t 11)] []⟩,⟨some 13,none,.un .not (.t 12)⟩] [1,13]) (.cond (.t 13) (.seq (.reg [⟨some 2,none,.mov (.c .snil)⟩,⟨some 3,none,.mov (.c (.bool false))⟩] [2,3]) .ret) .skip)) (.seq (.reg [⟨some 4,none,.mov (.c .snil)⟩] [1,4]) (.seq (.seq (.reg [⟨some 14,none,.faddr 2 (.t 1)⟩,⟨some 15,none,.load none (.t 14)⟩,⟨some 16,none,.len false (.t 15)⟩,⟨some 17,none,.mov (.c (.int .i64 0))⟩] [1,4,15,16,17]) (.block 0 (.loop lb21_1))) (.seq (.seq (.reg [⟨some 34,none,.faddr 3 (.t 1)⟩,⟨some 35,none,.load none (.t 34)⟩,⟨some 36,none,.len false (.t 35)⟩,⟨some 37,none,.mov (.c (.int .i64 0))⟩] [4,35,36,37]) (.block 4 (.loop lb21_2))) (.seq (.reg [⟨some 47,none,.mov (.t 4)⟩,⟨some 48,none,.callM 44 [(.t 47)]⟩] [4]) (.seq (.reg [⟨some 49,none,.mov (.t 4)⟩,⟨some 50,none,.callM 45 [(.t 49)]⟩,⟨some 2,none,.mov (.t 50)⟩,⟨some 3,none,.mov (.c (.bool true))⟩] [2,3]) .ret)))))))
def cp21 : CP := CP.mk [] [44,45] [[1],[1,13],[2,3],[1,4],[1,4,15,16,17],[1,4,15,16,17,18],[1,4,6,15,16,17],[1,4,15,16,17,21,22,23],[1,4,15,16,17,21,22,23,24],[1,4,8,15,16,17,21,22,23],[1,4,15,16,17,21,22,23],[1,4,15,16,17,21,22,23],[1,4,15,16,17],[4,35,36,37],[4,35,36,37,38],[4,10,35,36,37],[4,35,36,37],[4,35,36,37],[4],[2,3]] 51 [] []
theorem sl21_0 (x0 : (Int × Int × (List (List (Int × Nat × Nat × Nat × Nat))) × (List (Int × Nat × Nat × Nat)))) (z1_1 : Int) : ∀ (n : Nat) (z0_0 : (List Int)) (z0_1 : Int) (o : (List Int)) (K : IExit → St → Prop),l_impl_KeysOf_0 x0 z1_1 n z0_0 z0_1 = some o → (∀ st,Wk st (⟨[(1,(.lptr 1 0 0)),(4,(.lsl 9004 0 (List.length o))),(15,(.sl (List.map en1 x0.2.2.1))),(16,(.int .i64 ((List.length x0.2.2.1 : Nat) : Int))),(17,(.int .i64 z1_1))],[(1,(some ⟨4,false,[(AV.agg [(.int .i64 x0.1),(.int .i64 x0.2.1),(.sl (List.map en1 x0.2.2.1)),(.sl (List.map en2 x0.2.2.2))])]⟩)),(9004,(some ⟨1,true,(List.map (AV.int .i64) o)⟩))]⟩ : St) → K (.exit 2) st) → eA (tabOf [(42,wM .any g_impl_ValidClip),(44,g_slices_Sort),(45,g_slices_Compact)]) (.loop lb21_0) (⟨[(1,(.lptr 1 0 0)),(4,(.lsl 9004 0 (List.length z0_0))),(15,(.sl (List.map en1 x0.2.2.1))),(16,(.int .i64 ((List.length x0.2.2.1 : Nat) : Int))),(17,(.int .i64 z1_1)),(21,(.sl (List.map en0 (atI x0.2.2.1 z1_1)))),(22,(.int .i64 ((List.length (atI x0.2.2.1 z1_1) : Nat) : Int))),(23,(.int .i64 z0_1))],[(1,(some ⟨4,false,[(AV.agg [(.int .i64 x0.1),(.int .i64 x0.2.1),(.sl (List.map en1 x0.2.2.1)),(.sl (List.map en2 x0.2.2.2))])]⟩)),(9004,(some ⟨1,true,(List.map (AV.int .i64) z0_0)⟩))]⟩ : St) K := by
 intro n
 induction n with
 | zero =>
  intro z0_0 z0_1 o K h h0
  simp only [l_impl_KeysOf_0,reduceCtorEq] at h
 | succ n ih =>
  intro z0_0 z0_1 o K h h0
  refine eA_loop ?_
  unfold lb21_0
  unfold l_impl_KeysOf_0 at h
  (try simp only [need_iff] at h)
  simp only [
   need_iff,h,grpX,purgeH,Option.map,reduceIte,Nat.reduceEqDiff,Nat.reduceAdd,Nat.reduceMul,Nat.reduceLT,Nat.reduceLeDiff,implies_true,forall_const,eq_self,Int.reduceEq,Int.reduceLE,Int.reduceLT,if_true,if_false,grpK,Int.reduceAdd,Int.reduceSub,Int.reduceMul,Int.reduceNeg,Int.reducePow,Nat.reducePow,Int.reduceToNat,Nat.reduceSub,List.replicate,Nat.reduceBEq,grpE,beq_true,beq_false,g_impl_ValidClip,g_slices_Sort,g_slices_Compact,grpC,grpY]
  repeat' (first
   | ((first | (refine eGI_of (fun hc => ?_) (fun hc => ?_)) | (refine eCc_of (fun hc => ?_) (fun hc => ?_)) | (have hc := True.intro; refine KW_refl ?_)) <;> (try simp only [Bool.not_eq_true',Bool.not_eq_false'] at hc) <;> (try simp only [hc,need_iff,reduceCtorEq,grpN,Int.reduceEq,Int.reduceLT,Int.reduceLE,if_true,if_false,reduceIte] at h) <;> (first | (have hc2 := hc; simp only [decide_eq_true_eq,decide_eq_false_iff_not] at hc2; (first | (replace hc2 := eq_false hc2) | (replace hc2 := eq_true hc2)); (try simp only [hc2,need_iff,reduceCtorEq,grpN,Int.reduceEq,Int.reduceLT,Int.reduceLE,if_true,if_false,reduceIte] at h); replace h := And.intro hc2 h) | (replace h := And.intro hc h) | skip) <;> simp only [hc,
   need_iff,h,grpX,purgeH,Option.map,reduceIte,Nat.reduceEqDiff,Nat.reduceAdd,Nat.reduceMul,Nat.reduceLT,Nat.reduceLeDiff,implies_true,forall_const,eq_self,Int.reduceEq,Int.reduceLE,Int.reduceLT,if_true,if_false,grpK,Int.reduceAdd,Int.reduceSub,Int.reduceMul,Int.reduceNeg,Int.reducePow,Nat.reducePow,Int.reduceToNat,Nat.reduceSub,List.replicate,Nat.reduceBEq,grpE,beq_true,beq_false,g_impl_ValidClip,g_slices_Sort,g_slices_Compact,grpC,grpY]))
  all_goals (have hf := h)
  all_goals (repeat (replace h := And.right h))
  all_goals ((first | (refine eA_wk (wk_norm (ks := [1,4,15,16,17,21,22,23]) (ls := [1,9004]) ?_) (eA_cast ?_ (ih _ _ _ _ h h0))) | (cases h; have h := True.intro; refine h0 _ (Wk.cast (wk_norm (ks := [1,4,15,16,17]) (ls := [1,9004]) ?_) ?_))) <;> simp only [normOk,optIn,blkIn,nameIn,normS,List.map_append,List.length_append,List.map_set,List.length_set,List.map_replicate,List.length_replicate,List.map_nil,List.map_cons,
   need_iff,h,hf,grpX,purgeH,Option.map,reduceIte,Nat.reduceEqDiff,Nat.reduceAdd,Nat.reduceMul,Nat.reduceLT,Nat.reduceLeDiff,implies_true,forall_const,eq_self,Int.reduceEq,Int.reduceLE,Int.reduceLT,if_true,if_false,grpK,Int.reduceAdd,Int.reduceSub,Int.reduceMul,Int.reduceNeg,Int.reducePow,Nat.reducePow,Int.reduceToNat,Nat.reduceSub,List.replicate,Nat.reduceBEq,grpE,beq_true,beq_false,g_impl_ValidClip,g_slices_Sort,g_slices_Compact,grpC,grpY] <;> first | rfl | (simp only [Nat.add_comm]; done))
theorem sl21_1 (x0 : (Int × Int × (List (List (Int × Nat × Nat × Nat × Nat))) × (List (Int × Nat × Nat × Nat)))) : ∀ (n : Nat) (z1_0 : (List Int)) (z1_1 : Int) (o : (List Int)) (K : IExit → St → Prop),l_impl_KeysOf_1 x0 n z1_0 z1_1 = some o → (∀ st,Wk st (⟨[(1,(.lptr 1 0 0)),(4,(.lsl 9004 0 (List.length o)))],[(1,(some ⟨4,false,[(AV.agg [(.int .i64 x0.1),(.int .i64 x0.2.1),(.sl (List.map en1 x0.2.2.1)),(.sl (List.map en2 x0.2.2.2))])]⟩)),(9004,(some ⟨1,true,(List.map (AV.int .i64) o)⟩))]⟩ : St) → K (.exit 0) st) → eA (tabOf [(42,wM .any g_impl_ValidClip),(44,g_slices_Sort),(45,g_slices_Compact)]) (.loop lb21_1) (⟨[(1,(.lptr 1 0 0)),(4,(.lsl 9004 0 (List.length z1_0))),(15,(.sl (List.map en1 x0.2.2.1))),(16,(.int .i64 ((List.length x0.2.2.1 : Nat) : Int))),(17,(.int .i64 z1_1))],[(1,(some ⟨4,false,[(AV.agg [(.int .i64 x0.1),(.int .i64 x0.2.1),(.sl (List.map en1 x0.2.2.1)),(.sl (List.map en2 x0.2.2.2))])]⟩)),(9004,(some ⟨1,true,(List.map (AV.int .i64) z1_0)⟩))]⟩ : St) K := by
 intro n
 induction n with
 | zero =>
  intro z1_0 z1_1 o K h h0
  simp only [l_impl_KeysOf_1,reduceCtorEq] at h
 | succ n ih =>
  intro z1_0 z1_1 o K h h0
  refine eA_loop ?_
  unfold lb21_1
  unfold l_impl_KeysOf_1 at h
  (try simp only [need_iff] at h)
  simp only [
   need_iff,h,grpX,purgeH,Option.map,reduceIte,Nat.reduceEqDiff,Nat.reduceAdd,Nat.reduceMul,Nat.reduceLT,Nat.reduceLeDiff,implies_true,forall_const,eq_self,Int.reduceEq,Int.reduceLE,Int.reduceLT,if_true,if_false,grpK,Int.reduceAdd,Int.reduceSub,Int.reduceMul,Int.reduceNeg,Int.reducePow,Nat.reducePow,Int.reduceToNat,Nat.reduceSub,List.replicate,Nat.reduceBEq,grpE,beq_true,beq_false,g_impl_ValidClip,g_slices_Sort,g_slices_Compact,grpC,grpY]
  repeat' (first
   | ((first | (refine eGI_of (fun hc => ?_) (fun hc => ?_)) | (refine eCc_of (fun hc => ?_) (fun hc => ?_)) | (have hc := True.intro; refine KW_refl ?_)) <;> (try simp only [Bool.not_eq_true',Bool.not_eq_false'] at hc) <;> (try simp only [hc,need_iff,reduceCtorEq,grpN,Int.reduceEq,Int.reduceLT,Int.reduceLE,if_true,if_false,reduceIte] at h) <;> (first | (have hc2 := hc; simp only [decide_eq_true_eq,decide_eq_false_iff_not] at hc2; (first | (replace hc2 := eq_false hc2) | (replace hc2 := eq_true hc2)); (try simp only [hc2,need_iff,reduceCtorEq,grpN,Int.reduceEq,Int.reduceLT,Int.reduceLE,if_true,if_false,reduceIte] at h); replace h := And.intro hc2 h) | (replace h := And.intro hc h) | skip) <;> simp only [hc,
   need_iff,h,grpX,purgeH,Option.map,reduceIte,Nat.reduceEqDiff,Nat.reduceAdd,Nat.reduceMul,Nat.reduceLT,Nat.reduceLeDiff,implies_true,forall_const,eq_self,Int.reduceEq,Int.reduceLE,Int.reduceLT,if_true,if_false,grpK,Int.reduceAdd,Int.reduceSub,Int.reduceMul,Int.reduceNeg,Int.reducePow,Nat.reducePow,Int.reduceToNat,Nat.reduceSub,List.replicate,Nat.reduceBEq,grpE,beq_true,beq_false,g_impl_ValidClip,g_slices_Sort,g_slices_Compact,grpC,grpY])
   | (refine eA_wk (wk_norm (ks := [1,4,15,16,17,21,22,23]) (ls := [1,9004]) ?_) (eA_cast ?_ (sl21_0 x0 z1_1 _ _ _ _ _ (getD_some (d := default) (x := (l_impl_KeysOf_0 x0 z1_1 (Int.toNat (((List.length (atI x0.2.2.1 z1_1) : Nat) : Int) - 0) + 2) z1_0 0)) ?_) ?_)); (iterate 2 (simp only [nilS,nilV,nilB,normOk,optIn,blkIn,nameIn,normS,List.map_append,List.length_append,List.map_set,List.length_set,List.map_replicate,List.length_replicate,List.map_nil,List.map_cons,
   need_iff,h,grpX,purgeH,Option.map,reduceIte,Nat.reduceEqDiff,Nat.reduceAdd,Nat.reduceMul,Nat.reduceLT,Nat.reduceLeDiff,implies_true,forall_const,eq_self,Int.reduceEq,Int.reduceLE,Int.reduceLT,if_true,if_false,grpK,Int.reduceAdd,Int.reduceSub,Int.reduceMul,Int.reduceNeg,Int.reducePow,Nat.reducePow,Int.reduceToNat,Nat.reduceSub,List.replicate,Nat.reduceBEq,grpE,beq_true,beq_false,g_impl_ValidClip,g_slices_Sort,g_slices_Compact,grpC,grpY] <;> first | rfl | (simp only [Nat.add_comm]; done))); (simp only [h]); (
    intro st2 hw; (try simp only [reduceCtorEq,grpN,Int.reduceEq,Int.reduceLT,Int.reduceLE,if_true,if_false,reduceIte] at h); (try replace h := And.intro ht h); simp only [
Kq_exit,Kq_normal,Kq_ret,Kb_exit,Kb_normal,Kb_ret,Kl_exit,Kl_normal,Kl_ret,reduceIte,Nat.reduceEqDiff,if_true,if_false,eq_self]; refine KW_of hw ?_; simp only [
   need_iff,h,grpX,purgeH,Option.map,reduceIte,Nat.reduceEqDiff,Nat.reduceAdd,Nat.reduceMul,Nat.reduceLT,Nat.reduceLeDiff,implies_true,forall_const,eq_self,Int.reduceEq,Int.reduceLE,Int.reduceLT,if_true,if_false,grpK,Int.reduceAdd,Int.reduceSub,Int.reduceMul,Int.reduceNeg,Int.reducePow,Nat.reducePow,Int.reduceToNat,Nat.reduceSub,List.replicate,Nat.reduceBEq,grpE,beq_true,beq_false,g_impl_ValidClip,g_slices_Sort,g_slices_Compact,grpC,grpY])))
  all_goals (have hf := h)
  all_goals (repeat (replace h := And.right h))
  all_goals ((first | (refine eA_wk (wk_norm (ks := [1,4,15,16,17]) (ls := [1,9004]) ?_) (eA_cast ?_ (ih _ _ _ _ h h0))) | (cases h; have h := True.intro; refine h0 _ (Wk.cast (wk_norm (ks := [1,4]) (ls := [1,9004]) ?_) ?_))) <;> simp only [normOk,optIn,blkIn,nameIn,normS,List.map_append,List.length_append,List.map_set,List.length_set,List.map_replicate,List.length_replicate,List.map_nil,List.map_cons,
   need_iff,h,hf,grpX,purgeH,Option.map,reduceIte,Nat.reduceEqDiff,Nat.reduceAdd,Nat.reduceMul,Nat.reduceLT,Nat.reduceLeDiff,implies_true,forall_const,eq_self,Int.reduceEq,Int.reduceLE,Int.reduceLT,if_true,if_false,grpK,Int.reduceAdd,Int.reduceSub,Int.reduceMul,Int.reduceNeg,Int.reducePow,Nat.reducePow,Int.reduceToNat,Nat.reduceSub,List.replicate,Nat.reduceBEq,grpE,beq_true,beq_false,g_impl_ValidClip,g_slices_Sort,g_slices_Compact,grpC,grpY] <;> first | rfl | (simp only [Nat.add_comm]; done))
theorem sl21_2 (x0 : (Int × Int × (List (List (Int × Nat × Nat × Nat × Nat))) × (List (Int × Nat × Nat × Nat)))) : ∀ (n : Nat) (z2_0 : (List Int)) (z2_1 : Int) (o : (List Int)) (K : IExit → St → Prop),l_impl_KeysOf_2 x0 n z2_0 z2_1 = some o → (∀ st,Wk st (⟨[(4,(.lsl 9004 0 (List.length o)))],[(9004,(some ⟨1,true,(List.map (AV.int .i64) o)⟩))]⟩ : St) → K (.exit 4) st) → eA (tabOf [(42,wM .any g_impl_ValidClip),(44,g_slices_Sort),(45,g_slices_Compact)]) (.loop lb21_2) (⟨[(4,(.lsl 9004 0 (List.length z2_0))),(35,(.sl (List.map en2 x0.2.2.2))),(36,(.int .i64 ((List.length x0.2.2.2 : Nat) : Int))),(37,(.int .i64 z2_1))],[(9004,(some ⟨1,true,(List.map (AV.int .i64) z2_0)⟩))]⟩ : St) K := by
 intro n
 induction n with
 | zero =>
  intro z2_0 z2_1 o K h h0
  simp only [l_impl_KeysOf_2,reduceCtorEq] at h
 | succ n ih =>
  intro z2_0 z2_1 o K h h0
  refine eA_loop ?_
  unfold lb21_2
  unfold l_impl_KeysOf_2 at h
  (try simp only [need_iff] at h)
  simp only [
   need_iff,h,grpX,purgeH,Option.map,reduceIte,Nat.reduceEqDiff,Nat.reduceAdd,Nat.reduceMul,Nat.reduceLT,Nat.reduceLeDiff,implies_true,forall_const,eq_self,Int.reduceEq,Int.reduceLE,Int.reduceLT,if_true,if_false,grpK,Int.reduceAdd,Int.reduceSub,Int.reduceMul,Int.reduceNeg,Int.reducePow,Nat.reducePow,Int.reduceToNat,Nat.reduceSub,List.replicate,Nat.reduceBEq,grpE,beq_true,beq_false,g_impl_ValidClip,g_slices_Sort,g_slices_Compact,grpC,grpY]
  repeat' (first
   | ((first | (refine eGI_of (fun hc => ?_) (fun hc => ?_)) | (refine eCc_of (fun hc => ?_) (fun hc => ?_)) | (have hc := True.intro; refine KW_refl ?_)) <;> (try simp only [Bool.not_eq_true',Bool.not_eq_false'] at hc) <;> (try simp only [hc,need_iff,reduceCtorEq,grpN,Int.reduceEq,Int.reduceLT,Int.reduceLE,if_true,if_false,reduceIte] at h) <;> (first | (have hc2 := hc; simp only [decide_eq_true_eq,decide_eq_false_iff_not] at hc2; (first | (replace hc2 := eq_false hc2) | (replace hc2 := eq_true hc2)); (try simp only [hc2,need_iff,reduceCtorEq,grpN,Int.reduceEq,Int.reduceLT,Int.reduceLE,if_true,if_false,reduceIte] at h); replace h := And.intro hc2 h) | (replace h := And.intro hc h) | skip) <;> simp only [hc,
   need_iff,h,grpX,purgeH,Option.map,reduceIte,Nat.reduceEqDiff,Nat.reduceAdd,Nat.reduceMul,Nat.reduceLT,Nat.reduceLeDiff,implies_true,forall_const,eq_self,Int.reduceEq,Int.reduceLE,Int.reduceLT,if_true,if_false,grpK,Int.reduceAdd,Int.reduceSub,Int.reduceMul,Int.reduceNeg,Int.reducePow,Nat.reducePow,Int.reduceToNat,Nat.reduceSub,List.replicate,Nat.reduceBEq,grpE,beq_true,beq_false,g_impl_ValidClip,g_slices_Sort,g_slices_Compact,grpC,grpY]))
  all_goals (have hf := h)
  all_goals (repeat (replace h := And.right h))
  all_goals ((first | (refine eA_wk (wk_norm (ks := [4,35,36,37]) (ls := [9004]) ?_) (eA_cast ?_ (ih _ _ _ _ h h0))) | (cases h; have h := True.intro; refine h0 _ (Wk.cast (wk_norm (ks := [4]) (ls := [9004]) ?_) ?_))) <;> simp only [normOk,optIn,blkIn,nameIn,normS,List.map_append,List.length_append,List.map_set,List.length_set,List.map_replicate,List.length_replicate,List.map_nil,List.map_cons,
   need_iff,h,hf,grpX,purgeH,Option.map,reduceIte,Nat.reduceEqDiff,Nat.reduceAdd,Nat.reduceMul,Nat.reduceLT,Nat.reduceLeDiff,implies_true,forall_const,eq_self,Int.reduceEq,Int.reduceLE,Int.reduceLT,if_true,if_false,grpK,Int.reduceAdd,Int.reduceSub,Int.reduceMul,Int.reduceNeg,Int.reducePow,Nat.reducePow,Int.reduceToNat,Nat.reduceSub,List.replicate,Nat.reduceBEq,grpE,beq_true,beq_false,g_impl_ValidClip,g_slices_Sort,g_slices_Compact,grpC,grpY] <;> first | rfl | (simp only [Nat.add_comm]; done))
theorem s21 : ∀ vs r,g_impl_KeysOf vs = some r → SaysM Try.prog (.own [1]) 21 vs r := by
 intro vs r h
 unfold g_impl_KeysOf at h
 split at h
 ·rename_i y0 y1 w2 w3
  cases hd_y2 : decL dc_en1 w2 with
  | none => rw [hd_y2] at h; cases h
  | some y2 =>
  rw [hd_y2] at h
  obtain rfl := decL_inv dc_en1_inv hd_y2
  clear hd_y2
  dsimp only at h
  cases hd_y3 : decL dc_en2 w3 with
  | none => rw [hd_y3] at h; cases h
  | some y3 =>
  rw [hd_y3] at h
  obtain rfl := decL_inv dc_en2_inv hd_y3
  clear hd_y3
  dsimp only at h
  split at h
  ·rename_i hp
   cases h
   refine spec_of (m := (.own [1])) (tab := tabOf [(42,wM .any g_impl_ValidClip),(44,g_slices_Sort),(45,g_slices_Compact)]) (cp := cp21) (ic := ic21) (rvl := [(.t 2),(.t 3)]) hm (tabOk_cons (m := .any) s42 (tabOk_consW s44 (tabOk_consW s45 tabOk_nil))) Try.func21 rfl rfl rfl (by kernel_rfl) rfl (Nat.le_of_ble_eq_true rfl) (Nat.le_of_ble_eq_true rfl) ?_
   show eA _ _ _ _
   unfold ic21
   simp only [p_impl_KeysOf,Bool.and_eq_true,Bool.or_eq_true,decide_eq_true_eq,Bool.not_eq_true',decide_eq_false_iff_not] at hp
   refine eS_to ?_
   repeat' (first
    | ((first | (have h := True.intro; refine eS_of ?_) | (refine eGI_of (fun h => ?_) (fun h => ?_)) | (refine eCc_of (fun h => ?_) (fun h => ?_)) | (have h := True.intro; refine KW_refl ?_)) <;> (try simp only [Bool.not_eq_true',Bool.not_eq_false'] at h) <;> (try first | exact nbA h (by assumption) | exact nbB h (by assumption)) <;> (try simp only [h,reduceCtorEq,grpN,Int.reduceEq,Int.reduceLT,Int.reduceLE,if_true,if_false,reduceIte] at hp) <;> (first | (have h2 := h; simp only [decide_eq_true_eq,decide_eq_false_iff_not] at h2; (first | (replace h2 := eq_false h2) | (replace h2 := eq_true h2)); (try simp only [h2,reduceCtorEq,grpN,Int.reduceEq,Int.reduceLT,Int.reduceLE,if_true,if_false,reduceIte] at hp); replace hp := And.intro h2 hp) | (replace hp := And.intro h hp) | skip) <;> simp only [h,
     hp,grpX,purgeH,Option.map,reduceIte,Nat.reduceEqDiff,Nat.reduceAdd,Nat.reduceMul,Nat.reduceLT,Nat.reduceLeDiff,implies_true,forall_const,eq_self,Int.reduceEq,Int.reduceLE,Int.reduceLT,if_true,if_false,grpK,Int.reduceAdd,Int.reduceSub,Int.reduceMul,Int.reduceNeg,Int.reducePow,Nat.reducePow,Int.reduceToNat,Nat.reduceSub,List.replicate,Nat.reduceBEq,grpE,beq_true,beq_false,g_impl_ValidClip,g_slices_Sort,g_slices_Compact,grpC,grpY])
    | (refine eA_wk ((wk_nil (t := 4) (i := none) (l := 9004) (es := 1) ?_).trans (wk_norm (ks := [1,4,15,16,17]) (ls := [1,9004]) ?_)) (eA_cast ?_ (sl21_1 (y0,y1,y2,y3) _ _ _ _ _ (getD_some (d := default) (x := (l_impl_KeysOf_1 (y0,y1,y2,y3) (Int.toNat (((List.length (y0,y1,y2,y3).2.2.1 : Nat) : Int) - 0) + 2) [] 0)) ?_) ?_)); (iterate 3 (simp only [nilS,nilV,nilB,normOk,optIn,blkIn,nameIn,normS,List.map_append,List.length_append,List.map_set,List.length_set,List.map_replicate,List.length_replicate,List.map_nil,List.map_cons,
     hp,grpX,purgeH,Option.map,reduceIte,Nat.reduceEqDiff,Nat.reduceAdd,Nat.reduceMul,Nat.reduceLT,Nat.reduceLeDiff,implies_true,forall_const,eq_self,Int.reduceEq,Int.reduceLE,Int.reduceLT,if_true,if_false,grpK,Int.reduceAdd,Int.reduceSub,Int.reduceMul,Int.reduceNeg,Int.reducePow,Nat.reducePow,Int.reduceToNat,Nat.reduceSub,List.replicate,Nat.reduceBEq,grpE,beq_true,beq_false,g_impl_ValidClip,g_slices_Sort,g_slices_Compact,grpC,grpY] <;> first | rfl | (simp only [Nat.add_comm]; done))); (simp only [hp]); (
    intro st2 hw; (try simp only [reduceCtorEq,grpN,Int.reduceEq,Int.reduceLT,Int.reduceLE,if_true,if_false,reduceIte] at hp); (try replace hp := And.intro ht hp); simp only [
Kq_exit,Kq_normal,Kq_ret,Kb_exit,Kb_normal,Kb_ret,Kl_exit,Kl_normal,Kl_ret,reduceIte,Nat.reduceEqDiff,if_true,if_false,eq_self]; refine KW_of hw ?_; simp only [
     hp,grpX,purgeH,Option.map,reduceIte,Nat.reduceEqDiff,Nat.reduceAdd,Nat.reduceMul,Nat.reduceLT,Nat.reduceLeDiff,implies_true,forall_const,eq_self,Int.reduceEq,Int.reduceLE,Int.reduceLT,if_true,if_false,grpK,Int.reduceAdd,Int.reduceSub,Int.reduceMul,Int.reduceNeg,Int.reducePow,Nat.reducePow,Int.reduceToNat,Nat.reduceSub,List.replicate,Nat.reduceBEq,grpE,beq_true,beq_false,g_impl_ValidClip,g_slices_Sort,g_slices_Compact,grpC,grpY]))
    | (refine eA_wk (wk_norm (ks := [4,35,36,37]) (ls := [9004]) ?_) (eA_cast ?_ (sl21_2 (y0,y1,y2,y3) _ _ _ _ _ (getD_some (d := default) (x := (l_impl_KeysOf_2 (y0,y1,y2,y3) (Int.toNat (((List.length (y0,y1,y2,y3).2.2.2 : Nat) : Int) - 0) + 2) (Option.getD (l_impl_KeysOf_1 (y0,y1,y2,y3) (Int.toNat (((List.length (y0,y1,y2,y3).2.2.1 : Nat) : Int) - 0) + 2) [] 0) default) 0)) ?_) ?_)); (iterate 2 (simp only [nilS,nilV,nilB,normOk,optIn,blkIn,nameIn,normS,List.map_append,List.length_append,List.map_set,List.length_set,List.map_replicate,List.length_replicate,List.map_nil,List.map_cons,
     hp,grpX,purgeH,Option.map,reduceIte,Nat.reduceEqDiff,Nat.reduceAdd,Nat.reduceMul,Nat.reduceLT,Nat.reduceLeDiff,implies_true,forall_const,eq_self,Int.reduceEq,Int.reduceLE,Int.reduceLT,if_true,if_false,grpK,Int.reduceAdd,Int.reduceSub,Int.reduceMul,Int.reduceNeg,Int.reducePow,Nat.reducePow,Int.reduceToNat,Nat.reduceSub,List.replicate,Nat.reduceBEq,grpE,beq_true,beq_false,g_impl_ValidClip,g_slices_Sort,g_slices_Compact,grpC,grpY] <;> first | rfl | (simp only [Nat.add_comm]; done))); (simp only [hp]); (
    intro st2 hw; (try simp only [reduceCtorEq,grpN,Int.reduceEq,Int.reduceLT,Int.reduceLE,if_true,if_false,reduceIte] at hp); (try replace hp := And.intro ht hp); simp only [
Kq_exit,Kq_normal,Kq_ret,Kb_exit,Kb_normal,Kb_ret,Kl_exit,Kl_normal,Kl_ret,reduceIte,Nat.reduceEqDiff,if_true,if_false,eq_self]; refine KW_of hw ?_; simp only [
     hp,grpX,purgeH,Option.map,reduceIte,Nat.reduceEqDiff,Nat.reduceAdd,Nat.reduceMul,Nat.reduceLT,Nat.reduceLeDiff,implies_true,forall_const,eq_self,Int.reduceEq,Int.reduceLE,Int.reduceLT,if_true,if_false,grpK,Int.reduceAdd,Int.reduceSub,Int.reduceMul,Int.reduceNeg,Int.reducePow,Nat.reducePow,Int.reduceToNat,Nat.reduceSub,List.replicate,Nat.reduceBEq,grpE,beq_true,beq_false,g_impl_ValidClip,g_slices_Sort,g_slices_Compact,grpC,grpY])))
   all_goals (try simp only [*,m_impl_KeysOf,grpZ,if_true,if_false,reduceIte,decide_true,decide_false])
   all_goals (try (simp_all; done))
  ·cases h
 ·cases h
def l_laws_eqInt64S_0 (x0 : (List Int)) (x1 : (List Int)) : Nat → Int → Option (Bool × Bool × Unit)
 | 0,_ => none
 | n + 1,z0_0 => (if (decide (z0_0 < ((List.length x0 : Nat) : Int))) = true then (need (inB z0_0 (List.length x0)) (need (inB z0_0 (List.length x1)) (if (decide ((atI x0 z0_0) = (atI x1 z0_0))) = true then (l_laws_eqInt64S_0 x0 x1 n (IntKind.wrap .i64 (z0_0 + 1))) else (some (true,false,default))))) else (some (false,default,())))
def m_laws_eqInt64S (x0 : (List Int)) (x1 : (List Int)) : Bool := (if (decide (((List.length x0 : Nat) : Int) = ((List.length x1 : Nat) : Int))) = true then (if (Option.getD (l_laws_eqInt64S_0 x0 x1 (Int.toNat (((List.length x0 : Nat) : Int) - 0) + 2) 0) default).1 = true then (Option.getD (l_laws_eqInt64S_0 x0 x1 (Int.toNat (((List.length x0 : Nat) : Int) - 0) + 2) 0) default).2.1 else true) else false)
def p_laws_eqInt64S (x0 : (List Int)) (x1 : (List Int)) : Bool := (!(decide (((List.length x0 : Nat) : Int) = ((List.length x1 : Nat) : Int))) || (Option.isSome (l_laws_eqInt64S_0 x0 x1 (Int.toNat (((List.length x0 : Nat) : Int) - 0) + 2) 0)))
def g_laws_eqInt64S : List AV → Option AV
 | [.sl w0,.sl w1] => (match decL dI64 w0 with | some y0 => ((match decL dI64 w1 with | some y1 => (if p_laws_eqInt64S y0 y1 = true then some (.bool (m_laws_eqInt64S y0 y1)) else none) | none => none)) | none => none)
 | _ => none
def lb22_0 : ICode := (.seq (.seq (.reg [⟨some 11,none,.mov (.t 5)⟩,⟨some 12,none,.mov (.t 0)⟩,⟨some 13,none,.len false (.t 12)⟩,⟨some 14,none,.bin .lss false (.t 11) (.t 13)⟩] [0,1,5,14]) (.cond (.t 14) .skip (.exit 0))) (.seq (.block 1 (.seq (.reg [⟨some 17,none,.mov (.t 0)⟩,⟨some 18,none,.mov (.t 5)⟩,⟨some 19,none,.iaddrS 1 (.t 17) (.t 18)⟩,⟨some 20,none,.load none (.t 19)⟩,⟨some 21,none,.mov (.t 1)⟩,⟨some 22,none,.mov (.t 5)⟩,⟨some 23,none,.iaddrS 1 (.t 21) (.t 22)⟩,⟨some 24,none,.load none (.t 23)⟩,⟨some 25,none,.bin .neq false (.t 20) (.t 24)⟩] [0,1,5,25]) (.cond (.t 25) (.seq (.reg [⟨some 4,none,.mov (.c (.bool false))⟩] [4]) .ret) .skip))) (.reg [⟨some 15,none,.mov (.t 5)⟩,⟨some 16,none,.bin .add false (.t 15) (.c (.int .i64 1))⟩,⟨some 5,none,.mov (.t 16)⟩] [0,1,5])))
def ic22 : ICode := (.seq (.reg [⟨some 4,none,.mov (.c (.bool false))⟩] [0,1]) (.seq (.seq (.reg [⟨some 6,none,.mov (.t 0)⟩,⟨some 7,none,.len false (.t 6)⟩,⟨some 8,none,.mov (.t 1)⟩,⟨some 9,none,.len false (.t 8)⟩,⟨some 10,none,.bin .neq false (.t 7) (.t 9)⟩] [0,1,10]) (.cond (.t 10) (.seq (.reg [⟨some 4,none,.mov (.c (.bool false))⟩] [4]) .ret) .skip)) (.seq (.seq (.reg [⟨some 5,none,.mov (.c (.int .i64 0))⟩] [0,1,5]) (.block 0 (.loop lb22_0))) (.seq (.reg [⟨some 4,none,.mov (.c (.bool true))⟩] [4]) .ret))))
def cp22 : CP := CP.mk [] [] [[0,1],[0,1,10],[4],[0,1,5],[0,1,5,14],[0,1,5],[0,1,5,25],[4],[4]] 26 [] []
theorem sl22_0 (x0 : (List Int)) (x1 : (List Int)) : ∀ (n : Nat) (z0_0 : Int) (o : (Bool × Bool × Unit)) (K : IExit → St → Prop),l_laws_eqInt64S_0 x0 x1 n z0_0 = some o → (∀ st,o.1 = true → outM .any st [(.t 4)] = some (.bool o.2.1) → K .ret st) → (∀ st,o.1 = false → Wk st (⟨[],[]⟩ : St) → K (.exit 0) st) → eA (tabOf []) (.loop lb22_0) (⟨[(0,(.sl (List.map (AV.int .i64) x0))),(1,(.sl (List.map (AV.int .i64) x1))),(5,(.int .i64 z0_0))],[]⟩ : St) K := by
 intro n
 induction n with
 | zero =>
  intro z0_0 o K h h0 h1
  simp only [l_laws_eqInt64S_0,reduceCtorEq] at h
 | succ n ih =>
  intro z0_0 o K h h0 h1
  refine eA_loop ?_
  unfold lb22_0
  unfold l_laws_eqInt64S_0 at h
  (try simp only [need_iff] at h)
  simp only [
   need_iff,h,grpX,purgeH,Option.map,reduceIte,Nat.reduceEqDiff,Nat.reduceAdd,Nat.reduceMul,Nat.reduceLT,Nat.reduceLeDiff,implies_true,forall_const,eq_self,Int.reduceEq,Int.reduceLE,Int.reduceLT,if_true,if_false,grpK,Int.reduceAdd,Int.reduceSub,Int.reduceMul,Int.reduceNeg,Int.reducePow,Nat.reducePow,Int.reduceToNat,Nat.reduceSub,List.replicate,Nat.reduceBEq,grpE,beq_true,beq_false,grpC,grpY]
  repeat' (first
   | ((first | (refine eGI_of (fun hc => ?_) (fun hc => ?_)) | (refine eCc_of (fun hc => ?_) (fun hc => ?_)) | (have hc := True.intro; refine KW_refl ?_)) <;> (try simp only [Bool.not_eq_true',Bool.not_eq_false'] at hc) <;> (try simp only [hc,need_iff,reduceCtorEq,grpN,Int.reduceEq,Int.reduceLT,Int.reduceLE,if_true,if_false,reduceIte] at h) <;> (first | (have hc2 := hc; simp only [decide_eq_true_eq,decide_eq_false_iff_not] at hc2; (first | (replace hc2 := eq_false hc2) | (replace hc2 := eq_true hc2)); (try simp only [hc2,need_iff,reduceCtorEq,grpN,Int.reduceEq,Int.reduceLT,Int.reduceLE,if_true,if_false,reduceIte] at h); replace h := And.intro hc2 h) | (replace h := And.intro hc h) | skip) <;> simp only [hc,
   need_iff,h,grpX,purgeH,Option.map,reduceIte,Nat.reduceEqDiff,Nat.reduceAdd,Nat.reduceMul,Nat.reduceLT,Nat.reduceLeDiff,implies_true,forall_const,eq_self,Int.reduceEq,Int.reduceLE,Int.reduceLT,if_true,if_false,grpK,Int.reduceAdd,Int.reduceSub,Int.reduceMul,Int.reduceNeg,Int.reducePow,Nat.reducePow,Int.reduceToNat,Nat.reduceSub,List.replicate,Nat.reduceBEq,grpE,beq_true,beq_false,grpC,grpY]))
  all_goals (have hf := h)
  all_goals (repeat (replace h := And.right h))
  all_goals ((first | (refine eA_wk (wk_norm (ks := [0,1,5]) (ls := []) ?_) (eA_cast ?_ (ih _ _ _ h h0 h1))) | (cases h; have h := True.intro; refine h0 _ rfl ?_) | (cases h; have h := True.intro; refine h1 _ rfl (Wk.cast (wk_norm (ks := []) (ls := []) ?_) ?_))) <;> simp only [normOk,optIn,blkIn,nameIn,normS,List.map_append,List.length_append,List.map_set,List.length_set,List.map_replicate,List.length_replicate,List.map_nil,List.map_cons,
   need_iff,h,hf,grpX,purgeH,Option.map,reduceIte,Nat.reduceEqDiff,Nat.reduceAdd,Nat.reduceMul,Nat.reduceLT,Nat.reduceLeDiff,implies_true,forall_const,eq_self,Int.reduceEq,Int.reduceLE,Int.reduceLT,if_true,if_false,grpK,Int.reduceAdd,Int.reduceSub,Int.reduceMul,Int.reduceNeg,Int.reducePow,Nat.reducePow,Int.reduceToNat,Nat.reduceSub,List.replicate,Nat.reduceBEq,grpE,beq_true,beq_false,grpC,grpY] <;> first | rfl | (simp only [Nat.add_comm]; done))
theorem s22 : ∀ vs r,g_laws_eqInt64S vs = some r → SaysM Try.prog .any 22 vs r := by
 intro vs r h
 unfold g_laws_eqInt64S at h
 split at h
 ·rename_i w0 w1
  cases hd_y0 : decL dI64 w0 with
  | none => rw [hd_y0] at h; cases h
  | some y0 =>
  rw [hd_y0] at h
  obtain rfl := decL_inv dI64_inv hd_y0
  clear hd_y0
  dsimp only at h
  cases hd_y1 : decL dI64 w1 with
  | none => rw [hd_y1] at h; cases h
  | some y1 =>
  rw [hd_y1] at h
  obtain rfl := decL_inv dI64_inv hd_y1
  clear hd_y1
  dsimp only at h
  split at h
  ·rename_i hp
   cases h
   refine spec_of (m := .any) (tab := tabOf []) (cp := cp22) (ic := ic22) (rvl := [(.t 4)]) hm tabOk_nil Try.func22 rfl rfl rfl (by kernel_rfl) rfl (Nat.le_of_ble_eq_true rfl) (Nat.le_of_ble_eq_true rfl) ?_
   show eA _ _ _ _
   unfold ic22
   simp only [p_laws_eqInt64S,Bool.and_eq_true,Bool.or_eq_true,decide_eq_true_eq,Bool.not_eq_true',decide_eq_false_iff_not] at hp
   refine eS_to ?_
   repeat' (first
    | ((first | (have h := True.intro; refine eS_of ?_) | (refine eGI_of (fun h => ?_) (fun h => ?_)) | (refine eCc_of (fun h => ?_) (fun h => ?_)) | (have h := True.intro; refine KW_refl ?_)) <;> (try simp only [Bool.not_eq_true',Bool.not_eq_false'] at h) <;> (try first | exact nbA h (by assumption) | exact nbB h (by assumption)) <;> (try simp only [h,reduceCtorEq,grpN,Int.reduceEq,Int.reduceLT,Int.reduceLE,if_true,if_false,reduceIte] at hp) <;> (first | (have h2 := h; simp only [decide_eq_true_eq,decide_eq_false_iff_not] at h2; (first | (replace h2 := eq_false h2) | (replace h2 := eq_true h2)); (try simp only [h2,reduceCtorEq,grpN,Int.reduceEq,Int.reduceLT,Int.reduceLE,if_true,if_false,reduceIte] at hp); replace hp := And.intro h2 hp) | (replace hp := And.intro h hp) | skip) <;> simp only [h,
     hp,grpX,purgeH,Option.map,reduceIte,Nat.reduceEqDiff,Nat.reduceAdd,Nat.reduceMul,Nat.reduceLT,Nat.reduceLeDiff,implies_true,forall_const,eq_self,Int.reduceEq,Int.reduceLE,Int.reduceLT,if_true,if_false,grpK,Int.reduceAdd,Int.reduceSub,Int.reduceMul,Int.reduceNeg,Int.reducePow,Nat.reducePow,Int.reduceToNat,Nat.reduceSub,List.replicate,Nat.reduceBEq,grpE,beq_true,beq_false,grpC,grpY])
    | (refine eA_wk (wk_norm (ks := [0,1,5]) (ls := []) ?_) (eA_cast ?_ (sl22_0 y0 y1 _ _ _ _ (getD_some (d := default) (x := (l_laws_eqInt64S_0 y0 y1 (Int.toNat (((List.length y0 : Nat) : Int) - 0) + 2) 0)) ?_) ?_ ?_)); (iterate 2 (simp only [nilS,nilV,nilB,normOk,optIn,blkIn,nameIn,normS,List.map_append,List.length_append,List.map_set,List.length_set,List.map_replicate,List.length_replicate,List.map_nil,List.map_cons,
     hp,grpX,purgeH,Option.map,reduceIte,Nat.reduceEqDiff,Nat.reduceAdd,Nat.reduceMul,Nat.reduceLT,Nat.reduceLeDiff,implies_true,forall_const,eq_self,Int.reduceEq,Int.reduceLE,Int.reduceLT,if_true,if_false,grpK,Int.reduceAdd,Int.reduceSub,Int.reduceMul,Int.reduceNeg,Int.reducePow,Nat.reducePow,Int.reduceToNat,Nat.reduceSub,List.replicate,Nat.reduceBEq,grpE,beq_true,beq_false,grpC,grpY] <;> first | rfl | (simp only [Nat.add_comm]; done))); (simp only [hp]); (
    intro st2 ht hw; simp only [Kq_ret,Kb_ret,Kl_ret,ret_ok]; first | exact h0 _ hw | exact h0 _ rfl hw | exact h1 _ rfl hw | exact h0 _ ht hw | exact h1 _ ht hw | (simp only [ht,need_iff,reduceCtorEq,grpN,Int.reduceEq,Int.reduceLT,Int.reduceLE,if_true,if_false,reduceIte] at h; (repeat (replace h := And.right h)); cases h; first | exact h0 _ hw | exact h0 _ rfl hw | exact h1 _ rfl hw) | refine ⟨_,hw,?_⟩); rotate_left; (
    intro st2 ht hw; (try simp only [ht,reduceCtorEq,grpN,Int.reduceEq,Int.reduceLT,Int.reduceLE,if_true,if_false,reduceIte] at hp); (try replace hp := And.intro ht hp); simp only [
Kq_exit,Kq_normal,Kq_ret,Kb_exit,Kb_normal,Kb_ret,Kl_exit,Kl_normal,Kl_ret,reduceIte,Nat.reduceEqDiff,if_true,if_false,eq_self]; refine KW_of hw ?_; simp only [ht,
     hp,grpX,purgeH,Option.map,reduceIte,Nat.reduceEqDiff,Nat.reduceAdd,Nat.reduceMul,Nat.reduceLT,Nat.reduceLeDiff,implies_true,forall_const,eq_self,Int.reduceEq,Int.reduceLE,Int.reduceLT,if_true,if_false,grpK,Int.reduceAdd,Int.reduceSub,Int.reduceMul,Int.reduceNeg,Int.reducePow,Nat.reducePow,Int.reduceToNat,Nat.reduceSub,List.replicate,Nat.reduceBEq,grpE,beq_true,beq_false,grpC,grpY])))
   all_goals (try simp only [*,m_laws_eqInt64S,grpZ,if_true,if_false,reduceIte,decide_true,decide_false])
   all_goals (try (simp_all; done))
  ·cases h
 ·cases h
def m_laws_sameFloat (x0 : Nat) (x1 : Nat) : Bool := (if (feq .f64 x0 x0) = true then (if (feq .f64 x1 x1) = true then (if (feq .f64 x0 0) = true then (if (feq .f64 x1 0) = true then ((flt .f64 0 (fdiv .f64 4607182418800017408 x0)) == (flt .f64 0 (fdiv .f64 4607182418800017408 x1))) else (feq .f64 x0 x1)) else (feq .f64 x0 x1)) else false) else (!(feq .f64 x1 x1)))
def g_laws_sameFloat : List AV → Option AV
 | [.flt .f64 y0,.flt .f64 y1] => some (.bool (m_laws_sameFloat y0 y1))
 | _ => none
def ic57 : ICode := (.seq (.reg [⟨some 4,none,.mov (.c (.bool false))⟩] [0,1]) (.seq (.seq (.reg [⟨some 5,none,.mov (.t 0)⟩,⟨some 6,none,.mov (.t 0)⟩,⟨some 7,none,.bin .neq false (.t 5) (.t 6)⟩,⟨some 8,none,.mov (.t 7)⟩,⟨(some 9),(some (8,false)),(.mov (.t 1))⟩,⟨(some 10),(some (8,false)),(.mov (.t 1))⟩,⟨(some 11),(some (8,false)),(.bin .neq false (.t 9) (.t 10))⟩,⟨some 12,none,.pick (.t 8) (.c (.bool true)) (.t 11)⟩] [0,1,12]) (.cond (.t 12) (.seq (.reg [⟨some 13,none,.mov (.t 0)⟩,⟨some 14,none,.mov (.t 0)⟩,⟨some 15,none,.bin .neq false (.t 13) (.t 14)⟩,⟨some 16,none,.mov (.t 15)⟩,⟨(some 17),(some (16,true)),(.mov (.t 1))⟩,⟨(some 18),(some (16,true)),(.mov (.t 1))⟩,⟨(some 19),(some (16,true)),(.bin .neq false (.t 17) (.t 18))⟩,⟨some 20,none,.pick (.t 16) (.t 19) (.c (.bool false))⟩,⟨some 4,none,.mov (.t 20)⟩] [4]) .ret) .skip)) (.seq (.seq (.reg [⟨some 21,none,.mov (.t 0)⟩,⟨some 22,none,.bin .eql false (.t 21) (.c (.flt .f64 0))⟩,⟨some 23,none,.mov (.t 22)⟩,⟨(some 24),(some (23,true)),(.mov (.t 1))⟩,⟨(some 25),(some (23,true)),(.bin .eql false (.t 24) (.c (.flt .f64 0)))⟩,⟨some 26,none,.pick (.t 23) (.t 25) (.c (.bool false))⟩] [0,1,26]) (.cond (.t 26) (.seq (.reg [⟨some 27,none,.mov (.t 0)⟩,⟨some 28,none,.bin .quo false (.c (.flt .f64 4607182418800017408)) (.t 27)⟩,⟨some 29,none,.bin .gtr false (.t 28) (.c (.flt .f64 0))⟩,⟨some 30,none,.mov (.t 1)⟩,⟨some 31,none,.bin .quo false (.c (.flt .f64 4607182418800017408)) (.t 30)⟩,⟨some 32,none,.bin .gtr false (.t 31) (.c (.flt .f64 0))⟩,⟨some 33,none,.bin .eql true (.t 29) (.t 32)⟩,⟨some 4,none,.mov (.t 33)⟩] [4]) .ret) .skip)) (.seq (.reg [⟨some 34,none,.mov (.t 0)⟩,⟨some 35,none,.mov (.t 1)⟩,⟨some 36,none,.bin .eql false (.t 34) (.t 35)⟩,⟨some 4,none,.mov (.t 36)⟩] [4]) .ret))))
def cp57 : CP := CP.mk [] [] [[0,1],[0,1,12],[4],[0,1,26],[4],[4]] 37 [] []
theorem s57 : ∀ vs r,g_laws_sameFloat vs = some r → SaysM Try.prog .any 57 vs r := by
 intro vs r h
 unfold g_laws_sameFloat at h
 split at h
 ·rename_i y0 y1
  cases h
  refine spec_of (m := .any) (tab := tabOf []) (cp := cp57) (ic := ic57) (rvl := [(.t 4)]) hm tabOk_nil Try.func57 rfl rfl rfl (by kernel_rfl) rfl (Nat.le_of_ble_eq_true rfl) (Nat.le_of_ble_eq_true rfl) ?_
  show eA _ _ _ _
  unfold ic57
  refine eS_to ?_
  repeat' (first
   | ((first | (have h := True.intro; refine eS_of ?_) | (refine eGI_of (fun h => ?_) (fun h => ?_)) | (refine eCc_of (fun h => ?_) (fun h => ?_)) | (refine ePk_of (fun h => ?_) (fun h => ?_))) <;> (try simp only [Bool.not_eq_true',Bool.not_eq_false'] at h) <;> (try first | exact nbA h (by assumption) | exact nbB h (by assumption)) <;> simp only [h,
    grpX,purgeH,Option.map,reduceIte,Nat.reduceEqDiff,Nat.reduceAdd,Nat.reduceMul,Nat.reduceLT,Nat.reduceLeDiff,implies_true,forall_const,eq_self,Int.reduceEq,Int.reduceLE,Int.reduceLT,if_true,if_false,grpK,Int.reduceAdd,Int.reduceSub,Int.reduceMul,Int.reduceNeg,Int.reducePow,Nat.reducePow,Int.reduceToNat,Nat.reduceSub,List.replicate,Nat.reduceBEq,grpE,beq_true,beq_false,grpC,grpY,↓b_pick,ePk_true,ePk_false]))
  all_goals (try simp only [*,m_laws_sameFloat,grpZ,if_true,if_false,reduceIte,decide_true,decide_false])
  all_goals (try (simp_all; done))
 ·cases h
def m_laws_eqTurn (x0 : (Nat × Nat × Nat × Nat)) (x1 : (Nat × Nat × Nat × Nat)) : Bool := (if (m_laws_sameFloat (widen x0.1) (widen x1.1)) = true then (if (m_laws_sameFloat (widen x0.2.1) (widen x1.2.1)) = true then (if (m_laws_sameFloat (widen x0.2.2.1) (widen x1.2.2.1)) = true then (if (m_laws_sameFloat (widen x0.2.2.2) (widen x1.2.2.2)) = true then true else false) else false) else false) else false)
def g_laws_eqTurn : List AV → Option AV
 | [.agg [.flt .f32 y0,.flt .f32 y1,.flt .f32 y2,.flt .f32 y3],.agg [.flt .f32 y4,.flt .f32 y5,.flt .f32 y6,.flt .f32 y7]] => some (.bool (m_laws_eqTurn (y0,y1,y2,y3) (y4,y5,y6,y7)))
 | _ => none
def ic58 : ICode := (.seq (.reg [⟨some 2,none,.box 4 (.t 0)⟩,⟨some 3,none,.box 4 (.t 1)⟩,⟨some 4,none,.mov (.c (.bool false))⟩] [2,3]) (.seq (.seq (.reg [⟨some 5,none,.faddr 0 (.t 2)⟩,⟨some 6,none,.load none (.t 5)⟩,⟨some 7,none,.conv (.flt .f64) (.t 6)⟩,⟨some 8,none,.faddr 0 (.t 3)⟩,⟨some 9,none,.load none (.t 8)⟩,⟨some 10,none,.conv (.flt .f64) (.t 9)⟩,⟨some 11,none,.call (.fn 57) [(.t 7),(.t 10)] []⟩,⟨some 12,none,.un .not (.t 11)⟩] [2,3,12]) (.cond (.t 12) (.seq (.reg [⟨some 4,none,.mov (.c (.bool false))⟩] [4]) .ret) .skip)) (.seq (.seq (.reg [⟨some 13,none,.faddr 1 (.t 2)⟩,⟨some 14,none,.load none (.t 13)⟩,⟨some 15,none,.conv (.flt .f64) (.t 14)⟩,⟨some 16,none,.faddr 1 (.t 3)⟩,⟨some 17,none,.load none (.t 16)⟩,⟨some 18,none,.conv (.flt .f64) (.t 17)⟩,⟨some 19,none,.call (.fn 57) [(.t 15),(.t 18)] []⟩,⟨some 20,none,.un .not (.t 19)⟩] [2,3,20]) (.cond (.t 20) (.seq (.reg [⟨some 4,none,.mov (.c (.bool false))⟩] [4]) .ret) .skip)) (.seq (.seq (.reg [⟨some 21,none,.faddr 2 (.t 2)⟩,⟨some 22,none,.load none (.t 21)⟩,⟨some 23,none,.conv (.flt .f64) (.t 22)⟩,⟨some 24,none,.faddr 2 (.t 3)⟩,⟨some 25,none,.load none (.t 24)⟩,⟨some 26,none,.conv (.flt .f64) (.t 25)⟩,⟨some 27,none,.call (.fn 57) [(.t 23),(.t 26)] []⟩,⟨some 28,none,.un .not (.t 27)⟩] [2,3,28]) (.cond (.t 28) (.seq (.reg [⟨some 4,none,.mov (.c (.bool false))⟩] [4]) .ret) .skip)) (.seq (.seq (.reg [⟨some 29,none,.faddr 3 (.t 2)⟩,⟨some 30,none,.load none (.t 29)⟩,⟨some 31,none,.conv (.flt .f64) (.t 30)⟩,⟨some 32,none,.faddr 3 (.t 3)⟩,⟨some 33,none,.load none (.t 32)⟩,⟨some 34,none,.conv (.flt .f64) (.t 33)⟩,⟨some 35,none,.call (.fn 57) [(.t 31),(.t 34)] []⟩,⟨some 36,none,.un .not (.t 35)⟩] [36]) (.cond (.t 36) (.seq (.reg [⟨some 4,none,.mov (.c (.bool false))⟩] [4]) .ret) .skip)) (.seq (.reg [⟨some 4,none,.mov (.c (.bool true))⟩] [4]) .ret))))))
def cp58 : CP := CP.mk [] [] [[2,3],[2,3,12],[4],[2,3,20],[4],[2,3,28],[4],[36],[4],[4]] 37 [] []
theorem s58 : ∀ vs r,g_laws_eqTurn vs = some r → SaysM Try.prog .any 58 vs r := by
 intro vs r h
 unfold g_laws_eqTurn at h
 split at h
 ·rename_i y0 y1 y2 y3 y4 y5 y6 y7
  cases h
  refine spec_of (m := .any) (tab := tabOf [(57,wM .any g_laws_sameFloat)]) (cp := cp58) (ic := ic58) (rvl := [(.t 4)]) hm (tabOk_cons (m := .any) s57 tabOk_nil) Try.func58 rfl rfl rfl (by kernel_rfl) rfl (Nat.le_of_ble_eq_true rfl) (Nat.le_of_ble_eq_true rfl) ?_
  show eA _ _ _ _
  unfold ic58
  refine eS_to ?_
  repeat' (first
   | ((first | (have h := True.intro; refine eS_of ?_) | (refine eGI_of (fun h => ?_) (fun h => ?_)) | (refine eCc_of (fun h => ?_) (fun h => ?_))) <;> (try simp only [Bool.not_eq_true',Bool.not_eq_false'] at h) <;> (try first | exact nbA h (by assumption) | exact nbB h (by assumption)) <;> simp only [h,
    grpX,purgeH,Option.map,reduceIte,Nat.reduceEqDiff,Nat.reduceAdd,Nat.reduceMul,Nat.reduceLT,Nat.reduceLeDiff,implies_true,forall_const,eq_self,Int.reduceEq,Int.reduceLE,Int.reduceLT,if_true,if_false,grpK,Int.reduceAdd,Int.reduceSub,Int.reduceMul,Int.reduceNeg,Int.reducePow,Nat.reducePow,Int.reduceToNat,Nat.reduceSub,List.replicate,Nat.reduceBEq,grpE,beq_true,beq_false,g_laws_sameFloat,grpC,grpY]))
  all_goals (try simp only [*,m_laws_eqTurn,grpZ,if_true,if_false,reduceIte,decide_true,decide_false])
  all_goals (try (simp_all; done))
 ·cases h
def m_laws_eqKey (x0 : (Int × Nat × Nat × Nat × Nat)) (x1 : (Int × Nat × Nat × Nat × Nat)) : Bool := (if (decide (x0.1 = x1.1)) = true then (if (m_laws_eqTurn x0.2 x1.2) = true then true else false) else false)
def g_laws_eqKey : List AV → Option AV
 | [.agg [.int .i64 y0,.flt .f32 y1,.flt .f32 y2,.flt .f32 y3,.flt .f32 y4],.agg [.int .i64 y5,.flt .f32 y6,.flt .f32 y7,.flt .f32 y8,.flt .f32 y9]] => some (.bool (m_laws_eqKey (y0,y1,y2,y3,y4) (y5,y6,y7,y8,y9)))
 | _ => none
def ic79 : ICode := (.seq (.reg [⟨some 2,none,.box 5 (.t 0)⟩,⟨some 3,none,.box 5 (.t 1)⟩,⟨some 4,none,.mov (.c (.bool false))⟩] [2,3]) (.seq (.seq (.reg [⟨some 5,none,.faddr 0 (.t 2)⟩,⟨some 6,none,.load none (.t 5)⟩,⟨some 7,none,.faddr 0 (.t 3)⟩,⟨some 8,none,.load none (.t 7)⟩,⟨some 9,none,.bin .neq false (.t 6) (.t 8)⟩] [2,3,9]) (.cond (.t 9) (.seq (.reg [⟨some 4,none,.mov (.c (.bool false))⟩] [4]) .ret) .skip)) (.seq (.seq (.reg [⟨some 10,none,.faddr 1 (.t 2)⟩,⟨some 11,none,.load (some 4) (.t 10)⟩,⟨some 12,none,.faddr 1 (.t 3)⟩,⟨some 13,none,.load (some 4) (.t 12)⟩,⟨some 14,none,.call (.fn 58) [(.t 11),(.t 13)] []⟩,⟨some 15,none,.un .not (.t 14)⟩] [15]) (.cond (.t 15) (.seq (.reg [⟨some 4,none,.mov (.c (.bool false))⟩] [4]) .ret) .skip)) (.seq (.reg [⟨some 4,none,.mov (.c (.bool true))⟩] [4]) .ret))))
def cp79 : CP := CP.mk [] [] [[2,3],[2,3,9],[4],[15],[4],[4]] 16 [] []
theorem s79 : ∀ vs r,g_laws_eqKey vs = some r → SaysM Try.prog .any 79 vs r := by
 intro vs r h
 unfold g_laws_eqKey at h
 split at h
 ·rename_i y0 y1 y2 y3 y4 y5 y6 y7 y8 y9
  cases h
  refine spec_of (m := .any) (tab := tabOf [(58,wM .any g_laws_eqTurn)]) (cp := cp79) (ic := ic79) (rvl := [(.t 4)]) hm (tabOk_cons (m := .any) s58 tabOk_nil) Try.func79 rfl rfl rfl (by kernel_rfl) rfl (Nat.le_of_ble_eq_true rfl) (Nat.le_of_ble_eq_true rfl) ?_
  show eA _ _ _ _
  unfold ic79
  refine eS_to ?_
  repeat' (first
   | ((first | (have h := True.intro; refine eS_of ?_) | (refine eGI_of (fun h => ?_) (fun h => ?_)) | (refine eCc_of (fun h => ?_) (fun h => ?_))) <;> (try simp only [Bool.not_eq_true',Bool.not_eq_false'] at h) <;> (try first | exact nbA h (by assumption) | exact nbB h (by assumption)) <;> simp only [h,
    grpX,purgeH,Option.map,reduceIte,Nat.reduceEqDiff,Nat.reduceAdd,Nat.reduceMul,Nat.reduceLT,Nat.reduceLeDiff,implies_true,forall_const,eq_self,Int.reduceEq,Int.reduceLE,Int.reduceLT,if_true,if_false,grpK,Int.reduceAdd,Int.reduceSub,Int.reduceMul,Int.reduceNeg,Int.reducePow,Nat.reducePow,Int.reduceToNat,Nat.reduceSub,List.replicate,Nat.reduceBEq,grpE,beq_true,beq_false,g_laws_eqTurn,grpC,grpY]))
  all_goals (try simp only [*,m_laws_eqKey,grpZ,if_true,if_false,reduceIte,decide_true,decide_false])
  all_goals (try (simp_all; done))
 ·cases h
def l_laws_eqKeyS_0 (x0 : (List (Int × Nat × Nat × Nat × Nat))) (x1 : (List (Int × Nat × Nat × Nat × Nat))) : Nat → Int → Option (Bool × Bool × Unit)
 | 0,_ => none
 | n + 1,z0_0 => (if (decide (z0_0 < ((List.length x0 : Nat) : Int))) = true then (need (inB z0_0 (List.length x0)) (need (inB z0_0 (List.length x1)) (if (m_laws_eqKey (atI x0 z0_0) (atI x1 z0_0)) = true then (l_laws_eqKeyS_0 x0 x1 n (IntKind.wrap .i64 (z0_0 + 1))) else (some (true,false,default))))) else (some (false,default,())))
def m_laws_eqKeyS (x0 : (List (Int × Nat × Nat × Nat × Nat))) (x1 : (List (Int × Nat × Nat × Nat × Nat))) : Bool := (if (decide (((List.length x0 : Nat) : Int) = ((List.length x1 : Nat) : Int))) = true then (if (Option.getD (l_laws_eqKeyS_0 x0 x1 (Int.toNat (((List.length x0 : Nat) : Int) - 0) + 2) 0) default).1 = true then (Option.getD (l_laws_eqKeyS_0 x0 x1 (Int.toNat (((List.length x0 : Nat) : Int) - 0) + 2) 0) default).2.1 else true) else false)
def p_laws_eqKeyS (x0 : (List (Int × Nat × Nat × Nat × Nat))) (x1 : (List (Int × Nat × Nat × Nat × Nat))) : Bool := (!(decide (((List.length x0 : Nat) : Int) = ((List.length x1 : Nat) : Int))) || (Option.isSome (l_laws_eqKeyS_0 x0 x1 (Int.toNat (((List.length x0 : Nat) : Int) - 0) + 2) 0)))
def g_laws_eqKeyS : List AV → Option AV
 | [.sl w0,.sl w1] => (match decL dc_en0 w0 with | some y0 => ((match decL dc_en0 w1 with | some y1 => (if p_laws_eqKeyS y0 y1 = true then some (.bool (m_laws_eqKeyS y0 y1)) else none) | none => none)) | none => none)
 | _ => none
def lb59_0 : ICode := (.seq (.seq (.reg [⟨some 11,none,.mov (.t 5)⟩,⟨some 12,none,.mov (.t 0)⟩,⟨some 13,none,.len false (.t 12)⟩,⟨some 14,none,.bin .lss false (.t 11) (.t 13)⟩] [0,1,5,14]) (.cond (.t 14) .skip (.exit 0))) (.seq (.block 1 (.seq (.reg [⟨some 17,none,.mov (.t 0)⟩,⟨some 18,none,.mov (.t 5)⟩,⟨some 19,none,.iaddrS 5 (.t 17) (.t 18)⟩,⟨some 20,none,.load (some 5) (.t 19)⟩,⟨some 21,none,.mov (.t 1)⟩,⟨some 22,none,.mov (.t 5)⟩,⟨some 23,none,.iaddrS 5 (.t 21) (.t 22)⟩,⟨some 24,none,.load (some 5) (.t 23)⟩,⟨some 25,none,.call (.fn 79) [(.t 20),(.t 24)] []⟩,⟨some 26,none,.un .not (.t 25)⟩] [0,1,5,26]) (.cond (.t 26) (.seq (.reg [⟨some 4,none,.mov (.c (.bool false))⟩] [4]) .ret) .skip))) (.reg [⟨some 15,none,.mov (.t 5)⟩,⟨some 16,none,.bin .add false (.t 15) (.c (.int .i64 1))⟩,⟨some 5,none,.mov (.t 16)⟩] [0,1,5])))
def ic59 : ICode := (.seq (.reg [⟨some 4,none,.mov (.c (.bool false))⟩] [0,1]) (.seq (.seq (.reg [⟨some 6,none,.mov (.t 0)⟩,⟨some 7,none,.len false (.t 6)⟩,⟨some 8,none,.mov (.t 1)⟩,⟨some 9,none,.len false (.t 8)⟩,⟨some 10,none,.bin .neq false (.t 7) (.t 9)⟩] [0,1,10]) (.cond (.t 10) (.seq (.reg [⟨some 4,none,.mov (.c (.bool false))⟩] [4]) .ret) .skip)) (.seq (.seq (.reg [⟨some 5,none,.mov (.c (.int .i64 0))⟩] [0,1,5]) (.block 0 (.loop lb59_0))) (.seq (.reg [⟨some 4,none,.mov (.c (.bool true))⟩] [4]) .ret))))
def cp59 : CP := CP.mk [] [] [[0,1],[0,1,10],[4],[0,1,5],[0,1,5,14],[0,1,5],[0,1,5,26],[4],[4]] 27 [] []
theorem sl59_0 (x0 : (List (Int × Nat × Nat × Nat × Nat))) (x1 : (List (Int × Nat × Nat × Nat × Nat))) : ∀ (n : Nat) (z0_0 : Int) (o : (Bool × Bool × Unit)) (K : IExit → St → Prop),l_laws_eqKeyS_0 x0 x1 n z0_0 = some o → (∀ st,o.1 = true → outM .any st [(.t 4)] = some (.bool o.2.1) → K .ret st) → (∀ st,o.1 = false → Wk st (⟨[],[]⟩ : St) → K (.exit 0) st) → eA (tabOf [(79,wM .any g_laws_eqKey)]) (.loop lb59_0) (⟨[(0,(.sl (List.map en0 x0))),(1,(.sl (List.map en0 x1))),(5,(.int .i64 z0_0))],[]⟩ : St) K := by
 intro n
 induction n with
 | zero =>
  intro z0_0 o K h h0 h1
  simp only [l_laws_eqKeyS_0,reduceCtorEq] at h
 | succ n ih =>
  intro z0_0 o K h h0 h1
  refine eA_loop ?_
  unfold lb59_0
  unfold l_laws_eqKeyS_0 at h
  (try simp only [need_iff] at h)
  simp only [
   need_iff,h,grpX,purgeH,Option.map,reduceIte,Nat.reduceEqDiff,Nat.reduceAdd,Nat.reduceMul,Nat.reduceLT,Nat.reduceLeDiff,implies_true,forall_const,eq_self,Int.reduceEq,Int.reduceLE,Int.reduceLT,if_true,if_false,grpK,Int.reduceAdd,Int.reduceSub,Int.reduceMul,Int.reduceNeg,Int.reducePow,Nat.reducePow,Int.reduceToNat,Nat.reduceSub,List.replicate,Nat.reduceBEq,grpE,beq_true,beq_false,g_laws_eqKey,grpC,grpY]
  repeat' (first
   | ((first | (refine eGI_of (fun hc => ?_) (fun hc => ?_)) | (refine eCc_of (fun hc => ?_) (fun hc => ?_)) | (have hc := True.intro; refine KW_refl ?_)) <;> (try simp only [Bool.not_eq_true',Bool.not_eq_false'] at hc) <;> (try simp only [hc,need_iff,reduceCtorEq,grpN,Int.reduceEq,Int.reduceLT,Int.reduceLE,if_true,if_false,reduceIte] at h) <;> (first | (have hc2 := hc; simp only [decide_eq_true_eq,decide_eq_false_iff_not] at hc2; (first | (replace hc2 := eq_false hc2) | (replace hc2 := eq_true hc2)); (try simp only [hc2,need_iff,reduceCtorEq,grpN,Int.reduceEq,Int.reduceLT,Int.reduceLE,if_true,if_false,reduceIte] at h); replace h := And.intro hc2 h) | (replace h := And.intro hc h) | skip) <;> simp only [hc,
   need_iff,h,grpX,purgeH,Option.map,reduceIte,Nat.reduceEqDiff,Nat.reduceAdd,Nat.reduceMul,Nat.reduceLT,Nat.reduceLeDiff,implies_true,forall_const,eq_self,Int.reduceEq,Int.reduceLE,Int.reduceLT,if_true,if_false,grpK,Int.reduceAdd,Int.reduceSub,Int.reduceMul,Int.reduceNeg,Int.reducePow,Nat.reducePow,Int.reduceToNat,Nat.reduceSub,List.replicate,Nat.reduceBEq,grpE,beq_true,beq_false,g_laws_eqKey,grpC,grpY]))
  all_goals (have hf := h)
  all_goals (repeat (replace h := And.right h))
  all_goals ((first | (refine eA_wk (wk_norm (ks := [0,1,5]) (ls := []) ?_) (eA_cast ?_ (ih _ _ _ h h0 h1))) | (cases h; have h := True.intro; refine h0 _ rfl ?_) | (cases h; have h := True.intro; refine h1 _ rfl (Wk.cast (wk_norm (ks := []) (ls := []) ?_) ?_))) <;> simp only [normOk,optIn,blkIn,nameIn,normS,List.map_append,List.length_append,List.map_set,List.length_set,List.map_replicate,List.length_replicate,List.map_nil,List.map_cons,
   need_iff,h,hf,grpX,purgeH,Option.map,reduceIte,Nat.reduceEqDiff,Nat.reduceAdd,Nat.reduceMul,Nat.reduceLT,Nat.reduceLeDiff,implies_true,forall_const,eq_self,Int.reduceEq,Int.reduceLE,Int.reduceLT,if_true,if_false,grpK,Int.reduceAdd,Int.reduceSub,Int.reduceMul,Int.reduceNeg,Int.reducePow,Nat.reducePow,Int.reduceToNat,Nat.reduceSub,List.replicate,Nat.reduceBEq,grpE,beq_true,beq_false,g_laws_eqKey,grpC,grpY] <;> first | rfl | (simp only [Nat.add_comm]; done))
theorem s59 : ∀ vs r,g_laws_eqKeyS vs = some r → SaysM Try.prog .any 59 vs r := by
 intro vs r h
 unfold g_laws_eqKeyS at h
 split at h
 ·rename_i w0 w1
  cases hd_y0 : decL dc_en0 w0 with
  | none => rw [hd_y0] at h; cases h
  | some y0 =>
  rw [hd_y0] at h
  obtain rfl := decL_inv dc_en0_inv hd_y0
  clear hd_y0
  dsimp only at h
  cases hd_y1 : decL dc_en0 w1 with
  | none => rw [hd_y1] at h; cases h
  | some y1 =>
  rw [hd_y1] at h
  obtain rfl := decL_inv dc_en0_inv hd_y1
  clear hd_y1
  dsimp only at h
  split at h
  ·rename_i hp
   cases h
   refine spec_of (m := .any) (tab := tabOf [(79,wM .any g_laws_eqKey)]) (cp := cp59) (ic := ic59) (rvl := [(.t 4)]) hm (tabOk_cons (m := .any) s79 tabOk_nil) Try.func59 rfl rfl rfl (by kernel_rfl) rfl (Nat.le_of_ble_eq_true rfl) (Nat.le_of_ble_eq_true rfl) ?_
   show eA _ _ _ _
   unfold ic59
   simp only [p_laws_eqKeyS,Bool.and_eq_true,Bool.or_eq_true,decide_eq_true_eq,Bool.not_eq_true',decide_eq_false_iff_not] at hp
   refine eS_to ?_
   repeat' (first
    | ((first | (have h := True.intro; refine eS_of ?_) | (refine eGI_of (fun h => ?_) (fun h => ?_)) | (refine eCc_of (fun h => ?_) (fun h => ?_)) | (have h := True.intro; refine KW_refl ?_)) <;> (try simp only [Bool.not_eq_true',Bool.not_eq_false'] at h) <;> (try first | exact nbA h (by assumption) | exact nbB h (by assumption)) <;> (try simp only [h,reduceCtorEq,grpN,Int.reduceEq,Int.reduceLT,Int.reduceLE,if_true,if_false,reduceIte] at hp) <;> (first | (have h2 := h; simp only [decide_eq_true_eq,decide_eq_false_iff_not] at h2; (first | (replace h2 := eq_false h2) | (replace h2 := eq_true h2)); (try simp only [h2,reduceCtorEq,grpN,Int.reduceEq,Int.reduceLT,Int.reduceLE,if_true,if_false,reduceIte] at hp); replace hp := And.intro h2 hp) | (replace hp := And.intro h hp) | skip) <;> simp only [h,
     hp,grpX,purgeH,Option.map,reduceIte,Nat.reduceEqDiff,Nat.reduceAdd,Nat.reduceMul,Nat.reduceLT,Nat.reduceLeDiff,implies_true,forall_const,eq_self,Int.reduceEq,Int.reduceLE,Int.reduceLT,if_true,if_false,grpK,Int.reduceAdd,Int.reduceSub,Int.reduceMul,Int.reduceNeg,Int.reducePow,Nat.reducePow,Int.reduceToNat,Nat.reduceSub,List.replicate,Nat.reduceBEq,grpE,beq_true,beq_false,g_laws_eqKey,grpC,grpY])
    | (refine eA_wk (wk_norm (ks := [0,1,5]) (ls := []) ?_) (eA_cast ?_ (sl59_0 y0 y1 _ _ _ _ (getD_some (d := default) (x := (l_laws_eqKeyS_0 y0 y1 (Int.toNat (((List.length y0 : Nat) : Int) - 0) + 2) 0)) ?_) ?_ ?_)); (iterate 2 (simp only [nilS,nilV,nilB,normOk,optIn,blkIn,nameIn,normS,List.map_append,List.length_append,List.map_set,List.length_set,List.map_replicate,List.length_replicate,List.map_nil,List.map_cons,
     hp,grpX,purgeH,Option.map,reduceIte,Nat.reduceEqDiff,Nat.reduceAdd,Nat.reduceMul,Nat.reduceLT,Nat.reduceLeDiff,implies_true,forall_const,eq_self,Int.reduceEq,Int.reduceLE,Int.reduceLT,if_true,if_false,grpK,Int.reduceAdd,Int.reduceSub,Int.reduceMul,Int.reduceNeg,Int.reducePow,Nat.reducePow,Int.reduceToNat,Nat.reduceSub,List.replicate,Nat.reduceBEq,grpE,beq_true,beq_false,g_laws_eqKey,grpC,grpY] <;> first | rfl | (simp only [Nat.add_comm]; done))); (simp only [hp]); (
    intro st2 ht hw; simp only [Kq_ret,Kb_ret,Kl_ret,ret_ok]; first | exact h0 _ hw | exact h0 _ rfl hw | exact h1 _ rfl hw | exact h0 _ ht hw | exact h1 _ ht hw | (simp only [ht,need_iff,reduceCtorEq,grpN,Int.reduceEq,Int.reduceLT,Int.reduceLE,if_true,if_false,reduceIte] at h; (repeat (replace h := And.right h)); cases h; first | exact h0 _ hw | exact h0 _ rfl hw | exact h1 _ rfl hw) | refine ⟨_,hw,?_⟩); rotate_left; (
    intro st2 ht hw; (try simp only [ht,reduceCtorEq,grpN,Int.reduceEq,Int.reduceLT,Int.reduceLE,if_true,if_false,reduceIte] at hp); (try replace hp := And.intro ht hp); simp only [
Kq_exit,Kq_normal,Kq_ret,Kb_exit,Kb_normal,Kb_ret,Kl_exit,Kl_normal,Kl_ret,reduceIte,Nat.reduceEqDiff,if_true,if_false,eq_self]; refine KW_of hw ?_; simp only [ht,
     hp,grpX,purgeH,Option.map,reduceIte,Nat.reduceEqDiff,Nat.reduceAdd,Nat.reduceMul,Nat.reduceLT,Nat.reduceLeDiff,implies_true,forall_const,eq_self,Int.reduceEq,Int.reduceLE,Int.reduceLT,if_true,if_false,grpK,Int.reduceAdd,Int.reduceSub,Int.reduceMul,Int.reduceNeg,Int.reducePow,Nat.reducePow,Int.reduceToNat,Nat.reduceSub,List.replicate,Nat.reduceBEq,grpE,beq_true,beq_false,g_laws_eqKey,grpC,grpY])))
   all_goals (try simp only [*,m_laws_eqKeyS,grpZ,if_true,if_false,reduceIte,decide_true,decide_false])
   all_goals (try (simp_all; done))
  ·cases h
 ·cases h
def l_laws_eqKeySS_0 (x0 : (List (List (Int × Nat × Nat × Nat × Nat)))) (x1 : (List (List (Int × Nat × Nat × Nat × Nat)))) : Nat → Int → Option (Bool × Bool × Unit)
 | 0,_ => none
 | n + 1,z0_0 => (if (decide (z0_0 < ((List.length x0 : Nat) : Int))) = true then (need (inB z0_0 (List.length x0)) (need (inB z0_0 (List.length x1)) (need (p_laws_eqKeyS (atI x0 z0_0) (atI x1 z0_0)) (if (m_laws_eqKeyS (atI x0 z0_0) (atI x1 z0_0)) = true then (l_laws_eqKeySS_0 x0 x1 n (IntKind.wrap .i64 (z0_0 + 1))) else (some (true,false,default)))))) else (some (false,default,())))
def m_laws_eqKeySS (x0 : (List (List (Int × Nat × Nat × Nat × Nat)))) (x1 : (List (List (Int × Nat × Nat × Nat × Nat)))) : Bool := (if (decide (((List.length x0 : Nat) : Int) = ((List.length x1 : Nat) : Int))) = true then (if (Option.getD (l_laws_eqKeySS_0 x0 x1 (Int.toNat (((List.length x0 : Nat) : Int) - 0) + 2) 0) default).1 = true then (Option.getD (l_laws_eqKeySS_0 x0 x1 (Int.toNat (((List.length x0 : Nat) : Int) - 0) + 2) 0) default).2.1 else true) else false)
def p_laws_eqKeySS (x0 : (List (List (Int × Nat × Nat × Nat × Nat)))) (x1 : (List (List (Int × Nat × Nat × Nat × Nat)))) : Bool := (!(decide (((List.length x0 : Nat) : Int) = ((List.length x1 : Nat) : Int))) || (Option.isSome (l_laws_eqKeySS_0 x0 x1 (Int.toNat (((List.length x0 : Nat) : Int) - 0) + 2) 0)))
def g_laws_eqKeySS : List AV → Option AV
 | [.sl w0,.sl w1] => (match decL dc_en1 w0 with | some y0 => ((match decL dc_en1 w1 with | some y1 => (if p_laws_eqKeySS y0 y1 = true then some (.bool (m_laws_eqKeySS y0 y1)) else none) | none => none)) | none => none)
 | _ => none
def lb36_0 : ICode := (.seq (.seq (.reg [⟨some 11,none,.mov (.t 5)⟩,⟨some 12,none,.mov (.t 0)⟩,⟨some 13,none,.len false (.t 12)⟩,⟨some 14,none,.bin .lss false (.t 11) (.t 13)⟩] [0,1,5,14]) (.cond (.t 14) .skip (.exit 0))) (.seq (.block 1 (.seq (.reg [⟨some 17,none,.mov (.t 0)⟩,⟨some 18,none,.mov (.t 5)⟩,⟨some 19,none,.iaddrS 1 (.t 17) (.t 18)⟩,⟨some 20,none,.load none (.t 19)⟩,⟨some 21,none,.mov (.t 1)⟩,⟨some 22,none,.mov (.t 5)⟩,⟨some 23,none,.iaddrS 1 (.t 21) (.t 22)⟩,⟨some 24,none,.load none (.t 23)⟩,⟨some 25,none,.call (.fn 59) [(.t 20),(.t 24)] []⟩,⟨some 26,none,.un .not (.t 25)⟩] [0,1,5,26]) (.cond (.t 26) (.seq (.reg [⟨some 4,none,.mov (.c (.bool false))⟩] [4]) .ret) .skip))) (.reg [⟨some 15,none,.mov (.t 5)⟩,⟨some 16,none,.bin .add false (.t 15) (.c (.int .i64 1))⟩,⟨some 5,none,.mov (.t 16)⟩] [0,1,5])))
def ic36 : ICode := (.seq (.reg [⟨some 4,none,.mov (.c (.bool false))⟩] [0,1]) (.seq (.seq (.reg [⟨some 6,none,.mov (.t 0)⟩,⟨some 7,none,.len false (.t 6)⟩,⟨some 8,none,.mov (.t 1)⟩,⟨some 9,none,.len false (.t 8)⟩,⟨some 10,none,.bin .neq false (.t 7) (.t 9)⟩] [0,1,10]) (.cond (.t 10) (.seq (.reg [⟨some 4,none,.mov (.c (.bool false))⟩] [4]) .ret) .skip)) (.seq (.seq (.reg [⟨some 5,none,.mov (.c (.int .i64 0))⟩] [0,1,5]) (.block 0 (.loop lb36_0))) (.seq (.reg [⟨some 4,none,.mov (.c (.bool true))⟩] [4]) .ret))))
def cp36 : CP := CP.mk [] [] [[0,1],[0,1,10],[4],[0,1,5],[0,1,5,14],[0,1,5],[0,1,5,26],[4],[4]] 27 [] []
theorem sl36_0 (x0 : (List (List (Int × Nat × Nat × Nat × Nat)))) (x1 : (List (List (Int × Nat × Nat × Nat × Nat)))) : ∀ (n : Nat) (z0_0 : Int) (o : (Bool × Bool × Unit)) (K : IExit → St → Prop),l_laws_eqKeySS_0 x0 x1 n z0_0 = some o → (∀ st,o.1 = true → outM .any st [(.t 4)] = some (.bool o.2.1) → K .ret st) → (∀ st,o.1 = false → Wk st (⟨[],[]⟩ : St) → K (.exit 0) st) → eA (tabOf [(59,wM .any g_laws_eqKeyS)]) (.loop lb36_0) (⟨[(0,(.sl (List.map en1 x0))),(1,(.sl (List.map en1 x1))),(5,(.int .i64 z0_0))],[]⟩ : St) K := by
 intro n
 induction n with
 | zero =>
  intro z0_0 o K h h0 h1
  simp only [l_laws_eqKeySS_0,reduceCtorEq] at h
 | succ n ih =>
  intro z0_0 o K h h0 h1
  refine eA_loop ?_
  unfold lb36_0
  unfold l_laws_eqKeySS_0 at h
  (try simp only [need_iff] at h)
  simp only [
   need_iff,h,grpX,purgeH,Option.map,reduceIte,Nat.reduceEqDiff,Nat.reduceAdd,Nat.reduceMul,Nat.reduceLT,Nat.reduceLeDiff,implies_true,forall_const,eq_self,Int.reduceEq,Int.reduceLE,Int.reduceLT,if_true,if_false,grpK,Int.reduceAdd,Int.reduceSub,Int.reduceMul,Int.reduceNeg,Int.reducePow,Nat.reducePow,Int.reduceToNat,Nat.reduceSub,List.replicate,Nat.reduceBEq,grpE,beq_true,beq_false,g_laws_eqKeyS,grpC,grpY]
  repeat' (first
   | ((first | (refine eGI_of (fun hc => ?_) (fun hc => ?_)) | (refine eCc_of (fun hc => ?_) (fun hc => ?_)) | (have hc := True.intro; refine KW_refl ?_)) <;> (try simp only [Bool.not_eq_true',Bool.not_eq_false'] at hc) <;> (try simp only [hc,need_iff,reduceCtorEq,grpN,Int.reduceEq,Int.reduceLT,Int.reduceLE,if_true,if_false,reduceIte] at h) <;> (first | (have hc2 := hc; simp only [decide_eq_true_eq,decide_eq_false_iff_not] at hc2; (first | (replace hc2 := eq_false hc2) | (replace hc2 := eq_true hc2)); (try simp only [hc2,need_iff,reduceCtorEq,grpN,Int.reduceEq,Int.reduceLT,Int.reduceLE,if_true,if_false,reduceIte] at h); replace h := And.intro hc2 h) | (replace h := And.intro hc h) | skip) <;> simp only [hc,
   need_iff,h,grpX,purgeH,Option.map,reduceIte,Nat.reduceEqDiff,Nat.reduceAdd,Nat.reduceMul,Nat.reduceLT,Nat.reduceLeDiff,implies_true,forall_const,eq_self,Int.reduceEq,Int.reduceLE,Int.reduceLT,if_true,if_false,grpK,Int.reduceAdd,Int.reduceSub,Int.reduceMul,Int.reduceNeg,Int.reducePow,Nat.reducePow,Int.reduceToNat,Nat.reduceSub,List.replicate,Nat.reduceBEq,grpE,beq_true,beq_false,g_laws_eqKeyS,grpC,grpY]))
  all_goals (have hf := h)
  all_goals (repeat (replace h := And.right h))
  all_goals ((first | (refine eA_wk (wk_norm (ks := [0,1,5]) (ls := []) ?_) (eA_cast ?_ (ih _ _ _ h h0 h1))) | (cases h; have h := True.intro; refine h0 _ rfl ?_) | (cases h; have h := True.intro; refine h1 _ rfl (Wk.cast (wk_norm (ks := []) (ls := []) ?_) ?_))) <;> simp only [normOk,optIn,blkIn,nameIn,normS,List.map_append,List.length_append,List.map_set,List.length_set,List.map_replicate,List.length_replicate,List.map_nil,List.map_cons,
   need_iff,h,hf,grpX,purgeH,Option.map,reduceIte,Nat.reduceEqDiff,Nat.reduceAdd,Nat.reduceMul,Nat.reduceLT,Nat.reduceLeDiff,implies_true,forall_const,eq_self,Int.reduceEq,Int.reduceLE,Int.reduceLT,if_true,if_false,grpK,Int.reduceAdd,Int.reduceSub,Int.reduceMul,Int.reduceNeg,Int.reducePow,Nat.reducePow,Int.reduceToNat,Nat.reduceSub,List.replicate,Nat.reduceBEq,grpE,beq_true,beq_false,g_laws_eqKeyS,grpC,grpY] <;> first | rfl | (simp only [Nat.add_comm]; done))
end Go.Proofs
