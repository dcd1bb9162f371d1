/- What functions that FnExactBoxOfPlaces reaches compute, and that the program's and the reference's answers are the same. No conditions. -/
import Derived.Test.YtpoghajdcdfhbabFwF
import Derived.Test.YtpoghajdcdfhbabProg
import Derived.KernelRfl
set_option maxRecDepth 100000
set_option maxHeartbeats 4000000
set_option linter.all false
namespace Go.Proofs
open Go.Ab
theorem hm : Try.prog.follows .mixedOrders = true := by kernel_rfl
def en0 (p : (Nat × Nat × Nat)) : AV := (AV.agg [(.flt .f32 p.1), (.flt .f32 p.2.1), (.flt .f32 p.2.2)])
def dc_en0 : AV → Option (Nat × Nat × Nat)
  | .agg [.flt .f32 y0, .flt .f32 y1, .flt .f32 y2] => some (y0, y1, y2)
  | _ => none
theorem dc_en0_map (ys : List (Nat × Nat × Nat)) : decL dc_en0 (List.map en0 ys) = some ys := decL_map (d := dc_en0) (e := en0) (fun p => by rfl) ys
theorem dc_en0_inv : ∀ x p, dc_en0 x = some p → x = en0 p := by
  intro x p h; unfold dc_en0 at h; split at h
  · cases h; rfl
  · cases h
theorem dc_en0_es (l : List (Nat × Nat × Nat)) : List.all (List.map en0 l) (esIs 3) = true := all_enc (fun _ => rfl) l
theorem dc_en0_st (l : List (Nat × Nat × Nat)) : List.all (List.map en0 l) (esSt 3) = true := all_enc (fun _ => rfl) l
theorem dc_en0_fl (l : List (Nat × Nat × Nat)) : List.all (List.map en0 l) flatE = true := all_enc (fun _ => rfl) l
def grpC := And.intro @dc_en0_map <| And.intro @dc_en0_es <| And.intro @dc_en0_st @dc_en0_fl
def m_laws_szVectorS (x0 : (List (Nat × Nat × Nat))) (x1 : Int) : Int := (if (decide ((IntKind.wrap .i64 (x1 - ((List.length x0 : Nat) : Int))) < 0)) = true then (-1) else
      (IntKind.wrap .i64 (x1 - ((List.length x0 : Nat) : Int))))
def g_laws_szVectorS : List AV → Option AV
  | [.sl w0, .int .i64 y1] => (match decL dc_en0 w0 with | some y0 => (some (.int .i64 (m_laws_szVectorS y0 y1))) | none => none)
  | _ => none
def ic11 : ICode := (.seq (.reg [⟨(some 4), none, (.mov (.c (.int .i64 0)))⟩] [0, 1]) (.seq (.reg [⟨(some 5), none, (.mov (.t 1))⟩, ⟨(some 6), none, (.mov (.t 0))⟩, ⟨(some 7), none,
      (.len false (.t 6))⟩, ⟨(some 8), none, (.bin .sub false (.t 5) (.t 7))⟩, ⟨(some 1), none, (.mov (.t 8))⟩] [1]) (.seq (.seq (.reg [⟨(some 9), none, (.mov (.t 1))⟩, ⟨(some 10),
      none, (.bin .lss false (.t 9) (.c (.int .i64 0)))⟩] [1, 10]) (.cond (.t 10) (.seq (.reg [⟨(some 4), none, (.mov (.c (.int .i64 (-1))))⟩] [4]) .ret) .skip)) (.seq (.reg [⟨(some
      11), none, (.mov (.t 1))⟩, ⟨(some 4), none, (.mov (.t 11))⟩] [4]) .ret))))
def cp11 : CP := CP.mk [] [] [[0, 1], [1], [1, 10], [4], [4]] 12 [] []
theorem fc11_0 : IntKind.wrap .i64 1 = 1 := by decide
theorem fc11_1 : IntKind.wrap .i64 2 = 2 := by decide
theorem fc11_2 : IntKind.wrap .i64 3 = 3 := by decide
theorem s11 : ∀ vs r, g_laws_szVectorS vs = some r → SaysM Try.prog .any 11 vs r := by
  intro vs r h
  unfold g_laws_szVectorS at h
  split at h
  · rename_i w0 y1
    cases hd_y0 : decL dc_en0 w0 with
    | none => rw [hd_y0] at h; cases h
    | some y0 =>
    rw [hd_y0] at h
    obtain rfl := decL_inv dc_en0_inv hd_y0
    clear hd_y0
    dsimp only at h
    cases h
    refine spec_of (m := .any) (tab := tabOf []) (cp := cp11) (ic := ic11) (rvl := [(.t 4)]) hm tabOk_nil Try.func11 rfl rfl rfl (by kernel_rfl) rfl (Nat.le_of_ble_eq_true rfl) (Nat.le_of_ble_eq_true rfl) ?_
    show eA _ _ _ _
    unfold ic11
    simp only [
        grpS, grpD, grpF, grpL, eop, vop, bop, uop, fltop, convop, endOk, newE, new1, freshL, Md.isNew, outV, pureV, pureX, pure1, AV.cells, AV.one, storable, laid, refless,
              refless1, vload, loadC, storeC, vnil, vfaddr, vextract, flatT, flatE, flatC, vconv, vmm, vidxA, viaddrA, vfield, vlen, elemsOf, dF32, dF64, dI64, dU8, dBool, dStr,
              esOk, elemsS, vsliceX, bnd, ownV, ownC, own1, ownT, isSl, nSl, endL, Md.isOwn, purge, purgeH, purgeB, purgeE, hasName, name1, List.any_cons, List.any_nil, Md.isWr,
              pureV.pureP, Option.map, reduceIte, Nat.reduceEqDiff, Nat.reduceAdd, Nat.reduceMul, Nat.reduceLT, Nat.reduceLeDiff, List.mapM_cons, List.mapM_nil, Option.pure_def,
              Option.bind_eq_bind, Option.bind_some, implies_true, forall_const, beq_self_eq_true, decide_true, decide_false, eq_self, Int.reduceEq, Int.reduceLE, Int.reduceLT,
              if_true, if_false, fc11_0, fc11_1, fc11_2, Int.reduceAdd, Int.reduceSub, Int.reduceMul, Int.reduceNeg, Int.reducePow, Nat.reducePow, Int.reduceToNat, Nat.reduceSub,
              List.replicate, Nat.reduceBEq, wAs, wA, wC, zipW, noDupN, grpE, grpC, en0, dc_en0]
    repeat' (first
      | ((first | (refine eGI_of (fun h => ?_) (fun h => ?_)) | (refine eCc_of (fun h => ?_) (fun h => ?_))) <;> (try simp only [Bool.not_eq_true', Bool.not_eq_false'] at h) <;> simp only [h,
        grpS, grpD, grpF, grpL, eop, vop, bop, uop, fltop, convop, endOk, newE, new1, freshL, Md.isNew, outV, pureV, pureX, pure1, AV.cells, AV.one, storable, laid, refless,
              refless1, vload, loadC, storeC, vnil, vfaddr, vextract, flatT, flatE, flatC, vconv, vmm, vidxA, viaddrA, vfield, vlen, elemsOf, dF32, dF64, dI64, dU8, dBool, dStr,
              esOk, elemsS, vsliceX, bnd, ownV, ownC, own1, ownT, isSl, nSl, endL, Md.isOwn, purge, purgeH, purgeB, purgeE, hasName, name1, List.any_cons, List.any_nil, Md.isWr,
              pureV.pureP, Option.map, reduceIte, Nat.reduceEqDiff, Nat.reduceAdd, Nat.reduceMul, Nat.reduceLT, Nat.reduceLeDiff, List.mapM_cons, List.mapM_nil, Option.pure_def,
              Option.bind_eq_bind, Option.bind_some, implies_true, forall_const, beq_self_eq_true, decide_true, decide_false, eq_self, Int.reduceEq, Int.reduceLE, Int.reduceLT,
              if_true, if_false, fc11_0, fc11_1, fc11_2, Int.reduceAdd, Int.reduceSub, Int.reduceMul, Int.reduceNeg, Int.reducePow, Nat.reducePow, Int.reduceToNat, Nat.reduceSub,
              List.replicate, Nat.reduceBEq, wAs, wA, wC, zipW, noDupN, grpE, grpC, en0, dc_en0]))
    all_goals (try simp only [*, m_laws_szVectorS, Bool.and_true, Bool.true_and, Bool.and_false, Bool.false_and, Bool.or_true, Bool.true_or, Bool.or_false, Bool.false_or, Bool.not_true, Bool.not_false, Bool.false_eq_true, if_true, if_false, reduceIte, decide_true, decide_false])
    all_goals (try (simp_all; done))
  · cases h
def m_laws_toVector (x0 : (Nat × Nat × Nat)) : (Nat × Nat × Nat) := (x0.1, x0.2.1, x0.2.2)
def g_laws_toVector : List AV → Option AV
  | [.agg [.flt .f32 y0, .flt .f32 y1, .flt .f32 y2]] => some (AV.agg [(.flt .f32 (m_laws_toVector (y0, y1, y2)).1), (.flt .f32
      (m_laws_toVector (y0, y1, y2)).2.1), (.flt .f32 (m_laws_toVector (y0, y1, y2)).2.2)])
  | _ => none
def ic45 : ICode := (.seq (.reg [⟨(some 1), none, (.box 3 (.t 0))⟩, ⟨(some 2), none, (.alloc (.agg [(.flt .f32 0), (.flt .f32 0), (.flt .f32 0)]))⟩] [1, 2]) (.seq (.reg [⟨(some 3),
      none, (.alloc (.agg [(.flt .f32 0), (.flt .f32 0), (.flt .f32 0)]))⟩] [1, 2, 3]) (.seq (.reg [⟨(some 4), none, (.faddr 0 (.t 1))⟩, ⟨(some 5), none, (.load none (.t 4))⟩,
      ⟨(some 6), none, (.faddr 0 (.t 3))⟩, ⟨none, none, (.store 1 (.t 6) (.t 5))⟩] [1, 2, 3]) (.seq (.reg [⟨(some 7), none, (.faddr 1 (.t 1))⟩, ⟨(some 8), none, (.load none (.t
      7))⟩, ⟨(some 9), none, (.faddr 1 (.t 3))⟩, ⟨none, none, (.store 1 (.t 9) (.t 8))⟩] [1, 2, 3]) (.seq (.reg [⟨(some 10), none, (.faddr 2 (.t 1))⟩, ⟨(some 11), none, (.load none
      (.t 10))⟩, ⟨(some 12), none, (.faddr 2 (.t 3))⟩, ⟨none, none, (.store 1 (.t 12) (.t 11))⟩] [2, 3]) (.seq (.reg [⟨(some 13), none, (.load (some 3) (.t 3))⟩, ⟨none, none,
      (.store 3 (.t 2) (.t 13))⟩] [2]) .ret))))))
def cp45 : CP := CP.mk [] [] [[1, 2], [1, 2, 3], [1, 2, 3], [1, 2, 3], [2, 3], [2]] 14 [] []
theorem fc45_0 : IntKind.wrap .i64 1 = 1 := by decide
theorem fc45_1 : IntKind.wrap .i64 2 = 2 := by decide
theorem fc45_2 : IntKind.wrap .i64 3 = 3 := by decide
theorem s45 : ∀ vs r, g_laws_toVector vs = some r → SaysM Try.prog .any 45 vs r := by
  intro vs r h
  unfold g_laws_toVector at h
  split at h
  · rename_i y0 y1 y2
    cases h
    refine spec_of (m := .any) (tab := tabOf []) (cp := cp45) (ic := ic45) (rvl := [(.c 2 (some 3))]) hm tabOk_nil Try.func45 rfl rfl rfl (by kernel_rfl) rfl (Nat.le_of_ble_eq_true rfl) (Nat.le_of_ble_eq_true rfl) ?_
    show eA _ _ _ _
    unfold ic45
    simp only [
        grpS, grpD, grpF, grpL, eop, vop, bop, uop, fltop, convop, endOk, newE, new1, freshL, Md.isNew, outV, pureV, pureX, pure1, AV.cells, AV.one, storable, laid, refless,
              refless1, vload, loadC, storeC, vnil, vfaddr, vextract, flatT, flatE, flatC, vconv, vmm, vidxA, viaddrA, vfield, vlen, elemsOf, dF32, dF64, dI64, dU8, dBool, dStr,
              esOk, elemsS, vsliceX, bnd, ownV, ownC, own1, ownT, isSl, nSl, endL, Md.isOwn, purge, purgeH, purgeB, purgeE, hasName, name1, List.any_cons, List.any_nil, Md.isWr,
              pureV.pureP, Option.map, reduceIte, Nat.reduceEqDiff, Nat.reduceAdd, Nat.reduceMul, Nat.reduceLT, Nat.reduceLeDiff, List.mapM_cons, List.mapM_nil, Option.pure_def,
              Option.bind_eq_bind, Option.bind_some, implies_true, forall_const, beq_self_eq_true, decide_true, decide_false, eq_self, Int.reduceEq, Int.reduceLE, Int.reduceLT,
              if_true, if_false, fc45_0, fc45_1, fc45_2, Int.reduceAdd, Int.reduceSub, Int.reduceMul, Int.reduceNeg, Int.reducePow, Nat.reducePow, Int.reduceToNat, Nat.reduceSub,
              List.replicate, Nat.reduceBEq, wAs, wA, wC, zipW, noDupN, grpE, grpC, en0, dc_en0]
    repeat' (first
      | ((first | (refine eGI_of (fun h => ?_) (fun h => ?_)) | (refine eCc_of (fun h => ?_) (fun h => ?_))) <;> (try simp only [Bool.not_eq_true', Bool.not_eq_false'] at h) <;> simp only [h,
        grpS, grpD, grpF, grpL, eop, vop, bop, uop, fltop, convop, endOk, newE, new1, freshL, Md.isNew, outV, pureV, pureX, pure1, AV.cells, AV.one, storable, laid, refless,
              refless1, vload, loadC, storeC, vnil, vfaddr, vextract, flatT, flatE, flatC, vconv, vmm, vidxA, viaddrA, vfield, vlen, elemsOf, dF32, dF64, dI64, dU8, dBool, dStr,
              esOk, elemsS, vsliceX, bnd, ownV, ownC, own1, ownT, isSl, nSl, endL, Md.isOwn, purge, purgeH, purgeB, purgeE, hasName, name1, List.any_cons, List.any_nil, Md.isWr,
              pureV.pureP, Option.map, reduceIte, Nat.reduceEqDiff, Nat.reduceAdd, Nat.reduceMul, Nat.reduceLT, Nat.reduceLeDiff, List.mapM_cons, List.mapM_nil, Option.pure_def,
              Option.bind_eq_bind, Option.bind_some, implies_true, forall_const, beq_self_eq_true, decide_true, decide_false, eq_self, Int.reduceEq, Int.reduceLE, Int.reduceLT,
              if_true, if_false, fc45_0, fc45_1, fc45_2, Int.reduceAdd, Int.reduceSub, Int.reduceMul, Int.reduceNeg, Int.reducePow, Nat.reducePow, Int.reduceToNat, Nat.reduceSub,
              List.replicate, Nat.reduceBEq, wAs, wA, wC, zipW, noDupN, grpE, grpC, en0, dc_en0]))
    all_goals (try simp only [*, m_laws_toVector, Bool.and_true, Bool.true_and, Bool.and_false, Bool.false_and, Bool.or_true, Bool.true_or, Bool.or_false, Bool.false_or, Bool.not_true, Bool.not_false, Bool.false_eq_true, if_true, if_false, reduceIte, decide_true, decide_false])
    all_goals (try (simp_all; done))
  · cases h
def l_laws_toVectorS_0 (x0 : (List (Nat × Nat × Nat))) : Nat → (List (Nat × Nat × Nat)) → Int → Option (List (Nat × Nat × Nat))
  | 0, _, _ => none
  | n + 1, z0_0, z0_1 => (if (decide (z0_1 < ((List.length x0 : Nat) : Int))) = true then (need (inB z0_1 (List.length x0)) (need (inB z0_1 (List.length z0_0)) (l_laws_toVectorS_0
        x0 n (List.set z0_0 (Int.toNat z0_1) (m_laws_toVector (atI x0 z0_1))) (IntKind.wrap .i64 (z0_1 + 1))))) else (some z0_0))
def m_laws_toVectorS (x0 : (List (Nat × Nat × Nat))) : (List (Nat × Nat × Nat)) := (Option.getD (l_laws_toVectorS_0 x0 (Int.toNat (((List.length x0 : Nat) : Int) - 0) + 2)
      (List.replicate (Int.toNat ((List.length x0 : Nat) : Int)) (0, 0, 0)) 0) default)
def p_laws_toVectorS (x0 : (List (Nat × Nat × Nat))) : Bool := ((decide (0 ≤ ((List.length x0 : Nat) : Int))) && ((decide (((List.length x0 : Nat) : Int) * 12 ≤ 70368744177664)) &&
      ((decide (((List.length x0 : Nat) : Int) ≤ 70368744177664)) && (Option.isSome (l_laws_toVectorS_0 x0 (Int.toNat (((List.length x0 : Nat) : Int) - 0) + 2) (List.replicate
      (Int.toNat ((List.length x0 : Nat) : Int)) (0, 0, 0)) 0)))))
def g_laws_toVectorS : List AV → Option AV
  | [.sl w0] => (match decL dc_en0 w0 with | some y0 => (if p_laws_toVectorS y0 = true then some (.sl (List.map en0 (m_laws_toVectorS y0))) else none) | none => none)
  | _ => none
def lb13_0 : ICode := (.seq (.seq (.reg [⟨(some 8), none, (.mov (.t 4))⟩, ⟨(some 9), none, (.mov (.t 0))⟩, ⟨(some 10), none, (.len false (.t 9))⟩, ⟨(some 11), none, (.bin .lss false
      (.t 8) (.t 10))⟩] [0, 3, 4, 11]) (.cond (.t 11) .skip (.exit 0))) (.seq (.block 1 (.reg [⟨(some 14), none, (.mov (.t 3))⟩, ⟨(some 15), none, (.mov (.t 4))⟩, ⟨(some 16), none,
      (.mov (.t 0))⟩, ⟨(some 17), none, (.mov (.t 4))⟩, ⟨(some 18), none, (.iaddrS 3 (.t 16) (.t 17))⟩, ⟨(some 19), none, (.load (some 3) (.t 18))⟩, ⟨(some 20), none, (.call (.fn
      45) [(.t 19)] [])⟩, ⟨(some 21), none, (.iaddrS 3 (.t 14) (.t 15))⟩, ⟨none, none, (.store 3 (.t 21) (.t 20))⟩] [0, 3, 4])) (.reg [⟨(some 12), none, (.mov (.t 4))⟩, ⟨(some 13),
      none, (.bin .add false (.t 12) (.c (.int .i64 1)))⟩, ⟨(some 4), none, (.mov (.t 13))⟩] [0, 3, 4])))
def ic13 : ICode := (.seq (.reg [⟨(some 2), none, (.mov (.c .snil))⟩] [0]) (.seq (.reg [⟨(some 5), none, (.mov (.t 0))⟩, ⟨(some 6), none, (.len false (.t 5))⟩, ⟨(some 7), none,
      (.mkslice 3 12 (.agg [(.flt .f32 0), (.flt .f32 0), (.flt .f32 0)]) (.t 6) (.t 6))⟩, ⟨(some 3), none, (.mov (.t 7))⟩] [0, 3]) (.seq (.seq (.reg [⟨(some 4), none, (.mov (.c
      (.int .i64 0)))⟩] [0, 3, 4]) (.block 0 (.loop lb13_0))) (.seq (.reg [⟨(some 22), none, (.mov (.t 3))⟩, ⟨(some 2), none, (.mov (.t 22))⟩] [2]) .ret))))
def cp13 : CP := CP.mk [] [] [[0], [0, 3], [0, 3, 4], [0, 3, 4, 11], [0, 3, 4], [0, 3, 4], [2]] 23 [] []
theorem fc13_0 : IntKind.wrap .i64 1 = 1 := by decide
theorem fc13_1 : IntKind.wrap .i64 2 = 2 := by decide
theorem fc13_2 : IntKind.wrap .i64 3 = 3 := by decide
theorem sl13_0 (x0 : (List (Nat × Nat × Nat))) : ∀ (n : Nat) (z0_0 : (List (Nat × Nat × Nat))) (z0_1 : Int) (o : (List (Nat × Nat × Nat))) (K : IExit → St → Prop),
      l_laws_toVectorS_0 x0 n z0_0 z0_1 = some o → (∀ st, Wk st (⟨[(3, (.lsl 7 0 (List.length o)))], [(7, (some ⟨3, true, (List.map en0 o)⟩))]⟩ : St) → K (.exit 0) st) → eA (tabOf
      [(45, wM .any g_laws_toVector)]) (.loop lb13_0) (⟨[(0, (.sl (List.map en0 x0))), (3, (.lsl 7 0 (List.length z0_0))), (4, (.int .i64 z0_1))], [(7, (some ⟨3, true, (List.map en0
      z0_0)⟩))]⟩ : St) K := by
  intro n
  induction n with
  | zero =>
    intro z0_0 z0_1 o K h h0
    simp only [l_laws_toVectorS_0, reduceCtorEq] at h
  | succ n ih =>
    intro z0_0 z0_1 o K h h0
    refine eA_loop ?_
    unfold lb13_0
    unfold l_laws_toVectorS_0 at h
    (try simp only [need_iff] at h)
    simp only [
      need_iff, h, grpS, grpD, grpF, grpL, eop, vop, bop, uop, fltop, convop, endOk, newE, new1, freshL, Md.isNew, outV, pureV, pureX, pure1, AV.cells, AV.one, storable, laid,
            refless, refless1, vload, loadC, storeC, vnil, vfaddr, vextract, flatT, flatE, flatC, vconv, vmm, vidxA, viaddrA, vfield, vlen, elemsOf, dF32, dF64, dI64, dU8, dBool,
            dStr, esOk, elemsS, vsliceX, bnd, ownV, ownC, own1, ownT, isSl, nSl, endL, Md.isOwn, purge, purgeH, purgeB, purgeE, hasName, name1, List.any_cons, List.any_nil, Md.isWr,
            pureV.pureP, Option.map, reduceIte, Nat.reduceEqDiff, Nat.reduceAdd, Nat.reduceMul, Nat.reduceLT, Nat.reduceLeDiff, List.mapM_cons, List.mapM_nil, Option.pure_def,
            Option.bind_eq_bind, Option.bind_some, implies_true, forall_const, beq_self_eq_true, decide_true, decide_false, eq_self, Int.reduceEq, Int.reduceLE, Int.reduceLT,
            if_true, if_false, fc13_0, fc13_1, fc13_2, Int.reduceAdd, Int.reduceSub, Int.reduceMul, Int.reduceNeg, Int.reducePow, Nat.reducePow, Int.reduceToNat, Nat.reduceSub,
            List.replicate, Nat.reduceBEq, wAs, wA, wC, zipW, noDupN, grpE, g_laws_toVector, grpC, en0, dc_en0]
    repeat' (first
      | ((first | (refine eGI_of (fun hc => ?_) (fun hc => ?_)) | (refine eCc_of (fun hc => ?_) (fun hc => ?_)) | (have hc := True.intro; refine KW_refl ?_)) <;> (try simp only [Bool.not_eq_true', Bool.not_eq_false'] at hc) <;> (try simp only [hc, need_iff, reduceCtorEq, Bool.not_eq_true', decide_eq_false_iff_not, Bool.not_true, Bool.not_false, Bool.false_or, Bool.true_or, Bool.true_and, Bool.false_and, Bool.and_eq_true, Bool.or_eq_true, if_true, if_false, reduceIte, Bool.false_eq_true, and_true, true_and, false_or, or_false, decide_eq_true_eq, not_false_eq_true, not_true_eq_false] at h) <;> (try (have hc2 := hc; simp only [decide_eq_true_eq, decide_eq_false_iff_not] at hc2; simp only [hc2, if_true, if_false, reduceCtorEq, Bool.not_eq_true', decide_eq_false_iff_not, Bool.not_true, Bool.not_false, Bool.false_or, Bool.true_or, Bool.true_and, Bool.false_and, Bool.and_eq_true, Bool.or_eq_true, if_true, if_false, reduceIte, Bool.false_eq_true, and_true, true_and, false_or, or_false, decide_eq_true_eq, not_false_eq_true, not_true_eq_false] at h)) <;> simp only [hc,
      need_iff, h, grpS, grpD, grpF, grpL, eop, vop, bop, uop, fltop, convop, endOk, newE, new1, freshL, Md.isNew, outV, pureV, pureX, pure1, AV.cells, AV.one, storable, laid,
            refless, refless1, vload, loadC, storeC, vnil, vfaddr, vextract, flatT, flatE, flatC, vconv, vmm, vidxA, viaddrA, vfield, vlen, elemsOf, dF32, dF64, dI64, dU8, dBool,
            dStr, esOk, elemsS, vsliceX, bnd, ownV, ownC, own1, ownT, isSl, nSl, endL, Md.isOwn, purge, purgeH, purgeB, purgeE, hasName, name1, List.any_cons, List.any_nil, Md.isWr,
            pureV.pureP, Option.map, reduceIte, Nat.reduceEqDiff, Nat.reduceAdd, Nat.reduceMul, Nat.reduceLT, Nat.reduceLeDiff, List.mapM_cons, List.mapM_nil, Option.pure_def,
            Option.bind_eq_bind, Option.bind_some, implies_true, forall_const, beq_self_eq_true, decide_true, decide_false, eq_self, Int.reduceEq, Int.reduceLE, Int.reduceLT,
            if_true, if_false, fc13_0, fc13_1, fc13_2, Int.reduceAdd, Int.reduceSub, Int.reduceMul, Int.reduceNeg, Int.reducePow, Nat.reducePow, Int.reduceToNat, Nat.reduceSub,
            List.replicate, Nat.reduceBEq, wAs, wA, wC, zipW, noDupN, grpE, g_laws_toVector, grpC, en0, dc_en0]))
    all_goals (repeat (replace h := And.right h))
    all_goals first
      | (refine eA_wk (wk_norm (ks := [0, 3, 4]) (ls := [7]) ?_) (eA_cast ?_ (ih _ _ _ _ h h0)); (simp only [normOk, optIn, blkIn, nameIn,
      need_iff, h, grpS, grpD, grpF, grpL, eop, vop, bop, uop, fltop, convop, endOk, newE, new1, freshL, Md.isNew, outV, pureV, pureX, pure1, AV.cells, AV.one, storable, laid,
            refless, refless1, vload, loadC, storeC, vnil, vfaddr, vextract, flatT, flatE, flatC, vconv, vmm, vidxA, viaddrA, vfield, vlen, elemsOf, dF32, dF64, dI64, dU8, dBool,
            dStr, esOk, elemsS, vsliceX, bnd, ownV, ownC, own1, ownT, isSl, nSl, endL, Md.isOwn, purge, purgeH, purgeB, purgeE, hasName, name1, List.any_cons, List.any_nil, Md.isWr,
            pureV.pureP, Option.map, reduceIte, Nat.reduceEqDiff, Nat.reduceAdd, Nat.reduceMul, Nat.reduceLT, Nat.reduceLeDiff, List.mapM_cons, List.mapM_nil, Option.pure_def,
            Option.bind_eq_bind, Option.bind_some, implies_true, forall_const, beq_self_eq_true, decide_true, decide_false, eq_self, Int.reduceEq, Int.reduceLE, Int.reduceLT,
            if_true, if_false, fc13_0, fc13_1, fc13_2, Int.reduceAdd, Int.reduceSub, Int.reduceMul, Int.reduceNeg, Int.reducePow, Nat.reducePow, Int.reduceToNat, Nat.reduceSub,
            List.replicate, Nat.reduceBEq, wAs, wA, wC, zipW, noDupN, grpE, g_laws_toVector, grpC, en0, dc_en0] <;> rfl); (simp only [normS, List.map_append, List.length_append, List.map_set, List.length_set, List.map_replicate, List.length_replicate, List.map_nil, List.map_cons,
      need_iff, h, grpS, grpD, grpF, grpL, eop, vop, bop, uop, fltop, convop, endOk, newE, new1, freshL, Md.isNew, outV, pureV, pureX, pure1, AV.cells, AV.one, storable, laid,
            refless, refless1, vload, loadC, storeC, vnil, vfaddr, vextract, flatT, flatE, flatC, vconv, vmm, vidxA, viaddrA, vfield, vlen, elemsOf, dF32, dF64, dI64, dU8, dBool,
            dStr, esOk, elemsS, vsliceX, bnd, ownV, ownC, own1, ownT, isSl, nSl, endL, Md.isOwn, purge, purgeH, purgeB, purgeE, hasName, name1, List.any_cons, List.any_nil, Md.isWr,
            pureV.pureP, Option.map, reduceIte, Nat.reduceEqDiff, Nat.reduceAdd, Nat.reduceMul, Nat.reduceLT, Nat.reduceLeDiff, List.mapM_cons, List.mapM_nil, Option.pure_def,
            Option.bind_eq_bind, Option.bind_some, implies_true, forall_const, beq_self_eq_true, decide_true, decide_false, eq_self, Int.reduceEq, Int.reduceLE, Int.reduceLT,
            if_true, if_false, fc13_0, fc13_1, fc13_2, Int.reduceAdd, Int.reduceSub, Int.reduceMul, Int.reduceNeg, Int.reducePow, Nat.reducePow, Int.reduceToNat, Nat.reduceSub,
            List.replicate, Nat.reduceBEq, wAs, wA, wC, zipW, noDupN, grpE, g_laws_toVector, grpC, en0, dc_en0] <;> first | rfl | (simp only [Nat.add_comm]; done)))
      | (cases h; refine h0 _ (Wk.cast (wk_norm (ks := [3]) (ls := [7]) ?_) ?_); (simp only [normOk, optIn, blkIn, nameIn,
      grpS, grpD, grpF, grpL, eop, vop, bop, uop, fltop, convop, endOk, newE, new1, freshL, Md.isNew, outV, pureV, pureX, pure1, AV.cells, AV.one, storable, laid, refless, refless1,
            vload, loadC, storeC, vnil, vfaddr, vextract, flatT, flatE, flatC, vconv, vmm, vidxA, viaddrA, vfield, vlen, elemsOf, dF32, dF64, dI64, dU8, dBool, dStr, esOk, elemsS,
            vsliceX, bnd, ownV, ownC, own1, ownT, isSl, nSl, endL, Md.isOwn, purge, purgeH, purgeB, purgeE, hasName, name1, List.any_cons, List.any_nil, Md.isWr, pureV.pureP,
            Option.map, reduceIte, Nat.reduceEqDiff, Nat.reduceAdd, Nat.reduceMul, Nat.reduceLT, Nat.reduceLeDiff, List.mapM_cons, List.mapM_nil, Option.pure_def,
            Option.bind_eq_bind, Option.bind_some, implies_true, forall_const, beq_self_eq_true, decide_true, decide_false, eq_self, Int.reduceEq, Int.reduceLE, Int.reduceLT,
            if_true, if_false, fc13_0, fc13_1, fc13_2, Int.reduceAdd, Int.reduceSub, Int.reduceMul, Int.reduceNeg, Int.reducePow, Nat.reducePow, Int.reduceToNat, Nat.reduceSub,
            List.replicate, Nat.reduceBEq, wAs, wA, wC, zipW, noDupN, grpE, g_laws_toVector, grpC, en0, dc_en0] <;> rfl); (simp only [normS, List.map_append, List.length_append, List.map_set, List.length_set, List.map_replicate, List.length_replicate,
      grpS, grpD, grpF, grpL, eop, vop, bop, uop, fltop, convop, endOk, newE, new1, freshL, Md.isNew, outV, pureV, pureX, pure1, AV.cells, AV.one, storable, laid, refless, refless1,
            vload, loadC, storeC, vnil, vfaddr, vextract, flatT, flatE, flatC, vconv, vmm, vidxA, viaddrA, vfield, vlen, elemsOf, dF32, dF64, dI64, dU8, dBool, dStr, esOk, elemsS,
            vsliceX, bnd, ownV, ownC, own1, ownT, isSl, nSl, endL, Md.isOwn, purge, purgeH, purgeB, purgeE, hasName, name1, List.any_cons, List.any_nil, Md.isWr, pureV.pureP,
            Option.map, reduceIte, Nat.reduceEqDiff, Nat.reduceAdd, Nat.reduceMul, Nat.reduceLT, Nat.reduceLeDiff, List.mapM_cons, List.mapM_nil, Option.pure_def,
            Option.bind_eq_bind, Option.bind_some, implies_true, forall_const, beq_self_eq_true, decide_true, decide_false, eq_self, Int.reduceEq, Int.reduceLE, Int.reduceLT,
            if_true, if_false, fc13_0, fc13_1, fc13_2, Int.reduceAdd, Int.reduceSub, Int.reduceMul, Int.reduceNeg, Int.reducePow, Nat.reducePow, Int.reduceToNat, Nat.reduceSub,
            List.replicate, Nat.reduceBEq, wAs, wA, wC, zipW, noDupN, grpE, g_laws_toVector, grpC, en0, dc_en0] <;> first | rfl | (simp only [Nat.add_comm]; done)))
theorem s13 : ∀ vs r, g_laws_toVectorS vs = some r → SaysM Try.prog (.own [3]) 13 vs r := by
  intro vs r h
  unfold g_laws_toVectorS at h
  split at h
  · rename_i w0
    cases hd_y0 : decL dc_en0 w0 with
    | none => rw [hd_y0] at h; cases h
    | some y0 =>
    rw [hd_y0] at h
    obtain rfl := decL_inv dc_en0_inv hd_y0
    clear hd_y0
    dsimp only at h
    split at h
    · rename_i hp
      cases h
      refine spec_of (m := (.own [3])) (tab := tabOf [(45, wM .any g_laws_toVector)]) (cp := cp13) (ic := ic13) (rvl := [(.t 2)]) hm (tabOk_cons (m := .any) s45 tabOk_nil) Try.func13 rfl rfl rfl (by kernel_rfl) rfl (Nat.le_of_ble_eq_true rfl) (Nat.le_of_ble_eq_true rfl) ?_
      show eA _ _ _ _
      unfold ic13
      simp only [p_laws_toVectorS, Bool.and_eq_true, Bool.or_eq_true, decide_eq_true_eq, Bool.not_eq_true', decide_eq_false_iff_not] at hp
      simp only [
          hp, grpS, grpD, grpF, grpL, eop, vop, bop, uop, fltop, convop, endOk, newE, new1, freshL, Md.isNew, outV, pureV, pureX, pure1, AV.cells, AV.one, storable, laid, refless,
                refless1, vload, loadC, storeC, vnil, vfaddr, vextract, flatT, flatE, flatC, vconv, vmm, vidxA, viaddrA, vfield, vlen, elemsOf, dF32, dF64, dI64, dU8, dBool, dStr,
                esOk, elemsS, vsliceX, bnd, ownV, ownC, own1, ownT, isSl, nSl, endL, Md.isOwn, purge, purgeH, purgeB, purgeE, hasName, name1, List.any_cons, List.any_nil, Md.isWr,
                pureV.pureP, Option.map, reduceIte, Nat.reduceEqDiff, Nat.reduceAdd, Nat.reduceMul, Nat.reduceLT, Nat.reduceLeDiff, List.mapM_cons, List.mapM_nil, Option.pure_def,
                Option.bind_eq_bind, Option.bind_some, implies_true, forall_const, beq_self_eq_true, decide_true, decide_false, eq_self, Int.reduceEq, Int.reduceLE, Int.reduceLT,
                if_true, if_false, fc13_0, fc13_1, fc13_2, Int.reduceAdd, Int.reduceSub, Int.reduceMul, Int.reduceNeg, Int.reducePow, Nat.reducePow, Int.reduceToNat, Nat.reduceSub,
                List.replicate, Nat.reduceBEq, wAs, wA, wC, zipW, noDupN, grpE, g_laws_toVector, grpC, en0, dc_en0]
      repeat' (first
        | ((first | (refine eGI_of (fun h => ?_) (fun h => ?_)) | (refine eCc_of (fun h => ?_) (fun h => ?_)) | (have h := True.intro; refine KW_refl ?_)) <;> (try simp only [Bool.not_eq_true', Bool.not_eq_false'] at h) <;> (try simp only [h, reduceCtorEq, Bool.not_eq_true', decide_eq_false_iff_not, Bool.not_true, Bool.not_false, Bool.false_or, Bool.true_or, Bool.true_and, Bool.false_and, Bool.and_eq_true, Bool.or_eq_true, if_true, if_false, reduceIte, Bool.false_eq_true, and_true, true_and, false_or, or_false, decide_eq_true_eq, not_false_eq_true, not_true_eq_false] at hp) <;> (try (have h2 := h; simp only [decide_eq_true_eq, decide_eq_false_iff_not] at h2; (first | (replace h2 := eq_false h2) | (replace h2 := eq_true h2)); simp only [h2, if_true, if_false, false_or, true_or, or_true, or_false, and_true, true_and, not_false_eq_true, not_true_eq_false] at hp)) <;> simp only [h,
          hp, grpS, grpD, grpF, grpL, eop, vop, bop, uop, fltop, convop, endOk, newE, new1, freshL, Md.isNew, outV, pureV, pureX, pure1, AV.cells, AV.one, storable, laid, refless,
                refless1, vload, loadC, storeC, vnil, vfaddr, vextract, flatT, flatE, flatC, vconv, vmm, vidxA, viaddrA, vfield, vlen, elemsOf, dF32, dF64, dI64, dU8, dBool, dStr,
                esOk, elemsS, vsliceX, bnd, ownV, ownC, own1, ownT, isSl, nSl, endL, Md.isOwn, purge, purgeH, purgeB, purgeE, hasName, name1, List.any_cons, List.any_nil, Md.isWr,
                pureV.pureP, Option.map, reduceIte, Nat.reduceEqDiff, Nat.reduceAdd, Nat.reduceMul, Nat.reduceLT, Nat.reduceLeDiff, List.mapM_cons, List.mapM_nil, Option.pure_def,
                Option.bind_eq_bind, Option.bind_some, implies_true, forall_const, beq_self_eq_true, decide_true, decide_false, eq_self, Int.reduceEq, Int.reduceLE, Int.reduceLT,
                if_true, if_false, fc13_0, fc13_1, fc13_2, Int.reduceAdd, Int.reduceSub, Int.reduceMul, Int.reduceNeg, Int.reducePow, Nat.reducePow, Int.reduceToNat, Nat.reduceSub,
                List.replicate, Nat.reduceBEq, wAs, wA, wC, zipW, noDupN, grpE, g_laws_toVector, grpC, en0, dc_en0])
        | (refine eA_wk (wk_norm (ks := [0, 3, 4]) (ls := [7]) ?_) (eA_cast ?_ (sl13_0 y0 _ _ _ _ _ (getD_some (d := default) (x := (l_laws_toVectorS_0 y0 (Int.toNat (((List.length y0 : Nat) : Int) - 0) + 2) (List.replicate (Int.toNat ((List.length y0 : Nat) : Int)) (0, 0, 0)) 0)) ?_) ?_)); (simp only [nilS, nilV, normOk, optIn, blkIn, nameIn, 
          hp, grpS, grpD, grpF, grpL, eop, vop, bop, uop, fltop, convop, endOk, newE, new1, freshL, Md.isNew, outV, pureV, pureX, pure1, AV.cells, AV.one, storable, laid, refless,
                refless1, vload, loadC, storeC, vnil, vfaddr, vextract, flatT, flatE, flatC, vconv, vmm, vidxA, viaddrA, vfield, vlen, elemsOf, dF32, dF64, dI64, dU8, dBool, dStr,
                esOk, elemsS, vsliceX, bnd, ownV, ownC, own1, ownT, isSl, nSl, endL, Md.isOwn, purge, purgeH, purgeB, purgeE, hasName, name1, List.any_cons, List.any_nil, Md.isWr,
                pureV.pureP, Option.map, reduceIte, Nat.reduceEqDiff, Nat.reduceAdd, Nat.reduceMul, Nat.reduceLT, Nat.reduceLeDiff, List.mapM_cons, List.mapM_nil, Option.pure_def,
                Option.bind_eq_bind, Option.bind_some, implies_true, forall_const, beq_self_eq_true, decide_true, decide_false, eq_self, Int.reduceEq, Int.reduceLE, Int.reduceLT,
                if_true, if_false, fc13_0, fc13_1, fc13_2, Int.reduceAdd, Int.reduceSub, Int.reduceMul, Int.reduceNeg, Int.reducePow, Nat.reducePow, Int.reduceToNat, Nat.reduceSub,
                List.replicate, Nat.reduceBEq, wAs, wA, wC, zipW, noDupN, grpE, g_laws_toVector, grpC, en0, dc_en0] <;> rfl); (simp only [nilS, nilV, normS,  List.map_append, List.length_append, List.map_set, List.length_set, List.map_replicate, List.length_replicate, List.map_nil, List.map_cons,
          hp, grpS, grpD, grpF, grpL, eop, vop, bop, uop, fltop, convop, endOk, newE, new1, freshL, Md.isNew, outV, pureV, pureX, pure1, AV.cells, AV.one, storable, laid, refless,
                refless1, vload, loadC, storeC, vnil, vfaddr, vextract, flatT, flatE, flatC, vconv, vmm, vidxA, viaddrA, vfield, vlen, elemsOf, dF32, dF64, dI64, dU8, dBool, dStr,
                esOk, elemsS, vsliceX, bnd, ownV, ownC, own1, ownT, isSl, nSl, endL, Md.isOwn, purge, purgeH, purgeB, purgeE, hasName, name1, List.any_cons, List.any_nil, Md.isWr,
                pureV.pureP, Option.map, reduceIte, Nat.reduceEqDiff, Nat.reduceAdd, Nat.reduceMul, Nat.reduceLT, Nat.reduceLeDiff, List.mapM_cons, List.mapM_nil, Option.pure_def,
                Option.bind_eq_bind, Option.bind_some, implies_true, forall_const, beq_self_eq_true, decide_true, decide_false, eq_self, Int.reduceEq, Int.reduceLE, Int.reduceLT,
                if_true, if_false, fc13_0, fc13_1, fc13_2, Int.reduceAdd, Int.reduceSub, Int.reduceMul, Int.reduceNeg, Int.reducePow, Nat.reducePow, Int.reduceToNat, Nat.reduceSub,
                List.replicate, Nat.reduceBEq, wAs, wA, wC, zipW, noDupN, grpE, g_laws_toVector, grpC, en0, dc_en0] <;> first | rfl | (simp only [Nat.add_comm]; done)); (simp only [hp]); (
        intro st2 hw; (try simp only [reduceCtorEq, Bool.not_eq_true', decide_eq_false_iff_not, Bool.not_true, Bool.not_false, Bool.false_or, Bool.true_or, Bool.true_and, Bool.false_and, Bool.and_eq_true, Bool.or_eq_true, if_true, if_false, reduceIte, Bool.false_eq_true, and_true, true_and, false_or, or_false, decide_eq_true_eq, not_false_eq_true, not_true_eq_false] at hp); simp only [
          hp, grpS, grpD, grpF, grpL, eop, vop, bop, uop, fltop, convop, endOk, newE, new1, freshL, Md.isNew, outV, pureV, pureX, pure1, AV.cells, AV.one, storable, laid, refless,
                refless1, vload, loadC, storeC, vnil, vfaddr, vextract, flatT, flatE, flatC, vconv, vmm, vidxA, viaddrA, vfield, vlen, elemsOf, dF32, dF64, dI64, dU8, dBool, dStr,
                esOk, elemsS, vsliceX, bnd, ownV, ownC, own1, ownT, isSl, nSl, endL, Md.isOwn, purge, purgeH, purgeB, purgeE, hasName, name1, List.any_cons, List.any_nil, Md.isWr,
                pureV.pureP, Option.map, reduceIte, Nat.reduceEqDiff, Nat.reduceAdd, Nat.reduceMul, Nat.reduceLT, Nat.reduceLeDiff, List.mapM_cons, List.mapM_nil, Option.pure_def,
                Option.bind_eq_bind, Option.bind_some, implies_true, forall_const, beq_self_eq_true, decide_true, decide_false, eq_self, Int.reduceEq, Int.reduceLE, Int.reduceLT,
                if_true, if_false, fc13_0, fc13_1, fc13_2, Int.reduceAdd, Int.reduceSub, Int.reduceMul, Int.reduceNeg, Int.reducePow, Nat.reducePow, Int.reduceToNat, Nat.reduceSub,
                List.replicate, Nat.reduceBEq, wAs, wA, wC, zipW, noDupN, grpE, g_laws_toVector, grpC, en0, dc_en0]; refine KW_of hw ?_; simp only [
          hp, grpS, grpD, grpF, grpL, eop, vop, bop, uop, fltop, convop, endOk, newE, new1, freshL, Md.isNew, outV, pureV, pureX, pure1, AV.cells, AV.one, storable, laid, refless,
                refless1, vload, loadC, storeC, vnil, vfaddr, vextract, flatT, flatE, flatC, vconv, vmm, vidxA, viaddrA, vfield, vlen, elemsOf, dF32, dF64, dI64, dU8, dBool, dStr,
                esOk, elemsS, vsliceX, bnd, ownV, ownC, own1, ownT, isSl, nSl, endL, Md.isOwn, purge, purgeH, purgeB, purgeE, hasName, name1, List.any_cons, List.any_nil, Md.isWr,
                pureV.pureP, Option.map, reduceIte, Nat.reduceEqDiff, Nat.reduceAdd, Nat.reduceMul, Nat.reduceLT, Nat.reduceLeDiff, List.mapM_cons, List.mapM_nil, Option.pure_def,
                Option.bind_eq_bind, Option.bind_some, implies_true, forall_const, beq_self_eq_true, decide_true, decide_false, eq_self, Int.reduceEq, Int.reduceLE, Int.reduceLT,
                if_true, if_false, fc13_0, fc13_1, fc13_2, Int.reduceAdd, Int.reduceSub, Int.reduceMul, Int.reduceNeg, Int.reducePow, Nat.reducePow, Int.reduceToNat, Nat.reduceSub,
                List.replicate, Nat.reduceBEq, wAs, wA, wC, zipW, noDupN, grpE, g_laws_toVector, grpC, en0, dc_en0])))
      all_goals (try simp only [*, m_laws_toVectorS, Bool.and_true, Bool.true_and, Bool.and_false, Bool.false_and, Bool.or_true, Bool.true_or, Bool.or_false, Bool.false_or, Bool.not_true, Bool.not_false, Bool.false_eq_true, if_true, if_false, reduceIte, decide_true, decide_false])
      all_goals (try (simp_all; done))
    · cases h
  · cases h
def m_spec_l03Lesser (x0 : Nat) (x1 : Nat) : Nat := (if (flt .f32 x1 x0) = true then x1 else x0)
def g_spec_l03Lesser : List AV → Option AV
  | [.flt .f32 y0, .flt .f32 y1] => some (.flt .f32 (m_spec_l03Lesser y0 y1))
  | _ => none
def ic43 : ICode := (.seq (.reg [⟨(some 4), none, (.mov (.c (.flt .f32 0)))⟩] [0, 1]) (.seq (.seq (.reg [⟨(some 5), none, (.mov (.t 1))⟩, ⟨(some 6), none, (.mov (.t 0))⟩, ⟨(some 7),
      none, (.bin .lss false (.t 5) (.t 6))⟩] [0, 1, 7]) (.cond (.t 7) (.seq (.reg [⟨(some 8), none, (.mov (.t 1))⟩, ⟨(some 4), none, (.mov (.t 8))⟩] [4]) .ret) .skip)) (.seq (.reg
      [⟨(some 9), none, (.mov (.t 0))⟩, ⟨(some 4), none, (.mov (.t 9))⟩] [4]) .ret)))
def cp43 : CP := CP.mk [] [] [[0, 1], [0, 1, 7], [4], [4]] 10 [] []
theorem fc43_0 : IntKind.wrap .i64 1 = 1 := by decide
theorem fc43_1 : IntKind.wrap .i64 2 = 2 := by decide
theorem fc43_2 : IntKind.wrap .i64 3 = 3 := by decide
theorem s43 : ∀ vs r, g_spec_l03Lesser vs = some r → SaysM Try.prog .any 43 vs r := by
  intro vs r h
  unfold g_spec_l03Lesser at h
  split at h
  · rename_i y0 y1
    cases h
    refine spec_of (m := .any) (tab := tabOf []) (cp := cp43) (ic := ic43) (rvl := [(.t 4)]) hm tabOk_nil Try.func43 rfl rfl rfl (by kernel_rfl) rfl (Nat.le_of_ble_eq_true rfl) (Nat.le_of_ble_eq_true rfl) ?_
    show eA _ _ _ _
    unfold ic43
    simp only [
        grpS, grpD, grpF, grpL, eop, vop, bop, uop, fltop, convop, endOk, newE, new1, freshL, Md.isNew, outV, pureV, pureX, pure1, AV.cells, AV.one, storable, laid, refless,
              refless1, vload, loadC, storeC, vnil, vfaddr, vextract, flatT, flatE, flatC, vconv, vmm, vidxA, viaddrA, vfield, vlen, elemsOf, dF32, dF64, dI64, dU8, dBool, dStr,
              esOk, elemsS, vsliceX, bnd, ownV, ownC, own1, ownT, isSl, nSl, endL, Md.isOwn, purge, purgeH, purgeB, purgeE, hasName, name1, List.any_cons, List.any_nil, Md.isWr,
              pureV.pureP, Option.map, reduceIte, Nat.reduceEqDiff, Nat.reduceAdd, Nat.reduceMul, Nat.reduceLT, Nat.reduceLeDiff, List.mapM_cons, List.mapM_nil, Option.pure_def,
              Option.bind_eq_bind, Option.bind_some, implies_true, forall_const, beq_self_eq_true, decide_true, decide_false, eq_self, Int.reduceEq, Int.reduceLE, Int.reduceLT,
              if_true, if_false, fc43_0, fc43_1, fc43_2, Int.reduceAdd, Int.reduceSub, Int.reduceMul, Int.reduceNeg, Int.reducePow, Nat.reducePow, Int.reduceToNat, Nat.reduceSub,
              List.replicate, Nat.reduceBEq, wAs, wA, wC, zipW, noDupN, grpE, grpC, en0, dc_en0]
    repeat' (first
      | ((first | (refine eGI_of (fun h => ?_) (fun h => ?_)) | (refine eCc_of (fun h => ?_) (fun h => ?_))) <;> (try simp only [Bool.not_eq_true', Bool.not_eq_false'] at h) <;> simp only [h,
        grpS, grpD, grpF, grpL, eop, vop, bop, uop, fltop, convop, endOk, newE, new1, freshL, Md.isNew, outV, pureV, pureX, pure1, AV.cells, AV.one, storable, laid, refless,
              refless1, vload, loadC, storeC, vnil, vfaddr, vextract, flatT, flatE, flatC, vconv, vmm, vidxA, viaddrA, vfield, vlen, elemsOf, dF32, dF64, dI64, dU8, dBool, dStr,
              esOk, elemsS, vsliceX, bnd, ownV, ownC, own1, ownT, isSl, nSl, endL, Md.isOwn, purge, purgeH, purgeB, purgeE, hasName, name1, List.any_cons, List.any_nil, Md.isWr,
              pureV.pureP, Option.map, reduceIte, Nat.reduceEqDiff, Nat.reduceAdd, Nat.reduceMul, Nat.reduceLT, Nat.reduceLeDiff, List.mapM_cons, List.mapM_nil, Option.pure_def,
              Option.bind_eq_bind, Option.bind_some, implies_true, forall_const, beq_self_eq_true, decide_true, decide_false, eq_self, Int.reduceEq, Int.reduceLE, Int.reduceLT,
              if_true, if_false, fc43_0, fc43_1, fc43_2, Int.reduceAdd, Int.reduceSub, Int.reduceMul, Int.reduceNeg, Int.reducePow, Nat.reducePow, Int.reduceToNat, Nat.reduceSub,
              List.replicate, Nat.reduceBEq, wAs, wA, wC, zipW, noDupN, grpE, grpC, en0, dc_en0]))
    all_goals (try simp only [*, m_spec_l03Lesser, Bool.and_true, Bool.true_and, Bool.and_false, Bool.false_and, Bool.or_true, Bool.true_or, Bool.or_false, Bool.false_or, Bool.not_true, Bool.not_false, Bool.false_eq_true, if_true, if_false, reduceIte, decide_true, decide_false])
    all_goals (try (simp_all; done))
  · cases h
def m_spec_l03Greater (x0 : Nat) (x1 : Nat) : Nat := (if (flt .f32 x0 x1) = true then x1 else x0)
def g_spec_l03Greater : List AV → Option AV
  | [.flt .f32 y0, .flt .f32 y1] => some (.flt .f32 (m_spec_l03Greater y0 y1))
  | _ => none
def ic44 : ICode := (.seq (.reg [⟨(some 4), none, (.mov (.c (.flt .f32 0)))⟩] [0, 1]) (.seq (.seq (.reg [⟨(some 5), none, (.mov (.t 1))⟩, ⟨(some 6), none, (.mov (.t 0))⟩, ⟨(some 7),
      none, (.bin .gtr false (.t 5) (.t 6))⟩] [0, 1, 7]) (.cond (.t 7) (.seq (.reg [⟨(some 8), none, (.mov (.t 1))⟩, ⟨(some 4), none, (.mov (.t 8))⟩] [4]) .ret) .skip)) (.seq (.reg
      [⟨(some 9), none, (.mov (.t 0))⟩, ⟨(some 4), none, (.mov (.t 9))⟩] [4]) .ret)))
def cp44 : CP := CP.mk [] [] [[0, 1], [0, 1, 7], [4], [4]] 10 [] []
theorem fc44_0 : IntKind.wrap .i64 1 = 1 := by decide
theorem fc44_1 : IntKind.wrap .i64 2 = 2 := by decide
theorem fc44_2 : IntKind.wrap .i64 3 = 3 := by decide
theorem s44 : ∀ vs r, g_spec_l03Greater vs = some r → SaysM Try.prog .any 44 vs r := by
  intro vs r h
  unfold g_spec_l03Greater at h
  split at h
  · rename_i y0 y1
    cases h
    refine spec_of (m := .any) (tab := tabOf []) (cp := cp44) (ic := ic44) (rvl := [(.t 4)]) hm tabOk_nil Try.func44 rfl rfl rfl (by kernel_rfl) rfl (Nat.le_of_ble_eq_true rfl) (Nat.le_of_ble_eq_true rfl) ?_
    show eA _ _ _ _
    unfold ic44
    simp only [
        grpS, grpD, grpF, grpL, eop, vop, bop, uop, fltop, convop, endOk, newE, new1, freshL, Md.isNew, outV, pureV, pureX, pure1, AV.cells, AV.one, storable, laid, refless,
              refless1, vload, loadC, storeC, vnil, vfaddr, vextract, flatT, flatE, flatC, vconv, vmm, vidxA, viaddrA, vfield, vlen, elemsOf, dF32, dF64, dI64, dU8, dBool, dStr,
              esOk, elemsS, vsliceX, bnd, ownV, ownC, own1, ownT, isSl, nSl, endL, Md.isOwn, purge, purgeH, purgeB, purgeE, hasName, name1, List.any_cons, List.any_nil, Md.isWr,
              pureV.pureP, Option.map, reduceIte, Nat.reduceEqDiff, Nat.reduceAdd, Nat.reduceMul, Nat.reduceLT, Nat.reduceLeDiff, List.mapM_cons, List.mapM_nil, Option.pure_def,
              Option.bind_eq_bind, Option.bind_some, implies_true, forall_const, beq_self_eq_true, decide_true, decide_false, eq_self, Int.reduceEq, Int.reduceLE, Int.reduceLT,
              if_true, if_false, fc44_0, fc44_1, fc44_2, Int.reduceAdd, Int.reduceSub, Int.reduceMul, Int.reduceNeg, Int.reducePow, Nat.reducePow, Int.reduceToNat, Nat.reduceSub,
              List.replicate, Nat.reduceBEq, wAs, wA, wC, zipW, noDupN, grpE, grpC, en0, dc_en0]
    repeat' (first
      | ((first | (refine eGI_of (fun h => ?_) (fun h => ?_)) | (refine eCc_of (fun h => ?_) (fun h => ?_))) <;> (try simp only [Bool.not_eq_true', Bool.not_eq_false'] at h) <;> simp only [h,
        grpS, grpD, grpF, grpL, eop, vop, bop, uop, fltop, convop, endOk, newE, new1, freshL, Md.isNew, outV, pureV, pureX, pure1, AV.cells, AV.one, storable, laid, refless,
              refless1, vload, loadC, storeC, vnil, vfaddr, vextract, flatT, flatE, flatC, vconv, vmm, vidxA, viaddrA, vfield, vlen, elemsOf, dF32, dF64, dI64, dU8, dBool, dStr,
              esOk, elemsS, vsliceX, bnd, ownV, ownC, own1, ownT, isSl, nSl, endL, Md.isOwn, purge, purgeH, purgeB, purgeE, hasName, name1, List.any_cons, List.any_nil, Md.isWr,
              pureV.pureP, Option.map, reduceIte, Nat.reduceEqDiff, Nat.reduceAdd, Nat.reduceMul, Nat.reduceLT, Nat.reduceLeDiff, List.mapM_cons, List.mapM_nil, Option.pure_def,
              Option.bind_eq_bind, Option.bind_some, implies_true, forall_const, beq_self_eq_true, decide_true, decide_false, eq_self, Int.reduceEq, Int.reduceLE, Int.reduceLT,
              if_true, if_false, fc44_0, fc44_1, fc44_2, Int.reduceAdd, Int.reduceSub, Int.reduceMul, Int.reduceNeg, Int.reducePow, Nat.reducePow, Int.reduceToNat, Nat.reduceSub,
              List.replicate, Nat.reduceBEq, wAs, wA, wC, zipW, noDupN, grpE, grpC, en0, dc_en0]))
    all_goals (try simp only [*, m_spec_l03Greater, Bool.and_true, Bool.true_and, Bool.and_false, Bool.false_and, Bool.or_true, Bool.true_or, Bool.or_false, Bool.false_or, Bool.not_true, Bool.not_false, Bool.false_eq_true, if_true, if_false, reduceIte, decide_true, decide_false])
    all_goals (try (simp_all; done))
  · cases h
def l_spec_BoxOfPlaces_0 (x0 : (List (Nat × Nat × Nat))) : Nat → (Nat × Nat × Nat) → (Nat × Nat × Nat) → Int → Option ((Nat × Nat × Nat) × (Nat × Nat × Nat))
  | 0, _, _, _ => none
  | n + 1, z0_0, z0_1, z0_2 => (if (decide (z0_2 < ((List.length x0 : Nat) : Int))) = true then (need (inB z0_2 (List.length x0)) (l_spec_BoxOfPlaces_0 x0 n ((m_spec_l03Lesser
        z0_0.1 (atI x0 z0_2).1), (m_spec_l03Lesser z0_0.2.1 (atI x0 z0_2).2.1), (m_spec_l03Lesser z0_0.2.2 (atI x0 z0_2).2.2)) ((m_spec_l03Greater z0_1.1 (atI x0 z0_2).1),
        (m_spec_l03Greater z0_1.2.1 (atI x0 z0_2).2.1), (m_spec_l03Greater z0_1.2.2 (atI x0 z0_2).2.2)) (IntKind.wrap .i64 (z0_2 + 1)))) else (some (z0_0, z0_1)))
def m_spec_BoxOfPlaces (x0 : (List (Nat × Nat × Nat))) : ((Nat × Nat × Nat) × (Nat × Nat × Nat) × Bool) := (if (decide (((List.length x0 : Nat) : Int) < 1)) = true then ((0, 0, 0),
      (0, 0, 0), false) else (if (decide (12 < ((List.length x0 : Nat) : Int))) = true then ((0, 0, 0), (0, 0, 0), false) else ((Option.getD (l_spec_BoxOfPlaces_0 x0 (Int.toNat
      (((List.length x0 : Nat) : Int) - 0) + 2) (atI x0 0) (atI x0 0) 0) default).1, (Option.getD (l_spec_BoxOfPlaces_0 x0 (Int.toNat (((List.length x0 : Nat) : Int) - 0) + 2) (atI
      x0 0) (atI x0 0) 0) default).2, true)))
def p_spec_BoxOfPlaces (x0 : (List (Nat × Nat × Nat))) : Bool := ((decide (((List.length x0 : Nat) : Int) < 1)) || ((decide (12 < ((List.length x0 : Nat) : Int))) || ((inB 0
      (List.length x0)) && (Option.isSome (l_spec_BoxOfPlaces_0 x0 (Int.toNat (((List.length x0 : Nat) : Int) - 0) + 2) (atI x0 0) (atI x0 0) 0)))))
def g_spec_BoxOfPlaces : List AV → Option AV
  | [.sl w0] => (match decL dc_en0 w0 with | some y0 => (if p_spec_BoxOfPlaces y0 = true then some (AV.tup [(AV.agg [(.flt .f32 (m_spec_BoxOfPlaces y0).1.1), (.flt .f32 (m_spec_BoxOfPlaces y0).1.2.1), (.flt .f32 (m_spec_BoxOfPlaces y0).1.2.2)]), (AV.agg [(.flt .f32 (m_spec_BoxOfPlaces y0).2.1.1), (.flt .f32 (m_spec_BoxOfPlaces y0).2.1.2.1), (.flt .f32 (m_spec_BoxOfPlaces y0).2.1.2.2)]), (.bool (m_spec_BoxOfPlaces y0).2.2)]) else none) | none => none)
  | _ => none
def lb12_0 : ICode := (.seq (.reg [⟨(some 28), none, (.bin .lss false (.t 27) (.t 26))⟩] [0, 2, 3, 5, 6, 26, 27, 28]) (.seq (.cond (.t 28) .skip (.exit 0)) (.seq (.block 1 (.seq
      (.reg [⟨(some 29), none, (.mov (.t 27))⟩, ⟨(some 7), none, (.mov (.t 29))⟩] [0, 2, 3, 5, 6, 7, 26, 27]) (.seq (.reg [⟨(some 30), none, (.mov (.t 0))⟩, ⟨(some 31), none, (.mov
      (.t 7))⟩, ⟨(some 32), none, (.iaddrS 3 (.t 30) (.t 31))⟩, ⟨(some 33), none, (.load (some 3) (.t 32))⟩, ⟨(some 8), none, (.alloc (.agg [(.flt .f32 0), (.flt .f32 0), (.flt .f32
      0)]))⟩, ⟨none, none, (.store 3 (.t 8) (.t 33))⟩] [0, 2, 3, 5, 6, 8, 26, 27]) (.seq (.reg [⟨(some 34), none, (.faddr 0 (.t 5))⟩, ⟨(some 35), none, (.load none (.t 34))⟩, ⟨(some
      36), none, (.faddr 0 (.t 8))⟩, ⟨(some 37), none, (.load none (.t 36))⟩, ⟨(some 38), none, (.call (.fn 43) [(.t 35), (.t 37)] [])⟩, ⟨(some 39), none, (.faddr 1 (.t 5))⟩, ⟨(some
      40), none, (.load none (.t 39))⟩, ⟨(some 41), none, (.faddr 1 (.t 8))⟩, ⟨(some 42), none, (.load none (.t 41))⟩, ⟨(some 43), none, (.call (.fn 43) [(.t 40), (.t 42)] [])⟩,
      ⟨(some 44), none, (.faddr 2 (.t 5))⟩, ⟨(some 45), none, (.load none (.t 44))⟩, ⟨(some 46), none, (.faddr 2 (.t 8))⟩, ⟨(some 47), none, (.load none (.t 46))⟩, ⟨(some 48), none,
      (.call (.fn 43) [(.t 45), (.t 47)] [])⟩, ⟨(some 49), none, (.build [(.flt .f32 0), (.flt .f32 0), (.flt .f32 0)] [(0, 1, (.t 38)), (1, 1, (.t 43)), (2, 1, (.t 48))])⟩, ⟨none,
      none, (.store 3 (.o 5) (.t 49))⟩] [0, 2, 3, 5, 6, 8, 26, 27]) (.reg [⟨(some 50), none, (.faddr 0 (.t 6))⟩, ⟨(some 51), none, (.load none (.t 50))⟩, ⟨(some 52), none, (.faddr 0
      (.t 8))⟩, ⟨(some 53), none, (.load none (.t 52))⟩, ⟨(some 54), none, (.call (.fn 44) [(.t 51), (.t 53)] [])⟩, ⟨(some 55), none, (.faddr 1 (.t 6))⟩, ⟨(some 56), none, (.load
      none (.t 55))⟩, ⟨(some 57), none, (.faddr 1 (.t 8))⟩, ⟨(some 58), none, (.load none (.t 57))⟩, ⟨(some 59), none, (.call (.fn 44) [(.t 56), (.t 58)] [])⟩, ⟨(some 60), none,
      (.faddr 2 (.t 6))⟩, ⟨(some 61), none, (.load none (.t 60))⟩, ⟨(some 62), none, (.faddr 2 (.t 8))⟩, ⟨(some 63), none, (.load none (.t 62))⟩, ⟨(some 64), none, (.call (.fn 44)
      [(.t 61), (.t 63)] [])⟩, ⟨(some 65), none, (.build [(.flt .f32 0), (.flt .f32 0), (.flt .f32 0)] [(0, 1, (.t 54)), (1, 1, (.t 59)), (2, 1, (.t 64))])⟩, ⟨none, none, (.store 3
      (.o 6) (.t 65))⟩] [0, 2, 3, 5, 6, 26, 27]))))) (.reg [⟨(some 66), none, (.bin .add false (.t 27) (.c (.int .i64 1)))⟩, ⟨(some 27), none, (.mov (.t 66))⟩] [0, 2, 3, 5, 6, 26,
      27]))))
def ic12 : ICode := (.seq (.reg [⟨(some 2), none, (.alloc (.agg [(.flt .f32 0), (.flt .f32 0), (.flt .f32 0)]))⟩, ⟨(some 3), none, (.alloc (.agg [(.flt .f32 0), (.flt .f32 0), (.flt
      .f32 0)]))⟩, ⟨(some 4), none, (.mov (.c (.bool false)))⟩] [0, 2, 3]) (.seq (.seq (.reg [⟨(some 9), none, (.mov (.t 0))⟩, ⟨(some 10), none, (.len false (.t 9))⟩, ⟨(some 11),
      none, (.bin .lss false (.t 10) (.c (.int .i64 1)))⟩, ⟨(some 12), none, (.mov (.t 11))⟩, ⟨(some 13), (some (12, false)), (.mov (.t 0))⟩, ⟨(some 14), (some (12, false)), (.len
      false (.t 13))⟩, ⟨(some 15), (some (12, false)), (.bin .gtr false (.t 14) (.c (.int .i64 12)))⟩, ⟨(some 16), none, (.pick (.t 12) (.c (.bool true)) (.t 15))⟩] [0, 2, 3, 16])
      (.cond (.t 16) (.seq (.reg [⟨(some 17), none, (.build [(.flt .f32 0), (.flt .f32 0), (.flt .f32 0)] [])⟩, ⟨(some 18), none, (.build [(.flt .f32 0), (.flt .f32 0), (.flt .f32
      0)] [])⟩, ⟨none, none, (.store 3 (.t 2) (.t 17))⟩, ⟨none, none, (.store 3 (.t 3) (.t 18))⟩, ⟨(some 4), none, (.mov (.c (.bool false)))⟩] [2, 3, 4]) .ret) .skip)) (.seq (.reg
      [⟨(some 19), none, (.mov (.t 0))⟩, ⟨(some 20), none, (.iaddrS 3 (.t 19) (.c (.int .i64 0)))⟩, ⟨(some 21), none, (.load (some 3) (.t 20))⟩, ⟨(some 5), none, (.alloc (.agg
      [(.flt .f32 0), (.flt .f32 0), (.flt .f32 0)]))⟩, ⟨none, none, (.store 3 (.t 5) (.t 21))⟩] [0, 2, 3, 5]) (.seq (.reg [⟨(some 22), none, (.mov (.t 0))⟩, ⟨(some 23), none,
      (.iaddrS 3 (.t 22) (.c (.int .i64 0)))⟩, ⟨(some 24), none, (.load (some 3) (.t 23))⟩, ⟨(some 6), none, (.alloc (.agg [(.flt .f32 0), (.flt .f32 0), (.flt .f32 0)]))⟩, ⟨none,
      none, (.store 3 (.t 6) (.t 24))⟩] [0, 2, 3, 5, 6]) (.seq (.seq (.reg [⟨(some 25), none, (.mov (.t 0))⟩, ⟨(some 26), none, (.len false (.t 25))⟩, ⟨(some 27), none, (.mov (.c
      (.int .i64 0)))⟩] [0, 2, 3, 5, 6, 26, 27]) (.block 0 (.loop lb12_0))) (.seq (.reg [⟨(some 67), none, (.load (some 3) (.o 5))⟩, ⟨(some 68), none, (.load (some 3) (.o 6))⟩,
      ⟨none, none, (.store 3 (.o 2) (.t 67))⟩, ⟨none, none, (.store 3 (.o 3) (.t 68))⟩, ⟨(some 4), none, (.mov (.c (.bool true)))⟩] [2, 3, 4]) .ret))))))
def cp12 : CP := CP.mk [] [] [[0, 2, 3], [0, 2, 3, 16], [2, 3, 4], [0, 2, 3, 5], [0, 2, 3, 5, 6], [0, 2, 3, 5, 6, 26, 27], [0, 2, 3, 5, 6, 26, 27, 28], [0, 2, 3, 5, 6, 7, 26, 27],
      [0, 2, 3, 5, 6, 8, 26, 27], [0, 2, 3, 5, 6, 8, 26, 27], [0, 2, 3, 5, 6, 26, 27], [0, 2, 3, 5, 6, 26, 27], [2, 3, 4]] 69 [2, 3, 5, 6] []
theorem fc12_0 : IntKind.wrap .i64 1 = 1 := by decide
theorem fc12_1 : IntKind.wrap .i64 2 = 2 := by decide
theorem fc12_2 : IntKind.wrap .i64 3 = 3 := by decide
theorem sl12_0 (x0 : (List (Nat × Nat × Nat))) : ∀ (n : Nat) (z0_0 : (Nat × Nat × Nat)) (z0_1 : (Nat × Nat × Nat)) (z0_2 : Int) (o : ((Nat × Nat × Nat) × (Nat × Nat × Nat))) (K :
      IExit → St → Prop), l_spec_BoxOfPlaces_0 x0 n z0_0 z0_1 z0_2 = some o → (∀ st, Wk st (⟨[(2, (.lptr 2 0 0)), (3, (.lptr 3 0 0)), (5, (.lptr 5 0 0)), (6, (.lptr 6 0 0))], [(2,
      (some ⟨3, false, [(AV.agg [(.flt .f32 0), (.flt .f32 0), (.flt .f32 0)])]⟩)), (3, (some ⟨3, false, [(AV.agg [(.flt .f32 0), (.flt .f32 0), (.flt .f32 0)])]⟩)), (5, (some ⟨3,
      false, [(AV.agg [(.flt .f32 o.1.1), (.flt .f32 o.1.2.1), (.flt .f32 o.1.2.2)])]⟩)), (6, (some ⟨3, false, [(AV.agg [(.flt .f32 o.2.1), (.flt .f32 o.2.2.1), (.flt .f32
      o.2.2.2)])]⟩))]⟩ : St) → K (.exit 0) st) → eA (tabOf [(43, wM .any g_spec_l03Lesser), (44, wM .any g_spec_l03Greater)]) (.loop lb12_0) (⟨[(0, (.sl (List.map en0 x0))), (2,
      (.lptr 2 0 0)), (3, (.lptr 3 0 0)), (5, (.lptr 5 0 0)), (6, (.lptr 6 0 0)), (26, (.int .i64 ((List.length x0 : Nat) : Int))), (27, (.int .i64 z0_2))], [(2, (some ⟨3, false,
      [(AV.agg [(.flt .f32 0), (.flt .f32 0), (.flt .f32 0)])]⟩)), (3, (some ⟨3, false, [(AV.agg [(.flt .f32 0), (.flt .f32 0), (.flt .f32 0)])]⟩)), (5, (some ⟨3, false, [(AV.agg
      [(.flt .f32 z0_0.1), (.flt .f32 z0_0.2.1), (.flt .f32 z0_0.2.2)])]⟩)), (6, (some ⟨3, false, [(AV.agg [(.flt .f32 z0_1.1), (.flt .f32 z0_1.2.1), (.flt .f32 z0_1.2.2)])]⟩))]⟩ :
      St) K := by
  intro n
  induction n with
  | zero =>
    intro z0_0 z0_1 z0_2 o K h h0
    simp only [l_spec_BoxOfPlaces_0, reduceCtorEq] at h
  | succ n ih =>
    intro z0_0 z0_1 z0_2 o K h h0
    refine eA_loop ?_
    unfold lb12_0
    unfold l_spec_BoxOfPlaces_0 at h
    (try simp only [need_iff] at h)
    simp only [
      need_iff, h, grpS, grpD, grpF, grpL, eop, vop, bop, uop, fltop, convop, endOk, newE, new1, freshL, Md.isNew, outV, pureV, pureX, pure1, AV.cells, AV.one, storable, laid,
            refless, refless1, vload, loadC, storeC, vnil, vfaddr, vextract, flatT, flatE, flatC, vconv, vmm, vidxA, viaddrA, vfield, vlen, elemsOf, dF32, dF64, dI64, dU8, dBool,
            dStr, esOk, elemsS, vsliceX, bnd, ownV, ownC, own1, ownT, isSl, nSl, endL, Md.isOwn, purge, purgeH, purgeB, purgeE, hasName, name1, List.any_cons, List.any_nil, Md.isWr,
            pureV.pureP, Option.map, reduceIte, Nat.reduceEqDiff, Nat.reduceAdd, Nat.reduceMul, Nat.reduceLT, Nat.reduceLeDiff, List.mapM_cons, List.mapM_nil, Option.pure_def,
            Option.bind_eq_bind, Option.bind_some, implies_true, forall_const, beq_self_eq_true, decide_true, decide_false, eq_self, Int.reduceEq, Int.reduceLE, Int.reduceLT,
            if_true, if_false, fc12_0, fc12_1, fc12_2, Int.reduceAdd, Int.reduceSub, Int.reduceMul, Int.reduceNeg, Int.reducePow, Nat.reducePow, Int.reduceToNat, Nat.reduceSub,
            List.replicate, Nat.reduceBEq, wAs, wA, wC, zipW, noDupN, grpE, g_spec_l03Lesser, g_spec_l03Greater, grpC, en0, dc_en0, ↓b_pick, ePk_true, ePk_false]
    repeat' (first
      | ((first | (refine eGI_of (fun hc => ?_) (fun hc => ?_)) | (refine eCc_of (fun hc => ?_) (fun hc => ?_)) | (refine ePk_of (fun hc => ?_) (fun hc => ?_)) | (have hc := True.intro; refine KW_refl ?_)) <;> (try simp only [Bool.not_eq_true', Bool.not_eq_false'] at hc) <;> (try simp only [hc, need_iff, reduceCtorEq, Bool.not_eq_true', decide_eq_false_iff_not, Bool.not_true, Bool.not_false, Bool.false_or, Bool.true_or, Bool.true_and, Bool.false_and, Bool.and_eq_true, Bool.or_eq_true, if_true, if_false, reduceIte, Bool.false_eq_true, and_true, true_and, false_or, or_false, decide_eq_true_eq, not_false_eq_true, not_true_eq_false] at h) <;> (try (have hc2 := hc; simp only [decide_eq_true_eq, decide_eq_false_iff_not] at hc2; simp only [hc2, if_true, if_false, reduceCtorEq, Bool.not_eq_true', decide_eq_false_iff_not, Bool.not_true, Bool.not_false, Bool.false_or, Bool.true_or, Bool.true_and, Bool.false_and, Bool.and_eq_true, Bool.or_eq_true, if_true, if_false, reduceIte, Bool.false_eq_true, and_true, true_and, false_or, or_false, decide_eq_true_eq, not_false_eq_true, not_true_eq_false] at h)) <;> simp only [hc,
      need_iff, h, grpS, grpD, grpF, grpL, eop, vop, bop, uop, fltop, convop, endOk, newE, new1, freshL, Md.isNew, outV, pureV, pureX, pure1, AV.cells, AV.one, storable, laid,
            refless, refless1, vload, loadC, storeC, vnil, vfaddr, vextract, flatT, flatE, flatC, vconv, vmm, vidxA, viaddrA, vfield, vlen, elemsOf, dF32, dF64, dI64, dU8, dBool,
            dStr, esOk, elemsS, vsliceX, bnd, ownV, ownC, own1, ownT, isSl, nSl, endL, Md.isOwn, purge, purgeH, purgeB, purgeE, hasName, name1, List.any_cons, List.any_nil, Md.isWr,
            pureV.pureP, Option.map, reduceIte, Nat.reduceEqDiff, Nat.reduceAdd, Nat.reduceMul, Nat.reduceLT, Nat.reduceLeDiff, List.mapM_cons, List.mapM_nil, Option.pure_def,
            Option.bind_eq_bind, Option.bind_some, implies_true, forall_const, beq_self_eq_true, decide_true, decide_false, eq_self, Int.reduceEq, Int.reduceLE, Int.reduceLT,
            if_true, if_false, fc12_0, fc12_1, fc12_2, Int.reduceAdd, Int.reduceSub, Int.reduceMul, Int.reduceNeg, Int.reducePow, Nat.reducePow, Int.reduceToNat, Nat.reduceSub,
            List.replicate, Nat.reduceBEq, wAs, wA, wC, zipW, noDupN, grpE, g_spec_l03Lesser, g_spec_l03Greater, grpC, en0, dc_en0, ↓b_pick, ePk_true, ePk_false]))
    all_goals (repeat (replace h := And.right h))
    all_goals first
      | (refine eA_wk (wk_norm (ks := [0, 2, 3, 5, 6, 26, 27]) (ls := [2, 3, 5, 6]) ?_) (eA_cast ?_ (ih _ _ _ _ _ h h0)); (simp only [normOk, optIn, blkIn, nameIn,
      need_iff, h, grpS, grpD, grpF, grpL, eop, vop, bop, uop, fltop, convop, endOk, newE, new1, freshL, Md.isNew, outV, pureV, pureX, pure1, AV.cells, AV.one, storable, laid,
            refless, refless1, vload, loadC, storeC, vnil, vfaddr, vextract, flatT, flatE, flatC, vconv, vmm, vidxA, viaddrA, vfield, vlen, elemsOf, dF32, dF64, dI64, dU8, dBool,
            dStr, esOk, elemsS, vsliceX, bnd, ownV, ownC, own1, ownT, isSl, nSl, endL, Md.isOwn, purge, purgeH, purgeB, purgeE, hasName, name1, List.any_cons, List.any_nil, Md.isWr,
            pureV.pureP, Option.map, reduceIte, Nat.reduceEqDiff, Nat.reduceAdd, Nat.reduceMul, Nat.reduceLT, Nat.reduceLeDiff, List.mapM_cons, List.mapM_nil, Option.pure_def,
            Option.bind_eq_bind, Option.bind_some, implies_true, forall_const, beq_self_eq_true, decide_true, decide_false, eq_self, Int.reduceEq, Int.reduceLE, Int.reduceLT,
            if_true, if_false, fc12_0, fc12_1, fc12_2, Int.reduceAdd, Int.reduceSub, Int.reduceMul, Int.reduceNeg, Int.reducePow, Nat.reducePow, Int.reduceToNat, Nat.reduceSub,
            List.replicate, Nat.reduceBEq, wAs, wA, wC, zipW, noDupN, grpE, g_spec_l03Lesser, g_spec_l03Greater, grpC, en0, dc_en0, ↓b_pick, ePk_true, ePk_false] <;> rfl); (simp only [normS, List.map_append, List.length_append, List.map_set, List.length_set, List.map_replicate, List.length_replicate, List.map_nil, List.map_cons,
      need_iff, h, grpS, grpD, grpF, grpL, eop, vop, bop, uop, fltop, convop, endOk, newE, new1, freshL, Md.isNew, outV, pureV, pureX, pure1, AV.cells, AV.one, storable, laid,
            refless, refless1, vload, loadC, storeC, vnil, vfaddr, vextract, flatT, flatE, flatC, vconv, vmm, vidxA, viaddrA, vfield, vlen, elemsOf, dF32, dF64, dI64, dU8, dBool,
            dStr, esOk, elemsS, vsliceX, bnd, ownV, ownC, own1, ownT, isSl, nSl, endL, Md.isOwn, purge, purgeH, purgeB, purgeE, hasName, name1, List.any_cons, List.any_nil, Md.isWr,
            pureV.pureP, Option.map, reduceIte, Nat.reduceEqDiff, Nat.reduceAdd, Nat.reduceMul, Nat.reduceLT, Nat.reduceLeDiff, List.mapM_cons, List.mapM_nil, Option.pure_def,
            Option.bind_eq_bind, Option.bind_some, implies_true, forall_const, beq_self_eq_true, decide_true, decide_false, eq_self, Int.reduceEq, Int.reduceLE, Int.reduceLT,
            if_true, if_false, fc12_0, fc12_1, fc12_2, Int.reduceAdd, Int.reduceSub, Int.reduceMul, Int.reduceNeg, Int.reducePow, Nat.reducePow, Int.reduceToNat, Nat.reduceSub,
            List.replicate, Nat.reduceBEq, wAs, wA, wC, zipW, noDupN, grpE, g_spec_l03Lesser, g_spec_l03Greater, grpC, en0, dc_en0, ↓b_pick, ePk_true, ePk_false] <;> first | rfl | (simp only [Nat.add_comm]; done)))
      | (cases h; refine h0 _ (Wk.cast (wk_norm (ks := [2, 3, 5, 6]) (ls := [2, 3, 5, 6]) ?_) ?_); (simp only [normOk, optIn, blkIn, nameIn,
      grpS, grpD, grpF, grpL, eop, vop, bop, uop, fltop, convop, endOk, newE, new1, freshL, Md.isNew, outV, pureV, pureX, pure1, AV.cells, AV.one, storable, laid, refless, refless1,
            vload, loadC, storeC, vnil, vfaddr, vextract, flatT, flatE, flatC, vconv, vmm, vidxA, viaddrA, vfield, vlen, elemsOf, dF32, dF64, dI64, dU8, dBool, dStr, esOk, elemsS,
            vsliceX, bnd, ownV, ownC, own1, ownT, isSl, nSl, endL, Md.isOwn, purge, purgeH, purgeB, purgeE, hasName, name1, List.any_cons, List.any_nil, Md.isWr, pureV.pureP,
            Option.map, reduceIte, Nat.reduceEqDiff, Nat.reduceAdd, Nat.reduceMul, Nat.reduceLT, Nat.reduceLeDiff, List.mapM_cons, List.mapM_nil, Option.pure_def,
            Option.bind_eq_bind, Option.bind_some, implies_true, forall_const, beq_self_eq_true, decide_true, decide_false, eq_self, Int.reduceEq, Int.reduceLE, Int.reduceLT,
            if_true, if_false, fc12_0, fc12_1, fc12_2, Int.reduceAdd, Int.reduceSub, Int.reduceMul, Int.reduceNeg, Int.reducePow, Nat.reducePow, Int.reduceToNat, Nat.reduceSub,
            List.replicate, Nat.reduceBEq, wAs, wA, wC, zipW, noDupN, grpE, g_spec_l03Lesser, g_spec_l03Greater, grpC, en0, dc_en0, ↓b_pick, ePk_true, ePk_false] <;> rfl); (simp only [normS, List.map_append, List.length_append, List.map_set, List.length_set, List.map_replicate, List.length_replicate,
      grpS, grpD, grpF, grpL, eop, vop, bop, uop, fltop, convop, endOk, newE, new1, freshL, Md.isNew, outV, pureV, pureX, pure1, AV.cells, AV.one, storable, laid, refless, refless1,
            vload, loadC, storeC, vnil, vfaddr, vextract, flatT, flatE, flatC, vconv, vmm, vidxA, viaddrA, vfield, vlen, elemsOf, dF32, dF64, dI64, dU8, dBool, dStr, esOk, elemsS,
            vsliceX, bnd, ownV, ownC, own1, ownT, isSl, nSl, endL, Md.isOwn, purge, purgeH, purgeB, purgeE, hasName, name1, List.any_cons, List.any_nil, Md.isWr, pureV.pureP,
            Option.map, reduceIte, Nat.reduceEqDiff, Nat.reduceAdd, Nat.reduceMul, Nat.reduceLT, Nat.reduceLeDiff, List.mapM_cons, List.mapM_nil, Option.pure_def,
            Option.bind_eq_bind, Option.bind_some, implies_true, forall_const, beq_self_eq_true, decide_true, decide_false, eq_self, Int.reduceEq, Int.reduceLE, Int.reduceLT,
            if_true, if_false, fc12_0, fc12_1, fc12_2, Int.reduceAdd, Int.reduceSub, Int.reduceMul, Int.reduceNeg, Int.reducePow, Nat.reducePow, Int.reduceToNat, Nat.reduceSub,
            List.replicate, Nat.reduceBEq, wAs, wA, wC, zipW, noDupN, grpE, g_spec_l03Lesser, g_spec_l03Greater, grpC, en0, dc_en0, ↓b_pick, ePk_true, ePk_false] <;> first | rfl | (simp only [Nat.add_comm]; done)))
theorem s12 : ∀ vs r, g_spec_BoxOfPlaces vs = some r → SaysM Try.prog .any 12 vs r := by
  intro vs r h
  unfold g_spec_BoxOfPlaces at h
  split at h
  · rename_i w0
    cases hd_y0 : decL dc_en0 w0 with
    | none => rw [hd_y0] at h; cases h
    | some y0 =>
    rw [hd_y0] at h
    obtain rfl := decL_inv dc_en0_inv hd_y0
    clear hd_y0
    dsimp only at h
    split at h
    · rename_i hp
      cases h
      refine spec_of (m := .any) (tab := tabOf [(43, wM .any g_spec_l03Lesser), (44, wM .any g_spec_l03Greater)]) (cp := cp12) (ic := ic12) (rvl := [(.c 2 (some 3)), (.c 3 (some 3)), (.t 4)]) hm (tabOk_cons (m := .any) s43 (tabOk_cons (m := .any) s44 tabOk_nil)) Try.func12 rfl rfl rfl (by kernel_rfl) rfl (Nat.le_of_ble_eq_true rfl) (Nat.le_of_ble_eq_true rfl) ?_
      show eA _ _ _ _
      unfold ic12
      simp only [p_spec_BoxOfPlaces, Bool.and_eq_true, Bool.or_eq_true, decide_eq_true_eq, Bool.not_eq_true', decide_eq_false_iff_not] at hp
      simp only [
          hp, grpS, grpD, grpF, grpL, eop, vop, bop, uop, fltop, convop, endOk, newE, new1, freshL, Md.isNew, outV, pureV, pureX, pure1, AV.cells, AV.one, storable, laid, refless,
                refless1, vload, loadC, storeC, vnil, vfaddr, vextract, flatT, flatE, flatC, vconv, vmm, vidxA, viaddrA, vfield, vlen, elemsOf, dF32, dF64, dI64, dU8, dBool, dStr,
                esOk, elemsS, vsliceX, bnd, ownV, ownC, own1, ownT, isSl, nSl, endL, Md.isOwn, purge, purgeH, purgeB, purgeE, hasName, name1, List.any_cons, List.any_nil, Md.isWr,
                pureV.pureP, Option.map, reduceIte, Nat.reduceEqDiff, Nat.reduceAdd, Nat.reduceMul, Nat.reduceLT, Nat.reduceLeDiff, List.mapM_cons, List.mapM_nil, Option.pure_def,
                Option.bind_eq_bind, Option.bind_some, implies_true, forall_const, beq_self_eq_true, decide_true, decide_false, eq_self, Int.reduceEq, Int.reduceLE, Int.reduceLT,
                if_true, if_false, fc12_0, fc12_1, fc12_2, Int.reduceAdd, Int.reduceSub, Int.reduceMul, Int.reduceNeg, Int.reducePow, Nat.reducePow, Int.reduceToNat, Nat.reduceSub,
                List.replicate, Nat.reduceBEq, wAs, wA, wC, zipW, noDupN, grpE, g_spec_l03Lesser, g_spec_l03Greater, grpC, en0, dc_en0, ↓b_pick, ePk_true, ePk_false]
      repeat' (first
        | ((first | (refine eGI_of (fun h => ?_) (fun h => ?_)) | (refine eCc_of (fun h => ?_) (fun h => ?_)) | (refine ePk_of (fun h => ?_) (fun h => ?_)) | (have h := True.intro; refine KW_refl ?_)) <;> (try simp only [Bool.not_eq_true', Bool.not_eq_false'] at h) <;> (try simp only [h, reduceCtorEq, Bool.not_eq_true', decide_eq_false_iff_not, Bool.not_true, Bool.not_false, Bool.false_or, Bool.true_or, Bool.true_and, Bool.false_and, Bool.and_eq_true, Bool.or_eq_true, if_true, if_false, reduceIte, Bool.false_eq_true, and_true, true_and, false_or, or_false, decide_eq_true_eq, not_false_eq_true, not_true_eq_false] at hp) <;> (try (have h2 := h; simp only [decide_eq_true_eq, decide_eq_false_iff_not] at h2; (first | (replace h2 := eq_false h2) | (replace h2 := eq_true h2)); simp only [h2, if_true, if_false, false_or, true_or, or_true, or_false, and_true, true_and, not_false_eq_true, not_true_eq_false] at hp)) <;> simp only [h,
          hp, grpS, grpD, grpF, grpL, eop, vop, bop, uop, fltop, convop, endOk, newE, new1, freshL, Md.isNew, outV, pureV, pureX, pure1, AV.cells, AV.one, storable, laid, refless,
                refless1, vload, loadC, storeC, vnil, vfaddr, vextract, flatT, flatE, flatC, vconv, vmm, vidxA, viaddrA, vfield, vlen, elemsOf, dF32, dF64, dI64, dU8, dBool, dStr,
                esOk, elemsS, vsliceX, bnd, ownV, ownC, own1, ownT, isSl, nSl, endL, Md.isOwn, purge, purgeH, purgeB, purgeE, hasName, name1, List.any_cons, List.any_nil, Md.isWr,
                pureV.pureP, Option.map, reduceIte, Nat.reduceEqDiff, Nat.reduceAdd, Nat.reduceMul, Nat.reduceLT, Nat.reduceLeDiff, List.mapM_cons, List.mapM_nil, Option.pure_def,
                Option.bind_eq_bind, Option.bind_some, implies_true, forall_const, beq_self_eq_true, decide_true, decide_false, eq_self, Int.reduceEq, Int.reduceLE, Int.reduceLT,
                if_true, if_false, fc12_0, fc12_1, fc12_2, Int.reduceAdd, Int.reduceSub, Int.reduceMul, Int.reduceNeg, Int.reducePow, Nat.reducePow, Int.reduceToNat, Nat.reduceSub,
                List.replicate, Nat.reduceBEq, wAs, wA, wC, zipW, noDupN, grpE, g_spec_l03Lesser, g_spec_l03Greater, grpC, en0, dc_en0, ↓b_pick, ePk_true, ePk_false])
        | (refine eA_wk (wk_norm (ks := [0, 2, 3, 5, 6, 26, 27]) (ls := [2, 3, 5, 6]) ?_) (eA_cast ?_ (sl12_0 y0 _ _ _ _ _ _ (getD_some (d := default) (x := (l_spec_BoxOfPlaces_0 y0 (Int.toNat (((List.length y0 : Nat) : Int) - 0) + 2) (atI y0 0) (atI y0 0) 0)) ?_) ?_)); (simp only [nilS, nilV, normOk, optIn, blkIn, nameIn, 
          hp, grpS, grpD, grpF, grpL, eop, vop, bop, uop, fltop, convop, endOk, newE, new1, freshL, Md.isNew, outV, pureV, pureX, pure1, AV.cells, AV.one, storable, laid, refless,
                refless1, vload, loadC, storeC, vnil, vfaddr, vextract, flatT, flatE, flatC, vconv, vmm, vidxA, viaddrA, vfield, vlen, elemsOf, dF32, dF64, dI64, dU8, dBool, dStr,
                esOk, elemsS, vsliceX, bnd, ownV, ownC, own1, ownT, isSl, nSl, endL, Md.isOwn, purge, purgeH, purgeB, purgeE, hasName, name1, List.any_cons, List.any_nil, Md.isWr,
                pureV.pureP, Option.map, reduceIte, Nat.reduceEqDiff, Nat.reduceAdd, Nat.reduceMul, Nat.reduceLT, Nat.reduceLeDiff, List.mapM_cons, List.mapM_nil, Option.pure_def,
                Option.bind_eq_bind, Option.bind_some, implies_true, forall_const, beq_self_eq_true, decide_true, decide_false, eq_self, Int.reduceEq, Int.reduceLE, Int.reduceLT,
                if_true, if_false, fc12_0, fc12_1, fc12_2, Int.reduceAdd, Int.reduceSub, Int.reduceMul, Int.reduceNeg, Int.reducePow, Nat.reducePow, Int.reduceToNat, Nat.reduceSub,
                List.replicate, Nat.reduceBEq, wAs, wA, wC, zipW, noDupN, grpE, g_spec_l03Lesser, g_spec_l03Greater, grpC, en0, dc_en0, ↓b_pick, ePk_true, ePk_false] <;> rfl); (simp only [nilS, nilV, normS,  List.map_append, List.length_append, List.map_set, List.length_set, List.map_replicate, List.length_replicate, List.map_nil, List.map_cons,
          hp, grpS, grpD, grpF, grpL, eop, vop, bop, uop, fltop, convop, endOk, newE, new1, freshL, Md.isNew, outV, pureV, pureX, pure1, AV.cells, AV.one, storable, laid, refless,
                refless1, vload, loadC, storeC, vnil, vfaddr, vextract, flatT, flatE, flatC, vconv, vmm, vidxA, viaddrA, vfield, vlen, elemsOf, dF32, dF64, dI64, dU8, dBool, dStr,
                esOk, elemsS, vsliceX, bnd, ownV, ownC, own1, ownT, isSl, nSl, endL, Md.isOwn, purge, purgeH, purgeB, purgeE, hasName, name1, List.any_cons, List.any_nil, Md.isWr,
                pureV.pureP, Option.map, reduceIte, Nat.reduceEqDiff, Nat.reduceAdd, Nat.reduceMul, Nat.reduceLT, Nat.reduceLeDiff, List.mapM_cons, List.mapM_nil, Option.pure_def,
                Option.bind_eq_bind, Option.bind_some, implies_true, forall_const, beq_self_eq_true, decide_true, decide_false, eq_self, Int.reduceEq, Int.reduceLE, Int.reduceLT,
                if_true, if_false, fc12_0, fc12_1, fc12_2, Int.reduceAdd, Int.reduceSub, Int.reduceMul, Int.reduceNeg, Int.reducePow, Nat.reducePow, Int.reduceToNat, Nat.reduceSub,
                List.replicate, Nat.reduceBEq, wAs, wA, wC, zipW, noDupN, grpE, g_spec_l03Lesser, g_spec_l03Greater, grpC, en0, dc_en0, ↓b_pick, ePk_true, ePk_false] <;> first | rfl | (simp only [Nat.add_comm]; done)); (simp only [hp]); (
        intro st2 hw; (try simp only [reduceCtorEq, Bool.not_eq_true', decide_eq_false_iff_not, Bool.not_true, Bool.not_false, Bool.false_or, Bool.true_or, Bool.true_and, Bool.false_and, Bool.and_eq_true, Bool.or_eq_true, if_true, if_false, reduceIte, Bool.false_eq_true, and_true, true_and, false_or, or_false, decide_eq_true_eq, not_false_eq_true, not_true_eq_false] at hp); simp only [
          hp, grpS, grpD, grpF, grpL, eop, vop, bop, uop, fltop, convop, endOk, newE, new1, freshL, Md.isNew, outV, pureV, pureX, pure1, AV.cells, AV.one, storable, laid, refless,
                refless1, vload, loadC, storeC, vnil, vfaddr, vextract, flatT, flatE, flatC, vconv, vmm, vidxA, viaddrA, vfield, vlen, elemsOf, dF32, dF64, dI64, dU8, dBool, dStr,
                esOk, elemsS, vsliceX, bnd, ownV, ownC, own1, ownT, isSl, nSl, endL, Md.isOwn, purge, purgeH, purgeB, purgeE, hasName, name1, List.any_cons, List.any_nil, Md.isWr,
                pureV.pureP, Option.map, reduceIte, Nat.reduceEqDiff, Nat.reduceAdd, Nat.reduceMul, Nat.reduceLT, Nat.reduceLeDiff, List.mapM_cons, List.mapM_nil, Option.pure_def,
                Option.bind_eq_bind, Option.bind_some, implies_true, forall_const, beq_self_eq_true, decide_true, decide_false, eq_self, Int.reduceEq, Int.reduceLE, Int.reduceLT,
                if_true, if_false, fc12_0, fc12_1, fc12_2, Int.reduceAdd, Int.reduceSub, Int.reduceMul, Int.reduceNeg, Int.reducePow, Nat.reducePow, Int.reduceToNat, Nat.reduceSub,
                List.replicate, Nat.reduceBEq, wAs, wA, wC, zipW, noDupN, grpE, g_spec_l03Lesser, g_spec_l03Greater, grpC, en0, dc_en0, ↓b_pick, ePk_true, ePk_false]; refine KW_of hw ?_; simp only [
          hp, grpS, grpD, grpF, grpL, eop, vop, bop, uop, fltop, convop, endOk, newE, new1, freshL, Md.isNew, outV, pureV, pureX, pure1, AV.cells, AV.one, storable, laid, refless,
                refless1, vload, loadC, storeC, vnil, vfaddr, vextract, flatT, flatE, flatC, vconv, vmm, vidxA, viaddrA, vfield, vlen, elemsOf, dF32, dF64, dI64, dU8, dBool, dStr,
                esOk, elemsS, vsliceX, bnd, ownV, ownC, own1, ownT, isSl, nSl, endL, Md.isOwn, purge, purgeH, purgeB, purgeE, hasName, name1, List.any_cons, List.any_nil, Md.isWr,
                pureV.pureP, Option.map, reduceIte, Nat.reduceEqDiff, Nat.reduceAdd, Nat.reduceMul, Nat.reduceLT, Nat.reduceLeDiff, List.mapM_cons, List.mapM_nil, Option.pure_def,
                Option.bind_eq_bind, Option.bind_some, implies_true, forall_const, beq_self_eq_true, decide_true, decide_false, eq_self, Int.reduceEq, Int.reduceLE, Int.reduceLT,
                if_true, if_false, fc12_0, fc12_1, fc12_2, Int.reduceAdd, Int.reduceSub, Int.reduceMul, Int.reduceNeg, Int.reducePow, Nat.reducePow, Int.reduceToNat, Nat.reduceSub,
                List.replicate, Nat.reduceBEq, wAs, wA, wC, zipW, noDupN, grpE, g_spec_l03Lesser, g_spec_l03Greater, grpC, en0, dc_en0, ↓b_pick, ePk_true, ePk_false])))
      all_goals (try simp only [*, m_spec_BoxOfPlaces, Bool.and_true, Bool.true_and, Bool.and_false, Bool.false_and, Bool.or_true, Bool.true_or, Bool.or_false, Bool.false_or, Bool.not_true, Bool.not_false, Bool.false_eq_true, if_true, if_false, reduceIte, decide_true, decide_false])
      all_goals (try (simp_all; done))
    · cases h
  · cases h
def m_impl_lesser (x0 : Nat) (x1 : Nat) : Nat := (if (flt .f32 x1 x0) = true then x1 else x0)
def g_impl_lesser : List AV → Option AV
  | [.flt .f32 y0, .flt .f32 y1] => some (.flt .f32 (m_impl_lesser y0 y1))
  | _ => none
def ic46 : ICode := (.seq (.reg [⟨(some 4), none, (.mov (.c (.flt .f32 0)))⟩] [0, 1]) (.seq (.seq (.reg [⟨(some 5), none, (.mov (.t 1))⟩, ⟨(some 6), none, (.mov (.t 0))⟩, ⟨(some 7),
      none, (.bin .lss false (.t 5) (.t 6))⟩] [0, 1, 7]) (.cond (.t 7) (.seq (.reg [⟨(some 8), none, (.mov (.t 1))⟩, ⟨(some 4), none, (.mov (.t 8))⟩] [4]) .ret) .skip)) (.seq (.reg
      [⟨(some 9), none, (.mov (.t 0))⟩, ⟨(some 4), none, (.mov (.t 9))⟩] [4]) .ret)))
def cp46 : CP := CP.mk [] [] [[0, 1], [0, 1, 7], [4], [4]] 10 [] []
theorem fc46_0 : IntKind.wrap .i64 1 = 1 := by decide
theorem fc46_1 : IntKind.wrap .i64 2 = 2 := by decide
theorem fc46_2 : IntKind.wrap .i64 3 = 3 := by decide
theorem s46 : ∀ vs r, g_impl_lesser vs = some r → SaysM Try.prog .any 46 vs r := by
  intro vs r h
  unfold g_impl_lesser at h
  split at h
  · rename_i y0 y1
    cases h
    refine spec_of (m := .any) (tab := tabOf []) (cp := cp46) (ic := ic46) (rvl := [(.t 4)]) hm tabOk_nil Try.func46 rfl rfl rfl (by kernel_rfl) rfl (Nat.le_of_ble_eq_true rfl) (Nat.le_of_ble_eq_true rfl) ?_
    show eA _ _ _ _
    unfold ic46
    simp only [
        grpS, grpD, grpF, grpL, eop, vop, bop, uop, fltop, convop, endOk, newE, new1, freshL, Md.isNew, outV, pureV, pureX, pure1, AV.cells, AV.one, storable, laid, refless,
              refless1, vload, loadC, storeC, vnil, vfaddr, vextract, flatT, flatE, flatC, vconv, vmm, vidxA, viaddrA, vfield, vlen, elemsOf, dF32, dF64, dI64, dU8, dBool, dStr,
              esOk, elemsS, vsliceX, bnd, ownV, ownC, own1, ownT, isSl, nSl, endL, Md.isOwn, purge, purgeH, purgeB, purgeE, hasName, name1, List.any_cons, List.any_nil, Md.isWr,
              pureV.pureP, Option.map, reduceIte, Nat.reduceEqDiff, Nat.reduceAdd, Nat.reduceMul, Nat.reduceLT, Nat.reduceLeDiff, List.mapM_cons, List.mapM_nil, Option.pure_def,
              Option.bind_eq_bind, Option.bind_some, implies_true, forall_const, beq_self_eq_true, decide_true, decide_false, eq_self, Int.reduceEq, Int.reduceLE, Int.reduceLT,
              if_true, if_false, fc46_0, fc46_1, fc46_2, Int.reduceAdd, Int.reduceSub, Int.reduceMul, Int.reduceNeg, Int.reducePow, Nat.reducePow, Int.reduceToNat, Nat.reduceSub,
              List.replicate, Nat.reduceBEq, wAs, wA, wC, zipW, noDupN, grpE, grpC, en0, dc_en0]
    repeat' (first
      | ((first | (refine eGI_of (fun h => ?_) (fun h => ?_)) | (refine eCc_of (fun h => ?_) (fun h => ?_))) <;> (try simp only [Bool.not_eq_true', Bool.not_eq_false'] at h) <;> simp only [h,
        grpS, grpD, grpF, grpL, eop, vop, bop, uop, fltop, convop, endOk, newE, new1, freshL, Md.isNew, outV, pureV, pureX, pure1, AV.cells, AV.one, storable, laid, refless,
              refless1, vload, loadC, storeC, vnil, vfaddr, vextract, flatT, flatE, flatC, vconv, vmm, vidxA, viaddrA, vfield, vlen, elemsOf, dF32, dF64, dI64, dU8, dBool, dStr,
              esOk, elemsS, vsliceX, bnd, ownV, ownC, own1, ownT, isSl, nSl, endL, Md.isOwn, purge, purgeH, purgeB, purgeE, hasName, name1, List.any_cons, List.any_nil, Md.isWr,
              pureV.pureP, Option.map, reduceIte, Nat.reduceEqDiff, Nat.reduceAdd, Nat.reduceMul, Nat.reduceLT, Nat.reduceLeDiff, List.mapM_cons, List.mapM_nil, Option.pure_def,
              Option.bind_eq_bind, Option.bind_some, implies_true, forall_const, beq_self_eq_true, decide_true, decide_false, eq_self, Int.reduceEq, Int.reduceLE, Int.reduceLT,
              if_true, if_false, fc46_0, fc46_1, fc46_2, Int.reduceAdd, Int.reduceSub, Int.reduceMul, Int.reduceNeg, Int.reducePow, Nat.reducePow, Int.reduceToNat, Nat.reduceSub,
              List.replicate, Nat.reduceBEq, wAs, wA, wC, zipW, noDupN, grpE, grpC, en0, dc_en0]))
    all_goals (try simp only [*, m_impl_lesser, Bool.and_true, Bool.true_and, Bool.and_false, Bool.false_and, Bool.or_true, Bool.true_or, Bool.or_false, Bool.false_or, Bool.not_true, Bool.not_false, Bool.false_eq_true, if_true, if_false, reduceIte, decide_true, decide_false])
    all_goals (try (simp_all; done))
  · cases h
def m_impl_greater (x0 : Nat) (x1 : Nat) : Nat := (if (flt .f32 x0 x1) = true then x1 else x0)
def g_impl_greater : List AV → Option AV
  | [.flt .f32 y0, .flt .f32 y1] => some (.flt .f32 (m_impl_greater y0 y1))
  | _ => none
def ic47 : ICode := (.seq (.reg [⟨(some 4), none, (.mov (.c (.flt .f32 0)))⟩] [0, 1]) (.seq (.seq (.reg [⟨(some 5), none, (.mov (.t 1))⟩, ⟨(some 6), none, (.mov (.t 0))⟩, ⟨(some 7),
      none, (.bin .gtr false (.t 5) (.t 6))⟩] [0, 1, 7]) (.cond (.t 7) (.seq (.reg [⟨(some 8), none, (.mov (.t 1))⟩, ⟨(some 4), none, (.mov (.t 8))⟩] [4]) .ret) .skip)) (.seq (.reg
      [⟨(some 9), none, (.mov (.t 0))⟩, ⟨(some 4), none, (.mov (.t 9))⟩] [4]) .ret)))
def cp47 : CP := CP.mk [] [] [[0, 1], [0, 1, 7], [4], [4]] 10 [] []
theorem fc47_0 : IntKind.wrap .i64 1 = 1 := by decide
theorem fc47_1 : IntKind.wrap .i64 2 = 2 := by decide
theorem fc47_2 : IntKind.wrap .i64 3 = 3 := by decide
theorem s47 : ∀ vs r, g_impl_greater vs = some r → SaysM Try.prog .any 47 vs r := by
  intro vs r h
  unfold g_impl_greater at h
  split at h
  · rename_i y0 y1
    cases h
    refine spec_of (m := .any) (tab := tabOf []) (cp := cp47) (ic := ic47) (rvl := [(.t 4)]) hm tabOk_nil Try.func47 rfl rfl rfl (by kernel_rfl) rfl (Nat.le_of_ble_eq_true rfl) (Nat.le_of_ble_eq_true rfl) ?_
    show eA _ _ _ _
    unfold ic47
    simp only [
        grpS, grpD, grpF, grpL, eop, vop, bop, uop, fltop, convop, endOk, newE, new1, freshL, Md.isNew, outV, pureV, pureX, pure1, AV.cells, AV.one, storable, laid, refless,
              refless1, vload, loadC, storeC, vnil, vfaddr, vextract, flatT, flatE, flatC, vconv, vmm, vidxA, viaddrA, vfield, vlen, elemsOf, dF32, dF64, dI64, dU8, dBool, dStr,
              esOk, elemsS, vsliceX, bnd, ownV, ownC, own1, ownT, isSl, nSl, endL, Md.isOwn, purge, purgeH, purgeB, purgeE, hasName, name1, List.any_cons, List.any_nil, Md.isWr,
              pureV.pureP, Option.map, reduceIte, Nat.reduceEqDiff, Nat.reduceAdd, Nat.reduceMul, Nat.reduceLT, Nat.reduceLeDiff, List.mapM_cons, List.mapM_nil, Option.pure_def,
              Option.bind_eq_bind, Option.bind_some, implies_true, forall_const, beq_self_eq_true, decide_true, decide_false, eq_self, Int.reduceEq, Int.reduceLE, Int.reduceLT,
              if_true, if_false, fc47_0, fc47_1, fc47_2, Int.reduceAdd, Int.reduceSub, Int.reduceMul, Int.reduceNeg, Int.reducePow, Nat.reducePow, Int.reduceToNat, Nat.reduceSub,
              List.replicate, Nat.reduceBEq, wAs, wA, wC, zipW, noDupN, grpE, grpC, en0, dc_en0]
    repeat' (first
      | ((first | (refine eGI_of (fun h => ?_) (fun h => ?_)) | (refine eCc_of (fun h => ?_) (fun h => ?_))) <;> (try simp only [Bool.not_eq_true', Bool.not_eq_false'] at h) <;> simp only [h,
        grpS, grpD, grpF, grpL, eop, vop, bop, uop, fltop, convop, endOk, newE, new1, freshL, Md.isNew, outV, pureV, pureX, pure1, AV.cells, AV.one, storable, laid, refless,
              refless1, vload, loadC, storeC, vnil, vfaddr, vextract, flatT, flatE, flatC, vconv, vmm, vidxA, viaddrA, vfield, vlen, elemsOf, dF32, dF64, dI64, dU8, dBool, dStr,
              esOk, elemsS, vsliceX, bnd, ownV, ownC, own1, ownT, isSl, nSl, endL, Md.isOwn, purge, purgeH, purgeB, purgeE, hasName, name1, List.any_cons, List.any_nil, Md.isWr,
              pureV.pureP, Option.map, reduceIte, Nat.reduceEqDiff, Nat.reduceAdd, Nat.reduceMul, Nat.reduceLT, Nat.reduceLeDiff, List.mapM_cons, List.mapM_nil, Option.pure_def,
              Option.bind_eq_bind, Option.bind_some, implies_true, forall_const, beq_self_eq_true, decide_true, decide_false, eq_self, Int.reduceEq, Int.reduceLE, Int.reduceLT,
              if_true, if_false, fc47_0, fc47_1, fc47_2, Int.reduceAdd, Int.reduceSub, Int.reduceMul, Int.reduceNeg, Int.reducePow, Nat.reducePow, Int.reduceToNat, Nat.reduceSub,
              List.replicate, Nat.reduceBEq, wAs, wA, wC, zipW, noDupN, grpE, grpC, en0, dc_en0]))
    all_goals (try simp only [*, m_impl_greater, Bool.and_true, Bool.true_and, Bool.and_false, Bool.false_and, Bool.or_true, Bool.true_or, Bool.or_false, Bool.false_or, Bool.not_true, Bool.not_false, Bool.false_eq_true, if_true, if_false, reduceIte, decide_true, decide_false])
    all_goals (try (simp_all; done))
  · cases h
def l_impl_BoxOfPlaces_0 (x0 : (List (Nat × Nat × Nat))) : Nat → (Nat × Nat × Nat) → (Nat × Nat × Nat) → Int → Option ((Nat × Nat × Nat) × (Nat × Nat × Nat))
  | 0, _, _, _ => none
  | n + 1, z0_0, z0_1, z0_2 => (if (decide (z0_2 < ((List.length (List.drop 1 x0) : Nat) : Int))) = true then (need (inB z0_2 (List.length (List.drop 1 x0))) (l_impl_BoxOfPlaces_0
        x0 n ((m_impl_lesser z0_0.1 (atI (List.drop 1 x0) z0_2).1), (m_impl_lesser z0_0.2.1 (atI (List.drop 1 x0) z0_2).2.1), (m_impl_lesser z0_0.2.2 (atI (List.drop 1 x0)
        z0_2).2.2)) ((m_impl_greater z0_1.1 (atI (List.drop 1 x0) z0_2).1), (m_impl_greater z0_1.2.1 (atI (List.drop 1 x0) z0_2).2.1), (m_impl_greater z0_1.2.2 (atI (List.drop 1 x0)
        z0_2).2.2)) (IntKind.wrap .i64 (z0_2 + 1)))) else (some (z0_0, z0_1)))
def m_impl_BoxOfPlaces (x0 : (List (Nat × Nat × Nat))) : ((Nat × Nat × Nat) × (Nat × Nat × Nat) × Bool) := (if (decide (((List.length x0 : Nat) : Int) < 1)) = true then ((0, 0, 0),
      (0, 0, 0), false) else (if (decide (12 < ((List.length x0 : Nat) : Int))) = true then ((0, 0, 0), (0, 0, 0), false) else ((Option.getD (l_impl_BoxOfPlaces_0 x0 (Int.toNat
      (((List.length (List.drop 1 x0) : Nat) : Int) - 0) + 2) (atI x0 0) (atI x0 0) 0) default).1, (Option.getD (l_impl_BoxOfPlaces_0 x0 (Int.toNat (((List.length (List.drop 1 x0) :
      Nat) : Int) - 0) + 2) (atI x0 0) (atI x0 0) 0) default).2, true)))
def p_impl_BoxOfPlaces (x0 : (List (Nat × Nat × Nat))) : Bool := ((decide (((List.length x0 : Nat) : Int) < 1)) || ((decide (12 < ((List.length x0 : Nat) : Int))) || ((inB 0
      (List.length x0)) && ((decide ((1 : Nat) ≤ (List.length x0))) && (Option.isSome (l_impl_BoxOfPlaces_0 x0 (Int.toNat (((List.length (List.drop 1 x0) : Nat) : Int) - 0) + 2)
      (atI x0 0) (atI x0 0) 0))))))
def g_impl_BoxOfPlaces : List AV → Option AV
  | [.sl w0] => (match decL dc_en0 w0 with | some y0 => (if p_impl_BoxOfPlaces y0 = true then some (AV.tup [(AV.agg [(.flt .f32 (m_impl_BoxOfPlaces y0).1.1), (.flt .f32 (m_impl_BoxOfPlaces y0).1.2.1), (.flt .f32 (m_impl_BoxOfPlaces y0).1.2.2)]), (AV.agg [(.flt .f32 (m_impl_BoxOfPlaces y0).2.1.1), (.flt .f32 (m_impl_BoxOfPlaces y0).2.1.2.1), (.flt .f32 (m_impl_BoxOfPlaces y0).2.1.2.2)]), (.bool (m_impl_BoxOfPlaces y0).2.2)]) else none) | none => none)
  | _ => none
def lb14_0 : ICode := (.seq (.reg [⟨(some 29), none, (.bin .lss false (.t 28) (.t 27))⟩] [2, 3, 5, 6, 26, 27, 28, 29]) (.seq (.cond (.t 29) .skip (.exit 0)) (.seq (.block 1 (.seq
      (.reg [⟨(some 30), none, (.iaddrS 3 (.t 26) (.t 28))⟩, ⟨(some 31), none, (.load (some 3) (.t 30))⟩, ⟨(some 8), none, (.alloc (.agg [(.flt .f32 0), (.flt .f32 0), (.flt .f32
      0)]))⟩, ⟨none, none, (.store 3 (.t 8) (.t 31))⟩] [2, 3, 5, 6, 8, 26, 27, 28]) (.seq (.reg [⟨(some 32), none, (.faddr 0 (.t 5))⟩, ⟨(some 33), none, (.load none (.t 32))⟩,
      ⟨(some 34), none, (.faddr 0 (.t 8))⟩, ⟨(some 35), none, (.load none (.t 34))⟩, ⟨(some 36), none, (.call (.fn 46) [(.t 33), (.t 35)] [])⟩, ⟨(some 37), none, (.faddr 1 (.t 5))⟩,
      ⟨(some 38), none, (.load none (.t 37))⟩, ⟨(some 39), none, (.faddr 1 (.t 8))⟩, ⟨(some 40), none, (.load none (.t 39))⟩, ⟨(some 41), none, (.call (.fn 46) [(.t 38), (.t 40)]
      [])⟩, ⟨(some 42), none, (.faddr 2 (.t 5))⟩, ⟨(some 43), none, (.load none (.t 42))⟩, ⟨(some 44), none, (.faddr 2 (.t 8))⟩, ⟨(some 45), none, (.load none (.t 44))⟩, ⟨(some 46),
      none, (.call (.fn 46) [(.t 43), (.t 45)] [])⟩, ⟨(some 47), none, (.build [(.flt .f32 0), (.flt .f32 0), (.flt .f32 0)] [(0, 1, (.t 36)), (1, 1, (.t 41)), (2, 1, (.t 46))])⟩,
      ⟨none, none, (.store 3 (.o 5) (.t 47))⟩] [2, 3, 5, 6, 8, 26, 27, 28]) (.reg [⟨(some 48), none, (.faddr 0 (.t 6))⟩, ⟨(some 49), none, (.load none (.t 48))⟩, ⟨(some 50), none,
      (.faddr 0 (.t 8))⟩, ⟨(some 51), none, (.load none (.t 50))⟩, ⟨(some 52), none, (.call (.fn 47) [(.t 49), (.t 51)] [])⟩, ⟨(some 53), none, (.faddr 1 (.t 6))⟩, ⟨(some 54), none,
      (.load none (.t 53))⟩, ⟨(some 55), none, (.faddr 1 (.t 8))⟩, ⟨(some 56), none, (.load none (.t 55))⟩, ⟨(some 57), none, (.call (.fn 47) [(.t 54), (.t 56)] [])⟩, ⟨(some 58),
      none, (.faddr 2 (.t 6))⟩, ⟨(some 59), none, (.load none (.t 58))⟩, ⟨(some 60), none, (.faddr 2 (.t 8))⟩, ⟨(some 61), none, (.load none (.t 60))⟩, ⟨(some 62), none, (.call (.fn
      47) [(.t 59), (.t 61)] [])⟩, ⟨(some 63), none, (.build [(.flt .f32 0), (.flt .f32 0), (.flt .f32 0)] [(0, 1, (.t 52)), (1, 1, (.t 57)), (2, 1, (.t 62))])⟩, ⟨none, none,
      (.store 3 (.o 6) (.t 63))⟩] [2, 3, 5, 6, 26, 27, 28])))) (.reg [⟨(some 64), none, (.bin .add false (.t 28) (.c (.int .i64 1)))⟩, ⟨(some 28), none, (.mov (.t 64))⟩] [2, 3, 5,
      6, 26, 27, 28]))))
def ic14 : ICode := (.seq (.reg [⟨(some 2), none, (.alloc (.agg [(.flt .f32 0), (.flt .f32 0), (.flt .f32 0)]))⟩, ⟨(some 3), none, (.alloc (.agg [(.flt .f32 0), (.flt .f32 0), (.flt
      .f32 0)]))⟩, ⟨(some 4), none, (.mov (.c (.bool false)))⟩] [0, 2, 3]) (.seq (.seq (.reg [⟨(some 9), none, (.mov (.t 0))⟩, ⟨(some 10), none, (.len false (.t 9))⟩, ⟨(some 11),
      none, (.bin .lss false (.t 10) (.c (.int .i64 1)))⟩, ⟨(some 12), none, (.mov (.t 11))⟩, ⟨(some 13), (some (12, false)), (.mov (.t 0))⟩, ⟨(some 14), (some (12, false)), (.len
      false (.t 13))⟩, ⟨(some 15), (some (12, false)), (.bin .gtr false (.t 14) (.c (.int .i64 12)))⟩, ⟨(some 16), none, (.pick (.t 12) (.c (.bool true)) (.t 15))⟩] [0, 2, 3, 16])
      (.cond (.t 16) (.seq (.reg [⟨(some 17), none, (.build [(.flt .f32 0), (.flt .f32 0), (.flt .f32 0)] [])⟩, ⟨(some 18), none, (.build [(.flt .f32 0), (.flt .f32 0), (.flt .f32
      0)] [])⟩, ⟨none, none, (.store 3 (.t 2) (.t 17))⟩, ⟨none, none, (.store 3 (.t 3) (.t 18))⟩, ⟨(some 4), none, (.mov (.c (.bool false)))⟩] [2, 3, 4]) .ret) .skip)) (.seq (.reg
      [⟨(some 19), none, (.mov (.t 0))⟩, ⟨(some 20), none, (.iaddrS 3 (.p 19) (.c (.int .i64 0)))⟩, ⟨(some 21), none, (.load (some 3) (.p 20))⟩, ⟨(some 22), none, (.mov (.t 0))⟩,
      ⟨(some 23), none, (.iaddrS 3 (.p 22) (.c (.int .i64 0)))⟩, ⟨(some 24), none, (.load (some 3) (.p 23))⟩, ⟨(some 5), none, (.alloc (.agg [(.flt .f32 0), (.flt .f32 0), (.flt
      .f32 0)]))⟩, ⟨(some 6), none, (.alloc (.agg [(.flt .f32 0), (.flt .f32 0), (.flt .f32 0)]))⟩, ⟨none, none, (.store 3 (.o 5) (.t 21))⟩, ⟨none, none, (.store 3 (.o 6) (.t 24))⟩]
      [0, 2, 3, 5, 6]) (.seq (.seq (.reg [⟨(some 25), none, (.mov (.t 0))⟩, ⟨(some 26), none, (.sliceX 3 (.t 25) (some (.c (.int .i64 1))) none)⟩, ⟨(some 27), none, (.len false (.t
      26))⟩, ⟨(some 28), none, (.mov (.c (.int .i64 0)))⟩] [2, 3, 5, 6, 26, 27, 28]) (.block 0 (.loop lb14_0))) (.seq (.reg [⟨(some 65), none, (.load (some 3) (.o 5))⟩, ⟨(some 66),
      none, (.load (some 3) (.o 6))⟩, ⟨none, none, (.store 3 (.o 2) (.t 65))⟩, ⟨none, none, (.store 3 (.o 3) (.t 66))⟩, ⟨(some 4), none, (.mov (.c (.bool true)))⟩] [2, 3, 4])
      .ret)))))
def cp14 : CP := CP.mk [] [] [[0, 2, 3], [0, 2, 3, 16], [2, 3, 4], [0, 2, 3, 5, 6], [2, 3, 5, 6, 26, 27, 28], [2, 3, 5, 6, 26, 27, 28, 29], [2, 3, 5, 6, 8, 26, 27, 28], [2, 3, 5, 6,
      8, 26, 27, 28], [2, 3, 5, 6, 26, 27, 28], [2, 3, 5, 6, 26, 27, 28], [2, 3, 4]] 67 [2, 3, 5, 6] [19, 20, 22, 23]
theorem fc14_0 : IntKind.wrap .i64 1 = 1 := by decide
theorem fc14_1 : IntKind.wrap .i64 2 = 2 := by decide
theorem fc14_2 : IntKind.wrap .i64 3 = 3 := by decide
theorem sl14_0 (x0 : (List (Nat × Nat × Nat))) : ∀ (n : Nat) (z0_0 : (Nat × Nat × Nat)) (z0_1 : (Nat × Nat × Nat)) (z0_2 : Int) (o : ((Nat × Nat × Nat) × (Nat × Nat × Nat))) (K :
      IExit → St → Prop), l_impl_BoxOfPlaces_0 x0 n z0_0 z0_1 z0_2 = some o → (∀ st, Wk st (⟨[(2, (.lptr 2 0 0)), (3, (.lptr 3 0 0)), (5, (.lptr 5 0 0)), (6, (.lptr 6 0 0))], [(2,
      (some ⟨3, false, [(AV.agg [(.flt .f32 0), (.flt .f32 0), (.flt .f32 0)])]⟩)), (3, (some ⟨3, false, [(AV.agg [(.flt .f32 0), (.flt .f32 0), (.flt .f32 0)])]⟩)), (5, (some ⟨3,
      false, [(AV.agg [(.flt .f32 o.1.1), (.flt .f32 o.1.2.1), (.flt .f32 o.1.2.2)])]⟩)), (6, (some ⟨3, false, [(AV.agg [(.flt .f32 o.2.1), (.flt .f32 o.2.2.1), (.flt .f32
      o.2.2.2)])]⟩))]⟩ : St) → K (.exit 0) st) → eA (tabOf [(46, wM .any g_impl_lesser), (47, wM .any g_impl_greater)]) (.loop lb14_0) (⟨[(2, (.lptr 2 0 0)), (3, (.lptr 3 0 0)), (5,
      (.lptr 5 0 0)), (6, (.lptr 6 0 0)), (26, (.sl (List.map en0 (List.drop 1 x0)))), (27, (.int .i64 ((List.length (List.drop 1 x0) : Nat) : Int))), (28, (.int .i64 z0_2))], [(2,
      (some ⟨3, false, [(AV.agg [(.flt .f32 0), (.flt .f32 0), (.flt .f32 0)])]⟩)), (3, (some ⟨3, false, [(AV.agg [(.flt .f32 0), (.flt .f32 0), (.flt .f32 0)])]⟩)), (5, (some ⟨3,
      false, [(AV.agg [(.flt .f32 z0_0.1), (.flt .f32 z0_0.2.1), (.flt .f32 z0_0.2.2)])]⟩)), (6, (some ⟨3, false, [(AV.agg [(.flt .f32 z0_1.1), (.flt .f32 z0_1.2.1), (.flt .f32
      z0_1.2.2)])]⟩))]⟩ : St) K := by
  intro n
  induction n with
  | zero =>
    intro z0_0 z0_1 z0_2 o K h h0
    simp only [l_impl_BoxOfPlaces_0, reduceCtorEq] at h
  | succ n ih =>
    intro z0_0 z0_1 z0_2 o K h h0
    refine eA_loop ?_
    unfold lb14_0
    unfold l_impl_BoxOfPlaces_0 at h
    (try simp only [need_iff] at h)
    simp only [
      need_iff, h, grpS, grpD, grpF, grpL, eop, vop, bop, uop, fltop, convop, endOk, newE, new1, freshL, Md.isNew, outV, pureV, pureX, pure1, AV.cells, AV.one, storable, laid,
            refless, refless1, vload, loadC, storeC, vnil, vfaddr, vextract, flatT, flatE, flatC, vconv, vmm, vidxA, viaddrA, vfield, vlen, elemsOf, dF32, dF64, dI64, dU8, dBool,
            dStr, esOk, elemsS, vsliceX, bnd, ownV, ownC, own1, ownT, isSl, nSl, endL, Md.isOwn, purge, purgeH, purgeB, purgeE, hasName, name1, List.any_cons, List.any_nil, Md.isWr,
            pureV.pureP, Option.map, reduceIte, Nat.reduceEqDiff, Nat.reduceAdd, Nat.reduceMul, Nat.reduceLT, Nat.reduceLeDiff, List.mapM_cons, List.mapM_nil, Option.pure_def,
            Option.bind_eq_bind, Option.bind_some, implies_true, forall_const, beq_self_eq_true, decide_true, decide_false, eq_self, Int.reduceEq, Int.reduceLE, Int.reduceLT,
            if_true, if_false, fc14_0, fc14_1, fc14_2, Int.reduceAdd, Int.reduceSub, Int.reduceMul, Int.reduceNeg, Int.reducePow, Nat.reducePow, Int.reduceToNat, Nat.reduceSub,
            List.replicate, Nat.reduceBEq, wAs, wA, wC, zipW, noDupN, grpE, g_impl_lesser, g_impl_greater, grpC, en0, dc_en0, ↓b_pick, ePk_true, ePk_false]
    repeat' (first
      | ((first | (refine eGI_of (fun hc => ?_) (fun hc => ?_)) | (refine eCc_of (fun hc => ?_) (fun hc => ?_)) | (refine ePk_of (fun hc => ?_) (fun hc => ?_)) | (have hc := True.intro; refine KW_refl ?_)) <;> (try simp only [Bool.not_eq_true', Bool.not_eq_false'] at hc) <;> (try simp only [hc, need_iff, reduceCtorEq, Bool.not_eq_true', decide_eq_false_iff_not, Bool.not_true, Bool.not_false, Bool.false_or, Bool.true_or, Bool.true_and, Bool.false_and, Bool.and_eq_true, Bool.or_eq_true, if_true, if_false, reduceIte, Bool.false_eq_true, and_true, true_and, false_or, or_false, decide_eq_true_eq, not_false_eq_true, not_true_eq_false] at h) <;> (try (have hc2 := hc; simp only [decide_eq_true_eq, decide_eq_false_iff_not] at hc2; simp only [hc2, if_true, if_false, reduceCtorEq, Bool.not_eq_true', decide_eq_false_iff_not, Bool.not_true, Bool.not_false, Bool.false_or, Bool.true_or, Bool.true_and, Bool.false_and, Bool.and_eq_true, Bool.or_eq_true, if_true, if_false, reduceIte, Bool.false_eq_true, and_true, true_and, false_or, or_false, decide_eq_true_eq, not_false_eq_true, not_true_eq_false] at h)) <;> simp only [hc,
      need_iff, h, grpS, grpD, grpF, grpL, eop, vop, bop, uop, fltop, convop, endOk, newE, new1, freshL, Md.isNew, outV, pureV, pureX, pure1, AV.cells, AV.one, storable, laid,
            refless, refless1, vload, loadC, storeC, vnil, vfaddr, vextract, flatT, flatE, flatC, vconv, vmm, vidxA, viaddrA, vfield, vlen, elemsOf, dF32, dF64, dI64, dU8, dBool,
            dStr, esOk, elemsS, vsliceX, bnd, ownV, ownC, own1, ownT, isSl, nSl, endL, Md.isOwn, purge, purgeH, purgeB, purgeE, hasName, name1, List.any_cons, List.any_nil, Md.isWr,
            pureV.pureP, Option.map, reduceIte, Nat.reduceEqDiff, Nat.reduceAdd, Nat.reduceMul, Nat.reduceLT, Nat.reduceLeDiff, List.mapM_cons, List.mapM_nil, Option.pure_def,
            Option.bind_eq_bind, Option.bind_some, implies_true, forall_const, beq_self_eq_true, decide_true, decide_false, eq_self, Int.reduceEq, Int.reduceLE, Int.reduceLT,
            if_true, if_false, fc14_0, fc14_1, fc14_2, Int.reduceAdd, Int.reduceSub, Int.reduceMul, Int.reduceNeg, Int.reducePow, Nat.reducePow, Int.reduceToNat, Nat.reduceSub,
            List.replicate, Nat.reduceBEq, wAs, wA, wC, zipW, noDupN, grpE, g_impl_lesser, g_impl_greater, grpC, en0, dc_en0, ↓b_pick, ePk_true, ePk_false]))
    all_goals (repeat (replace h := And.right h))
    all_goals first
      | (refine eA_wk (wk_norm (ks := [2, 3, 5, 6, 26, 27, 28]) (ls := [2, 3, 5, 6]) ?_) (eA_cast ?_ (ih _ _ _ _ _ h h0)); (simp only [normOk, optIn, blkIn, nameIn,
      need_iff, h, grpS, grpD, grpF, grpL, eop, vop, bop, uop, fltop, convop, endOk, newE, new1, freshL, Md.isNew, outV, pureV, pureX, pure1, AV.cells, AV.one, storable, laid,
            refless, refless1, vload, loadC, storeC, vnil, vfaddr, vextract, flatT, flatE, flatC, vconv, vmm, vidxA, viaddrA, vfield, vlen, elemsOf, dF32, dF64, dI64, dU8, dBool,
            dStr, esOk, elemsS, vsliceX, bnd, ownV, ownC, own1, ownT, isSl, nSl, endL, Md.isOwn, purge, purgeH, purgeB, purgeE, hasName, name1, List.any_cons, List.any_nil, Md.isWr,
            pureV.pureP, Option.map, reduceIte, Nat.reduceEqDiff, Nat.reduceAdd, Nat.reduceMul, Nat.reduceLT, Nat.reduceLeDiff, List.mapM_cons, List.mapM_nil, Option.pure_def,
            Option.bind_eq_bind, Option.bind_some, implies_true, forall_const, beq_self_eq_true, decide_true, decide_false, eq_self, Int.reduceEq, Int.reduceLE, Int.reduceLT,
            if_true, if_false, fc14_0, fc14_1, fc14_2, Int.reduceAdd, Int.reduceSub, Int.reduceMul, Int.reduceNeg, Int.reducePow, Nat.reducePow, Int.reduceToNat, Nat.reduceSub,
            List.replicate, Nat.reduceBEq, wAs, wA, wC, zipW, noDupN, grpE, g_impl_lesser, g_impl_greater, grpC, en0, dc_en0, ↓b_pick, ePk_true, ePk_false] <;> rfl); (simp only [normS, List.map_append, List.length_append, List.map_set, List.length_set, List.map_replicate, List.length_replicate, List.map_nil, List.map_cons,
      need_iff, h, grpS, grpD, grpF, grpL, eop, vop, bop, uop, fltop, convop, endOk, newE, new1, freshL, Md.isNew, outV, pureV, pureX, pure1, AV.cells, AV.one, storable, laid,
            refless, refless1, vload, loadC, storeC, vnil, vfaddr, vextract, flatT, flatE, flatC, vconv, vmm, vidxA, viaddrA, vfield, vlen, elemsOf, dF32, dF64, dI64, dU8, dBool,
            dStr, esOk, elemsS, vsliceX, bnd, ownV, ownC, own1, ownT, isSl, nSl, endL, Md.isOwn, purge, purgeH, purgeB, purgeE, hasName, name1, List.any_cons, List.any_nil, Md.isWr,
            pureV.pureP, Option.map, reduceIte, Nat.reduceEqDiff, Nat.reduceAdd, Nat.reduceMul, Nat.reduceLT, Nat.reduceLeDiff, List.mapM_cons, List.mapM_nil, Option.pure_def,
            Option.bind_eq_bind, Option.bind_some, implies_true, forall_const, beq_self_eq_true, decide_true, decide_false, eq_self, Int.reduceEq, Int.reduceLE, Int.reduceLT,
            if_true, if_false, fc14_0, fc14_1, fc14_2, Int.reduceAdd, Int.reduceSub, Int.reduceMul, Int.reduceNeg, Int.reducePow, Nat.reducePow, Int.reduceToNat, Nat.reduceSub,
            List.replicate, Nat.reduceBEq, wAs, wA, wC, zipW, noDupN, grpE, g_impl_lesser, g_impl_greater, grpC, en0, dc_en0, ↓b_pick, ePk_true, ePk_false] <;> first | rfl | (simp only [Nat.add_comm]; done)))
      | (cases h; refine h0 _ (Wk.cast (wk_norm (ks := [2, 3, 5, 6]) (ls := [2, 3, 5, 6]) ?_) ?_); (simp only [normOk, optIn, blkIn, nameIn,
      grpS, grpD, grpF, grpL, eop, vop, bop, uop, fltop, convop, endOk, newE, new1, freshL, Md.isNew, outV, pureV, pureX, pure1, AV.cells, AV.one, storable, laid, refless, refless1,
            vload, loadC, storeC, vnil, vfaddr, vextract, flatT, flatE, flatC, vconv, vmm, vidxA, viaddrA, vfield, vlen, elemsOf, dF32, dF64, dI64, dU8, dBool, dStr, esOk, elemsS,
            vsliceX, bnd, ownV, ownC, own1, ownT, isSl, nSl, endL, Md.isOwn, purge, purgeH, purgeB, purgeE, hasName, name1, List.any_cons, List.any_nil, Md.isWr, pureV.pureP,
            Option.map, reduceIte, Nat.reduceEqDiff, Nat.reduceAdd, Nat.reduceMul, Nat.reduceLT, Nat.reduceLeDiff, List.mapM_cons, List.mapM_nil, Option.pure_def,
            Option.bind_eq_bind, Option.bind_some, implies_true, forall_const, beq_self_eq_true, decide_true, decide_false, eq_self, Int.reduceEq, Int.reduceLE, Int.reduceLT,
            if_true, if_false, fc14_0, fc14_1, fc14_2, Int.reduceAdd, Int.reduceSub, Int.reduceMul, Int.reduceNeg, Int.reducePow, Nat.reducePow, Int.reduceToNat, Nat.reduceSub,
            List.replicate, Nat.reduceBEq, wAs, wA, wC, zipW, noDupN, grpE, g_impl_lesser, g_impl_greater, grpC, en0, dc_en0, ↓b_pick, ePk_true, ePk_false] <;> rfl); (simp only [normS, List.map_append, List.length_append, List.map_set, List.length_set, List.map_replicate, List.length_replicate,
      grpS, grpD, grpF, grpL, eop, vop, bop, uop, fltop, convop, endOk, newE, new1, freshL, Md.isNew, outV, pureV, pureX, pure1, AV.cells, AV.one, storable, laid, refless, refless1,
            vload, loadC, storeC, vnil, vfaddr, vextract, flatT, flatE, flatC, vconv, vmm, vidxA, viaddrA, vfield, vlen, elemsOf, dF32, dF64, dI64, dU8, dBool, dStr, esOk, elemsS,
            vsliceX, bnd, ownV, ownC, own1, ownT, isSl, nSl, endL, Md.isOwn, purge, purgeH, purgeB, purgeE, hasName, name1, List.any_cons, List.any_nil, Md.isWr, pureV.pureP,
            Option.map, reduceIte, Nat.reduceEqDiff, Nat.reduceAdd, Nat.reduceMul, Nat.reduceLT, Nat.reduceLeDiff, List.mapM_cons, List.mapM_nil, Option.pure_def,
            Option.bind_eq_bind, Option.bind_some, implies_true, forall_const, beq_self_eq_true, decide_true, decide_false, eq_self, Int.reduceEq, Int.reduceLE, Int.reduceLT,
            if_true, if_false, fc14_0, fc14_1, fc14_2, Int.reduceAdd, Int.reduceSub, Int.reduceMul, Int.reduceNeg, Int.reducePow, Nat.reducePow, Int.reduceToNat, Nat.reduceSub,
            List.replicate, Nat.reduceBEq, wAs, wA, wC, zipW, noDupN, grpE, g_impl_lesser, g_impl_greater, grpC, en0, dc_en0, ↓b_pick, ePk_true, ePk_false] <;> first | rfl | (simp only [Nat.add_comm]; done)))
theorem s14 : ∀ vs r, g_impl_BoxOfPlaces vs = some r → SaysM Try.prog .any 14 vs r := by
  intro vs r h
  unfold g_impl_BoxOfPlaces at h
  split at h
  · rename_i w0
    cases hd_y0 : decL dc_en0 w0 with
    | none => rw [hd_y0] at h; cases h
    | some y0 =>
    rw [hd_y0] at h
    obtain rfl := decL_inv dc_en0_inv hd_y0
    clear hd_y0
    dsimp only at h
    split at h
    · rename_i hp
      cases h
      refine spec_of (m := .any) (tab := tabOf [(46, wM .any g_impl_lesser), (47, wM .any g_impl_greater)]) (cp := cp14) (ic := ic14) (rvl := [(.c 2 (some 3)), (.c 3 (some 3)), (.t 4)]) hm (tabOk_cons (m := .any) s46 (tabOk_cons (m := .any) s47 tabOk_nil)) Try.func14 rfl rfl rfl (by kernel_rfl) rfl (Nat.le_of_ble_eq_true rfl) (Nat.le_of_ble_eq_true rfl) ?_
      show eA _ _ _ _
      unfold ic14
      simp only [p_impl_BoxOfPlaces, Bool.and_eq_true, Bool.or_eq_true, decide_eq_true_eq, Bool.not_eq_true', decide_eq_false_iff_not] at hp
      simp only [
          hp, grpS, grpD, grpF, grpL, eop, vop, bop, uop, fltop, convop, endOk, newE, new1, freshL, Md.isNew, outV, pureV, pureX, pure1, AV.cells, AV.one, storable, laid, refless,
                refless1, vload, loadC, storeC, vnil, vfaddr, vextract, flatT, flatE, flatC, vconv, vmm, vidxA, viaddrA, vfield, vlen, elemsOf, dF32, dF64, dI64, dU8, dBool, dStr,
                esOk, elemsS, vsliceX, bnd, ownV, ownC, own1, ownT, isSl, nSl, endL, Md.isOwn, purge, purgeH, purgeB, purgeE, hasName, name1, List.any_cons, List.any_nil, Md.isWr,
                pureV.pureP, Option.map, reduceIte, Nat.reduceEqDiff, Nat.reduceAdd, Nat.reduceMul, Nat.reduceLT, Nat.reduceLeDiff, List.mapM_cons, List.mapM_nil, Option.pure_def,
                Option.bind_eq_bind, Option.bind_some, implies_true, forall_const, beq_self_eq_true, decide_true, decide_false, eq_self, Int.reduceEq, Int.reduceLE, Int.reduceLT,
                if_true, if_false, fc14_0, fc14_1, fc14_2, Int.reduceAdd, Int.reduceSub, Int.reduceMul, Int.reduceNeg, Int.reducePow, Nat.reducePow, Int.reduceToNat, Nat.reduceSub,
                List.replicate, Nat.reduceBEq, wAs, wA, wC, zipW, noDupN, grpE, g_impl_lesser, g_impl_greater, grpC, en0, dc_en0, ↓b_pick, ePk_true, ePk_false]
      repeat' (first
        | ((first | (refine eGI_of (fun h => ?_) (fun h => ?_)) | (refine eCc_of (fun h => ?_) (fun h => ?_)) | (refine ePk_of (fun h => ?_) (fun h => ?_)) | (have h := True.intro; refine KW_refl ?_)) <;> (try simp only [Bool.not_eq_true', Bool.not_eq_false'] at h) <;> (try simp only [h, reduceCtorEq, Bool.not_eq_true', decide_eq_false_iff_not, Bool.not_true, Bool.not_false, Bool.false_or, Bool.true_or, Bool.true_and, Bool.false_and, Bool.and_eq_true, Bool.or_eq_true, if_true, if_false, reduceIte, Bool.false_eq_true, and_true, true_and, false_or, or_false, decide_eq_true_eq, not_false_eq_true, not_true_eq_false] at hp) <;> (try (have h2 := h; simp only [decide_eq_true_eq, decide_eq_false_iff_not] at h2; (first | (replace h2 := eq_false h2) | (replace h2 := eq_true h2)); simp only [h2, if_true, if_false, false_or, true_or, or_true, or_false, and_true, true_and, not_false_eq_true, not_true_eq_false] at hp)) <;> simp only [h,
          hp, grpS, grpD, grpF, grpL, eop, vop, bop, uop, fltop, convop, endOk, newE, new1, freshL, Md.isNew, outV, pureV, pureX, pure1, AV.cells, AV.one, storable, laid, refless,
                refless1, vload, loadC, storeC, vnil, vfaddr, vextract, flatT, flatE, flatC, vconv, vmm, vidxA, viaddrA, vfield, vlen, elemsOf, dF32, dF64, dI64, dU8, dBool, dStr,
                esOk, elemsS, vsliceX, bnd, ownV, ownC, own1, ownT, isSl, nSl, endL, Md.isOwn, purge, purgeH, purgeB, purgeE, hasName, name1, List.any_cons, List.any_nil, Md.isWr,
                pureV.pureP, Option.map, reduceIte, Nat.reduceEqDiff, Nat.reduceAdd, Nat.reduceMul, Nat.reduceLT, Nat.reduceLeDiff, List.mapM_cons, List.mapM_nil, Option.pure_def,
                Option.bind_eq_bind, Option.bind_some, implies_true, forall_const, beq_self_eq_true, decide_true, decide_false, eq_self, Int.reduceEq, Int.reduceLE, Int.reduceLT,
                if_true, if_false, fc14_0, fc14_1, fc14_2, Int.reduceAdd, Int.reduceSub, Int.reduceMul, Int.reduceNeg, Int.reducePow, Nat.reducePow, Int.reduceToNat, Nat.reduceSub,
                List.replicate, Nat.reduceBEq, wAs, wA, wC, zipW, noDupN, grpE, g_impl_lesser, g_impl_greater, grpC, en0, dc_en0, ↓b_pick, ePk_true, ePk_false])
        | (refine eA_wk (wk_norm (ks := [2, 3, 5, 6, 26, 27, 28]) (ls := [2, 3, 5, 6]) ?_) (eA_cast ?_ (sl14_0 y0 _ _ _ _ _ _ (getD_some (d := default) (x := (l_impl_BoxOfPlaces_0 y0 (Int.toNat (((List.length (List.drop 1 y0) : Nat) : Int) - 0) + 2) (atI y0 0) (atI y0 0) 0)) ?_) ?_)); (simp only [nilS, nilV, normOk, optIn, blkIn, nameIn, 
          hp, grpS, grpD, grpF, grpL, eop, vop, bop, uop, fltop, convop, endOk, newE, new1, freshL, Md.isNew, outV, pureV, pureX, pure1, AV.cells, AV.one, storable, laid, refless,
                refless1, vload, loadC, storeC, vnil, vfaddr, vextract, flatT, flatE, flatC, vconv, vmm, vidxA, viaddrA, vfield, vlen, elemsOf, dF32, dF64, dI64, dU8, dBool, dStr,
                esOk, elemsS, vsliceX, bnd, ownV, ownC, own1, ownT, isSl, nSl, endL, Md.isOwn, purge, purgeH, purgeB, purgeE, hasName, name1, List.any_cons, List.any_nil, Md.isWr,
                pureV.pureP, Option.map, reduceIte, Nat.reduceEqDiff, Nat.reduceAdd, Nat.reduceMul, Nat.reduceLT, Nat.reduceLeDiff, List.mapM_cons, List.mapM_nil, Option.pure_def,
                Option.bind_eq_bind, Option.bind_some, implies_true, forall_const, beq_self_eq_true, decide_true, decide_false, eq_self, Int.reduceEq, Int.reduceLE, Int.reduceLT,
                if_true, if_false, fc14_0, fc14_1, fc14_2, Int.reduceAdd, Int.reduceSub, Int.reduceMul, Int.reduceNeg, Int.reducePow, Nat.reducePow, Int.reduceToNat, Nat.reduceSub,
                List.replicate, Nat.reduceBEq, wAs, wA, wC, zipW, noDupN, grpE, g_impl_lesser, g_impl_greater, grpC, en0, dc_en0, ↓b_pick, ePk_true, ePk_false] <;> rfl); (simp only [nilS, nilV, normS,  List.map_append, List.length_append, List.map_set, List.length_set, List.map_replicate, List.length_replicate, List.map_nil, List.map_cons,
          hp, grpS, grpD, grpF, grpL, eop, vop, bop, uop, fltop, convop, endOk, newE, new1, freshL, Md.isNew, outV, pureV, pureX, pure1, AV.cells, AV.one, storable, laid, refless,
                refless1, vload, loadC, storeC, vnil, vfaddr, vextract, flatT, flatE, flatC, vconv, vmm, vidxA, viaddrA, vfield, vlen, elemsOf, dF32, dF64, dI64, dU8, dBool, dStr,
                esOk, elemsS, vsliceX, bnd, ownV, ownC, own1, ownT, isSl, nSl, endL, Md.isOwn, purge, purgeH, purgeB, purgeE, hasName, name1, List.any_cons, List.any_nil, Md.isWr,
                pureV.pureP, Option.map, reduceIte, Nat.reduceEqDiff, Nat.reduceAdd, Nat.reduceMul, Nat.reduceLT, Nat.reduceLeDiff, List.mapM_cons, List.mapM_nil, Option.pure_def,
                Option.bind_eq_bind, Option.bind_some, implies_true, forall_const, beq_self_eq_true, decide_true, decide_false, eq_self, Int.reduceEq, Int.reduceLE, Int.reduceLT,
                if_true, if_false, fc14_0, fc14_1, fc14_2, Int.reduceAdd, Int.reduceSub, Int.reduceMul, Int.reduceNeg, Int.reducePow, Nat.reducePow, Int.reduceToNat, Nat.reduceSub,
                List.replicate, Nat.reduceBEq, wAs, wA, wC, zipW, noDupN, grpE, g_impl_lesser, g_impl_greater, grpC, en0, dc_en0, ↓b_pick, ePk_true, ePk_false] <;> first | rfl | (simp only [Nat.add_comm]; done)); (simp only [hp]); (
        intro st2 hw; (try simp only [reduceCtorEq, Bool.not_eq_true', decide_eq_false_iff_not, Bool.not_true, Bool.not_false, Bool.false_or, Bool.true_or, Bool.true_and, Bool.false_and, Bool.and_eq_true, Bool.or_eq_true, if_true, if_false, reduceIte, Bool.false_eq_true, and_true, true_and, false_or, or_false, decide_eq_true_eq, not_false_eq_true, not_true_eq_false] at hp); simp only [
          hp, grpS, grpD, grpF, grpL, eop, vop, bop, uop, fltop, convop, endOk, newE, new1, freshL, Md.isNew, outV, pureV, pureX, pure1, AV.cells, AV.one, storable, laid, refless,
                refless1, vload, loadC, storeC, vnil, vfaddr, vextract, flatT, flatE, flatC, vconv, vmm, vidxA, viaddrA, vfield, vlen, elemsOf, dF32, dF64, dI64, dU8, dBool, dStr,
                esOk, elemsS, vsliceX, bnd, ownV, ownC, own1, ownT, isSl, nSl, endL, Md.isOwn, purge, purgeH, purgeB, purgeE, hasName, name1, List.any_cons, List.any_nil, Md.isWr,
                pureV.pureP, Option.map, reduceIte, Nat.reduceEqDiff, Nat.reduceAdd, Nat.reduceMul, Nat.reduceLT, Nat.reduceLeDiff, List.mapM_cons, List.mapM_nil, Option.pure_def,
                Option.bind_eq_bind, Option.bind_some, implies_true, forall_const, beq_self_eq_true, decide_true, decide_false, eq_self, Int.reduceEq, Int.reduceLE, Int.reduceLT,
                if_true, if_false, fc14_0, fc14_1, fc14_2, Int.reduceAdd, Int.reduceSub, Int.reduceMul, Int.reduceNeg, Int.reducePow, Nat.reducePow, Int.reduceToNat, Nat.reduceSub,
                List.replicate, Nat.reduceBEq, wAs, wA, wC, zipW, noDupN, grpE, g_impl_lesser, g_impl_greater, grpC, en0, dc_en0, ↓b_pick, ePk_true, ePk_false]; refine KW_of hw ?_; simp only [
          hp, grpS, grpD, grpF, grpL, eop, vop, bop, uop, fltop, convop, endOk, newE, new1, freshL, Md.isNew, outV, pureV, pureX, pure1, AV.cells, AV.one, storable, laid, refless,
                refless1, vload, loadC, storeC, vnil, vfaddr, vextract, flatT, flatE, flatC, vconv, vmm, vidxA, viaddrA, vfield, vlen, elemsOf, dF32, dF64, dI64, dU8, dBool, dStr,
                esOk, elemsS, vsliceX, bnd, ownV, ownC, own1, ownT, isSl, nSl, endL, Md.isOwn, purge, purgeH, purgeB, purgeE, hasName, name1, List.any_cons, List.any_nil, Md.isWr,
                pureV.pureP, Option.map, reduceIte, Nat.reduceEqDiff, Nat.reduceAdd, Nat.reduceMul, Nat.reduceLT, Nat.reduceLeDiff, List.mapM_cons, List.mapM_nil, Option.pure_def,
                Option.bind_eq_bind, Option.bind_some, implies_true, forall_const, beq_self_eq_true, decide_true, decide_false, eq_self, Int.reduceEq, Int.reduceLE, Int.reduceLT,
                if_true, if_false, fc14_0, fc14_1, fc14_2, Int.reduceAdd, Int.reduceSub, Int.reduceMul, Int.reduceNeg, Int.reducePow, Nat.reducePow, Int.reduceToNat, Nat.reduceSub,
                List.replicate, Nat.reduceBEq, wAs, wA, wC, zipW, noDupN, grpE, g_impl_lesser, g_impl_greater, grpC, en0, dc_en0, ↓b_pick, ePk_true, ePk_false])))
      all_goals (try simp only [*, m_impl_BoxOfPlaces, Bool.and_true, Bool.true_and, Bool.and_false, Bool.false_and, Bool.or_true, Bool.true_or, Bool.or_false, Bool.false_or, Bool.not_true, Bool.not_false, Bool.false_eq_true, if_true, if_false, reduceIte, decide_true, decide_false])
      all_goals (try (simp_all; done))
    · cases h
  · cases h
def m_laws_sameFloat (x0 : Nat) (x1 : Nat) : Bool := (if (feq .f64 x0 x0) = true then (if (feq .f64 x1 x1) = true then (if (feq .f64 x0 0) = true then (if (feq .f64 x1 0) = true
      then ((flt .f64 0 (fdiv .f64 4607182418800017408 x0)) == (flt .f64 0 (fdiv .f64 4607182418800017408 x1))) else (feq .f64 x0 x1)) else (feq .f64 x0 x1)) else false) else (!(feq
      .f64 x1 x1)))
def g_laws_sameFloat : List AV → Option AV
  | [.flt .f64 y0, .flt .f64 y1] => some (.bool (m_laws_sameFloat y0 y1))
  | _ => none
def ic48 : ICode := (.seq (.reg [⟨(some 4), none, (.mov (.c (.bool false)))⟩] [0, 1]) (.seq (.seq (.reg [⟨(some 5), none, (.mov (.t 0))⟩, ⟨(some 6), none, (.mov (.t 0))⟩, ⟨(some 7),
      none, (.bin .neq false (.t 5) (.t 6))⟩, ⟨(some 8), none, (.mov (.t 7))⟩, ⟨(some 9), (some (8, false)), (.mov (.t 1))⟩, ⟨(some 10), (some (8, false)), (.mov (.t 1))⟩, ⟨(some
      11), (some (8, false)), (.bin .neq false (.t 9) (.t 10))⟩, ⟨(some 12), none, (.pick (.t 8) (.c (.bool true)) (.t 11))⟩] [0, 1, 12]) (.cond (.t 12) (.seq (.reg [⟨(some 13),
      none, (.mov (.t 0))⟩, ⟨(some 14), none, (.mov (.t 0))⟩, ⟨(some 15), none, (.bin .neq false (.t 13) (.t 14))⟩, ⟨(some 16), none, (.mov (.t 15))⟩, ⟨(some 17), (some (16, true)),
      (.mov (.t 1))⟩, ⟨(some 18), (some (16, true)), (.mov (.t 1))⟩, ⟨(some 19), (some (16, true)), (.bin .neq false (.t 17) (.t 18))⟩, ⟨(some 20), none, (.pick (.t 16) (.t 19) (.c
      (.bool false)))⟩, ⟨(some 4), none, (.mov (.t 20))⟩] [4]) .ret) .skip)) (.seq (.seq (.reg [⟨(some 21), none, (.mov (.t 0))⟩, ⟨(some 22), none, (.bin .eql false (.t 21) (.c
      (.flt .f64 0)))⟩, ⟨(some 23), none, (.mov (.t 22))⟩, ⟨(some 24), (some (23, true)), (.mov (.t 1))⟩, ⟨(some 25), (some (23, true)), (.bin .eql false (.t 24) (.c (.flt .f64
      0)))⟩, ⟨(some 26), none, (.pick (.t 23) (.t 25) (.c (.bool false)))⟩] [0, 1, 26]) (.cond (.t 26) (.seq (.reg [⟨(some 27), none, (.mov (.t 0))⟩, ⟨(some 28), none, (.bin .quo
      false (.c (.flt .f64 4607182418800017408)) (.t 27))⟩, ⟨(some 29), none, (.bin .gtr false (.t 28) (.c (.flt .f64 0)))⟩, ⟨(some 30), none, (.mov (.t 1))⟩, ⟨(some 31), none,
      (.bin .quo false (.c (.flt .f64 4607182418800017408)) (.t 30))⟩, ⟨(some 32), none, (.bin .gtr false (.t 31) (.c (.flt .f64 0)))⟩, ⟨(some 33), none, (.bin .eql true (.t 29) (.t
      32))⟩, ⟨(some 4), none, (.mov (.t 33))⟩] [4]) .ret) .skip)) (.seq (.reg [⟨(some 34), none, (.mov (.t 0))⟩, ⟨(some 35), none, (.mov (.t 1))⟩, ⟨(some 36), none, (.bin .eql false
      (.t 34) (.t 35))⟩, ⟨(some 4), none, (.mov (.t 36))⟩] [4]) .ret))))
def cp48 : CP := CP.mk [] [] [[0, 1], [0, 1, 12], [4], [0, 1, 26], [4], [4]] 37 [] []
theorem fc48_0 : IntKind.wrap .i64 1 = 1 := by decide
theorem fc48_1 : IntKind.wrap .i64 2 = 2 := by decide
theorem fc48_2 : IntKind.wrap .i64 3 = 3 := by decide
theorem s48 : ∀ vs r, g_laws_sameFloat vs = some r → SaysM Try.prog .any 48 vs r := by
  intro vs r h
  unfold g_laws_sameFloat at h
  split at h
  · rename_i y0 y1
    cases h
    refine spec_of (m := .any) (tab := tabOf []) (cp := cp48) (ic := ic48) (rvl := [(.t 4)]) hm tabOk_nil Try.func48 rfl rfl rfl (by kernel_rfl) rfl (Nat.le_of_ble_eq_true rfl) (Nat.le_of_ble_eq_true rfl) ?_
    show eA _ _ _ _
    unfold ic48
    simp only [
        grpS, grpD, grpF, grpL, eop, vop, bop, uop, fltop, convop, endOk, newE, new1, freshL, Md.isNew, outV, pureV, pureX, pure1, AV.cells, AV.one, storable, laid, refless,
              refless1, vload, loadC, storeC, vnil, vfaddr, vextract, flatT, flatE, flatC, vconv, vmm, vidxA, viaddrA, vfield, vlen, elemsOf, dF32, dF64, dI64, dU8, dBool, dStr,
              esOk, elemsS, vsliceX, bnd, ownV, ownC, own1, ownT, isSl, nSl, endL, Md.isOwn, purge, purgeH, purgeB, purgeE, hasName, name1, List.any_cons, List.any_nil, Md.isWr,
              pureV.pureP, Option.map, reduceIte, Nat.reduceEqDiff, Nat.reduceAdd, Nat.reduceMul, Nat.reduceLT, Nat.reduceLeDiff, List.mapM_cons, List.mapM_nil, Option.pure_def,
              Option.bind_eq_bind, Option.bind_some, implies_true, forall_const, beq_self_eq_true, decide_true, decide_false, eq_self, Int.reduceEq, Int.reduceLE, Int.reduceLT,
              if_true, if_false, fc48_0, fc48_1, fc48_2, Int.reduceAdd, Int.reduceSub, Int.reduceMul, Int.reduceNeg, Int.reducePow, Nat.reducePow, Int.reduceToNat, Nat.reduceSub,
              List.replicate, Nat.reduceBEq, wAs, wA, wC, zipW, noDupN, grpE, grpC, en0, dc_en0, ↓b_pick, ePk_true, ePk_false]
    repeat' (first
      | ((first | (refine eGI_of (fun h => ?_) (fun h => ?_)) | (refine eCc_of (fun h => ?_) (fun h => ?_)) | (refine ePk_of (fun h => ?_) (fun h => ?_))) <;> (try simp only [Bool.not_eq_true', Bool.not_eq_false'] at h) <;> simp only [h,
        grpS, grpD, grpF, grpL, eop, vop, bop, uop, fltop, convop, endOk, newE, new1, freshL, Md.isNew, outV, pureV, pureX, pure1, AV.cells, AV.one, storable, laid, refless,
              refless1, vload, loadC, storeC, vnil, vfaddr, vextract, flatT, flatE, flatC, vconv, vmm, vidxA, viaddrA, vfield, vlen, elemsOf, dF32, dF64, dI64, dU8, dBool, dStr,
              esOk, elemsS, vsliceX, bnd, ownV, ownC, own1, ownT, isSl, nSl, endL, Md.isOwn, purge, purgeH, purgeB, purgeE, hasName, name1, List.any_cons, List.any_nil, Md.isWr,
              pureV.pureP, Option.map, reduceIte, Nat.reduceEqDiff, Nat.reduceAdd, Nat.reduceMul, Nat.reduceLT, Nat.reduceLeDiff, List.mapM_cons, List.mapM_nil, Option.pure_def,
              Option.bind_eq_bind, Option.bind_some, implies_true, forall_const, beq_self_eq_true, decide_true, decide_false, eq_self, Int.reduceEq, Int.reduceLE, Int.reduceLT,
              if_true, if_false, fc48_0, fc48_1, fc48_2, Int.reduceAdd, Int.reduceSub, Int.reduceMul, Int.reduceNeg, Int.reducePow, Nat.reducePow, Int.reduceToNat, Nat.reduceSub,
              List.replicate, Nat.reduceBEq, wAs, wA, wC, zipW, noDupN, grpE, grpC, en0, dc_en0, ↓b_pick, ePk_true, ePk_false]))
    all_goals (try simp only [*, m_laws_sameFloat, Bool.and_true, Bool.true_and, Bool.and_false, Bool.false_and, Bool.or_true, Bool.true_or, Bool.or_false, Bool.false_or, Bool.not_true, Bool.not_false, Bool.false_eq_true, if_true, if_false, reduceIte, decide_true, decide_false])
    all_goals (try (simp_all; done))
  · cases h
def m_laws_eqVector (x0 : (Nat × Nat × Nat)) (x1 : (Nat × Nat × Nat)) : Bool := (if (m_laws_sameFloat (widen x0.1) (widen x1.1)) = true then (if (m_laws_sameFloat (widen x0.2.1)
      (widen x1.2.1)) = true then (if (m_laws_sameFloat (widen x0.2.2) (widen x1.2.2)) = true then true else false) else false) else false)
def g_laws_eqVector : List AV → Option AV
  | [.agg [.flt .f32 y0, .flt .f32 y1, .flt .f32 y2], .agg [.flt .f32 y3, .flt .f32 y4, .flt .f32 y5]] => some (.bool (m_laws_eqVector (y0,
      y1, y2) (y3, y4, y5)))
  | _ => none
def ic15 : ICode := (.seq (.reg [⟨(some 2), none, (.box 3 (.t 0))⟩, ⟨(some 3), none, (.box 3 (.t 1))⟩, ⟨(some 4), none, (.mov (.c (.bool false)))⟩] [2, 3]) (.seq (.seq (.reg [⟨(some
      5), none, (.faddr 0 (.t 2))⟩, ⟨(some 6), none, (.load none (.t 5))⟩, ⟨(some 7), none, (.conv (.flt .f64) (.t 6))⟩, ⟨(some 8), none, (.faddr 0 (.t 3))⟩, ⟨(some 9), none, (.load
      none (.t 8))⟩, ⟨(some 10), none, (.conv (.flt .f64) (.t 9))⟩, ⟨(some 11), none, (.call (.fn 48) [(.t 7), (.t 10)] [])⟩, ⟨(some 12), none, (.un .not (.t 11))⟩] [2, 3, 12])
      (.cond (.t 12) (.seq (.reg [⟨(some 4), none, (.mov (.c (.bool false)))⟩] [4]) .ret) .skip)) (.seq (.seq (.reg [⟨(some 13), none, (.faddr 1 (.t 2))⟩, ⟨(some 14), none, (.load
      none (.t 13))⟩, ⟨(some 15), none, (.conv (.flt .f64) (.t 14))⟩, ⟨(some 16), none, (.faddr 1 (.t 3))⟩, ⟨(some 17), none, (.load none (.t 16))⟩, ⟨(some 18), none, (.conv (.flt
      .f64) (.t 17))⟩, ⟨(some 19), none, (.call (.fn 48) [(.t 15), (.t 18)] [])⟩, ⟨(some 20), none, (.un .not (.t 19))⟩] [2, 3, 20]) (.cond (.t 20) (.seq (.reg [⟨(some 4), none,
      (.mov (.c (.bool false)))⟩] [4]) .ret) .skip)) (.seq (.seq (.reg [⟨(some 21), none, (.faddr 2 (.t 2))⟩, ⟨(some 22), none, (.load none (.t 21))⟩, ⟨(some 23), none, (.conv (.flt
      .f64) (.t 22))⟩, ⟨(some 24), none, (.faddr 2 (.t 3))⟩, ⟨(some 25), none, (.load none (.t 24))⟩, ⟨(some 26), none, (.conv (.flt .f64) (.t 25))⟩, ⟨(some 27), none, (.call (.fn
      48) [(.t 23), (.t 26)] [])⟩, ⟨(some 28), none, (.un .not (.t 27))⟩] [28]) (.cond (.t 28) (.seq (.reg [⟨(some 4), none, (.mov (.c (.bool false)))⟩] [4]) .ret) .skip)) (.seq
      (.reg [⟨(some 4), none, (.mov (.c (.bool true)))⟩] [4]) .ret)))))
def cp15 : CP := CP.mk [] [] [[2, 3], [2, 3, 12], [4], [2, 3, 20], [4], [28], [4], [4]] 29 [] []
theorem fc15_0 : IntKind.wrap .i64 1 = 1 := by decide
theorem fc15_1 : IntKind.wrap .i64 2 = 2 := by decide
theorem fc15_2 : IntKind.wrap .i64 3 = 3 := by decide
theorem s15 : ∀ vs r, g_laws_eqVector vs = some r → SaysM Try.prog .any 15 vs r := by
  intro vs r h
  unfold g_laws_eqVector at h
  split at h
  · rename_i y0 y1 y2 y3 y4 y5
    cases h
    refine spec_of (m := .any) (tab := tabOf [(48, wM .any g_laws_sameFloat)]) (cp := cp15) (ic := ic15) (rvl := [(.t 4)]) hm (tabOk_cons (m := .any) s48 tabOk_nil) Try.func15 rfl rfl rfl (by kernel_rfl) rfl (Nat.le_of_ble_eq_true rfl) (Nat.le_of_ble_eq_true rfl) ?_
    show eA _ _ _ _
    unfold ic15
    simp only [
        grpS, grpD, grpF, grpL, eop, vop, bop, uop, fltop, convop, endOk, newE, new1, freshL, Md.isNew, outV, pureV, pureX, pure1, AV.cells, AV.one, storable, laid, refless,
              refless1, vload, loadC, storeC, vnil, vfaddr, vextract, flatT, flatE, flatC, vconv, vmm, vidxA, viaddrA, vfield, vlen, elemsOf, dF32, dF64, dI64, dU8, dBool, dStr,
              esOk, elemsS, vsliceX, bnd, ownV, ownC, own1, ownT, isSl, nSl, endL, Md.isOwn, purge, purgeH, purgeB, purgeE, hasName, name1, List.any_cons, List.any_nil, Md.isWr,
              pureV.pureP, Option.map, reduceIte, Nat.reduceEqDiff, Nat.reduceAdd, Nat.reduceMul, Nat.reduceLT, Nat.reduceLeDiff, List.mapM_cons, List.mapM_nil, Option.pure_def,
              Option.bind_eq_bind, Option.bind_some, implies_true, forall_const, beq_self_eq_true, decide_true, decide_false, eq_self, Int.reduceEq, Int.reduceLE, Int.reduceLT,
              if_true, if_false, fc15_0, fc15_1, fc15_2, Int.reduceAdd, Int.reduceSub, Int.reduceMul, Int.reduceNeg, Int.reducePow, Nat.reducePow, Int.reduceToNat, Nat.reduceSub,
              List.replicate, Nat.reduceBEq, wAs, wA, wC, zipW, noDupN, grpE, g_laws_sameFloat, grpC, en0, dc_en0]
    repeat' (first
      | ((first | (refine eGI_of (fun h => ?_) (fun h => ?_)) | (refine eCc_of (fun h => ?_) (fun h => ?_))) <;> (try simp only [Bool.not_eq_true', Bool.not_eq_false'] at h) <;> simp only [h,
        grpS, grpD, grpF, grpL, eop, vop, bop, uop, fltop, convop, endOk, newE, new1, freshL, Md.isNew, outV, pureV, pureX, pure1, AV.cells, AV.one, storable, laid, refless,
              refless1, vload, loadC, storeC, vnil, vfaddr, vextract, flatT, flatE, flatC, vconv, vmm, vidxA, viaddrA, vfield, vlen, elemsOf, dF32, dF64, dI64, dU8, dBool, dStr,
              esOk, elemsS, vsliceX, bnd, ownV, ownC, own1, ownT, isSl, nSl, endL, Md.isOwn, purge, purgeH, purgeB, purgeE, hasName, name1, List.any_cons, List.any_nil, Md.isWr,
              pureV.pureP, Option.map, reduceIte, Nat.reduceEqDiff, Nat.reduceAdd, Nat.reduceMul, Nat.reduceLT, Nat.reduceLeDiff, List.mapM_cons, List.mapM_nil, Option.pure_def,
              Option.bind_eq_bind, Option.bind_some, implies_true, forall_const, beq_self_eq_true, decide_true, decide_false, eq_self, Int.reduceEq, Int.reduceLE, Int.reduceLT,
              if_true, if_false, fc15_0, fc15_1, fc15_2, Int.reduceAdd, Int.reduceSub, Int.reduceMul, Int.reduceNeg, Int.reducePow, Nat.reducePow, Int.reduceToNat, Nat.reduceSub,
              List.replicate, Nat.reduceBEq, wAs, wA, wC, zipW, noDupN, grpE, g_laws_sameFloat, grpC, en0, dc_en0]))
    all_goals (try simp only [*, m_laws_eqVector, Bool.and_true, Bool.true_and, Bool.and_false, Bool.false_and, Bool.or_true, Bool.true_or, Bool.or_false, Bool.false_or, Bool.not_true, Bool.not_false, Bool.false_eq_true, if_true, if_false, reduceIte, decide_true, decide_false])
    all_goals (try (simp_all; done))
  · cases h
def l_laws_eqVectorS_0 (x0 : (List (Nat × Nat × Nat))) (x1 : (List (Nat × Nat × Nat))) : Nat → Int → Option (Bool × Bool × Unit)
  | 0, _ => none
  | n + 1, z0_0 => (if (decide (z0_0 < ((List.length x0 : Nat) : Int))) = true then (need (inB z0_0 (List.length x0)) (need (inB z0_0 (List.length x1)) (if (m_laws_eqVector (atI x0
        z0_0) (atI x1 z0_0)) = true then (l_laws_eqVectorS_0 x0 x1 n (IntKind.wrap .i64 (z0_0 + 1))) else (some (true, false, default))))) else (some (false, default, ())))
def m_laws_eqVectorS (x0 : (List (Nat × Nat × Nat))) (x1 : (List (Nat × Nat × Nat))) : Bool := (if (decide (((List.length x0 : Nat) : Int) = ((List.length x1 : Nat) : Int))) = true
      then (if (Option.getD (l_laws_eqVectorS_0 x0 x1 (Int.toNat (((List.length x0 : Nat) : Int) - 0) + 2) 0) default).1 = true then (Option.getD (l_laws_eqVectorS_0 x0 x1
      (Int.toNat (((List.length x0 : Nat) : Int) - 0) + 2) 0) default).2.1 else true) else false)
def p_laws_eqVectorS (x0 : (List (Nat × Nat × Nat))) (x1 : (List (Nat × Nat × Nat))) : Bool := (!(decide (((List.length x0 : Nat) : Int) = ((List.length x1 : Nat) : Int))) ||
      (Option.isSome (l_laws_eqVectorS_0 x0 x1 (Int.toNat (((List.length x0 : Nat) : Int) - 0) + 2) 0)))
def g_laws_eqVectorS : List AV → Option AV
  | [.sl w0, .sl w1] => (match decL dc_en0 w0 with | some y0 => ((match decL dc_en0 w1 with | some y1 => (if p_laws_eqVectorS y0 y1 = true then some (.bool (m_laws_eqVectorS y0 y1)) else none) | none => none)) | none => none)
  | _ => none
def lb16_0 : ICode := (.seq (.seq (.reg [⟨(some 11), none, (.mov (.t 5))⟩, ⟨(some 12), none, (.mov (.t 0))⟩, ⟨(some 13), none, (.len false (.t 12))⟩, ⟨(some 14), none, (.bin .lss
      false (.t 11) (.t 13))⟩] [0, 1, 5, 14]) (.cond (.t 14) .skip (.exit 0))) (.seq (.block 1 (.seq (.reg [⟨(some 17), none, (.mov (.t 0))⟩, ⟨(some 18), none, (.mov (.t 5))⟩,
      ⟨(some 19), none, (.iaddrS 3 (.t 17) (.t 18))⟩, ⟨(some 20), none, (.load (some 3) (.t 19))⟩, ⟨(some 21), none, (.mov (.t 1))⟩, ⟨(some 22), none, (.mov (.t 5))⟩, ⟨(some 23),
      none, (.iaddrS 3 (.t 21) (.t 22))⟩, ⟨(some 24), none, (.load (some 3) (.t 23))⟩, ⟨(some 25), none, (.call (.fn 15) [(.t 20), (.t 24)] [])⟩, ⟨(some 26), none, (.un .not (.t
      25))⟩] [0, 1, 5, 26]) (.cond (.t 26) (.seq (.reg [⟨(some 4), none, (.mov (.c (.bool false)))⟩] [4]) .ret) .skip))) (.reg [⟨(some 15), none, (.mov (.t 5))⟩, ⟨(some 16), none,
      (.bin .add false (.t 15) (.c (.int .i64 1)))⟩, ⟨(some 5), none, (.mov (.t 16))⟩] [0, 1, 5])))
def ic16 : ICode := (.seq (.reg [⟨(some 4), none, (.mov (.c (.bool false)))⟩] [0, 1]) (.seq (.seq (.reg [⟨(some 6), none, (.mov (.t 0))⟩, ⟨(some 7), none, (.len false (.t 6))⟩,
      ⟨(some 8), none, (.mov (.t 1))⟩, ⟨(some 9), none, (.len false (.t 8))⟩, ⟨(some 10), none, (.bin .neq false (.t 7) (.t 9))⟩] [0, 1, 10]) (.cond (.t 10) (.seq (.reg [⟨(some 4),
      none, (.mov (.c (.bool false)))⟩] [4]) .ret) .skip)) (.seq (.seq (.reg [⟨(some 5), none, (.mov (.c (.int .i64 0)))⟩] [0, 1, 5]) (.block 0 (.loop lb16_0))) (.seq (.reg [⟨(some
      4), none, (.mov (.c (.bool true)))⟩] [4]) .ret))))
def cp16 : CP := CP.mk [] [] [[0, 1], [0, 1, 10], [4], [0, 1, 5], [0, 1, 5, 14], [0, 1, 5], [0, 1, 5, 26], [4], [4]] 27 [] []
theorem fc16_0 : IntKind.wrap .i64 1 = 1 := by decide
theorem fc16_1 : IntKind.wrap .i64 2 = 2 := by decide
theorem fc16_2 : IntKind.wrap .i64 3 = 3 := by decide
theorem sl16_0 (x0 : (List (Nat × Nat × Nat))) (x1 : (List (Nat × Nat × Nat))) : ∀ (n : Nat) (z0_0 : Int) (o : (Bool × Bool × Unit)) (K : IExit → St → Prop), l_laws_eqVectorS_0 x0
      x1 n z0_0 = some o → (∀ st, o.1 = true → outM .any st [(.t 4)] = some (.bool o.2.1) → K .ret st) → (∀ st, o.1 = false → Wk st (⟨[], []⟩ : St) → K (.exit 0) st) → eA (tabOf
      [(15, wM .any g_laws_eqVector)]) (.loop lb16_0) (⟨[(0, (.sl (List.map en0 x0))), (1, (.sl (List.map en0 x1))), (5, (.int .i64 z0_0))], []⟩ : St) K := by
  intro n
  induction n with
  | zero =>
    intro z0_0 o K h h0 h1
    simp only [l_laws_eqVectorS_0, reduceCtorEq] at h
  | succ n ih =>
    intro z0_0 o K h h0 h1
    refine eA_loop ?_
    unfold lb16_0
    unfold l_laws_eqVectorS_0 at h
    (try simp only [need_iff] at h)
    simp only [
      need_iff, h, grpS, grpD, grpF, grpL, eop, vop, bop, uop, fltop, convop, endOk, newE, new1, freshL, Md.isNew, outV, pureV, pureX, pure1, AV.cells, AV.one, storable, laid,
            refless, refless1, vload, loadC, storeC, vnil, vfaddr, vextract, flatT, flatE, flatC, vconv, vmm, vidxA, viaddrA, vfield, vlen, elemsOf, dF32, dF64, dI64, dU8, dBool,
            dStr, esOk, elemsS, vsliceX, bnd, ownV, ownC, own1, ownT, isSl, nSl, endL, Md.isOwn, purge, purgeH, purgeB, purgeE, hasName, name1, List.any_cons, List.any_nil, Md.isWr,
            pureV.pureP, Option.map, reduceIte, Nat.reduceEqDiff, Nat.reduceAdd, Nat.reduceMul, Nat.reduceLT, Nat.reduceLeDiff, List.mapM_cons, List.mapM_nil, Option.pure_def,
            Option.bind_eq_bind, Option.bind_some, implies_true, forall_const, beq_self_eq_true, decide_true, decide_false, eq_self, Int.reduceEq, Int.reduceLE, Int.reduceLT,
            if_true, if_false, fc16_0, fc16_1, fc16_2, Int.reduceAdd, Int.reduceSub, Int.reduceMul, Int.reduceNeg, Int.reducePow, Nat.reducePow, Int.reduceToNat, Nat.reduceSub,
            List.replicate, Nat.reduceBEq, wAs, wA, wC, zipW, noDupN, grpE, g_laws_eqVector, grpC, en0, dc_en0]
    repeat' (first
      | ((first | (refine eGI_of (fun hc => ?_) (fun hc => ?_)) | (refine eCc_of (fun hc => ?_) (fun hc => ?_)) | (have hc := True.intro; refine KW_refl ?_)) <;> (try simp only [Bool.not_eq_true', Bool.not_eq_false'] at hc) <;> (try simp only [hc, need_iff, reduceCtorEq, Bool.not_eq_true', decide_eq_false_iff_not, Bool.not_true, Bool.not_false, Bool.false_or, Bool.true_or, Bool.true_and, Bool.false_and, Bool.and_eq_true, Bool.or_eq_true, if_true, if_false, reduceIte, Bool.false_eq_true, and_true, true_and, false_or, or_false, decide_eq_true_eq, not_false_eq_true, not_true_eq_false] at h) <;> (try (have hc2 := hc; simp only [decide_eq_true_eq, decide_eq_false_iff_not] at hc2; simp only [hc2, if_true, if_false, reduceCtorEq, Bool.not_eq_true', decide_eq_false_iff_not, Bool.not_true, Bool.not_false, Bool.false_or, Bool.true_or, Bool.true_and, Bool.false_and, Bool.and_eq_true, Bool.or_eq_true, if_true, if_false, reduceIte, Bool.false_eq_true, and_true, true_and, false_or, or_false, decide_eq_true_eq, not_false_eq_true, not_true_eq_false] at h)) <;> simp only [hc,
      need_iff, h, grpS, grpD, grpF, grpL, eop, vop, bop, uop, fltop, convop, endOk, newE, new1, freshL, Md.isNew, outV, pureV, pureX, pure1, AV.cells, AV.one, storable, laid,
            refless, refless1, vload, loadC, storeC, vnil, vfaddr, vextract, flatT, flatE, flatC, vconv, vmm, vidxA, viaddrA, vfield, vlen, elemsOf, dF32, dF64, dI64, dU8, dBool,
            dStr, esOk, elemsS, vsliceX, bnd, ownV, ownC, own1, ownT, isSl, nSl, endL, Md.isOwn, purge, purgeH, purgeB, purgeE, hasName, name1, List.any_cons, List.any_nil, Md.isWr,
            pureV.pureP, Option.map, reduceIte, Nat.reduceEqDiff, Nat.reduceAdd, Nat.reduceMul, Nat.reduceLT, Nat.reduceLeDiff, List.mapM_cons, List.mapM_nil, Option.pure_def,
            Option.bind_eq_bind, Option.bind_some, implies_true, forall_const, beq_self_eq_true, decide_true, decide_false, eq_self, Int.reduceEq, Int.reduceLE, Int.reduceLT,
            if_true, if_false, fc16_0, fc16_1, fc16_2, Int.reduceAdd, Int.reduceSub, Int.reduceMul, Int.reduceNeg, Int.reducePow, Nat.reducePow, Int.reduceToNat, Nat.reduceSub,
            List.replicate, Nat.reduceBEq, wAs, wA, wC, zipW, noDupN, grpE, g_laws_eqVector, grpC, en0, dc_en0]))
    all_goals (repeat (replace h := And.right h))
    all_goals first
      | (refine eA_wk (wk_norm (ks := [0, 1, 5]) (ls := []) ?_) (eA_cast ?_ (ih _ _ _ h h0 h1)); (simp only [normOk, optIn, blkIn, nameIn,
      need_iff, h, grpS, grpD, grpF, grpL, eop, vop, bop, uop, fltop, convop, endOk, newE, new1, freshL, Md.isNew, outV, pureV, pureX, pure1, AV.cells, AV.one, storable, laid,
            refless, refless1, vload, loadC, storeC, vnil, vfaddr, vextract, flatT, flatE, flatC, vconv, vmm, vidxA, viaddrA, vfield, vlen, elemsOf, dF32, dF64, dI64, dU8, dBool,
            dStr, esOk, elemsS, vsliceX, bnd, ownV, ownC, own1, ownT, isSl, nSl, endL, Md.isOwn, purge, purgeH, purgeB, purgeE, hasName, name1, List.any_cons, List.any_nil, Md.isWr,
            pureV.pureP, Option.map, reduceIte, Nat.reduceEqDiff, Nat.reduceAdd, Nat.reduceMul, Nat.reduceLT, Nat.reduceLeDiff, List.mapM_cons, List.mapM_nil, Option.pure_def,
            Option.bind_eq_bind, Option.bind_some, implies_true, forall_const, beq_self_eq_true, decide_true, decide_false, eq_self, Int.reduceEq, Int.reduceLE, Int.reduceLT,
            if_true, if_false, fc16_0, fc16_1, fc16_2, Int.reduceAdd, Int.reduceSub, Int.reduceMul, Int.reduceNeg, Int.reducePow, Nat.reducePow, Int.reduceToNat, Nat.reduceSub,
            List.replicate, Nat.reduceBEq, wAs, wA, wC, zipW, noDupN, grpE, g_laws_eqVector, grpC, en0, dc_en0] <;> rfl); (simp only [normS, List.map_append, List.length_append, List.map_set, List.length_set, List.map_replicate, List.length_replicate, List.map_nil, List.map_cons,
      need_iff, h, grpS, grpD, grpF, grpL, eop, vop, bop, uop, fltop, convop, endOk, newE, new1, freshL, Md.isNew, outV, pureV, pureX, pure1, AV.cells, AV.one, storable, laid,
            refless, refless1, vload, loadC, storeC, vnil, vfaddr, vextract, flatT, flatE, flatC, vconv, vmm, vidxA, viaddrA, vfield, vlen, elemsOf, dF32, dF64, dI64, dU8, dBool,
            dStr, esOk, elemsS, vsliceX, bnd, ownV, ownC, own1, ownT, isSl, nSl, endL, Md.isOwn, purge, purgeH, purgeB, purgeE, hasName, name1, List.any_cons, List.any_nil, Md.isWr,
            pureV.pureP, Option.map, reduceIte, Nat.reduceEqDiff, Nat.reduceAdd, Nat.reduceMul, Nat.reduceLT, Nat.reduceLeDiff, List.mapM_cons, List.mapM_nil, Option.pure_def,
            Option.bind_eq_bind, Option.bind_some, implies_true, forall_const, beq_self_eq_true, decide_true, decide_false, eq_self, Int.reduceEq, Int.reduceLE, Int.reduceLT,
            if_true, if_false, fc16_0, fc16_1, fc16_2, Int.reduceAdd, Int.reduceSub, Int.reduceMul, Int.reduceNeg, Int.reducePow, Nat.reducePow, Int.reduceToNat, Nat.reduceSub,
            List.replicate, Nat.reduceBEq, wAs, wA, wC, zipW, noDupN, grpE, g_laws_eqVector, grpC, en0, dc_en0] <;> first | rfl | (simp only [Nat.add_comm]; done)))
      | (cases h; refine h0 _ rfl ?_; simp only [
      grpS, grpD, grpF, grpL, eop, vop, bop, uop, fltop, convop, endOk, newE, new1, freshL, Md.isNew, outV, pureV, pureX, pure1, AV.cells, AV.one, storable, laid, refless, refless1,
            vload, loadC, storeC, vnil, vfaddr, vextract, flatT, flatE, flatC, vconv, vmm, vidxA, viaddrA, vfield, vlen, elemsOf, dF32, dF64, dI64, dU8, dBool, dStr, esOk, elemsS,
            vsliceX, bnd, ownV, ownC, own1, ownT, isSl, nSl, endL, Md.isOwn, purge, purgeH, purgeB, purgeE, hasName, name1, List.any_cons, List.any_nil, Md.isWr, pureV.pureP,
            Option.map, reduceIte, Nat.reduceEqDiff, Nat.reduceAdd, Nat.reduceMul, Nat.reduceLT, Nat.reduceLeDiff, List.mapM_cons, List.mapM_nil, Option.pure_def,
            Option.bind_eq_bind, Option.bind_some, implies_true, forall_const, beq_self_eq_true, decide_true, decide_false, eq_self, Int.reduceEq, Int.reduceLE, Int.reduceLT,
            if_true, if_false, fc16_0, fc16_1, fc16_2, Int.reduceAdd, Int.reduceSub, Int.reduceMul, Int.reduceNeg, Int.reducePow, Nat.reducePow, Int.reduceToNat, Nat.reduceSub,
            List.replicate, Nat.reduceBEq, wAs, wA, wC, zipW, noDupN, grpE, g_laws_eqVector, grpC, en0, dc_en0])
      | (cases h; refine h1 _ rfl (Wk.cast (wk_norm (ks := []) (ls := []) ?_) ?_); (simp only [normOk, optIn, blkIn, nameIn,
      grpS, grpD, grpF, grpL, eop, vop, bop, uop, fltop, convop, endOk, newE, new1, freshL, Md.isNew, outV, pureV, pureX, pure1, AV.cells, AV.one, storable, laid, refless, refless1,
            vload, loadC, storeC, vnil, vfaddr, vextract, flatT, flatE, flatC, vconv, vmm, vidxA, viaddrA, vfield, vlen, elemsOf, dF32, dF64, dI64, dU8, dBool, dStr, esOk, elemsS,
            vsliceX, bnd, ownV, ownC, own1, ownT, isSl, nSl, endL, Md.isOwn, purge, purgeH, purgeB, purgeE, hasName, name1, List.any_cons, List.any_nil, Md.isWr, pureV.pureP,
            Option.map, reduceIte, Nat.reduceEqDiff, Nat.reduceAdd, Nat.reduceMul, Nat.reduceLT, Nat.reduceLeDiff, List.mapM_cons, List.mapM_nil, Option.pure_def,
            Option.bind_eq_bind, Option.bind_some, implies_true, forall_const, beq_self_eq_true, decide_true, decide_false, eq_self, Int.reduceEq, Int.reduceLE, Int.reduceLT,
            if_true, if_false, fc16_0, fc16_1, fc16_2, Int.reduceAdd, Int.reduceSub, Int.reduceMul, Int.reduceNeg, Int.reducePow, Nat.reducePow, Int.reduceToNat, Nat.reduceSub,
            List.replicate, Nat.reduceBEq, wAs, wA, wC, zipW, noDupN, grpE, g_laws_eqVector, grpC, en0, dc_en0] <;> rfl); (simp only [normS, List.map_append, List.length_append, List.map_set, List.length_set, List.map_replicate, List.length_replicate,
      grpS, grpD, grpF, grpL, eop, vop, bop, uop, fltop, convop, endOk, newE, new1, freshL, Md.isNew, outV, pureV, pureX, pure1, AV.cells, AV.one, storable, laid, refless, refless1,
            vload, loadC, storeC, vnil, vfaddr, vextract, flatT, flatE, flatC, vconv, vmm, vidxA, viaddrA, vfield, vlen, elemsOf, dF32, dF64, dI64, dU8, dBool, dStr, esOk, elemsS,
            vsliceX, bnd, ownV, ownC, own1, ownT, isSl, nSl, endL, Md.isOwn, purge, purgeH, purgeB, purgeE, hasName, name1, List.any_cons, List.any_nil, Md.isWr, pureV.pureP,
            Option.map, reduceIte, Nat.reduceEqDiff, Nat.reduceAdd, Nat.reduceMul, Nat.reduceLT, Nat.reduceLeDiff, List.mapM_cons, List.mapM_nil, Option.pure_def,
            Option.bind_eq_bind, Option.bind_some, implies_true, forall_const, beq_self_eq_true, decide_true, decide_false, eq_self, Int.reduceEq, Int.reduceLE, Int.reduceLT,
            if_true, if_false, fc16_0, fc16_1, fc16_2, Int.reduceAdd, Int.reduceSub, Int.reduceMul, Int.reduceNeg, Int.reducePow, Nat.reducePow, Int.reduceToNat, Nat.reduceSub,
            List.replicate, Nat.reduceBEq, wAs, wA, wC, zipW, noDupN, grpE, g_laws_eqVector, grpC, en0, dc_en0] <;> first | rfl | (simp only [Nat.add_comm]; done)))
theorem s16 : ∀ vs r, g_laws_eqVectorS vs = some r → SaysM Try.prog .any 16 vs r := by
  intro vs r h
  unfold g_laws_eqVectorS at h
  split at h
  · rename_i w0 w1
    cases hd_y0 : decL dc_en0 w0 with
    | none => rw [hd_y0] at h; cases h
    | some y0 =>
    rw [hd_y0] at h
    obtain rfl := decL_inv dc_en0_inv hd_y0
    clear hd_y0
    dsimp only at h
    cases hd_y1 : decL dc_en0 w1 with
    | none => rw [hd_y1] at h; cases h
    | some y1 =>
    rw [hd_y1] at h
    obtain rfl := decL_inv dc_en0_inv hd_y1
    clear hd_y1
    dsimp only at h
    split at h
    · rename_i hp
      cases h
      refine spec_of (m := .any) (tab := tabOf [(15, wM .any g_laws_eqVector)]) (cp := cp16) (ic := ic16) (rvl := [(.t 4)]) hm (tabOk_cons (m := .any) s15 tabOk_nil) Try.func16 rfl rfl rfl (by kernel_rfl) rfl (Nat.le_of_ble_eq_true rfl) (Nat.le_of_ble_eq_true rfl) ?_
      show eA _ _ _ _
      unfold ic16
      simp only [p_laws_eqVectorS, Bool.and_eq_true, Bool.or_eq_true, decide_eq_true_eq, Bool.not_eq_true', decide_eq_false_iff_not] at hp
      simp only [
          hp, grpS, grpD, grpF, grpL, eop, vop, bop, uop, fltop, convop, endOk, newE, new1, freshL, Md.isNew, outV, pureV, pureX, pure1, AV.cells, AV.one, storable, laid, refless,
                refless1, vload, loadC, storeC, vnil, vfaddr, vextract, flatT, flatE, flatC, vconv, vmm, vidxA, viaddrA, vfield, vlen, elemsOf, dF32, dF64, dI64, dU8, dBool, dStr,
                esOk, elemsS, vsliceX, bnd, ownV, ownC, own1, ownT, isSl, nSl, endL, Md.isOwn, purge, purgeH, purgeB, purgeE, hasName, name1, List.any_cons, List.any_nil, Md.isWr,
                pureV.pureP, Option.map, reduceIte, Nat.reduceEqDiff, Nat.reduceAdd, Nat.reduceMul, Nat.reduceLT, Nat.reduceLeDiff, List.mapM_cons, List.mapM_nil, Option.pure_def,
                Option.bind_eq_bind, Option.bind_some, implies_true, forall_const, beq_self_eq_true, decide_true, decide_false, eq_self, Int.reduceEq, Int.reduceLE, Int.reduceLT,
                if_true, if_false, fc16_0, fc16_1, fc16_2, Int.reduceAdd, Int.reduceSub, Int.reduceMul, Int.reduceNeg, Int.reducePow, Nat.reducePow, Int.reduceToNat, Nat.reduceSub,
                List.replicate, Nat.reduceBEq, wAs, wA, wC, zipW, noDupN, grpE, g_laws_eqVector, grpC, en0, dc_en0]
      repeat' (first
        | ((first | (refine eGI_of (fun h => ?_) (fun h => ?_)) | (refine eCc_of (fun h => ?_) (fun h => ?_)) | (have h := True.intro; refine KW_refl ?_)) <;> (try simp only [Bool.not_eq_true', Bool.not_eq_false'] at h) <;> (try simp only [h, reduceCtorEq, Bool.not_eq_true', decide_eq_false_iff_not, Bool.not_true, Bool.not_false, Bool.false_or, Bool.true_or, Bool.true_and, Bool.false_and, Bool.and_eq_true, Bool.or_eq_true, if_true, if_false, reduceIte, Bool.false_eq_true, and_true, true_and, false_or, or_false, decide_eq_true_eq, not_false_eq_true, not_true_eq_false] at hp) <;> (try (have h2 := h; simp only [decide_eq_true_eq, decide_eq_false_iff_not] at h2; (first | (replace h2 := eq_false h2) | (replace h2 := eq_true h2)); simp only [h2, if_true, if_false, false_or, true_or, or_true, or_false, and_true, true_and, not_false_eq_true, not_true_eq_false] at hp)) <;> simp only [h,
          hp, grpS, grpD, grpF, grpL, eop, vop, bop, uop, fltop, convop, endOk, newE, new1, freshL, Md.isNew, outV, pureV, pureX, pure1, AV.cells, AV.one, storable, laid, refless,
                refless1, vload, loadC, storeC, vnil, vfaddr, vextract, flatT, flatE, flatC, vconv, vmm, vidxA, viaddrA, vfield, vlen, elemsOf, dF32, dF64, dI64, dU8, dBool, dStr,
                esOk, elemsS, vsliceX, bnd, ownV, ownC, own1, ownT, isSl, nSl, endL, Md.isOwn, purge, purgeH, purgeB, purgeE, hasName, name1, List.any_cons, List.any_nil, Md.isWr,
                pureV.pureP, Option.map, reduceIte, Nat.reduceEqDiff, Nat.reduceAdd, Nat.reduceMul, Nat.reduceLT, Nat.reduceLeDiff, List.mapM_cons, List.mapM_nil, Option.pure_def,
                Option.bind_eq_bind, Option.bind_some, implies_true, forall_const, beq_self_eq_true, decide_true, decide_false, eq_self, Int.reduceEq, Int.reduceLE, Int.reduceLT,
                if_true, if_false, fc16_0, fc16_1, fc16_2, Int.reduceAdd, Int.reduceSub, Int.reduceMul, Int.reduceNeg, Int.reducePow, Nat.reducePow, Int.reduceToNat, Nat.reduceSub,
                List.replicate, Nat.reduceBEq, wAs, wA, wC, zipW, noDupN, grpE, g_laws_eqVector, grpC, en0, dc_en0])
        | (refine eA_wk (wk_norm (ks := [0, 1, 5]) (ls := []) ?_) (eA_cast ?_ (sl16_0 y0 y1 _ _ _ _ (getD_some (d := default) (x := (l_laws_eqVectorS_0 y0 y1 (Int.toNat (((List.length y0 : Nat) : Int) - 0) + 2) 0)) ?_) ?_ ?_)); (simp only [nilS, nilV, normOk, optIn, blkIn, nameIn, 
          hp, grpS, grpD, grpF, grpL, eop, vop, bop, uop, fltop, convop, endOk, newE, new1, freshL, Md.isNew, outV, pureV, pureX, pure1, AV.cells, AV.one, storable, laid, refless,
                refless1, vload, loadC, storeC, vnil, vfaddr, vextract, flatT, flatE, flatC, vconv, vmm, vidxA, viaddrA, vfield, vlen, elemsOf, dF32, dF64, dI64, dU8, dBool, dStr,
                esOk, elemsS, vsliceX, bnd, ownV, ownC, own1, ownT, isSl, nSl, endL, Md.isOwn, purge, purgeH, purgeB, purgeE, hasName, name1, List.any_cons, List.any_nil, Md.isWr,
                pureV.pureP, Option.map, reduceIte, Nat.reduceEqDiff, Nat.reduceAdd, Nat.reduceMul, Nat.reduceLT, Nat.reduceLeDiff, List.mapM_cons, List.mapM_nil, Option.pure_def,
                Option.bind_eq_bind, Option.bind_some, implies_true, forall_const, beq_self_eq_true, decide_true, decide_false, eq_self, Int.reduceEq, Int.reduceLE, Int.reduceLT,
                if_true, if_false, fc16_0, fc16_1, fc16_2, Int.reduceAdd, Int.reduceSub, Int.reduceMul, Int.reduceNeg, Int.reducePow, Nat.reducePow, Int.reduceToNat, Nat.reduceSub,
                List.replicate, Nat.reduceBEq, wAs, wA, wC, zipW, noDupN, grpE, g_laws_eqVector, grpC, en0, dc_en0] <;> rfl); (simp only [nilS, nilV, normS,  List.map_append, List.length_append, List.map_set, List.length_set, List.map_replicate, List.length_replicate, List.map_nil, List.map_cons,
          hp, grpS, grpD, grpF, grpL, eop, vop, bop, uop, fltop, convop, endOk, newE, new1, freshL, Md.isNew, outV, pureV, pureX, pure1, AV.cells, AV.one, storable, laid, refless,
                refless1, vload, loadC, storeC, vnil, vfaddr, vextract, flatT, flatE, flatC, vconv, vmm, vidxA, viaddrA, vfield, vlen, elemsOf, dF32, dF64, dI64, dU8, dBool, dStr,
                esOk, elemsS, vsliceX, bnd, ownV, ownC, own1, ownT, isSl, nSl, endL, Md.isOwn, purge, purgeH, purgeB, purgeE, hasName, name1, List.any_cons, List.any_nil, Md.isWr,
                pureV.pureP, Option.map, reduceIte, Nat.reduceEqDiff, Nat.reduceAdd, Nat.reduceMul, Nat.reduceLT, Nat.reduceLeDiff, List.mapM_cons, List.mapM_nil, Option.pure_def,
                Option.bind_eq_bind, Option.bind_some, implies_true, forall_const, beq_self_eq_true, decide_true, decide_false, eq_self, Int.reduceEq, Int.reduceLE, Int.reduceLT,
                if_true, if_false, fc16_0, fc16_1, fc16_2, Int.reduceAdd, Int.reduceSub, Int.reduceMul, Int.reduceNeg, Int.reducePow, Nat.reducePow, Int.reduceToNat, Nat.reduceSub,
                List.replicate, Nat.reduceBEq, wAs, wA, wC, zipW, noDupN, grpE, g_laws_eqVector, grpC, en0, dc_en0] <;> first | rfl | (simp only [Nat.add_comm]; done)); (simp only [hp]); (
        intro st2 ht hw; simp only [Kq_ret, Kb_ret, Kl_ret, ret_ok]; first | exact h0 _ hw | exact h0 _ rfl hw | exact h1 _ rfl hw | exact h0 _ ht hw | exact h1 _ ht hw | refine ⟨_, hw, ?_⟩); rotate_left; (
        intro st2 ht hw; (try simp only [ht, reduceCtorEq, Bool.not_eq_true', decide_eq_false_iff_not, Bool.not_true, Bool.not_false, Bool.false_or, Bool.true_or, Bool.true_and, Bool.false_and, Bool.and_eq_true, Bool.or_eq_true, if_true, if_false, reduceIte, Bool.false_eq_true, and_true, true_and, false_or, or_false, decide_eq_true_eq, not_false_eq_true, not_true_eq_false] at hp); simp only [
          hp, grpS, grpD, grpF, grpL, eop, vop, bop, uop, fltop, convop, endOk, newE, new1, freshL, Md.isNew, outV, pureV, pureX, pure1, AV.cells, AV.one, storable, laid, refless,
                refless1, vload, loadC, storeC, vnil, vfaddr, vextract, flatT, flatE, flatC, vconv, vmm, vidxA, viaddrA, vfield, vlen, elemsOf, dF32, dF64, dI64, dU8, dBool, dStr,
                esOk, elemsS, vsliceX, bnd, ownV, ownC, own1, ownT, isSl, nSl, endL, Md.isOwn, purge, purgeH, purgeB, purgeE, hasName, name1, List.any_cons, List.any_nil, Md.isWr,
                pureV.pureP, Option.map, reduceIte, Nat.reduceEqDiff, Nat.reduceAdd, Nat.reduceMul, Nat.reduceLT, Nat.reduceLeDiff, List.mapM_cons, List.mapM_nil, Option.pure_def,
                Option.bind_eq_bind, Option.bind_some, implies_true, forall_const, beq_self_eq_true, decide_true, decide_false, eq_self, Int.reduceEq, Int.reduceLE, Int.reduceLT,
                if_true, if_false, fc16_0, fc16_1, fc16_2, Int.reduceAdd, Int.reduceSub, Int.reduceMul, Int.reduceNeg, Int.reducePow, Nat.reducePow, Int.reduceToNat, Nat.reduceSub,
                List.replicate, Nat.reduceBEq, wAs, wA, wC, zipW, noDupN, grpE, g_laws_eqVector, grpC, en0, dc_en0]; refine KW_of hw ?_; simp only [ht, 
          hp, grpS, grpD, grpF, grpL, eop, vop, bop, uop, fltop, convop, endOk, newE, new1, freshL, Md.isNew, outV, pureV, pureX, pure1, AV.cells, AV.one, storable, laid, refless,
                refless1, vload, loadC, storeC, vnil, vfaddr, vextract, flatT, flatE, flatC, vconv, vmm, vidxA, viaddrA, vfield, vlen, elemsOf, dF32, dF64, dI64, dU8, dBool, dStr,
                esOk, elemsS, vsliceX, bnd, ownV, ownC, own1, ownT, isSl, nSl, endL, Md.isOwn, purge, purgeH, purgeB, purgeE, hasName, name1, List.any_cons, List.any_nil, Md.isWr,
                pureV.pureP, Option.map, reduceIte, Nat.reduceEqDiff, Nat.reduceAdd, Nat.reduceMul, Nat.reduceLT, Nat.reduceLeDiff, List.mapM_cons, List.mapM_nil, Option.pure_def,
                Option.bind_eq_bind, Option.bind_some, implies_true, forall_const, beq_self_eq_true, decide_true, decide_false, eq_self, Int.reduceEq, Int.reduceLE, Int.reduceLT,
                if_true, if_false, fc16_0, fc16_1, fc16_2, Int.reduceAdd, Int.reduceSub, Int.reduceMul, Int.reduceNeg, Int.reducePow, Nat.reducePow, Int.reduceToNat, Nat.reduceSub,
                List.replicate, Nat.reduceBEq, wAs, wA, wC, zipW, noDupN, grpE, g_laws_eqVector, grpC, en0, dc_en0])))
      all_goals (try simp only [*, m_laws_eqVectorS, Bool.and_true, Bool.true_and, Bool.and_false, Bool.false_and, Bool.or_true, Bool.true_or, Bool.or_false, Bool.false_or, Bool.not_true, Bool.not_false, Bool.false_eq_true, if_true, if_false, reduceIte, decide_true, decide_false])
      all_goals (try (simp_all; done))
    · cases h
  · cases h
def m_laws_FnExactBoxOfPlaces (x0 : (List (Nat × Nat × Nat))) : Bool := (if (decide ((m_laws_szVectorS x0 1048576) < 0)) = true then true else (if (m_laws_eqVector
      (m_impl_BoxOfPlaces (m_laws_toVectorS x0)).1 (m_spec_BoxOfPlaces (m_laws_toVectorS x0)).1) = true then (if (m_laws_eqVector (m_impl_BoxOfPlaces (m_laws_toVectorS x0)).2.1
      (m_spec_BoxOfPlaces (m_laws_toVectorS x0)).2.1) = true then (if ((m_impl_BoxOfPlaces (m_laws_toVectorS x0)).2.2 == (m_spec_BoxOfPlaces (m_laws_toVectorS x0)).2.2) = true then
      (if (m_laws_eqVectorS (m_laws_toVectorS x0) (m_laws_toVectorS x0)) = true then true else false) else false) else false) else false))
def p_laws_FnExactBoxOfPlaces (x0 : (List (Nat × Nat × Nat))) : Bool := ((decide ((m_laws_szVectorS x0 1048576) < 0)) || ((p_laws_toVectorS x0) && ((p_spec_BoxOfPlaces
      (m_laws_toVectorS x0)) && ((p_impl_BoxOfPlaces (m_laws_toVectorS x0)) && (!(m_laws_eqVector (m_impl_BoxOfPlaces (m_laws_toVectorS x0)).1 (m_spec_BoxOfPlaces (m_laws_toVectorS
      x0)).1) || (!(m_laws_eqVector (m_impl_BoxOfPlaces (m_laws_toVectorS x0)).2.1 (m_spec_BoxOfPlaces (m_laws_toVectorS x0)).2.1) || (!((m_impl_BoxOfPlaces (m_laws_toVectorS
      x0)).2.2 == (m_spec_BoxOfPlaces (m_laws_toVectorS x0)).2.2) || (p_laws_eqVectorS (m_laws_toVectorS x0) (m_laws_toVectorS x0)))))))))
def g_laws_FnExactBoxOfPlaces : List AV → Option AV
  | [.sl w0] => (match decL dc_en0 w0 with | some y0 => (if p_laws_FnExactBoxOfPlaces y0 = true then some (.bool (m_laws_FnExactBoxOfPlaces y0)) else none) | none => none)
  | _ => none
def ic3 : ICode := (.seq (.reg [⟨(some 2), none, (.mov (.c (.bool false)))⟩] [0]) (.seq (.reg [⟨(some 3), none, (.mov (.c (.int .i64 1048576)))⟩] [0, 3]) (.seq (.reg [⟨(some 11),
      none, (.mov (.t 0))⟩, ⟨(some 12), none, (.mov (.t 3))⟩, ⟨(some 13), none, (.call (.fn 11) [(.t 11), (.t 12)] [])⟩, ⟨(some 3), none, (.mov (.t 13))⟩] [0, 3]) (.seq (.seq (.reg
      [⟨(some 14), none, (.mov (.t 3))⟩, ⟨(some 15), none, (.bin .lss false (.t 14) (.c (.int .i64 0)))⟩] [0, 15]) (.cond (.t 15) (.seq (.reg [⟨(some 2), none, (.mov (.c (.bool
      true)))⟩] [2]) .ret) .skip)) (.seq (.reg [⟨(some 17), none, (.mov (.t 0))⟩, ⟨(some 18), none, (.call (.fn 13) [(.t 17)] [])⟩, ⟨(some 19), none, (.call (.fn 12) [(.t 18)] [])⟩,
      ⟨(some 16), none, (.mov (.t 19))⟩, ⟨(some 20), none, (.extract (.t 16) 0)⟩, ⟨(some 21), none, (.extract (.t 16) 1)⟩, ⟨(some 22), none, (.extract (.t 16) 2)⟩, ⟨(some 4), none,
      (.alloc (.agg [(.flt .f32 0), (.flt .f32 0), (.flt .f32 0)]))⟩, ⟨(some 5), none, (.alloc (.agg [(.flt .f32 0), (.flt .f32 0), (.flt .f32 0)]))⟩, ⟨none, none, (.store 3 (.t 4)
      (.t 20))⟩, ⟨none, none, (.store 3 (.t 5) (.t 21))⟩, ⟨(some 6), none, (.mov (.t 22))⟩] [0, 4, 5, 6]) (.seq (.reg [⟨(some 23), none, (.mov (.t 0))⟩, ⟨(some 24), none, (.call
      (.fn 13) [(.t 23)] [])⟩, ⟨(some 7), none, (.mov (.t 24))⟩] [0, 4, 5, 6, 7]) (.seq (.reg [⟨(some 26), none, (.mov (.t 7))⟩, ⟨(some 27), none, (.call (.fn 14) [(.t 26)] [])⟩,
      ⟨(some 25), none, (.mov (.t 27))⟩, ⟨(some 28), none, (.extract (.t 25) 0)⟩, ⟨(some 29), none, (.extract (.t 25) 1)⟩, ⟨(some 30), none, (.extract (.t 25) 2)⟩, ⟨(some 8), none,
      (.alloc (.agg [(.flt .f32 0), (.flt .f32 0), (.flt .f32 0)]))⟩, ⟨(some 9), none, (.alloc (.agg [(.flt .f32 0), (.flt .f32 0), (.flt .f32 0)]))⟩, ⟨none, none, (.store 3 (.t 8)
      (.t 28))⟩, ⟨none, none, (.store 3 (.t 9) (.t 29))⟩, ⟨(some 10), none, (.mov (.t 30))⟩] [0, 4, 5, 6, 7, 8, 9, 10]) (.seq (.seq (.reg [⟨(some 31), none, (.load (some 3) (.t
      8))⟩, ⟨(some 32), none, (.load (some 3) (.t 4))⟩, ⟨(some 33), none, (.call (.fn 15) [(.t 31), (.t 32)] [])⟩, ⟨(some 34), none, (.un .not (.t 33))⟩, ⟨(some 35), none, (.mov (.t
      34))⟩, ⟨(some 36), (some (35, false)), (.load (some 3) (.t 9))⟩, ⟨(some 37), (some (35, false)), (.load (some 3) (.t 5))⟩, ⟨(some 38), (some (35, false)), (.call (.fn 15) [(.t
      36), (.t 37)] [])⟩, ⟨(some 39), (some (35, false)), (.un .not (.t 38))⟩, ⟨(some 40), none, (.pick (.t 35) (.c (.bool true)) (.t 39))⟩, ⟨(some 41), none, (.mov (.t 40))⟩,
      ⟨(some 42), (some (41, false)), (.mov (.t 10))⟩, ⟨(some 43), (some (41, false)), (.mov (.t 6))⟩, ⟨(some 44), (some (41, false)), (.bin .neq true (.t 42) (.t 43))⟩, ⟨(some 45),
      none, (.pick (.t 41) (.c (.bool true)) (.t 44))⟩] [0, 7, 45]) (.cond (.t 45) (.seq (.reg [⟨(some 2), none, (.mov (.c (.bool false)))⟩] [2]) .ret) .skip)) (.seq (.seq (.reg
      [⟨(some 46), none, (.mov (.t 7))⟩, ⟨(some 47), none, (.mov (.t 0))⟩, ⟨(some 48), none, (.call (.fn 13) [(.t 47)] [])⟩, ⟨(some 49), none, (.call (.fn 16) [(.t 46), (.t 48)]
      [])⟩, ⟨(some 50), none, (.un .not (.t 49))⟩] [50]) (.cond (.t 50) (.seq (.reg [⟨(some 2), none, (.mov (.c (.bool false)))⟩] [2]) .ret) .skip)) (.seq (.reg [⟨(some 2), none,
      (.mov (.c (.bool true)))⟩] [2]) .ret))))))))))
def cp3 : CP := CP.mk [] [] [[0], [0, 3], [0, 3], [0, 15], [2], [0, 4, 5, 6], [0, 4, 5, 6, 7], [0, 4, 5, 6, 7, 8, 9, 10], [0, 7, 45], [2], [50], [2], [2]] 51 [] []
theorem fc3_0 : IntKind.wrap .i64 1 = 1 := by decide
theorem fc3_1 : IntKind.wrap .i64 2 = 2 := by decide
theorem fc3_2 : IntKind.wrap .i64 3 = 3 := by decide
theorem s3 : ∀ vs r, g_laws_FnExactBoxOfPlaces vs = some r → SaysM Try.prog .any 3 vs r := by
  intro vs r h
  unfold g_laws_FnExactBoxOfPlaces at h
  split at h
  · rename_i w0
    cases hd_y0 : decL dc_en0 w0 with
    | none => rw [hd_y0] at h; cases h
    | some y0 =>
    rw [hd_y0] at h
    obtain rfl := decL_inv dc_en0_inv hd_y0
    clear hd_y0
    dsimp only at h
    split at h
    · rename_i hp
      cases h
      refine spec_of (m := .any) (tab := tabOf [(11, wM .any g_laws_szVectorS), (12, wM .any g_spec_BoxOfPlaces), (13, wM (.own [3]) g_laws_toVectorS), (14, wM .any g_impl_BoxOfPlaces), (15, wM .any g_laws_eqVector), (16, wM .any g_laws_eqVectorS)]) (cp := cp3) (ic := ic3) (rvl := [(.t 2)]) hm (tabOk_cons (m := .any) s11 (tabOk_cons (m := .any) s12 (tabOk_cons (m := (.own [3])) s13 (tabOk_cons (m := .any) s14 (tabOk_cons (m := .any) s15 (tabOk_cons (m := .any) s16 tabOk_nil)))))) Try.func3 rfl rfl rfl (by kernel_rfl) rfl (Nat.le_of_ble_eq_true rfl) (Nat.le_of_ble_eq_true rfl) ?_
      show eA _ _ _ _
      unfold ic3
      simp only [p_laws_FnExactBoxOfPlaces, Bool.and_eq_true, Bool.or_eq_true, decide_eq_true_eq, Bool.not_eq_true', decide_eq_false_iff_not] at hp
      simp only [
          hp, grpS, grpD, grpF, grpL, eop, vop, bop, uop, fltop, convop, endOk, newE, new1, freshL, Md.isNew, outV, pureV, pureX, pure1, AV.cells, AV.one, storable, laid, refless,
                refless1, vload, loadC, storeC, vnil, vfaddr, vextract, flatT, flatE, flatC, vconv, vmm, vidxA, viaddrA, vfield, vlen, elemsOf, dF32, dF64, dI64, dU8, dBool, dStr,
                esOk, elemsS, vsliceX, bnd, ownV, ownC, own1, ownT, isSl, nSl, endL, Md.isOwn, purge, purgeH, purgeB, purgeE, hasName, name1, List.any_cons, List.any_nil, Md.isWr,
                pureV.pureP, Option.map, reduceIte, Nat.reduceEqDiff, Nat.reduceAdd, Nat.reduceMul, Nat.reduceLT, Nat.reduceLeDiff, List.mapM_cons, List.mapM_nil, Option.pure_def,
                Option.bind_eq_bind, Option.bind_some, implies_true, forall_const, beq_self_eq_true, decide_true, decide_false, eq_self, Int.reduceEq, Int.reduceLE, Int.reduceLT,
                if_true, if_false, fc3_0, fc3_1, fc3_2, Int.reduceAdd, Int.reduceSub, Int.reduceMul, Int.reduceNeg, Int.reducePow, Nat.reducePow, Int.reduceToNat, Nat.reduceSub,
                List.replicate, Nat.reduceBEq, wAs, wA, wC, zipW, noDupN, grpE, g_laws_szVectorS, g_spec_BoxOfPlaces, g_laws_toVectorS, g_impl_BoxOfPlaces, g_laws_eqVector,
                g_laws_eqVectorS, grpC, en0, dc_en0, ↓b_pick, ePk_true, ePk_false]
      repeat' (first
        | ((first | (refine eGI_of (fun h => ?_) (fun h => ?_)) | (refine eCc_of (fun h => ?_) (fun h => ?_)) | (refine ePk_of (fun h => ?_) (fun h => ?_))) <;> (try simp only [Bool.not_eq_true', Bool.not_eq_false'] at h) <;> (try simp only [h, reduceCtorEq, Bool.not_eq_true', decide_eq_false_iff_not, Bool.not_true, Bool.not_false, Bool.false_or, Bool.true_or, Bool.true_and, Bool.false_and, Bool.and_eq_true, Bool.or_eq_true, if_true, if_false, reduceIte, Bool.false_eq_true, and_true, true_and, false_or, or_false, decide_eq_true_eq, not_false_eq_true, not_true_eq_false] at hp) <;> (try (have h2 := h; simp only [decide_eq_true_eq, decide_eq_false_iff_not] at h2; (first | (replace h2 := eq_false h2) | (replace h2 := eq_true h2)); simp only [h2, if_true, if_false, false_or, true_or, or_true, or_false, and_true, true_and, not_false_eq_true, not_true_eq_false] at hp)) <;> simp only [h,
          hp, grpS, grpD, grpF, grpL, eop, vop, bop, uop, fltop, convop, endOk, newE, new1, freshL, Md.isNew, outV, pureV, pureX, pure1, AV.cells, AV.one, storable, laid, refless,
                refless1, vload, loadC, storeC, vnil, vfaddr, vextract, flatT, flatE, flatC, vconv, vmm, vidxA, viaddrA, vfield, vlen, elemsOf, dF32, dF64, dI64, dU8, dBool, dStr,
                esOk, elemsS, vsliceX, bnd, ownV, ownC, own1, ownT, isSl, nSl, endL, Md.isOwn, purge, purgeH, purgeB, purgeE, hasName, name1, List.any_cons, List.any_nil, Md.isWr,
                pureV.pureP, Option.map, reduceIte, Nat.reduceEqDiff, Nat.reduceAdd, Nat.reduceMul, Nat.reduceLT, Nat.reduceLeDiff, List.mapM_cons, List.mapM_nil, Option.pure_def,
                Option.bind_eq_bind, Option.bind_some, implies_true, forall_const, beq_self_eq_true, decide_true, decide_false, eq_self, Int.reduceEq, Int.reduceLE, Int.reduceLT,
                if_true, if_false, fc3_0, fc3_1, fc3_2, Int.reduceAdd, Int.reduceSub, Int.reduceMul, Int.reduceNeg, Int.reducePow, Nat.reducePow, Int.reduceToNat, Nat.reduceSub,
                List.replicate, Nat.reduceBEq, wAs, wA, wC, zipW, noDupN, grpE, g_laws_szVectorS, g_spec_BoxOfPlaces, g_laws_toVectorS, g_impl_BoxOfPlaces, g_laws_eqVector,
                g_laws_eqVectorS, grpC, en0, dc_en0, ↓b_pick, ePk_true, ePk_false]))
      all_goals (try simp only [*, m_laws_FnExactBoxOfPlaces, Bool.and_true, Bool.true_and, Bool.and_false, Bool.false_and, Bool.or_true, Bool.true_or, Bool.or_false, Bool.false_or, Bool.not_true, Bool.not_false, Bool.false_eq_true, if_true, if_false, reduceIte, decide_true, decide_false])
      all_goals (try (simp_all; done))
    · cases h
  · cases h
end Go.Proofs
namespace Go.Proofs
open Go.Ab
theorem sameFloat_refl (x : Nat) : m_laws_sameFloat x x = true := by
  unfold m_laws_sameFloat
  by_cases h : feq .f64 x x = true
  · simp [h]
  · simp [h]
end Go.Proofs
namespace Go.Proofs
open Go.Ab
theorem eq_Vector (a : Nat × Nat × Nat) : m_laws_eqVector a a = true := by unfold m_laws_eqVector; simp [sameFloat_refl]
end Go.Proofs
namespace Go.Proofs
open Go.Ab
theorem eq_VectorS (x : List (Nat × Nat × Nat)) (h : x.length ≤ 1048576) : m_laws_eqVectorS x x = true ∧ p_laws_eqVectorS x x = true := by
  unfold m_laws_eqVectorS p_laws_eqVectorS
  rw [show l_laws_eqVectorS_0 x x (Int.toNat (((List.length x : Nat) : Int) - 0) + 2) 0 = some (false, default, ()) from eq_loop _ x m_laws_eqVector eq_Vector (by omega) fun _ _ => rfl]; simp
theorem to_VectorS (x : List (Nat × Nat × Nat)) (h : x.length ≤ 1048576) : m_laws_toVectorS x = x ∧ p_laws_toVectorS x = true := by
  unfold m_laws_toVectorS p_laws_toVectorS
  rw [show l_laws_toVectorS_0 x (Int.toNat (((List.length x : Nat) : Int) - 0) + 2) (List.replicate (Int.toNat ((List.length x : Nat) : Int)) (0, 0, 0)) 0 = some x by
    rw [copy_all (l_laws_toVectorS_0 x) x m_laws_toVector _ (by omega) fun _ _ _ => rfl]
    congr 1
    exact List.map_id x]
  refine ⟨rfl, ?_⟩
  simp; omega
theorem sz_VectorS (x : List (Nat × Nat × Nat)) (n : Int) (hx : x.length ≤ maxLen) (h0 : 0 ≤ n) (hn : n ≤ 1048576) (hs : ¬ (m_laws_szVectorS x n < 0)) : x.length ≤ 1048576 ∧ 0 ≤ m_laws_szVectorS x n ∧ m_laws_szVectorS x n ≤ 1048576 := by
  unfold m_laws_szVectorS at hs ⊢
  have hx' : x.length ≤ 9223372036854775807 := by unfold maxLen at hx; omega
  rw [wrapI (by omega) (by omega)] at hs ⊢
  by_cases h : n - ((List.length x : Nat) : Int) < 0
  · simp [h] at hs
  · rw [if_neg (by simpa using h)]; omega
end Go.Proofs
namespace Go.Proofs
open Go.Ab
theorem box_eq (x : List (Nat × Nat × Nat)) (hx : x.length ≤ 1048576) : ∀ (n : Nat) (a b : Nat × Nat × Nat) (k : Nat), k + 1 ≤ x.length → l_spec_BoxOfPlaces_0 x n a b ((k + 1 : Nat) : Int) = l_impl_BoxOfPlaces_0 x n a b (k : Int)
  | 0, _, _, _, _ => rfl
  | n + 1, a, b, k, hk => by
    unfold l_spec_BoxOfPlaces_0 l_impl_BoxOfPlaces_0
    have hl : (List.drop 1 x).length = x.length - 1 := List.length_drop
    have hg : atI (List.drop 1 x) (k : Int) = atI x ((k + 1 : Nat) : Int) := by rw [atI_nat, atI_nat]; simp [List.getD_eq_getElem?_getD, List.getElem?_drop, Nat.add_comm]
    rw [hg, hl, wrapS (by omega), wrapS (by omega), inB_nat, inB_nat]
    by_cases hlt : k + 1 < x.length
    · rw [if_pos (by simp; omega), if_pos (by simp; omega)]
      unfold need
      rw [if_pos (by simp; omega), if_pos (by simp; omega)]
      exact box_eq x hx n _ _ (k + 1) (by omega)
    · rw [if_neg (by simp; omega), if_neg (by simp; omega)]
theorem box_some (x : List (Nat × Nat × Nat)) (hx : x.length ≤ 1048576) : ∀ (n : Nat) (a b : Nat × Nat × Nat) (k : Nat), k ≤ x.length → x.length - k < n → Option.isSome (l_spec_BoxOfPlaces_0 x n a b (k : Int)) = true
  | 0, _, _, _, _, h => by omega
  | n + 1, a, b, k, hk, h => by
    unfold l_spec_BoxOfPlaces_0
    rw [wrapS (by omega), inB_nat]
    by_cases hlt : k < x.length
    · rw [if_pos (by simp; omega)]
      unfold need
      rw [if_pos (by simp; omega)]
      exact box_some x hx n _ _ (k + 1) (by omega) (by omega)
    · rw [if_neg (by simp; omega)]; rfl
theorem lesser_self (v : Nat) : m_spec_l03Lesser v v = v := by unfold m_spec_l03Lesser; split <;> rfl
theorem greater_self (v : Nat) : m_spec_l03Greater v v = v := by unfold m_spec_l03Greater; split <;> rfl
theorem box_start (x : List (Nat × Nat × Nat)) (h1 : 1 ≤ x.length) (hx : x.length ≤ 1048576) : l_spec_BoxOfPlaces_0 x (Int.toNat (((List.length x : Nat) : Int) - 0) + 2) (atI x 0) (atI x 0) 0 = l_impl_BoxOfPlaces_0 x (Int.toNat (((List.length (List.drop 1 x) : Nat) : Int) - 0) + 2) (atI x 0) (atI x 0) 0 := by
  have hl : (List.drop 1 x).length = x.length - 1 := List.length_drop
  have f1 : Int.toNat (((List.length x : Nat) : Int) - 0) + 2 = (x.length + 1) + 1 := by omega
  have f2 : Int.toNat (((List.length (List.drop 1 x) : Nat) : Int) - 0) + 2 = x.length + 1 := by rw [hl]; omega
  rw [f1, f2]
  conv => lhs; unfold l_spec_BoxOfPlaces_0
  have hb : inB 0 x.length = true := by simp [inB]; omega
  have hw : IntKind.wrap .i64 (0 + 1) = ((0 + 1 : Nat) : Int) := by decide
  rw [if_pos (by simp; omega), hb, hw, lesser_self, lesser_self, lesser_self, greater_self, greater_self, greater_self]
  unfold need
  rw [if_pos rfl]
  exact box_eq x hx _ _ _ 0 (by omega)
theorem core_BoxOfPlaces (x : List (Nat × Nat × Nat)) : p_impl_BoxOfPlaces x = true ∧ p_spec_BoxOfPlaces x = true ∧ m_impl_BoxOfPlaces x = m_spec_BoxOfPlaces x := by
  unfold p_impl_BoxOfPlaces p_spec_BoxOfPlaces m_impl_BoxOfPlaces m_spec_BoxOfPlaces
  by_cases h1 : ((List.length x : Nat) : Int) < 1
  · simp [h1]
  · by_cases h2 : (12 : Int) < ((List.length x : Nat) : Int)
    · simp [h1, h2]
    · have hs := box_some x (by omega) (Int.toNat (((List.length x : Nat) : Int) - 0) + 2) (atI x 0) (atI x 0) 0 (Nat.zero_le _) (by omega)
      have hb : inB 0 x.length = true := by simp [inB]; omega
      rw [show ((0 : Nat) : Int) = 0 from rfl] at hs
      rw [← box_start x (by omega) (by omega), hs, hb]
      refine ⟨?_, by simp, rfl⟩
      simp
      omega
theorem law_BoxOfPlaces (x : List (Nat × Nat × Nat)) (h : x.length ≤ maxLen) (_ : ∀ q ∈ x, Canon .f32 q.1 ∧ Canon .f32 q.2.1 ∧ Canon .f32 q.2.2) :
    g_laws_FnExactBoxOfPlaces [.sl (List.map en0 x)] = some (.bool true) := by
  have key : p_laws_FnExactBoxOfPlaces x = true ∧ m_laws_FnExactBoxOfPlaces x = true := by
    unfold p_laws_FnExactBoxOfPlaces m_laws_FnExactBoxOfPlaces
    by_cases hs : m_laws_szVectorS x 1048576 < 0
    · simp [hs]
    · obtain ⟨k1, k2, k3⟩ := sz_VectorS x 1048576 h (by omega) (by omega) hs
      obtain ⟨c1, c2, c3⟩ := core_BoxOfPlaces x
      simp [hs, to_VectorS x k1, c1, c2, c3, eq_VectorS x k1, eq_Vector]
  unfold g_laws_FnExactBoxOfPlaces
  simp only [dc_en0_map, key.1, key.2, if_true]
end Go.Proofs
