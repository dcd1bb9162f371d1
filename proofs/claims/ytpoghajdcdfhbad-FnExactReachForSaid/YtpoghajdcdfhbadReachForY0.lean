/- What functions that FnExactReachFor reaches compute. No conditions. -/
import Derived.Test.YtpoghajdcdfhbadFwF
import Derived.Test.YtpoghajdcdfhbadProg
import Derived.KernelRfl
set_option maxRecDepth 100000
set_option maxHeartbeats 4000000
set_option linter.all false
namespace Go.Proofs
open Go.Ab
theorem hm : Try.prog.follows .mixedOrders = true := by kernel_rfl
def en0 (p : (Nat × Nat × Nat)) : AV := (AV.agg [(.flt .f32 p.1), (.flt .f32 p.2.1), (.flt .f32 p.2.2)])
def dc_en0 : AV → Option (Nat × Nat × Nat)
  | .agg [.flt .f32 y0, .flt .f32 y1, .flt .f32 y2] => some (y0, y1, y2)
  | _ => none
theorem dc_en0_map (ys : List (Nat × Nat × Nat)) : decL dc_en0 (List.map en0 ys) = some ys := decL_map (d := dc_en0) (e := en0) (fun p => by rfl) ys
theorem dc_en0_inv : ∀ x p, dc_en0 x = some p → x = en0 p := by
  intro x p h; unfold dc_en0 at h; split at h
  · cases h; rfl
  · cases h
theorem dc_en0_es (l : List (Nat × Nat × Nat)) : List.all (List.map en0 l) (esIs 3) = true := all_enc (fun _ => rfl) l
theorem dc_en0_st (l : List (Nat × Nat × Nat)) : List.all (List.map en0 l) (esSt 3) = true := all_enc (fun _ => rfl) l
theorem dc_en0_fl (l : List (Nat × Nat × Nat)) : List.all (List.map en0 l) flatE = true := all_enc (fun _ => rfl) l
def grpC := And.intro @dc_en0_map <| And.intro @dc_en0_es <| And.intro @dc_en0_st @dc_en0_fl
def m_laws_szVectorS (x0 : (List (Nat × Nat × Nat))) (x1 : Int) : Int := (if (decide ((IntKind.wrap .i64 (x1 - ((List.length x0 : Nat) : Int))) < 0)) = true then (-1) else
      (IntKind.wrap .i64 (x1 - ((List.length x0 : Nat) : Int))))
def g_laws_szVectorS : List AV → Option AV
  | [.sl w0, .int .i64 y1] => (match decL dc_en0 w0 with | some y0 => (some (.int .i64 (m_laws_szVectorS y0 y1))) | none => none)
  | _ => none
def ic33 : ICode := (.seq (.reg [⟨(some 4), none, (.mov (.c (.int .i64 0)))⟩] [0, 1]) (.seq (.reg [⟨(some 5), none, (.mov (.t 1))⟩, ⟨(some 6), none, (.mov (.t 0))⟩, ⟨(some 7), none,
      (.len false (.t 6))⟩, ⟨(some 8), none, (.bin .sub false (.t 5) (.t 7))⟩, ⟨(some 1), none, (.mov (.t 8))⟩] [1]) (.seq (.seq (.reg [⟨(some 9), none, (.mov (.t 1))⟩, ⟨(some 10),
      none, (.bin .lss false (.t 9) (.c (.int .i64 0)))⟩] [1, 10]) (.cond (.t 10) (.seq (.reg [⟨(some 4), none, (.mov (.c (.int .i64 (-1))))⟩] [4]) .ret) .skip)) (.seq (.reg [⟨(some
      11), none, (.mov (.t 1))⟩, ⟨(some 4), none, (.mov (.t 11))⟩] [4]) .ret))))
def cp33 : CP := CP.mk [] [] [[0, 1], [1], [1, 10], [4], [4]] 12
theorem fc33_0 : IntKind.wrap .i64 0 = 0 := by decide
theorem fc33_1 : IntKind.wrap .i64 1 = 1 := by decide
theorem fc33_2 : IntKind.wrap .i64 2 = 2 := by decide
theorem fc33_3 : IntKind.wrap .i64 3 = 3 := by decide
theorem fc33_4 : IntKind.wrap .i64 4 = 4 := by decide
theorem fc33_5 : IntKind.wrap .i64 5 = 5 := by decide
theorem fc33_6 : IntKind.wrap .i64 6 = 6 := by decide
theorem fc33_7 : IntKind.wrap .i64 7 = 7 := by decide
theorem s33 : ∀ vs r, g_laws_szVectorS vs = some r → SaysM Try.prog .any 33 vs r := by
  intro vs r h
  unfold g_laws_szVectorS at h
  split at h
  · rename_i w0 y1
    cases hd_y0 : decL dc_en0 w0 with
    | none => rw [hd_y0] at h; cases h
    | some y0 =>
    rw [hd_y0] at h
    obtain rfl := decL_inv dc_en0_inv hd_y0
    clear hd_y0
    dsimp only at h
    cases h
    refine spec_of (m := .any) (tab := tabOf []) (cp := cp33) (ic := ic33) (rvl := [(.t 4)]) hm tabOk_nil Try.func33 rfl rfl rfl (by kernel_rfl) rfl (Nat.le_of_ble_eq_true rfl) (Nat.le_of_ble_eq_true rfl) ?_
    show eA _ _ _ _
    unfold ic33
    simp only [
        grpS, grpD, grpF, grpL, eop, vop, bop, uop, fltop, convop, endOk, newE, new1, freshL, Md.isNew, outV, pureV, pureX, pure1, AV.cells, AV.one, storable, laid, refless,
              refless1, vload, loadC, storeC, vnil, vfaddr, vextract, flatT, flatE, flatC, vconv, vmm, vidxA, viaddrA, vfield, vlen, elemsOf, dF32, dF64, dI64, dU8, dBool, dStr,
              esOk, elemsS, vsliceX, bnd, ownV, ownC, own1, ownT, isSl, nSl, endL, Md.isOwn, purge, purgeH, purgeB, purgeE, hasName, name1, List.any_cons, List.any_nil, Md.isWr,
              pureV.pureP, Option.map, reduceIte, Nat.reduceEqDiff, Nat.reduceAdd, Nat.reduceMul, Nat.reduceLT, Nat.reduceLeDiff, List.mapM_cons, List.mapM_nil, Option.pure_def,
              Option.bind_eq_bind, Option.bind_some, implies_true, forall_const, beq_self_eq_true, decide_true, decide_false, eq_self, Int.reduceEq, Int.reduceLE, Int.reduceLT,
              if_true, if_false, fc33_0, fc33_1, fc33_2, fc33_3, fc33_4, fc33_5, fc33_6, fc33_7, Int.reduceAdd, Int.reduceSub, Int.reduceMul, Int.reduceNeg, Int.reducePow,
              Nat.reducePow, Int.reduceToNat, Nat.reduceSub, List.replicate, Nat.reduceBEq, wAs, wA, wC, zipW, noDupN, grpE, grpC, en0, dc_en0]
    repeat' (first
      | ((first | (refine eGI_of (fun h => ?_) (fun h => ?_)) | (refine eCc_of (fun h => ?_) (fun h => ?_))) <;> (try simp only [Bool.not_eq_true', Bool.not_eq_false'] at h) <;> simp only [h,
        grpS, grpD, grpF, grpL, eop, vop, bop, uop, fltop, convop, endOk, newE, new1, freshL, Md.isNew, outV, pureV, pureX, pure1, AV.cells, AV.one, storable, laid, refless,
              refless1, vload, loadC, storeC, vnil, vfaddr, vextract, flatT, flatE, flatC, vconv, vmm, vidxA, viaddrA, vfield, vlen, elemsOf, dF32, dF64, dI64, dU8, dBool, dStr,
              esOk, elemsS, vsliceX, bnd, ownV, ownC, own1, ownT, isSl, nSl, endL, Md.isOwn, purge, purgeH, purgeB, purgeE, hasName, name1, List.any_cons, List.any_nil, Md.isWr,
              pureV.pureP, Option.map, reduceIte, Nat.reduceEqDiff, Nat.reduceAdd, Nat.reduceMul, Nat.reduceLT, Nat.reduceLeDiff, List.mapM_cons, List.mapM_nil, Option.pure_def,
              Option.bind_eq_bind, Option.bind_some, implies_true, forall_const, beq_self_eq_true, decide_true, decide_false, eq_self, Int.reduceEq, Int.reduceLE, Int.reduceLT,
              if_true, if_false, fc33_0, fc33_1, fc33_2, fc33_3, fc33_4, fc33_5, fc33_6, fc33_7, Int.reduceAdd, Int.reduceSub, Int.reduceMul, Int.reduceNeg, Int.reducePow,
              Nat.reducePow, Int.reduceToNat, Nat.reduceSub, List.replicate, Nat.reduceBEq, wAs, wA, wC, zipW, noDupN, grpE, grpC, en0, dc_en0]))
    all_goals (try simp only [*, m_laws_szVectorS, Bool.and_true, Bool.true_and, Bool.and_false, Bool.false_and, Bool.or_true, Bool.true_or, Bool.or_false, Bool.false_or, Bool.not_true, Bool.not_false, Bool.false_eq_true, if_true, if_false, reduceIte, decide_true, decide_false])
    all_goals (try (simp_all; done))
  · cases h
def m_laws_toVector (x0 : (Nat × Nat × Nat)) : (Nat × Nat × Nat) := (x0.1, x0.2.1, x0.2.2)
def g_laws_toVector : List AV → Option AV
  | [.agg [.flt .f32 y0, .flt .f32 y1, .flt .f32 y2]] => some (AV.agg [(.flt .f32 (m_laws_toVector (y0, y1, y2)).1), (.flt .f32
      (m_laws_toVector (y0, y1, y2)).2.1), (.flt .f32 (m_laws_toVector (y0, y1, y2)).2.2)])
  | _ => none
def ic38 : ICode := (.seq (.reg [⟨(some 1), none, (.box 3 (.t 0))⟩, ⟨(some 2), none, (.alloc (.agg [(.flt .f32 0), (.flt .f32 0), (.flt .f32 0)]))⟩] [1, 2]) (.seq (.reg [⟨(some 3),
      none, (.alloc (.agg [(.flt .f32 0), (.flt .f32 0), (.flt .f32 0)]))⟩] [1, 2, 3]) (.seq (.reg [⟨(some 4), none, (.faddr 0 (.t 1))⟩, ⟨(some 5), none, (.load none (.t 4))⟩,
      ⟨(some 6), none, (.faddr 0 (.t 3))⟩, ⟨none, none, (.store 1 (.t 6) (.t 5))⟩] [1, 2, 3]) (.seq (.reg [⟨(some 7), none, (.faddr 1 (.t 1))⟩, ⟨(some 8), none, (.load none (.t
      7))⟩, ⟨(some 9), none, (.faddr 1 (.t 3))⟩, ⟨none, none, (.store 1 (.t 9) (.t 8))⟩] [1, 2, 3]) (.seq (.reg [⟨(some 10), none, (.faddr 2 (.t 1))⟩, ⟨(some 11), none, (.load none
      (.t 10))⟩, ⟨(some 12), none, (.faddr 2 (.t 3))⟩, ⟨none, none, (.store 1 (.t 12) (.t 11))⟩] [2, 3]) (.seq (.reg [⟨(some 13), none, (.load (some 3) (.t 3))⟩, ⟨none, none,
      (.store 3 (.t 2) (.t 13))⟩] [2]) .ret))))))
def cp38 : CP := CP.mk [] [] [[1, 2], [1, 2, 3], [1, 2, 3], [1, 2, 3], [2, 3], [2]] 14
theorem fc38_0 : IntKind.wrap .i64 0 = 0 := by decide
theorem fc38_1 : IntKind.wrap .i64 1 = 1 := by decide
theorem fc38_2 : IntKind.wrap .i64 2 = 2 := by decide
theorem fc38_3 : IntKind.wrap .i64 3 = 3 := by decide
theorem fc38_4 : IntKind.wrap .i64 4 = 4 := by decide
theorem fc38_5 : IntKind.wrap .i64 5 = 5 := by decide
theorem fc38_6 : IntKind.wrap .i64 6 = 6 := by decide
theorem fc38_7 : IntKind.wrap .i64 7 = 7 := by decide
theorem s38 : ∀ vs r, g_laws_toVector vs = some r → SaysM Try.prog .any 38 vs r := by
  intro vs r h
  unfold g_laws_toVector at h
  split at h
  · rename_i y0 y1 y2
    cases h
    refine spec_of (m := .any) (tab := tabOf []) (cp := cp38) (ic := ic38) (rvl := [(.c 2 (some 3))]) hm tabOk_nil Try.func38 rfl rfl rfl (by kernel_rfl) rfl (Nat.le_of_ble_eq_true rfl) (Nat.le_of_ble_eq_true rfl) ?_
    show eA _ _ _ _
    unfold ic38
    simp only [
        grpS, grpD, grpF, grpL, eop, vop, bop, uop, fltop, convop, endOk, newE, new1, freshL, Md.isNew, outV, pureV, pureX, pure1, AV.cells, AV.one, storable, laid, refless,
              refless1, vload, loadC, storeC, vnil, vfaddr, vextract, flatT, flatE, flatC, vconv, vmm, vidxA, viaddrA, vfield, vlen, elemsOf, dF32, dF64, dI64, dU8, dBool, dStr,
              esOk, elemsS, vsliceX, bnd, ownV, ownC, own1, ownT, isSl, nSl, endL, Md.isOwn, purge, purgeH, purgeB, purgeE, hasName, name1, List.any_cons, List.any_nil, Md.isWr,
              pureV.pureP, Option.map, reduceIte, Nat.reduceEqDiff, Nat.reduceAdd, Nat.reduceMul, Nat.reduceLT, Nat.reduceLeDiff, List.mapM_cons, List.mapM_nil, Option.pure_def,
              Option.bind_eq_bind, Option.bind_some, implies_true, forall_const, beq_self_eq_true, decide_true, decide_false, eq_self, Int.reduceEq, Int.reduceLE, Int.reduceLT,
              if_true, if_false, fc38_0, fc38_1, fc38_2, fc38_3, fc38_4, fc38_5, fc38_6, fc38_7, Int.reduceAdd, Int.reduceSub, Int.reduceMul, Int.reduceNeg, Int.reducePow,
              Nat.reducePow, Int.reduceToNat, Nat.reduceSub, List.replicate, Nat.reduceBEq, wAs, wA, wC, zipW, noDupN, grpE, grpC, en0, dc_en0]
    repeat' (first
      | ((first | (refine eGI_of (fun h => ?_) (fun h => ?_)) | (refine eCc_of (fun h => ?_) (fun h => ?_))) <;> (try simp only [Bool.not_eq_true', Bool.not_eq_false'] at h) <;> simp only [h,
        grpS, grpD, grpF, grpL, eop, vop, bop, uop, fltop, convop, endOk, newE, new1, freshL, Md.isNew, outV, pureV, pureX, pure1, AV.cells, AV.one, storable, laid, refless,
              refless1, vload, loadC, storeC, vnil, vfaddr, vextract, flatT, flatE, flatC, vconv, vmm, vidxA, viaddrA, vfield, vlen, elemsOf, dF32, dF64, dI64, dU8, dBool, dStr,
              esOk, elemsS, vsliceX, bnd, ownV, ownC, own1, ownT, isSl, nSl, endL, Md.isOwn, purge, purgeH, purgeB, purgeE, hasName, name1, List.any_cons, List.any_nil, Md.isWr,
              pureV.pureP, Option.map, reduceIte, Nat.reduceEqDiff, Nat.reduceAdd, Nat.reduceMul, Nat.reduceLT, Nat.reduceLeDiff, List.mapM_cons, List.mapM_nil, Option.pure_def,
              Option.bind_eq_bind, Option.bind_some, implies_true, forall_const, beq_self_eq_true, decide_true, decide_false, eq_self, Int.reduceEq, Int.reduceLE, Int.reduceLT,
              if_true, if_false, fc38_0, fc38_1, fc38_2, fc38_3, fc38_4, fc38_5, fc38_6, fc38_7, Int.reduceAdd, Int.reduceSub, Int.reduceMul, Int.reduceNeg, Int.reducePow,
              Nat.reducePow, Int.reduceToNat, Nat.reduceSub, List.replicate, Nat.reduceBEq, wAs, wA, wC, zipW, noDupN, grpE, grpC, en0, dc_en0]))
    all_goals (try simp only [*, m_laws_toVector, Bool.and_true, Bool.true_and, Bool.and_false, Bool.false_and, Bool.or_true, Bool.true_or, Bool.or_false, Bool.false_or, Bool.not_true, Bool.not_false, Bool.false_eq_true, if_true, if_false, reduceIte, decide_true, decide_false])
    all_goals (try (simp_all; done))
  · cases h
def l_laws_toVectorS_0 (x0 : (List (Nat × Nat × Nat))) : Nat → (List (Nat × Nat × Nat)) → Int → Option (List (Nat × Nat × Nat))
  | 0, _, _ => none
  | n + 1, z0_0, z0_1 => (if (decide (z0_1 < ((List.length x0 : Nat) : Int))) = true then (need (inB z0_1 (List.length x0)) (need (inB z0_1 (List.length z0_0)) (l_laws_toVectorS_0
        x0 n (List.set z0_0 (Int.toNat z0_1) (m_laws_toVector (atI x0 z0_1))) (IntKind.wrap .i64 (z0_1 + 1))))) else (some z0_0))
def m_laws_toVectorS (x0 : (List (Nat × Nat × Nat))) : (List (Nat × Nat × Nat)) := (Option.getD (l_laws_toVectorS_0 x0 (Int.toNat (((List.length x0 : Nat) : Int) - 0) + 2)
      (List.replicate (Int.toNat ((List.length x0 : Nat) : Int)) (0, 0, 0)) 0) default)
def p_laws_toVectorS (x0 : (List (Nat × Nat × Nat))) : Bool := ((decide (0 ≤ ((List.length x0 : Nat) : Int))) && ((decide (((List.length x0 : Nat) : Int) * 12 ≤ 70368744177664)) &&
      ((decide (((List.length x0 : Nat) : Int) ≤ 70368744177664)) && (Option.isSome (l_laws_toVectorS_0 x0 (Int.toNat (((List.length x0 : Nat) : Int) - 0) + 2) (List.replicate
      (Int.toNat ((List.length x0 : Nat) : Int)) (0, 0, 0)) 0)))))
def g_laws_toVectorS : List AV → Option AV
  | [.sl w0] => (match decL dc_en0 w0 with | some y0 => (if p_laws_toVectorS y0 = true then some (.sl (List.map en0 (m_laws_toVectorS y0))) else none) | none => none)
  | _ => none
def lb35_0 : ICode := (.seq (.seq (.reg [⟨(some 8), none, (.mov (.t 4))⟩, ⟨(some 9), none, (.mov (.t 0))⟩, ⟨(some 10), none, (.len false (.t 9))⟩, ⟨(some 11), none, (.bin .lss false
      (.t 8) (.t 10))⟩] [0, 3, 4, 11]) (.cond (.t 11) .skip (.exit 0))) (.seq (.block 1 (.reg [⟨(some 14), none, (.mov (.t 3))⟩, ⟨(some 15), none, (.mov (.t 4))⟩, ⟨(some 16), none,
      (.mov (.t 0))⟩, ⟨(some 17), none, (.mov (.t 4))⟩, ⟨(some 18), none, (.iaddrS 3 (.t 16) (.t 17))⟩, ⟨(some 19), none, (.load (some 3) (.t 18))⟩, ⟨(some 20), none, (.call (.fn
      38) [(.t 19)] [])⟩, ⟨(some 21), none, (.iaddrS 3 (.t 14) (.t 15))⟩, ⟨none, none, (.store 3 (.t 21) (.t 20))⟩] [0, 3, 4])) (.reg [⟨(some 12), none, (.mov (.t 4))⟩, ⟨(some 13),
      none, (.bin .add false (.t 12) (.c (.int .i64 1)))⟩, ⟨(some 4), none, (.mov (.t 13))⟩] [0, 3, 4])))
def ic35 : ICode := (.seq (.reg [⟨(some 2), none, (.mov (.c .snil))⟩] [0]) (.seq (.reg [⟨(some 5), none, (.mov (.t 0))⟩, ⟨(some 6), none, (.len false (.t 5))⟩, ⟨(some 7), none,
      (.mkslice 3 12 (.agg [(.flt .f32 0), (.flt .f32 0), (.flt .f32 0)]) (.t 6) (.t 6))⟩, ⟨(some 3), none, (.mov (.t 7))⟩] [0, 3]) (.seq (.seq (.reg [⟨(some 4), none, (.mov (.c
      (.int .i64 0)))⟩] [0, 3, 4]) (.block 0 (.loop lb35_0))) (.seq (.reg [⟨(some 22), none, (.mov (.t 3))⟩, ⟨(some 2), none, (.mov (.t 22))⟩] [2]) .ret))))
def cp35 : CP := CP.mk [] [] [[0], [0, 3], [0, 3, 4], [0, 3, 4, 11], [0, 3, 4], [0, 3, 4], [2]] 23
theorem fc35_0 : IntKind.wrap .i64 0 = 0 := by decide
theorem fc35_1 : IntKind.wrap .i64 1 = 1 := by decide
theorem fc35_2 : IntKind.wrap .i64 2 = 2 := by decide
theorem fc35_3 : IntKind.wrap .i64 3 = 3 := by decide
theorem fc35_4 : IntKind.wrap .i64 4 = 4 := by decide
theorem fc35_5 : IntKind.wrap .i64 5 = 5 := by decide
theorem fc35_6 : IntKind.wrap .i64 6 = 6 := by decide
theorem fc35_7 : IntKind.wrap .i64 7 = 7 := by decide
theorem sl35_0 (x0 : (List (Nat × Nat × Nat))) : ∀ (n : Nat) (z0_0 : (List (Nat × Nat × Nat))) (z0_1 : Int) (o : (List (Nat × Nat × Nat))) (K : IExit → St → Prop),
      l_laws_toVectorS_0 x0 n z0_0 z0_1 = some o → (∀ st, Wk st (⟨[(3, (.lsl 7 0 (List.length o)))], [(7, (some ⟨3, true, (List.map en0 o)⟩))]⟩ : St) → K (.exit 0) st) → eA (tabOf
      [(38, wM .any g_laws_toVector)]) (.loop lb35_0) (⟨[(0, (.sl (List.map en0 x0))), (3, (.lsl 7 0 (List.length z0_0))), (4, (.int .i64 z0_1))], [(7, (some ⟨3, true, (List.map en0
      z0_0)⟩))]⟩ : St) K := by
  intro n
  induction n with
  | zero =>
    intro z0_0 z0_1 o K h h0
    simp only [l_laws_toVectorS_0, reduceCtorEq] at h
  | succ n ih =>
    intro z0_0 z0_1 o K h h0
    refine eA_loop ?_
    unfold lb35_0
    unfold l_laws_toVectorS_0 at h
    (try simp only [need_iff] at h)
    simp only [
      need_iff, h, grpS, grpD, grpF, grpL, eop, vop, bop, uop, fltop, convop, endOk, newE, new1, freshL, Md.isNew, outV, pureV, pureX, pure1, AV.cells, AV.one, storable, laid,
            refless, refless1, vload, loadC, storeC, vnil, vfaddr, vextract, flatT, flatE, flatC, vconv, vmm, vidxA, viaddrA, vfield, vlen, elemsOf, dF32, dF64, dI64, dU8, dBool,
            dStr, esOk, elemsS, vsliceX, bnd, ownV, ownC, own1, ownT, isSl, nSl, endL, Md.isOwn, purge, purgeH, purgeB, purgeE, hasName, name1, List.any_cons, List.any_nil, Md.isWr,
            pureV.pureP, Option.map, reduceIte, Nat.reduceEqDiff, Nat.reduceAdd, Nat.reduceMul, Nat.reduceLT, Nat.reduceLeDiff, List.mapM_cons, List.mapM_nil, Option.pure_def,
            Option.bind_eq_bind, Option.bind_some, implies_true, forall_const, beq_self_eq_true, decide_true, decide_false, eq_self, Int.reduceEq, Int.reduceLE, Int.reduceLT,
            if_true, if_false, fc35_0, fc35_1, fc35_2, fc35_3, fc35_4, fc35_5, fc35_6, fc35_7, Int.reduceAdd, Int.reduceSub, Int.reduceMul, Int.reduceNeg, Int.reducePow,
            Nat.reducePow, Int.reduceToNat, Nat.reduceSub, List.replicate, Nat.reduceBEq, wAs, wA, wC, zipW, noDupN, grpE, g_laws_toVector, grpC, en0, dc_en0]
    repeat' (first
      | ((first | (refine eGI_of (fun hc => ?_) (fun hc => ?_)) | (refine eCc_of (fun hc => ?_) (fun hc => ?_)) | (have hc := True.intro; refine KW_refl ?_)) <;> (try simp only [Bool.not_eq_true', Bool.not_eq_false'] at hc) <;> (try simp only [hc, need_iff, reduceCtorEq, Bool.not_eq_true', decide_eq_false_iff_not, Bool.not_true, Bool.not_false, Bool.false_or, Bool.true_or, Bool.true_and, Bool.false_and, Bool.and_eq_true, Bool.or_eq_true, if_true, if_false, reduceIte, Bool.false_eq_true, and_true, true_and, false_or, or_false, decide_eq_true_eq, not_false_eq_true, not_true_eq_false] at h) <;> (try (have hc2 := hc; simp only [decide_eq_true_eq, decide_eq_false_iff_not] at hc2; simp only [hc2, if_true, if_false, reduceCtorEq, Bool.not_eq_true', decide_eq_false_iff_not, Bool.not_true, Bool.not_false, Bool.false_or, Bool.true_or, Bool.true_and, Bool.false_and, Bool.and_eq_true, Bool.or_eq_true, if_true, if_false, reduceIte, Bool.false_eq_true, and_true, true_and, false_or, or_false, decide_eq_true_eq, not_false_eq_true, not_true_eq_false] at h)) <;> simp only [hc,
      need_iff, h, grpS, grpD, grpF, grpL, eop, vop, bop, uop, fltop, convop, endOk, newE, new1, freshL, Md.isNew, outV, pureV, pureX, pure1, AV.cells, AV.one, storable, laid,
            refless, refless1, vload, loadC, storeC, vnil, vfaddr, vextract, flatT, flatE, flatC, vconv, vmm, vidxA, viaddrA, vfield, vlen, elemsOf, dF32, dF64, dI64, dU8, dBool,
            dStr, esOk, elemsS, vsliceX, bnd, ownV, ownC, own1, ownT, isSl, nSl, endL, Md.isOwn, purge, purgeH, purgeB, purgeE, hasName, name1, List.any_cons, List.any_nil, Md.isWr,
            pureV.pureP, Option.map, reduceIte, Nat.reduceEqDiff, Nat.reduceAdd, Nat.reduceMul, Nat.reduceLT, Nat.reduceLeDiff, List.mapM_cons, List.mapM_nil, Option.pure_def,
            Option.bind_eq_bind, Option.bind_some, implies_true, forall_const, beq_self_eq_true, decide_true, decide_false, eq_self, Int.reduceEq, Int.reduceLE, Int.reduceLT,
            if_true, if_false, fc35_0, fc35_1, fc35_2, fc35_3, fc35_4, fc35_5, fc35_6, fc35_7, Int.reduceAdd, Int.reduceSub, Int.reduceMul, Int.reduceNeg, Int.reducePow,
            Nat.reducePow, Int.reduceToNat, Nat.reduceSub, List.replicate, Nat.reduceBEq, wAs, wA, wC, zipW, noDupN, grpE, g_laws_toVector, grpC, en0, dc_en0]))
    all_goals (repeat (replace h := And.right h))
    all_goals first
      | (refine eA_wk (wk_norm (ks := [0, 3, 4]) (ls := [7]) ?_) (eA_cast ?_ (ih _ _ _ _ h h0)); (simp only [normOk, optIn, blkIn, nameIn,
      need_iff, h, grpS, grpD, grpF, grpL, eop, vop, bop, uop, fltop, convop, endOk, newE, new1, freshL, Md.isNew, outV, pureV, pureX, pure1, AV.cells, AV.one, storable, laid,
            refless, refless1, vload, loadC, storeC, vnil, vfaddr, vextract, flatT, flatE, flatC, vconv, vmm, vidxA, viaddrA, vfield, vlen, elemsOf, dF32, dF64, dI64, dU8, dBool,
            dStr, esOk, elemsS, vsliceX, bnd, ownV, ownC, own1, ownT, isSl, nSl, endL, Md.isOwn, purge, purgeH, purgeB, purgeE, hasName, name1, List.any_cons, List.any_nil, Md.isWr,
            pureV.pureP, Option.map, reduceIte, Nat.reduceEqDiff, Nat.reduceAdd, Nat.reduceMul, Nat.reduceLT, Nat.reduceLeDiff, List.mapM_cons, List.mapM_nil, Option.pure_def,
            Option.bind_eq_bind, Option.bind_some, implies_true, forall_const, beq_self_eq_true, decide_true, decide_false, eq_self, Int.reduceEq, Int.reduceLE, Int.reduceLT,
            if_true, if_false, fc35_0, fc35_1, fc35_2, fc35_3, fc35_4, fc35_5, fc35_6, fc35_7, Int.reduceAdd, Int.reduceSub, Int.reduceMul, Int.reduceNeg, Int.reducePow,
            Nat.reducePow, Int.reduceToNat, Nat.reduceSub, List.replicate, Nat.reduceBEq, wAs, wA, wC, zipW, noDupN, grpE, g_laws_toVector, grpC, en0, dc_en0] <;> rfl); (simp only [normS, List.map_append, List.length_append, List.map_set, List.length_set, List.map_replicate, List.length_replicate, List.map_nil, List.map_cons,
      need_iff, h, grpS, grpD, grpF, grpL, eop, vop, bop, uop, fltop, convop, endOk, newE, new1, freshL, Md.isNew, outV, pureV, pureX, pure1, AV.cells, AV.one, storable, laid,
            refless, refless1, vload, loadC, storeC, vnil, vfaddr, vextract, flatT, flatE, flatC, vconv, vmm, vidxA, viaddrA, vfield, vlen, elemsOf, dF32, dF64, dI64, dU8, dBool,
            dStr, esOk, elemsS, vsliceX, bnd, ownV, ownC, own1, ownT, isSl, nSl, endL, Md.isOwn, purge, purgeH, purgeB, purgeE, hasName, name1, List.any_cons, List.any_nil, Md.isWr,
            pureV.pureP, Option.map, reduceIte, Nat.reduceEqDiff, Nat.reduceAdd, Nat.reduceMul, Nat.reduceLT, Nat.reduceLeDiff, List.mapM_cons, List.mapM_nil, Option.pure_def,
            Option.bind_eq_bind, Option.bind_some, implies_true, forall_const, beq_self_eq_true, decide_true, decide_false, eq_self, Int.reduceEq, Int.reduceLE, Int.reduceLT,
            if_true, if_false, fc35_0, fc35_1, fc35_2, fc35_3, fc35_4, fc35_5, fc35_6, fc35_7, Int.reduceAdd, Int.reduceSub, Int.reduceMul, Int.reduceNeg, Int.reducePow,
            Nat.reducePow, Int.reduceToNat, Nat.reduceSub, List.replicate, Nat.reduceBEq, wAs, wA, wC, zipW, noDupN, grpE, g_laws_toVector, grpC, en0, dc_en0] <;> rfl))
      | (cases h; refine h0 _ (Wk.cast (wk_norm (ks := [3]) (ls := [7]) ?_) ?_); (simp only [normOk, optIn, blkIn, nameIn,
      grpS, grpD, grpF, grpL, eop, vop, bop, uop, fltop, convop, endOk, newE, new1, freshL, Md.isNew, outV, pureV, pureX, pure1, AV.cells, AV.one, storable, laid, refless, refless1,
            vload, loadC, storeC, vnil, vfaddr, vextract, flatT, flatE, flatC, vconv, vmm, vidxA, viaddrA, vfield, vlen, elemsOf, dF32, dF64, dI64, dU8, dBool, dStr, esOk, elemsS,
            vsliceX, bnd, ownV, ownC, own1, ownT, isSl, nSl, endL, Md.isOwn, purge, purgeH, purgeB, purgeE, hasName, name1, List.any_cons, List.any_nil, Md.isWr, pureV.pureP,
            Option.map, reduceIte, Nat.reduceEqDiff, Nat.reduceAdd, Nat.reduceMul, Nat.reduceLT, Nat.reduceLeDiff, List.mapM_cons, List.mapM_nil, Option.pure_def,
            Option.bind_eq_bind, Option.bind_some, implies_true, forall_const, beq_self_eq_true, decide_true, decide_false, eq_self, Int.reduceEq, Int.reduceLE, Int.reduceLT,
            if_true, if_false, fc35_0, fc35_1, fc35_2, fc35_3, fc35_4, fc35_5, fc35_6, fc35_7, Int.reduceAdd, Int.reduceSub, Int.reduceMul, Int.reduceNeg, Int.reducePow,
            Nat.reducePow, Int.reduceToNat, Nat.reduceSub, List.replicate, Nat.reduceBEq, wAs, wA, wC, zipW, noDupN, grpE, g_laws_toVector, grpC, en0, dc_en0] <;> rfl); (simp only [normS, List.map_append, List.length_append, List.map_set, List.length_set, List.map_replicate, List.length_replicate,
      grpS, grpD, grpF, grpL, eop, vop, bop, uop, fltop, convop, endOk, newE, new1, freshL, Md.isNew, outV, pureV, pureX, pure1, AV.cells, AV.one, storable, laid, refless, refless1,
            vload, loadC, storeC, vnil, vfaddr, vextract, flatT, flatE, flatC, vconv, vmm, vidxA, viaddrA, vfield, vlen, elemsOf, dF32, dF64, dI64, dU8, dBool, dStr, esOk, elemsS,
            vsliceX, bnd, ownV, ownC, own1, ownT, isSl, nSl, endL, Md.isOwn, purge, purgeH, purgeB, purgeE, hasName, name1, List.any_cons, List.any_nil, Md.isWr, pureV.pureP,
            Option.map, reduceIte, Nat.reduceEqDiff, Nat.reduceAdd, Nat.reduceMul, Nat.reduceLT, Nat.reduceLeDiff, List.mapM_cons, List.mapM_nil, Option.pure_def,
            Option.bind_eq_bind, Option.bind_some, implies_true, forall_const, beq_self_eq_true, decide_true, decide_false, eq_self, Int.reduceEq, Int.reduceLE, Int.reduceLT,
            if_true, if_false, fc35_0, fc35_1, fc35_2, fc35_3, fc35_4, fc35_5, fc35_6, fc35_7, Int.reduceAdd, Int.reduceSub, Int.reduceMul, Int.reduceNeg, Int.reducePow,
            Nat.reducePow, Int.reduceToNat, Nat.reduceSub, List.replicate, Nat.reduceBEq, wAs, wA, wC, zipW, noDupN, grpE, g_laws_toVector, grpC, en0, dc_en0] <;> rfl))
theorem s35 : ∀ vs r, g_laws_toVectorS vs = some r → SaysM Try.prog (.own [3]) 35 vs r := by
  intro vs r h
  unfold g_laws_toVectorS at h
  split at h
  · rename_i w0
    cases hd_y0 : decL dc_en0 w0 with
    | none => rw [hd_y0] at h; cases h
    | some y0 =>
    rw [hd_y0] at h
    obtain rfl := decL_inv dc_en0_inv hd_y0
    clear hd_y0
    dsimp only at h
    split at h
    · rename_i hp
      cases h
      refine spec_of (m := (.own [3])) (tab := tabOf [(38, wM .any g_laws_toVector)]) (cp := cp35) (ic := ic35) (rvl := [(.t 2)]) hm (tabOk_cons (m := .any) s38 tabOk_nil) Try.func35 rfl rfl rfl (by kernel_rfl) rfl (Nat.le_of_ble_eq_true rfl) (Nat.le_of_ble_eq_true rfl) ?_
      show eA _ _ _ _
      unfold ic35
      simp only [p_laws_toVectorS, Bool.and_eq_true, Bool.or_eq_true, decide_eq_true_eq, Bool.not_eq_true', decide_eq_false_iff_not] at hp
      simp only [
          hp, grpS, grpD, grpF, grpL, eop, vop, bop, uop, fltop, convop, endOk, newE, new1, freshL, Md.isNew, outV, pureV, pureX, pure1, AV.cells, AV.one, storable, laid, refless,
                refless1, vload, loadC, storeC, vnil, vfaddr, vextract, flatT, flatE, flatC, vconv, vmm, vidxA, viaddrA, vfield, vlen, elemsOf, dF32, dF64, dI64, dU8, dBool, dStr,
                esOk, elemsS, vsliceX, bnd, ownV, ownC, own1, ownT, isSl, nSl, endL, Md.isOwn, purge, purgeH, purgeB, purgeE, hasName, name1, List.any_cons, List.any_nil, Md.isWr,
                pureV.pureP, Option.map, reduceIte, Nat.reduceEqDiff, Nat.reduceAdd, Nat.reduceMul, Nat.reduceLT, Nat.reduceLeDiff, List.mapM_cons, List.mapM_nil, Option.pure_def,
                Option.bind_eq_bind, Option.bind_some, implies_true, forall_const, beq_self_eq_true, decide_true, decide_false, eq_self, Int.reduceEq, Int.reduceLE, Int.reduceLT,
                if_true, if_false, fc35_0, fc35_1, fc35_2, fc35_3, fc35_4, fc35_5, fc35_6, fc35_7, Int.reduceAdd, Int.reduceSub, Int.reduceMul, Int.reduceNeg, Int.reducePow,
                Nat.reducePow, Int.reduceToNat, Nat.reduceSub, List.replicate, Nat.reduceBEq, wAs, wA, wC, zipW, noDupN, grpE, g_laws_toVector, grpC, en0, dc_en0]
      repeat' (first
        | ((first | (refine eGI_of (fun h => ?_) (fun h => ?_)) | (refine eCc_of (fun h => ?_) (fun h => ?_)) | (have h := True.intro; refine KW_refl ?_)) <;> (try simp only [Bool.not_eq_true', Bool.not_eq_false'] at h) <;> (try simp only [h, reduceCtorEq, Bool.not_eq_true', decide_eq_false_iff_not, Bool.not_true, Bool.not_false, Bool.false_or, Bool.true_or, Bool.true_and, Bool.false_and, Bool.and_eq_true, Bool.or_eq_true, if_true, if_false, reduceIte, Bool.false_eq_true, and_true, true_and, false_or, or_false, decide_eq_true_eq, not_false_eq_true, not_true_eq_false] at hp) <;> (try (have h2 := h; simp only [decide_eq_true_eq, decide_eq_false_iff_not] at h2; (first | (replace h2 := eq_false h2) | (replace h2 := eq_true h2)); simp only [h2, if_true, if_false, false_or, true_or, or_true, or_false, and_true, true_and, not_false_eq_true, not_true_eq_false] at hp)) <;> simp only [h,
          hp, grpS, grpD, grpF, grpL, eop, vop, bop, uop, fltop, convop, endOk, newE, new1, freshL, Md.isNew, outV, pureV, pureX, pure1, AV.cells, AV.one, storable, laid, refless,
                refless1, vload, loadC, storeC, vnil, vfaddr, vextract, flatT, flatE, flatC, vconv, vmm, vidxA, viaddrA, vfield, vlen, elemsOf, dF32, dF64, dI64, dU8, dBool, dStr,
                esOk, elemsS, vsliceX, bnd, ownV, ownC, own1, ownT, isSl, nSl, endL, Md.isOwn, purge, purgeH, purgeB, purgeE, hasName, name1, List.any_cons, List.any_nil, Md.isWr,
                pureV.pureP, Option.map, reduceIte, Nat.reduceEqDiff, Nat.reduceAdd, Nat.reduceMul, Nat.reduceLT, Nat.reduceLeDiff, List.mapM_cons, List.mapM_nil, Option.pure_def,
                Option.bind_eq_bind, Option.bind_some, implies_true, forall_const, beq_self_eq_true, decide_true, decide_false, eq_self, Int.reduceEq, Int.reduceLE, Int.reduceLT,
                if_true, if_false, fc35_0, fc35_1, fc35_2, fc35_3, fc35_4, fc35_5, fc35_6, fc35_7, Int.reduceAdd, Int.reduceSub, Int.reduceMul, Int.reduceNeg, Int.reducePow,
                Nat.reducePow, Int.reduceToNat, Nat.reduceSub, List.replicate, Nat.reduceBEq, wAs, wA, wC, zipW, noDupN, grpE, g_laws_toVector, grpC, en0, dc_en0])
        | (refine eA_wk (wk_norm (ks := [0, 3, 4]) (ls := [7]) ?_) (eA_cast ?_ (sl35_0 y0 _ _ _ _ _ (getD_some (d := default) (x := (l_laws_toVectorS_0 y0 (Int.toNat (((List.length y0 : Nat) : Int) - 0) + 2) (List.replicate (Int.toNat ((List.length y0 : Nat) : Int)) (0, 0, 0)) 0)) ?_) ?_)); (simp only [nilS, nilV, normOk, optIn, blkIn, nameIn, 
          hp, grpS, grpD, grpF, grpL, eop, vop, bop, uop, fltop, convop, endOk, newE, new1, freshL, Md.isNew, outV, pureV, pureX, pure1, AV.cells, AV.one, storable, laid, refless,
                refless1, vload, loadC, storeC, vnil, vfaddr, vextract, flatT, flatE, flatC, vconv, vmm, vidxA, viaddrA, vfield, vlen, elemsOf, dF32, dF64, dI64, dU8, dBool, dStr,
                esOk, elemsS, vsliceX, bnd, ownV, ownC, own1, ownT, isSl, nSl, endL, Md.isOwn, purge, purgeH, purgeB, purgeE, hasName, name1, List.any_cons, List.any_nil, Md.isWr,
                pureV.pureP, Option.map, reduceIte, Nat.reduceEqDiff, Nat.reduceAdd, Nat.reduceMul, Nat.reduceLT, Nat.reduceLeDiff, List.mapM_cons, List.mapM_nil, Option.pure_def,
                Option.bind_eq_bind, Option.bind_some, implies_true, forall_const, beq_self_eq_true, decide_true, decide_false, eq_self, Int.reduceEq, Int.reduceLE, Int.reduceLT,
                if_true, if_false, fc35_0, fc35_1, fc35_2, fc35_3, fc35_4, fc35_5, fc35_6, fc35_7, Int.reduceAdd, Int.reduceSub, Int.reduceMul, Int.reduceNeg, Int.reducePow,
                Nat.reducePow, Int.reduceToNat, Nat.reduceSub, List.replicate, Nat.reduceBEq, wAs, wA, wC, zipW, noDupN, grpE, g_laws_toVector, grpC, en0, dc_en0] <;> rfl); (simp only [nilS, nilV, normS,  List.map_append, List.length_append, List.map_set, List.length_set, List.map_replicate, List.length_replicate, List.map_nil, List.map_cons,
          hp, grpS, grpD, grpF, grpL, eop, vop, bop, uop, fltop, convop, endOk, newE, new1, freshL, Md.isNew, outV, pureV, pureX, pure1, AV.cells, AV.one, storable, laid, refless,
                refless1, vload, loadC, storeC, vnil, vfaddr, vextract, flatT, flatE, flatC, vconv, vmm, vidxA, viaddrA, vfield, vlen, elemsOf, dF32, dF64, dI64, dU8, dBool, dStr,
                esOk, elemsS, vsliceX, bnd, ownV, ownC, own1, ownT, isSl, nSl, endL, Md.isOwn, purge, purgeH, purgeB, purgeE, hasName, name1, List.any_cons, List.any_nil, Md.isWr,
                pureV.pureP, Option.map, reduceIte, Nat.reduceEqDiff, Nat.reduceAdd, Nat.reduceMul, Nat.reduceLT, Nat.reduceLeDiff, List.mapM_cons, List.mapM_nil, Option.pure_def,
                Option.bind_eq_bind, Option.bind_some, implies_true, forall_const, beq_self_eq_true, decide_true, decide_false, eq_self, Int.reduceEq, Int.reduceLE, Int.reduceLT,
                if_true, if_false, fc35_0, fc35_1, fc35_2, fc35_3, fc35_4, fc35_5, fc35_6, fc35_7, Int.reduceAdd, Int.reduceSub, Int.reduceMul, Int.reduceNeg, Int.reducePow,
                Nat.reducePow, Int.reduceToNat, Nat.reduceSub, List.replicate, Nat.reduceBEq, wAs, wA, wC, zipW, noDupN, grpE, g_laws_toVector, grpC, en0, dc_en0] <;> rfl); (simp only [hp]); (
        intro st2 hw; (try simp only [reduceCtorEq, Bool.not_eq_true', decide_eq_false_iff_not, Bool.not_true, Bool.not_false, Bool.false_or, Bool.true_or, Bool.true_and, Bool.false_and, Bool.and_eq_true, Bool.or_eq_true, if_true, if_false, reduceIte, Bool.false_eq_true, and_true, true_and, false_or, or_false, decide_eq_true_eq, not_false_eq_true, not_true_eq_false] at hp); simp only [
          hp, grpS, grpD, grpF, grpL, eop, vop, bop, uop, fltop, convop, endOk, newE, new1, freshL, Md.isNew, outV, pureV, pureX, pure1, AV.cells, AV.one, storable, laid, refless,
                refless1, vload, loadC, storeC, vnil, vfaddr, vextract, flatT, flatE, flatC, vconv, vmm, vidxA, viaddrA, vfield, vlen, elemsOf, dF32, dF64, dI64, dU8, dBool, dStr,
                esOk, elemsS, vsliceX, bnd, ownV, ownC, own1, ownT, isSl, nSl, endL, Md.isOwn, purge, purgeH, purgeB, purgeE, hasName, name1, List.any_cons, List.any_nil, Md.isWr,
                pureV.pureP, Option.map, reduceIte, Nat.reduceEqDiff, Nat.reduceAdd, Nat.reduceMul, Nat.reduceLT, Nat.reduceLeDiff, List.mapM_cons, List.mapM_nil, Option.pure_def,
                Option.bind_eq_bind, Option.bind_some, implies_true, forall_const, beq_self_eq_true, decide_true, decide_false, eq_self, Int.reduceEq, Int.reduceLE, Int.reduceLT,
                if_true, if_false, fc35_0, fc35_1, fc35_2, fc35_3, fc35_4, fc35_5, fc35_6, fc35_7, Int.reduceAdd, Int.reduceSub, Int.reduceMul, Int.reduceNeg, Int.reducePow,
                Nat.reducePow, Int.reduceToNat, Nat.reduceSub, List.replicate, Nat.reduceBEq, wAs, wA, wC, zipW, noDupN, grpE, g_laws_toVector, grpC, en0, dc_en0]; refine KW_of hw ?_; simp only [
          hp, grpS, grpD, grpF, grpL, eop, vop, bop, uop, fltop, convop, endOk, newE, new1, freshL, Md.isNew, outV, pureV, pureX, pure1, AV.cells, AV.one, storable, laid, refless,
                refless1, vload, loadC, storeC, vnil, vfaddr, vextract, flatT, flatE, flatC, vconv, vmm, vidxA, viaddrA, vfield, vlen, elemsOf, dF32, dF64, dI64, dU8, dBool, dStr,
                esOk, elemsS, vsliceX, bnd, ownV, ownC, own1, ownT, isSl, nSl, endL, Md.isOwn, purge, purgeH, purgeB, purgeE, hasName, name1, List.any_cons, List.any_nil, Md.isWr,
                pureV.pureP, Option.map, reduceIte, Nat.reduceEqDiff, Nat.reduceAdd, Nat.reduceMul, Nat.reduceLT, Nat.reduceLeDiff, List.mapM_cons, List.mapM_nil, Option.pure_def,
                Option.bind_eq_bind, Option.bind_some, implies_true, forall_const, beq_self_eq_true, decide_true, decide_false, eq_self, Int.reduceEq, Int.reduceLE, Int.reduceLT,
                if_true, if_false, fc35_0, fc35_1, fc35_2, fc35_3, fc35_4, fc35_5, fc35_6, fc35_7, Int.reduceAdd, Int.reduceSub, Int.reduceMul, Int.reduceNeg, Int.reducePow,
                Nat.reducePow, Int.reduceToNat, Nat.reduceSub, List.replicate, Nat.reduceBEq, wAs, wA, wC, zipW, noDupN, grpE, g_laws_toVector, grpC, en0, dc_en0])))
      all_goals (try simp only [*, m_laws_toVectorS, Bool.and_true, Bool.true_and, Bool.and_false, Bool.false_and, Bool.or_true, Bool.true_or, Bool.or_false, Bool.false_or, Bool.not_true, Bool.not_false, Bool.false_eq_true, if_true, if_false, reduceIte, decide_true, decide_false])
      all_goals (try (simp_all; done))
    · cases h
  · cases h
def m_spec_l00In (x0 : Int) (x1 : Int) (x2 : Int) : Bool := (if (decide (x1 ≤ x0)) = true then (decide (x0 ≤ x2)) else false)
def g_spec_l00In : List AV → Option AV
  | [.int .i64 y0, .int .i64 y1, .int .i64 y2] => some (.bool (m_spec_l00In y0 y1 y2))
  | _ => none
def ic57 : ICode := (.seq (.reg [⟨(some 6), none, (.mov (.c (.bool false)))⟩] [0, 1, 2]) (.seq (.reg [⟨(some 7), none, (.mov (.t 0))⟩, ⟨(some 8), none, (.mov (.t 1))⟩, ⟨(some 9),
      none, (.bin .geq false (.t 7) (.t 8))⟩, ⟨(some 10), none, (.mov (.t 9))⟩, ⟨(some 11), (some (10, true)), (.mov (.t 0))⟩, ⟨(some 12), (some (10, true)), (.mov (.t 2))⟩, ⟨(some
      13), (some (10, true)), (.bin .leq false (.t 11) (.t 12))⟩, ⟨(some 14), none, (.pick (.t 10) (.t 13) (.c (.bool false)))⟩, ⟨(some 6), none, (.mov (.t 14))⟩] [6]) .ret))
def cp57 : CP := CP.mk [] [] [[0, 1, 2], [6]] 15
theorem fc57_0 : IntKind.wrap .i64 0 = 0 := by decide
theorem fc57_1 : IntKind.wrap .i64 1 = 1 := by decide
theorem fc57_2 : IntKind.wrap .i64 2 = 2 := by decide
theorem fc57_3 : IntKind.wrap .i64 3 = 3 := by decide
theorem fc57_4 : IntKind.wrap .i64 4 = 4 := by decide
theorem fc57_5 : IntKind.wrap .i64 5 = 5 := by decide
theorem fc57_6 : IntKind.wrap .i64 6 = 6 := by decide
theorem fc57_7 : IntKind.wrap .i64 7 = 7 := by decide
theorem s57 : ∀ vs r, g_spec_l00In vs = some r → SaysM Try.prog .any 57 vs r := by
  intro vs r h
  unfold g_spec_l00In at h
  split at h
  · rename_i y0 y1 y2
    cases h
    refine spec_of (m := .any) (tab := tabOf []) (cp := cp57) (ic := ic57) (rvl := [(.t 6)]) hm tabOk_nil Try.func57 rfl rfl rfl (by kernel_rfl) rfl (Nat.le_of_ble_eq_true rfl) (Nat.le_of_ble_eq_true rfl) ?_
    show eA _ _ _ _
    unfold ic57
    simp only [
        grpS, grpD, grpF, grpL, eop, vop, bop, uop, fltop, convop, endOk, newE, new1, freshL, Md.isNew, outV, pureV, pureX, pure1, AV.cells, AV.one, storable, laid, refless,
              refless1, vload, loadC, storeC, vnil, vfaddr, vextract, flatT, flatE, flatC, vconv, vmm, vidxA, viaddrA, vfield, vlen, elemsOf, dF32, dF64, dI64, dU8, dBool, dStr,
              esOk, elemsS, vsliceX, bnd, ownV, ownC, own1, ownT, isSl, nSl, endL, Md.isOwn, purge, purgeH, purgeB, purgeE, hasName, name1, List.any_cons, List.any_nil, Md.isWr,
              pureV.pureP, Option.map, reduceIte, Nat.reduceEqDiff, Nat.reduceAdd, Nat.reduceMul, Nat.reduceLT, Nat.reduceLeDiff, List.mapM_cons, List.mapM_nil, Option.pure_def,
              Option.bind_eq_bind, Option.bind_some, implies_true, forall_const, beq_self_eq_true, decide_true, decide_false, eq_self, Int.reduceEq, Int.reduceLE, Int.reduceLT,
              if_true, if_false, fc57_0, fc57_1, fc57_2, fc57_3, fc57_4, fc57_5, fc57_6, fc57_7, Int.reduceAdd, Int.reduceSub, Int.reduceMul, Int.reduceNeg, Int.reducePow,
              Nat.reducePow, Int.reduceToNat, Nat.reduceSub, List.replicate, Nat.reduceBEq, wAs, wA, wC, zipW, noDupN, grpE, grpC, en0, dc_en0, ↓b_pick, ePk_true, ePk_false]
    repeat' (first
      | ((first | (refine eGI_of (fun h => ?_) (fun h => ?_)) | (refine eCc_of (fun h => ?_) (fun h => ?_)) | (refine ePk_of (fun h => ?_) (fun h => ?_))) <;> (try simp only [Bool.not_eq_true', Bool.not_eq_false'] at h) <;> simp only [h,
        grpS, grpD, grpF, grpL, eop, vop, bop, uop, fltop, convop, endOk, newE, new1, freshL, Md.isNew, outV, pureV, pureX, pure1, AV.cells, AV.one, storable, laid, refless,
              refless1, vload, loadC, storeC, vnil, vfaddr, vextract, flatT, flatE, flatC, vconv, vmm, vidxA, viaddrA, vfield, vlen, elemsOf, dF32, dF64, dI64, dU8, dBool, dStr,
              esOk, elemsS, vsliceX, bnd, ownV, ownC, own1, ownT, isSl, nSl, endL, Md.isOwn, purge, purgeH, purgeB, purgeE, hasName, name1, List.any_cons, List.any_nil, Md.isWr,
              pureV.pureP, Option.map, reduceIte, Nat.reduceEqDiff, Nat.reduceAdd, Nat.reduceMul, Nat.reduceLT, Nat.reduceLeDiff, List.mapM_cons, List.mapM_nil, Option.pure_def,
              Option.bind_eq_bind, Option.bind_some, implies_true, forall_const, beq_self_eq_true, decide_true, decide_false, eq_self, Int.reduceEq, Int.reduceLE, Int.reduceLT,
              if_true, if_false, fc57_0, fc57_1, fc57_2, fc57_3, fc57_4, fc57_5, fc57_6, fc57_7, Int.reduceAdd, Int.reduceSub, Int.reduceMul, Int.reduceNeg, Int.reducePow,
              Nat.reducePow, Int.reduceToNat, Nat.reduceSub, List.replicate, Nat.reduceBEq, wAs, wA, wC, zipW, noDupN, grpE, grpC, en0, dc_en0, ↓b_pick, ePk_true, ePk_false]))
    all_goals (try simp only [*, m_spec_l00In, Bool.and_true, Bool.true_and, Bool.and_false, Bool.false_and, Bool.or_true, Bool.true_or, Bool.or_false, Bool.false_or, Bool.not_true, Bool.not_false, Bool.false_eq_true, if_true, if_false, reduceIte, decide_true, decide_false])
    all_goals (try (simp_all; done))
  · cases h
def m_spec_l04Points (x0 : (List (Nat × Nat × Nat))) : Bool := (m_spec_l00In ((List.length x0 : Nat) : Int) 2 16)
def g_spec_l04Points : List AV → Option AV
  | [.sl w0] => (match decL dc_en0 w0 with | some y0 => (some (.bool (m_spec_l04Points y0))) | none => none)
  | _ => none
def ic71 : ICode := (.seq (.reg [⟨(some 2), none, (.mov (.c (.bool false)))⟩] [0]) (.seq (.reg [⟨(some 3), none, (.mov (.t 0))⟩, ⟨(some 4), none, (.len false (.t 3))⟩, ⟨(some 5),
      none, (.call (.fn 57) [(.t 4), (.c (.int .i64 2)), (.c (.int .i64 16))] [])⟩, ⟨(some 2), none, (.mov (.t 5))⟩] [2]) .ret))
def cp71 : CP := CP.mk [] [] [[0], [2]] 6
theorem fc71_0 : IntKind.wrap .i64 0 = 0 := by decide
theorem fc71_1 : IntKind.wrap .i64 1 = 1 := by decide
theorem fc71_2 : IntKind.wrap .i64 2 = 2 := by decide
theorem fc71_3 : IntKind.wrap .i64 3 = 3 := by decide
theorem fc71_4 : IntKind.wrap .i64 4 = 4 := by decide
theorem fc71_5 : IntKind.wrap .i64 5 = 5 := by decide
theorem fc71_6 : IntKind.wrap .i64 6 = 6 := by decide
theorem fc71_7 : IntKind.wrap .i64 7 = 7 := by decide
theorem s71 : ∀ vs r, g_spec_l04Points vs = some r → SaysM Try.prog .any 71 vs r := by
  intro vs r h
  unfold g_spec_l04Points at h
  split at h
  · rename_i w0
    cases hd_y0 : decL dc_en0 w0 with
    | none => rw [hd_y0] at h; cases h
    | some y0 =>
    rw [hd_y0] at h
    obtain rfl := decL_inv dc_en0_inv hd_y0
    clear hd_y0
    dsimp only at h
    cases h
    refine spec_of (m := .any) (tab := tabOf [(57, wM .any g_spec_l00In)]) (cp := cp71) (ic := ic71) (rvl := [(.t 2)]) hm (tabOk_cons (m := .any) s57 tabOk_nil) Try.func71 rfl rfl rfl (by kernel_rfl) rfl (Nat.le_of_ble_eq_true rfl) (Nat.le_of_ble_eq_true rfl) ?_
    show eA _ _ _ _
    unfold ic71
    simp only [
        grpS, grpD, grpF, grpL, eop, vop, bop, uop, fltop, convop, endOk, newE, new1, freshL, Md.isNew, outV, pureV, pureX, pure1, AV.cells, AV.one, storable, laid, refless,
              refless1, vload, loadC, storeC, vnil, vfaddr, vextract, flatT, flatE, flatC, vconv, vmm, vidxA, viaddrA, vfield, vlen, elemsOf, dF32, dF64, dI64, dU8, dBool, dStr,
              esOk, elemsS, vsliceX, bnd, ownV, ownC, own1, ownT, isSl, nSl, endL, Md.isOwn, purge, purgeH, purgeB, purgeE, hasName, name1, List.any_cons, List.any_nil, Md.isWr,
              pureV.pureP, Option.map, reduceIte, Nat.reduceEqDiff, Nat.reduceAdd, Nat.reduceMul, Nat.reduceLT, Nat.reduceLeDiff, List.mapM_cons, List.mapM_nil, Option.pure_def,
              Option.bind_eq_bind, Option.bind_some, implies_true, forall_const, beq_self_eq_true, decide_true, decide_false, eq_self, Int.reduceEq, Int.reduceLE, Int.reduceLT,
              if_true, if_false, fc71_0, fc71_1, fc71_2, fc71_3, fc71_4, fc71_5, fc71_6, fc71_7, Int.reduceAdd, Int.reduceSub, Int.reduceMul, Int.reduceNeg, Int.reducePow,
              Nat.reducePow, Int.reduceToNat, Nat.reduceSub, List.replicate, Nat.reduceBEq, wAs, wA, wC, zipW, noDupN, grpE, g_spec_l00In, grpC, en0, dc_en0]
    repeat' (first
      | ((first | (refine eGI_of (fun h => ?_) (fun h => ?_)) | (refine eCc_of (fun h => ?_) (fun h => ?_))) <;> (try simp only [Bool.not_eq_true', Bool.not_eq_false'] at h) <;> simp only [h,
        grpS, grpD, grpF, grpL, eop, vop, bop, uop, fltop, convop, endOk, newE, new1, freshL, Md.isNew, outV, pureV, pureX, pure1, AV.cells, AV.one, storable, laid, refless,
              refless1, vload, loadC, storeC, vnil, vfaddr, vextract, flatT, flatE, flatC, vconv, vmm, vidxA, viaddrA, vfield, vlen, elemsOf, dF32, dF64, dI64, dU8, dBool, dStr,
              esOk, elemsS, vsliceX, bnd, ownV, ownC, own1, ownT, isSl, nSl, endL, Md.isOwn, purge, purgeH, purgeB, purgeE, hasName, name1, List.any_cons, List.any_nil, Md.isWr,
              pureV.pureP, Option.map, reduceIte, Nat.reduceEqDiff, Nat.reduceAdd, Nat.reduceMul, Nat.reduceLT, Nat.reduceLeDiff, List.mapM_cons, List.mapM_nil, Option.pure_def,
              Option.bind_eq_bind, Option.bind_some, implies_true, forall_const, beq_self_eq_true, decide_true, decide_false, eq_self, Int.reduceEq, Int.reduceLE, Int.reduceLT,
              if_true, if_false, fc71_0, fc71_1, fc71_2, fc71_3, fc71_4, fc71_5, fc71_6, fc71_7, Int.reduceAdd, Int.reduceSub, Int.reduceMul, Int.reduceNeg, Int.reducePow,
              Nat.reducePow, Int.reduceToNat, Nat.reduceSub, List.replicate, Nat.reduceBEq, wAs, wA, wC, zipW, noDupN, grpE, g_spec_l00In, grpC, en0, dc_en0]))
    all_goals (try simp only [*, m_spec_l04Points, Bool.and_true, Bool.true_and, Bool.and_false, Bool.false_and, Bool.or_true, Bool.true_or, Bool.or_false, Bool.false_or, Bool.not_true, Bool.not_false, Bool.false_eq_true, if_true, if_false, reduceIte, decide_true, decide_false])
    all_goals (try (simp_all; done))
  · cases h
def m_spec_l01Less (x0 : (Nat × Nat × Nat)) (x1 : (Nat × Nat × Nat)) : (Nat × Nat × Nat) := ((fsub .f32 x0.1 x1.1), (fsub .f32 x0.2.1 x1.2.1), (fsub .f32 x0.2.2 x1.2.2))
def g_spec_l01Less : List AV → Option AV
  | [.agg [.flt .f32 y0, .flt .f32 y1, .flt .f32 y2], .agg [.flt .f32 y3, .flt .f32 y4, .flt .f32 y5]] => some (AV.agg [(.flt .f32
      (m_spec_l01Less (y0, y1, y2) (y3, y4, y5)).1), (.flt .f32 (m_spec_l01Less (y0, y1, y2) (y3, y4, y5)).2.1), (.flt .f32 (m_spec_l01Less (y0, y1, y2) (y3, y4, y5)).2.2)])
  | _ => none
def ic70 : ICode := (.seq (.reg [⟨(some 2), none, (.box 3 (.t 0))⟩, ⟨(some 3), none, (.box 3 (.t 1))⟩, ⟨(some 4), none, (.alloc (.agg [(.flt .f32 0), (.flt .f32 0), (.flt .f32
      0)]))⟩] [2, 3, 4]) (.seq (.reg [⟨(some 5), none, (.faddr 0 (.t 2))⟩, ⟨(some 6), none, (.load none (.t 5))⟩, ⟨(some 7), none, (.faddr 0 (.t 3))⟩, ⟨(some 8), none, (.load none
      (.t 7))⟩, ⟨(some 9), none, (.bin .sub false (.t 6) (.t 8))⟩, ⟨(some 10), none, (.faddr 1 (.t 2))⟩, ⟨(some 11), none, (.load none (.t 10))⟩, ⟨(some 12), none, (.faddr 1 (.t
      3))⟩, ⟨(some 13), none, (.load none (.t 12))⟩, ⟨(some 14), none, (.bin .sub false (.t 11) (.t 13))⟩, ⟨(some 15), none, (.faddr 2 (.t 2))⟩, ⟨(some 16), none, (.load none (.t
      15))⟩, ⟨(some 17), none, (.faddr 2 (.t 3))⟩, ⟨(some 18), none, (.load none (.t 17))⟩, ⟨(some 19), none, (.bin .sub false (.t 16) (.t 18))⟩, ⟨(some 20), none, (.build [(.flt
      .f32 0), (.flt .f32 0), (.flt .f32 0)] [(0, 1, (.t 9)), (1, 1, (.t 14)), (2, 1, (.t 19))])⟩, ⟨none, none, (.store 3 (.t 4) (.t 20))⟩] [4]) .ret))
def cp70 : CP := CP.mk [] [] [[2, 3, 4], [4]] 21
theorem fc70_0 : IntKind.wrap .i64 0 = 0 := by decide
theorem fc70_1 : IntKind.wrap .i64 1 = 1 := by decide
theorem fc70_2 : IntKind.wrap .i64 2 = 2 := by decide
theorem fc70_3 : IntKind.wrap .i64 3 = 3 := by decide
theorem fc70_4 : IntKind.wrap .i64 4 = 4 := by decide
theorem fc70_5 : IntKind.wrap .i64 5 = 5 := by decide
theorem fc70_6 : IntKind.wrap .i64 6 = 6 := by decide
theorem fc70_7 : IntKind.wrap .i64 7 = 7 := by decide
theorem s70 : ∀ vs r, g_spec_l01Less vs = some r → SaysM Try.prog .any 70 vs r := by
  intro vs r h
  unfold g_spec_l01Less at h
  split at h
  · rename_i y0 y1 y2 y3 y4 y5
    cases h
    refine spec_of (m := .any) (tab := tabOf []) (cp := cp70) (ic := ic70) (rvl := [(.c 4 (some 3))]) hm tabOk_nil Try.func70 rfl rfl rfl (by kernel_rfl) rfl (Nat.le_of_ble_eq_true rfl) (Nat.le_of_ble_eq_true rfl) ?_
    show eA _ _ _ _
    unfold ic70
    simp only [
        grpS, grpD, grpF, grpL, eop, vop, bop, uop, fltop, convop, endOk, newE, new1, freshL, Md.isNew, outV, pureV, pureX, pure1, AV.cells, AV.one, storable, laid, refless,
              refless1, vload, loadC, storeC, vnil, vfaddr, vextract, flatT, flatE, flatC, vconv, vmm, vidxA, viaddrA, vfield, vlen, elemsOf, dF32, dF64, dI64, dU8, dBool, dStr,
              esOk, elemsS, vsliceX, bnd, ownV, ownC, own1, ownT, isSl, nSl, endL, Md.isOwn, purge, purgeH, purgeB, purgeE, hasName, name1, List.any_cons, List.any_nil, Md.isWr,
              pureV.pureP, Option.map, reduceIte, Nat.reduceEqDiff, Nat.reduceAdd, Nat.reduceMul, Nat.reduceLT, Nat.reduceLeDiff, List.mapM_cons, List.mapM_nil, Option.pure_def,
              Option.bind_eq_bind, Option.bind_some, implies_true, forall_const, beq_self_eq_true, decide_true, decide_false, eq_self, Int.reduceEq, Int.reduceLE, Int.reduceLT,
              if_true, if_false, fc70_0, fc70_1, fc70_2, fc70_3, fc70_4, fc70_5, fc70_6, fc70_7, Int.reduceAdd, Int.reduceSub, Int.reduceMul, Int.reduceNeg, Int.reducePow,
              Nat.reducePow, Int.reduceToNat, Nat.reduceSub, List.replicate, Nat.reduceBEq, wAs, wA, wC, zipW, noDupN, grpE, grpC, en0, dc_en0]
    repeat' (first
      | ((first | (refine eGI_of (fun h => ?_) (fun h => ?_)) | (refine eCc_of (fun h => ?_) (fun h => ?_))) <;> (try simp only [Bool.not_eq_true', Bool.not_eq_false'] at h) <;> simp only [h,
        grpS, grpD, grpF, grpL, eop, vop, bop, uop, fltop, convop, endOk, newE, new1, freshL, Md.isNew, outV, pureV, pureX, pure1, AV.cells, AV.one, storable, laid, refless,
              refless1, vload, loadC, storeC, vnil, vfaddr, vextract, flatT, flatE, flatC, vconv, vmm, vidxA, viaddrA, vfield, vlen, elemsOf, dF32, dF64, dI64, dU8, dBool, dStr,
              esOk, elemsS, vsliceX, bnd, ownV, ownC, own1, ownT, isSl, nSl, endL, Md.isOwn, purge, purgeH, purgeB, purgeE, hasName, name1, List.any_cons, List.any_nil, Md.isWr,
              pureV.pureP, Option.map, reduceIte, Nat.reduceEqDiff, Nat.reduceAdd, Nat.reduceMul, Nat.reduceLT, Nat.reduceLeDiff, List.mapM_cons, List.mapM_nil, Option.pure_def,
              Option.bind_eq_bind, Option.bind_some, implies_true, forall_const, beq_self_eq_true, decide_true, decide_false, eq_self, Int.reduceEq, Int.reduceLE, Int.reduceLT,
              if_true, if_false, fc70_0, fc70_1, fc70_2, fc70_3, fc70_4, fc70_5, fc70_6, fc70_7, Int.reduceAdd, Int.reduceSub, Int.reduceMul, Int.reduceNeg, Int.reducePow,
              Nat.reducePow, Int.reduceToNat, Nat.reduceSub, List.replicate, Nat.reduceBEq, wAs, wA, wC, zipW, noDupN, grpE, grpC, en0, dc_en0]))
    all_goals (try simp only [*, m_spec_l01Less, Bool.and_true, Bool.true_and, Bool.and_false, Bool.false_and, Bool.or_true, Bool.true_or, Bool.or_false, Bool.false_or, Bool.not_true, Bool.not_false, Bool.false_eq_true, if_true, if_false, reduceIte, decide_true, decide_false])
    all_goals (try (simp_all; done))
  · cases h
def m_spec_l01Inner (x0 : (Nat × Nat × Nat)) (x1 : (Nat × Nat × Nat)) : Nat := (fadd .f32 (fadd .f32 (fmul .f32 x0.1 x1.1) (fmul .f32 x0.2.1 x1.2.1)) (fmul .f32 x0.2.2 x1.2.2))
def g_spec_l01Inner : List AV → Option AV
  | [.agg [.flt .f32 y0, .flt .f32 y1, .flt .f32 y2], .agg [.flt .f32 y3, .flt .f32 y4, .flt .f32 y5]] => some (.flt .f32 (m_spec_l01Inner
      (y0, y1, y2) (y3, y4, y5)))
  | _ => none
def ic96 : ICode := (.seq (.reg [⟨(some 2), none, (.box 3 (.t 0))⟩, ⟨(some 3), none, (.box 3 (.t 1))⟩, ⟨(some 4), none, (.mov (.c (.flt .f32 0)))⟩] [2, 3]) (.seq (.reg [⟨(some 5),
      none, (.faddr 0 (.t 2))⟩, ⟨(some 6), none, (.load none (.t 5))⟩, ⟨(some 7), none, (.faddr 0 (.t 3))⟩, ⟨(some 8), none, (.load none (.t 7))⟩, ⟨(some 9), none, (.bin .mul false
      (.t 6) (.t 8))⟩, ⟨(some 10), none, (.faddr 1 (.t 2))⟩, ⟨(some 11), none, (.load none (.t 10))⟩, ⟨(some 12), none, (.faddr 1 (.t 3))⟩, ⟨(some 13), none, (.load none (.t 12))⟩,
      ⟨(some 14), none, (.bin .mul false (.t 11) (.t 13))⟩, ⟨(some 15), none, (.bin .add false (.t 9) (.t 14))⟩, ⟨(some 16), none, (.faddr 2 (.t 2))⟩, ⟨(some 17), none, (.load none
      (.t 16))⟩, ⟨(some 18), none, (.faddr 2 (.t 3))⟩, ⟨(some 19), none, (.load none (.t 18))⟩, ⟨(some 20), none, (.bin .mul false (.t 17) (.t 19))⟩, ⟨(some 21), none, (.bin .add
      false (.t 15) (.t 20))⟩, ⟨(some 4), none, (.mov (.t 21))⟩] [4]) .ret))
def cp96 : CP := CP.mk [] [] [[2, 3], [4]] 22
theorem fc96_0 : IntKind.wrap .i64 0 = 0 := by decide
theorem fc96_1 : IntKind.wrap .i64 1 = 1 := by decide
theorem fc96_2 : IntKind.wrap .i64 2 = 2 := by decide
theorem fc96_3 : IntKind.wrap .i64 3 = 3 := by decide
theorem fc96_4 : IntKind.wrap .i64 4 = 4 := by decide
theorem fc96_5 : IntKind.wrap .i64 5 = 5 := by decide
theorem fc96_6 : IntKind.wrap .i64 6 = 6 := by decide
theorem fc96_7 : IntKind.wrap .i64 7 = 7 := by decide
theorem s96 : ∀ vs r, g_spec_l01Inner vs = some r → SaysM Try.prog .any 96 vs r := by
  intro vs r h
  unfold g_spec_l01Inner at h
  split at h
  · rename_i y0 y1 y2 y3 y4 y5
    cases h
    refine spec_of (m := .any) (tab := tabOf []) (cp := cp96) (ic := ic96) (rvl := [(.t 4)]) hm tabOk_nil Try.func96 rfl rfl rfl (by kernel_rfl) rfl (Nat.le_of_ble_eq_true rfl) (Nat.le_of_ble_eq_true rfl) ?_
    show eA _ _ _ _
    unfold ic96
    simp only [
        grpS, grpD, grpF, grpL, eop, vop, bop, uop, fltop, convop, endOk, newE, new1, freshL, Md.isNew, outV, pureV, pureX, pure1, AV.cells, AV.one, storable, laid, refless,
              refless1, vload, loadC, storeC, vnil, vfaddr, vextract, flatT, flatE, flatC, vconv, vmm, vidxA, viaddrA, vfield, vlen, elemsOf, dF32, dF64, dI64, dU8, dBool, dStr,
              esOk, elemsS, vsliceX, bnd, ownV, ownC, own1, ownT, isSl, nSl, endL, Md.isOwn, purge, purgeH, purgeB, purgeE, hasName, name1, List.any_cons, List.any_nil, Md.isWr,
              pureV.pureP, Option.map, reduceIte, Nat.reduceEqDiff, Nat.reduceAdd, Nat.reduceMul, Nat.reduceLT, Nat.reduceLeDiff, List.mapM_cons, List.mapM_nil, Option.pure_def,
              Option.bind_eq_bind, Option.bind_some, implies_true, forall_const, beq_self_eq_true, decide_true, decide_false, eq_self, Int.reduceEq, Int.reduceLE, Int.reduceLT,
              if_true, if_false, fc96_0, fc96_1, fc96_2, fc96_3, fc96_4, fc96_5, fc96_6, fc96_7, Int.reduceAdd, Int.reduceSub, Int.reduceMul, Int.reduceNeg, Int.reducePow,
              Nat.reducePow, Int.reduceToNat, Nat.reduceSub, List.replicate, Nat.reduceBEq, wAs, wA, wC, zipW, noDupN, grpE, grpC, en0, dc_en0]
    repeat' (first
      | ((first | (refine eGI_of (fun h => ?_) (fun h => ?_)) | (refine eCc_of (fun h => ?_) (fun h => ?_))) <;> (try simp only [Bool.not_eq_true', Bool.not_eq_false'] at h) <;> simp only [h,
        grpS, grpD, grpF, grpL, eop, vop, bop, uop, fltop, convop, endOk, newE, new1, freshL, Md.isNew, outV, pureV, pureX, pure1, AV.cells, AV.one, storable, laid, refless,
              refless1, vload, loadC, storeC, vnil, vfaddr, vextract, flatT, flatE, flatC, vconv, vmm, vidxA, viaddrA, vfield, vlen, elemsOf, dF32, dF64, dI64, dU8, dBool, dStr,
              esOk, elemsS, vsliceX, bnd, ownV, ownC, own1, ownT, isSl, nSl, endL, Md.isOwn, purge, purgeH, purgeB, purgeE, hasName, name1, List.any_cons, List.any_nil, Md.isWr,
              pureV.pureP, Option.map, reduceIte, Nat.reduceEqDiff, Nat.reduceAdd, Nat.reduceMul, Nat.reduceLT, Nat.reduceLeDiff, List.mapM_cons, List.mapM_nil, Option.pure_def,
              Option.bind_eq_bind, Option.bind_some, implies_true, forall_const, beq_self_eq_true, decide_true, decide_false, eq_self, Int.reduceEq, Int.reduceLE, Int.reduceLT,
              if_true, if_false, fc96_0, fc96_1, fc96_2, fc96_3, fc96_4, fc96_5, fc96_6, fc96_7, Int.reduceAdd, Int.reduceSub, Int.reduceMul, Int.reduceNeg, Int.reducePow,
              Nat.reducePow, Int.reduceToNat, Nat.reduceSub, List.replicate, Nat.reduceBEq, wAs, wA, wC, zipW, noDupN, grpE, grpC, en0, dc_en0]))
    all_goals (try simp only [*, m_spec_l01Inner, Bool.and_true, Bool.true_and, Bool.and_false, Bool.false_and, Bool.or_true, Bool.true_or, Bool.or_false, Bool.false_or, Bool.not_true, Bool.not_false, Bool.false_eq_true, if_true, if_false, reduceIte, decide_true, decide_false])
    all_goals (try (simp_all; done))
  · cases h
theorem s106 : ∀ vs r, g_sqrt vs = some r → SaysM Try.prog .any 106 vs r := t_sqrt Try.func106 (by kernel_rfl) rfl (by kernel_rfl) (by kernel_rfl)
def m_math_Sqrt (x0 : Nat) : Nat := (fsqrt x0)
def g_math_Sqrt : List AV → Option AV
  | [.flt .f64 y0] => some (.flt .f64 (m_math_Sqrt y0))
  | _ => none
def ic104 : ICode := (.seq (.reg [⟨(some 2), none, (.mov (.c (.flt .f64 0)))⟩] [0]) (.seq (.reg [⟨(some 3), none, (.mov (.t 0))⟩, ⟨(some 4), none, (.call (.fn 106) [(.t 3)] [])⟩,
      ⟨(some 2), none, (.mov (.t 4))⟩] [2]) .ret))
def cp104 : CP := CP.mk [] [] [[0], [2]] 5
theorem fc104_0 : IntKind.wrap .i64 0 = 0 := by decide
theorem fc104_1 : IntKind.wrap .i64 1 = 1 := by decide
theorem fc104_2 : IntKind.wrap .i64 2 = 2 := by decide
theorem fc104_3 : IntKind.wrap .i64 3 = 3 := by decide
theorem fc104_4 : IntKind.wrap .i64 4 = 4 := by decide
theorem fc104_5 : IntKind.wrap .i64 5 = 5 := by decide
theorem fc104_6 : IntKind.wrap .i64 6 = 6 := by decide
theorem fc104_7 : IntKind.wrap .i64 7 = 7 := by decide
theorem s104 : ∀ vs r, g_math_Sqrt vs = some r → SaysM Try.prog .any 104 vs r := by
  intro vs r h
  unfold g_math_Sqrt at h
  split at h
  · rename_i y0
    cases h
    refine spec_of (m := .any) (tab := tabOf [(106, wM .any g_sqrt)]) (cp := cp104) (ic := ic104) (rvl := [(.t 2)]) hm (tabOk_cons (m := .any) s106 tabOk_nil) Try.func104 rfl rfl rfl (by kernel_rfl) rfl (Nat.le_of_ble_eq_true rfl) (Nat.le_of_ble_eq_true rfl) ?_
    show eA _ _ _ _
    unfold ic104
    simp only [
        grpS, grpD, grpF, grpL, eop, vop, bop, uop, fltop, convop, endOk, newE, new1, freshL, Md.isNew, outV, pureV, pureX, pure1, AV.cells, AV.one, storable, laid, refless,
              refless1, vload, loadC, storeC, vnil, vfaddr, vextract, flatT, flatE, flatC, vconv, vmm, vidxA, viaddrA, vfield, vlen, elemsOf, dF32, dF64, dI64, dU8, dBool, dStr,
              esOk, elemsS, vsliceX, bnd, ownV, ownC, own1, ownT, isSl, nSl, endL, Md.isOwn, purge, purgeH, purgeB, purgeE, hasName, name1, List.any_cons, List.any_nil, Md.isWr,
              pureV.pureP, Option.map, reduceIte, Nat.reduceEqDiff, Nat.reduceAdd, Nat.reduceMul, Nat.reduceLT, Nat.reduceLeDiff, List.mapM_cons, List.mapM_nil, Option.pure_def,
              Option.bind_eq_bind, Option.bind_some, implies_true, forall_const, beq_self_eq_true, decide_true, decide_false, eq_self, Int.reduceEq, Int.reduceLE, Int.reduceLT,
              if_true, if_false, fc104_0, fc104_1, fc104_2, fc104_3, fc104_4, fc104_5, fc104_6, fc104_7, Int.reduceAdd, Int.reduceSub, Int.reduceMul, Int.reduceNeg, Int.reducePow,
              Nat.reducePow, Int.reduceToNat, Nat.reduceSub, List.replicate, Nat.reduceBEq, wAs, wA, wC, zipW, noDupN, grpE, g_sqrt, grpC, en0, dc_en0]
    repeat' (first
      | ((first | (refine eGI_of (fun h => ?_) (fun h => ?_)) | (refine eCc_of (fun h => ?_) (fun h => ?_))) <;> (try simp only [Bool.not_eq_true', Bool.not_eq_false'] at h) <;> simp only [h,
        grpS, grpD, grpF, grpL, eop, vop, bop, uop, fltop, convop, endOk, newE, new1, freshL, Md.isNew, outV, pureV, pureX, pure1, AV.cells, AV.one, storable, laid, refless,
              refless1, vload, loadC, storeC, vnil, vfaddr, vextract, flatT, flatE, flatC, vconv, vmm, vidxA, viaddrA, vfield, vlen, elemsOf, dF32, dF64, dI64, dU8, dBool, dStr,
              esOk, elemsS, vsliceX, bnd, ownV, ownC, own1, ownT, isSl, nSl, endL, Md.isOwn, purge, purgeH, purgeB, purgeE, hasName, name1, List.any_cons, List.any_nil, Md.isWr,
              pureV.pureP, Option.map, reduceIte, Nat.reduceEqDiff, Nat.reduceAdd, Nat.reduceMul, Nat.reduceLT, Nat.reduceLeDiff, List.mapM_cons, List.mapM_nil, Option.pure_def,
              Option.bind_eq_bind, Option.bind_some, implies_true, forall_const, beq_self_eq_true, decide_true, decide_false, eq_self, Int.reduceEq, Int.reduceLE, Int.reduceLT,
              if_true, if_false, fc104_0, fc104_1, fc104_2, fc104_3, fc104_4, fc104_5, fc104_6, fc104_7, Int.reduceAdd, Int.reduceSub, Int.reduceMul, Int.reduceNeg, Int.reducePow,
              Nat.reducePow, Int.reduceToNat, Nat.reduceSub, List.replicate, Nat.reduceBEq, wAs, wA, wC, zipW, noDupN, grpE, g_sqrt, grpC, en0, dc_en0]))
    all_goals (try simp only [*, m_math_Sqrt, Bool.and_true, Bool.true_and, Bool.and_false, Bool.false_and, Bool.or_true, Bool.true_or, Bool.or_false, Bool.false_or, Bool.not_true, Bool.not_false, Bool.false_eq_true, if_true, if_false, reduceIte, decide_true, decide_false])
    all_goals (try (simp_all; done))
  · cases h
def m_spec_l01Narrow (x0 : Nat) : Nat := (narrow x0)
def p_spec_l01Narrow (x0 : Nat) : Bool := (narrowOk x0)
def g_spec_l01Narrow : List AV → Option AV
  | [.flt .f64 y0] => if p_spec_l01Narrow y0 = true then some (.flt .f32 (m_spec_l01Narrow y0)) else none
  | _ => none
def ic105 : ICode := (.seq (.reg [⟨(some 2), none, (.mov (.c (.flt .f32 0)))⟩] [0]) (.seq (.reg [⟨(some 3), none, (.mov (.t 0))⟩, ⟨(some 4), none, (.conv (.flt .f32) (.t 3))⟩,
      ⟨(some 2), none, (.mov (.t 4))⟩] [2]) .ret))
def cp105 : CP := CP.mk [] [] [[0], [2]] 5
theorem fc105_0 : IntKind.wrap .i64 0 = 0 := by decide
theorem fc105_1 : IntKind.wrap .i64 1 = 1 := by decide
theorem fc105_2 : IntKind.wrap .i64 2 = 2 := by decide
theorem fc105_3 : IntKind.wrap .i64 3 = 3 := by decide
theorem fc105_4 : IntKind.wrap .i64 4 = 4 := by decide
theorem fc105_5 : IntKind.wrap .i64 5 = 5 := by decide
theorem fc105_6 : IntKind.wrap .i64 6 = 6 := by decide
theorem fc105_7 : IntKind.wrap .i64 7 = 7 := by decide
theorem s105 : ∀ vs r, g_spec_l01Narrow vs = some r → SaysM Try.prog .any 105 vs r := by
  intro vs r h
  unfold g_spec_l01Narrow at h
  split at h
  · rename_i y0
    split at h
    · rename_i hp
      cases h
      refine spec_of (m := .any) (tab := tabOf []) (cp := cp105) (ic := ic105) (rvl := [(.t 2)]) hm tabOk_nil Try.func105 rfl rfl rfl (by kernel_rfl) rfl (Nat.le_of_ble_eq_true rfl) (Nat.le_of_ble_eq_true rfl) ?_
      show eA _ _ _ _
      unfold ic105
      simp only [p_spec_l01Narrow, Bool.and_eq_true, Bool.or_eq_true, decide_eq_true_eq, Bool.not_eq_true', decide_eq_false_iff_not] at hp
      simp only [
          hp, grpS, grpD, grpF, grpL, eop, vop, bop, uop, fltop, convop, endOk, newE, new1, freshL, Md.isNew, outV, pureV, pureX, pure1, AV.cells, AV.one, storable, laid, refless,
                refless1, vload, loadC, storeC, vnil, vfaddr, vextract, flatT, flatE, flatC, vconv, vmm, vidxA, viaddrA, vfield, vlen, elemsOf, dF32, dF64, dI64, dU8, dBool, dStr,
                esOk, elemsS, vsliceX, bnd, ownV, ownC, own1, ownT, isSl, nSl, endL, Md.isOwn, purge, purgeH, purgeB, purgeE, hasName, name1, List.any_cons, List.any_nil, Md.isWr,
                pureV.pureP, Option.map, reduceIte, Nat.reduceEqDiff, Nat.reduceAdd, Nat.reduceMul, Nat.reduceLT, Nat.reduceLeDiff, List.mapM_cons, List.mapM_nil, Option.pure_def,
                Option.bind_eq_bind, Option.bind_some, implies_true, forall_const, beq_self_eq_true, decide_true, decide_false, eq_self, Int.reduceEq, Int.reduceLE, Int.reduceLT,
                if_true, if_false, fc105_0, fc105_1, fc105_2, fc105_3, fc105_4, fc105_5, fc105_6, fc105_7, Int.reduceAdd, Int.reduceSub, Int.reduceMul, Int.reduceNeg, Int.reducePow,
                Nat.reducePow, Int.reduceToNat, Nat.reduceSub, List.replicate, Nat.reduceBEq, wAs, wA, wC, zipW, noDupN, grpE, grpC, en0, dc_en0]
      repeat' (first
        | ((first | (refine eGI_of (fun h => ?_) (fun h => ?_)) | (refine eCc_of (fun h => ?_) (fun h => ?_))) <;> (try simp only [Bool.not_eq_true', Bool.not_eq_false'] at h) <;> (try simp only [h, reduceCtorEq, Bool.not_eq_true', decide_eq_false_iff_not, Bool.not_true, Bool.not_false, Bool.false_or, Bool.true_or, Bool.true_and, Bool.false_and, Bool.and_eq_true, Bool.or_eq_true, if_true, if_false, reduceIte, Bool.false_eq_true, and_true, true_and, false_or, or_false, decide_eq_true_eq, not_false_eq_true, not_true_eq_false] at hp) <;> (try (have h2 := h; simp only [decide_eq_true_eq, decide_eq_false_iff_not] at h2; (first | (replace h2 := eq_false h2) | (replace h2 := eq_true h2)); simp only [h2, if_true, if_false, false_or, true_or, or_true, or_false, and_true, true_and, not_false_eq_true, not_true_eq_false] at hp)) <;> simp only [h,
          hp, grpS, grpD, grpF, grpL, eop, vop, bop, uop, fltop, convop, endOk, newE, new1, freshL, Md.isNew, outV, pureV, pureX, pure1, AV.cells, AV.one, storable, laid, refless,
                refless1, vload, loadC, storeC, vnil, vfaddr, vextract, flatT, flatE, flatC, vconv, vmm, vidxA, viaddrA, vfield, vlen, elemsOf, dF32, dF64, dI64, dU8, dBool, dStr,
                esOk, elemsS, vsliceX, bnd, ownV, ownC, own1, ownT, isSl, nSl, endL, Md.isOwn, purge, purgeH, purgeB, purgeE, hasName, name1, List.any_cons, List.any_nil, Md.isWr,
                pureV.pureP, Option.map, reduceIte, Nat.reduceEqDiff, Nat.reduceAdd, Nat.reduceMul, Nat.reduceLT, Nat.reduceLeDiff, List.mapM_cons, List.mapM_nil, Option.pure_def,
                Option.bind_eq_bind, Option.bind_some, implies_true, forall_const, beq_self_eq_true, decide_true, decide_false, eq_self, Int.reduceEq, Int.reduceLE, Int.reduceLT,
                if_true, if_false, fc105_0, fc105_1, fc105_2, fc105_3, fc105_4, fc105_5, fc105_6, fc105_7, Int.reduceAdd, Int.reduceSub, Int.reduceMul, Int.reduceNeg, Int.reducePow,
                Nat.reducePow, Int.reduceToNat, Nat.reduceSub, List.replicate, Nat.reduceBEq, wAs, wA, wC, zipW, noDupN, grpE, grpC, en0, dc_en0]))
      all_goals (try simp only [*, m_spec_l01Narrow, Bool.and_true, Bool.true_and, Bool.and_false, Bool.false_and, Bool.or_true, Bool.true_or, Bool.or_false, Bool.false_or, Bool.not_true, Bool.not_false, Bool.false_eq_true, if_true, if_false, reduceIte, decide_true, decide_false])
      all_goals (try (simp_all; done))
    · cases h
  · cases h
def m_spec_l01Sqrt (x0 : Nat) : Nat := (m_spec_l01Narrow (m_math_Sqrt (widen x0)))
def p_spec_l01Sqrt (x0 : Nat) : Bool := (p_spec_l01Narrow (m_math_Sqrt (widen x0)))
def g_spec_l01Sqrt : List AV → Option AV
  | [.flt .f32 y0] => if p_spec_l01Sqrt y0 = true then some (.flt .f32 (m_spec_l01Sqrt y0)) else none
  | _ => none
def ic95 : ICode := (.seq (.reg [⟨(some 2), none, (.mov (.c (.flt .f32 0)))⟩] [0]) (.seq (.reg [⟨(some 3), none, (.mov (.t 0))⟩, ⟨(some 4), none, (.conv (.flt .f64) (.t 3))⟩, ⟨(some
      5), none, (.call (.fn 104) [(.t 4)] [])⟩, ⟨(some 6), none, (.call (.fn 105) [(.t 5)] [])⟩, ⟨(some 2), none, (.mov (.t 6))⟩] [2]) .ret))
def cp95 : CP := CP.mk [] [] [[0], [2]] 7
theorem fc95_0 : IntKind.wrap .i64 0 = 0 := by decide
theorem fc95_1 : IntKind.wrap .i64 1 = 1 := by decide
theorem fc95_2 : IntKind.wrap .i64 2 = 2 := by decide
theorem fc95_3 : IntKind.wrap .i64 3 = 3 := by decide
theorem fc95_4 : IntKind.wrap .i64 4 = 4 := by decide
theorem fc95_5 : IntKind.wrap .i64 5 = 5 := by decide
theorem fc95_6 : IntKind.wrap .i64 6 = 6 := by decide
theorem fc95_7 : IntKind.wrap .i64 7 = 7 := by decide
theorem s95 : ∀ vs r, g_spec_l01Sqrt vs = some r → SaysM Try.prog .any 95 vs r := by
  intro vs r h
  unfold g_spec_l01Sqrt at h
  split at h
  · rename_i y0
    split at h
    · rename_i hp
      cases h
      refine spec_of (m := .any) (tab := tabOf [(104, wM .any g_math_Sqrt), (105, wM .any g_spec_l01Narrow)]) (cp := cp95) (ic := ic95) (rvl := [(.t 2)]) hm (tabOk_cons (m := .any) s104 (tabOk_cons (m := .any) s105 tabOk_nil)) Try.func95 rfl rfl rfl (by kernel_rfl) rfl (Nat.le_of_ble_eq_true rfl) (Nat.le_of_ble_eq_true rfl) ?_
      show eA _ _ _ _
      unfold ic95
      simp only [p_spec_l01Sqrt, Bool.and_eq_true, Bool.or_eq_true, decide_eq_true_eq, Bool.not_eq_true', decide_eq_false_iff_not] at hp
      simp only [
          hp, grpS, grpD, grpF, grpL, eop, vop, bop, uop, fltop, convop, endOk, newE, new1, freshL, Md.isNew, outV, pureV, pureX, pure1, AV.cells, AV.one, storable, laid, refless,
                refless1, vload, loadC, storeC, vnil, vfaddr, vextract, flatT, flatE, flatC, vconv, vmm, vidxA, viaddrA, vfield, vlen, elemsOf, dF32, dF64, dI64, dU8, dBool, dStr,
                esOk, elemsS, vsliceX, bnd, ownV, ownC, own1, ownT, isSl, nSl, endL, Md.isOwn, purge, purgeH, purgeB, purgeE, hasName, name1, List.any_cons, List.any_nil, Md.isWr,
                pureV.pureP, Option.map, reduceIte, Nat.reduceEqDiff, Nat.reduceAdd, Nat.reduceMul, Nat.reduceLT, Nat.reduceLeDiff, List.mapM_cons, List.mapM_nil, Option.pure_def,
                Option.bind_eq_bind, Option.bind_some, implies_true, forall_const, beq_self_eq_true, decide_true, decide_false, eq_self, Int.reduceEq, Int.reduceLE, Int.reduceLT,
                if_true, if_false, fc95_0, fc95_1, fc95_2, fc95_3, fc95_4, fc95_5, fc95_6, fc95_7, Int.reduceAdd, Int.reduceSub, Int.reduceMul, Int.reduceNeg, Int.reducePow,
                Nat.reducePow, Int.reduceToNat, Nat.reduceSub, List.replicate, Nat.reduceBEq, wAs, wA, wC, zipW, noDupN, grpE, g_math_Sqrt, g_spec_l01Narrow, grpC, en0, dc_en0]
      repeat' (first
        | ((first | (refine eGI_of (fun h => ?_) (fun h => ?_)) | (refine eCc_of (fun h => ?_) (fun h => ?_))) <;> (try simp only [Bool.not_eq_true', Bool.not_eq_false'] at h) <;> (try simp only [h, reduceCtorEq, Bool.not_eq_true', decide_eq_false_iff_not, Bool.not_true, Bool.not_false, Bool.false_or, Bool.true_or, Bool.true_and, Bool.false_and, Bool.and_eq_true, Bool.or_eq_true, if_true, if_false, reduceIte, Bool.false_eq_true, and_true, true_and, false_or, or_false, decide_eq_true_eq, not_false_eq_true, not_true_eq_false] at hp) <;> (try (have h2 := h; simp only [decide_eq_true_eq, decide_eq_false_iff_not] at h2; (first | (replace h2 := eq_false h2) | (replace h2 := eq_true h2)); simp only [h2, if_true, if_false, false_or, true_or, or_true, or_false, and_true, true_and, not_false_eq_true, not_true_eq_false] at hp)) <;> simp only [h,
          hp, grpS, grpD, grpF, grpL, eop, vop, bop, uop, fltop, convop, endOk, newE, new1, freshL, Md.isNew, outV, pureV, pureX, pure1, AV.cells, AV.one, storable, laid, refless,
                refless1, vload, loadC, storeC, vnil, vfaddr, vextract, flatT, flatE, flatC, vconv, vmm, vidxA, viaddrA, vfield, vlen, elemsOf, dF32, dF64, dI64, dU8, dBool, dStr,
                esOk, elemsS, vsliceX, bnd, ownV, ownC, own1, ownT, isSl, nSl, endL, Md.isOwn, purge, purgeH, purgeB, purgeE, hasName, name1, List.any_cons, List.any_nil, Md.isWr,
                pureV.pureP, Option.map, reduceIte, Nat.reduceEqDiff, Nat.reduceAdd, Nat.reduceMul, Nat.reduceLT, Nat.reduceLeDiff, List.mapM_cons, List.mapM_nil, Option.pure_def,
                Option.bind_eq_bind, Option.bind_some, implies_true, forall_const, beq_self_eq_true, decide_true, decide_false, eq_self, Int.reduceEq, Int.reduceLE, Int.reduceLT,
                if_true, if_false, fc95_0, fc95_1, fc95_2, fc95_3, fc95_4, fc95_5, fc95_6, fc95_7, Int.reduceAdd, Int.reduceSub, Int.reduceMul, Int.reduceNeg, Int.reducePow,
                Nat.reducePow, Int.reduceToNat, Nat.reduceSub, List.replicate, Nat.reduceBEq, wAs, wA, wC, zipW, noDupN, grpE, g_math_Sqrt, g_spec_l01Narrow, grpC, en0, dc_en0]))
      all_goals (try simp only [*, m_spec_l01Sqrt, Bool.and_true, Bool.true_and, Bool.and_false, Bool.false_and, Bool.or_true, Bool.true_or, Bool.or_false, Bool.false_or, Bool.not_true, Bool.not_false, Bool.false_eq_true, if_true, if_false, reduceIte, decide_true, decide_false])
      all_goals (try (simp_all; done))
    · cases h
  · cases h
def m_spec_l01Long (x0 : (Nat × Nat × Nat)) : Nat := (m_spec_l01Sqrt (m_spec_l01Inner x0 x0))
def p_spec_l01Long (x0 : (Nat × Nat × Nat)) : Bool := (p_spec_l01Sqrt (m_spec_l01Inner x0 x0))
def g_spec_l01Long : List AV → Option AV
  | [.agg [.flt .f32 y0, .flt .f32 y1, .flt .f32 y2]] => if p_spec_l01Long (y0, y1, y2) = true then some (.flt .f32 (m_spec_l01Long (y0, y1,
      y2))) else none
  | _ => none
def ic69 : ICode := (.seq (.reg [⟨(some 1), none, (.box 3 (.t 0))⟩, ⟨(some 2), none, (.mov (.c (.flt .f32 0)))⟩] [1]) (.seq (.reg [⟨(some 3), none, (.load (some 3) (.t 1))⟩, ⟨(some
      4), none, (.load (some 3) (.t 1))⟩, ⟨(some 5), none, (.call (.fn 96) [(.t 3), (.t 4)] [])⟩, ⟨(some 6), none, (.call (.fn 95) [(.t 5)] [])⟩, ⟨(some 2), none, (.mov (.t 6))⟩]
      [2]) .ret))
def cp69 : CP := CP.mk [] [] [[1], [2]] 7
theorem fc69_0 : IntKind.wrap .i64 0 = 0 := by decide
theorem fc69_1 : IntKind.wrap .i64 1 = 1 := by decide
theorem fc69_2 : IntKind.wrap .i64 2 = 2 := by decide
theorem fc69_3 : IntKind.wrap .i64 3 = 3 := by decide
theorem fc69_4 : IntKind.wrap .i64 4 = 4 := by decide
theorem fc69_5 : IntKind.wrap .i64 5 = 5 := by decide
theorem fc69_6 : IntKind.wrap .i64 6 = 6 := by decide
theorem fc69_7 : IntKind.wrap .i64 7 = 7 := by decide
theorem s69 : ∀ vs r, g_spec_l01Long vs = some r → SaysM Try.prog .any 69 vs r := by
  intro vs r h
  unfold g_spec_l01Long at h
  split at h
  · rename_i y0 y1 y2
    split at h
    · rename_i hp
      cases h
      refine spec_of (m := .any) (tab := tabOf [(95, wM .any g_spec_l01Sqrt), (96, wM .any g_spec_l01Inner)]) (cp := cp69) (ic := ic69) (rvl := [(.t 2)]) hm (tabOk_cons (m := .any) s95 (tabOk_cons (m := .any) s96 tabOk_nil)) Try.func69 rfl rfl rfl (by kernel_rfl) rfl (Nat.le_of_ble_eq_true rfl) (Nat.le_of_ble_eq_true rfl) ?_
      show eA _ _ _ _
      unfold ic69
      simp only [p_spec_l01Long, Bool.and_eq_true, Bool.or_eq_true, decide_eq_true_eq, Bool.not_eq_true', decide_eq_false_iff_not] at hp
      simp only [
          hp, grpS, grpD, grpF, grpL, eop, vop, bop, uop, fltop, convop, endOk, newE, new1, freshL, Md.isNew, outV, pureV, pureX, pure1, AV.cells, AV.one, storable, laid, refless,
                refless1, vload, loadC, storeC, vnil, vfaddr, vextract, flatT, flatE, flatC, vconv, vmm, vidxA, viaddrA, vfield, vlen, elemsOf, dF32, dF64, dI64, dU8, dBool, dStr,
                esOk, elemsS, vsliceX, bnd, ownV, ownC, own1, ownT, isSl, nSl, endL, Md.isOwn, purge, purgeH, purgeB, purgeE, hasName, name1, List.any_cons, List.any_nil, Md.isWr,
                pureV.pureP, Option.map, reduceIte, Nat.reduceEqDiff, Nat.reduceAdd, Nat.reduceMul, Nat.reduceLT, Nat.reduceLeDiff, List.mapM_cons, List.mapM_nil, Option.pure_def,
                Option.bind_eq_bind, Option.bind_some, implies_true, forall_const, beq_self_eq_true, decide_true, decide_false, eq_self, Int.reduceEq, Int.reduceLE, Int.reduceLT,
                if_true, if_false, fc69_0, fc69_1, fc69_2, fc69_3, fc69_4, fc69_5, fc69_6, fc69_7, Int.reduceAdd, Int.reduceSub, Int.reduceMul, Int.reduceNeg, Int.reducePow,
                Nat.reducePow, Int.reduceToNat, Nat.reduceSub, List.replicate, Nat.reduceBEq, wAs, wA, wC, zipW, noDupN, grpE, g_spec_l01Sqrt, g_spec_l01Inner, grpC, en0, dc_en0]
      repeat' (first
        | ((first | (refine eGI_of (fun h => ?_) (fun h => ?_)) | (refine eCc_of (fun h => ?_) (fun h => ?_))) <;> (try simp only [Bool.not_eq_true', Bool.not_eq_false'] at h) <;> (try simp only [h, reduceCtorEq, Bool.not_eq_true', decide_eq_false_iff_not, Bool.not_true, Bool.not_false, Bool.false_or, Bool.true_or, Bool.true_and, Bool.false_and, Bool.and_eq_true, Bool.or_eq_true, if_true, if_false, reduceIte, Bool.false_eq_true, and_true, true_and, false_or, or_false, decide_eq_true_eq, not_false_eq_true, not_true_eq_false] at hp) <;> (try (have h2 := h; simp only [decide_eq_true_eq, decide_eq_false_iff_not] at h2; (first | (replace h2 := eq_false h2) | (replace h2 := eq_true h2)); simp only [h2, if_true, if_false, false_or, true_or, or_true, or_false, and_true, true_and, not_false_eq_true, not_true_eq_false] at hp)) <;> simp only [h,
          hp, grpS, grpD, grpF, grpL, eop, vop, bop, uop, fltop, convop, endOk, newE, new1, freshL, Md.isNew, outV, pureV, pureX, pure1, AV.cells, AV.one, storable, laid, refless,
                refless1, vload, loadC, storeC, vnil, vfaddr, vextract, flatT, flatE, flatC, vconv, vmm, vidxA, viaddrA, vfield, vlen, elemsOf, dF32, dF64, dI64, dU8, dBool, dStr,
                esOk, elemsS, vsliceX, bnd, ownV, ownC, own1, ownT, isSl, nSl, endL, Md.isOwn, purge, purgeH, purgeB, purgeE, hasName, name1, List.any_cons, List.any_nil, Md.isWr,
                pureV.pureP, Option.map, reduceIte, Nat.reduceEqDiff, Nat.reduceAdd, Nat.reduceMul, Nat.reduceLT, Nat.reduceLeDiff, List.mapM_cons, List.mapM_nil, Option.pure_def,
                Option.bind_eq_bind, Option.bind_some, implies_true, forall_const, beq_self_eq_true, decide_true, decide_false, eq_self, Int.reduceEq, Int.reduceLE, Int.reduceLT,
                if_true, if_false, fc69_0, fc69_1, fc69_2, fc69_3, fc69_4, fc69_5, fc69_6, fc69_7, Int.reduceAdd, Int.reduceSub, Int.reduceMul, Int.reduceNeg, Int.reducePow,
                Nat.reducePow, Int.reduceToNat, Nat.reduceSub, List.replicate, Nat.reduceBEq, wAs, wA, wC, zipW, noDupN, grpE, g_spec_l01Sqrt, g_spec_l01Inner, grpC, en0, dc_en0]))
      all_goals (try simp only [*, m_spec_l01Long, Bool.and_true, Bool.true_and, Bool.and_false, Bool.false_and, Bool.or_true, Bool.true_or, Bool.or_false, Bool.false_or, Bool.not_true, Bool.not_false, Bool.false_eq_true, if_true, if_false, reduceIte, decide_true, decide_false])
      all_goals (try (simp_all; done))
    · cases h
  · cases h
def l_spec_l04Lengths_0 (x0 : (List (Nat × Nat × Nat))) : Nat → (List Nat) → Int → Option (List Nat)
  | 0, _, _ => none
  | n + 1, z0_0, z0_1 => (if (decide (z0_1 < ((List.length x0 : Nat) : Int))) = true then (need (inB z0_1 (List.length x0)) (need (inB (IntKind.wrap .i64 (z0_1 - 1)) (List.length
        x0)) (need (p_spec_l01Long (m_spec_l01Less (atI x0 z0_1) (atI x0 (IntKind.wrap .i64 (z0_1 - 1))))) (need (decide (((List.length z0_0) + 1) * 4 ≤ 17592186044416)) (need
        (decide ((List.length z0_0) + 1 ≤ 17592186044416)) (l_spec_l04Lengths_0 x0 n (z0_0 ++ [(m_spec_l01Long (m_spec_l01Less (atI x0 z0_1) (atI x0 (IntKind.wrap .i64 (z0_1 -
        1)))))]) (IntKind.wrap .i64 (z0_1 + 1)))))))) else (some z0_0))
def m_spec_l04Lengths (x0 : (List (Nat × Nat × Nat))) : (List Nat) := (Option.getD (l_spec_l04Lengths_0 x0 (Int.toNat (((List.length x0 : Nat) : Int) - 1) + 2) [] 1) default)
def p_spec_l04Lengths (x0 : (List (Nat × Nat × Nat))) : Bool := (Option.isSome (l_spec_l04Lengths_0 x0 (Int.toNat (((List.length x0 : Nat) : Int) - 1) + 2) [] 1))
def g_spec_l04Lengths : List AV → Option AV
  | [.sl w0] => (match decL dc_en0 w0 with | some y0 => (if p_spec_l04Lengths y0 = true then some (.sl (List.map (AV.flt .f32) (m_spec_l04Lengths y0))) else none) | none => none)
  | _ => none
def lb72_0 : ICode := (.seq (.seq (.reg [⟨(some 6), none, (.mov (.t 4))⟩, ⟨(some 7), none, (.mov (.t 0))⟩, ⟨(some 8), none, (.len false (.t 7))⟩, ⟨(some 9), none, (.bin .lss false
      (.t 6) (.t 8))⟩] [0, 3, 4, 9]) (.cond (.t 9) .skip (.exit 0))) (.seq (.block 1 (.reg [⟨(some 12), none, (.mov (.t 3))⟩, ⟨(some 13), none, (.mov (.t 0))⟩, ⟨(some 14), none,
      (.mov (.t 4))⟩, ⟨(some 15), none, (.iaddrS 3 (.t 13) (.t 14))⟩, ⟨(some 16), none, (.load (some 3) (.t 15))⟩, ⟨(some 17), none, (.mov (.t 0))⟩, ⟨(some 18), none, (.mov (.t
      4))⟩, ⟨(some 19), none, (.bin .sub false (.t 18) (.c (.int .i64 1)))⟩, ⟨(some 20), none, (.iaddrS 3 (.t 17) (.t 19))⟩, ⟨(some 21), none, (.load (some 3) (.t 20))⟩, ⟨(some 22),
      none, (.call (.fn 70) [(.t 16), (.t 21)] [])⟩, ⟨(some 23), none, (.call (.fn 69) [(.t 22)] [])⟩, ⟨(some 24), none, (.bslice 1 1 (.flt .f32 0) [(0, (.t 23))])⟩, ⟨(some 25),
      none, (.append 1 4 (.t 12) (.t 24))⟩, ⟨(some 3), none, (.mov (.t 25))⟩] [0, 3, 4])) (.reg [⟨(some 10), none, (.mov (.t 4))⟩, ⟨(some 11), none, (.bin .add false (.t 10) (.c
      (.int .i64 1)))⟩, ⟨(some 4), none, (.mov (.t 11))⟩] [0, 3, 4])))
def ic72 : ICode := (.seq (.reg [⟨(some 2), none, (.mov (.c .snil))⟩] [0]) (.seq (.reg [⟨(some 5), none, (.bslice 1 0 (.flt .f32 0) [])⟩, ⟨(some 3), none, (.mov (.t 5))⟩] [0, 3])
      (.seq (.seq (.reg [⟨(some 4), none, (.mov (.c (.int .i64 1)))⟩] [0, 3, 4]) (.block 0 (.loop lb72_0))) (.seq (.reg [⟨(some 26), none, (.mov (.t 3))⟩, ⟨(some 2), none, (.mov (.t
      26))⟩] [2]) .ret))))
def cp72 : CP := CP.mk [] [] [[0], [0, 3], [0, 3, 4], [0, 3, 4, 9], [0, 3, 4], [0, 3, 4], [2]] 27
theorem fc72_0 : IntKind.wrap .i64 0 = 0 := by decide
theorem fc72_1 : IntKind.wrap .i64 1 = 1 := by decide
theorem fc72_2 : IntKind.wrap .i64 2 = 2 := by decide
theorem fc72_3 : IntKind.wrap .i64 3 = 3 := by decide
theorem fc72_4 : IntKind.wrap .i64 4 = 4 := by decide
theorem fc72_5 : IntKind.wrap .i64 5 = 5 := by decide
theorem fc72_6 : IntKind.wrap .i64 6 = 6 := by decide
theorem fc72_7 : IntKind.wrap .i64 7 = 7 := by decide
theorem sl72_0 (x0 : (List (Nat × Nat × Nat))) : ∀ (n : Nat) (z0_0 : (List Nat)) (z0_1 : Int) (o : (List Nat)) (K : IExit → St → Prop), l_spec_l04Lengths_0 x0 n z0_0 z0_1 = some o →
      (∀ st, Wk st (⟨[(3, (.lsl 5 0 (List.length o)))], [(5, (some ⟨1, true, (List.map (AV.flt .f32) o)⟩))]⟩ : St) → K (.exit 0) st) → eA (tabOf [(69, wM .any g_spec_l01Long), (70,
      wM .any g_spec_l01Less)]) (.loop lb72_0) (⟨[(0, (.sl (List.map en0 x0))), (3, (.lsl 5 0 (List.length z0_0))), (4, (.int .i64 z0_1))], [(5, (some ⟨1, true, (List.map (AV.flt
      .f32) z0_0)⟩))]⟩ : St) K := by
  intro n
  induction n with
  | zero =>
    intro z0_0 z0_1 o K h h0
    simp only [l_spec_l04Lengths_0, reduceCtorEq] at h
  | succ n ih =>
    intro z0_0 z0_1 o K h h0
    refine eA_loop ?_
    unfold lb72_0
    unfold l_spec_l04Lengths_0 at h
    (try simp only [need_iff] at h)
    simp only [
      need_iff, h, grpS, grpD, grpF, grpL, eop, vop, bop, uop, fltop, convop, endOk, newE, new1, freshL, Md.isNew, outV, pureV, pureX, pure1, AV.cells, AV.one, storable, laid,
            refless, refless1, vload, loadC, storeC, vnil, vfaddr, vextract, flatT, flatE, flatC, vconv, vmm, vidxA, viaddrA, vfield, vlen, elemsOf, dF32, dF64, dI64, dU8, dBool,
            dStr, esOk, elemsS, vsliceX, bnd, ownV, ownC, own1, ownT, isSl, nSl, endL, Md.isOwn, purge, purgeH, purgeB, purgeE, hasName, name1, List.any_cons, List.any_nil, Md.isWr,
            pureV.pureP, Option.map, reduceIte, Nat.reduceEqDiff, Nat.reduceAdd, Nat.reduceMul, Nat.reduceLT, Nat.reduceLeDiff, List.mapM_cons, List.mapM_nil, Option.pure_def,
            Option.bind_eq_bind, Option.bind_some, implies_true, forall_const, beq_self_eq_true, decide_true, decide_false, eq_self, Int.reduceEq, Int.reduceLE, Int.reduceLT,
            if_true, if_false, fc72_0, fc72_1, fc72_2, fc72_3, fc72_4, fc72_5, fc72_6, fc72_7, Int.reduceAdd, Int.reduceSub, Int.reduceMul, Int.reduceNeg, Int.reducePow,
            Nat.reducePow, Int.reduceToNat, Nat.reduceSub, List.replicate, Nat.reduceBEq, wAs, wA, wC, zipW, noDupN, grpE, g_spec_l01Long, g_spec_l01Less, grpC, en0, dc_en0]
    repeat' (first
      | ((first | (refine eGI_of (fun hc => ?_) (fun hc => ?_)) | (refine eCc_of (fun hc => ?_) (fun hc => ?_)) | (have hc := True.intro; refine KW_refl ?_)) <;> (try simp only [Bool.not_eq_true', Bool.not_eq_false'] at hc) <;> (try simp only [hc, need_iff, reduceCtorEq, Bool.not_eq_true', decide_eq_false_iff_not, Bool.not_true, Bool.not_false, Bool.false_or, Bool.true_or, Bool.true_and, Bool.false_and, Bool.and_eq_true, Bool.or_eq_true, if_true, if_false, reduceIte, Bool.false_eq_true, and_true, true_and, false_or, or_false, decide_eq_true_eq, not_false_eq_true, not_true_eq_false] at h) <;> (try (have hc2 := hc; simp only [decide_eq_true_eq, decide_eq_false_iff_not] at hc2; simp only [hc2, if_true, if_false, reduceCtorEq, Bool.not_eq_true', decide_eq_false_iff_not, Bool.not_true, Bool.not_false, Bool.false_or, Bool.true_or, Bool.true_and, Bool.false_and, Bool.and_eq_true, Bool.or_eq_true, if_true, if_false, reduceIte, Bool.false_eq_true, and_true, true_and, false_or, or_false, decide_eq_true_eq, not_false_eq_true, not_true_eq_false] at h)) <;> simp only [hc,
      need_iff, h, grpS, grpD, grpF, grpL, eop, vop, bop, uop, fltop, convop, endOk, newE, new1, freshL, Md.isNew, outV, pureV, pureX, pure1, AV.cells, AV.one, storable, laid,
            refless, refless1, vload, loadC, storeC, vnil, vfaddr, vextract, flatT, flatE, flatC, vconv, vmm, vidxA, viaddrA, vfield, vlen, elemsOf, dF32, dF64, dI64, dU8, dBool,
            dStr, esOk, elemsS, vsliceX, bnd, ownV, ownC, own1, ownT, isSl, nSl, endL, Md.isOwn, purge, purgeH, purgeB, purgeE, hasName, name1, List.any_cons, List.any_nil, Md.isWr,
            pureV.pureP, Option.map, reduceIte, Nat.reduceEqDiff, Nat.reduceAdd, Nat.reduceMul, Nat.reduceLT, Nat.reduceLeDiff, List.mapM_cons, List.mapM_nil, Option.pure_def,
            Option.bind_eq_bind, Option.bind_some, implies_true, forall_const, beq_self_eq_true, decide_true, decide_false, eq_self, Int.reduceEq, Int.reduceLE, Int.reduceLT,
            if_true, if_false, fc72_0, fc72_1, fc72_2, fc72_3, fc72_4, fc72_5, fc72_6, fc72_7, Int.reduceAdd, Int.reduceSub, Int.reduceMul, Int.reduceNeg, Int.reducePow,
            Nat.reducePow, Int.reduceToNat, Nat.reduceSub, List.replicate, Nat.reduceBEq, wAs, wA, wC, zipW, noDupN, grpE, g_spec_l01Long, g_spec_l01Less, grpC, en0, dc_en0]))
    all_goals (repeat (replace h := And.right h))
    all_goals first
      | (refine eA_wk (wk_norm (ks := [0, 3, 4]) (ls := [5]) ?_) (eA_cast ?_ (ih _ _ _ _ h h0)); (simp only [normOk, optIn, blkIn, nameIn,
      need_iff, h, grpS, grpD, grpF, grpL, eop, vop, bop, uop, fltop, convop, endOk, newE, new1, freshL, Md.isNew, outV, pureV, pureX, pure1, AV.cells, AV.one, storable, laid,
            refless, refless1, vload, loadC, storeC, vnil, vfaddr, vextract, flatT, flatE, flatC, vconv, vmm, vidxA, viaddrA, vfield, vlen, elemsOf, dF32, dF64, dI64, dU8, dBool,
            dStr, esOk, elemsS, vsliceX, bnd, ownV, ownC, own1, ownT, isSl, nSl, endL, Md.isOwn, purge, purgeH, purgeB, purgeE, hasName, name1, List.any_cons, List.any_nil, Md.isWr,
            pureV.pureP, Option.map, reduceIte, Nat.reduceEqDiff, Nat.reduceAdd, Nat.reduceMul, Nat.reduceLT, Nat.reduceLeDiff, List.mapM_cons, List.mapM_nil, Option.pure_def,
            Option.bind_eq_bind, Option.bind_some, implies_true, forall_const, beq_self_eq_true, decide_true, decide_false, eq_self, Int.reduceEq, Int.reduceLE, Int.reduceLT,
            if_true, if_false, fc72_0, fc72_1, fc72_2, fc72_3, fc72_4, fc72_5, fc72_6, fc72_7, Int.reduceAdd, Int.reduceSub, Int.reduceMul, Int.reduceNeg, Int.reducePow,
            Nat.reducePow, Int.reduceToNat, Nat.reduceSub, List.replicate, Nat.reduceBEq, wAs, wA, wC, zipW, noDupN, grpE, g_spec_l01Long, g_spec_l01Less, grpC, en0, dc_en0] <;> rfl); (simp only [normS, List.map_append, List.length_append, List.map_set, List.length_set, List.map_replicate, List.length_replicate, List.map_nil, List.map_cons,
      need_iff, h, grpS, grpD, grpF, grpL, eop, vop, bop, uop, fltop, convop, endOk, newE, new1, freshL, Md.isNew, outV, pureV, pureX, pure1, AV.cells, AV.one, storable, laid,
            refless, refless1, vload, loadC, storeC, vnil, vfaddr, vextract, flatT, flatE, flatC, vconv, vmm, vidxA, viaddrA, vfield, vlen, elemsOf, dF32, dF64, dI64, dU8, dBool,
            dStr, esOk, elemsS, vsliceX, bnd, ownV, ownC, own1, ownT, isSl, nSl, endL, Md.isOwn, purge, purgeH, purgeB, purgeE, hasName, name1, List.any_cons, List.any_nil, Md.isWr,
            pureV.pureP, Option.map, reduceIte, Nat.reduceEqDiff, Nat.reduceAdd, Nat.reduceMul, Nat.reduceLT, Nat.reduceLeDiff, List.mapM_cons, List.mapM_nil, Option.pure_def,
            Option.bind_eq_bind, Option.bind_some, implies_true, forall_const, beq_self_eq_true, decide_true, decide_false, eq_self, Int.reduceEq, Int.reduceLE, Int.reduceLT,
            if_true, if_false, fc72_0, fc72_1, fc72_2, fc72_3, fc72_4, fc72_5, fc72_6, fc72_7, Int.reduceAdd, Int.reduceSub, Int.reduceMul, Int.reduceNeg, Int.reducePow,
            Nat.reducePow, Int.reduceToNat, Nat.reduceSub, List.replicate, Nat.reduceBEq, wAs, wA, wC, zipW, noDupN, grpE, g_spec_l01Long, g_spec_l01Less, grpC, en0, dc_en0] <;> rfl))
      | (cases h; refine h0 _ (Wk.cast (wk_norm (ks := [3]) (ls := [5]) ?_) ?_); (simp only [normOk, optIn, blkIn, nameIn,
      grpS, grpD, grpF, grpL, eop, vop, bop, uop, fltop, convop, endOk, newE, new1, freshL, Md.isNew, outV, pureV, pureX, pure1, AV.cells, AV.one, storable, laid, refless, refless1,
            vload, loadC, storeC, vnil, vfaddr, vextract, flatT, flatE, flatC, vconv, vmm, vidxA, viaddrA, vfield, vlen, elemsOf, dF32, dF64, dI64, dU8, dBool, dStr, esOk, elemsS,
            vsliceX, bnd, ownV, ownC, own1, ownT, isSl, nSl, endL, Md.isOwn, purge, purgeH, purgeB, purgeE, hasName, name1, List.any_cons, List.any_nil, Md.isWr, pureV.pureP,
            Option.map, reduceIte, Nat.reduceEqDiff, Nat.reduceAdd, Nat.reduceMul, Nat.reduceLT, Nat.reduceLeDiff, List.mapM_cons, List.mapM_nil, Option.pure_def,
            Option.bind_eq_bind, Option.bind_some, implies_true, forall_const, beq_self_eq_true, decide_true, decide_false, eq_self, Int.reduceEq, Int.reduceLE, Int.reduceLT,
            if_true, if_false, fc72_0, fc72_1, fc72_2, fc72_3, fc72_4, fc72_5, fc72_6, fc72_7, Int.reduceAdd, Int.reduceSub, Int.reduceMul, Int.reduceNeg, Int.reducePow,
            Nat.reducePow, Int.reduceToNat, Nat.reduceSub, List.replicate, Nat.reduceBEq, wAs, wA, wC, zipW, noDupN, grpE, g_spec_l01Long, g_spec_l01Less, grpC, en0, dc_en0] <;> rfl); (simp only [normS, List.map_append, List.length_append, List.map_set, List.length_set, List.map_replicate, List.length_replicate,
      grpS, grpD, grpF, grpL, eop, vop, bop, uop, fltop, convop, endOk, newE, new1, freshL, Md.isNew, outV, pureV, pureX, pure1, AV.cells, AV.one, storable, laid, refless, refless1,
            vload, loadC, storeC, vnil, vfaddr, vextract, flatT, flatE, flatC, vconv, vmm, vidxA, viaddrA, vfield, vlen, elemsOf, dF32, dF64, dI64, dU8, dBool, dStr, esOk, elemsS,
            vsliceX, bnd, ownV, ownC, own1, ownT, isSl, nSl, endL, Md.isOwn, purge, purgeH, purgeB, purgeE, hasName, name1, List.any_cons, List.any_nil, Md.isWr, pureV.pureP,
            Option.map, reduceIte, Nat.reduceEqDiff, Nat.reduceAdd, Nat.reduceMul, Nat.reduceLT, Nat.reduceLeDiff, List.mapM_cons, List.mapM_nil, Option.pure_def,
            Option.bind_eq_bind, Option.bind_some, implies_true, forall_const, beq_self_eq_true, decide_true, decide_false, eq_self, Int.reduceEq, Int.reduceLE, Int.reduceLT,
            if_true, if_false, fc72_0, fc72_1, fc72_2, fc72_3, fc72_4, fc72_5, fc72_6, fc72_7, Int.reduceAdd, Int.reduceSub, Int.reduceMul, Int.reduceNeg, Int.reducePow,
            Nat.reducePow, Int.reduceToNat, Nat.reduceSub, List.replicate, Nat.reduceBEq, wAs, wA, wC, zipW, noDupN, grpE, g_spec_l01Long, g_spec_l01Less, grpC, en0, dc_en0] <;> rfl))
theorem s72 : ∀ vs r, g_spec_l04Lengths vs = some r → SaysM Try.prog (.own [1]) 72 vs r := by
  intro vs r h
  unfold g_spec_l04Lengths at h
  split at h
  · rename_i w0
    cases hd_y0 : decL dc_en0 w0 with
    | none => rw [hd_y0] at h; cases h
    | some y0 =>
    rw [hd_y0] at h
    obtain rfl := decL_inv dc_en0_inv hd_y0
    clear hd_y0
    dsimp only at h
    split at h
    · rename_i hp
      cases h
      refine spec_of (m := (.own [1])) (tab := tabOf [(69, wM .any g_spec_l01Long), (70, wM .any g_spec_l01Less)]) (cp := cp72) (ic := ic72) (rvl := [(.t 2)]) hm (tabOk_cons (m := .any) s69 (tabOk_cons (m := .any) s70 tabOk_nil)) Try.func72 rfl rfl rfl (by kernel_rfl) rfl (Nat.le_of_ble_eq_true rfl) (Nat.le_of_ble_eq_true rfl) ?_
      show eA _ _ _ _
      unfold ic72
      simp only [p_spec_l04Lengths, Bool.and_eq_true, Bool.or_eq_true, decide_eq_true_eq, Bool.not_eq_true', decide_eq_false_iff_not] at hp
      simp only [
          hp, grpS, grpD, grpF, grpL, eop, vop, bop, uop, fltop, convop, endOk, newE, new1, freshL, Md.isNew, outV, pureV, pureX, pure1, AV.cells, AV.one, storable, laid, refless,
                refless1, vload, loadC, storeC, vnil, vfaddr, vextract, flatT, flatE, flatC, vconv, vmm, vidxA, viaddrA, vfield, vlen, elemsOf, dF32, dF64, dI64, dU8, dBool, dStr,
                esOk, elemsS, vsliceX, bnd, ownV, ownC, own1, ownT, isSl, nSl, endL, Md.isOwn, purge, purgeH, purgeB, purgeE, hasName, name1, List.any_cons, List.any_nil, Md.isWr,
                pureV.pureP, Option.map, reduceIte, Nat.reduceEqDiff, Nat.reduceAdd, Nat.reduceMul, Nat.reduceLT, Nat.reduceLeDiff, List.mapM_cons, List.mapM_nil, Option.pure_def,
                Option.bind_eq_bind, Option.bind_some, implies_true, forall_const, beq_self_eq_true, decide_true, decide_false, eq_self, Int.reduceEq, Int.reduceLE, Int.reduceLT,
                if_true, if_false, fc72_0, fc72_1, fc72_2, fc72_3, fc72_4, fc72_5, fc72_6, fc72_7, Int.reduceAdd, Int.reduceSub, Int.reduceMul, Int.reduceNeg, Int.reducePow,
                Nat.reducePow, Int.reduceToNat, Nat.reduceSub, List.replicate, Nat.reduceBEq, wAs, wA, wC, zipW, noDupN, grpE, g_spec_l01Long, g_spec_l01Less, grpC, en0, dc_en0]
      repeat' (first
        | ((first | (refine eGI_of (fun h => ?_) (fun h => ?_)) | (refine eCc_of (fun h => ?_) (fun h => ?_)) | (have h := True.intro; refine KW_refl ?_)) <;> (try simp only [Bool.not_eq_true', Bool.not_eq_false'] at h) <;> (try simp only [h, reduceCtorEq, Bool.not_eq_true', decide_eq_false_iff_not, Bool.not_true, Bool.not_false, Bool.false_or, Bool.true_or, Bool.true_and, Bool.false_and, Bool.and_eq_true, Bool.or_eq_true, if_true, if_false, reduceIte, Bool.false_eq_true, and_true, true_and, false_or, or_false, decide_eq_true_eq, not_false_eq_true, not_true_eq_false] at hp) <;> (try (have h2 := h; simp only [decide_eq_true_eq, decide_eq_false_iff_not] at h2; (first | (replace h2 := eq_false h2) | (replace h2 := eq_true h2)); simp only [h2, if_true, if_false, false_or, true_or, or_true, or_false, and_true, true_and, not_false_eq_true, not_true_eq_false] at hp)) <;> simp only [h,
          hp, grpS, grpD, grpF, grpL, eop, vop, bop, uop, fltop, convop, endOk, newE, new1, freshL, Md.isNew, outV, pureV, pureX, pure1, AV.cells, AV.one, storable, laid, refless,
                refless1, vload, loadC, storeC, vnil, vfaddr, vextract, flatT, flatE, flatC, vconv, vmm, vidxA, viaddrA, vfield, vlen, elemsOf, dF32, dF64, dI64, dU8, dBool, dStr,
                esOk, elemsS, vsliceX, bnd, ownV, ownC, own1, ownT, isSl, nSl, endL, Md.isOwn, purge, purgeH, purgeB, purgeE, hasName, name1, List.any_cons, List.any_nil, Md.isWr,
                pureV.pureP, Option.map, reduceIte, Nat.reduceEqDiff, Nat.reduceAdd, Nat.reduceMul, Nat.reduceLT, Nat.reduceLeDiff, List.mapM_cons, List.mapM_nil, Option.pure_def,
                Option.bind_eq_bind, Option.bind_some, implies_true, forall_const, beq_self_eq_true, decide_true, decide_false, eq_self, Int.reduceEq, Int.reduceLE, Int.reduceLT,
                if_true, if_false, fc72_0, fc72_1, fc72_2, fc72_3, fc72_4, fc72_5, fc72_6, fc72_7, Int.reduceAdd, Int.reduceSub, Int.reduceMul, Int.reduceNeg, Int.reducePow,
                Nat.reducePow, Int.reduceToNat, Nat.reduceSub, List.replicate, Nat.reduceBEq, wAs, wA, wC, zipW, noDupN, grpE, g_spec_l01Long, g_spec_l01Less, grpC, en0, dc_en0])
        | (refine eA_wk (wk_norm (ks := [0, 3, 4]) (ls := [5]) ?_) (eA_cast ?_ (sl72_0 y0 _ _ _ _ _ (getD_some (d := default) (x := (l_spec_l04Lengths_0 y0 (Int.toNat (((List.length y0 : Nat) : Int) - 1) + 2) [] 1)) ?_) ?_)); (simp only [nilS, nilV, normOk, optIn, blkIn, nameIn, 
          hp, grpS, grpD, grpF, grpL, eop, vop, bop, uop, fltop, convop, endOk, newE, new1, freshL, Md.isNew, outV, pureV, pureX, pure1, AV.cells, AV.one, storable, laid, refless,
                refless1, vload, loadC, storeC, vnil, vfaddr, vextract, flatT, flatE, flatC, vconv, vmm, vidxA, viaddrA, vfield, vlen, elemsOf, dF32, dF64, dI64, dU8, dBool, dStr,
                esOk, elemsS, vsliceX, bnd, ownV, ownC, own1, ownT, isSl, nSl, endL, Md.isOwn, purge, purgeH, purgeB, purgeE, hasName, name1, List.any_cons, List.any_nil, Md.isWr,
                pureV.pureP, Option.map, reduceIte, Nat.reduceEqDiff, Nat.reduceAdd, Nat.reduceMul, Nat.reduceLT, Nat.reduceLeDiff, List.mapM_cons, List.mapM_nil, Option.pure_def,
                Option.bind_eq_bind, Option.bind_some, implies_true, forall_const, beq_self_eq_true, decide_true, decide_false, eq_self, Int.reduceEq, Int.reduceLE, Int.reduceLT,
                if_true, if_false, fc72_0, fc72_1, fc72_2, fc72_3, fc72_4, fc72_5, fc72_6, fc72_7, Int.reduceAdd, Int.reduceSub, Int.reduceMul, Int.reduceNeg, Int.reducePow,
                Nat.reducePow, Int.reduceToNat, Nat.reduceSub, List.replicate, Nat.reduceBEq, wAs, wA, wC, zipW, noDupN, grpE, g_spec_l01Long, g_spec_l01Less, grpC, en0, dc_en0] <;> rfl); (simp only [nilS, nilV, normS,  List.map_append, List.length_append, List.map_set, List.length_set, List.map_replicate, List.length_replicate, List.map_nil, List.map_cons,
          hp, grpS, grpD, grpF, grpL, eop, vop, bop, uop, fltop, convop, endOk, newE, new1, freshL, Md.isNew, outV, pureV, pureX, pure1, AV.cells, AV.one, storable, laid, refless,
                refless1, vload, loadC, storeC, vnil, vfaddr, vextract, flatT, flatE, flatC, vconv, vmm, vidxA, viaddrA, vfield, vlen, elemsOf, dF32, dF64, dI64, dU8, dBool, dStr,
                esOk, elemsS, vsliceX, bnd, ownV, ownC, own1, ownT, isSl, nSl, endL, Md.isOwn, purge, purgeH, purgeB, purgeE, hasName, name1, List.any_cons, List.any_nil, Md.isWr,
                pureV.pureP, Option.map, reduceIte, Nat.reduceEqDiff, Nat.reduceAdd, Nat.reduceMul, Nat.reduceLT, Nat.reduceLeDiff, List.mapM_cons, List.mapM_nil, Option.pure_def,
                Option.bind_eq_bind, Option.bind_some, implies_true, forall_const, beq_self_eq_true, decide_true, decide_false, eq_self, Int.reduceEq, Int.reduceLE, Int.reduceLT,
                if_true, if_false, fc72_0, fc72_1, fc72_2, fc72_3, fc72_4, fc72_5, fc72_6, fc72_7, Int.reduceAdd, Int.reduceSub, Int.reduceMul, Int.reduceNeg, Int.reducePow,
                Nat.reducePow, Int.reduceToNat, Nat.reduceSub, List.replicate, Nat.reduceBEq, wAs, wA, wC, zipW, noDupN, grpE, g_spec_l01Long, g_spec_l01Less, grpC, en0, dc_en0] <;> rfl); (simp only [hp]); (
        intro st2 hw; (try simp only [reduceCtorEq, Bool.not_eq_true', decide_eq_false_iff_not, Bool.not_true, Bool.not_false, Bool.false_or, Bool.true_or, Bool.true_and, Bool.false_and, Bool.and_eq_true, Bool.or_eq_true, if_true, if_false, reduceIte, Bool.false_eq_true, and_true, true_and, false_or, or_false, decide_eq_true_eq, not_false_eq_true, not_true_eq_false] at hp); simp only [
          hp, grpS, grpD, grpF, grpL, eop, vop, bop, uop, fltop, convop, endOk, newE, new1, freshL, Md.isNew, outV, pureV, pureX, pure1, AV.cells, AV.one, storable, laid, refless,
                refless1, vload, loadC, storeC, vnil, vfaddr, vextract, flatT, flatE, flatC, vconv, vmm, vidxA, viaddrA, vfield, vlen, elemsOf, dF32, dF64, dI64, dU8, dBool, dStr,
                esOk, elemsS, vsliceX, bnd, ownV, ownC, own1, ownT, isSl, nSl, endL, Md.isOwn, purge, purgeH, purgeB, purgeE, hasName, name1, List.any_cons, List.any_nil, Md.isWr,
                pureV.pureP, Option.map, reduceIte, Nat.reduceEqDiff, Nat.reduceAdd, Nat.reduceMul, Nat.reduceLT, Nat.reduceLeDiff, List.mapM_cons, List.mapM_nil, Option.pure_def,
                Option.bind_eq_bind, Option.bind_some, implies_true, forall_const, beq_self_eq_true, decide_true, decide_false, eq_self, Int.reduceEq, Int.reduceLE, Int.reduceLT,
                if_true, if_false, fc72_0, fc72_1, fc72_2, fc72_3, fc72_4, fc72_5, fc72_6, fc72_7, Int.reduceAdd, Int.reduceSub, Int.reduceMul, Int.reduceNeg, Int.reducePow,
                Nat.reducePow, Int.reduceToNat, Nat.reduceSub, List.replicate, Nat.reduceBEq, wAs, wA, wC, zipW, noDupN, grpE, g_spec_l01Long, g_spec_l01Less, grpC, en0, dc_en0]; refine KW_of hw ?_; simp only [
          hp, grpS, grpD, grpF, grpL, eop, vop, bop, uop, fltop, convop, endOk, newE, new1, freshL, Md.isNew, outV, pureV, pureX, pure1, AV.cells, AV.one, storable, laid, refless,
                refless1, vload, loadC, storeC, vnil, vfaddr, vextract, flatT, flatE, flatC, vconv, vmm, vidxA, viaddrA, vfield, vlen, elemsOf, dF32, dF64, dI64, dU8, dBool, dStr,
                esOk, elemsS, vsliceX, bnd, ownV, ownC, own1, ownT, isSl, nSl, endL, Md.isOwn, purge, purgeH, purgeB, purgeE, hasName, name1, List.any_cons, List.any_nil, Md.isWr,
                pureV.pureP, Option.map, reduceIte, Nat.reduceEqDiff, Nat.reduceAdd, Nat.reduceMul, Nat.reduceLT, Nat.reduceLeDiff, List.mapM_cons, List.mapM_nil, Option.pure_def,
                Option.bind_eq_bind, Option.bind_some, implies_true, forall_const, beq_self_eq_true, decide_true, decide_false, eq_self, Int.reduceEq, Int.reduceLE, Int.reduceLT,
                if_true, if_false, fc72_0, fc72_1, fc72_2, fc72_3, fc72_4, fc72_5, fc72_6, fc72_7, Int.reduceAdd, Int.reduceSub, Int.reduceMul, Int.reduceNeg, Int.reducePow,
                Nat.reducePow, Int.reduceToNat, Nat.reduceSub, List.replicate, Nat.reduceBEq, wAs, wA, wC, zipW, noDupN, grpE, g_spec_l01Long, g_spec_l01Less, grpC, en0, dc_en0])))
      all_goals (try simp only [*, m_spec_l04Lengths, Bool.and_true, Bool.true_and, Bool.and_false, Bool.false_and, Bool.or_true, Bool.true_or, Bool.or_false, Bool.false_or, Bool.not_true, Bool.not_false, Bool.false_eq_true, if_true, if_false, reduceIte, decide_true, decide_false])
      all_goals (try (simp_all; done))
    · cases h
  · cases h
def m_spec_l01Finite (x0 : Nat) : Bool := (feq .f32 (fsub .f32 x0 x0) 0)
def g_spec_l01Finite : List AV → Option AV
  | [.flt .f32 y0] => some (.bool (m_spec_l01Finite y0))
  | _ => none
def ic90 : ICode := (.seq (.reg [⟨(some 2), none, (.mov (.c (.bool false)))⟩] [0]) (.seq (.reg [⟨(some 3), none, (.mov (.t 0))⟩, ⟨(some 4), none, (.mov (.t 0))⟩, ⟨(some 5), none,
      (.bin .sub false (.t 3) (.t 4))⟩, ⟨(some 6), none, (.bin .eql false (.t 5) (.c (.flt .f32 0)))⟩, ⟨(some 2), none, (.mov (.t 6))⟩] [2]) .ret))
def cp90 : CP := CP.mk [] [] [[0], [2]] 7
theorem fc90_0 : IntKind.wrap .i64 0 = 0 := by decide
theorem fc90_1 : IntKind.wrap .i64 1 = 1 := by decide
theorem fc90_2 : IntKind.wrap .i64 2 = 2 := by decide
theorem fc90_3 : IntKind.wrap .i64 3 = 3 := by decide
theorem fc90_4 : IntKind.wrap .i64 4 = 4 := by decide
theorem fc90_5 : IntKind.wrap .i64 5 = 5 := by decide
theorem fc90_6 : IntKind.wrap .i64 6 = 6 := by decide
theorem fc90_7 : IntKind.wrap .i64 7 = 7 := by decide
theorem s90 : ∀ vs r, g_spec_l01Finite vs = some r → SaysM Try.prog .any 90 vs r := by
  intro vs r h
  unfold g_spec_l01Finite at h
  split at h
  · rename_i y0
    cases h
    refine spec_of (m := .any) (tab := tabOf []) (cp := cp90) (ic := ic90) (rvl := [(.t 2)]) hm tabOk_nil Try.func90 rfl rfl rfl (by kernel_rfl) rfl (Nat.le_of_ble_eq_true rfl) (Nat.le_of_ble_eq_true rfl) ?_
    show eA _ _ _ _
    unfold ic90
    simp only [
        grpS, grpD, grpF, grpL, eop, vop, bop, uop, fltop, convop, endOk, newE, new1, freshL, Md.isNew, outV, pureV, pureX, pure1, AV.cells, AV.one, storable, laid, refless,
              refless1, vload, loadC, storeC, vnil, vfaddr, vextract, flatT, flatE, flatC, vconv, vmm, vidxA, viaddrA, vfield, vlen, elemsOf, dF32, dF64, dI64, dU8, dBool, dStr,
              esOk, elemsS, vsliceX, bnd, ownV, ownC, own1, ownT, isSl, nSl, endL, Md.isOwn, purge, purgeH, purgeB, purgeE, hasName, name1, List.any_cons, List.any_nil, Md.isWr,
              pureV.pureP, Option.map, reduceIte, Nat.reduceEqDiff, Nat.reduceAdd, Nat.reduceMul, Nat.reduceLT, Nat.reduceLeDiff, List.mapM_cons, List.mapM_nil, Option.pure_def,
              Option.bind_eq_bind, Option.bind_some, implies_true, forall_const, beq_self_eq_true, decide_true, decide_false, eq_self, Int.reduceEq, Int.reduceLE, Int.reduceLT,
              if_true, if_false, fc90_0, fc90_1, fc90_2, fc90_3, fc90_4, fc90_5, fc90_6, fc90_7, Int.reduceAdd, Int.reduceSub, Int.reduceMul, Int.reduceNeg, Int.reducePow,
              Nat.reducePow, Int.reduceToNat, Nat.reduceSub, List.replicate, Nat.reduceBEq, wAs, wA, wC, zipW, noDupN, grpE, grpC, en0, dc_en0]
    repeat' (first
      | ((first | (refine eGI_of (fun h => ?_) (fun h => ?_)) | (refine eCc_of (fun h => ?_) (fun h => ?_))) <;> (try simp only [Bool.not_eq_true', Bool.not_eq_false'] at h) <;> simp only [h,
        grpS, grpD, grpF, grpL, eop, vop, bop, uop, fltop, convop, endOk, newE, new1, freshL, Md.isNew, outV, pureV, pureX, pure1, AV.cells, AV.one, storable, laid, refless,
              refless1, vload, loadC, storeC, vnil, vfaddr, vextract, flatT, flatE, flatC, vconv, vmm, vidxA, viaddrA, vfield, vlen, elemsOf, dF32, dF64, dI64, dU8, dBool, dStr,
              esOk, elemsS, vsliceX, bnd, ownV, ownC, own1, ownT, isSl, nSl, endL, Md.isOwn, purge, purgeH, purgeB, purgeE, hasName, name1, List.any_cons, List.any_nil, Md.isWr,
              pureV.pureP, Option.map, reduceIte, Nat.reduceEqDiff, Nat.reduceAdd, Nat.reduceMul, Nat.reduceLT, Nat.reduceLeDiff, List.mapM_cons, List.mapM_nil, Option.pure_def,
              Option.bind_eq_bind, Option.bind_some, implies_true, forall_const, beq_self_eq_true, decide_true, decide_false, eq_self, Int.reduceEq, Int.reduceLE, Int.reduceLT,
              if_true, if_false, fc90_0, fc90_1, fc90_2, fc90_3, fc90_4, fc90_5, fc90_6, fc90_7, Int.reduceAdd, Int.reduceSub, Int.reduceMul, Int.reduceNeg, Int.reducePow,
              Nat.reducePow, Int.reduceToNat, Nat.reduceSub, List.replicate, Nat.reduceBEq, wAs, wA, wC, zipW, noDupN, grpE, grpC, en0, dc_en0]))
    all_goals (try simp only [*, m_spec_l01Finite, Bool.and_true, Bool.true_and, Bool.and_false, Bool.false_and, Bool.or_true, Bool.true_or, Bool.or_false, Bool.false_or, Bool.not_true, Bool.not_false, Bool.false_eq_true, if_true, if_false, reduceIte, decide_true, decide_false])
    all_goals (try (simp_all; done))
  · cases h
def m_spec_l01Scale (x0 : (Nat × Nat × Nat)) (x1 : Nat) : (Nat × Nat × Nat) := ((fmul .f32 x0.1 x1), (fmul .f32 x0.2.1 x1), (fmul .f32 x0.2.2 x1))
def g_spec_l01Scale : List AV → Option AV
  | [.agg [.flt .f32 y0, .flt .f32 y1, .flt .f32 y2], .flt .f32 y3] => some (AV.agg [(.flt .f32 (m_spec_l01Scale (y0, y1, y2) y3).1), (.flt
      .f32 (m_spec_l01Scale (y0, y1, y2) y3).2.1), (.flt .f32 (m_spec_l01Scale (y0, y1, y2) y3).2.2)])
  | _ => none
def ic91 : ICode := (.seq (.reg [⟨(some 2), none, (.box 3 (.t 0))⟩, ⟨(some 4), none, (.alloc (.agg [(.flt .f32 0), (.flt .f32 0), (.flt .f32 0)]))⟩] [1, 2, 4]) (.seq (.reg [⟨(some
      5), none, (.faddr 0 (.t 2))⟩, ⟨(some 6), none, (.load none (.t 5))⟩, ⟨(some 7), none, (.mov (.t 1))⟩, ⟨(some 8), none, (.bin .mul false (.t 6) (.t 7))⟩, ⟨(some 9), none,
      (.faddr 1 (.t 2))⟩, ⟨(some 10), none, (.load none (.t 9))⟩, ⟨(some 11), none, (.mov (.t 1))⟩, ⟨(some 12), none, (.bin .mul false (.t 10) (.t 11))⟩, ⟨(some 13), none, (.faddr 2
      (.t 2))⟩, ⟨(some 14), none, (.load none (.t 13))⟩, ⟨(some 15), none, (.mov (.t 1))⟩, ⟨(some 16), none, (.bin .mul false (.t 14) (.t 15))⟩, ⟨(some 17), none, (.build [(.flt
      .f32 0), (.flt .f32 0), (.flt .f32 0)] [(0, 1, (.t 8)), (1, 1, (.t 12)), (2, 1, (.t 16))])⟩, ⟨none, none, (.store 3 (.t 4) (.t 17))⟩] [4]) .ret))
def cp91 : CP := CP.mk [] [] [[1, 2, 4], [4]] 18
theorem fc91_0 : IntKind.wrap .i64 0 = 0 := by decide
theorem fc91_1 : IntKind.wrap .i64 1 = 1 := by decide
theorem fc91_2 : IntKind.wrap .i64 2 = 2 := by decide
theorem fc91_3 : IntKind.wrap .i64 3 = 3 := by decide
theorem fc91_4 : IntKind.wrap .i64 4 = 4 := by decide
theorem fc91_5 : IntKind.wrap .i64 5 = 5 := by decide
theorem fc91_6 : IntKind.wrap .i64 6 = 6 := by decide
theorem fc91_7 : IntKind.wrap .i64 7 = 7 := by decide
theorem s91 : ∀ vs r, g_spec_l01Scale vs = some r → SaysM Try.prog .any 91 vs r := by
  intro vs r h
  unfold g_spec_l01Scale at h
  split at h
  · rename_i y0 y1 y2 y3
    cases h
    refine spec_of (m := .any) (tab := tabOf []) (cp := cp91) (ic := ic91) (rvl := [(.c 4 (some 3))]) hm tabOk_nil Try.func91 rfl rfl rfl (by kernel_rfl) rfl (Nat.le_of_ble_eq_true rfl) (Nat.le_of_ble_eq_true rfl) ?_
    show eA _ _ _ _
    unfold ic91
    simp only [
        grpS, grpD, grpF, grpL, eop, vop, bop, uop, fltop, convop, endOk, newE, new1, freshL, Md.isNew, outV, pureV, pureX, pure1, AV.cells, AV.one, storable, laid, refless,
              refless1, vload, loadC, storeC, vnil, vfaddr, vextract, flatT, flatE, flatC, vconv, vmm, vidxA, viaddrA, vfield, vlen, elemsOf, dF32, dF64, dI64, dU8, dBool, dStr,
              esOk, elemsS, vsliceX, bnd, ownV, ownC, own1, ownT, isSl, nSl, endL, Md.isOwn, purge, purgeH, purgeB, purgeE, hasName, name1, List.any_cons, List.any_nil, Md.isWr,
              pureV.pureP, Option.map, reduceIte, Nat.reduceEqDiff, Nat.reduceAdd, Nat.reduceMul, Nat.reduceLT, Nat.reduceLeDiff, List.mapM_cons, List.mapM_nil, Option.pure_def,
              Option.bind_eq_bind, Option.bind_some, implies_true, forall_const, beq_self_eq_true, decide_true, decide_false, eq_self, Int.reduceEq, Int.reduceLE, Int.reduceLT,
              if_true, if_false, fc91_0, fc91_1, fc91_2, fc91_3, fc91_4, fc91_5, fc91_6, fc91_7, Int.reduceAdd, Int.reduceSub, Int.reduceMul, Int.reduceNeg, Int.reducePow,
              Nat.reducePow, Int.reduceToNat, Nat.reduceSub, List.replicate, Nat.reduceBEq, wAs, wA, wC, zipW, noDupN, grpE, grpC, en0, dc_en0]
    repeat' (first
      | ((first | (refine eGI_of (fun h => ?_) (fun h => ?_)) | (refine eCc_of (fun h => ?_) (fun h => ?_))) <;> (try simp only [Bool.not_eq_true', Bool.not_eq_false'] at h) <;> simp only [h,
        grpS, grpD, grpF, grpL, eop, vop, bop, uop, fltop, convop, endOk, newE, new1, freshL, Md.isNew, outV, pureV, pureX, pure1, AV.cells, AV.one, storable, laid, refless,
              refless1, vload, loadC, storeC, vnil, vfaddr, vextract, flatT, flatE, flatC, vconv, vmm, vidxA, viaddrA, vfield, vlen, elemsOf, dF32, dF64, dI64, dU8, dBool, dStr,
              esOk, elemsS, vsliceX, bnd, ownV, ownC, own1, ownT, isSl, nSl, endL, Md.isOwn, purge, purgeH, purgeB, purgeE, hasName, name1, List.any_cons, List.any_nil, Md.isWr,
              pureV.pureP, Option.map, reduceIte, Nat.reduceEqDiff, Nat.reduceAdd, Nat.reduceMul, Nat.reduceLT, Nat.reduceLeDiff, List.mapM_cons, List.mapM_nil, Option.pure_def,
              Option.bind_eq_bind, Option.bind_some, implies_true, forall_const, beq_self_eq_true, decide_true, decide_false, eq_self, Int.reduceEq, Int.reduceLE, Int.reduceLT,
              if_true, if_false, fc91_0, fc91_1, fc91_2, fc91_3, fc91_4, fc91_5, fc91_6, fc91_7, Int.reduceAdd, Int.reduceSub, Int.reduceMul, Int.reduceNeg, Int.reducePow,
              Nat.reducePow, Int.reduceToNat, Nat.reduceSub, List.replicate, Nat.reduceBEq, wAs, wA, wC, zipW, noDupN, grpE, grpC, en0, dc_en0]))
    all_goals (try simp only [*, m_spec_l01Scale, Bool.and_true, Bool.true_and, Bool.and_false, Bool.false_and, Bool.or_true, Bool.true_or, Bool.or_false, Bool.false_or, Bool.not_true, Bool.not_false, Bool.false_eq_true, if_true, if_false, reduceIte, decide_true, decide_false])
    all_goals (try (simp_all; done))
  · cases h
def m_spec_l01Add (x0 : (Nat × Nat × Nat)) (x1 : (Nat × Nat × Nat)) : (Nat × Nat × Nat) := ((fadd .f32 x0.1 x1.1), (fadd .f32 x0.2.1 x1.2.1), (fadd .f32 x0.2.2 x1.2.2))
def g_spec_l01Add : List AV → Option AV
  | [.agg [.flt .f32 y0, .flt .f32 y1, .flt .f32 y2], .agg [.flt .f32 y3, .flt .f32 y4, .flt .f32 y5]] => some (AV.agg [(.flt .f32
      (m_spec_l01Add (y0, y1, y2) (y3, y4, y5)).1), (.flt .f32 (m_spec_l01Add (y0, y1, y2) (y3, y4, y5)).2.1), (.flt .f32 (m_spec_l01Add (y0, y1, y2) (y3, y4, y5)).2.2)])
  | _ => none
def ic77 : ICode := (.seq (.reg [⟨(some 2), none, (.box 3 (.t 0))⟩, ⟨(some 3), none, (.box 3 (.t 1))⟩, ⟨(some 4), none, (.alloc (.agg [(.flt .f32 0), (.flt .f32 0), (.flt .f32
      0)]))⟩] [2, 3, 4]) (.seq (.reg [⟨(some 5), none, (.faddr 0 (.t 2))⟩, ⟨(some 6), none, (.load none (.t 5))⟩, ⟨(some 7), none, (.faddr 0 (.t 3))⟩, ⟨(some 8), none, (.load none
      (.t 7))⟩, ⟨(some 9), none, (.bin .add false (.t 6) (.t 8))⟩, ⟨(some 10), none, (.faddr 1 (.t 2))⟩, ⟨(some 11), none, (.load none (.t 10))⟩, ⟨(some 12), none, (.faddr 1 (.t
      3))⟩, ⟨(some 13), none, (.load none (.t 12))⟩, ⟨(some 14), none, (.bin .add false (.t 11) (.t 13))⟩, ⟨(some 15), none, (.faddr 2 (.t 2))⟩, ⟨(some 16), none, (.load none (.t
      15))⟩, ⟨(some 17), none, (.faddr 2 (.t 3))⟩, ⟨(some 18), none, (.load none (.t 17))⟩, ⟨(some 19), none, (.bin .add false (.t 16) (.t 18))⟩, ⟨(some 20), none, (.build [(.flt
      .f32 0), (.flt .f32 0), (.flt .f32 0)] [(0, 1, (.t 9)), (1, 1, (.t 14)), (2, 1, (.t 19))])⟩, ⟨none, none, (.store 3 (.t 4) (.t 20))⟩] [4]) .ret))
def cp77 : CP := CP.mk [] [] [[2, 3, 4], [4]] 21
theorem fc77_0 : IntKind.wrap .i64 0 = 0 := by decide
theorem fc77_1 : IntKind.wrap .i64 1 = 1 := by decide
theorem fc77_2 : IntKind.wrap .i64 2 = 2 := by decide
theorem fc77_3 : IntKind.wrap .i64 3 = 3 := by decide
theorem fc77_4 : IntKind.wrap .i64 4 = 4 := by decide
theorem fc77_5 : IntKind.wrap .i64 5 = 5 := by decide
theorem fc77_6 : IntKind.wrap .i64 6 = 6 := by decide
theorem fc77_7 : IntKind.wrap .i64 7 = 7 := by decide
theorem s77 : ∀ vs r, g_spec_l01Add vs = some r → SaysM Try.prog .any 77 vs r := by
  intro vs r h
  unfold g_spec_l01Add at h
  split at h
  · rename_i y0 y1 y2 y3 y4 y5
    cases h
    refine spec_of (m := .any) (tab := tabOf []) (cp := cp77) (ic := ic77) (rvl := [(.c 4 (some 3))]) hm tabOk_nil Try.func77 rfl rfl rfl (by kernel_rfl) rfl (Nat.le_of_ble_eq_true rfl) (Nat.le_of_ble_eq_true rfl) ?_
    show eA _ _ _ _
    unfold ic77
    simp only [
        grpS, grpD, grpF, grpL, eop, vop, bop, uop, fltop, convop, endOk, newE, new1, freshL, Md.isNew, outV, pureV, pureX, pure1, AV.cells, AV.one, storable, laid, refless,
              refless1, vload, loadC, storeC, vnil, vfaddr, vextract, flatT, flatE, flatC, vconv, vmm, vidxA, viaddrA, vfield, vlen, elemsOf, dF32, dF64, dI64, dU8, dBool, dStr,
              esOk, elemsS, vsliceX, bnd, ownV, ownC, own1, ownT, isSl, nSl, endL, Md.isOwn, purge, purgeH, purgeB, purgeE, hasName, name1, List.any_cons, List.any_nil, Md.isWr,
              pureV.pureP, Option.map, reduceIte, Nat.reduceEqDiff, Nat.reduceAdd, Nat.reduceMul, Nat.reduceLT, Nat.reduceLeDiff, List.mapM_cons, List.mapM_nil, Option.pure_def,
              Option.bind_eq_bind, Option.bind_some, implies_true, forall_const, beq_self_eq_true, decide_true, decide_false, eq_self, Int.reduceEq, Int.reduceLE, Int.reduceLT,
              if_true, if_false, fc77_0, fc77_1, fc77_2, fc77_3, fc77_4, fc77_5, fc77_6, fc77_7, Int.reduceAdd, Int.reduceSub, Int.reduceMul, Int.reduceNeg, Int.reducePow,
              Nat.reducePow, Int.reduceToNat, Nat.reduceSub, List.replicate, Nat.reduceBEq, wAs, wA, wC, zipW, noDupN, grpE, grpC, en0, dc_en0]
    repeat' (first
      | ((first | (refine eGI_of (fun h => ?_) (fun h => ?_)) | (refine eCc_of (fun h => ?_) (fun h => ?_))) <;> (try simp only [Bool.not_eq_true', Bool.not_eq_false'] at h) <;> simp only [h,
        grpS, grpD, grpF, grpL, eop, vop, bop, uop, fltop, convop, endOk, newE, new1, freshL, Md.isNew, outV, pureV, pureX, pure1, AV.cells, AV.one, storable, laid, refless,
              refless1, vload, loadC, storeC, vnil, vfaddr, vextract, flatT, flatE, flatC, vconv, vmm, vidxA, viaddrA, vfield, vlen, elemsOf, dF32, dF64, dI64, dU8, dBool, dStr,
              esOk, elemsS, vsliceX, bnd, ownV, ownC, own1, ownT, isSl, nSl, endL, Md.isOwn, purge, purgeH, purgeB, purgeE, hasName, name1, List.any_cons, List.any_nil, Md.isWr,
              pureV.pureP, Option.map, reduceIte, Nat.reduceEqDiff, Nat.reduceAdd, Nat.reduceMul, Nat.reduceLT, Nat.reduceLeDiff, List.mapM_cons, List.mapM_nil, Option.pure_def,
              Option.bind_eq_bind, Option.bind_some, implies_true, forall_const, beq_self_eq_true, decide_true, decide_false, eq_self, Int.reduceEq, Int.reduceLE, Int.reduceLT,
              if_true, if_false, fc77_0, fc77_1, fc77_2, fc77_3, fc77_4, fc77_5, fc77_6, fc77_7, Int.reduceAdd, Int.reduceSub, Int.reduceMul, Int.reduceNeg, Int.reducePow,
              Nat.reducePow, Int.reduceToNat, Nat.reduceSub, List.replicate, Nat.reduceBEq, wAs, wA, wC, zipW, noDupN, grpE, grpC, en0, dc_en0]))
    all_goals (try simp only [*, m_spec_l01Add, Bool.and_true, Bool.true_and, Bool.and_false, Bool.false_and, Bool.or_true, Bool.true_or, Bool.or_false, Bool.false_or, Bool.not_true, Bool.not_false, Bool.false_eq_true, if_true, if_false, reduceIte, decide_true, decide_false])
    all_goals (try (simp_all; done))
  · cases h
def m_spec_l04Place (x0 : (Nat × Nat × Nat)) (x1 : (Nat × Nat × Nat)) (x2 : Nat) : (Nat × Nat × Nat) := (if (feq .f32 (m_spec_l01Long (m_spec_l01Less x1 x0)) 0) = true then ((fadd
      .f32 x0.1 x2), x0.2.1, x0.2.2) else (if (m_spec_l01Finite (m_spec_l01Long (m_spec_l01Less x1 x0))) = true then (m_spec_l01Add x0 (m_spec_l01Scale (m_spec_l01Less x1 x0) (fdiv
      .f32 x2 (m_spec_l01Long (m_spec_l01Less x1 x0))))) else ((fadd .f32 x0.1 x2), x0.2.1, x0.2.2)))
def p_spec_l04Place (x0 : (Nat × Nat × Nat)) (x1 : (Nat × Nat × Nat)) (x2 : Nat) : Bool := (p_spec_l01Long (m_spec_l01Less x1 x0))
def g_spec_l04Place : List AV → Option AV
  | [.agg [.flt .f32 y0, .flt .f32 y1, .flt .f32 y2], .agg [.flt .f32 y3, .flt .f32 y4, .flt .f32 y5], .flt .f32 y6] => if p_spec_l04Place
      (y0, y1, y2) (y3, y4, y5) y6 = true then some (AV.agg [(.flt .f32 (m_spec_l04Place (y0, y1, y2) (y3, y4, y5) y6).1), (.flt .f32 (m_spec_l04Place (y0, y1, y2) (y3, y4, y5)
      y6).2.1), (.flt .f32 (m_spec_l04Place (y0, y1, y2) (y3, y4, y5) y6).2.2)]) else none
  | _ => none
def ic63 : ICode := (.seq (.reg [⟨(some 3), none, (.box 3 (.t 0))⟩, ⟨(some 4), none, (.box 3 (.t 1))⟩, ⟨(some 6), none, (.alloc (.agg [(.flt .f32 0), (.flt .f32 0), (.flt .f32
      0)]))⟩] [2, 3, 4, 6]) (.seq (.reg [⟨(some 9), none, (.load (some 3) (.t 4))⟩, ⟨(some 10), none, (.load (some 3) (.t 3))⟩, ⟨(some 11), none, (.call (.fn 70) [(.t 9), (.t 10)]
      [])⟩, ⟨(some 7), none, (.alloc (.agg [(.flt .f32 0), (.flt .f32 0), (.flt .f32 0)]))⟩, ⟨none, none, (.store 3 (.t 7) (.t 11))⟩] [2, 3, 6, 7]) (.seq (.reg [⟨(some 12), none,
      (.load (some 3) (.t 7))⟩, ⟨(some 13), none, (.call (.fn 69) [(.t 12)] [])⟩, ⟨(some 8), none, (.mov (.t 13))⟩] [2, 3, 6, 7, 8]) (.seq (.seq (.reg [⟨(some 14), none, (.mov (.t
      8))⟩, ⟨(some 15), none, (.bin .eql false (.t 14) (.c (.flt .f32 0)))⟩, ⟨(some 16), none, (.mov (.t 15))⟩, ⟨(some 17), (some (16, false)), (.mov (.t 8))⟩, ⟨(some 18), (some
      (16, false)), (.call (.fn 90) [(.t 17)] [])⟩, ⟨(some 19), (some (16, false)), (.un .not (.t 18))⟩, ⟨(some 20), none, (.pick (.t 16) (.c (.bool true)) (.t 19))⟩] [2, 3, 6, 7,
      8, 20]) (.cond (.t 20) (.seq (.reg [⟨(some 21), none, (.faddr 0 (.t 3))⟩, ⟨(some 22), none, (.load none (.t 21))⟩, ⟨(some 23), none, (.mov (.t 2))⟩, ⟨(some 24), none, (.bin
      .add false (.t 22) (.t 23))⟩, ⟨(some 25), none, (.faddr 1 (.t 3))⟩, ⟨(some 26), none, (.load none (.t 25))⟩, ⟨(some 27), none, (.faddr 2 (.t 3))⟩, ⟨(some 28), none, (.load
      none (.t 27))⟩, ⟨(some 29), none, (.build [(.flt .f32 0), (.flt .f32 0), (.flt .f32 0)] [(0, 1, (.t 24)), (1, 1, (.t 26)), (2, 1, (.t 28))])⟩, ⟨none, none, (.store 3 (.t 6)
      (.t 29))⟩] [6]) .ret) .skip)) (.seq (.reg [⟨(some 30), none, (.load (some 3) (.t 3))⟩, ⟨(some 31), none, (.load (some 3) (.t 7))⟩, ⟨(some 32), none, (.mov (.t 2))⟩, ⟨(some
      33), none, (.mov (.t 8))⟩, ⟨(some 34), none, (.bin .quo false (.t 32) (.t 33))⟩, ⟨(some 35), none, (.call (.fn 91) [(.t 31), (.t 34)] [])⟩, ⟨(some 36), none, (.call (.fn 77)
      [(.t 30), (.t 35)] [])⟩, ⟨none, none, (.store 3 (.t 6) (.t 36))⟩] [6]) .ret)))))
def cp63 : CP := CP.mk [] [] [[2, 3, 4, 6], [2, 3, 6, 7], [2, 3, 6, 7, 8], [2, 3, 6, 7, 8, 20], [6], [6]] 37
theorem fc63_0 : IntKind.wrap .i64 0 = 0 := by decide
theorem fc63_1 : IntKind.wrap .i64 1 = 1 := by decide
theorem fc63_2 : IntKind.wrap .i64 2 = 2 := by decide
theorem fc63_3 : IntKind.wrap .i64 3 = 3 := by decide
theorem fc63_4 : IntKind.wrap .i64 4 = 4 := by decide
theorem fc63_5 : IntKind.wrap .i64 5 = 5 := by decide
theorem fc63_6 : IntKind.wrap .i64 6 = 6 := by decide
theorem fc63_7 : IntKind.wrap .i64 7 = 7 := by decide
theorem s63 : ∀ vs r, g_spec_l04Place vs = some r → SaysM Try.prog .any 63 vs r := by
  intro vs r h
  unfold g_spec_l04Place at h
  split at h
  · rename_i y0 y1 y2 y3 y4 y5 y6
    split at h
    · rename_i hp
      cases h
      refine spec_of (m := .any) (tab := tabOf [(69, wM .any g_spec_l01Long), (70, wM .any g_spec_l01Less), (77, wM .any g_spec_l01Add), (90, wM .any g_spec_l01Finite), (91, wM .any g_spec_l01Scale)]) (cp := cp63) (ic := ic63) (rvl := [(.c 6 (some 3))]) hm (tabOk_cons (m := .any) s69 (tabOk_cons (m := .any) s70 (tabOk_cons (m := .any) s77 (tabOk_cons (m := .any) s90 (tabOk_cons (m := .any) s91 tabOk_nil))))) Try.func63 rfl rfl rfl (by kernel_rfl) rfl (Nat.le_of_ble_eq_true rfl) (Nat.le_of_ble_eq_true rfl) ?_
      show eA _ _ _ _
      unfold ic63
      simp only [p_spec_l04Place, Bool.and_eq_true, Bool.or_eq_true, decide_eq_true_eq, Bool.not_eq_true', decide_eq_false_iff_not] at hp
      simp only [
          hp, grpS, grpD, grpF, grpL, eop, vop, bop, uop, fltop, convop, endOk, newE, new1, freshL, Md.isNew, outV, pureV, pureX, pure1, AV.cells, AV.one, storable, laid, refless,
                refless1, vload, loadC, storeC, vnil, vfaddr, vextract, flatT, flatE, flatC, vconv, vmm, vidxA, viaddrA, vfield, vlen, elemsOf, dF32, dF64, dI64, dU8, dBool, dStr,
                esOk, elemsS, vsliceX, bnd, ownV, ownC, own1, ownT, isSl, nSl, endL, Md.isOwn, purge, purgeH, purgeB, purgeE, hasName, name1, List.any_cons, List.any_nil, Md.isWr,
                pureV.pureP, Option.map, reduceIte, Nat.reduceEqDiff, Nat.reduceAdd, Nat.reduceMul, Nat.reduceLT, Nat.reduceLeDiff, List.mapM_cons, List.mapM_nil, Option.pure_def,
                Option.bind_eq_bind, Option.bind_some, implies_true, forall_const, beq_self_eq_true, decide_true, decide_false, eq_self, Int.reduceEq, Int.reduceLE, Int.reduceLT,
                if_true, if_false, fc63_0, fc63_1, fc63_2, fc63_3, fc63_4, fc63_5, fc63_6, fc63_7, Int.reduceAdd, Int.reduceSub, Int.reduceMul, Int.reduceNeg, Int.reducePow,
                Nat.reducePow, Int.reduceToNat, Nat.reduceSub, List.replicate, Nat.reduceBEq, wAs, wA, wC, zipW, noDupN, grpE, g_spec_l01Long, g_spec_l01Less, g_spec_l01Add,
                g_spec_l01Finite, g_spec_l01Scale, grpC, en0, dc_en0, ↓b_pick, ePk_true, ePk_false]
      repeat' (first
        | ((first | (refine eGI_of (fun h => ?_) (fun h => ?_)) | (refine eCc_of (fun h => ?_) (fun h => ?_)) | (refine ePk_of (fun h => ?_) (fun h => ?_))) <;> (try simp only [Bool.not_eq_true', Bool.not_eq_false'] at h) <;> (try simp only [h, reduceCtorEq, Bool.not_eq_true', decide_eq_false_iff_not, Bool.not_true, Bool.not_false, Bool.false_or, Bool.true_or, Bool.true_and, Bool.false_and, Bool.and_eq_true, Bool.or_eq_true, if_true, if_false, reduceIte, Bool.false_eq_true, and_true, true_and, false_or, or_false, decide_eq_true_eq, not_false_eq_true, not_true_eq_false] at hp) <;> (try (have h2 := h; simp only [decide_eq_true_eq, decide_eq_false_iff_not] at h2; (first | (replace h2 := eq_false h2) | (replace h2 := eq_true h2)); simp only [h2, if_true, if_false, false_or, true_or, or_true, or_false, and_true, true_and, not_false_eq_true, not_true_eq_false] at hp)) <;> simp only [h,
          hp, grpS, grpD, grpF, grpL, eop, vop, bop, uop, fltop, convop, endOk, newE, new1, freshL, Md.isNew, outV, pureV, pureX, pure1, AV.cells, AV.one, storable, laid, refless,
                refless1, vload, loadC, storeC, vnil, vfaddr, vextract, flatT, flatE, flatC, vconv, vmm, vidxA, viaddrA, vfield, vlen, elemsOf, dF32, dF64, dI64, dU8, dBool, dStr,
                esOk, elemsS, vsliceX, bnd, ownV, ownC, own1, ownT, isSl, nSl, endL, Md.isOwn, purge, purgeH, purgeB, purgeE, hasName, name1, List.any_cons, List.any_nil, Md.isWr,
                pureV.pureP, Option.map, reduceIte, Nat.reduceEqDiff, Nat.reduceAdd, Nat.reduceMul, Nat.reduceLT, Nat.reduceLeDiff, List.mapM_cons, List.mapM_nil, Option.pure_def,
                Option.bind_eq_bind, Option.bind_some, implies_true, forall_const, beq_self_eq_true, decide_true, decide_false, eq_self, Int.reduceEq, Int.reduceLE, Int.reduceLT,
                if_true, if_false, fc63_0, fc63_1, fc63_2, fc63_3, fc63_4, fc63_5, fc63_6, fc63_7, Int.reduceAdd, Int.reduceSub, Int.reduceMul, Int.reduceNeg, Int.reducePow,
                Nat.reducePow, Int.reduceToNat, Nat.reduceSub, List.replicate, Nat.reduceBEq, wAs, wA, wC, zipW, noDupN, grpE, g_spec_l01Long, g_spec_l01Less, g_spec_l01Add,
                g_spec_l01Finite, g_spec_l01Scale, grpC, en0, dc_en0, ↓b_pick, ePk_true, ePk_false]))
      all_goals (try simp only [*, m_spec_l04Place, Bool.and_true, Bool.true_and, Bool.and_false, Bool.false_and, Bool.or_true, Bool.true_or, Bool.or_false, Bool.false_or, Bool.not_true, Bool.not_false, Bool.false_eq_true, if_true, if_false, reduceIte, decide_true, decide_false])
      all_goals (try (simp_all; done))
    · cases h
  · cases h
def l_spec_ReachFor_0 (x0 : (List (Nat × Nat × Nat))) (x2 : Int) (z2_0 : (Nat × Nat × Nat)) (z2_2 : Int) : Nat → (List (Nat × Nat × Nat)) → Int → Option ((Nat × Nat × Nat) × (List
      (Nat × Nat × Nat)))
  | 0, _, _ => none
  | n + 1, z0_0, z0_1 => (if (decide (0 ≤ z0_1)) = true then (need (inB (IntKind.wrap .i64 (z0_1 + 1)) (List.length z0_0)) (need (inB z0_1 (List.length z0_0)) (need (inB z0_1
        (List.length (m_spec_l04Lengths x0))) (need (p_spec_l04Place (atI z0_0 (IntKind.wrap .i64 (z0_1 + 1))) (atI z0_0 z0_1) (atI (m_spec_l04Lengths x0) z0_1)) (l_spec_ReachFor_0
        x0 x2 z2_0 z2_2 n (List.set z0_0 (Int.toNat z0_1) (m_spec_l04Place (atI z0_0 (IntKind.wrap .i64 (z0_1 + 1))) (atI z0_0 z0_1) (atI (m_spec_l04Lengths x0) z0_1)))
        (IntKind.wrap .i64 (z0_1 - 1))))))) else (some (z2_0, z0_0)))
def l_spec_ReachFor_1 (x0 : (List (Nat × Nat × Nat))) (x2 : Int) (z2_0 : (Nat × Nat × Nat)) (z2_1 : (List (Nat × Nat × Nat))) (z2_2 : Int) : Nat → (List (Nat × Nat × Nat)) → Int →
      Option ((Nat × Nat × Nat) × (List (Nat × Nat × Nat)))
  | 0, _, _ => none
  | n + 1, z1_0, z1_1 => (if (decide (z1_1 < (((List.length x0) : Nat) : Int))) = true then (need (inB (IntKind.wrap .i64 (z1_1 - 1)) (List.length z1_0)) (need (inB z1_1
        (List.length z1_0)) (need (inB (IntKind.wrap .i64 (z1_1 - 1)) (List.length (m_spec_l04Lengths x0))) (need (p_spec_l04Place (atI z1_0 (IntKind.wrap .i64 (z1_1 - 1))) (atI
        z1_0 z1_1) (atI (m_spec_l04Lengths x0) (IntKind.wrap .i64 (z1_1 - 1)))) (l_spec_ReachFor_1 x0 x2 z2_0 z2_1 z2_2 n (List.set z1_0 (Int.toNat z1_1) (m_spec_l04Place (atI z1_0
        (IntKind.wrap .i64 (z1_1 - 1))) (atI z1_0 z1_1) (atI (m_spec_l04Lengths x0) (IntKind.wrap .i64 (z1_1 - 1))))) (IntKind.wrap .i64 (z1_1 + 1))))))) else (some ((Option.getD
        (l_spec_ReachFor_0 x0 x2 z2_0 z2_2 (Int.toNat (IntKind.wrap .i64 ((((List.length x0) : Nat) : Int) - 2)) + 2) (List.set z2_1 (Int.toNat (IntKind.wrap .i64 ((((List.length
        x0) : Nat) : Int) - 1))) z2_0) (IntKind.wrap .i64 ((((List.length x0) : Nat) : Int) - 2))) default).1, z1_0)))
def l_spec_ReachFor_2 (x0 : (List (Nat × Nat × Nat))) (x2 : Int) : Nat → (Nat × Nat × Nat) → (List (Nat × Nat × Nat)) → Int → Option (List (Nat × Nat × Nat))
  | 0, _, _, _ => none
  | n + 1, z2_0, z2_1, z2_2 => (if (decide (z2_2 < x2)) = true then (need (inB (IntKind.wrap .i64 ((((List.length x0) : Nat) : Int) - 1)) (List.length z2_1)) (need (Option.isSome
        (l_spec_ReachFor_0 x0 x2 z2_0 z2_2 (Int.toNat (IntKind.wrap .i64 ((((List.length x0) : Nat) : Int) - 2)) + 2) (List.set z2_1 (Int.toNat (IntKind.wrap .i64 ((((List.length
        x0) : Nat) : Int) - 1))) z2_0) (IntKind.wrap .i64 ((((List.length x0) : Nat) : Int) - 2)))) (need (inB 0 (List.length x0)) (need (inB 0 (List.length (Option.getD
        (l_spec_ReachFor_0 x0 x2 z2_0 z2_2 (Int.toNat (IntKind.wrap .i64 ((((List.length x0) : Nat) : Int) - 2)) + 2) (List.set z2_1 (Int.toNat (IntKind.wrap .i64 ((((List.length
        x0) : Nat) : Int) - 1))) z2_0) (IntKind.wrap .i64 ((((List.length x0) : Nat) : Int) - 2))) default).2)) (need (Option.isSome (l_spec_ReachFor_1 x0 x2 z2_0 z2_1 z2_2
        (Int.toNat ((((List.length x0) : Nat) : Int) - 1) + 2) (List.set (Option.getD (l_spec_ReachFor_0 x0 x2 z2_0 z2_2 (Int.toNat (IntKind.wrap .i64 ((((List.length x0) : Nat) :
        Int) - 2)) + 2) (List.set z2_1 (Int.toNat (IntKind.wrap .i64 ((((List.length x0) : Nat) : Int) - 1))) z2_0) (IntKind.wrap .i64 ((((List.length x0) : Nat) : Int) - 2)))
        default).2 (Int.toNat 0) (atI x0 0)) 1)) (l_spec_ReachFor_2 x0 x2 n (Option.getD (l_spec_ReachFor_1 x0 x2 z2_0 z2_1 z2_2 (Int.toNat ((((List.length x0) : Nat) : Int) - 1) +
        2) (List.set (Option.getD (l_spec_ReachFor_0 x0 x2 z2_0 z2_2 (Int.toNat (IntKind.wrap .i64 ((((List.length x0) : Nat) : Int) - 2)) + 2) (List.set z2_1 (Int.toNat
        (IntKind.wrap .i64 ((((List.length x0) : Nat) : Int) - 1))) z2_0) (IntKind.wrap .i64 ((((List.length x0) : Nat) : Int) - 2))) default).2 (Int.toNat 0) (atI x0 0)) 1)
        default).1 (Option.getD (l_spec_ReachFor_1 x0 x2 z2_0 z2_1 z2_2 (Int.toNat ((((List.length x0) : Nat) : Int) - 1) + 2) (List.set (Option.getD (l_spec_ReachFor_0 x0 x2 z2_0
        z2_2 (Int.toNat (IntKind.wrap .i64 ((((List.length x0) : Nat) : Int) - 2)) + 2) (List.set z2_1 (Int.toNat (IntKind.wrap .i64 ((((List.length x0) : Nat) : Int) - 1))) z2_0)
        (IntKind.wrap .i64 ((((List.length x0) : Nat) : Int) - 2))) default).2 (Int.toNat 0) (atI x0 0)) 1) default).2 (IntKind.wrap .i64 (z2_2 + 1)))))))) else (some z2_1))
def m_spec_ReachFor (x0 : (List (Nat × Nat × Nat))) (x1 : (Nat × Nat × Nat)) (x2 : Int) : ((List (Nat × Nat × Nat)) × Bool) := (if (m_spec_l04Points x0) = true then (if
      (m_spec_l00In x2 0 40) = true then ((Option.getD (l_spec_ReachFor_2 x0 x2 (Int.toNat (x2 - 0) + 2) x1 x0 0) default), true) else ([], false)) else ([], false))
def p_spec_ReachFor (x0 : (List (Nat × Nat × Nat))) (x1 : (Nat × Nat × Nat)) (x2 : Int) : Bool := (!(m_spec_l04Points x0) || (!(m_spec_l00In x2 0 40) || ((p_spec_l04Lengths x0) &&
      ((decide (((List.length x0)) * 12 ≤ 17592186044416)) && ((decide ((List.length x0) ≤ 17592186044416)) && (Option.isSome (l_spec_ReachFor_2 x0 x2 (Int.toNat (x2 - 0) + 2) x1 x0
      0)))))))
def g_spec_ReachFor : List AV → Option AV
  | [.sl w0, .agg [.flt .f32 y1, .flt .f32 y2, .flt .f32 y3], .int .i64 y4] => (match decL dc_en0 w0 with | some y0 => (if p_spec_ReachFor y0 (y1, y2, y3) y4 = true then some (AV.tup [(.sl (List.map en0 (m_spec_ReachFor y0 (y1, y2, y3) y4).1)), (.bool (m_spec_ReachFor y0 (y1, y2, y3) y4).2)]) else none) | none => none)
  | _ => none
def lb47_0 : ICode := (.seq (.seq (.reg [⟨(some 41), none, (.mov (.t 12))⟩, ⟨(some 42), none, (.bin .geq false (.t 41) (.c (.int .i64 0)))⟩] [0, 2, 4, 8, 9, 10, 11, 12, 42]) (.cond
      (.t 42) .skip (.exit 2))) (.seq (.block 3 (.reg [⟨(some 45), none, (.mov (.t 9))⟩, ⟨(some 46), none, (.mov (.t 12))⟩, ⟨(some 47), none, (.mov (.t 9))⟩, ⟨(some 48), none, (.mov
      (.t 12))⟩, ⟨(some 49), none, (.bin .add false (.t 48) (.c (.int .i64 1)))⟩, ⟨(some 50), none, (.iaddrS 3 (.t 47) (.t 49))⟩, ⟨(some 51), none, (.load (some 3) (.t 50))⟩, ⟨(some
      52), none, (.mov (.t 9))⟩, ⟨(some 53), none, (.mov (.t 12))⟩, ⟨(some 54), none, (.iaddrS 3 (.t 52) (.t 53))⟩, ⟨(some 55), none, (.load (some 3) (.t 54))⟩, ⟨(some 56), none,
      (.mov (.t 8))⟩, ⟨(some 57), none, (.mov (.t 12))⟩, ⟨(some 58), none, (.iaddrS 1 (.t 56) (.t 57))⟩, ⟨(some 59), none, (.load none (.t 58))⟩, ⟨(some 60), none, (.call (.fn 63)
      [(.t 51), (.t 55), (.t 59)] [])⟩, ⟨(some 61), none, (.iaddrS 3 (.t 45) (.t 46))⟩, ⟨none, none, (.store 3 (.t 61) (.t 60))⟩] [0, 2, 4, 8, 9, 10, 11, 12])) (.reg [⟨(some 43),
      none, (.mov (.t 12))⟩, ⟨(some 44), none, (.bin .sub false (.t 43) (.c (.int .i64 1)))⟩, ⟨(some 12), none, (.mov (.t 44))⟩] [0, 2, 4, 8, 9, 10, 11, 12])))
def lb47_1 : ICode := (.seq (.seq (.reg [⟨(some 67), none, (.mov (.t 13))⟩, ⟨(some 68), none, (.mov (.t 10))⟩, ⟨(some 69), none, (.bin .lss false (.t 67) (.t 68))⟩] [0, 2, 4, 8, 9,
      10, 11, 13, 69]) (.cond (.t 69) .skip (.exit 4))) (.seq (.block 5 (.reg [⟨(some 72), none, (.mov (.t 9))⟩, ⟨(some 73), none, (.mov (.t 13))⟩, ⟨(some 74), none, (.mov (.t 9))⟩,
      ⟨(some 75), none, (.mov (.t 13))⟩, ⟨(some 76), none, (.bin .sub false (.t 75) (.c (.int .i64 1)))⟩, ⟨(some 77), none, (.iaddrS 3 (.t 74) (.t 76))⟩, ⟨(some 78), none, (.load
      (some 3) (.t 77))⟩, ⟨(some 79), none, (.mov (.t 9))⟩, ⟨(some 80), none, (.mov (.t 13))⟩, ⟨(some 81), none, (.iaddrS 3 (.t 79) (.t 80))⟩, ⟨(some 82), none, (.load (some 3) (.t
      81))⟩, ⟨(some 83), none, (.mov (.t 8))⟩, ⟨(some 84), none, (.mov (.t 13))⟩, ⟨(some 85), none, (.bin .sub false (.t 84) (.c (.int .i64 1)))⟩, ⟨(some 86), none, (.iaddrS 1 (.t
      83) (.t 85))⟩, ⟨(some 87), none, (.load none (.t 86))⟩, ⟨(some 88), none, (.call (.fn 63) [(.t 78), (.t 82), (.t 87)] [])⟩, ⟨(some 89), none, (.iaddrS 3 (.t 72) (.t 73))⟩,
      ⟨none, none, (.store 3 (.t 89) (.t 88))⟩] [0, 2, 4, 8, 9, 10, 11, 13])) (.reg [⟨(some 70), none, (.mov (.t 13))⟩, ⟨(some 71), none, (.bin .add false (.t 70) (.c (.int .i64
      1)))⟩, ⟨(some 13), none, (.mov (.t 71))⟩] [0, 2, 4, 8, 9, 10, 11, 13])))
def lb47_2 : ICode := (.seq (.seq (.reg [⟨(some 29), none, (.mov (.t 11))⟩, ⟨(some 30), none, (.mov (.t 2))⟩, ⟨(some 31), none, (.bin .lss false (.t 29) (.t 30))⟩] [0, 2, 4, 8, 9,
      10, 11, 31]) (.cond (.t 31) .skip (.exit 0))) (.seq (.block 1 (.seq (.reg [⟨(some 34), none, (.mov (.t 9))⟩, ⟨(some 35), none, (.mov (.t 10))⟩, ⟨(some 36), none, (.bin .sub
      false (.t 35) (.c (.int .i64 1)))⟩, ⟨(some 37), none, (.load (some 3) (.t 4))⟩, ⟨(some 38), none, (.iaddrS 3 (.t 34) (.t 36))⟩, ⟨none, none, (.store 3 (.t 38) (.t 37))⟩] [0,
      2, 4, 8, 9, 10, 11]) (.seq (.seq (.reg [⟨(some 39), none, (.mov (.t 10))⟩, ⟨(some 40), none, (.bin .sub false (.t 39) (.c (.int .i64 2)))⟩, ⟨(some 12), none, (.mov (.t 40))⟩]
      [0, 2, 4, 8, 9, 10, 11, 12]) (.block 2 (.loop lb47_0))) (.seq (.reg [⟨(some 62), none, (.mov (.t 9))⟩, ⟨(some 63), none, (.mov (.t 0))⟩, ⟨(some 64), none, (.iaddrS 3 (.t 63)
      (.c (.int .i64 0)))⟩, ⟨(some 65), none, (.load (some 3) (.t 64))⟩, ⟨(some 66), none, (.iaddrS 3 (.t 62) (.c (.int .i64 0)))⟩, ⟨none, none, (.store 3 (.t 66) (.t 65))⟩] [0, 2,
      4, 8, 9, 10, 11]) (.seq (.reg [⟨(some 13), none, (.mov (.c (.int .i64 1)))⟩] [0, 2, 4, 8, 9, 10, 11, 13]) (.block 4 (.loop lb47_1))))))) (.reg [⟨(some 32), none, (.mov (.t
      11))⟩, ⟨(some 33), none, (.bin .add false (.t 32) (.c (.int .i64 1)))⟩, ⟨(some 11), none, (.mov (.t 33))⟩] [0, 2, 4, 8, 9, 10, 11])))
def ic47 : ICode := (.seq (.reg [⟨(some 4), none, (.box 3 (.t 1))⟩, ⟨(some 6), none, (.mov (.c .snil))⟩, ⟨(some 7), none, (.mov (.c (.bool false)))⟩] [0, 2, 4]) (.seq (.seq (.reg
      [⟨(some 14), none, (.mov (.t 0))⟩, ⟨(some 15), none, (.call (.fn 71) [(.t 14)] [])⟩, ⟨(some 16), none, (.un .not (.t 15))⟩, ⟨(some 17), none, (.mov (.t 16))⟩, ⟨(some 18),
      (some (17, false)), (.mov (.t 2))⟩, ⟨(some 19), (some (17, false)), (.call (.fn 57) [(.t 18), (.c (.int .i64 0)), (.c (.int .i64 40))] [])⟩, ⟨(some 20), (some (17, false)),
      (.un .not (.t 19))⟩, ⟨(some 21), none, (.pick (.t 17) (.c (.bool true)) (.t 20))⟩] [0, 2, 4, 21]) (.cond (.t 21) (.seq (.reg [⟨(some 6), none, (.mov (.c .snil))⟩, ⟨(some 7),
      none, (.mov (.c (.bool false)))⟩] [6, 7]) .ret) .skip)) (.seq (.reg [⟨(some 22), none, (.mov (.t 0))⟩, ⟨(some 23), none, (.call (.fn 72) [(.t 22)] [])⟩, ⟨(some 8), none, (.mov
      (.t 23))⟩] [0, 2, 4, 8]) (.seq (.reg [⟨(some 24), none, (.bslice 3 0 (.agg [(.flt .f32 0), (.flt .f32 0), (.flt .f32 0)]) [])⟩, ⟨(some 25), none, (.mov (.t 0))⟩, ⟨(some 26),
      none, (.append 3 12 (.t 24) (.t 25))⟩, ⟨(some 9), none, (.mov (.t 26))⟩] [0, 2, 4, 8, 9]) (.seq (.reg [⟨(some 27), none, (.mov (.t 9))⟩, ⟨(some 28), none, (.len false (.t
      27))⟩, ⟨(some 10), none, (.mov (.t 28))⟩] [0, 2, 4, 8, 9, 10]) (.seq (.seq (.reg [⟨(some 11), none, (.mov (.c (.int .i64 0)))⟩] [0, 2, 4, 8, 9, 10, 11]) (.block 0 (.loop
      lb47_2))) (.seq (.reg [⟨(some 90), none, (.mov (.t 9))⟩, ⟨(some 6), none, (.mov (.t 90))⟩, ⟨(some 7), none, (.mov (.c (.bool true)))⟩] [6, 7]) .ret)))))))
def cp47 : CP := CP.mk [] [] [[0, 2, 4], [0, 2, 4, 21], [6, 7], [0, 2, 4, 8], [0, 2, 4, 8, 9], [0, 2, 4, 8, 9, 10], [0, 2, 4, 8, 9, 10, 11], [0, 2, 4, 8, 9, 10, 11, 31], [0, 2, 4,
      8, 9, 10, 11], [0, 2, 4, 8, 9, 10, 11], [0, 2, 4, 8, 9, 10, 11, 12], [0, 2, 4, 8, 9, 10, 11, 12, 42], [0, 2, 4, 8, 9, 10, 11, 12], [0, 2, 4, 8, 9, 10, 11, 12], [0, 2, 4, 8, 9,
      10, 11], [0, 2, 4, 8, 9, 10, 11, 13], [0, 2, 4, 8, 9, 10, 11, 13, 69], [0, 2, 4, 8, 9, 10, 11, 13], [0, 2, 4, 8, 9, 10, 11, 13], [6, 7]] 91
theorem fc47_0 : IntKind.wrap .i64 0 = 0 := by decide
theorem fc47_1 : IntKind.wrap .i64 1 = 1 := by decide
theorem fc47_2 : IntKind.wrap .i64 2 = 2 := by decide
theorem fc47_3 : IntKind.wrap .i64 3 = 3 := by decide
theorem fc47_4 : IntKind.wrap .i64 4 = 4 := by decide
theorem fc47_5 : IntKind.wrap .i64 5 = 5 := by decide
theorem fc47_6 : IntKind.wrap .i64 6 = 6 := by decide
theorem fc47_7 : IntKind.wrap .i64 7 = 7 := by decide
theorem sl47_0 (x0 : (List (Nat × Nat × Nat))) (x2 : Int) (z2_0 : (Nat × Nat × Nat)) (z2_2 : Int) : ∀ (n : Nat) (z0_0 : (List (Nat × Nat × Nat))) (z0_1 : Int) (o : ((Nat × Nat ×
      Nat) × (List (Nat × Nat × Nat)))) (K : IExit → St → Prop), l_spec_ReachFor_0 x0 x2 z2_0 z2_2 n z0_0 z0_1 = some o → (∀ st, Wk st (⟨[(0, (.sl (List.map en0 x0))), (2, (.int
      .i64 x2)), (4, (.lptr 4 0 0)), (8, (.sl (List.map (AV.flt .f32) (m_spec_l04Lengths x0)))), (9, (.lsl 24 0 (List.length o.2))), (10, (.int .i64 (((List.length x0) : Nat) :
      Int))), (11, (.int .i64 z2_2))], [(4, (some ⟨3, false, [(AV.agg [(.flt .f32 o.1.1), (.flt .f32 o.1.2.1), (.flt .f32 o.1.2.2)])]⟩)), (24, (some ⟨3, true, (List.map en0
      o.2)⟩))]⟩ : St) → K (.exit 2) st) → eA (tabOf [(57, wM .any g_spec_l00In), (63, wM .any g_spec_l04Place), (71, wM .any g_spec_l04Points), (72, wM (.own [1])
      g_spec_l04Lengths)]) (.loop lb47_0) (⟨[(0, (.sl (List.map en0 x0))), (2, (.int .i64 x2)), (4, (.lptr 4 0 0)), (8, (.sl (List.map (AV.flt .f32) (m_spec_l04Lengths x0)))), (9,
      (.lsl 24 0 (List.length z0_0))), (10, (.int .i64 (((List.length x0) : Nat) : Int))), (11, (.int .i64 z2_2)), (12, (.int .i64 z0_1))], [(4, (some ⟨3, false, [(AV.agg [(.flt
      .f32 z2_0.1), (.flt .f32 z2_0.2.1), (.flt .f32 z2_0.2.2)])]⟩)), (24, (some ⟨3, true, (List.map en0 z0_0)⟩))]⟩ : St) K := by
  intro n
  induction n with
  | zero =>
    intro z0_0 z0_1 o K h h0
    simp only [l_spec_ReachFor_0, reduceCtorEq] at h
  | succ n ih =>
    intro z0_0 z0_1 o K h h0
    refine eA_loop ?_
    unfold lb47_0
    unfold l_spec_ReachFor_0 at h
    (try simp only [need_iff] at h)
    simp only [
      need_iff, h, grpS, grpD, grpF, grpL, eop, vop, bop, uop, fltop, convop, endOk, newE, new1, freshL, Md.isNew, outV, pureV, pureX, pure1, AV.cells, AV.one, storable, laid,
            refless, refless1, vload, loadC, storeC, vnil, vfaddr, vextract, flatT, flatE, flatC, vconv, vmm, vidxA, viaddrA, vfield, vlen, elemsOf, dF32, dF64, dI64, dU8, dBool,
            dStr, esOk, elemsS, vsliceX, bnd, ownV, ownC, own1, ownT, isSl, nSl, endL, Md.isOwn, purge, purgeH, purgeB, purgeE, hasName, name1, List.any_cons, List.any_nil, Md.isWr,
            pureV.pureP, Option.map, reduceIte, Nat.reduceEqDiff, Nat.reduceAdd, Nat.reduceMul, Nat.reduceLT, Nat.reduceLeDiff, List.mapM_cons, List.mapM_nil, Option.pure_def,
            Option.bind_eq_bind, Option.bind_some, implies_true, forall_const, beq_self_eq_true, decide_true, decide_false, eq_self, Int.reduceEq, Int.reduceLE, Int.reduceLT,
            if_true, if_false, fc47_0, fc47_1, fc47_2, fc47_3, fc47_4, fc47_5, fc47_6, fc47_7, Int.reduceAdd, Int.reduceSub, Int.reduceMul, Int.reduceNeg, Int.reducePow,
            Nat.reducePow, Int.reduceToNat, Nat.reduceSub, List.replicate, Nat.reduceBEq, wAs, wA, wC, zipW, noDupN, grpE, g_spec_l00In, g_spec_l04Place, g_spec_l04Points,
            g_spec_l04Lengths, grpC, en0, dc_en0, ↓b_pick, ePk_true, ePk_false]
    repeat' (first
      | ((first | (refine eGI_of (fun hc => ?_) (fun hc => ?_)) | (refine eCc_of (fun hc => ?_) (fun hc => ?_)) | (refine ePk_of (fun hc => ?_) (fun hc => ?_)) | (have hc := True.intro; refine KW_refl ?_)) <;> (try simp only [Bool.not_eq_true', Bool.not_eq_false'] at hc) <;> (try simp only [hc, need_iff, reduceCtorEq, Bool.not_eq_true', decide_eq_false_iff_not, Bool.not_true, Bool.not_false, Bool.false_or, Bool.true_or, Bool.true_and, Bool.false_and, Bool.and_eq_true, Bool.or_eq_true, if_true, if_false, reduceIte, Bool.false_eq_true, and_true, true_and, false_or, or_false, decide_eq_true_eq, not_false_eq_true, not_true_eq_false] at h) <;> (try (have hc2 := hc; simp only [decide_eq_true_eq, decide_eq_false_iff_not] at hc2; simp only [hc2, if_true, if_false, reduceCtorEq, Bool.not_eq_true', decide_eq_false_iff_not, Bool.not_true, Bool.not_false, Bool.false_or, Bool.true_or, Bool.true_and, Bool.false_and, Bool.and_eq_true, Bool.or_eq_true, if_true, if_false, reduceIte, Bool.false_eq_true, and_true, true_and, false_or, or_false, decide_eq_true_eq, not_false_eq_true, not_true_eq_false] at h)) <;> simp only [hc,
      need_iff, h, grpS, grpD, grpF, grpL, eop, vop, bop, uop, fltop, convop, endOk, newE, new1, freshL, Md.isNew, outV, pureV, pureX, pure1, AV.cells, AV.one, storable, laid,
            refless, refless1, vload, loadC, storeC, vnil, vfaddr, vextract, flatT, flatE, flatC, vconv, vmm, vidxA, viaddrA, vfield, vlen, elemsOf, dF32, dF64, dI64, dU8, dBool,
            dStr, esOk, elemsS, vsliceX, bnd, ownV, ownC, own1, ownT, isSl, nSl, endL, Md.isOwn, purge, purgeH, purgeB, purgeE, hasName, name1, List.any_cons, List.any_nil, Md.isWr,
            pureV.pureP, Option.map, reduceIte, Nat.reduceEqDiff, Nat.reduceAdd, Nat.reduceMul, Nat.reduceLT, Nat.reduceLeDiff, List.mapM_cons, List.mapM_nil, Option.pure_def,
            Option.bind_eq_bind, Option.bind_some, implies_true, forall_const, beq_self_eq_true, decide_true, decide_false, eq_self, Int.reduceEq, Int.reduceLE, Int.reduceLT,
            if_true, if_false, fc47_0, fc47_1, fc47_2, fc47_3, fc47_4, fc47_5, fc47_6, fc47_7, Int.reduceAdd, Int.reduceSub, Int.reduceMul, Int.reduceNeg, Int.reducePow,
            Nat.reducePow, Int.reduceToNat, Nat.reduceSub, List.replicate, Nat.reduceBEq, wAs, wA, wC, zipW, noDupN, grpE, g_spec_l00In, g_spec_l04Place, g_spec_l04Points,
            g_spec_l04Lengths, grpC, en0, dc_en0, ↓b_pick, ePk_true, ePk_false]))
    all_goals (repeat (replace h := And.right h))
    all_goals first
      | (refine eA_wk (wk_norm (ks := [0, 2, 4, 8, 9, 10, 11, 12]) (ls := [4, 24]) ?_) (eA_cast ?_ (ih _ _ _ _ h h0)); (simp only [normOk, optIn, blkIn, nameIn,
      need_iff, h, grpS, grpD, grpF, grpL, eop, vop, bop, uop, fltop, convop, endOk, newE, new1, freshL, Md.isNew, outV, pureV, pureX, pure1, AV.cells, AV.one, storable, laid,
            refless, refless1, vload, loadC, storeC, vnil, vfaddr, vextract, flatT, flatE, flatC, vconv, vmm, vidxA, viaddrA, vfield, vlen, elemsOf, dF32, dF64, dI64, dU8, dBool,
            dStr, esOk, elemsS, vsliceX, bnd, ownV, ownC, own1, ownT, isSl, nSl, endL, Md.isOwn, purge, purgeH, purgeB, purgeE, hasName, name1, List.any_cons, List.any_nil, Md.isWr,
            pureV.pureP, Option.map, reduceIte, Nat.reduceEqDiff, Nat.reduceAdd, Nat.reduceMul, Nat.reduceLT, Nat.reduceLeDiff, List.mapM_cons, List.mapM_nil, Option.pure_def,
            Option.bind_eq_bind, Option.bind_some, implies_true, forall_const, beq_self_eq_true, decide_true, decide_false, eq_self, Int.reduceEq, Int.reduceLE, Int.reduceLT,
            if_true, if_false, fc47_0, fc47_1, fc47_2, fc47_3, fc47_4, fc47_5, fc47_6, fc47_7, Int.reduceAdd, Int.reduceSub, Int.reduceMul, Int.reduceNeg, Int.reducePow,
            Nat.reducePow, Int.reduceToNat, Nat.reduceSub, List.replicate, Nat.reduceBEq, wAs, wA, wC, zipW, noDupN, grpE, g_spec_l00In, g_spec_l04Place, g_spec_l04Points,
            g_spec_l04Lengths, grpC, en0, dc_en0, ↓b_pick, ePk_true, ePk_false] <;> rfl); (simp only [normS, List.map_append, List.length_append, List.map_set, List.length_set, List.map_replicate, List.length_replicate, List.map_nil, List.map_cons,
      need_iff, h, grpS, grpD, grpF, grpL, eop, vop, bop, uop, fltop, convop, endOk, newE, new1, freshL, Md.isNew, outV, pureV, pureX, pure1, AV.cells, AV.one, storable, laid,
            refless, refless1, vload, loadC, storeC, vnil, vfaddr, vextract, flatT, flatE, flatC, vconv, vmm, vidxA, viaddrA, vfield, vlen, elemsOf, dF32, dF64, dI64, dU8, dBool,
            dStr, esOk, elemsS, vsliceX, bnd, ownV, ownC, own1, ownT, isSl, nSl, endL, Md.isOwn, purge, purgeH, purgeB, purgeE, hasName, name1, List.any_cons, List.any_nil, Md.isWr,
            pureV.pureP, Option.map, reduceIte, Nat.reduceEqDiff, Nat.reduceAdd, Nat.reduceMul, Nat.reduceLT, Nat.reduceLeDiff, List.mapM_cons, List.mapM_nil, Option.pure_def,
            Option.bind_eq_bind, Option.bind_some, implies_true, forall_const, beq_self_eq_true, decide_true, decide_false, eq_self, Int.reduceEq, Int.reduceLE, Int.reduceLT,
            if_true, if_false, fc47_0, fc47_1, fc47_2, fc47_3, fc47_4, fc47_5, fc47_6, fc47_7, Int.reduceAdd, Int.reduceSub, Int.reduceMul, Int.reduceNeg, Int.reducePow,
            Nat.reducePow, Int.reduceToNat, Nat.reduceSub, List.replicate, Nat.reduceBEq, wAs, wA, wC, zipW, noDupN, grpE, g_spec_l00In, g_spec_l04Place, g_spec_l04Points,
            g_spec_l04Lengths, grpC, en0, dc_en0, ↓b_pick, ePk_true, ePk_false] <;> rfl))
      | (cases h; refine h0 _ (Wk.cast (wk_norm (ks := [0, 2, 4, 8, 9, 10, 11]) (ls := [4, 24]) ?_) ?_); (simp only [normOk, optIn, blkIn, nameIn,
      grpS, grpD, grpF, grpL, eop, vop, bop, uop, fltop, convop, endOk, newE, new1, freshL, Md.isNew, outV, pureV, pureX, pure1, AV.cells, AV.one, storable, laid, refless, refless1,
            vload, loadC, storeC, vnil, vfaddr, vextract, flatT, flatE, flatC, vconv, vmm, vidxA, viaddrA, vfield, vlen, elemsOf, dF32, dF64, dI64, dU8, dBool, dStr, esOk, elemsS,
            vsliceX, bnd, ownV, ownC, own1, ownT, isSl, nSl, endL, Md.isOwn, purge, purgeH, purgeB, purgeE, hasName, name1, List.any_cons, List.any_nil, Md.isWr, pureV.pureP,
            Option.map, reduceIte, Nat.reduceEqDiff, Nat.reduceAdd, Nat.reduceMul, Nat.reduceLT, Nat.reduceLeDiff, List.mapM_cons, List.mapM_nil, Option.pure_def,
            Option.bind_eq_bind, Option.bind_some, implies_true, forall_const, beq_self_eq_true, decide_true, decide_false, eq_self, Int.reduceEq, Int.reduceLE, Int.reduceLT,
            if_true, if_false, fc47_0, fc47_1, fc47_2, fc47_3, fc47_4, fc47_5, fc47_6, fc47_7, Int.reduceAdd, Int.reduceSub, Int.reduceMul, Int.reduceNeg, Int.reducePow,
            Nat.reducePow, Int.reduceToNat, Nat.reduceSub, List.replicate, Nat.reduceBEq, wAs, wA, wC, zipW, noDupN, grpE, g_spec_l00In, g_spec_l04Place, g_spec_l04Points,
            g_spec_l04Lengths, grpC, en0, dc_en0, ↓b_pick, ePk_true, ePk_false] <;> rfl); (simp only [normS, List.map_append, List.length_append, List.map_set, List.length_set, List.map_replicate, List.length_replicate,
      grpS, grpD, grpF, grpL, eop, vop, bop, uop, fltop, convop, endOk, newE, new1, freshL, Md.isNew, outV, pureV, pureX, pure1, AV.cells, AV.one, storable, laid, refless, refless1,
            vload, loadC, storeC, vnil, vfaddr, vextract, flatT, flatE, flatC, vconv, vmm, vidxA, viaddrA, vfield, vlen, elemsOf, dF32, dF64, dI64, dU8, dBool, dStr, esOk, elemsS,
            vsliceX, bnd, ownV, ownC, own1, ownT, isSl, nSl, endL, Md.isOwn, purge, purgeH, purgeB, purgeE, hasName, name1, List.any_cons, List.any_nil, Md.isWr, pureV.pureP,
            Option.map, reduceIte, Nat.reduceEqDiff, Nat.reduceAdd, Nat.reduceMul, Nat.reduceLT, Nat.reduceLeDiff, List.mapM_cons, List.mapM_nil, Option.pure_def,
            Option.bind_eq_bind, Option.bind_some, implies_true, forall_const, beq_self_eq_true, decide_true, decide_false, eq_self, Int.reduceEq, Int.reduceLE, Int.reduceLT,
            if_true, if_false, fc47_0, fc47_1, fc47_2, fc47_3, fc47_4, fc47_5, fc47_6, fc47_7, Int.reduceAdd, Int.reduceSub, Int.reduceMul, Int.reduceNeg, Int.reducePow,
            Nat.reducePow, Int.reduceToNat, Nat.reduceSub, List.replicate, Nat.reduceBEq, wAs, wA, wC, zipW, noDupN, grpE, g_spec_l00In, g_spec_l04Place, g_spec_l04Points,
            g_spec_l04Lengths, grpC, en0, dc_en0, ↓b_pick, ePk_true, ePk_false] <;> rfl))
theorem sl47_1 (x0 : (List (Nat × Nat × Nat))) (x2 : Int) (z2_0 : (Nat × Nat × Nat)) (z2_1 : (List (Nat × Nat × Nat))) (z2_2 : Int) : ∀ (n : Nat) (z1_0 : (List (Nat × Nat × Nat)))
      (z1_1 : Int) (o : ((Nat × Nat × Nat) × (List (Nat × Nat × Nat)))) (K : IExit → St → Prop), l_spec_ReachFor_1 x0 x2 z2_0 z2_1 z2_2 n z1_0 z1_1 = some o → (∀ st, Wk st (⟨[(0,
      (.sl (List.map en0 x0))), (2, (.int .i64 x2)), (4, (.lptr 4 0 0)), (8, (.sl (List.map (AV.flt .f32) (m_spec_l04Lengths x0)))), (9, (.lsl 24 0 (List.length o.2))), (10, (.int
      .i64 (((List.length x0) : Nat) : Int))), (11, (.int .i64 z2_2))], [(4, (some ⟨3, false, [(AV.agg [(.flt .f32 o.1.1), (.flt .f32 o.1.2.1), (.flt .f32 o.1.2.2)])]⟩)), (24, (some
      ⟨3, true, (List.map en0 o.2)⟩))]⟩ : St) → K (.exit 4) st) → eA (tabOf [(57, wM .any g_spec_l00In), (63, wM .any g_spec_l04Place), (71, wM .any g_spec_l04Points), (72, wM (.own
      [1]) g_spec_l04Lengths)]) (.loop lb47_1) (⟨[(0, (.sl (List.map en0 x0))), (2, (.int .i64 x2)), (4, (.lptr 4 0 0)), (8, (.sl (List.map (AV.flt .f32) (m_spec_l04Lengths x0)))),
      (9, (.lsl 24 0 (List.length z1_0))), (10, (.int .i64 (((List.length x0) : Nat) : Int))), (11, (.int .i64 z2_2)), (13, (.int .i64 z1_1))], [(4, (some ⟨3, false, [(AV.agg [(.flt
      .f32 (Option.getD (l_spec_ReachFor_0 x0 x2 z2_0 z2_2 (Int.toNat (IntKind.wrap .i64 ((((List.length x0) : Nat) : Int) - 2)) + 2) (List.set z2_1 (Int.toNat (IntKind.wrap .i64
      ((((List.length x0) : Nat) : Int) - 1))) z2_0) (IntKind.wrap .i64 ((((List.length x0) : Nat) : Int) - 2))) default).1.1), (.flt .f32 (Option.getD (l_spec_ReachFor_0 x0 x2 z2_0
      z2_2 (Int.toNat (IntKind.wrap .i64 ((((List.length x0) : Nat) : Int) - 2)) + 2) (List.set z2_1 (Int.toNat (IntKind.wrap .i64 ((((List.length x0) : Nat) : Int) - 1))) z2_0)
      (IntKind.wrap .i64 ((((List.length x0) : Nat) : Int) - 2))) default).1.2.1), (.flt .f32 (Option.getD (l_spec_ReachFor_0 x0 x2 z2_0 z2_2 (Int.toNat (IntKind.wrap .i64
      ((((List.length x0) : Nat) : Int) - 2)) + 2) (List.set z2_1 (Int.toNat (IntKind.wrap .i64 ((((List.length x0) : Nat) : Int) - 1))) z2_0) (IntKind.wrap .i64 ((((List.length x0)
      : Nat) : Int) - 2))) default).1.2.2)])]⟩)), (24, (some ⟨3, true, (List.map en0 z1_0)⟩))]⟩ : St) K := by
  intro n
  induction n with
  | zero =>
    intro z1_0 z1_1 o K h h0
    simp only [l_spec_ReachFor_1, reduceCtorEq] at h
  | succ n ih =>
    intro z1_0 z1_1 o K h h0
    refine eA_loop ?_
    unfold lb47_1
    unfold l_spec_ReachFor_1 at h
    (try simp only [need_iff] at h)
    simp only [
      need_iff, h, grpS, grpD, grpF, grpL, eop, vop, bop, uop, fltop, convop, endOk, newE, new1, freshL, Md.isNew, outV, pureV, pureX, pure1, AV.cells, AV.one, storable, laid,
            refless, refless1, vload, loadC, storeC, vnil, vfaddr, vextract, flatT, flatE, flatC, vconv, vmm, vidxA, viaddrA, vfield, vlen, elemsOf, dF32, dF64, dI64, dU8, dBool,
            dStr, esOk, elemsS, vsliceX, bnd, ownV, ownC, own1, ownT, isSl, nSl, endL, Md.isOwn, purge, purgeH, purgeB, purgeE, hasName, name1, List.any_cons, List.any_nil, Md.isWr,
            pureV.pureP, Option.map, reduceIte, Nat.reduceEqDiff, Nat.reduceAdd, Nat.reduceMul, Nat.reduceLT, Nat.reduceLeDiff, List.mapM_cons, List.mapM_nil, Option.pure_def,
            Option.bind_eq_bind, Option.bind_some, implies_true, forall_const, beq_self_eq_true, decide_true, decide_false, eq_self, Int.reduceEq, Int.reduceLE, Int.reduceLT,
            if_true, if_false, fc47_0, fc47_1, fc47_2, fc47_3, fc47_4, fc47_5, fc47_6, fc47_7, Int.reduceAdd, Int.reduceSub, Int.reduceMul, Int.reduceNeg, Int.reducePow,
            Nat.reducePow, Int.reduceToNat, Nat.reduceSub, List.replicate, Nat.reduceBEq, wAs, wA, wC, zipW, noDupN, grpE, g_spec_l00In, g_spec_l04Place, g_spec_l04Points,
            g_spec_l04Lengths, grpC, en0, dc_en0, ↓b_pick, ePk_true, ePk_false]
    repeat' (first
      | ((first | (refine eGI_of (fun hc => ?_) (fun hc => ?_)) | (refine eCc_of (fun hc => ?_) (fun hc => ?_)) | (refine ePk_of (fun hc => ?_) (fun hc => ?_)) | (have hc := True.intro; refine KW_refl ?_)) <;> (try simp only [Bool.not_eq_true', Bool.not_eq_false'] at hc) <;> (try simp only [hc, need_iff, reduceCtorEq, Bool.not_eq_true', decide_eq_false_iff_not, Bool.not_true, Bool.not_false, Bool.false_or, Bool.true_or, Bool.true_and, Bool.false_and, Bool.and_eq_true, Bool.or_eq_true, if_true, if_false, reduceIte, Bool.false_eq_true, and_true, true_and, false_or, or_false, decide_eq_true_eq, not_false_eq_true, not_true_eq_false] at h) <;> (try (have hc2 := hc; simp only [decide_eq_true_eq, decide_eq_false_iff_not] at hc2; simp only [hc2, if_true, if_false, reduceCtorEq, Bool.not_eq_true', decide_eq_false_iff_not, Bool.not_true, Bool.not_false, Bool.false_or, Bool.true_or, Bool.true_and, Bool.false_and, Bool.and_eq_true, Bool.or_eq_true, if_true, if_false, reduceIte, Bool.false_eq_true, and_true, true_and, false_or, or_false, decide_eq_true_eq, not_false_eq_true, not_true_eq_false] at h)) <;> simp only [hc,
      need_iff, h, grpS, grpD, grpF, grpL, eop, vop, bop, uop, fltop, convop, endOk, newE, new1, freshL, Md.isNew, outV, pureV, pureX, pure1, AV.cells, AV.one, storable, laid,
            refless, refless1, vload, loadC, storeC, vnil, vfaddr, vextract, flatT, flatE, flatC, vconv, vmm, vidxA, viaddrA, vfield, vlen, elemsOf, dF32, dF64, dI64, dU8, dBool,
            dStr, esOk, elemsS, vsliceX, bnd, ownV, ownC, own1, ownT, isSl, nSl, endL, Md.isOwn, purge, purgeH, purgeB, purgeE, hasName, name1, List.any_cons, List.any_nil, Md.isWr,
            pureV.pureP, Option.map, reduceIte, Nat.reduceEqDiff, Nat.reduceAdd, Nat.reduceMul, Nat.reduceLT, Nat.reduceLeDiff, List.mapM_cons, List.mapM_nil, Option.pure_def,
            Option.bind_eq_bind, Option.bind_some, implies_true, forall_const, beq_self_eq_true, decide_true, decide_false, eq_self, Int.reduceEq, Int.reduceLE, Int.reduceLT,
            if_true, if_false, fc47_0, fc47_1, fc47_2, fc47_3, fc47_4, fc47_5, fc47_6, fc47_7, Int.reduceAdd, Int.reduceSub, Int.reduceMul, Int.reduceNeg, Int.reducePow,
            Nat.reducePow, Int.reduceToNat, Nat.reduceSub, List.replicate, Nat.reduceBEq, wAs, wA, wC, zipW, noDupN, grpE, g_spec_l00In, g_spec_l04Place, g_spec_l04Points,
            g_spec_l04Lengths, grpC, en0, dc_en0, ↓b_pick, ePk_true, ePk_false]))
    all_goals (repeat (replace h := And.right h))
    all_goals first
      | (refine eA_wk (wk_norm (ks := [0, 2, 4, 8, 9, 10, 11, 13]) (ls := [4, 24]) ?_) (eA_cast ?_ (ih _ _ _ _ h h0)); (simp only [normOk, optIn, blkIn, nameIn,
      need_iff, h, grpS, grpD, grpF, grpL, eop, vop, bop, uop, fltop, convop, endOk, newE, new1, freshL, Md.isNew, outV, pureV, pureX, pure1, AV.cells, AV.one, storable, laid,
            refless, refless1, vload, loadC, storeC, vnil, vfaddr, vextract, flatT, flatE, flatC, vconv, vmm, vidxA, viaddrA, vfield, vlen, elemsOf, dF32, dF64, dI64, dU8, dBool,
            dStr, esOk, elemsS, vsliceX, bnd, ownV, ownC, own1, ownT, isSl, nSl, endL, Md.isOwn, purge, purgeH, purgeB, purgeE, hasName, name1, List.any_cons, List.any_nil, Md.isWr,
            pureV.pureP, Option.map, reduceIte, Nat.reduceEqDiff, Nat.reduceAdd, Nat.reduceMul, Nat.reduceLT, Nat.reduceLeDiff, List.mapM_cons, List.mapM_nil, Option.pure_def,
            Option.bind_eq_bind, Option.bind_some, implies_true, forall_const, beq_self_eq_true, decide_true, decide_false, eq_self, Int.reduceEq, Int.reduceLE, Int.reduceLT,
            if_true, if_false, fc47_0, fc47_1, fc47_2, fc47_3, fc47_4, fc47_5, fc47_6, fc47_7, Int.reduceAdd, Int.reduceSub, Int.reduceMul, Int.reduceNeg, Int.reducePow,
            Nat.reducePow, Int.reduceToNat, Nat.reduceSub, List.replicate, Nat.reduceBEq, wAs, wA, wC, zipW, noDupN, grpE, g_spec_l00In, g_spec_l04Place, g_spec_l04Points,
            g_spec_l04Lengths, grpC, en0, dc_en0, ↓b_pick, ePk_true, ePk_false] <;> rfl); (simp only [normS, List.map_append, List.length_append, List.map_set, List.length_set, List.map_replicate, List.length_replicate, List.map_nil, List.map_cons,
      need_iff, h, grpS, grpD, grpF, grpL, eop, vop, bop, uop, fltop, convop, endOk, newE, new1, freshL, Md.isNew, outV, pureV, pureX, pure1, AV.cells, AV.one, storable, laid,
            refless, refless1, vload, loadC, storeC, vnil, vfaddr, vextract, flatT, flatE, flatC, vconv, vmm, vidxA, viaddrA, vfield, vlen, elemsOf, dF32, dF64, dI64, dU8, dBool,
            dStr, esOk, elemsS, vsliceX, bnd, ownV, ownC, own1, ownT, isSl, nSl, endL, Md.isOwn, purge, purgeH, purgeB, purgeE, hasName, name1, List.any_cons, List.any_nil, Md.isWr,
            pureV.pureP, Option.map, reduceIte, Nat.reduceEqDiff, Nat.reduceAdd, Nat.reduceMul, Nat.reduceLT, Nat.reduceLeDiff, List.mapM_cons, List.mapM_nil, Option.pure_def,
            Option.bind_eq_bind, Option.bind_some, implies_true, forall_const, beq_self_eq_true, decide_true, decide_false, eq_self, Int.reduceEq, Int.reduceLE, Int.reduceLT,
            if_true, if_false, fc47_0, fc47_1, fc47_2, fc47_3, fc47_4, fc47_5, fc47_6, fc47_7, Int.reduceAdd, Int.reduceSub, Int.reduceMul, Int.reduceNeg, Int.reducePow,
            Nat.reducePow, Int.reduceToNat, Nat.reduceSub, List.replicate, Nat.reduceBEq, wAs, wA, wC, zipW, noDupN, grpE, g_spec_l00In, g_spec_l04Place, g_spec_l04Points,
            g_spec_l04Lengths, grpC, en0, dc_en0, ↓b_pick, ePk_true, ePk_false] <;> rfl))
      | (cases h; refine h0 _ (Wk.cast (wk_norm (ks := [0, 2, 4, 8, 9, 10, 11]) (ls := [4, 24]) ?_) ?_); (simp only [normOk, optIn, blkIn, nameIn,
      grpS, grpD, grpF, grpL, eop, vop, bop, uop, fltop, convop, endOk, newE, new1, freshL, Md.isNew, outV, pureV, pureX, pure1, AV.cells, AV.one, storable, laid, refless, refless1,
            vload, loadC, storeC, vnil, vfaddr, vextract, flatT, flatE, flatC, vconv, vmm, vidxA, viaddrA, vfield, vlen, elemsOf, dF32, dF64, dI64, dU8, dBool, dStr, esOk, elemsS,
            vsliceX, bnd, ownV, ownC, own1, ownT, isSl, nSl, endL, Md.isOwn, purge, purgeH, purgeB, purgeE, hasName, name1, List.any_cons, List.any_nil, Md.isWr, pureV.pureP,
            Option.map, reduceIte, Nat.reduceEqDiff, Nat.reduceAdd, Nat.reduceMul, Nat.reduceLT, Nat.reduceLeDiff, List.mapM_cons, List.mapM_nil, Option.pure_def,
            Option.bind_eq_bind, Option.bind_some, implies_true, forall_const, beq_self_eq_true, decide_true, decide_false, eq_self, Int.reduceEq, Int.reduceLE, Int.reduceLT,
            if_true, if_false, fc47_0, fc47_1, fc47_2, fc47_3, fc47_4, fc47_5, fc47_6, fc47_7, Int.reduceAdd, Int.reduceSub, Int.reduceMul, Int.reduceNeg, Int.reducePow,
            Nat.reducePow, Int.reduceToNat, Nat.reduceSub, List.replicate, Nat.reduceBEq, wAs, wA, wC, zipW, noDupN, grpE, g_spec_l00In, g_spec_l04Place, g_spec_l04Points,
            g_spec_l04Lengths, grpC, en0, dc_en0, ↓b_pick, ePk_true, ePk_false] <;> rfl); (simp only [normS, List.map_append, List.length_append, List.map_set, List.length_set, List.map_replicate, List.length_replicate,
      grpS, grpD, grpF, grpL, eop, vop, bop, uop, fltop, convop, endOk, newE, new1, freshL, Md.isNew, outV, pureV, pureX, pure1, AV.cells, AV.one, storable, laid, refless, refless1,
            vload, loadC, storeC, vnil, vfaddr, vextract, flatT, flatE, flatC, vconv, vmm, vidxA, viaddrA, vfield, vlen, elemsOf, dF32, dF64, dI64, dU8, dBool, dStr, esOk, elemsS,
            vsliceX, bnd, ownV, ownC, own1, ownT, isSl, nSl, endL, Md.isOwn, purge, purgeH, purgeB, purgeE, hasName, name1, List.any_cons, List.any_nil, Md.isWr, pureV.pureP,
            Option.map, reduceIte, Nat.reduceEqDiff, Nat.reduceAdd, Nat.reduceMul, Nat.reduceLT, Nat.reduceLeDiff, List.mapM_cons, List.mapM_nil, Option.pure_def,
            Option.bind_eq_bind, Option.bind_some, implies_true, forall_const, beq_self_eq_true, decide_true, decide_false, eq_self, Int.reduceEq, Int.reduceLE, Int.reduceLT,
            if_true, if_false, fc47_0, fc47_1, fc47_2, fc47_3, fc47_4, fc47_5, fc47_6, fc47_7, Int.reduceAdd, Int.reduceSub, Int.reduceMul, Int.reduceNeg, Int.reducePow,
            Nat.reducePow, Int.reduceToNat, Nat.reduceSub, List.replicate, Nat.reduceBEq, wAs, wA, wC, zipW, noDupN, grpE, g_spec_l00In, g_spec_l04Place, g_spec_l04Points,
            g_spec_l04Lengths, grpC, en0, dc_en0, ↓b_pick, ePk_true, ePk_false] <;> rfl))
theorem sl47_2 (x0 : (List (Nat × Nat × Nat))) (x2 : Int) : ∀ (n : Nat) (z2_0 : (Nat × Nat × Nat)) (z2_1 : (List (Nat × Nat × Nat))) (z2_2 : Int) (o : (List (Nat × Nat × Nat))) (K :
      IExit → St → Prop), l_spec_ReachFor_2 x0 x2 n z2_0 z2_1 z2_2 = some o → (∀ st, Wk st (⟨[(9, (.lsl 24 0 (List.length o)))], [(24, (some ⟨3, true, (List.map en0 o)⟩))]⟩ : St) →
      K (.exit 0) st) → eA (tabOf [(57, wM .any g_spec_l00In), (63, wM .any g_spec_l04Place), (71, wM .any g_spec_l04Points), (72, wM (.own [1]) g_spec_l04Lengths)]) (.loop lb47_2)
      (⟨[(0, (.sl (List.map en0 x0))), (2, (.int .i64 x2)), (4, (.lptr 4 0 0)), (8, (.sl (List.map (AV.flt .f32) (m_spec_l04Lengths x0)))), (9, (.lsl 24 0 (List.length z2_1))), (10,
      (.int .i64 (((List.length x0) : Nat) : Int))), (11, (.int .i64 z2_2))], [(4, (some ⟨3, false, [(AV.agg [(.flt .f32 z2_0.1), (.flt .f32 z2_0.2.1), (.flt .f32 z2_0.2.2)])]⟩)),
      (24, (some ⟨3, true, (List.map en0 z2_1)⟩))]⟩ : St) K := by
  intro n
  induction n with
  | zero =>
    intro z2_0 z2_1 z2_2 o K h h0
    simp only [l_spec_ReachFor_2, reduceCtorEq] at h
  | succ n ih =>
    intro z2_0 z2_1 z2_2 o K h h0
    refine eA_loop ?_
    unfold lb47_2
    unfold l_spec_ReachFor_2 at h
    (try simp only [need_iff] at h)
    simp only [
      need_iff, h, grpS, grpD, grpF, grpL, eop, vop, bop, uop, fltop, convop, endOk, newE, new1, freshL, Md.isNew, outV, pureV, pureX, pure1, AV.cells, AV.one, storable, laid,
            refless, refless1, vload, loadC, storeC, vnil, vfaddr, vextract, flatT, flatE, flatC, vconv, vmm, vidxA, viaddrA, vfield, vlen, elemsOf, dF32, dF64, dI64, dU8, dBool,
            dStr, esOk, elemsS, vsliceX, bnd, ownV, ownC, own1, ownT, isSl, nSl, endL, Md.isOwn, purge, purgeH, purgeB, purgeE, hasName, name1, List.any_cons, List.any_nil, Md.isWr,
            pureV.pureP, Option.map, reduceIte, Nat.reduceEqDiff, Nat.reduceAdd, Nat.reduceMul, Nat.reduceLT, Nat.reduceLeDiff, List.mapM_cons, List.mapM_nil, Option.pure_def,
            Option.bind_eq_bind, Option.bind_some, implies_true, forall_const, beq_self_eq_true, decide_true, decide_false, eq_self, Int.reduceEq, Int.reduceLE, Int.reduceLT,
            if_true, if_false, fc47_0, fc47_1, fc47_2, fc47_3, fc47_4, fc47_5, fc47_6, fc47_7, Int.reduceAdd, Int.reduceSub, Int.reduceMul, Int.reduceNeg, Int.reducePow,
            Nat.reducePow, Int.reduceToNat, Nat.reduceSub, List.replicate, Nat.reduceBEq, wAs, wA, wC, zipW, noDupN, grpE, g_spec_l00In, g_spec_l04Place, g_spec_l04Points,
            g_spec_l04Lengths, grpC, en0, dc_en0, ↓b_pick, ePk_true, ePk_false]
    repeat' (first
      | ((first | (refine eGI_of (fun hc => ?_) (fun hc => ?_)) | (refine eCc_of (fun hc => ?_) (fun hc => ?_)) | (refine ePk_of (fun hc => ?_) (fun hc => ?_)) | (have hc := True.intro; refine KW_refl ?_)) <;> (try simp only [Bool.not_eq_true', Bool.not_eq_false'] at hc) <;> (try simp only [hc, need_iff, reduceCtorEq, Bool.not_eq_true', decide_eq_false_iff_not, Bool.not_true, Bool.not_false, Bool.false_or, Bool.true_or, Bool.true_and, Bool.false_and, Bool.and_eq_true, Bool.or_eq_true, if_true, if_false, reduceIte, Bool.false_eq_true, and_true, true_and, false_or, or_false, decide_eq_true_eq, not_false_eq_true, not_true_eq_false] at h) <;> (try (have hc2 := hc; simp only [decide_eq_true_eq, decide_eq_false_iff_not] at hc2; simp only [hc2, if_true, if_false, reduceCtorEq, Bool.not_eq_true', decide_eq_false_iff_not, Bool.not_true, Bool.not_false, Bool.false_or, Bool.true_or, Bool.true_and, Bool.false_and, Bool.and_eq_true, Bool.or_eq_true, if_true, if_false, reduceIte, Bool.false_eq_true, and_true, true_and, false_or, or_false, decide_eq_true_eq, not_false_eq_true, not_true_eq_false] at h)) <;> simp only [hc,
      need_iff, h, grpS, grpD, grpF, grpL, eop, vop, bop, uop, fltop, convop, endOk, newE, new1, freshL, Md.isNew, outV, pureV, pureX, pure1, AV.cells, AV.one, storable, laid,
            refless, refless1, vload, loadC, storeC, vnil, vfaddr, vextract, flatT, flatE, flatC, vconv, vmm, vidxA, viaddrA, vfield, vlen, elemsOf, dF32, dF64, dI64, dU8, dBool,
            dStr, esOk, elemsS, vsliceX, bnd, ownV, ownC, own1, ownT, isSl, nSl, endL, Md.isOwn, purge, purgeH, purgeB, purgeE, hasName, name1, List.any_cons, List.any_nil, Md.isWr,
            pureV.pureP, Option.map, reduceIte, Nat.reduceEqDiff, Nat.reduceAdd, Nat.reduceMul, Nat.reduceLT, Nat.reduceLeDiff, List.mapM_cons, List.mapM_nil, Option.pure_def,
            Option.bind_eq_bind, Option.bind_some, implies_true, forall_const, beq_self_eq_true, decide_true, decide_false, eq_self, Int.reduceEq, Int.reduceLE, Int.reduceLT,
            if_true, if_false, fc47_0, fc47_1, fc47_2, fc47_3, fc47_4, fc47_5, fc47_6, fc47_7, Int.reduceAdd, Int.reduceSub, Int.reduceMul, Int.reduceNeg, Int.reducePow,
            Nat.reducePow, Int.reduceToNat, Nat.reduceSub, List.replicate, Nat.reduceBEq, wAs, wA, wC, zipW, noDupN, grpE, g_spec_l00In, g_spec_l04Place, g_spec_l04Points,
            g_spec_l04Lengths, grpC, en0, dc_en0, ↓b_pick, ePk_true, ePk_false])
      | (refine eA_wk (wk_norm (ks := [0, 2, 4, 8, 9, 10, 11, 12]) (ls := [4, 24]) ?_) (eA_cast ?_ (sl47_0 x0 x2 z2_0 z2_2 _ _ _ _ _ (getD_some (d := default) (x := (l_spec_ReachFor_0 x0 x2 z2_0 z2_2 (Int.toNat (IntKind.wrap .i64 ((((List.length x0) : Nat) : Int) - 2)) + 2) (List.set z2_1 (Int.toNat (IntKind.wrap .i64 ((((List.length x0) : Nat) : Int) - 1))) z2_0) (IntKind.wrap .i64 ((((List.length x0) : Nat) : Int) - 2)))) ?_) ?_)); (simp only [nilS, nilV, normOk, optIn, blkIn, nameIn, 
      need_iff, h, grpS, grpD, grpF, grpL, eop, vop, bop, uop, fltop, convop, endOk, newE, new1, freshL, Md.isNew, outV, pureV, pureX, pure1, AV.cells, AV.one, storable, laid,
            refless, refless1, vload, loadC, storeC, vnil, vfaddr, vextract, flatT, flatE, flatC, vconv, vmm, vidxA, viaddrA, vfield, vlen, elemsOf, dF32, dF64, dI64, dU8, dBool,
            dStr, esOk, elemsS, vsliceX, bnd, ownV, ownC, own1, ownT, isSl, nSl, endL, Md.isOwn, purge, purgeH, purgeB, purgeE, hasName, name1, List.any_cons, List.any_nil, Md.isWr,
            pureV.pureP, Option.map, reduceIte, Nat.reduceEqDiff, Nat.reduceAdd, Nat.reduceMul, Nat.reduceLT, Nat.reduceLeDiff, List.mapM_cons, List.mapM_nil, Option.pure_def,
            Option.bind_eq_bind, Option.bind_some, implies_true, forall_const, beq_self_eq_true, decide_true, decide_false, eq_self, Int.reduceEq, Int.reduceLE, Int.reduceLT,
            if_true, if_false, fc47_0, fc47_1, fc47_2, fc47_3, fc47_4, fc47_5, fc47_6, fc47_7, Int.reduceAdd, Int.reduceSub, Int.reduceMul, Int.reduceNeg, Int.reducePow,
            Nat.reducePow, Int.reduceToNat, Nat.reduceSub, List.replicate, Nat.reduceBEq, wAs, wA, wC, zipW, noDupN, grpE, g_spec_l00In, g_spec_l04Place, g_spec_l04Points,
            g_spec_l04Lengths, grpC, en0, dc_en0, ↓b_pick, ePk_true, ePk_false] <;> rfl); (simp only [nilS, nilV, normS,  List.map_append, List.length_append, List.map_set, List.length_set, List.map_replicate, List.length_replicate, List.map_nil, List.map_cons,
      need_iff, h, grpS, grpD, grpF, grpL, eop, vop, bop, uop, fltop, convop, endOk, newE, new1, freshL, Md.isNew, outV, pureV, pureX, pure1, AV.cells, AV.one, storable, laid,
            refless, refless1, vload, loadC, storeC, vnil, vfaddr, vextract, flatT, flatE, flatC, vconv, vmm, vidxA, viaddrA, vfield, vlen, elemsOf, dF32, dF64, dI64, dU8, dBool,
            dStr, esOk, elemsS, vsliceX, bnd, ownV, ownC, own1, ownT, isSl, nSl, endL, Md.isOwn, purge, purgeH, purgeB, purgeE, hasName, name1, List.any_cons, List.any_nil, Md.isWr,
            pureV.pureP, Option.map, reduceIte, Nat.reduceEqDiff, Nat.reduceAdd, Nat.reduceMul, Nat.reduceLT, Nat.reduceLeDiff, List.mapM_cons, List.mapM_nil, Option.pure_def,
            Option.bind_eq_bind, Option.bind_some, implies_true, forall_const, beq_self_eq_true, decide_true, decide_false, eq_self, Int.reduceEq, Int.reduceLE, Int.reduceLT,
            if_true, if_false, fc47_0, fc47_1, fc47_2, fc47_3, fc47_4, fc47_5, fc47_6, fc47_7, Int.reduceAdd, Int.reduceSub, Int.reduceMul, Int.reduceNeg, Int.reducePow,
            Nat.reducePow, Int.reduceToNat, Nat.reduceSub, List.replicate, Nat.reduceBEq, wAs, wA, wC, zipW, noDupN, grpE, g_spec_l00In, g_spec_l04Place, g_spec_l04Points,
            g_spec_l04Lengths, grpC, en0, dc_en0, ↓b_pick, ePk_true, ePk_false] <;> rfl); (simp only [h]); (
        intro st2 hw; (try simp only [reduceCtorEq, Bool.not_eq_true', decide_eq_false_iff_not, Bool.not_true, Bool.not_false, Bool.false_or, Bool.true_or, Bool.true_and, Bool.false_and, Bool.and_eq_true, Bool.or_eq_true, if_true, if_false, reduceIte, Bool.false_eq_true, and_true, true_and, false_or, or_false, decide_eq_true_eq, not_false_eq_true, not_true_eq_false] at hp); simp only [
      need_iff, h, grpS, grpD, grpF, grpL, eop, vop, bop, uop, fltop, convop, endOk, newE, new1, freshL, Md.isNew, outV, pureV, pureX, pure1, AV.cells, AV.one, storable, laid,
            refless, refless1, vload, loadC, storeC, vnil, vfaddr, vextract, flatT, flatE, flatC, vconv, vmm, vidxA, viaddrA, vfield, vlen, elemsOf, dF32, dF64, dI64, dU8, dBool,
            dStr, esOk, elemsS, vsliceX, bnd, ownV, ownC, own1, ownT, isSl, nSl, endL, Md.isOwn, purge, purgeH, purgeB, purgeE, hasName, name1, List.any_cons, List.any_nil, Md.isWr,
            pureV.pureP, Option.map, reduceIte, Nat.reduceEqDiff, Nat.reduceAdd, Nat.reduceMul, Nat.reduceLT, Nat.reduceLeDiff, List.mapM_cons, List.mapM_nil, Option.pure_def,
            Option.bind_eq_bind, Option.bind_some, implies_true, forall_const, beq_self_eq_true, decide_true, decide_false, eq_self, Int.reduceEq, Int.reduceLE, Int.reduceLT,
            if_true, if_false, fc47_0, fc47_1, fc47_2, fc47_3, fc47_4, fc47_5, fc47_6, fc47_7, Int.reduceAdd, Int.reduceSub, Int.reduceMul, Int.reduceNeg, Int.reducePow,
            Nat.reducePow, Int.reduceToNat, Nat.reduceSub, List.replicate, Nat.reduceBEq, wAs, wA, wC, zipW, noDupN, grpE, g_spec_l00In, g_spec_l04Place, g_spec_l04Points,
            g_spec_l04Lengths, grpC, en0, dc_en0, ↓b_pick, ePk_true, ePk_false]; refine KW_of hw ?_; simp only [
      need_iff, h, grpS, grpD, grpF, grpL, eop, vop, bop, uop, fltop, convop, endOk, newE, new1, freshL, Md.isNew, outV, pureV, pureX, pure1, AV.cells, AV.one, storable, laid,
            refless, refless1, vload, loadC, storeC, vnil, vfaddr, vextract, flatT, flatE, flatC, vconv, vmm, vidxA, viaddrA, vfield, vlen, elemsOf, dF32, dF64, dI64, dU8, dBool,
            dStr, esOk, elemsS, vsliceX, bnd, ownV, ownC, own1, ownT, isSl, nSl, endL, Md.isOwn, purge, purgeH, purgeB, purgeE, hasName, name1, List.any_cons, List.any_nil, Md.isWr,
            pureV.pureP, Option.map, reduceIte, Nat.reduceEqDiff, Nat.reduceAdd, Nat.reduceMul, Nat.reduceLT, Nat.reduceLeDiff, List.mapM_cons, List.mapM_nil, Option.pure_def,
            Option.bind_eq_bind, Option.bind_some, implies_true, forall_const, beq_self_eq_true, decide_true, decide_false, eq_self, Int.reduceEq, Int.reduceLE, Int.reduceLT,
            if_true, if_false, fc47_0, fc47_1, fc47_2, fc47_3, fc47_4, fc47_5, fc47_6, fc47_7, Int.reduceAdd, Int.reduceSub, Int.reduceMul, Int.reduceNeg, Int.reducePow,
            Nat.reducePow, Int.reduceToNat, Nat.reduceSub, List.replicate, Nat.reduceBEq, wAs, wA, wC, zipW, noDupN, grpE, g_spec_l00In, g_spec_l04Place, g_spec_l04Points,
            g_spec_l04Lengths, grpC, en0, dc_en0, ↓b_pick, ePk_true, ePk_false]))
      | (refine eA_wk (wk_norm (ks := [0, 2, 4, 8, 9, 10, 11, 13]) (ls := [4, 24]) ?_) (eA_cast ?_ (sl47_1 x0 x2 z2_0 z2_1 z2_2 _ _ _ _ _ (getD_some (d := default) (x := (l_spec_ReachFor_1 x0 x2 z2_0 z2_1 z2_2 (Int.toNat ((((List.length x0) : Nat) : Int) - 1) + 2) (List.set (Option.getD (l_spec_ReachFor_0 x0 x2 z2_0 z2_2 (Int.toNat (IntKind.wrap .i64 ((((List.length x0) : Nat) : Int) - 2)) + 2) (List.set z2_1 (Int.toNat (IntKind.wrap .i64 ((((List.length x0) : Nat) : Int) - 1))) z2_0) (IntKind.wrap .i64 ((((List.length x0) : Nat) : Int) - 2))) default).2 (Int.toNat 0) (atI x0 0)) 1)) ?_) ?_)); (simp only [nilS, nilV, normOk, optIn, blkIn, nameIn, 
      need_iff, h, grpS, grpD, grpF, grpL, eop, vop, bop, uop, fltop, convop, endOk, newE, new1, freshL, Md.isNew, outV, pureV, pureX, pure1, AV.cells, AV.one, storable, laid,
            refless, refless1, vload, loadC, storeC, vnil, vfaddr, vextract, flatT, flatE, flatC, vconv, vmm, vidxA, viaddrA, vfield, vlen, elemsOf, dF32, dF64, dI64, dU8, dBool,
            dStr, esOk, elemsS, vsliceX, bnd, ownV, ownC, own1, ownT, isSl, nSl, endL, Md.isOwn, purge, purgeH, purgeB, purgeE, hasName, name1, List.any_cons, List.any_nil, Md.isWr,
            pureV.pureP, Option.map, reduceIte, Nat.reduceEqDiff, Nat.reduceAdd, Nat.reduceMul, Nat.reduceLT, Nat.reduceLeDiff, List.mapM_cons, List.mapM_nil, Option.pure_def,
            Option.bind_eq_bind, Option.bind_some, implies_true, forall_const, beq_self_eq_true, decide_true, decide_false, eq_self, Int.reduceEq, Int.reduceLE, Int.reduceLT,
            if_true, if_false, fc47_0, fc47_1, fc47_2, fc47_3, fc47_4, fc47_5, fc47_6, fc47_7, Int.reduceAdd, Int.reduceSub, Int.reduceMul, Int.reduceNeg, Int.reducePow,
            Nat.reducePow, Int.reduceToNat, Nat.reduceSub, List.replicate, Nat.reduceBEq, wAs, wA, wC, zipW, noDupN, grpE, g_spec_l00In, g_spec_l04Place, g_spec_l04Points,
            g_spec_l04Lengths, grpC, en0, dc_en0, ↓b_pick, ePk_true, ePk_false] <;> rfl); (simp only [nilS, nilV, normS,  List.map_append, List.length_append, List.map_set, List.length_set, List.map_replicate, List.length_replicate, List.map_nil, List.map_cons,
      need_iff, h, grpS, grpD, grpF, grpL, eop, vop, bop, uop, fltop, convop, endOk, newE, new1, freshL, Md.isNew, outV, pureV, pureX, pure1, AV.cells, AV.one, storable, laid,
            refless, refless1, vload, loadC, storeC, vnil, vfaddr, vextract, flatT, flatE, flatC, vconv, vmm, vidxA, viaddrA, vfield, vlen, elemsOf, dF32, dF64, dI64, dU8, dBool,
            dStr, esOk, elemsS, vsliceX, bnd, ownV, ownC, own1, ownT, isSl, nSl, endL, Md.isOwn, purge, purgeH, purgeB, purgeE, hasName, name1, List.any_cons, List.any_nil, Md.isWr,
            pureV.pureP, Option.map, reduceIte, Nat.reduceEqDiff, Nat.reduceAdd, Nat.reduceMul, Nat.reduceLT, Nat.reduceLeDiff, List.mapM_cons, List.mapM_nil, Option.pure_def,
            Option.bind_eq_bind, Option.bind_some, implies_true, forall_const, beq_self_eq_true, decide_true, decide_false, eq_self, Int.reduceEq, Int.reduceLE, Int.reduceLT,
            if_true, if_false, fc47_0, fc47_1, fc47_2, fc47_3, fc47_4, fc47_5, fc47_6, fc47_7, Int.reduceAdd, Int.reduceSub, Int.reduceMul, Int.reduceNeg, Int.reducePow,
            Nat.reducePow, Int.reduceToNat, Nat.reduceSub, List.replicate, Nat.reduceBEq, wAs, wA, wC, zipW, noDupN, grpE, g_spec_l00In, g_spec_l04Place, g_spec_l04Points,
            g_spec_l04Lengths, grpC, en0, dc_en0, ↓b_pick, ePk_true, ePk_false] <;> rfl); (simp only [h]); (
        intro st2 hw; (try simp only [reduceCtorEq, Bool.not_eq_true', decide_eq_false_iff_not, Bool.not_true, Bool.not_false, Bool.false_or, Bool.true_or, Bool.true_and, Bool.false_and, Bool.and_eq_true, Bool.or_eq_true, if_true, if_false, reduceIte, Bool.false_eq_true, and_true, true_and, false_or, or_false, decide_eq_true_eq, not_false_eq_true, not_true_eq_false] at hp); simp only [
      need_iff, h, grpS, grpD, grpF, grpL, eop, vop, bop, uop, fltop, convop, endOk, newE, new1, freshL, Md.isNew, outV, pureV, pureX, pure1, AV.cells, AV.one, storable, laid,
            refless, refless1, vload, loadC, storeC, vnil, vfaddr, vextract, flatT, flatE, flatC, vconv, vmm, vidxA, viaddrA, vfield, vlen, elemsOf, dF32, dF64, dI64, dU8, dBool,
            dStr, esOk, elemsS, vsliceX, bnd, ownV, ownC, own1, ownT, isSl, nSl, endL, Md.isOwn, purge, purgeH, purgeB, purgeE, hasName, name1, List.any_cons, List.any_nil, Md.isWr,
            pureV.pureP, Option.map, reduceIte, Nat.reduceEqDiff, Nat.reduceAdd, Nat.reduceMul, Nat.reduceLT, Nat.reduceLeDiff, List.mapM_cons, List.mapM_nil, Option.pure_def,
            Option.bind_eq_bind, Option.bind_some, implies_true, forall_const, beq_self_eq_true, decide_true, decide_false, eq_self, Int.reduceEq, Int.reduceLE, Int.reduceLT,
            if_true, if_false, fc47_0, fc47_1, fc47_2, fc47_3, fc47_4, fc47_5, fc47_6, fc47_7, Int.reduceAdd, Int.reduceSub, Int.reduceMul, Int.reduceNeg, Int.reducePow,
            Nat.reducePow, Int.reduceToNat, Nat.reduceSub, List.replicate, Nat.reduceBEq, wAs, wA, wC, zipW, noDupN, grpE, g_spec_l00In, g_spec_l04Place, g_spec_l04Points,
            g_spec_l04Lengths, grpC, en0, dc_en0, ↓b_pick, ePk_true, ePk_false]; refine KW_of hw ?_; simp only [
      need_iff, h, grpS, grpD, grpF, grpL, eop, vop, bop, uop, fltop, convop, endOk, newE, new1, freshL, Md.isNew, outV, pureV, pureX, pure1, AV.cells, AV.one, storable, laid,
            refless, refless1, vload, loadC, storeC, vnil, vfaddr, vextract, flatT, flatE, flatC, vconv, vmm, vidxA, viaddrA, vfield, vlen, elemsOf, dF32, dF64, dI64, dU8, dBool,
            dStr, esOk, elemsS, vsliceX, bnd, ownV, ownC, own1, ownT, isSl, nSl, endL, Md.isOwn, purge, purgeH, purgeB, purgeE, hasName, name1, List.any_cons, List.any_nil, Md.isWr,
            pureV.pureP, Option.map, reduceIte, Nat.reduceEqDiff, Nat.reduceAdd, Nat.reduceMul, Nat.reduceLT, Nat.reduceLeDiff, List.mapM_cons, List.mapM_nil, Option.pure_def,
            Option.bind_eq_bind, Option.bind_some, implies_true, forall_const, beq_self_eq_true, decide_true, decide_false, eq_self, Int.reduceEq, Int.reduceLE, Int.reduceLT,
            if_true, if_false, fc47_0, fc47_1, fc47_2, fc47_3, fc47_4, fc47_5, fc47_6, fc47_7, Int.reduceAdd, Int.reduceSub, Int.reduceMul, Int.reduceNeg, Int.reducePow,
            Nat.reducePow, Int.reduceToNat, Nat.reduceSub, List.replicate, Nat.reduceBEq, wAs, wA, wC, zipW, noDupN, grpE, g_spec_l00In, g_spec_l04Place, g_spec_l04Points,
            g_spec_l04Lengths, grpC, en0, dc_en0, ↓b_pick, ePk_true, ePk_false])))
    all_goals (repeat (replace h := And.right h))
    all_goals first
      | (refine eA_wk (wk_norm (ks := [0, 2, 4, 8, 9, 10, 11]) (ls := [4, 24]) ?_) (eA_cast ?_ (ih _ _ _ _ _ h h0)); (simp only [normOk, optIn, blkIn, nameIn,
      need_iff, h, grpS, grpD, grpF, grpL, eop, vop, bop, uop, fltop, convop, endOk, newE, new1, freshL, Md.isNew, outV, pureV, pureX, pure1, AV.cells, AV.one, storable, laid,
            refless, refless1, vload, loadC, storeC, vnil, vfaddr, vextract, flatT, flatE, flatC, vconv, vmm, vidxA, viaddrA, vfield, vlen, elemsOf, dF32, dF64, dI64, dU8, dBool,
            dStr, esOk, elemsS, vsliceX, bnd, ownV, ownC, own1, ownT, isSl, nSl, endL, Md.isOwn, purge, purgeH, purgeB, purgeE, hasName, name1, List.any_cons, List.any_nil, Md.isWr,
            pureV.pureP, Option.map, reduceIte, Nat.reduceEqDiff, Nat.reduceAdd, Nat.reduceMul, Nat.reduceLT, Nat.reduceLeDiff, List.mapM_cons, List.mapM_nil, Option.pure_def,
            Option.bind_eq_bind, Option.bind_some, implies_true, forall_const, beq_self_eq_true, decide_true, decide_false, eq_self, Int.reduceEq, Int.reduceLE, Int.reduceLT,
            if_true, if_false, fc47_0, fc47_1, fc47_2, fc47_3, fc47_4, fc47_5, fc47_6, fc47_7, Int.reduceAdd, Int.reduceSub, Int.reduceMul, Int.reduceNeg, Int.reducePow,
            Nat.reducePow, Int.reduceToNat, Nat.reduceSub, List.replicate, Nat.reduceBEq, wAs, wA, wC, zipW, noDupN, grpE, g_spec_l00In, g_spec_l04Place, g_spec_l04Points,
            g_spec_l04Lengths, grpC, en0, dc_en0, ↓b_pick, ePk_true, ePk_false] <;> rfl); (simp only [normS, List.map_append, List.length_append, List.map_set, List.length_set, List.map_replicate, List.length_replicate, List.map_nil, List.map_cons,
      need_iff, h, grpS, grpD, grpF, grpL, eop, vop, bop, uop, fltop, convop, endOk, newE, new1, freshL, Md.isNew, outV, pureV, pureX, pure1, AV.cells, AV.one, storable, laid,
            refless, refless1, vload, loadC, storeC, vnil, vfaddr, vextract, flatT, flatE, flatC, vconv, vmm, vidxA, viaddrA, vfield, vlen, elemsOf, dF32, dF64, dI64, dU8, dBool,
            dStr, esOk, elemsS, vsliceX, bnd, ownV, ownC, own1, ownT, isSl, nSl, endL, Md.isOwn, purge, purgeH, purgeB, purgeE, hasName, name1, List.any_cons, List.any_nil, Md.isWr,
            pureV.pureP, Option.map, reduceIte, Nat.reduceEqDiff, Nat.reduceAdd, Nat.reduceMul, Nat.reduceLT, Nat.reduceLeDiff, List.mapM_cons, List.mapM_nil, Option.pure_def,
            Option.bind_eq_bind, Option.bind_some, implies_true, forall_const, beq_self_eq_true, decide_true, decide_false, eq_self, Int.reduceEq, Int.reduceLE, Int.reduceLT,
            if_true, if_false, fc47_0, fc47_1, fc47_2, fc47_3, fc47_4, fc47_5, fc47_6, fc47_7, Int.reduceAdd, Int.reduceSub, Int.reduceMul, Int.reduceNeg, Int.reducePow,
            Nat.reducePow, Int.reduceToNat, Nat.reduceSub, List.replicate, Nat.reduceBEq, wAs, wA, wC, zipW, noDupN, grpE, g_spec_l00In, g_spec_l04Place, g_spec_l04Points,
            g_spec_l04Lengths, grpC, en0, dc_en0, ↓b_pick, ePk_true, ePk_false] <;> rfl))
      | (cases h; refine h0 _ (Wk.cast (wk_norm (ks := [9]) (ls := [24]) ?_) ?_); (simp only [normOk, optIn, blkIn, nameIn,
      grpS, grpD, grpF, grpL, eop, vop, bop, uop, fltop, convop, endOk, newE, new1, freshL, Md.isNew, outV, pureV, pureX, pure1, AV.cells, AV.one, storable, laid, refless, refless1,
            vload, loadC, storeC, vnil, vfaddr, vextract, flatT, flatE, flatC, vconv, vmm, vidxA, viaddrA, vfield, vlen, elemsOf, dF32, dF64, dI64, dU8, dBool, dStr, esOk, elemsS,
            vsliceX, bnd, ownV, ownC, own1, ownT, isSl, nSl, endL, Md.isOwn, purge, purgeH, purgeB, purgeE, hasName, name1, List.any_cons, List.any_nil, Md.isWr, pureV.pureP,
            Option.map, reduceIte, Nat.reduceEqDiff, Nat.reduceAdd, Nat.reduceMul, Nat.reduceLT, Nat.reduceLeDiff, List.mapM_cons, List.mapM_nil, Option.pure_def,
            Option.bind_eq_bind, Option.bind_some, implies_true, forall_const, beq_self_eq_true, decide_true, decide_false, eq_self, Int.reduceEq, Int.reduceLE, Int.reduceLT,
            if_true, if_false, fc47_0, fc47_1, fc47_2, fc47_3, fc47_4, fc47_5, fc47_6, fc47_7, Int.reduceAdd, Int.reduceSub, Int.reduceMul, Int.reduceNeg, Int.reducePow,
            Nat.reducePow, Int.reduceToNat, Nat.reduceSub, List.replicate, Nat.reduceBEq, wAs, wA, wC, zipW, noDupN, grpE, g_spec_l00In, g_spec_l04Place, g_spec_l04Points,
            g_spec_l04Lengths, grpC, en0, dc_en0, ↓b_pick, ePk_true, ePk_false] <;> rfl); (simp only [normS, List.map_append, List.length_append, List.map_set, List.length_set, List.map_replicate, List.length_replicate,
      grpS, grpD, grpF, grpL, eop, vop, bop, uop, fltop, convop, endOk, newE, new1, freshL, Md.isNew, outV, pureV, pureX, pure1, AV.cells, AV.one, storable, laid, refless, refless1,
            vload, loadC, storeC, vnil, vfaddr, vextract, flatT, flatE, flatC, vconv, vmm, vidxA, viaddrA, vfield, vlen, elemsOf, dF32, dF64, dI64, dU8, dBool, dStr, esOk, elemsS,
            vsliceX, bnd, ownV, ownC, own1, ownT, isSl, nSl, endL, Md.isOwn, purge, purgeH, purgeB, purgeE, hasName, name1, List.any_cons, List.any_nil, Md.isWr, pureV.pureP,
            Option.map, reduceIte, Nat.reduceEqDiff, Nat.reduceAdd, Nat.reduceMul, Nat.reduceLT, Nat.reduceLeDiff, List.mapM_cons, List.mapM_nil, Option.pure_def,
            Option.bind_eq_bind, Option.bind_some, implies_true, forall_const, beq_self_eq_true, decide_true, decide_false, eq_self, Int.reduceEq, Int.reduceLE, Int.reduceLT,
            if_true, if_false, fc47_0, fc47_1, fc47_2, fc47_3, fc47_4, fc47_5, fc47_6, fc47_7, Int.reduceAdd, Int.reduceSub, Int.reduceMul, Int.reduceNeg, Int.reducePow,
            Nat.reducePow, Int.reduceToNat, Nat.reduceSub, List.replicate, Nat.reduceBEq, wAs, wA, wC, zipW, noDupN, grpE, g_spec_l00In, g_spec_l04Place, g_spec_l04Points,
            g_spec_l04Lengths, grpC, en0, dc_en0, ↓b_pick, ePk_true, ePk_false] <;> rfl))
theorem s47 : ∀ vs r, g_spec_ReachFor vs = some r → SaysM Try.prog (.own [3]) 47 vs r := by
  intro vs r h
  unfold g_spec_ReachFor at h
  split at h
  · rename_i w0 y1 y2 y3 y4
    cases hd_y0 : decL dc_en0 w0 with
    | none => rw [hd_y0] at h; cases h
    | some y0 =>
    rw [hd_y0] at h
    obtain rfl := decL_inv dc_en0_inv hd_y0
    clear hd_y0
    dsimp only at h
    split at h
    · rename_i hp
      cases h
      refine spec_of (m := (.own [3])) (tab := tabOf [(57, wM .any g_spec_l00In), (63, wM .any g_spec_l04Place), (71, wM .any g_spec_l04Points), (72, wM (.own [1]) g_spec_l04Lengths)]) (cp := cp47) (ic := ic47) (rvl := [(.t 6), (.t 7)]) hm (tabOk_cons (m := .any) s57 (tabOk_cons (m := .any) s63 (tabOk_cons (m := .any) s71 (tabOk_cons (m := (.own [1])) s72 tabOk_nil)))) Try.func47 rfl rfl rfl (by kernel_rfl) rfl (Nat.le_of_ble_eq_true rfl) (Nat.le_of_ble_eq_true rfl) ?_
      show eA _ _ _ _
      unfold ic47
      simp only [p_spec_ReachFor, Bool.and_eq_true, Bool.or_eq_true, decide_eq_true_eq, Bool.not_eq_true', decide_eq_false_iff_not] at hp
      simp only [
          hp, grpS, grpD, grpF, grpL, eop, vop, bop, uop, fltop, convop, endOk, newE, new1, freshL, Md.isNew, outV, pureV, pureX, pure1, AV.cells, AV.one, storable, laid, refless,
                refless1, vload, loadC, storeC, vnil, vfaddr, vextract, flatT, flatE, flatC, vconv, vmm, vidxA, viaddrA, vfield, vlen, elemsOf, dF32, dF64, dI64, dU8, dBool, dStr,
                esOk, elemsS, vsliceX, bnd, ownV, ownC, own1, ownT, isSl, nSl, endL, Md.isOwn, purge, purgeH, purgeB, purgeE, hasName, name1, List.any_cons, List.any_nil, Md.isWr,
                pureV.pureP, Option.map, reduceIte, Nat.reduceEqDiff, Nat.reduceAdd, Nat.reduceMul, Nat.reduceLT, Nat.reduceLeDiff, List.mapM_cons, List.mapM_nil, Option.pure_def,
                Option.bind_eq_bind, Option.bind_some, implies_true, forall_const, beq_self_eq_true, decide_true, decide_false, eq_self, Int.reduceEq, Int.reduceLE, Int.reduceLT,
                if_true, if_false, fc47_0, fc47_1, fc47_2, fc47_3, fc47_4, fc47_5, fc47_6, fc47_7, Int.reduceAdd, Int.reduceSub, Int.reduceMul, Int.reduceNeg, Int.reducePow,
                Nat.reducePow, Int.reduceToNat, Nat.reduceSub, List.replicate, Nat.reduceBEq, wAs, wA, wC, zipW, noDupN, grpE, g_spec_l00In, g_spec_l04Place, g_spec_l04Points,
                g_spec_l04Lengths, grpC, en0, dc_en0, ↓b_pick, ePk_true, ePk_false]
      repeat' (first
        | ((first | (refine eGI_of (fun h => ?_) (fun h => ?_)) | (refine eCc_of (fun h => ?_) (fun h => ?_)) | (refine ePk_of (fun h => ?_) (fun h => ?_)) | (have h := True.intro; refine KW_refl ?_)) <;> (try simp only [Bool.not_eq_true', Bool.not_eq_false'] at h) <;> (try simp only [h, reduceCtorEq, Bool.not_eq_true', decide_eq_false_iff_not, Bool.not_true, Bool.not_false, Bool.false_or, Bool.true_or, Bool.true_and, Bool.false_and, Bool.and_eq_true, Bool.or_eq_true, if_true, if_false, reduceIte, Bool.false_eq_true, and_true, true_and, false_or, or_false, decide_eq_true_eq, not_false_eq_true, not_true_eq_false] at hp) <;> (try (have h2 := h; simp only [decide_eq_true_eq, decide_eq_false_iff_not] at h2; (first | (replace h2 := eq_false h2) | (replace h2 := eq_true h2)); simp only [h2, if_true, if_false, false_or, true_or, or_true, or_false, and_true, true_and, not_false_eq_true, not_true_eq_false] at hp)) <;> simp only [h,
          hp, grpS, grpD, grpF, grpL, eop, vop, bop, uop, fltop, convop, endOk, newE, new1, freshL, Md.isNew, outV, pureV, pureX, pure1, AV.cells, AV.one, storable, laid, refless,
                refless1, vload, loadC, storeC, vnil, vfaddr, vextract, flatT, flatE, flatC, vconv, vmm, vidxA, viaddrA, vfield, vlen, elemsOf, dF32, dF64, dI64, dU8, dBool, dStr,
                esOk, elemsS, vsliceX, bnd, ownV, ownC, own1, ownT, isSl, nSl, endL, Md.isOwn, purge, purgeH, purgeB, purgeE, hasName, name1, List.any_cons, List.any_nil, Md.isWr,
                pureV.pureP, Option.map, reduceIte, Nat.reduceEqDiff, Nat.reduceAdd, Nat.reduceMul, Nat.reduceLT, Nat.reduceLeDiff, List.mapM_cons, List.mapM_nil, Option.pure_def,
                Option.bind_eq_bind, Option.bind_some, implies_true, forall_const, beq_self_eq_true, decide_true, decide_false, eq_self, Int.reduceEq, Int.reduceLE, Int.reduceLT,
                if_true, if_false, fc47_0, fc47_1, fc47_2, fc47_3, fc47_4, fc47_5, fc47_6, fc47_7, Int.reduceAdd, Int.reduceSub, Int.reduceMul, Int.reduceNeg, Int.reducePow,
                Nat.reducePow, Int.reduceToNat, Nat.reduceSub, List.replicate, Nat.reduceBEq, wAs, wA, wC, zipW, noDupN, grpE, g_spec_l00In, g_spec_l04Place, g_spec_l04Points,
                g_spec_l04Lengths, grpC, en0, dc_en0, ↓b_pick, ePk_true, ePk_false])
        | (refine eA_wk (wk_norm (ks := [0, 2, 4, 8, 9, 10, 11]) (ls := [4, 24]) ?_) (eA_cast ?_ (sl47_2 y0 y4 _ _ _ _ _ _ (getD_some (d := default) (x := (l_spec_ReachFor_2 y0 y4 (Int.toNat (y4 - 0) + 2) (y1, y2, y3) y0 0)) ?_) ?_)); (simp only [nilS, nilV, normOk, optIn, blkIn, nameIn, 
          hp, grpS, grpD, grpF, grpL, eop, vop, bop, uop, fltop, convop, endOk, newE, new1, freshL, Md.isNew, outV, pureV, pureX, pure1, AV.cells, AV.one, storable, laid, refless,
                refless1, vload, loadC, storeC, vnil, vfaddr, vextract, flatT, flatE, flatC, vconv, vmm, vidxA, viaddrA, vfield, vlen, elemsOf, dF32, dF64, dI64, dU8, dBool, dStr,
                esOk, elemsS, vsliceX, bnd, ownV, ownC, own1, ownT, isSl, nSl, endL, Md.isOwn, purge, purgeH, purgeB, purgeE, hasName, name1, List.any_cons, List.any_nil, Md.isWr,
                pureV.pureP, Option.map, reduceIte, Nat.reduceEqDiff, Nat.reduceAdd, Nat.reduceMul, Nat.reduceLT, Nat.reduceLeDiff, List.mapM_cons, List.mapM_nil, Option.pure_def,
                Option.bind_eq_bind, Option.bind_some, implies_true, forall_const, beq_self_eq_true, decide_true, decide_false, eq_self, Int.reduceEq, Int.reduceLE, Int.reduceLT,
                if_true, if_false, fc47_0, fc47_1, fc47_2, fc47_3, fc47_4, fc47_5, fc47_6, fc47_7, Int.reduceAdd, Int.reduceSub, Int.reduceMul, Int.reduceNeg, Int.reducePow,
                Nat.reducePow, Int.reduceToNat, Nat.reduceSub, List.replicate, Nat.reduceBEq, wAs, wA, wC, zipW, noDupN, grpE, g_spec_l00In, g_spec_l04Place, g_spec_l04Points,
                g_spec_l04Lengths, grpC, en0, dc_en0, ↓b_pick, ePk_true, ePk_false] <;> rfl); (simp only [nilS, nilV, normS,  List.map_append, List.length_append, List.map_set, List.length_set, List.map_replicate, List.length_replicate, List.map_nil, List.map_cons,
          hp, grpS, grpD, grpF, grpL, eop, vop, bop, uop, fltop, convop, endOk, newE, new1, freshL, Md.isNew, outV, pureV, pureX, pure1, AV.cells, AV.one, storable, laid, refless,
                refless1, vload, loadC, storeC, vnil, vfaddr, vextract, flatT, flatE, flatC, vconv, vmm, vidxA, viaddrA, vfield, vlen, elemsOf, dF32, dF64, dI64, dU8, dBool, dStr,
                esOk, elemsS, vsliceX, bnd, ownV, ownC, own1, ownT, isSl, nSl, endL, Md.isOwn, purge, purgeH, purgeB, purgeE, hasName, name1, List.any_cons, List.any_nil, Md.isWr,
                pureV.pureP, Option.map, reduceIte, Nat.reduceEqDiff, Nat.reduceAdd, Nat.reduceMul, Nat.reduceLT, Nat.reduceLeDiff, List.mapM_cons, List.mapM_nil, Option.pure_def,
                Option.bind_eq_bind, Option.bind_some, implies_true, forall_const, beq_self_eq_true, decide_true, decide_false, eq_self, Int.reduceEq, Int.reduceLE, Int.reduceLT,
                if_true, if_false, fc47_0, fc47_1, fc47_2, fc47_3, fc47_4, fc47_5, fc47_6, fc47_7, Int.reduceAdd, Int.reduceSub, Int.reduceMul, Int.reduceNeg, Int.reducePow,
                Nat.reducePow, Int.reduceToNat, Nat.reduceSub, List.replicate, Nat.reduceBEq, wAs, wA, wC, zipW, noDupN, grpE, g_spec_l00In, g_spec_l04Place, g_spec_l04Points,
                g_spec_l04Lengths, grpC, en0, dc_en0, ↓b_pick, ePk_true, ePk_false] <;> rfl); (simp only [hp]); (
        intro st2 hw; (try simp only [reduceCtorEq, Bool.not_eq_true', decide_eq_false_iff_not, Bool.not_true, Bool.not_false, Bool.false_or, Bool.true_or, Bool.true_and, Bool.false_and, Bool.and_eq_true, Bool.or_eq_true, if_true, if_false, reduceIte, Bool.false_eq_true, and_true, true_and, false_or, or_false, decide_eq_true_eq, not_false_eq_true, not_true_eq_false] at hp); simp only [
          hp, grpS, grpD, grpF, grpL, eop, vop, bop, uop, fltop, convop, endOk, newE, new1, freshL, Md.isNew, outV, pureV, pureX, pure1, AV.cells, AV.one, storable, laid, refless,
                refless1, vload, loadC, storeC, vnil, vfaddr, vextract, flatT, flatE, flatC, vconv, vmm, vidxA, viaddrA, vfield, vlen, elemsOf, dF32, dF64, dI64, dU8, dBool, dStr,
                esOk, elemsS, vsliceX, bnd, ownV, ownC, own1, ownT, isSl, nSl, endL, Md.isOwn, purge, purgeH, purgeB, purgeE, hasName, name1, List.any_cons, List.any_nil, Md.isWr,
                pureV.pureP, Option.map, reduceIte, Nat.reduceEqDiff, Nat.reduceAdd, Nat.reduceMul, Nat.reduceLT, Nat.reduceLeDiff, List.mapM_cons, List.mapM_nil, Option.pure_def,
                Option.bind_eq_bind, Option.bind_some, implies_true, forall_const, beq_self_eq_true, decide_true, decide_false, eq_self, Int.reduceEq, Int.reduceLE, Int.reduceLT,
                if_true, if_false, fc47_0, fc47_1, fc47_2, fc47_3, fc47_4, fc47_5, fc47_6, fc47_7, Int.reduceAdd, Int.reduceSub, Int.reduceMul, Int.reduceNeg, Int.reducePow,
                Nat.reducePow, Int.reduceToNat, Nat.reduceSub, List.replicate, Nat.reduceBEq, wAs, wA, wC, zipW, noDupN, grpE, g_spec_l00In, g_spec_l04Place, g_spec_l04Points,
                g_spec_l04Lengths, grpC, en0, dc_en0, ↓b_pick, ePk_true, ePk_false]; refine KW_of hw ?_; simp only [
          hp, grpS, grpD, grpF, grpL, eop, vop, bop, uop, fltop, convop, endOk, newE, new1, freshL, Md.isNew, outV, pureV, pureX, pure1, AV.cells, AV.one, storable, laid, refless,
                refless1, vload, loadC, storeC, vnil, vfaddr, vextract, flatT, flatE, flatC, vconv, vmm, vidxA, viaddrA, vfield, vlen, elemsOf, dF32, dF64, dI64, dU8, dBool, dStr,
                esOk, elemsS, vsliceX, bnd, ownV, ownC, own1, ownT, isSl, nSl, endL, Md.isOwn, purge, purgeH, purgeB, purgeE, hasName, name1, List.any_cons, List.any_nil, Md.isWr,
                pureV.pureP, Option.map, reduceIte, Nat.reduceEqDiff, Nat.reduceAdd, Nat.reduceMul, Nat.reduceLT, Nat.reduceLeDiff, List.mapM_cons, List.mapM_nil, Option.pure_def,
                Option.bind_eq_bind, Option.bind_some, implies_true, forall_const, beq_self_eq_true, decide_true, decide_false, eq_self, Int.reduceEq, Int.reduceLE, Int.reduceLT,
                if_true, if_false, fc47_0, fc47_1, fc47_2, fc47_3, fc47_4, fc47_5, fc47_6, fc47_7, Int.reduceAdd, Int.reduceSub, Int.reduceMul, Int.reduceNeg, Int.reducePow,
                Nat.reducePow, Int.reduceToNat, Nat.reduceSub, List.replicate, Nat.reduceBEq, wAs, wA, wC, zipW, noDupN, grpE, g_spec_l00In, g_spec_l04Place, g_spec_l04Points,
                g_spec_l04Lengths, grpC, en0, dc_en0, ↓b_pick, ePk_true, ePk_false])))
      all_goals (try simp only [*, m_spec_ReachFor, Bool.and_true, Bool.true_and, Bool.and_false, Bool.false_and, Bool.or_true, Bool.true_or, Bool.or_false, Bool.false_or, Bool.not_true, Bool.not_false, Bool.false_eq_true, if_true, if_false, reduceIte, decide_true, decide_false])
      all_goals (try (simp_all; done))
    · cases h
  · cases h
def m_impl_arePoints (x0 : (List (Nat × Nat × Nat))) : Bool := (if (decide (2 ≤ ((List.length x0 : Nat) : Int))) = true then (decide (((List.length x0 : Nat) : Int) ≤ 16)) else
      false)
def g_impl_arePoints : List AV → Option AV
  | [.sl w0] => (match decL dc_en0 w0 with | some y0 => (some (.bool (m_impl_arePoints y0))) | none => none)
  | _ => none
def ic73 : ICode := (.seq (.reg [⟨(some 2), none, (.mov (.c (.bool false)))⟩] [0]) (.seq (.reg [⟨(some 3), none, (.mov (.t 0))⟩, ⟨(some 4), none, (.len false (.t 3))⟩, ⟨(some 5),
      none, (.bin .geq false (.t 4) (.c (.int .i64 2)))⟩, ⟨(some 6), none, (.mov (.t 5))⟩, ⟨(some 7), (some (6, true)), (.mov (.t 0))⟩, ⟨(some 8), (some (6, true)), (.len false (.t
      7))⟩, ⟨(some 9), (some (6, true)), (.bin .leq false (.t 8) (.c (.int .i64 16)))⟩, ⟨(some 10), none, (.pick (.t 6) (.t 9) (.c (.bool false)))⟩, ⟨(some 2), none, (.mov (.t
      10))⟩] [2]) .ret))
def cp73 : CP := CP.mk [] [] [[0], [2]] 11
theorem fc73_0 : IntKind.wrap .i64 0 = 0 := by decide
theorem fc73_1 : IntKind.wrap .i64 1 = 1 := by decide
theorem fc73_2 : IntKind.wrap .i64 2 = 2 := by decide
theorem fc73_3 : IntKind.wrap .i64 3 = 3 := by decide
theorem fc73_4 : IntKind.wrap .i64 4 = 4 := by decide
theorem fc73_5 : IntKind.wrap .i64 5 = 5 := by decide
theorem fc73_6 : IntKind.wrap .i64 6 = 6 := by decide
theorem fc73_7 : IntKind.wrap .i64 7 = 7 := by decide
theorem s73 : ∀ vs r, g_impl_arePoints vs = some r → SaysM Try.prog .any 73 vs r := by
  intro vs r h
  unfold g_impl_arePoints at h
  split at h
  · rename_i w0
    cases hd_y0 : decL dc_en0 w0 with
    | none => rw [hd_y0] at h; cases h
    | some y0 =>
    rw [hd_y0] at h
    obtain rfl := decL_inv dc_en0_inv hd_y0
    clear hd_y0
    dsimp only at h
    cases h
    refine spec_of (m := .any) (tab := tabOf []) (cp := cp73) (ic := ic73) (rvl := [(.t 2)]) hm tabOk_nil Try.func73 rfl rfl rfl (by kernel_rfl) rfl (Nat.le_of_ble_eq_true rfl) (Nat.le_of_ble_eq_true rfl) ?_
    show eA _ _ _ _
    unfold ic73
    simp only [
        grpS, grpD, grpF, grpL, eop, vop, bop, uop, fltop, convop, endOk, newE, new1, freshL, Md.isNew, outV, pureV, pureX, pure1, AV.cells, AV.one, storable, laid, refless,
              refless1, vload, loadC, storeC, vnil, vfaddr, vextract, flatT, flatE, flatC, vconv, vmm, vidxA, viaddrA, vfield, vlen, elemsOf, dF32, dF64, dI64, dU8, dBool, dStr,
              esOk, elemsS, vsliceX, bnd, ownV, ownC, own1, ownT, isSl, nSl, endL, Md.isOwn, purge, purgeH, purgeB, purgeE, hasName, name1, List.any_cons, List.any_nil, Md.isWr,
              pureV.pureP, Option.map, reduceIte, Nat.reduceEqDiff, Nat.reduceAdd, Nat.reduceMul, Nat.reduceLT, Nat.reduceLeDiff, List.mapM_cons, List.mapM_nil, Option.pure_def,
              Option.bind_eq_bind, Option.bind_some, implies_true, forall_const, beq_self_eq_true, decide_true, decide_false, eq_self, Int.reduceEq, Int.reduceLE, Int.reduceLT,
              if_true, if_false, fc73_0, fc73_1, fc73_2, fc73_3, fc73_4, fc73_5, fc73_6, fc73_7, Int.reduceAdd, Int.reduceSub, Int.reduceMul, Int.reduceNeg, Int.reducePow,
              Nat.reducePow, Int.reduceToNat, Nat.reduceSub, List.replicate, Nat.reduceBEq, wAs, wA, wC, zipW, noDupN, grpE, grpC, en0, dc_en0, ↓b_pick, ePk_true, ePk_false]
    repeat' (first
      | ((first | (refine eGI_of (fun h => ?_) (fun h => ?_)) | (refine eCc_of (fun h => ?_) (fun h => ?_)) | (refine ePk_of (fun h => ?_) (fun h => ?_))) <;> (try simp only [Bool.not_eq_true', Bool.not_eq_false'] at h) <;> simp only [h,
        grpS, grpD, grpF, grpL, eop, vop, bop, uop, fltop, convop, endOk, newE, new1, freshL, Md.isNew, outV, pureV, pureX, pure1, AV.cells, AV.one, storable, laid, refless,
              refless1, vload, loadC, storeC, vnil, vfaddr, vextract, flatT, flatE, flatC, vconv, vmm, vidxA, viaddrA, vfield, vlen, elemsOf, dF32, dF64, dI64, dU8, dBool, dStr,
              esOk, elemsS, vsliceX, bnd, ownV, ownC, own1, ownT, isSl, nSl, endL, Md.isOwn, purge, purgeH, purgeB, purgeE, hasName, name1, List.any_cons, List.any_nil, Md.isWr,
              pureV.pureP, Option.map, reduceIte, Nat.reduceEqDiff, Nat.reduceAdd, Nat.reduceMul, Nat.reduceLT, Nat.reduceLeDiff, List.mapM_cons, List.mapM_nil, Option.pure_def,
              Option.bind_eq_bind, Option.bind_some, implies_true, forall_const, beq_self_eq_true, decide_true, decide_false, eq_self, Int.reduceEq, Int.reduceLE, Int.reduceLT,
              if_true, if_false, fc73_0, fc73_1, fc73_2, fc73_3, fc73_4, fc73_5, fc73_6, fc73_7, Int.reduceAdd, Int.reduceSub, Int.reduceMul, Int.reduceNeg, Int.reducePow,
              Nat.reducePow, Int.reduceToNat, Nat.reduceSub, List.replicate, Nat.reduceBEq, wAs, wA, wC, zipW, noDupN, grpE, grpC, en0, dc_en0, ↓b_pick, ePk_true, ePk_false]))
    all_goals (try simp only [*, m_impl_arePoints, Bool.and_true, Bool.true_and, Bool.and_false, Bool.false_and, Bool.or_true, Bool.true_or, Bool.or_false, Bool.false_or, Bool.not_true, Bool.not_false, Bool.false_eq_true, if_true, if_false, reduceIte, decide_true, decide_false])
    all_goals (try (simp_all; done))
  · cases h
def m_impl_LessVectors (x0 : (Nat × Nat × Nat)) (x1 : (Nat × Nat × Nat)) : (Nat × Nat × Nat) := ((fsub .f32 x0.1 x1.1), (fsub .f32 x0.2.1 x1.2.1), (fsub .f32 x0.2.2 x1.2.2))
def g_impl_LessVectors : List AV → Option AV
  | [.agg [.flt .f32 y0, .flt .f32 y1, .flt .f32 y2], .agg [.flt .f32 y3, .flt .f32 y4, .flt .f32 y5]] => some (AV.agg [(.flt .f32
      (m_impl_LessVectors (y0, y1, y2) (y3, y4, y5)).1), (.flt .f32 (m_impl_LessVectors (y0, y1, y2) (y3, y4, y5)).2.1), (.flt .f32 (m_impl_LessVectors (y0, y1, y2) (y3, y4,
      y5)).2.2)])
  | _ => none
def ic64 : ICode := (.seq (.reg [⟨(some 2), none, (.box 3 (.t 0))⟩, ⟨(some 3), none, (.box 3 (.t 1))⟩, ⟨(some 4), none, (.alloc (.agg [(.flt .f32 0), (.flt .f32 0), (.flt .f32
      0)]))⟩] [2, 3, 4]) (.seq (.reg [⟨(some 5), none, (.faddr 0 (.t 2))⟩, ⟨(some 6), none, (.load none (.t 5))⟩, ⟨(some 7), none, (.faddr 0 (.t 3))⟩, ⟨(some 8), none, (.load none
      (.t 7))⟩, ⟨(some 9), none, (.bin .sub false (.t 6) (.t 8))⟩, ⟨(some 10), none, (.faddr 1 (.t 2))⟩, ⟨(some 11), none, (.load none (.t 10))⟩, ⟨(some 12), none, (.faddr 1 (.t
      3))⟩, ⟨(some 13), none, (.load none (.t 12))⟩, ⟨(some 14), none, (.bin .sub false (.t 11) (.t 13))⟩, ⟨(some 15), none, (.faddr 2 (.t 2))⟩, ⟨(some 16), none, (.load none (.t
      15))⟩, ⟨(some 17), none, (.faddr 2 (.t 3))⟩, ⟨(some 18), none, (.load none (.t 17))⟩, ⟨(some 19), none, (.bin .sub false (.t 16) (.t 18))⟩, ⟨(some 20), none, (.build [(.flt
      .f32 0), (.flt .f32 0), (.flt .f32 0)] [(0, 1, (.t 9)), (1, 1, (.t 14)), (2, 1, (.t 19))])⟩, ⟨none, none, (.store 3 (.t 4) (.t 20))⟩] [4]) .ret))
def cp64 : CP := CP.mk [] [] [[2, 3, 4], [4]] 21
theorem fc64_0 : IntKind.wrap .i64 0 = 0 := by decide
theorem fc64_1 : IntKind.wrap .i64 1 = 1 := by decide
theorem fc64_2 : IntKind.wrap .i64 2 = 2 := by decide
theorem fc64_3 : IntKind.wrap .i64 3 = 3 := by decide
theorem fc64_4 : IntKind.wrap .i64 4 = 4 := by decide
theorem fc64_5 : IntKind.wrap .i64 5 = 5 := by decide
theorem fc64_6 : IntKind.wrap .i64 6 = 6 := by decide
theorem fc64_7 : IntKind.wrap .i64 7 = 7 := by decide
theorem s64 : ∀ vs r, g_impl_LessVectors vs = some r → SaysM Try.prog .any 64 vs r := by
  intro vs r h
  unfold g_impl_LessVectors at h
  split at h
  · rename_i y0 y1 y2 y3 y4 y5
    cases h
    refine spec_of (m := .any) (tab := tabOf []) (cp := cp64) (ic := ic64) (rvl := [(.c 4 (some 3))]) hm tabOk_nil Try.func64 rfl rfl rfl (by kernel_rfl) rfl (Nat.le_of_ble_eq_true rfl) (Nat.le_of_ble_eq_true rfl) ?_
    show eA _ _ _ _
    unfold ic64
    simp only [
        grpS, grpD, grpF, grpL, eop, vop, bop, uop, fltop, convop, endOk, newE, new1, freshL, Md.isNew, outV, pureV, pureX, pure1, AV.cells, AV.one, storable, laid, refless,
              refless1, vload, loadC, storeC, vnil, vfaddr, vextract, flatT, flatE, flatC, vconv, vmm, vidxA, viaddrA, vfield, vlen, elemsOf, dF32, dF64, dI64, dU8, dBool, dStr,
              esOk, elemsS, vsliceX, bnd, ownV, ownC, own1, ownT, isSl, nSl, endL, Md.isOwn, purge, purgeH, purgeB, purgeE, hasName, name1, List.any_cons, List.any_nil, Md.isWr,
              pureV.pureP, Option.map, reduceIte, Nat.reduceEqDiff, Nat.reduceAdd, Nat.reduceMul, Nat.reduceLT, Nat.reduceLeDiff, List.mapM_cons, List.mapM_nil, Option.pure_def,
              Option.bind_eq_bind, Option.bind_some, implies_true, forall_const, beq_self_eq_true, decide_true, decide_false, eq_self, Int.reduceEq, Int.reduceLE, Int.reduceLT,
              if_true, if_false, fc64_0, fc64_1, fc64_2, fc64_3, fc64_4, fc64_5, fc64_6, fc64_7, Int.reduceAdd, Int.reduceSub, Int.reduceMul, Int.reduceNeg, Int.reducePow,
              Nat.reducePow, Int.reduceToNat, Nat.reduceSub, List.replicate, Nat.reduceBEq, wAs, wA, wC, zipW, noDupN, grpE, grpC, en0, dc_en0]
    repeat' (first
      | ((first | (refine eGI_of (fun h => ?_) (fun h => ?_)) | (refine eCc_of (fun h => ?_) (fun h => ?_))) <;> (try simp only [Bool.not_eq_true', Bool.not_eq_false'] at h) <;> simp only [h,
        grpS, grpD, grpF, grpL, eop, vop, bop, uop, fltop, convop, endOk, newE, new1, freshL, Md.isNew, outV, pureV, pureX, pure1, AV.cells, AV.one, storable, laid, refless,
              refless1, vload, loadC, storeC, vnil, vfaddr, vextract, flatT, flatE, flatC, vconv, vmm, vidxA, viaddrA, vfield, vlen, elemsOf, dF32, dF64, dI64, dU8, dBool, dStr,
              esOk, elemsS, vsliceX, bnd, ownV, ownC, own1, ownT, isSl, nSl, endL, Md.isOwn, purge, purgeH, purgeB, purgeE, hasName, name1, List.any_cons, List.any_nil, Md.isWr,
              pureV.pureP, Option.map, reduceIte, Nat.reduceEqDiff, Nat.reduceAdd, Nat.reduceMul, Nat.reduceLT, Nat.reduceLeDiff, List.mapM_cons, List.mapM_nil, Option.pure_def,
              Option.bind_eq_bind, Option.bind_some, implies_true, forall_const, beq_self_eq_true, decide_true, decide_false, eq_self, Int.reduceEq, Int.reduceLE, Int.reduceLT,
              if_true, if_false, fc64_0, fc64_1, fc64_2, fc64_3, fc64_4, fc64_5, fc64_6, fc64_7, Int.reduceAdd, Int.reduceSub, Int.reduceMul, Int.reduceNeg, Int.reducePow,
              Nat.reducePow, Int.reduceToNat, Nat.reduceSub, List.replicate, Nat.reduceBEq, wAs, wA, wC, zipW, noDupN, grpE, grpC, en0, dc_en0]))
    all_goals (try simp only [*, m_impl_LessVectors, Bool.and_true, Bool.true_and, Bool.and_false, Bool.false_and, Bool.or_true, Bool.true_or, Bool.or_false, Bool.false_or, Bool.not_true, Bool.not_false, Bool.false_eq_true, if_true, if_false, reduceIte, decide_true, decide_false])
    all_goals (try (simp_all; done))
  · cases h
def m_impl_InnerOf (x0 : (Nat × Nat × Nat)) (x1 : (Nat × Nat × Nat)) : Nat := (fadd .f32 (fadd .f32 (fmul .f32 x0.1 x1.1) (fmul .f32 x0.2.1 x1.2.1)) (fmul .f32 x0.2.2 x1.2.2))
def g_impl_InnerOf : List AV → Option AV
  | [.agg [.flt .f32 y0, .flt .f32 y1, .flt .f32 y2], .agg [.flt .f32 y3, .flt .f32 y4, .flt .f32 y5]] => some (.flt .f32 (m_impl_InnerOf
      (y0, y1, y2) (y3, y4, y5)))
  | _ => none
def ic93 : ICode := (.seq (.reg [⟨(some 2), none, (.box 3 (.t 0))⟩, ⟨(some 3), none, (.box 3 (.t 1))⟩, ⟨(some 4), none, (.mov (.c (.flt .f32 0)))⟩] [2, 3]) (.seq (.reg [⟨(some 5),
      none, (.faddr 0 (.t 2))⟩, ⟨(some 6), none, (.load none (.t 5))⟩, ⟨(some 7), none, (.faddr 0 (.t 3))⟩, ⟨(some 8), none, (.load none (.t 7))⟩, ⟨(some 9), none, (.bin .mul false
      (.t 6) (.t 8))⟩, ⟨(some 10), none, (.faddr 1 (.t 2))⟩, ⟨(some 11), none, (.load none (.t 10))⟩, ⟨(some 12), none, (.faddr 1 (.t 3))⟩, ⟨(some 13), none, (.load none (.t 12))⟩,
      ⟨(some 14), none, (.bin .mul false (.t 11) (.t 13))⟩, ⟨(some 15), none, (.bin .add false (.t 9) (.t 14))⟩, ⟨(some 16), none, (.faddr 2 (.t 2))⟩, ⟨(some 17), none, (.load none
      (.t 16))⟩, ⟨(some 18), none, (.faddr 2 (.t 3))⟩, ⟨(some 19), none, (.load none (.t 18))⟩, ⟨(some 20), none, (.bin .mul false (.t 17) (.t 19))⟩, ⟨(some 21), none, (.bin .add
      false (.t 15) (.t 20))⟩, ⟨(some 4), none, (.mov (.t 21))⟩] [4]) .ret))
def cp93 : CP := CP.mk [] [] [[2, 3], [4]] 22
theorem fc93_0 : IntKind.wrap .i64 0 = 0 := by decide
theorem fc93_1 : IntKind.wrap .i64 1 = 1 := by decide
theorem fc93_2 : IntKind.wrap .i64 2 = 2 := by decide
theorem fc93_3 : IntKind.wrap .i64 3 = 3 := by decide
theorem fc93_4 : IntKind.wrap .i64 4 = 4 := by decide
theorem fc93_5 : IntKind.wrap .i64 5 = 5 := by decide
theorem fc93_6 : IntKind.wrap .i64 6 = 6 := by decide
theorem fc93_7 : IntKind.wrap .i64 7 = 7 := by decide
theorem s93 : ∀ vs r, g_impl_InnerOf vs = some r → SaysM Try.prog .any 93 vs r := by
  intro vs r h
  unfold g_impl_InnerOf at h
  split at h
  · rename_i y0 y1 y2 y3 y4 y5
    cases h
    refine spec_of (m := .any) (tab := tabOf []) (cp := cp93) (ic := ic93) (rvl := [(.t 4)]) hm tabOk_nil Try.func93 rfl rfl rfl (by kernel_rfl) rfl (Nat.le_of_ble_eq_true rfl) (Nat.le_of_ble_eq_true rfl) ?_
    show eA _ _ _ _
    unfold ic93
    simp only [
        grpS, grpD, grpF, grpL, eop, vop, bop, uop, fltop, convop, endOk, newE, new1, freshL, Md.isNew, outV, pureV, pureX, pure1, AV.cells, AV.one, storable, laid, refless,
              refless1, vload, loadC, storeC, vnil, vfaddr, vextract, flatT, flatE, flatC, vconv, vmm, vidxA, viaddrA, vfield, vlen, elemsOf, dF32, dF64, dI64, dU8, dBool, dStr,
              esOk, elemsS, vsliceX, bnd, ownV, ownC, own1, ownT, isSl, nSl, endL, Md.isOwn, purge, purgeH, purgeB, purgeE, hasName, name1, List.any_cons, List.any_nil, Md.isWr,
              pureV.pureP, Option.map, reduceIte, Nat.reduceEqDiff, Nat.reduceAdd, Nat.reduceMul, Nat.reduceLT, Nat.reduceLeDiff, List.mapM_cons, List.mapM_nil, Option.pure_def,
              Option.bind_eq_bind, Option.bind_some, implies_true, forall_const, beq_self_eq_true, decide_true, decide_false, eq_self, Int.reduceEq, Int.reduceLE, Int.reduceLT,
              if_true, if_false, fc93_0, fc93_1, fc93_2, fc93_3, fc93_4, fc93_5, fc93_6, fc93_7, Int.reduceAdd, Int.reduceSub, Int.reduceMul, Int.reduceNeg, Int.reducePow,
              Nat.reducePow, Int.reduceToNat, Nat.reduceSub, List.replicate, Nat.reduceBEq, wAs, wA, wC, zipW, noDupN, grpE, grpC, en0, dc_en0]
    repeat' (first
      | ((first | (refine eGI_of (fun h => ?_) (fun h => ?_)) | (refine eCc_of (fun h => ?_) (fun h => ?_))) <;> (try simp only [Bool.not_eq_true', Bool.not_eq_false'] at h) <;> simp only [h,
        grpS, grpD, grpF, grpL, eop, vop, bop, uop, fltop, convop, endOk, newE, new1, freshL, Md.isNew, outV, pureV, pureX, pure1, AV.cells, AV.one, storable, laid, refless,
              refless1, vload, loadC, storeC, vnil, vfaddr, vextract, flatT, flatE, flatC, vconv, vmm, vidxA, viaddrA, vfield, vlen, elemsOf, dF32, dF64, dI64, dU8, dBool, dStr,
              esOk, elemsS, vsliceX, bnd, ownV, ownC, own1, ownT, isSl, nSl, endL, Md.isOwn, purge, purgeH, purgeB, purgeE, hasName, name1, List.any_cons, List.any_nil, Md.isWr,
              pureV.pureP, Option.map, reduceIte, Nat.reduceEqDiff, Nat.reduceAdd, Nat.reduceMul, Nat.reduceLT, Nat.reduceLeDiff, List.mapM_cons, List.mapM_nil, Option.pure_def,
              Option.bind_eq_bind, Option.bind_some, implies_true, forall_const, beq_self_eq_true, decide_true, decide_false, eq_self, Int.reduceEq, Int.reduceLE, Int.reduceLT,
              if_true, if_false, fc93_0, fc93_1, fc93_2, fc93_3, fc93_4, fc93_5, fc93_6, fc93_7, Int.reduceAdd, Int.reduceSub, Int.reduceMul, Int.reduceNeg, Int.reducePow,
              Nat.reducePow, Int.reduceToNat, Nat.reduceSub, List.replicate, Nat.reduceBEq, wAs, wA, wC, zipW, noDupN, grpE, grpC, en0, dc_en0]))
    all_goals (try simp only [*, m_impl_InnerOf, Bool.and_true, Bool.true_and, Bool.and_false, Bool.false_and, Bool.or_true, Bool.true_or, Bool.or_false, Bool.false_or, Bool.not_true, Bool.not_false, Bool.false_eq_true, if_true, if_false, reduceIte, decide_true, decide_false])
    all_goals (try (simp_all; done))
  · cases h
def m_impl_RootNumber (x0 : Nat) : Nat := (narrow (m_math_Sqrt (widen x0)))
def p_impl_RootNumber (x0 : Nat) : Bool := (narrowOk (m_math_Sqrt (widen x0)))
def g_impl_RootNumber : List AV → Option AV
  | [.flt .f32 y0] => if p_impl_RootNumber y0 = true then some (.flt .f32 (m_impl_RootNumber y0)) else none
  | _ => none
def ic92 : ICode := (.seq (.reg [⟨(some 2), none, (.mov (.c (.flt .f32 0)))⟩] [0]) (.seq (.reg [⟨(some 3), none, (.mov (.t 0))⟩, ⟨(some 4), none, (.conv (.flt .f64) (.t 3))⟩, ⟨(some
      5), none, (.call (.fn 104) [(.t 4)] [])⟩, ⟨(some 6), none, (.conv (.flt .f32) (.t 5))⟩, ⟨(some 2), none, (.mov (.t 6))⟩] [2]) .ret))
def cp92 : CP := CP.mk [] [] [[0], [2]] 7
theorem fc92_0 : IntKind.wrap .i64 0 = 0 := by decide
theorem fc92_1 : IntKind.wrap .i64 1 = 1 := by decide
theorem fc92_2 : IntKind.wrap .i64 2 = 2 := by decide
theorem fc92_3 : IntKind.wrap .i64 3 = 3 := by decide
theorem fc92_4 : IntKind.wrap .i64 4 = 4 := by decide
theorem fc92_5 : IntKind.wrap .i64 5 = 5 := by decide
theorem fc92_6 : IntKind.wrap .i64 6 = 6 := by decide
theorem fc92_7 : IntKind.wrap .i64 7 = 7 := by decide
theorem s92 : ∀ vs r, g_impl_RootNumber vs = some r → SaysM Try.prog .any 92 vs r := by
  intro vs r h
  unfold g_impl_RootNumber at h
  split at h
  · rename_i y0
    split at h
    · rename_i hp
      cases h
      refine spec_of (m := .any) (tab := tabOf [(104, wM .any g_math_Sqrt)]) (cp := cp92) (ic := ic92) (rvl := [(.t 2)]) hm (tabOk_cons (m := .any) s104 tabOk_nil) Try.func92 rfl rfl rfl (by kernel_rfl) rfl (Nat.le_of_ble_eq_true rfl) (Nat.le_of_ble_eq_true rfl) ?_
      show eA _ _ _ _
      unfold ic92
      simp only [p_impl_RootNumber, Bool.and_eq_true, Bool.or_eq_true, decide_eq_true_eq, Bool.not_eq_true', decide_eq_false_iff_not] at hp
      simp only [
          hp, grpS, grpD, grpF, grpL, eop, vop, bop, uop, fltop, convop, endOk, newE, new1, freshL, Md.isNew, outV, pureV, pureX, pure1, AV.cells, AV.one, storable, laid, refless,
                refless1, vload, loadC, storeC, vnil, vfaddr, vextract, flatT, flatE, flatC, vconv, vmm, vidxA, viaddrA, vfield, vlen, elemsOf, dF32, dF64, dI64, dU8, dBool, dStr,
                esOk, elemsS, vsliceX, bnd, ownV, ownC, own1, ownT, isSl, nSl, endL, Md.isOwn, purge, purgeH, purgeB, purgeE, hasName, name1, List.any_cons, List.any_nil, Md.isWr,
                pureV.pureP, Option.map, reduceIte, Nat.reduceEqDiff, Nat.reduceAdd, Nat.reduceMul, Nat.reduceLT, Nat.reduceLeDiff, List.mapM_cons, List.mapM_nil, Option.pure_def,
                Option.bind_eq_bind, Option.bind_some, implies_true, forall_const, beq_self_eq_true, decide_true, decide_false, eq_self, Int.reduceEq, Int.reduceLE, Int.reduceLT,
                if_true, if_false, fc92_0, fc92_1, fc92_2, fc92_3, fc92_4, fc92_5, fc92_6, fc92_7, Int.reduceAdd, Int.reduceSub, Int.reduceMul, Int.reduceNeg, Int.reducePow,
                Nat.reducePow, Int.reduceToNat, Nat.reduceSub, List.replicate, Nat.reduceBEq, wAs, wA, wC, zipW, noDupN, grpE, g_math_Sqrt, grpC, en0, dc_en0]
      repeat' (first
        | ((first | (refine eGI_of (fun h => ?_) (fun h => ?_)) | (refine eCc_of (fun h => ?_) (fun h => ?_))) <;> (try simp only [Bool.not_eq_true', Bool.not_eq_false'] at h) <;> (try simp only [h, reduceCtorEq, Bool.not_eq_true', decide_eq_false_iff_not, Bool.not_true, Bool.not_false, Bool.false_or, Bool.true_or, Bool.true_and, Bool.false_and, Bool.and_eq_true, Bool.or_eq_true, if_true, if_false, reduceIte, Bool.false_eq_true, and_true, true_and, false_or, or_false, decide_eq_true_eq, not_false_eq_true, not_true_eq_false] at hp) <;> (try (have h2 := h; simp only [decide_eq_true_eq, decide_eq_false_iff_not] at h2; (first | (replace h2 := eq_false h2) | (replace h2 := eq_true h2)); simp only [h2, if_true, if_false, false_or, true_or, or_true, or_false, and_true, true_and, not_false_eq_true, not_true_eq_false] at hp)) <;> simp only [h,
          hp, grpS, grpD, grpF, grpL, eop, vop, bop, uop, fltop, convop, endOk, newE, new1, freshL, Md.isNew, outV, pureV, pureX, pure1, AV.cells, AV.one, storable, laid, refless,
                refless1, vload, loadC, storeC, vnil, vfaddr, vextract, flatT, flatE, flatC, vconv, vmm, vidxA, viaddrA, vfield, vlen, elemsOf, dF32, dF64, dI64, dU8, dBool, dStr,
                esOk, elemsS, vsliceX, bnd, ownV, ownC, own1, ownT, isSl, nSl, endL, Md.isOwn, purge, purgeH, purgeB, purgeE, hasName, name1, List.any_cons, List.any_nil, Md.isWr,
                pureV.pureP, Option.map, reduceIte, Nat.reduceEqDiff, Nat.reduceAdd, Nat.reduceMul, Nat.reduceLT, Nat.reduceLeDiff, List.mapM_cons, List.mapM_nil, Option.pure_def,
                Option.bind_eq_bind, Option.bind_some, implies_true, forall_const, beq_self_eq_true, decide_true, decide_false, eq_self, Int.reduceEq, Int.reduceLE, Int.reduceLT,
                if_true, if_false, fc92_0, fc92_1, fc92_2, fc92_3, fc92_4, fc92_5, fc92_6, fc92_7, Int.reduceAdd, Int.reduceSub, Int.reduceMul, Int.reduceNeg, Int.reducePow,
                Nat.reducePow, Int.reduceToNat, Nat.reduceSub, List.replicate, Nat.reduceBEq, wAs, wA, wC, zipW, noDupN, grpE, g_math_Sqrt, grpC, en0, dc_en0]))
      all_goals (try simp only [*, m_impl_RootNumber, Bool.and_true, Bool.true_and, Bool.and_false, Bool.false_and, Bool.or_true, Bool.true_or, Bool.or_false, Bool.false_or, Bool.not_true, Bool.not_false, Bool.false_eq_true, if_true, if_false, reduceIte, decide_true, decide_false])
      all_goals (try (simp_all; done))
    · cases h
  · cases h
def m_impl_LongOf (x0 : (Nat × Nat × Nat)) : Nat := (m_impl_RootNumber (m_impl_InnerOf x0 x0))
def p_impl_LongOf (x0 : (Nat × Nat × Nat)) : Bool := (p_impl_RootNumber (m_impl_InnerOf x0 x0))
def g_impl_LongOf : List AV → Option AV
  | [.agg [.flt .f32 y0, .flt .f32 y1, .flt .f32 y2]] => if p_impl_LongOf (y0, y1, y2) = true then some (.flt .f32 (m_impl_LongOf (y0, y1,
      y2))) else none
  | _ => none
def ic65 : ICode := (.seq (.reg [⟨(some 1), none, (.box 3 (.t 0))⟩, ⟨(some 2), none, (.mov (.c (.flt .f32 0)))⟩] [1]) (.seq (.reg [⟨(some 3), none, (.load (some 3) (.t 1))⟩, ⟨(some
      4), none, (.load (some 3) (.t 1))⟩, ⟨(some 5), none, (.call (.fn 93) [(.t 3), (.t 4)] [])⟩, ⟨(some 6), none, (.call (.fn 92) [(.t 5)] [])⟩, ⟨(some 2), none, (.mov (.t 6))⟩]
      [2]) .ret))
def cp65 : CP := CP.mk [] [] [[1], [2]] 7
theorem fc65_0 : IntKind.wrap .i64 0 = 0 := by decide
theorem fc65_1 : IntKind.wrap .i64 1 = 1 := by decide
theorem fc65_2 : IntKind.wrap .i64 2 = 2 := by decide
theorem fc65_3 : IntKind.wrap .i64 3 = 3 := by decide
theorem fc65_4 : IntKind.wrap .i64 4 = 4 := by decide
theorem fc65_5 : IntKind.wrap .i64 5 = 5 := by decide
theorem fc65_6 : IntKind.wrap .i64 6 = 6 := by decide
theorem fc65_7 : IntKind.wrap .i64 7 = 7 := by decide
theorem s65 : ∀ vs r, g_impl_LongOf vs = some r → SaysM Try.prog .any 65 vs r := by
  intro vs r h
  unfold g_impl_LongOf at h
  split at h
  · rename_i y0 y1 y2
    split at h
    · rename_i hp
      cases h
      refine spec_of (m := .any) (tab := tabOf [(92, wM .any g_impl_RootNumber), (93, wM .any g_impl_InnerOf)]) (cp := cp65) (ic := ic65) (rvl := [(.t 2)]) hm (tabOk_cons (m := .any) s92 (tabOk_cons (m := .any) s93 tabOk_nil)) Try.func65 rfl rfl rfl (by kernel_rfl) rfl (Nat.le_of_ble_eq_true rfl) (Nat.le_of_ble_eq_true rfl) ?_
      show eA _ _ _ _
      unfold ic65
      simp only [p_impl_LongOf, Bool.and_eq_true, Bool.or_eq_true, decide_eq_true_eq, Bool.not_eq_true', decide_eq_false_iff_not] at hp
      simp only [
          hp, grpS, grpD, grpF, grpL, eop, vop, bop, uop, fltop, convop, endOk, newE, new1, freshL, Md.isNew, outV, pureV, pureX, pure1, AV.cells, AV.one, storable, laid, refless,
                refless1, vload, loadC, storeC, vnil, vfaddr, vextract, flatT, flatE, flatC, vconv, vmm, vidxA, viaddrA, vfield, vlen, elemsOf, dF32, dF64, dI64, dU8, dBool, dStr,
                esOk, elemsS, vsliceX, bnd, ownV, ownC, own1, ownT, isSl, nSl, endL, Md.isOwn, purge, purgeH, purgeB, purgeE, hasName, name1, List.any_cons, List.any_nil, Md.isWr,
                pureV.pureP, Option.map, reduceIte, Nat.reduceEqDiff, Nat.reduceAdd, Nat.reduceMul, Nat.reduceLT, Nat.reduceLeDiff, List.mapM_cons, List.mapM_nil, Option.pure_def,
                Option.bind_eq_bind, Option.bind_some, implies_true, forall_const, beq_self_eq_true, decide_true, decide_false, eq_self, Int.reduceEq, Int.reduceLE, Int.reduceLT,
                if_true, if_false, fc65_0, fc65_1, fc65_2, fc65_3, fc65_4, fc65_5, fc65_6, fc65_7, Int.reduceAdd, Int.reduceSub, Int.reduceMul, Int.reduceNeg, Int.reducePow,
                Nat.reducePow, Int.reduceToNat, Nat.reduceSub, List.replicate, Nat.reduceBEq, wAs, wA, wC, zipW, noDupN, grpE, g_impl_RootNumber, g_impl_InnerOf, grpC, en0, dc_en0]
      repeat' (first
        | ((first | (refine eGI_of (fun h => ?_) (fun h => ?_)) | (refine eCc_of (fun h => ?_) (fun h => ?_))) <;> (try simp only [Bool.not_eq_true', Bool.not_eq_false'] at h) <;> (try simp only [h, reduceCtorEq, Bool.not_eq_true', decide_eq_false_iff_not, Bool.not_true, Bool.not_false, Bool.false_or, Bool.true_or, Bool.true_and, Bool.false_and, Bool.and_eq_true, Bool.or_eq_true, if_true, if_false, reduceIte, Bool.false_eq_true, and_true, true_and, false_or, or_false, decide_eq_true_eq, not_false_eq_true, not_true_eq_false] at hp) <;> (try (have h2 := h; simp only [decide_eq_true_eq, decide_eq_false_iff_not] at h2; (first | (replace h2 := eq_false h2) | (replace h2 := eq_true h2)); simp only [h2, if_true, if_false, false_or, true_or, or_true, or_false, and_true, true_and, not_false_eq_true, not_true_eq_false] at hp)) <;> simp only [h,
          hp, grpS, grpD, grpF, grpL, eop, vop, bop, uop, fltop, convop, endOk, newE, new1, freshL, Md.isNew, outV, pureV, pureX, pure1, AV.cells, AV.one, storable, laid, refless,
                refless1, vload, loadC, storeC, vnil, vfaddr, vextract, flatT, flatE, flatC, vconv, vmm, vidxA, viaddrA, vfield, vlen, elemsOf, dF32, dF64, dI64, dU8, dBool, dStr,
                esOk, elemsS, vsliceX, bnd, ownV, ownC, own1, ownT, isSl, nSl, endL, Md.isOwn, purge, purgeH, purgeB, purgeE, hasName, name1, List.any_cons, List.any_nil, Md.isWr,
                pureV.pureP, Option.map, reduceIte, Nat.reduceEqDiff, Nat.reduceAdd, Nat.reduceMul, Nat.reduceLT, Nat.reduceLeDiff, List.mapM_cons, List.mapM_nil, Option.pure_def,
                Option.bind_eq_bind, Option.bind_some, implies_true, forall_const, beq_self_eq_true, decide_true, decide_false, eq_self, Int.reduceEq, Int.reduceLE, Int.reduceLT,
                if_true, if_false, fc65_0, fc65_1, fc65_2, fc65_3, fc65_4, fc65_5, fc65_6, fc65_7, Int.reduceAdd, Int.reduceSub, Int.reduceMul, Int.reduceNeg, Int.reducePow,
                Nat.reducePow, Int.reduceToNat, Nat.reduceSub, List.replicate, Nat.reduceBEq, wAs, wA, wC, zipW, noDupN, grpE, g_impl_RootNumber, g_impl_InnerOf, grpC, en0, dc_en0]))
      all_goals (try simp only [*, m_impl_LongOf, Bool.and_true, Bool.true_and, Bool.and_false, Bool.false_and, Bool.or_true, Bool.true_or, Bool.or_false, Bool.false_or, Bool.not_true, Bool.not_false, Bool.false_eq_true, if_true, if_false, reduceIte, decide_true, decide_false])
      all_goals (try (simp_all; done))
    · cases h
  · cases h
def l_impl_distances_0 (x0 : (List (Nat × Nat × Nat))) : Nat → (List Nat) → Int → Option (List Nat)
  | 0, _, _ => none
  | n + 1, z0_0, z0_1 => (if (decide (z0_1 < (((Int.toNat (IntKind.wrap .i64 (((List.length x0 : Nat) : Int) - 1))) : Nat) : Int))) = true then (need (inB (IntKind.wrap .i64 (z0_1 +
        1)) (List.length x0)) (need (inB z0_1 (List.length x0)) (need (p_impl_LongOf (m_impl_LessVectors (atI x0 (IntKind.wrap .i64 (z0_1 + 1))) (atI x0 z0_1))) (need (inB z0_1
        (List.length z0_0)) (l_impl_distances_0 x0 n (List.set z0_0 (Int.toNat z0_1) (m_impl_LongOf (m_impl_LessVectors (atI x0 (IntKind.wrap .i64 (z0_1 + 1))) (atI x0 z0_1))))
        (IntKind.wrap .i64 (z0_1 + 1))))))) else (some z0_0))
def m_impl_distances (x0 : (List (Nat × Nat × Nat))) : (List Nat) := (Option.getD (l_impl_distances_0 x0 (Int.toNat ((((Int.toNat (IntKind.wrap .i64 (((List.length x0 : Nat) : Int)
      - 1))) : Nat) : Int) - 0) + 2) (List.replicate (Int.toNat (IntKind.wrap .i64 (((List.length x0 : Nat) : Int) - 1))) 0) 0) default)
def p_impl_distances (x0 : (List (Nat × Nat × Nat))) : Bool := ((decide (0 ≤ (IntKind.wrap .i64 (((List.length x0 : Nat) : Int) - 1)))) && ((decide ((IntKind.wrap .i64
      (((List.length x0 : Nat) : Int) - 1)) * 4 ≤ 70368744177664)) && ((decide ((IntKind.wrap .i64 (((List.length x0 : Nat) : Int) - 1)) ≤ 70368744177664)) && (Option.isSome
      (l_impl_distances_0 x0 (Int.toNat ((((Int.toNat (IntKind.wrap .i64 (((List.length x0 : Nat) : Int) - 1))) : Nat) : Int) - 0) + 2) (List.replicate (Int.toNat (IntKind.wrap .i64
      (((List.length x0 : Nat) : Int) - 1))) 0) 0)))))
def g_impl_distances : List AV → Option AV
  | [.sl w0] => (match decL dc_en0 w0 with | some y0 => (if p_impl_distances y0 = true then some (.sl (List.map (AV.flt .f32) (m_impl_distances y0))) else none) | none => none)
  | _ => none
def lb74_0 : ICode := (.seq (.reg [⟨(some 12), none, (.bin .lss false (.t 11) (.t 10))⟩] [0, 3, 10, 11, 12]) (.seq (.cond (.t 12) .skip (.exit 0)) (.seq (.block 1 (.seq (.reg
      [⟨(some 13), none, (.mov (.t 11))⟩, ⟨(some 4), none, (.mov (.t 13))⟩] [0, 3, 4, 10, 11]) (.reg [⟨(some 14), none, (.mov (.t 3))⟩, ⟨(some 15), none, (.mov (.t 4))⟩, ⟨(some 16),
      none, (.mov (.t 0))⟩, ⟨(some 17), none, (.mov (.t 4))⟩, ⟨(some 18), none, (.bin .add false (.t 17) (.c (.int .i64 1)))⟩, ⟨(some 19), none, (.iaddrS 3 (.t 16) (.t 18))⟩, ⟨(some
      20), none, (.load (some 3) (.t 19))⟩, ⟨(some 21), none, (.mov (.t 0))⟩, ⟨(some 22), none, (.mov (.t 4))⟩, ⟨(some 23), none, (.iaddrS 3 (.t 21) (.t 22))⟩, ⟨(some 24), none,
      (.load (some 3) (.t 23))⟩, ⟨(some 25), none, (.call (.fn 64) [(.t 20), (.t 24)] [])⟩, ⟨(some 26), none, (.call (.fn 65) [(.t 25)] [])⟩, ⟨(some 27), none, (.iaddrS 1 (.t 14)
      (.t 15))⟩, ⟨none, none, (.store 1 (.t 27) (.t 26))⟩] [0, 3, 10, 11]))) (.reg [⟨(some 28), none, (.bin .add false (.t 11) (.c (.int .i64 1)))⟩, ⟨(some 11), none, (.mov (.t
      28))⟩] [0, 3, 10, 11]))))
def ic74 : ICode := (.seq (.reg [⟨(some 2), none, (.mov (.c .snil))⟩] [0]) (.seq (.reg [⟨(some 5), none, (.mov (.t 0))⟩, ⟨(some 6), none, (.len false (.t 5))⟩, ⟨(some 7), none,
      (.bin .sub false (.t 6) (.c (.int .i64 1)))⟩, ⟨(some 8), none, (.mkslice 1 4 (.flt .f32 0) (.t 7) (.t 7))⟩, ⟨(some 3), none, (.mov (.t 8))⟩] [0, 3]) (.seq (.seq (.reg [⟨(some
      9), none, (.mov (.t 3))⟩, ⟨(some 10), none, (.len false (.t 9))⟩, ⟨(some 11), none, (.mov (.c (.int .i64 0)))⟩] [0, 3, 10, 11]) (.block 0 (.loop lb74_0))) (.seq (.reg [⟨(some
      29), none, (.mov (.t 3))⟩, ⟨(some 2), none, (.mov (.t 29))⟩] [2]) .ret))))
def cp74 : CP := CP.mk [] [] [[0], [0, 3], [0, 3, 10, 11], [0, 3, 10, 11, 12], [0, 3, 4, 10, 11], [0, 3, 10, 11], [0, 3, 10, 11], [2]] 30
theorem fc74_0 : IntKind.wrap .i64 0 = 0 := by decide
theorem fc74_1 : IntKind.wrap .i64 1 = 1 := by decide
theorem fc74_2 : IntKind.wrap .i64 2 = 2 := by decide
theorem fc74_3 : IntKind.wrap .i64 3 = 3 := by decide
theorem fc74_4 : IntKind.wrap .i64 4 = 4 := by decide
theorem fc74_5 : IntKind.wrap .i64 5 = 5 := by decide
theorem fc74_6 : IntKind.wrap .i64 6 = 6 := by decide
theorem fc74_7 : IntKind.wrap .i64 7 = 7 := by decide
theorem sl74_0 (x0 : (List (Nat × Nat × Nat))) : ∀ (n : Nat) (z0_0 : (List Nat)) (z0_1 : Int) (o : (List Nat)) (K : IExit → St → Prop), l_impl_distances_0 x0 n z0_0 z0_1 = some o →
      (∀ st, Wk st (⟨[(3, (.lsl 8 0 (List.length o)))], [(8, (some ⟨1, true, (List.map (AV.flt .f32) o)⟩))]⟩ : St) → K (.exit 0) st) → eA (tabOf [(64, wM .any g_impl_LessVectors),
      (65, wM .any g_impl_LongOf)]) (.loop lb74_0) (⟨[(0, (.sl (List.map en0 x0))), (3, (.lsl 8 0 (List.length z0_0))), (10, (.int .i64 (((Int.toNat (IntKind.wrap .i64
      (((List.length x0 : Nat) : Int) - 1))) : Nat) : Int))), (11, (.int .i64 z0_1))], [(8, (some ⟨1, true, (List.map (AV.flt .f32) z0_0)⟩))]⟩ : St) K := by
  intro n
  induction n with
  | zero =>
    intro z0_0 z0_1 o K h h0
    simp only [l_impl_distances_0, reduceCtorEq] at h
  | succ n ih =>
    intro z0_0 z0_1 o K h h0
    refine eA_loop ?_
    unfold lb74_0
    unfold l_impl_distances_0 at h
    (try simp only [need_iff] at h)
    simp only [
      need_iff, h, grpS, grpD, grpF, grpL, eop, vop, bop, uop, fltop, convop, endOk, newE, new1, freshL, Md.isNew, outV, pureV, pureX, pure1, AV.cells, AV.one, storable, laid,
            refless, refless1, vload, loadC, storeC, vnil, vfaddr, vextract, flatT, flatE, flatC, vconv, vmm, vidxA, viaddrA, vfield, vlen, elemsOf, dF32, dF64, dI64, dU8, dBool,
            dStr, esOk, elemsS, vsliceX, bnd, ownV, ownC, own1, ownT, isSl, nSl, endL, Md.isOwn, purge, purgeH, purgeB, purgeE, hasName, name1, List.any_cons, List.any_nil, Md.isWr,
            pureV.pureP, Option.map, reduceIte, Nat.reduceEqDiff, Nat.reduceAdd, Nat.reduceMul, Nat.reduceLT, Nat.reduceLeDiff, List.mapM_cons, List.mapM_nil, Option.pure_def,
            Option.bind_eq_bind, Option.bind_some, implies_true, forall_const, beq_self_eq_true, decide_true, decide_false, eq_self, Int.reduceEq, Int.reduceLE, Int.reduceLT,
            if_true, if_false, fc74_0, fc74_1, fc74_2, fc74_3, fc74_4, fc74_5, fc74_6, fc74_7, Int.reduceAdd, Int.reduceSub, Int.reduceMul, Int.reduceNeg, Int.reducePow,
            Nat.reducePow, Int.reduceToNat, Nat.reduceSub, List.replicate, Nat.reduceBEq, wAs, wA, wC, zipW, noDupN, grpE, g_impl_LessVectors, g_impl_LongOf, grpC, en0, dc_en0]
    repeat' (first
      | ((first | (refine eGI_of (fun hc => ?_) (fun hc => ?_)) | (refine eCc_of (fun hc => ?_) (fun hc => ?_)) | (have hc := True.intro; refine KW_refl ?_)) <;> (try simp only [Bool.not_eq_true', Bool.not_eq_false'] at hc) <;> (try simp only [hc, need_iff, reduceCtorEq, Bool.not_eq_true', decide_eq_false_iff_not, Bool.not_true, Bool.not_false, Bool.false_or, Bool.true_or, Bool.true_and, Bool.false_and, Bool.and_eq_true, Bool.or_eq_true, if_true, if_false, reduceIte, Bool.false_eq_true, and_true, true_and, false_or, or_false, decide_eq_true_eq, not_false_eq_true, not_true_eq_false] at h) <;> (try (have hc2 := hc; simp only [decide_eq_true_eq, decide_eq_false_iff_not] at hc2; simp only [hc2, if_true, if_false, reduceCtorEq, Bool.not_eq_true', decide_eq_false_iff_not, Bool.not_true, Bool.not_false, Bool.false_or, Bool.true_or, Bool.true_and, Bool.false_and, Bool.and_eq_true, Bool.or_eq_true, if_true, if_false, reduceIte, Bool.false_eq_true, and_true, true_and, false_or, or_false, decide_eq_true_eq, not_false_eq_true, not_true_eq_false] at h)) <;> simp only [hc,
      need_iff, h, grpS, grpD, grpF, grpL, eop, vop, bop, uop, fltop, convop, endOk, newE, new1, freshL, Md.isNew, outV, pureV, pureX, pure1, AV.cells, AV.one, storable, laid,
            refless, refless1, vload, loadC, storeC, vnil, vfaddr, vextract, flatT, flatE, flatC, vconv, vmm, vidxA, viaddrA, vfield, vlen, elemsOf, dF32, dF64, dI64, dU8, dBool,
            dStr, esOk, elemsS, vsliceX, bnd, ownV, ownC, own1, ownT, isSl, nSl, endL, Md.isOwn, purge, purgeH, purgeB, purgeE, hasName, name1, List.any_cons, List.any_nil, Md.isWr,
            pureV.pureP, Option.map, reduceIte, Nat.reduceEqDiff, Nat.reduceAdd, Nat.reduceMul, Nat.reduceLT, Nat.reduceLeDiff, List.mapM_cons, List.mapM_nil, Option.pure_def,
            Option.bind_eq_bind, Option.bind_some, implies_true, forall_const, beq_self_eq_true, decide_true, decide_false, eq_self, Int.reduceEq, Int.reduceLE, Int.reduceLT,
            if_true, if_false, fc74_0, fc74_1, fc74_2, fc74_3, fc74_4, fc74_5, fc74_6, fc74_7, Int.reduceAdd, Int.reduceSub, Int.reduceMul, Int.reduceNeg, Int.reducePow,
            Nat.reducePow, Int.reduceToNat, Nat.reduceSub, List.replicate, Nat.reduceBEq, wAs, wA, wC, zipW, noDupN, grpE, g_impl_LessVectors, g_impl_LongOf, grpC, en0, dc_en0]))
    all_goals (repeat (replace h := And.right h))
    all_goals first
      | (refine eA_wk (wk_norm (ks := [0, 3, 10, 11]) (ls := [8]) ?_) (eA_cast ?_ (ih _ _ _ _ h h0)); (simp only [normOk, optIn, blkIn, nameIn,
      need_iff, h, grpS, grpD, grpF, grpL, eop, vop, bop, uop, fltop, convop, endOk, newE, new1, freshL, Md.isNew, outV, pureV, pureX, pure1, AV.cells, AV.one, storable, laid,
            refless, refless1, vload, loadC, storeC, vnil, vfaddr, vextract, flatT, flatE, flatC, vconv, vmm, vidxA, viaddrA, vfield, vlen, elemsOf, dF32, dF64, dI64, dU8, dBool,
            dStr, esOk, elemsS, vsliceX, bnd, ownV, ownC, own1, ownT, isSl, nSl, endL, Md.isOwn, purge, purgeH, purgeB, purgeE, hasName, name1, List.any_cons, List.any_nil, Md.isWr,
            pureV.pureP, Option.map, reduceIte, Nat.reduceEqDiff, Nat.reduceAdd, Nat.reduceMul, Nat.reduceLT, Nat.reduceLeDiff, List.mapM_cons, List.mapM_nil, Option.pure_def,
            Option.bind_eq_bind, Option.bind_some, implies_true, forall_const, beq_self_eq_true, decide_true, decide_false, eq_self, Int.reduceEq, Int.reduceLE, Int.reduceLT,
            if_true, if_false, fc74_0, fc74_1, fc74_2, fc74_3, fc74_4, fc74_5, fc74_6, fc74_7, Int.reduceAdd, Int.reduceSub, Int.reduceMul, Int.reduceNeg, Int.reducePow,
            Nat.reducePow, Int.reduceToNat, Nat.reduceSub, List.replicate, Nat.reduceBEq, wAs, wA, wC, zipW, noDupN, grpE, g_impl_LessVectors, g_impl_LongOf, grpC, en0, dc_en0] <;> rfl); (simp only [normS, List.map_append, List.length_append, List.map_set, List.length_set, List.map_replicate, List.length_replicate, List.map_nil, List.map_cons,
      need_iff, h, grpS, grpD, grpF, grpL, eop, vop, bop, uop, fltop, convop, endOk, newE, new1, freshL, Md.isNew, outV, pureV, pureX, pure1, AV.cells, AV.one, storable, laid,
            refless, refless1, vload, loadC, storeC, vnil, vfaddr, vextract, flatT, flatE, flatC, vconv, vmm, vidxA, viaddrA, vfield, vlen, elemsOf, dF32, dF64, dI64, dU8, dBool,
            dStr, esOk, elemsS, vsliceX, bnd, ownV, ownC, own1, ownT, isSl, nSl, endL, Md.isOwn, purge, purgeH, purgeB, purgeE, hasName, name1, List.any_cons, List.any_nil, Md.isWr,
            pureV.pureP, Option.map, reduceIte, Nat.reduceEqDiff, Nat.reduceAdd, Nat.reduceMul, Nat.reduceLT, Nat.reduceLeDiff, List.mapM_cons, List.mapM_nil, Option.pure_def,
            Option.bind_eq_bind, Option.bind_some, implies_true, forall_const, beq_self_eq_true, decide_true, decide_false, eq_self, Int.reduceEq, Int.reduceLE, Int.reduceLT,
            if_true, if_false, fc74_0, fc74_1, fc74_2, fc74_3, fc74_4, fc74_5, fc74_6, fc74_7, Int.reduceAdd, Int.reduceSub, Int.reduceMul, Int.reduceNeg, Int.reducePow,
            Nat.reducePow, Int.reduceToNat, Nat.reduceSub, List.replicate, Nat.reduceBEq, wAs, wA, wC, zipW, noDupN, grpE, g_impl_LessVectors, g_impl_LongOf, grpC, en0, dc_en0] <;> rfl))
      | (cases h; refine h0 _ (Wk.cast (wk_norm (ks := [3]) (ls := [8]) ?_) ?_); (simp only [normOk, optIn, blkIn, nameIn,
      grpS, grpD, grpF, grpL, eop, vop, bop, uop, fltop, convop, endOk, newE, new1, freshL, Md.isNew, outV, pureV, pureX, pure1, AV.cells, AV.one, storable, laid, refless, refless1,
            vload, loadC, storeC, vnil, vfaddr, vextract, flatT, flatE, flatC, vconv, vmm, vidxA, viaddrA, vfield, vlen, elemsOf, dF32, dF64, dI64, dU8, dBool, dStr, esOk, elemsS,
            vsliceX, bnd, ownV, ownC, own1, ownT, isSl, nSl, endL, Md.isOwn, purge, purgeH, purgeB, purgeE, hasName, name1, List.any_cons, List.any_nil, Md.isWr, pureV.pureP,
            Option.map, reduceIte, Nat.reduceEqDiff, Nat.reduceAdd, Nat.reduceMul, Nat.reduceLT, Nat.reduceLeDiff, List.mapM_cons, List.mapM_nil, Option.pure_def,
            Option.bind_eq_bind, Option.bind_some, implies_true, forall_const, beq_self_eq_true, decide_true, decide_false, eq_self, Int.reduceEq, Int.reduceLE, Int.reduceLT,
            if_true, if_false, fc74_0, fc74_1, fc74_2, fc74_3, fc74_4, fc74_5, fc74_6, fc74_7, Int.reduceAdd, Int.reduceSub, Int.reduceMul, Int.reduceNeg, Int.reducePow,
            Nat.reducePow, Int.reduceToNat, Nat.reduceSub, List.replicate, Nat.reduceBEq, wAs, wA, wC, zipW, noDupN, grpE, g_impl_LessVectors, g_impl_LongOf, grpC, en0, dc_en0] <;> rfl); (simp only [normS, List.map_append, List.length_append, List.map_set, List.length_set, List.map_replicate, List.length_replicate,
      grpS, grpD, grpF, grpL, eop, vop, bop, uop, fltop, convop, endOk, newE, new1, freshL, Md.isNew, outV, pureV, pureX, pure1, AV.cells, AV.one, storable, laid, refless, refless1,
            vload, loadC, storeC, vnil, vfaddr, vextract, flatT, flatE, flatC, vconv, vmm, vidxA, viaddrA, vfield, vlen, elemsOf, dF32, dF64, dI64, dU8, dBool, dStr, esOk, elemsS,
            vsliceX, bnd, ownV, ownC, own1, ownT, isSl, nSl, endL, Md.isOwn, purge, purgeH, purgeB, purgeE, hasName, name1, List.any_cons, List.any_nil, Md.isWr, pureV.pureP,
            Option.map, reduceIte, Nat.reduceEqDiff, Nat.reduceAdd, Nat.reduceMul, Nat.reduceLT, Nat.reduceLeDiff, List.mapM_cons, List.mapM_nil, Option.pure_def,
            Option.bind_eq_bind, Option.bind_some, implies_true, forall_const, beq_self_eq_true, decide_true, decide_false, eq_self, Int.reduceEq, Int.reduceLE, Int.reduceLT,
            if_true, if_false, fc74_0, fc74_1, fc74_2, fc74_3, fc74_4, fc74_5, fc74_6, fc74_7, Int.reduceAdd, Int.reduceSub, Int.reduceMul, Int.reduceNeg, Int.reducePow,
            Nat.reducePow, Int.reduceToNat, Nat.reduceSub, List.replicate, Nat.reduceBEq, wAs, wA, wC, zipW, noDupN, grpE, g_impl_LessVectors, g_impl_LongOf, grpC, en0, dc_en0] <;> rfl))
theorem s74 : ∀ vs r, g_impl_distances vs = some r → SaysM Try.prog (.own [1]) 74 vs r := by
  intro vs r h
  unfold g_impl_distances at h
  split at h
  · rename_i w0
    cases hd_y0 : decL dc_en0 w0 with
    | none => rw [hd_y0] at h; cases h
    | some y0 =>
    rw [hd_y0] at h
    obtain rfl := decL_inv dc_en0_inv hd_y0
    clear hd_y0
    dsimp only at h
    split at h
    · rename_i hp
      cases h
      refine spec_of (m := (.own [1])) (tab := tabOf [(64, wM .any g_impl_LessVectors), (65, wM .any g_impl_LongOf)]) (cp := cp74) (ic := ic74) (rvl := [(.t 2)]) hm (tabOk_cons (m := .any) s64 (tabOk_cons (m := .any) s65 tabOk_nil)) Try.func74 rfl rfl rfl (by kernel_rfl) rfl (Nat.le_of_ble_eq_true rfl) (Nat.le_of_ble_eq_true rfl) ?_
      show eA _ _ _ _
      unfold ic74
      simp only [p_impl_distances, Bool.and_eq_true, Bool.or_eq_true, decide_eq_true_eq, Bool.not_eq_true', decide_eq_false_iff_not] at hp
      simp only [
          hp, grpS, grpD, grpF, grpL, eop, vop, bop, uop, fltop, convop, endOk, newE, new1, freshL, Md.isNew, outV, pureV, pureX, pure1, AV.cells, AV.one, storable, laid, refless,
                refless1, vload, loadC, storeC, vnil, vfaddr, vextract, flatT, flatE, flatC, vconv, vmm, vidxA, viaddrA, vfield, vlen, elemsOf, dF32, dF64, dI64, dU8, dBool, dStr,
                esOk, elemsS, vsliceX, bnd, ownV, ownC, own1, ownT, isSl, nSl, endL, Md.isOwn, purge, purgeH, purgeB, purgeE, hasName, name1, List.any_cons, List.any_nil, Md.isWr,
                pureV.pureP, Option.map, reduceIte, Nat.reduceEqDiff, Nat.reduceAdd, Nat.reduceMul, Nat.reduceLT, Nat.reduceLeDiff, List.mapM_cons, List.mapM_nil, Option.pure_def,
                Option.bind_eq_bind, Option.bind_some, implies_true, forall_const, beq_self_eq_true, decide_true, decide_false, eq_self, Int.reduceEq, Int.reduceLE, Int.reduceLT,
                if_true, if_false, fc74_0, fc74_1, fc74_2, fc74_3, fc74_4, fc74_5, fc74_6, fc74_7, Int.reduceAdd, Int.reduceSub, Int.reduceMul, Int.reduceNeg, Int.reducePow,
                Nat.reducePow, Int.reduceToNat, Nat.reduceSub, List.replicate, Nat.reduceBEq, wAs, wA, wC, zipW, noDupN, grpE, g_impl_LessVectors, g_impl_LongOf, grpC, en0, dc_en0]
      repeat' (first
        | ((first | (refine eGI_of (fun h => ?_) (fun h => ?_)) | (refine eCc_of (fun h => ?_) (fun h => ?_)) | (have h := True.intro; refine KW_refl ?_)) <;> (try simp only [Bool.not_eq_true', Bool.not_eq_false'] at h) <;> (try simp only [h, reduceCtorEq, Bool.not_eq_true', decide_eq_false_iff_not, Bool.not_true, Bool.not_false, Bool.false_or, Bool.true_or, Bool.true_and, Bool.false_and, Bool.and_eq_true, Bool.or_eq_true, if_true, if_false, reduceIte, Bool.false_eq_true, and_true, true_and, false_or, or_false, decide_eq_true_eq, not_false_eq_true, not_true_eq_false] at hp) <;> (try (have h2 := h; simp only [decide_eq_true_eq, decide_eq_false_iff_not] at h2; (first | (replace h2 := eq_false h2) | (replace h2 := eq_true h2)); simp only [h2, if_true, if_false, false_or, true_or, or_true, or_false, and_true, true_and, not_false_eq_true, not_true_eq_false] at hp)) <;> simp only [h,
          hp, grpS, grpD, grpF, grpL, eop, vop, bop, uop, fltop, convop, endOk, newE, new1, freshL, Md.isNew, outV, pureV, pureX, pure1, AV.cells, AV.one, storable, laid, refless,
                refless1, vload, loadC, storeC, vnil, vfaddr, vextract, flatT, flatE, flatC, vconv, vmm, vidxA, viaddrA, vfield, vlen, elemsOf, dF32, dF64, dI64, dU8, dBool, dStr,
                esOk, elemsS, vsliceX, bnd, ownV, ownC, own1, ownT, isSl, nSl, endL, Md.isOwn, purge, purgeH, purgeB, purgeE, hasName, name1, List.any_cons, List.any_nil, Md.isWr,
                pureV.pureP, Option.map, reduceIte, Nat.reduceEqDiff, Nat.reduceAdd, Nat.reduceMul, Nat.reduceLT, Nat.reduceLeDiff, List.mapM_cons, List.mapM_nil, Option.pure_def,
                Option.bind_eq_bind, Option.bind_some, implies_true, forall_const, beq_self_eq_true, decide_true, decide_false, eq_self, Int.reduceEq, Int.reduceLE, Int.reduceLT,
                if_true, if_false, fc74_0, fc74_1, fc74_2, fc74_3, fc74_4, fc74_5, fc74_6, fc74_7, Int.reduceAdd, Int.reduceSub, Int.reduceMul, Int.reduceNeg, Int.reducePow,
                Nat.reducePow, Int.reduceToNat, Nat.reduceSub, List.replicate, Nat.reduceBEq, wAs, wA, wC, zipW, noDupN, grpE, g_impl_LessVectors, g_impl_LongOf, grpC, en0, dc_en0])
        | (refine eA_wk (wk_norm (ks := [0, 3, 10, 11]) (ls := [8]) ?_) (eA_cast ?_ (sl74_0 y0 _ _ _ _ _ (getD_some (d := default) (x := (l_impl_distances_0 y0 (Int.toNat ((((Int.toNat (IntKind.wrap .i64 (((List.length y0 : Nat) : Int) - 1))) : Nat) : Int) - 0) + 2) (List.replicate (Int.toNat (IntKind.wrap .i64 (((List.length y0 : Nat) : Int) - 1))) 0) 0)) ?_) ?_)); (simp only [nilS, nilV, normOk, optIn, blkIn, nameIn, 
          hp, grpS, grpD, grpF, grpL, eop, vop, bop, uop, fltop, convop, endOk, newE, new1, freshL, Md.isNew, outV, pureV, pureX, pure1, AV.cells, AV.one, storable, laid, refless,
                refless1, vload, loadC, storeC, vnil, vfaddr, vextract, flatT, flatE, flatC, vconv, vmm, vidxA, viaddrA, vfield, vlen, elemsOf, dF32, dF64, dI64, dU8, dBool, dStr,
                esOk, elemsS, vsliceX, bnd, ownV, ownC, own1, ownT, isSl, nSl, endL, Md.isOwn, purge, purgeH, purgeB, purgeE, hasName, name1, List.any_cons, List.any_nil, Md.isWr,
                pureV.pureP, Option.map, reduceIte, Nat.reduceEqDiff, Nat.reduceAdd, Nat.reduceMul, Nat.reduceLT, Nat.reduceLeDiff, List.mapM_cons, List.mapM_nil, Option.pure_def,
                Option.bind_eq_bind, Option.bind_some, implies_true, forall_const, beq_self_eq_true, decide_true, decide_false, eq_self, Int.reduceEq, Int.reduceLE, Int.reduceLT,
                if_true, if_false, fc74_0, fc74_1, fc74_2, fc74_3, fc74_4, fc74_5, fc74_6, fc74_7, Int.reduceAdd, Int.reduceSub, Int.reduceMul, Int.reduceNeg, Int.reducePow,
                Nat.reducePow, Int.reduceToNat, Nat.reduceSub, List.replicate, Nat.reduceBEq, wAs, wA, wC, zipW, noDupN, grpE, g_impl_LessVectors, g_impl_LongOf, grpC, en0, dc_en0] <;> rfl); (simp only [nilS, nilV, normS,  List.map_append, List.length_append, List.map_set, List.length_set, List.map_replicate, List.length_replicate, List.map_nil, List.map_cons,
          hp, grpS, grpD, grpF, grpL, eop, vop, bop, uop, fltop, convop, endOk, newE, new1, freshL, Md.isNew, outV, pureV, pureX, pure1, AV.cells, AV.one, storable, laid, refless,
                refless1, vload, loadC, storeC, vnil, vfaddr, vextract, flatT, flatE, flatC, vconv, vmm, vidxA, viaddrA, vfield, vlen, elemsOf, dF32, dF64, dI64, dU8, dBool, dStr,
                esOk, elemsS, vsliceX, bnd, ownV, ownC, own1, ownT, isSl, nSl, endL, Md.isOwn, purge, purgeH, purgeB, purgeE, hasName, name1, List.any_cons, List.any_nil, Md.isWr,
                pureV.pureP, Option.map, reduceIte, Nat.reduceEqDiff, Nat.reduceAdd, Nat.reduceMul, Nat.reduceLT, Nat.reduceLeDiff, List.mapM_cons, List.mapM_nil, Option.pure_def,
                Option.bind_eq_bind, Option.bind_some, implies_true, forall_const, beq_self_eq_true, decide_true, decide_false, eq_self, Int.reduceEq, Int.reduceLE, Int.reduceLT,
                if_true, if_false, fc74_0, fc74_1, fc74_2, fc74_3, fc74_4, fc74_5, fc74_6, fc74_7, Int.reduceAdd, Int.reduceSub, Int.reduceMul, Int.reduceNeg, Int.reducePow,
                Nat.reducePow, Int.reduceToNat, Nat.reduceSub, List.replicate, Nat.reduceBEq, wAs, wA, wC, zipW, noDupN, grpE, g_impl_LessVectors, g_impl_LongOf, grpC, en0, dc_en0] <;> rfl); (simp only [hp]); (
        intro st2 hw; (try simp only [reduceCtorEq, Bool.not_eq_true', decide_eq_false_iff_not, Bool.not_true, Bool.not_false, Bool.false_or, Bool.true_or, Bool.true_and, Bool.false_and, Bool.and_eq_true, Bool.or_eq_true, if_true, if_false, reduceIte, Bool.false_eq_true, and_true, true_and, false_or, or_false, decide_eq_true_eq, not_false_eq_true, not_true_eq_false] at hp); simp only [
          hp, grpS, grpD, grpF, grpL, eop, vop, bop, uop, fltop, convop, endOk, newE, new1, freshL, Md.isNew, outV, pureV, pureX, pure1, AV.cells, AV.one, storable, laid, refless,
                refless1, vload, loadC, storeC, vnil, vfaddr, vextract, flatT, flatE, flatC, vconv, vmm, vidxA, viaddrA, vfield, vlen, elemsOf, dF32, dF64, dI64, dU8, dBool, dStr,
                esOk, elemsS, vsliceX, bnd, ownV, ownC, own1, ownT, isSl, nSl, endL, Md.isOwn, purge, purgeH, purgeB, purgeE, hasName, name1, List.any_cons, List.any_nil, Md.isWr,
                pureV.pureP, Option.map, reduceIte, Nat.reduceEqDiff, Nat.reduceAdd, Nat.reduceMul, Nat.reduceLT, Nat.reduceLeDiff, List.mapM_cons, List.mapM_nil, Option.pure_def,
                Option.bind_eq_bind, Option.bind_some, implies_true, forall_const, beq_self_eq_true, decide_true, decide_false, eq_self, Int.reduceEq, Int.reduceLE, Int.reduceLT,
                if_true, if_false, fc74_0, fc74_1, fc74_2, fc74_3, fc74_4, fc74_5, fc74_6, fc74_7, Int.reduceAdd, Int.reduceSub, Int.reduceMul, Int.reduceNeg, Int.reducePow,
                Nat.reducePow, Int.reduceToNat, Nat.reduceSub, List.replicate, Nat.reduceBEq, wAs, wA, wC, zipW, noDupN, grpE, g_impl_LessVectors, g_impl_LongOf, grpC, en0, dc_en0]; refine KW_of hw ?_; simp only [
          hp, grpS, grpD, grpF, grpL, eop, vop, bop, uop, fltop, convop, endOk, newE, new1, freshL, Md.isNew, outV, pureV, pureX, pure1, AV.cells, AV.one, storable, laid, refless,
                refless1, vload, loadC, storeC, vnil, vfaddr, vextract, flatT, flatE, flatC, vconv, vmm, vidxA, viaddrA, vfield, vlen, elemsOf, dF32, dF64, dI64, dU8, dBool, dStr,
                esOk, elemsS, vsliceX, bnd, ownV, ownC, own1, ownT, isSl, nSl, endL, Md.isOwn, purge, purgeH, purgeB, purgeE, hasName, name1, List.any_cons, List.any_nil, Md.isWr,
                pureV.pureP, Option.map, reduceIte, Nat.reduceEqDiff, Nat.reduceAdd, Nat.reduceMul, Nat.reduceLT, Nat.reduceLeDiff, List.mapM_cons, List.mapM_nil, Option.pure_def,
                Option.bind_eq_bind, Option.bind_some, implies_true, forall_const, beq_self_eq_true, decide_true, decide_false, eq_self, Int.reduceEq, Int.reduceLE, Int.reduceLT,
                if_true, if_false, fc74_0, fc74_1, fc74_2, fc74_3, fc74_4, fc74_5, fc74_6, fc74_7, Int.reduceAdd, Int.reduceSub, Int.reduceMul, Int.reduceNeg, Int.reducePow,
                Nat.reducePow, Int.reduceToNat, Nat.reduceSub, List.replicate, Nat.reduceBEq, wAs, wA, wC, zipW, noDupN, grpE, g_impl_LessVectors, g_impl_LongOf, grpC, en0, dc_en0])))
      all_goals (try simp only [*, m_impl_distances, Bool.and_true, Bool.true_and, Bool.and_false, Bool.false_and, Bool.or_true, Bool.true_or, Bool.or_false, Bool.false_or, Bool.not_true, Bool.not_false, Bool.false_eq_true, if_true, if_false, reduceIte, decide_true, decide_false])
      all_goals (try (simp_all; done))
    · cases h
  · cases h
def m_impl_Vector (x0 : (List (Nat × Nat × Nat))) : (List (Nat × Nat × Nat)) := x0
def p_impl_Vector (x0 : (List (Nat × Nat × Nat))) : Bool := ((decide (((List.length x0)) * 12 ≤ 17592186044416)) && (decide ((List.length x0) ≤ 17592186044416)))
def g_impl_Vector : List AV → Option AV
  | [.sl w0] => (match decL dc_en0 w0 with | some y0 => (if p_impl_Vector y0 = true then some (.sl (List.map en0 (m_impl_Vector y0))) else none) | none => none)
  | _ => none
def ic62 : ICode := (.seq (.reg [⟨(some 2), none, (.mov (.c .snil))⟩] [0]) (.seq (.seq (.reg [⟨(some 3), none, (.mov (.t 0))⟩, ⟨(some 4), none, (.eqnil false (.t 3))⟩] [0, 4])
      (.cond (.t 4) (.seq (.reg [⟨(some 2), none, (.mov (.c .snil))⟩] [2]) .ret) .skip)) (.seq (.reg [⟨(some 5), none, (.bslice 3 0 (.agg [(.flt .f32 0), (.flt .f32 0), (.flt .f32
      0)]) [])⟩, ⟨(some 6), none, (.mov (.t 0))⟩, ⟨(some 7), none, (.append 3 12 (.t 5) (.t 6))⟩, ⟨(some 2), none, (.mov (.t 7))⟩] [2]) .ret)))
def cp62 : CP := CP.mk [] [] [[0], [0, 4], [2], [2]] 8
theorem fc62_0 : IntKind.wrap .i64 0 = 0 := by decide
theorem fc62_1 : IntKind.wrap .i64 1 = 1 := by decide
theorem fc62_2 : IntKind.wrap .i64 2 = 2 := by decide
theorem fc62_3 : IntKind.wrap .i64 3 = 3 := by decide
theorem fc62_4 : IntKind.wrap .i64 4 = 4 := by decide
theorem fc62_5 : IntKind.wrap .i64 5 = 5 := by decide
theorem fc62_6 : IntKind.wrap .i64 6 = 6 := by decide
theorem fc62_7 : IntKind.wrap .i64 7 = 7 := by decide
theorem s62 : ∀ vs r, g_impl_Vector vs = some r → SaysM Try.prog (.own [3]) 62 vs r := by
  intro vs r h
  unfold g_impl_Vector at h
  split at h
  · rename_i w0
    cases hd_y0 : decL dc_en0 w0 with
    | none => rw [hd_y0] at h; cases h
    | some y0 =>
    rw [hd_y0] at h
    obtain rfl := decL_inv dc_en0_inv hd_y0
    clear hd_y0
    dsimp only at h
    split at h
    · rename_i hp
      cases h
      refine spec_of (m := (.own [3])) (tab := tabOf []) (cp := cp62) (ic := ic62) (rvl := [(.t 2)]) hm tabOk_nil Try.func62 rfl rfl rfl (by kernel_rfl) rfl (Nat.le_of_ble_eq_true rfl) (Nat.le_of_ble_eq_true rfl) ?_
      show eA _ _ _ _
      unfold ic62
      simp only [p_impl_Vector, Bool.and_eq_true, Bool.or_eq_true, decide_eq_true_eq, Bool.not_eq_true', decide_eq_false_iff_not] at hp
      simp only [
          hp, grpS, grpD, grpF, grpL, eop, vop, bop, uop, fltop, convop, endOk, newE, new1, freshL, Md.isNew, outV, pureV, pureX, pure1, AV.cells, AV.one, storable, laid, refless,
                refless1, vload, loadC, storeC, vnil, vfaddr, vextract, flatT, flatE, flatC, vconv, vmm, vidxA, viaddrA, vfield, vlen, elemsOf, dF32, dF64, dI64, dU8, dBool, dStr,
                esOk, elemsS, vsliceX, bnd, ownV, ownC, own1, ownT, isSl, nSl, endL, Md.isOwn, purge, purgeH, purgeB, purgeE, hasName, name1, List.any_cons, List.any_nil, Md.isWr,
                pureV.pureP, Option.map, reduceIte, Nat.reduceEqDiff, Nat.reduceAdd, Nat.reduceMul, Nat.reduceLT, Nat.reduceLeDiff, List.mapM_cons, List.mapM_nil, Option.pure_def,
                Option.bind_eq_bind, Option.bind_some, implies_true, forall_const, beq_self_eq_true, decide_true, decide_false, eq_self, Int.reduceEq, Int.reduceLE, Int.reduceLT,
                if_true, if_false, fc62_0, fc62_1, fc62_2, fc62_3, fc62_4, fc62_5, fc62_6, fc62_7, Int.reduceAdd, Int.reduceSub, Int.reduceMul, Int.reduceNeg, Int.reducePow,
                Nat.reducePow, Int.reduceToNat, Nat.reduceSub, List.replicate, Nat.reduceBEq, wAs, wA, wC, zipW, noDupN, grpE, grpC, en0, dc_en0]
      repeat' (first
        | ((first | (refine eGI_of (fun h => ?_) (fun h => ?_)) | (refine eCc_of (fun h => ?_) (fun h => ?_)) | (refine eN_of (fun h => ?_) (have h := True.intro; ?_))) <;> (try simp only [Bool.not_eq_true', Bool.not_eq_false'] at h) <;> (try simp only [h, reduceCtorEq, Bool.not_eq_true', decide_eq_false_iff_not, Bool.not_true, Bool.not_false, Bool.false_or, Bool.true_or, Bool.true_and, Bool.false_and, Bool.and_eq_true, Bool.or_eq_true, if_true, if_false, reduceIte, Bool.false_eq_true, and_true, true_and, false_or, or_false, decide_eq_true_eq, not_false_eq_true, not_true_eq_false] at hp) <;> (try (have h2 := h; simp only [decide_eq_true_eq, decide_eq_false_iff_not] at h2; (first | (replace h2 := eq_false h2) | (replace h2 := eq_true h2)); simp only [h2, if_true, if_false, false_or, true_or, or_true, or_false, and_true, true_and, not_false_eq_true, not_true_eq_false] at hp)) <;> simp only [h,
          hp, grpS, grpD, grpF, grpL, eop, vop, bop, uop, fltop, convop, endOk, newE, new1, freshL, Md.isNew, outV, pureV, pureX, pure1, AV.cells, AV.one, storable, laid, refless,
                refless1, vload, loadC, storeC, vnil, vfaddr, vextract, flatT, flatE, flatC, vconv, vmm, vidxA, viaddrA, vfield, vlen, elemsOf, dF32, dF64, dI64, dU8, dBool, dStr,
                esOk, elemsS, vsliceX, bnd, ownV, ownC, own1, ownT, isSl, nSl, endL, Md.isOwn, purge, purgeH, purgeB, purgeE, hasName, name1, List.any_cons, List.any_nil, Md.isWr,
                pureV.pureP, Option.map, reduceIte, Nat.reduceEqDiff, Nat.reduceAdd, Nat.reduceMul, Nat.reduceLT, Nat.reduceLeDiff, List.mapM_cons, List.mapM_nil, Option.pure_def,
                Option.bind_eq_bind, Option.bind_some, implies_true, forall_const, beq_self_eq_true, decide_true, decide_false, eq_self, Int.reduceEq, Int.reduceLE, Int.reduceLT,
                if_true, if_false, fc62_0, fc62_1, fc62_2, fc62_3, fc62_4, fc62_5, fc62_6, fc62_7, Int.reduceAdd, Int.reduceSub, Int.reduceMul, Int.reduceNeg, Int.reducePow,
                Nat.reducePow, Int.reduceToNat, Nat.reduceSub, List.replicate, Nat.reduceBEq, wAs, wA, wC, zipW, noDupN, grpE, grpC, en0, dc_en0]))
      all_goals (try simp only [*, m_impl_Vector, Bool.and_true, Bool.true_and, Bool.and_false, Bool.false_and, Bool.or_true, Bool.true_or, Bool.or_false, Bool.false_or, Bool.not_true, Bool.not_false, Bool.false_eq_true, if_true, if_false, reduceIte, decide_true, decide_false])
      all_goals (try (simp_all; done))
    · cases h
  · cases h
def m_impl_IsFinite (x0 : Nat) : Bool := (feq .f32 (fsub .f32 x0 x0) 0)
def g_impl_IsFinite : List AV → Option AV
  | [.flt .f32 y0] => some (.bool (m_impl_IsFinite y0))
  | _ => none
def ic94 : ICode := (.seq (.reg [⟨(some 2), none, (.mov (.c (.bool false)))⟩] [0]) (.seq (.reg [⟨(some 3), none, (.mov (.t 0))⟩, ⟨(some 4), none, (.mov (.t 0))⟩, ⟨(some 5), none,
      (.bin .sub false (.t 3) (.t 4))⟩, ⟨(some 6), none, (.bin .eql false (.t 5) (.c (.flt .f32 0)))⟩, ⟨(some 2), none, (.mov (.t 6))⟩] [2]) .ret))
def cp94 : CP := CP.mk [] [] [[0], [2]] 7
theorem fc94_0 : IntKind.wrap .i64 0 = 0 := by decide
theorem fc94_1 : IntKind.wrap .i64 1 = 1 := by decide
theorem fc94_2 : IntKind.wrap .i64 2 = 2 := by decide
theorem fc94_3 : IntKind.wrap .i64 3 = 3 := by decide
theorem fc94_4 : IntKind.wrap .i64 4 = 4 := by decide
theorem fc94_5 : IntKind.wrap .i64 5 = 5 := by decide
theorem fc94_6 : IntKind.wrap .i64 6 = 6 := by decide
theorem fc94_7 : IntKind.wrap .i64 7 = 7 := by decide
theorem s94 : ∀ vs r, g_impl_IsFinite vs = some r → SaysM Try.prog .any 94 vs r := by
  intro vs r h
  unfold g_impl_IsFinite at h
  split at h
  · rename_i y0
    cases h
    refine spec_of (m := .any) (tab := tabOf []) (cp := cp94) (ic := ic94) (rvl := [(.t 2)]) hm tabOk_nil Try.func94 rfl rfl rfl (by kernel_rfl) rfl (Nat.le_of_ble_eq_true rfl) (Nat.le_of_ble_eq_true rfl) ?_
    show eA _ _ _ _
    unfold ic94
    simp only [
        grpS, grpD, grpF, grpL, eop, vop, bop, uop, fltop, convop, endOk, newE, new1, freshL, Md.isNew, outV, pureV, pureX, pure1, AV.cells, AV.one, storable, laid, refless,
              refless1, vload, loadC, storeC, vnil, vfaddr, vextract, flatT, flatE, flatC, vconv, vmm, vidxA, viaddrA, vfield, vlen, elemsOf, dF32, dF64, dI64, dU8, dBool, dStr,
              esOk, elemsS, vsliceX, bnd, ownV, ownC, own1, ownT, isSl, nSl, endL, Md.isOwn, purge, purgeH, purgeB, purgeE, hasName, name1, List.any_cons, List.any_nil, Md.isWr,
              pureV.pureP, Option.map, reduceIte, Nat.reduceEqDiff, Nat.reduceAdd, Nat.reduceMul, Nat.reduceLT, Nat.reduceLeDiff, List.mapM_cons, List.mapM_nil, Option.pure_def,
              Option.bind_eq_bind, Option.bind_some, implies_true, forall_const, beq_self_eq_true, decide_true, decide_false, eq_self, Int.reduceEq, Int.reduceLE, Int.reduceLT,
              if_true, if_false, fc94_0, fc94_1, fc94_2, fc94_3, fc94_4, fc94_5, fc94_6, fc94_7, Int.reduceAdd, Int.reduceSub, Int.reduceMul, Int.reduceNeg, Int.reducePow,
              Nat.reducePow, Int.reduceToNat, Nat.reduceSub, List.replicate, Nat.reduceBEq, wAs, wA, wC, zipW, noDupN, grpE, grpC, en0, dc_en0]
    repeat' (first
      | ((first | (refine eGI_of (fun h => ?_) (fun h => ?_)) | (refine eCc_of (fun h => ?_) (fun h => ?_))) <;> (try simp only [Bool.not_eq_true', Bool.not_eq_false'] at h) <;> simp only [h,
        grpS, grpD, grpF, grpL, eop, vop, bop, uop, fltop, convop, endOk, newE, new1, freshL, Md.isNew, outV, pureV, pureX, pure1, AV.cells, AV.one, storable, laid, refless,
              refless1, vload, loadC, storeC, vnil, vfaddr, vextract, flatT, flatE, flatC, vconv, vmm, vidxA, viaddrA, vfield, vlen, elemsOf, dF32, dF64, dI64, dU8, dBool, dStr,
              esOk, elemsS, vsliceX, bnd, ownV, ownC, own1, ownT, isSl, nSl, endL, Md.isOwn, purge, purgeH, purgeB, purgeE, hasName, name1, List.any_cons, List.any_nil, Md.isWr,
              pureV.pureP, Option.map, reduceIte, Nat.reduceEqDiff, Nat.reduceAdd, Nat.reduceMul, Nat.reduceLT, Nat.reduceLeDiff, List.mapM_cons, List.mapM_nil, Option.pure_def,
              Option.bind_eq_bind, Option.bind_some, implies_true, forall_const, beq_self_eq_true, decide_true, decide_false, eq_self, Int.reduceEq, Int.reduceLE, Int.reduceLT,
              if_true, if_false, fc94_0, fc94_1, fc94_2, fc94_3, fc94_4, fc94_5, fc94_6, fc94_7, Int.reduceAdd, Int.reduceSub, Int.reduceMul, Int.reduceNeg, Int.reducePow,
              Nat.reducePow, Int.reduceToNat, Nat.reduceSub, List.replicate, Nat.reduceBEq, wAs, wA, wC, zipW, noDupN, grpE, grpC, en0, dc_en0]))
    all_goals (try simp only [*, m_impl_IsFinite, Bool.and_true, Bool.true_and, Bool.and_false, Bool.false_and, Bool.or_true, Bool.true_or, Bool.or_false, Bool.false_or, Bool.not_true, Bool.not_false, Bool.false_eq_true, if_true, if_false, reduceIte, decide_true, decide_false])
    all_goals (try (simp_all; done))
  · cases h
def m_impl_isLength (x0 : Nat) : Bool := (if (m_impl_IsFinite x0) = true then (!(feq .f32 x0 0)) else false)
def g_impl_isLength : List AV → Option AV
  | [.flt .f32 y0] => some (.bool (m_impl_isLength y0))
  | _ => none
def ic66 : ICode := (.seq (.reg [⟨(some 2), none, (.mov (.c (.bool false)))⟩] [0]) (.seq (.reg [⟨(some 3), none, (.mov (.t 0))⟩, ⟨(some 4), none, (.call (.fn 94) [(.t 3)] [])⟩,
      ⟨(some 5), none, (.mov (.t 4))⟩, ⟨(some 6), (some (5, true)), (.mov (.t 0))⟩, ⟨(some 7), (some (5, true)), (.bin .neq false (.t 6) (.c (.flt .f32 0)))⟩, ⟨(some 8), none,
      (.pick (.t 5) (.t 7) (.c (.bool false)))⟩, ⟨(some 2), none, (.mov (.t 8))⟩] [2]) .ret))
def cp66 : CP := CP.mk [] [] [[0], [2]] 9
theorem fc66_0 : IntKind.wrap .i64 0 = 0 := by decide
theorem fc66_1 : IntKind.wrap .i64 1 = 1 := by decide
theorem fc66_2 : IntKind.wrap .i64 2 = 2 := by decide
theorem fc66_3 : IntKind.wrap .i64 3 = 3 := by decide
theorem fc66_4 : IntKind.wrap .i64 4 = 4 := by decide
theorem fc66_5 : IntKind.wrap .i64 5 = 5 := by decide
theorem fc66_6 : IntKind.wrap .i64 6 = 6 := by decide
theorem fc66_7 : IntKind.wrap .i64 7 = 7 := by decide
theorem s66 : ∀ vs r, g_impl_isLength vs = some r → SaysM Try.prog .any 66 vs r := by
  intro vs r h
  unfold g_impl_isLength at h
  split at h
  · rename_i y0
    cases h
    refine spec_of (m := .any) (tab := tabOf [(94, wM .any g_impl_IsFinite)]) (cp := cp66) (ic := ic66) (rvl := [(.t 2)]) hm (tabOk_cons (m := .any) s94 tabOk_nil) Try.func66 rfl rfl rfl (by kernel_rfl) rfl (Nat.le_of_ble_eq_true rfl) (Nat.le_of_ble_eq_true rfl) ?_
    show eA _ _ _ _
    unfold ic66
    simp only [
        grpS, grpD, grpF, grpL, eop, vop, bop, uop, fltop, convop, endOk, newE, new1, freshL, Md.isNew, outV, pureV, pureX, pure1, AV.cells, AV.one, storable, laid, refless,
              refless1, vload, loadC, storeC, vnil, vfaddr, vextract, flatT, flatE, flatC, vconv, vmm, vidxA, viaddrA, vfield, vlen, elemsOf, dF32, dF64, dI64, dU8, dBool, dStr,
              esOk, elemsS, vsliceX, bnd, ownV, ownC, own1, ownT, isSl, nSl, endL, Md.isOwn, purge, purgeH, purgeB, purgeE, hasName, name1, List.any_cons, List.any_nil, Md.isWr,
              pureV.pureP, Option.map, reduceIte, Nat.reduceEqDiff, Nat.reduceAdd, Nat.reduceMul, Nat.reduceLT, Nat.reduceLeDiff, List.mapM_cons, List.mapM_nil, Option.pure_def,
              Option.bind_eq_bind, Option.bind_some, implies_true, forall_const, beq_self_eq_true, decide_true, decide_false, eq_self, Int.reduceEq, Int.reduceLE, Int.reduceLT,
              if_true, if_false, fc66_0, fc66_1, fc66_2, fc66_3, fc66_4, fc66_5, fc66_6, fc66_7, Int.reduceAdd, Int.reduceSub, Int.reduceMul, Int.reduceNeg, Int.reducePow,
              Nat.reducePow, Int.reduceToNat, Nat.reduceSub, List.replicate, Nat.reduceBEq, wAs, wA, wC, zipW, noDupN, grpE, g_impl_IsFinite, grpC, en0, dc_en0, ↓b_pick, ePk_true,
              ePk_false]
    repeat' (first
      | ((first | (refine eGI_of (fun h => ?_) (fun h => ?_)) | (refine eCc_of (fun h => ?_) (fun h => ?_)) | (refine ePk_of (fun h => ?_) (fun h => ?_))) <;> (try simp only [Bool.not_eq_true', Bool.not_eq_false'] at h) <;> simp only [h,
        grpS, grpD, grpF, grpL, eop, vop, bop, uop, fltop, convop, endOk, newE, new1, freshL, Md.isNew, outV, pureV, pureX, pure1, AV.cells, AV.one, storable, laid, refless,
              refless1, vload, loadC, storeC, vnil, vfaddr, vextract, flatT, flatE, flatC, vconv, vmm, vidxA, viaddrA, vfield, vlen, elemsOf, dF32, dF64, dI64, dU8, dBool, dStr,
              esOk, elemsS, vsliceX, bnd, ownV, ownC, own1, ownT, isSl, nSl, endL, Md.isOwn, purge, purgeH, purgeB, purgeE, hasName, name1, List.any_cons, List.any_nil, Md.isWr,
              pureV.pureP, Option.map, reduceIte, Nat.reduceEqDiff, Nat.reduceAdd, Nat.reduceMul, Nat.reduceLT, Nat.reduceLeDiff, List.mapM_cons, List.mapM_nil, Option.pure_def,
              Option.bind_eq_bind, Option.bind_some, implies_true, forall_const, beq_self_eq_true, decide_true, decide_false, eq_self, Int.reduceEq, Int.reduceLE, Int.reduceLT,
              if_true, if_false, fc66_0, fc66_1, fc66_2, fc66_3, fc66_4, fc66_5, fc66_6, fc66_7, Int.reduceAdd, Int.reduceSub, Int.reduceMul, Int.reduceNeg, Int.reducePow,
              Nat.reducePow, Int.reduceToNat, Nat.reduceSub, List.replicate, Nat.reduceBEq, wAs, wA, wC, zipW, noDupN, grpE, g_impl_IsFinite, grpC, en0, dc_en0, ↓b_pick, ePk_true,
              ePk_false]))
    all_goals (try simp only [*, m_impl_isLength, Bool.and_true, Bool.true_and, Bool.and_false, Bool.false_and, Bool.or_true, Bool.true_or, Bool.or_false, Bool.false_or, Bool.not_true, Bool.not_false, Bool.false_eq_true, if_true, if_false, reduceIte, decide_true, decide_false])
    all_goals (try (simp_all; done))
  · cases h
def m_impl_ScaleVector (x0 : (Nat × Nat × Nat)) (x1 : Nat) : (Nat × Nat × Nat) := ((fmul .f32 x0.1 x1), (fmul .f32 x0.2.1 x1), (fmul .f32 x0.2.2 x1))
def g_impl_ScaleVector : List AV → Option AV
  | [.agg [.flt .f32 y0, .flt .f32 y1, .flt .f32 y2], .flt .f32 y3] => some (AV.agg [(.flt .f32 (m_impl_ScaleVector (y0, y1, y2) y3).1),
      (.flt .f32 (m_impl_ScaleVector (y0, y1, y2) y3).2.1), (.flt .f32 (m_impl_ScaleVector (y0, y1, y2) y3).2.2)])
  | _ => none
def ic68 : ICode := (.seq (.reg [⟨(some 2), none, (.box 3 (.t 0))⟩, ⟨(some 4), none, (.alloc (.agg [(.flt .f32 0), (.flt .f32 0), (.flt .f32 0)]))⟩] [1, 2, 4]) (.seq (.reg [⟨(some
      5), none, (.faddr 0 (.t 2))⟩, ⟨(some 6), none, (.load none (.t 5))⟩, ⟨(some 7), none, (.mov (.t 1))⟩, ⟨(some 8), none, (.bin .mul false (.t 6) (.t 7))⟩, ⟨(some 9), none,
      (.faddr 1 (.t 2))⟩, ⟨(some 10), none, (.load none (.t 9))⟩, ⟨(some 11), none, (.mov (.t 1))⟩, ⟨(some 12), none, (.bin .mul false (.t 10) (.t 11))⟩, ⟨(some 13), none, (.faddr 2
      (.t 2))⟩, ⟨(some 14), none, (.load none (.t 13))⟩, ⟨(some 15), none, (.mov (.t 1))⟩, ⟨(some 16), none, (.bin .mul false (.t 14) (.t 15))⟩, ⟨(some 17), none, (.build [(.flt
      .f32 0), (.flt .f32 0), (.flt .f32 0)] [(0, 1, (.t 8)), (1, 1, (.t 12)), (2, 1, (.t 16))])⟩, ⟨none, none, (.store 3 (.t 4) (.t 17))⟩] [4]) .ret))
def cp68 : CP := CP.mk [] [] [[1, 2, 4], [4]] 18
theorem fc68_0 : IntKind.wrap .i64 0 = 0 := by decide
theorem fc68_1 : IntKind.wrap .i64 1 = 1 := by decide
theorem fc68_2 : IntKind.wrap .i64 2 = 2 := by decide
theorem fc68_3 : IntKind.wrap .i64 3 = 3 := by decide
theorem fc68_4 : IntKind.wrap .i64 4 = 4 := by decide
theorem fc68_5 : IntKind.wrap .i64 5 = 5 := by decide
theorem fc68_6 : IntKind.wrap .i64 6 = 6 := by decide
theorem fc68_7 : IntKind.wrap .i64 7 = 7 := by decide
theorem s68 : ∀ vs r, g_impl_ScaleVector vs = some r → SaysM Try.prog .any 68 vs r := by
  intro vs r h
  unfold g_impl_ScaleVector at h
  split at h
  · rename_i y0 y1 y2 y3
    cases h
    refine spec_of (m := .any) (tab := tabOf []) (cp := cp68) (ic := ic68) (rvl := [(.c 4 (some 3))]) hm tabOk_nil Try.func68 rfl rfl rfl (by kernel_rfl) rfl (Nat.le_of_ble_eq_true rfl) (Nat.le_of_ble_eq_true rfl) ?_
    show eA _ _ _ _
    unfold ic68
    simp only [
        grpS, grpD, grpF, grpL, eop, vop, bop, uop, fltop, convop, endOk, newE, new1, freshL, Md.isNew, outV, pureV, pureX, pure1, AV.cells, AV.one, storable, laid, refless,
              refless1, vload, loadC, storeC, vnil, vfaddr, vextract, flatT, flatE, flatC, vconv, vmm, vidxA, viaddrA, vfield, vlen, elemsOf, dF32, dF64, dI64, dU8, dBool, dStr,
              esOk, elemsS, vsliceX, bnd, ownV, ownC, own1, ownT, isSl, nSl, endL, Md.isOwn, purge, purgeH, purgeB, purgeE, hasName, name1, List.any_cons, List.any_nil, Md.isWr,
              pureV.pureP, Option.map, reduceIte, Nat.reduceEqDiff, Nat.reduceAdd, Nat.reduceMul, Nat.reduceLT, Nat.reduceLeDiff, List.mapM_cons, List.mapM_nil, Option.pure_def,
              Option.bind_eq_bind, Option.bind_some, implies_true, forall_const, beq_self_eq_true, decide_true, decide_false, eq_self, Int.reduceEq, Int.reduceLE, Int.reduceLT,
              if_true, if_false, fc68_0, fc68_1, fc68_2, fc68_3, fc68_4, fc68_5, fc68_6, fc68_7, Int.reduceAdd, Int.reduceSub, Int.reduceMul, Int.reduceNeg, Int.reducePow,
              Nat.reducePow, Int.reduceToNat, Nat.reduceSub, List.replicate, Nat.reduceBEq, wAs, wA, wC, zipW, noDupN, grpE, grpC, en0, dc_en0]
    repeat' (first
      | ((first | (refine eGI_of (fun h => ?_) (fun h => ?_)) | (refine eCc_of (fun h => ?_) (fun h => ?_))) <;> (try simp only [Bool.not_eq_true', Bool.not_eq_false'] at h) <;> simp only [h,
        grpS, grpD, grpF, grpL, eop, vop, bop, uop, fltop, convop, endOk, newE, new1, freshL, Md.isNew, outV, pureV, pureX, pure1, AV.cells, AV.one, storable, laid, refless,
              refless1, vload, loadC, storeC, vnil, vfaddr, vextract, flatT, flatE, flatC, vconv, vmm, vidxA, viaddrA, vfield, vlen, elemsOf, dF32, dF64, dI64, dU8, dBool, dStr,
              esOk, elemsS, vsliceX, bnd, ownV, ownC, own1, ownT, isSl, nSl, endL, Md.isOwn, purge, purgeH, purgeB, purgeE, hasName, name1, List.any_cons, List.any_nil, Md.isWr,
              pureV.pureP, Option.map, reduceIte, Nat.reduceEqDiff, Nat.reduceAdd, Nat.reduceMul, Nat.reduceLT, Nat.reduceLeDiff, List.mapM_cons, List.mapM_nil, Option.pure_def,
              Option.bind_eq_bind, Option.bind_some, implies_true, forall_const, beq_self_eq_true, decide_true, decide_false, eq_self, Int.reduceEq, Int.reduceLE, Int.reduceLT,
              if_true, if_false, fc68_0, fc68_1, fc68_2, fc68_3, fc68_4, fc68_5, fc68_6, fc68_7, Int.reduceAdd, Int.reduceSub, Int.reduceMul, Int.reduceNeg, Int.reducePow,
              Nat.reducePow, Int.reduceToNat, Nat.reduceSub, List.replicate, Nat.reduceBEq, wAs, wA, wC, zipW, noDupN, grpE, grpC, en0, dc_en0]))
    all_goals (try simp only [*, m_impl_ScaleVector, Bool.and_true, Bool.true_and, Bool.and_false, Bool.false_and, Bool.or_true, Bool.true_or, Bool.or_false, Bool.false_or, Bool.not_true, Bool.not_false, Bool.false_eq_true, if_true, if_false, reduceIte, decide_true, decide_false])
    all_goals (try (simp_all; done))
  · cases h
def m_impl_AddVectors (x0 : (Nat × Nat × Nat)) (x1 : (Nat × Nat × Nat)) : (Nat × Nat × Nat) := ((fadd .f32 x0.1 x1.1), (fadd .f32 x0.2.1 x1.2.1), (fadd .f32 x0.2.2 x1.2.2))
end Go.Proofs
