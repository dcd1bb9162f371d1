/- What functions that FnExactBoneLengths reaches compute. No conditions. -/
import Derived.Test.YtpoghajdcdfhbacFwF
import Derived.Test.YtpoghajdcdfhbacProg
import Derived.KernelRfl
set_option maxRecDepth 100000
set_option maxHeartbeats 4000000
set_option linter.all false
namespace Go.Proofs
open Go.Ab
theorem hm : Try.prog.follows .mixedOrders = true := by kernel_rfl
def en0 (p : (Int × Nat × Nat × Nat)) : AV := (AV.agg [(.int .i64 p.1), (.flt .f32 p.2.1), (.flt .f32 p.2.2.1), (.flt .f32 p.2.2.2)])
def dc_en0 : AV → Option (Int × Nat × Nat × Nat)
  | .agg [.int .i64 y0, .flt .f32 y1, .flt .f32 y2, .flt .f32 y3] => some (y0, y1, y2, y3)
  | _ => none
theorem dc_en0_map (ys : List (Int × Nat × Nat × Nat)) : decL dc_en0 (List.map en0 ys) = some ys := decL_map (d := dc_en0) (e := en0) (fun p => by rfl) ys
theorem dc_en0_inv : ∀ x p, dc_en0 x = some p → x = en0 p := by
  intro x p h; unfold dc_en0 at h; split at h
  · cases h; rfl
  · cases h
theorem dc_en0_es (l : List (Int × Nat × Nat × Nat)) : List.all (List.map en0 l) (esIs 4) = true := all_enc (fun _ => rfl) l
theorem dc_en0_st (l : List (Int × Nat × Nat × Nat)) : List.all (List.map en0 l) (esSt 4) = true := all_enc (fun _ => rfl) l
theorem dc_en0_fl (l : List (Int × Nat × Nat × Nat)) : List.all (List.map en0 l) flatE = true := all_enc (fun _ => rfl) l
def grpC := And.intro @dc_en0_map <| And.intro @dc_en0_es <| And.intro @dc_en0_st @dc_en0_fl
def m_laws_szBoneS (x0 : (List (Int × Nat × Nat × Nat))) (x1 : Int) : Int := (if (decide ((IntKind.wrap .i64 (x1 - ((List.length x0 : Nat) : Int))) < 0)) = true then (-1) else
      (IntKind.wrap .i64 (x1 - ((List.length x0 : Nat) : Int))))
def g_laws_szBoneS : List AV → Option AV
  | [.sl w0, .int .i64 y1] => (match decL dc_en0 w0 with | some y0 => (some (.int .i64 (m_laws_szBoneS y0 y1))) | none => none)
  | _ => none
def ic59 : ICode := (.seq (.reg [⟨(some 4), none, (.mov (.c (.int .i64 0)))⟩] [0, 1]) (.seq (.reg [⟨(some 5), none, (.mov (.t 1))⟩, ⟨(some 6), none, (.mov (.t 0))⟩, ⟨(some 7), none,
      (.len false (.t 6))⟩, ⟨(some 8), none, (.bin .sub false (.t 5) (.t 7))⟩, ⟨(some 1), none, (.mov (.t 8))⟩] [1]) (.seq (.seq (.reg [⟨(some 9), none, (.mov (.t 1))⟩, ⟨(some 10),
      none, (.bin .lss false (.t 9) (.c (.int .i64 0)))⟩] [1, 10]) (.cond (.t 10) (.seq (.reg [⟨(some 4), none, (.mov (.c (.int .i64 (-1))))⟩] [4]) .ret) .skip)) (.seq (.reg [⟨(some
      11), none, (.mov (.t 1))⟩, ⟨(some 4), none, (.mov (.t 11))⟩] [4]) .ret))))
def cp59 : CP := CP.mk [] [] [[0, 1], [1], [1, 10], [4], [4]] 12
theorem fc59_0 : IntKind.wrap .i64 0 = 0 := by decide
theorem fc59_1 : IntKind.wrap .i64 1 = 1 := by decide
theorem fc59_2 : IntKind.wrap .i64 2 = 2 := by decide
theorem fc59_3 : IntKind.wrap .i64 3 = 3 := by decide
theorem fc59_4 : IntKind.wrap .i64 4 = 4 := by decide
theorem s59 : ∀ vs r, g_laws_szBoneS vs = some r → SaysM Try.prog .any 59 vs r := by
  intro vs r h
  unfold g_laws_szBoneS at h
  split at h
  · rename_i w0 y1
    cases hd_y0 : decL dc_en0 w0 with
    | none => rw [hd_y0] at h; cases h
    | some y0 =>
    rw [hd_y0] at h
    obtain rfl := decL_inv dc_en0_inv hd_y0
    clear hd_y0
    dsimp only at h
    cases h
    refine spec_of (m := .any) (tab := tabOf []) (cp := cp59) (ic := ic59) (rvl := [(.t 4)]) hm tabOk_nil Try.func59 rfl rfl rfl (by kernel_rfl) rfl (Nat.le_of_ble_eq_true rfl) (Nat.le_of_ble_eq_true rfl) ?_
    show eA _ _ _ _
    unfold ic59
    simp only [
        grpS, grpD, grpF, grpL, eop, vop, bop, uop, fltop, convop, endOk, newE, new1, freshL, Md.isNew, outV, pureV, pureX, pure1, AV.cells, AV.one, storable, laid, refless,
              refless1, vload, loadC, storeC, vnil, vfaddr, vextract, flatT, flatE, flatC, vconv, vmm, vidxA, viaddrA, vfield, vlen, elemsOf, dF32, dF64, dI64, dU8, dBool, dStr,
              esOk, elemsS, vsliceX, bnd, ownV, ownC, own1, ownT, isSl, nSl, endL, Md.isOwn, purge, purgeH, purgeB, purgeE, hasName, name1, List.any_cons, List.any_nil, Md.isWr,
              pureV.pureP, Option.map, reduceIte, Nat.reduceEqDiff, Nat.reduceAdd, Nat.reduceMul, Nat.reduceLT, Nat.reduceLeDiff, List.mapM_cons, List.mapM_nil, Option.pure_def,
              Option.bind_eq_bind, Option.bind_some, implies_true, forall_const, beq_self_eq_true, decide_true, decide_false, eq_self, Int.reduceEq, Int.reduceLE, Int.reduceLT,
              if_true, if_false, fc59_0, fc59_1, fc59_2, fc59_3, fc59_4, Int.reduceAdd, Int.reduceSub, Int.reduceMul, Int.reduceNeg, Int.reducePow, Nat.reducePow, Int.reduceToNat,
              Nat.reduceSub, List.replicate, Nat.reduceBEq, wAs, wA, wC, zipW, noDupN, grpE, grpC, en0, dc_en0]
    repeat' (first
      | ((first | (refine eGI_of (fun h => ?_) (fun h => ?_)) | (refine eCc_of (fun h => ?_) (fun h => ?_))) <;> (try simp only [Bool.not_eq_true', Bool.not_eq_false'] at h) <;> simp only [h,
        grpS, grpD, grpF, grpL, eop, vop, bop, uop, fltop, convop, endOk, newE, new1, freshL, Md.isNew, outV, pureV, pureX, pure1, AV.cells, AV.one, storable, laid, refless,
              refless1, vload, loadC, storeC, vnil, vfaddr, vextract, flatT, flatE, flatC, vconv, vmm, vidxA, viaddrA, vfield, vlen, elemsOf, dF32, dF64, dI64, dU8, dBool, dStr,
              esOk, elemsS, vsliceX, bnd, ownV, ownC, own1, ownT, isSl, nSl, endL, Md.isOwn, purge, purgeH, purgeB, purgeE, hasName, name1, List.any_cons, List.any_nil, Md.isWr,
              pureV.pureP, Option.map, reduceIte, Nat.reduceEqDiff, Nat.reduceAdd, Nat.reduceMul, Nat.reduceLT, Nat.reduceLeDiff, List.mapM_cons, List.mapM_nil, Option.pure_def,
              Option.bind_eq_bind, Option.bind_some, implies_true, forall_const, beq_self_eq_true, decide_true, decide_false, eq_self, Int.reduceEq, Int.reduceLE, Int.reduceLT,
              if_true, if_false, fc59_0, fc59_1, fc59_2, fc59_3, fc59_4, Int.reduceAdd, Int.reduceSub, Int.reduceMul, Int.reduceNeg, Int.reducePow, Nat.reducePow, Int.reduceToNat,
              Nat.reduceSub, List.replicate, Nat.reduceBEq, wAs, wA, wC, zipW, noDupN, grpE, grpC, en0, dc_en0]))
    all_goals (try simp only [*, m_laws_szBoneS, Bool.and_true, Bool.true_and, Bool.and_false, Bool.false_and, Bool.or_true, Bool.true_or, Bool.or_false, Bool.false_or, Bool.not_true, Bool.not_false, Bool.false_eq_true, if_true, if_false, reduceIte, decide_true, decide_false])
    all_goals (try (simp_all; done))
  · cases h
def m_laws_szSkeleton (x0 : (List (Int × Nat × Nat × Nat))) (x1 : Int) : Int := (if (decide ((m_laws_szBoneS x0 x1) < 0)) = true then (-1) else (m_laws_szBoneS x0 x1))
def g_laws_szSkeleton : List AV → Option AV
  | [.agg [.sl w0], .int .i64 y1] => (match decL dc_en0 w0 with | some y0 => (some (.int .i64 (m_laws_szSkeleton y0 y1))) | none => none)
  | _ => none
def ic21 : ICode := (.seq (.reg [⟨(some 2), none, (.box 1 (.t 0))⟩, ⟨(some 4), none, (.mov (.c (.int .i64 0)))⟩] [1, 2]) (.seq (.reg [⟨(some 5), none, (.faddr 0 (.t 2))⟩, ⟨(some 6),
      none, (.load none (.t 5))⟩, ⟨(some 7), none, (.mov (.t 1))⟩, ⟨(some 8), none, (.call (.fn 59) [(.t 6), (.t 7)] [])⟩, ⟨(some 1), none, (.mov (.t 8))⟩] [1]) (.seq (.seq (.reg
      [⟨(some 9), none, (.mov (.t 1))⟩, ⟨(some 10), none, (.bin .lss false (.t 9) (.c (.int .i64 0)))⟩] [1, 10]) (.cond (.t 10) (.seq (.reg [⟨(some 4), none, (.mov (.c (.int .i64
      (-1))))⟩] [4]) .ret) .skip)) (.seq (.reg [⟨(some 11), none, (.mov (.t 1))⟩, ⟨(some 4), none, (.mov (.t 11))⟩] [4]) .ret))))
def cp21 : CP := CP.mk [] [] [[1, 2], [1], [1, 10], [4], [4]] 12
theorem fc21_0 : IntKind.wrap .i64 0 = 0 := by decide
theorem fc21_1 : IntKind.wrap .i64 1 = 1 := by decide
theorem fc21_2 : IntKind.wrap .i64 2 = 2 := by decide
theorem fc21_3 : IntKind.wrap .i64 3 = 3 := by decide
theorem fc21_4 : IntKind.wrap .i64 4 = 4 := by decide
theorem s21 : ∀ vs r, g_laws_szSkeleton vs = some r → SaysM Try.prog .any 21 vs r := by
  intro vs r h
  unfold g_laws_szSkeleton at h
  split at h
  · rename_i w0 y1
    cases hd_y0 : decL dc_en0 w0 with
    | none => rw [hd_y0] at h; cases h
    | some y0 =>
    rw [hd_y0] at h
    obtain rfl := decL_inv dc_en0_inv hd_y0
    clear hd_y0
    dsimp only at h
    cases h
    refine spec_of (m := .any) (tab := tabOf [(59, wM .any g_laws_szBoneS)]) (cp := cp21) (ic := ic21) (rvl := [(.t 4)]) hm (tabOk_cons (m := .any) s59 tabOk_nil) Try.func21 rfl rfl rfl (by kernel_rfl) rfl (Nat.le_of_ble_eq_true rfl) (Nat.le_of_ble_eq_true rfl) ?_
    show eA _ _ _ _
    unfold ic21
    simp only [
        grpS, grpD, grpF, grpL, eop, vop, bop, uop, fltop, convop, endOk, newE, new1, freshL, Md.isNew, outV, pureV, pureX, pure1, AV.cells, AV.one, storable, laid, refless,
              refless1, vload, loadC, storeC, vnil, vfaddr, vextract, flatT, flatE, flatC, vconv, vmm, vidxA, viaddrA, vfield, vlen, elemsOf, dF32, dF64, dI64, dU8, dBool, dStr,
              esOk, elemsS, vsliceX, bnd, ownV, ownC, own1, ownT, isSl, nSl, endL, Md.isOwn, purge, purgeH, purgeB, purgeE, hasName, name1, List.any_cons, List.any_nil, Md.isWr,
              pureV.pureP, Option.map, reduceIte, Nat.reduceEqDiff, Nat.reduceAdd, Nat.reduceMul, Nat.reduceLT, Nat.reduceLeDiff, List.mapM_cons, List.mapM_nil, Option.pure_def,
              Option.bind_eq_bind, Option.bind_some, implies_true, forall_const, beq_self_eq_true, decide_true, decide_false, eq_self, Int.reduceEq, Int.reduceLE, Int.reduceLT,
              if_true, if_false, fc21_0, fc21_1, fc21_2, fc21_3, fc21_4, Int.reduceAdd, Int.reduceSub, Int.reduceMul, Int.reduceNeg, Int.reducePow, Nat.reducePow, Int.reduceToNat,
              Nat.reduceSub, List.replicate, Nat.reduceBEq, wAs, wA, wC, zipW, noDupN, grpE, g_laws_szBoneS, grpC, en0, dc_en0]
    repeat' (first
      | ((first | (refine eGI_of (fun h => ?_) (fun h => ?_)) | (refine eCc_of (fun h => ?_) (fun h => ?_))) <;> (try simp only [Bool.not_eq_true', Bool.not_eq_false'] at h) <;> simp only [h,
        grpS, grpD, grpF, grpL, eop, vop, bop, uop, fltop, convop, endOk, newE, new1, freshL, Md.isNew, outV, pureV, pureX, pure1, AV.cells, AV.one, storable, laid, refless,
              refless1, vload, loadC, storeC, vnil, vfaddr, vextract, flatT, flatE, flatC, vconv, vmm, vidxA, viaddrA, vfield, vlen, elemsOf, dF32, dF64, dI64, dU8, dBool, dStr,
              esOk, elemsS, vsliceX, bnd, ownV, ownC, own1, ownT, isSl, nSl, endL, Md.isOwn, purge, purgeH, purgeB, purgeE, hasName, name1, List.any_cons, List.any_nil, Md.isWr,
              pureV.pureP, Option.map, reduceIte, Nat.reduceEqDiff, Nat.reduceAdd, Nat.reduceMul, Nat.reduceLT, Nat.reduceLeDiff, List.mapM_cons, List.mapM_nil, Option.pure_def,
              Option.bind_eq_bind, Option.bind_some, implies_true, forall_const, beq_self_eq_true, decide_true, decide_false, eq_self, Int.reduceEq, Int.reduceLE, Int.reduceLT,
              if_true, if_false, fc21_0, fc21_1, fc21_2, fc21_3, fc21_4, Int.reduceAdd, Int.reduceSub, Int.reduceMul, Int.reduceNeg, Int.reducePow, Nat.reducePow, Int.reduceToNat,
              Nat.reduceSub, List.replicate, Nat.reduceBEq, wAs, wA, wC, zipW, noDupN, grpE, g_laws_szBoneS, grpC, en0, dc_en0]))
    all_goals (try simp only [*, m_laws_szSkeleton, Bool.and_true, Bool.true_and, Bool.and_false, Bool.false_and, Bool.or_true, Bool.true_or, Bool.or_false, Bool.false_or, Bool.not_true, Bool.not_false, Bool.false_eq_true, if_true, if_false, reduceIte, decide_true, decide_false])
    all_goals (try (simp_all; done))
  · cases h
def m_laws_toVector (x0 : (Nat × Nat × Nat)) : (Nat × Nat × Nat) := (x0.1, x0.2.1, x0.2.2)
def g_laws_toVector : List AV → Option AV
  | [.agg [.flt .f32 y0, .flt .f32 y1, .flt .f32 y2]] => some (AV.agg [(.flt .f32 (m_laws_toVector (y0, y1, y2)).1), (.flt .f32
      (m_laws_toVector (y0, y1, y2)).2.1), (.flt .f32 (m_laws_toVector (y0, y1, y2)).2.2)])
  | _ => none
def ic34 : ICode := (.seq (.reg [⟨(some 1), none, (.box 3 (.t 0))⟩, ⟨(some 2), none, (.alloc (.agg [(.flt .f32 0), (.flt .f32 0), (.flt .f32 0)]))⟩] [1, 2]) (.seq (.reg [⟨(some 3),
      none, (.alloc (.agg [(.flt .f32 0), (.flt .f32 0), (.flt .f32 0)]))⟩] [1, 2, 3]) (.seq (.reg [⟨(some 4), none, (.faddr 0 (.t 1))⟩, ⟨(some 5), none, (.load none (.t 4))⟩,
      ⟨(some 6), none, (.faddr 0 (.t 3))⟩, ⟨none, none, (.store 1 (.t 6) (.t 5))⟩] [1, 2, 3]) (.seq (.reg [⟨(some 7), none, (.faddr 1 (.t 1))⟩, ⟨(some 8), none, (.load none (.t
      7))⟩, ⟨(some 9), none, (.faddr 1 (.t 3))⟩, ⟨none, none, (.store 1 (.t 9) (.t 8))⟩] [1, 2, 3]) (.seq (.reg [⟨(some 10), none, (.faddr 2 (.t 1))⟩, ⟨(some 11), none, (.load none
      (.t 10))⟩, ⟨(some 12), none, (.faddr 2 (.t 3))⟩, ⟨none, none, (.store 1 (.t 12) (.t 11))⟩] [2, 3]) (.seq (.reg [⟨(some 13), none, (.load (some 3) (.t 3))⟩, ⟨none, none,
      (.store 3 (.t 2) (.t 13))⟩] [2]) .ret))))))
def cp34 : CP := CP.mk [] [] [[1, 2], [1, 2, 3], [1, 2, 3], [1, 2, 3], [2, 3], [2]] 14
theorem fc34_0 : IntKind.wrap .i64 0 = 0 := by decide
theorem fc34_1 : IntKind.wrap .i64 1 = 1 := by decide
theorem fc34_2 : IntKind.wrap .i64 2 = 2 := by decide
theorem fc34_3 : IntKind.wrap .i64 3 = 3 := by decide
theorem fc34_4 : IntKind.wrap .i64 4 = 4 := by decide
theorem s34 : ∀ vs r, g_laws_toVector vs = some r → SaysM Try.prog .any 34 vs r := by
  intro vs r h
  unfold g_laws_toVector at h
  split at h
  · rename_i y0 y1 y2
    cases h
    refine spec_of (m := .any) (tab := tabOf []) (cp := cp34) (ic := ic34) (rvl := [(.c 2 (some 3))]) hm tabOk_nil Try.func34 rfl rfl rfl (by kernel_rfl) rfl (Nat.le_of_ble_eq_true rfl) (Nat.le_of_ble_eq_true rfl) ?_
    show eA _ _ _ _
    unfold ic34
    simp only [
        grpS, grpD, grpF, grpL, eop, vop, bop, uop, fltop, convop, endOk, newE, new1, freshL, Md.isNew, outV, pureV, pureX, pure1, AV.cells, AV.one, storable, laid, refless,
              refless1, vload, loadC, storeC, vnil, vfaddr, vextract, flatT, flatE, flatC, vconv, vmm, vidxA, viaddrA, vfield, vlen, elemsOf, dF32, dF64, dI64, dU8, dBool, dStr,
              esOk, elemsS, vsliceX, bnd, ownV, ownC, own1, ownT, isSl, nSl, endL, Md.isOwn, purge, purgeH, purgeB, purgeE, hasName, name1, List.any_cons, List.any_nil, Md.isWr,
              pureV.pureP, Option.map, reduceIte, Nat.reduceEqDiff, Nat.reduceAdd, Nat.reduceMul, Nat.reduceLT, Nat.reduceLeDiff, List.mapM_cons, List.mapM_nil, Option.pure_def,
              Option.bind_eq_bind, Option.bind_some, implies_true, forall_const, beq_self_eq_true, decide_true, decide_false, eq_self, Int.reduceEq, Int.reduceLE, Int.reduceLT,
              if_true, if_false, fc34_0, fc34_1, fc34_2, fc34_3, fc34_4, Int.reduceAdd, Int.reduceSub, Int.reduceMul, Int.reduceNeg, Int.reducePow, Nat.reducePow, Int.reduceToNat,
              Nat.reduceSub, List.replicate, Nat.reduceBEq, wAs, wA, wC, zipW, noDupN, grpE, grpC, en0, dc_en0]
    repeat' (first
      | ((first | (refine eGI_of (fun h => ?_) (fun h => ?_)) | (refine eCc_of (fun h => ?_) (fun h => ?_))) <;> (try simp only [Bool.not_eq_true', Bool.not_eq_false'] at h) <;> simp only [h,
        grpS, grpD, grpF, grpL, eop, vop, bop, uop, fltop, convop, endOk, newE, new1, freshL, Md.isNew, outV, pureV, pureX, pure1, AV.cells, AV.one, storable, laid, refless,
              refless1, vload, loadC, storeC, vnil, vfaddr, vextract, flatT, flatE, flatC, vconv, vmm, vidxA, viaddrA, vfield, vlen, elemsOf, dF32, dF64, dI64, dU8, dBool, dStr,
              esOk, elemsS, vsliceX, bnd, ownV, ownC, own1, ownT, isSl, nSl, endL, Md.isOwn, purge, purgeH, purgeB, purgeE, hasName, name1, List.any_cons, List.any_nil, Md.isWr,
              pureV.pureP, Option.map, reduceIte, Nat.reduceEqDiff, Nat.reduceAdd, Nat.reduceMul, Nat.reduceLT, Nat.reduceLeDiff, List.mapM_cons, List.mapM_nil, Option.pure_def,
              Option.bind_eq_bind, Option.bind_some, implies_true, forall_const, beq_self_eq_true, decide_true, decide_false, eq_self, Int.reduceEq, Int.reduceLE, Int.reduceLT,
              if_true, if_false, fc34_0, fc34_1, fc34_2, fc34_3, fc34_4, Int.reduceAdd, Int.reduceSub, Int.reduceMul, Int.reduceNeg, Int.reducePow, Nat.reducePow, Int.reduceToNat,
              Nat.reduceSub, List.replicate, Nat.reduceBEq, wAs, wA, wC, zipW, noDupN, grpE, grpC, en0, dc_en0]))
    all_goals (try simp only [*, m_laws_toVector, Bool.and_true, Bool.true_and, Bool.and_false, Bool.false_and, Bool.or_true, Bool.true_or, Bool.or_false, Bool.false_or, Bool.not_true, Bool.not_false, Bool.false_eq_true, if_true, if_false, reduceIte, decide_true, decide_false])
    all_goals (try (simp_all; done))
  · cases h
def m_laws_toBone (x0 : (Int × Nat × Nat × Nat)) : (Int × Nat × Nat × Nat) := (x0.1, (m_laws_toVector (x0.2.1, x0.2.2.1, x0.2.2.2)).1, (m_laws_toVector (x0.2.1, x0.2.2.1,
      x0.2.2.2)).2.1, (m_laws_toVector (x0.2.1, x0.2.2.1, x0.2.2.2)).2.2)
def g_laws_toBone : List AV → Option AV
  | [.agg [.int .i64 y0, .flt .f32 y1, .flt .f32 y2, .flt .f32 y3]] => some (AV.agg [(.int .i64 (m_laws_toBone (y0, y1, y2, y3)).1), (.flt
      .f32 (m_laws_toBone (y0, y1, y2, y3)).2.1), (.flt .f32 (m_laws_toBone (y0, y1, y2, y3)).2.2.1), (.flt .f32 (m_laws_toBone (y0, y1, y2, y3)).2.2.2)])
  | _ => none
def ic94 : ICode := (.seq (.reg [⟨(some 1), none, (.box 4 (.t 0))⟩, ⟨(some 2), none, (.alloc (.agg [(.int .i64 0), (.flt .f32 0), (.flt .f32 0), (.flt .f32 0)]))⟩] [1, 2]) (.seq
      (.reg [⟨(some 3), none, (.alloc (.agg [(.int .i64 0), (.flt .f32 0), (.flt .f32 0), (.flt .f32 0)]))⟩] [1, 2, 3]) (.seq (.reg [⟨(some 4), none, (.faddr 0 (.t 1))⟩, ⟨(some 5),
      none, (.load none (.t 4))⟩, ⟨(some 6), none, (.faddr 0 (.t 3))⟩, ⟨none, none, (.store 1 (.t 6) (.t 5))⟩] [1, 2, 3]) (.seq (.reg [⟨(some 7), none, (.faddr 1 (.t 1))⟩, ⟨(some
      8), none, (.load (some 3) (.t 7))⟩, ⟨(some 9), none, (.call (.fn 34) [(.t 8)] [])⟩, ⟨(some 10), none, (.faddr 1 (.t 3))⟩, ⟨none, none, (.store 3 (.t 10) (.t 9))⟩] [2, 3])
      (.seq (.reg [⟨(some 11), none, (.load (some 4) (.t 3))⟩, ⟨none, none, (.store 4 (.t 2) (.t 11))⟩] [2]) .ret)))))
def cp94 : CP := CP.mk [] [] [[1, 2], [1, 2, 3], [1, 2, 3], [2, 3], [2]] 12
theorem fc94_0 : IntKind.wrap .i64 0 = 0 := by decide
theorem fc94_1 : IntKind.wrap .i64 1 = 1 := by decide
theorem fc94_2 : IntKind.wrap .i64 2 = 2 := by decide
theorem fc94_3 : IntKind.wrap .i64 3 = 3 := by decide
theorem fc94_4 : IntKind.wrap .i64 4 = 4 := by decide
theorem s94 : ∀ vs r, g_laws_toBone vs = some r → SaysM Try.prog .any 94 vs r := by
  intro vs r h
  unfold g_laws_toBone at h
  split at h
  · rename_i y0 y1 y2 y3
    cases h
    refine spec_of (m := .any) (tab := tabOf [(34, wM .any g_laws_toVector)]) (cp := cp94) (ic := ic94) (rvl := [(.c 2 (some 4))]) hm (tabOk_cons (m := .any) s34 tabOk_nil) Try.func94 rfl rfl rfl (by kernel_rfl) rfl (Nat.le_of_ble_eq_true rfl) (Nat.le_of_ble_eq_true rfl) ?_
    show eA _ _ _ _
    unfold ic94
    simp only [
        grpS, grpD, grpF, grpL, eop, vop, bop, uop, fltop, convop, endOk, newE, new1, freshL, Md.isNew, outV, pureV, pureX, pure1, AV.cells, AV.one, storable, laid, refless,
              refless1, vload, loadC, storeC, vnil, vfaddr, vextract, flatT, flatE, flatC, vconv, vmm, vidxA, viaddrA, vfield, vlen, elemsOf, dF32, dF64, dI64, dU8, dBool, dStr,
              esOk, elemsS, vsliceX, bnd, ownV, ownC, own1, ownT, isSl, nSl, endL, Md.isOwn, purge, purgeH, purgeB, purgeE, hasName, name1, List.any_cons, List.any_nil, Md.isWr,
              pureV.pureP, Option.map, reduceIte, Nat.reduceEqDiff, Nat.reduceAdd, Nat.reduceMul, Nat.reduceLT, Nat.reduceLeDiff, List.mapM_cons, List.mapM_nil, Option.pure_def,
              Option.bind_eq_bind, Option.bind_some, implies_true, forall_const, beq_self_eq_true, decide_true, decide_false, eq_self, Int.reduceEq, Int.reduceLE, Int.reduceLT,
              if_true, if_false, fc94_0, fc94_1, fc94_2, fc94_3, fc94_4, Int.reduceAdd, Int.reduceSub, Int.reduceMul, Int.reduceNeg, Int.reducePow, Nat.reducePow, Int.reduceToNat,
              Nat.reduceSub, List.replicate, Nat.reduceBEq, wAs, wA, wC, zipW, noDupN, grpE, g_laws_toVector, grpC, en0, dc_en0]
    repeat' (first
      | ((first | (refine eGI_of (fun h => ?_) (fun h => ?_)) | (refine eCc_of (fun h => ?_) (fun h => ?_))) <;> (try simp only [Bool.not_eq_true', Bool.not_eq_false'] at h) <;> simp only [h,
        grpS, grpD, grpF, grpL, eop, vop, bop, uop, fltop, convop, endOk, newE, new1, freshL, Md.isNew, outV, pureV, pureX, pure1, AV.cells, AV.one, storable, laid, refless,
              refless1, vload, loadC, storeC, vnil, vfaddr, vextract, flatT, flatE, flatC, vconv, vmm, vidxA, viaddrA, vfield, vlen, elemsOf, dF32, dF64, dI64, dU8, dBool, dStr,
              esOk, elemsS, vsliceX, bnd, ownV, ownC, own1, ownT, isSl, nSl, endL, Md.isOwn, purge, purgeH, purgeB, purgeE, hasName, name1, List.any_cons, List.any_nil, Md.isWr,
              pureV.pureP, Option.map, reduceIte, Nat.reduceEqDiff, Nat.reduceAdd, Nat.reduceMul, Nat.reduceLT, Nat.reduceLeDiff, List.mapM_cons, List.mapM_nil, Option.pure_def,
              Option.bind_eq_bind, Option.bind_some, implies_true, forall_const, beq_self_eq_true, decide_true, decide_false, eq_self, Int.reduceEq, Int.reduceLE, Int.reduceLT,
              if_true, if_false, fc94_0, fc94_1, fc94_2, fc94_3, fc94_4, Int.reduceAdd, Int.reduceSub, Int.reduceMul, Int.reduceNeg, Int.reducePow, Nat.reducePow, Int.reduceToNat,
              Nat.reduceSub, List.replicate, Nat.reduceBEq, wAs, wA, wC, zipW, noDupN, grpE, g_laws_toVector, grpC, en0, dc_en0]))
    all_goals (try simp only [*, m_laws_toBone, Bool.and_true, Bool.true_and, Bool.and_false, Bool.false_and, Bool.or_true, Bool.true_or, Bool.or_false, Bool.false_or, Bool.not_true, Bool.not_false, Bool.false_eq_true, if_true, if_false, reduceIte, decide_true, decide_false])
    all_goals (try (simp_all; done))
  · cases h
def l_laws_toBoneS_0 (x0 : (List (Int × Nat × Nat × Nat))) : Nat → (List (Int × Nat × Nat × Nat)) → Int → Option (List (Int × Nat × Nat × Nat))
  | 0, _, _ => none
  | n + 1, z0_0, z0_1 => (if (decide (z0_1 < ((List.length x0 : Nat) : Int))) = true then (need (inB z0_1 (List.length x0)) (need (inB z0_1 (List.length z0_0)) (l_laws_toBoneS_0 x0
        n (List.set z0_0 (Int.toNat z0_1) (m_laws_toBone (atI x0 z0_1))) (IntKind.wrap .i64 (z0_1 + 1))))) else (some z0_0))
def m_laws_toBoneS (x0 : (List (Int × Nat × Nat × Nat))) : (List (Int × Nat × Nat × Nat)) := (Option.getD (l_laws_toBoneS_0 x0 (Int.toNat (((List.length x0 : Nat) : Int) - 0) + 2)
      (List.replicate (Int.toNat ((List.length x0 : Nat) : Int)) (0, 0, 0, 0)) 0) default)
def p_laws_toBoneS (x0 : (List (Int × Nat × Nat × Nat))) : Bool := ((decide (0 ≤ ((List.length x0 : Nat) : Int))) && ((decide (((List.length x0 : Nat) : Int) * 24 ≤ 70368744177664))
      && ((decide (((List.length x0 : Nat) : Int) ≤ 70368744177664)) && (Option.isSome (l_laws_toBoneS_0 x0 (Int.toNat (((List.length x0 : Nat) : Int) - 0) + 2) (List.replicate
      (Int.toNat ((List.length x0 : Nat) : Int)) (0, 0, 0, 0)) 0)))))
def g_laws_toBoneS : List AV → Option AV
  | [.sl w0] => (match decL dc_en0 w0 with | some y0 => (if p_laws_toBoneS y0 = true then some (.sl (List.map en0 (m_laws_toBoneS y0))) else none) | none => none)
  | _ => none
def lb62_0 : ICode := (.seq (.seq (.reg [⟨(some 8), none, (.mov (.t 4))⟩, ⟨(some 9), none, (.mov (.t 0))⟩, ⟨(some 10), none, (.len false (.t 9))⟩, ⟨(some 11), none, (.bin .lss false
      (.t 8) (.t 10))⟩] [0, 3, 4, 11]) (.cond (.t 11) .skip (.exit 0))) (.seq (.block 1 (.reg [⟨(some 14), none, (.mov (.t 3))⟩, ⟨(some 15), none, (.mov (.t 4))⟩, ⟨(some 16), none,
      (.mov (.t 0))⟩, ⟨(some 17), none, (.mov (.t 4))⟩, ⟨(some 18), none, (.iaddrS 4 (.t 16) (.t 17))⟩, ⟨(some 19), none, (.load (some 4) (.t 18))⟩, ⟨(some 20), none, (.call (.fn
      94) [(.t 19)] [])⟩, ⟨(some 21), none, (.iaddrS 4 (.t 14) (.t 15))⟩, ⟨none, none, (.store 4 (.t 21) (.t 20))⟩] [0, 3, 4])) (.reg [⟨(some 12), none, (.mov (.t 4))⟩, ⟨(some 13),
      none, (.bin .add false (.t 12) (.c (.int .i64 1)))⟩, ⟨(some 4), none, (.mov (.t 13))⟩] [0, 3, 4])))
def ic62 : ICode := (.seq (.reg [⟨(some 2), none, (.mov (.c .snil))⟩] [0]) (.seq (.reg [⟨(some 5), none, (.mov (.t 0))⟩, ⟨(some 6), none, (.len false (.t 5))⟩, ⟨(some 7), none,
      (.mkslice 4 24 (.agg [(.int .i64 0), (.flt .f32 0), (.flt .f32 0), (.flt .f32 0)]) (.t 6) (.t 6))⟩, ⟨(some 3), none, (.mov (.t 7))⟩] [0, 3]) (.seq (.seq (.reg [⟨(some 4),
      none, (.mov (.c (.int .i64 0)))⟩] [0, 3, 4]) (.block 0 (.loop lb62_0))) (.seq (.reg [⟨(some 22), none, (.mov (.t 3))⟩, ⟨(some 2), none, (.mov (.t 22))⟩] [2]) .ret))))
def cp62 : CP := CP.mk [] [] [[0], [0, 3], [0, 3, 4], [0, 3, 4, 11], [0, 3, 4], [0, 3, 4], [2]] 23
theorem fc62_0 : IntKind.wrap .i64 0 = 0 := by decide
theorem fc62_1 : IntKind.wrap .i64 1 = 1 := by decide
theorem fc62_2 : IntKind.wrap .i64 2 = 2 := by decide
theorem fc62_3 : IntKind.wrap .i64 3 = 3 := by decide
theorem fc62_4 : IntKind.wrap .i64 4 = 4 := by decide
theorem sl62_0 (x0 : (List (Int × Nat × Nat × Nat))) : ∀ (n : Nat) (z0_0 : (List (Int × Nat × Nat × Nat))) (z0_1 : Int) (o : (List (Int × Nat × Nat × Nat))) (K : IExit → St → Prop),
      l_laws_toBoneS_0 x0 n z0_0 z0_1 = some o → (∀ st, Wk st (⟨[(3, (.lsl 7 0 (List.length o)))], [(7, (some ⟨4, true, (List.map en0 o)⟩))]⟩ : St) → K (.exit 0) st) → eA (tabOf
      [(94, wM .any g_laws_toBone)]) (.loop lb62_0) (⟨[(0, (.sl (List.map en0 x0))), (3, (.lsl 7 0 (List.length z0_0))), (4, (.int .i64 z0_1))], [(7, (some ⟨4, true, (List.map en0
      z0_0)⟩))]⟩ : St) K := by
  intro n
  induction n with
  | zero =>
    intro z0_0 z0_1 o K h h0
    simp only [l_laws_toBoneS_0, reduceCtorEq] at h
  | succ n ih =>
    intro z0_0 z0_1 o K h h0
    refine eA_loop ?_
    unfold lb62_0
    unfold l_laws_toBoneS_0 at h
    (try simp only [need_iff] at h)
    simp only [
      need_iff, h, grpS, grpD, grpF, grpL, eop, vop, bop, uop, fltop, convop, endOk, newE, new1, freshL, Md.isNew, outV, pureV, pureX, pure1, AV.cells, AV.one, storable, laid,
            refless, refless1, vload, loadC, storeC, vnil, vfaddr, vextract, flatT, flatE, flatC, vconv, vmm, vidxA, viaddrA, vfield, vlen, elemsOf, dF32, dF64, dI64, dU8, dBool,
            dStr, esOk, elemsS, vsliceX, bnd, ownV, ownC, own1, ownT, isSl, nSl, endL, Md.isOwn, purge, purgeH, purgeB, purgeE, hasName, name1, List.any_cons, List.any_nil, Md.isWr,
            pureV.pureP, Option.map, reduceIte, Nat.reduceEqDiff, Nat.reduceAdd, Nat.reduceMul, Nat.reduceLT, Nat.reduceLeDiff, List.mapM_cons, List.mapM_nil, Option.pure_def,
            Option.bind_eq_bind, Option.bind_some, implies_true, forall_const, beq_self_eq_true, decide_true, decide_false, eq_self, Int.reduceEq, Int.reduceLE, Int.reduceLT,
            if_true, if_false, fc62_0, fc62_1, fc62_2, fc62_3, fc62_4, Int.reduceAdd, Int.reduceSub, Int.reduceMul, Int.reduceNeg, Int.reducePow, Nat.reducePow, Int.reduceToNat,
            Nat.reduceSub, List.replicate, Nat.reduceBEq, wAs, wA, wC, zipW, noDupN, grpE, g_laws_toBone, grpC, en0, dc_en0]
    repeat' (first
      | ((first | (refine eGI_of (fun hc => ?_) (fun hc => ?_)) | (refine eCc_of (fun hc => ?_) (fun hc => ?_)) | (have hc := True.intro; refine KW_refl ?_)) <;> (try simp only [Bool.not_eq_true', Bool.not_eq_false'] at hc) <;> (try simp only [hc, need_iff, reduceCtorEq, Bool.not_eq_true', decide_eq_false_iff_not, Bool.not_true, Bool.not_false, Bool.false_or, Bool.true_or, Bool.true_and, Bool.false_and, Bool.and_eq_true, Bool.or_eq_true, if_true, if_false, reduceIte, Bool.false_eq_true, and_true, true_and, false_or, or_false, decide_eq_true_eq, not_false_eq_true, not_true_eq_false] at h) <;> (try (have hc2 := hc; simp only [decide_eq_true_eq, decide_eq_false_iff_not] at hc2; simp only [hc2, if_true, if_false, reduceCtorEq, Bool.not_eq_true', decide_eq_false_iff_not, Bool.not_true, Bool.not_false, Bool.false_or, Bool.true_or, Bool.true_and, Bool.false_and, Bool.and_eq_true, Bool.or_eq_true, if_true, if_false, reduceIte, Bool.false_eq_true, and_true, true_and, false_or, or_false, decide_eq_true_eq, not_false_eq_true, not_true_eq_false] at h)) <;> simp only [hc,
      need_iff, h, grpS, grpD, grpF, grpL, eop, vop, bop, uop, fltop, convop, endOk, newE, new1, freshL, Md.isNew, outV, pureV, pureX, pure1, AV.cells, AV.one, storable, laid,
            refless, refless1, vload, loadC, storeC, vnil, vfaddr, vextract, flatT, flatE, flatC, vconv, vmm, vidxA, viaddrA, vfield, vlen, elemsOf, dF32, dF64, dI64, dU8, dBool,
            dStr, esOk, elemsS, vsliceX, bnd, ownV, ownC, own1, ownT, isSl, nSl, endL, Md.isOwn, purge, purgeH, purgeB, purgeE, hasName, name1, List.any_cons, List.any_nil, Md.isWr,
            pureV.pureP, Option.map, reduceIte, Nat.reduceEqDiff, Nat.reduceAdd, Nat.reduceMul, Nat.reduceLT, Nat.reduceLeDiff, List.mapM_cons, List.mapM_nil, Option.pure_def,
            Option.bind_eq_bind, Option.bind_some, implies_true, forall_const, beq_self_eq_true, decide_true, decide_false, eq_self, Int.reduceEq, Int.reduceLE, Int.reduceLT,
            if_true, if_false, fc62_0, fc62_1, fc62_2, fc62_3, fc62_4, Int.reduceAdd, Int.reduceSub, Int.reduceMul, Int.reduceNeg, Int.reducePow, Nat.reducePow, Int.reduceToNat,
            Nat.reduceSub, List.replicate, Nat.reduceBEq, wAs, wA, wC, zipW, noDupN, grpE, g_laws_toBone, grpC, en0, dc_en0]))
    all_goals (repeat (replace h := And.right h))
    all_goals first
      | (refine eA_wk (wk_norm (ks := [0, 3, 4]) (ls := [7]) ?_) (eA_cast ?_ (ih _ _ _ _ h h0)); (simp only [normOk, optIn, blkIn, nameIn,
      need_iff, h, grpS, grpD, grpF, grpL, eop, vop, bop, uop, fltop, convop, endOk, newE, new1, freshL, Md.isNew, outV, pureV, pureX, pure1, AV.cells, AV.one, storable, laid,
            refless, refless1, vload, loadC, storeC, vnil, vfaddr, vextract, flatT, flatE, flatC, vconv, vmm, vidxA, viaddrA, vfield, vlen, elemsOf, dF32, dF64, dI64, dU8, dBool,
            dStr, esOk, elemsS, vsliceX, bnd, ownV, ownC, own1, ownT, isSl, nSl, endL, Md.isOwn, purge, purgeH, purgeB, purgeE, hasName, name1, List.any_cons, List.any_nil, Md.isWr,
            pureV.pureP, Option.map, reduceIte, Nat.reduceEqDiff, Nat.reduceAdd, Nat.reduceMul, Nat.reduceLT, Nat.reduceLeDiff, List.mapM_cons, List.mapM_nil, Option.pure_def,
            Option.bind_eq_bind, Option.bind_some, implies_true, forall_const, beq_self_eq_true, decide_true, decide_false, eq_self, Int.reduceEq, Int.reduceLE, Int.reduceLT,
            if_true, if_false, fc62_0, fc62_1, fc62_2, fc62_3, fc62_4, Int.reduceAdd, Int.reduceSub, Int.reduceMul, Int.reduceNeg, Int.reducePow, Nat.reducePow, Int.reduceToNat,
            Nat.reduceSub, List.replicate, Nat.reduceBEq, wAs, wA, wC, zipW, noDupN, grpE, g_laws_toBone, grpC, en0, dc_en0] <;> rfl); (simp only [normS, List.map_append, List.length_append, List.map_set, List.length_set, List.map_replicate, List.length_replicate, List.map_nil, List.map_cons,
      need_iff, h, grpS, grpD, grpF, grpL, eop, vop, bop, uop, fltop, convop, endOk, newE, new1, freshL, Md.isNew, outV, pureV, pureX, pure1, AV.cells, AV.one, storable, laid,
            refless, refless1, vload, loadC, storeC, vnil, vfaddr, vextract, flatT, flatE, flatC, vconv, vmm, vidxA, viaddrA, vfield, vlen, elemsOf, dF32, dF64, dI64, dU8, dBool,
            dStr, esOk, elemsS, vsliceX, bnd, ownV, ownC, own1, ownT, isSl, nSl, endL, Md.isOwn, purge, purgeH, purgeB, purgeE, hasName, name1, List.any_cons, List.any_nil, Md.isWr,
            pureV.pureP, Option.map, reduceIte, Nat.reduceEqDiff, Nat.reduceAdd, Nat.reduceMul, Nat.reduceLT, Nat.reduceLeDiff, List.mapM_cons, List.mapM_nil, Option.pure_def,
            Option.bind_eq_bind, Option.bind_some, implies_true, forall_const, beq_self_eq_true, decide_true, decide_false, eq_self, Int.reduceEq, Int.reduceLE, Int.reduceLT,
            if_true, if_false, fc62_0, fc62_1, fc62_2, fc62_3, fc62_4, Int.reduceAdd, Int.reduceSub, Int.reduceMul, Int.reduceNeg, Int.reducePow, Nat.reducePow, Int.reduceToNat,
            Nat.reduceSub, List.replicate, Nat.reduceBEq, wAs, wA, wC, zipW, noDupN, grpE, g_laws_toBone, grpC, en0, dc_en0] <;> rfl))
      | (cases h; refine h0 _ (Wk.cast (wk_norm (ks := [3]) (ls := [7]) ?_) ?_); (simp only [normOk, optIn, blkIn, nameIn,
      grpS, grpD, grpF, grpL, eop, vop, bop, uop, fltop, convop, endOk, newE, new1, freshL, Md.isNew, outV, pureV, pureX, pure1, AV.cells, AV.one, storable, laid, refless, refless1,
            vload, loadC, storeC, vnil, vfaddr, vextract, flatT, flatE, flatC, vconv, vmm, vidxA, viaddrA, vfield, vlen, elemsOf, dF32, dF64, dI64, dU8, dBool, dStr, esOk, elemsS,
            vsliceX, bnd, ownV, ownC, own1, ownT, isSl, nSl, endL, Md.isOwn, purge, purgeH, purgeB, purgeE, hasName, name1, List.any_cons, List.any_nil, Md.isWr, pureV.pureP,
            Option.map, reduceIte, Nat.reduceEqDiff, Nat.reduceAdd, Nat.reduceMul, Nat.reduceLT, Nat.reduceLeDiff, List.mapM_cons, List.mapM_nil, Option.pure_def,
            Option.bind_eq_bind, Option.bind_some, implies_true, forall_const, beq_self_eq_true, decide_true, decide_false, eq_self, Int.reduceEq, Int.reduceLE, Int.reduceLT,
            if_true, if_false, fc62_0, fc62_1, fc62_2, fc62_3, fc62_4, Int.reduceAdd, Int.reduceSub, Int.reduceMul, Int.reduceNeg, Int.reducePow, Nat.reducePow, Int.reduceToNat,
            Nat.reduceSub, List.replicate, Nat.reduceBEq, wAs, wA, wC, zipW, noDupN, grpE, g_laws_toBone, grpC, en0, dc_en0] <;> rfl); (simp only [normS, List.map_append, List.length_append, List.map_set, List.length_set, List.map_replicate, List.length_replicate,
      grpS, grpD, grpF, grpL, eop, vop, bop, uop, fltop, convop, endOk, newE, new1, freshL, Md.isNew, outV, pureV, pureX, pure1, AV.cells, AV.one, storable, laid, refless, refless1,
            vload, loadC, storeC, vnil, vfaddr, vextract, flatT, flatE, flatC, vconv, vmm, vidxA, viaddrA, vfield, vlen, elemsOf, dF32, dF64, dI64, dU8, dBool, dStr, esOk, elemsS,
            vsliceX, bnd, ownV, ownC, own1, ownT, isSl, nSl, endL, Md.isOwn, purge, purgeH, purgeB, purgeE, hasName, name1, List.any_cons, List.any_nil, Md.isWr, pureV.pureP,
            Option.map, reduceIte, Nat.reduceEqDiff, Nat.reduceAdd, Nat.reduceMul, Nat.reduceLT, Nat.reduceLeDiff, List.mapM_cons, List.mapM_nil, Option.pure_def,
            Option.bind_eq_bind, Option.bind_some, implies_true, forall_const, beq_self_eq_true, decide_true, decide_false, eq_self, Int.reduceEq, Int.reduceLE, Int.reduceLT,
            if_true, if_false, fc62_0, fc62_1, fc62_2, fc62_3, fc62_4, Int.reduceAdd, Int.reduceSub, Int.reduceMul, Int.reduceNeg, Int.reducePow, Nat.reducePow, Int.reduceToNat,
            Nat.reduceSub, List.replicate, Nat.reduceBEq, wAs, wA, wC, zipW, noDupN, grpE, g_laws_toBone, grpC, en0, dc_en0] <;> rfl))
theorem s62 : ∀ vs r, g_laws_toBoneS vs = some r → SaysM Try.prog (.own [4]) 62 vs r := by
  intro vs r h
  unfold g_laws_toBoneS at h
  split at h
  · rename_i w0
    cases hd_y0 : decL dc_en0 w0 with
    | none => rw [hd_y0] at h; cases h
    | some y0 =>
    rw [hd_y0] at h
    obtain rfl := decL_inv dc_en0_inv hd_y0
    clear hd_y0
    dsimp only at h
    split at h
    · rename_i hp
      cases h
      refine spec_of (m := (.own [4])) (tab := tabOf [(94, wM .any g_laws_toBone)]) (cp := cp62) (ic := ic62) (rvl := [(.t 2)]) hm (tabOk_cons (m := .any) s94 tabOk_nil) Try.func62 rfl rfl rfl (by kernel_rfl) rfl (Nat.le_of_ble_eq_true rfl) (Nat.le_of_ble_eq_true rfl) ?_
      show eA _ _ _ _
      unfold ic62
      simp only [p_laws_toBoneS, Bool.and_eq_true, Bool.or_eq_true, decide_eq_true_eq, Bool.not_eq_true', decide_eq_false_iff_not] at hp
      simp only [
          hp, grpS, grpD, grpF, grpL, eop, vop, bop, uop, fltop, convop, endOk, newE, new1, freshL, Md.isNew, outV, pureV, pureX, pure1, AV.cells, AV.one, storable, laid, refless,
                refless1, vload, loadC, storeC, vnil, vfaddr, vextract, flatT, flatE, flatC, vconv, vmm, vidxA, viaddrA, vfield, vlen, elemsOf, dF32, dF64, dI64, dU8, dBool, dStr,
                esOk, elemsS, vsliceX, bnd, ownV, ownC, own1, ownT, isSl, nSl, endL, Md.isOwn, purge, purgeH, purgeB, purgeE, hasName, name1, List.any_cons, List.any_nil, Md.isWr,
                pureV.pureP, Option.map, reduceIte, Nat.reduceEqDiff, Nat.reduceAdd, Nat.reduceMul, Nat.reduceLT, Nat.reduceLeDiff, List.mapM_cons, List.mapM_nil, Option.pure_def,
                Option.bind_eq_bind, Option.bind_some, implies_true, forall_const, beq_self_eq_true, decide_true, decide_false, eq_self, Int.reduceEq, Int.reduceLE, Int.reduceLT,
                if_true, if_false, fc62_0, fc62_1, fc62_2, fc62_3, fc62_4, Int.reduceAdd, Int.reduceSub, Int.reduceMul, Int.reduceNeg, Int.reducePow, Nat.reducePow, Int.reduceToNat,
                Nat.reduceSub, List.replicate, Nat.reduceBEq, wAs, wA, wC, zipW, noDupN, grpE, g_laws_toBone, grpC, en0, dc_en0]
      repeat' (first
        | ((first | (refine eGI_of (fun h => ?_) (fun h => ?_)) | (refine eCc_of (fun h => ?_) (fun h => ?_)) | (have h := True.intro; refine KW_refl ?_)) <;> (try simp only [Bool.not_eq_true', Bool.not_eq_false'] at h) <;> (try simp only [h, reduceCtorEq, Bool.not_eq_true', decide_eq_false_iff_not, Bool.not_true, Bool.not_false, Bool.false_or, Bool.true_or, Bool.true_and, Bool.false_and, Bool.and_eq_true, Bool.or_eq_true, if_true, if_false, reduceIte, Bool.false_eq_true, and_true, true_and, false_or, or_false, decide_eq_true_eq, not_false_eq_true, not_true_eq_false] at hp) <;> (try (have h2 := h; simp only [decide_eq_true_eq, decide_eq_false_iff_not] at h2; (first | (replace h2 := eq_false h2) | (replace h2 := eq_true h2)); simp only [h2, if_true, if_false, false_or, true_or, or_true, or_false, and_true, true_and, not_false_eq_true, not_true_eq_false] at hp)) <;> simp only [h,
          hp, grpS, grpD, grpF, grpL, eop, vop, bop, uop, fltop, convop, endOk, newE, new1, freshL, Md.isNew, outV, pureV, pureX, pure1, AV.cells, AV.one, storable, laid, refless,
                refless1, vload, loadC, storeC, vnil, vfaddr, vextract, flatT, flatE, flatC, vconv, vmm, vidxA, viaddrA, vfield, vlen, elemsOf, dF32, dF64, dI64, dU8, dBool, dStr,
                esOk, elemsS, vsliceX, bnd, ownV, ownC, own1, ownT, isSl, nSl, endL, Md.isOwn, purge, purgeH, purgeB, purgeE, hasName, name1, List.any_cons, List.any_nil, Md.isWr,
                pureV.pureP, Option.map, reduceIte, Nat.reduceEqDiff, Nat.reduceAdd, Nat.reduceMul, Nat.reduceLT, Nat.reduceLeDiff, List.mapM_cons, List.mapM_nil, Option.pure_def,
                Option.bind_eq_bind, Option.bind_some, implies_true, forall_const, beq_self_eq_true, decide_true, decide_false, eq_self, Int.reduceEq, Int.reduceLE, Int.reduceLT,
                if_true, if_false, fc62_0, fc62_1, fc62_2, fc62_3, fc62_4, Int.reduceAdd, Int.reduceSub, Int.reduceMul, Int.reduceNeg, Int.reducePow, Nat.reducePow, Int.reduceToNat,
                Nat.reduceSub, List.replicate, Nat.reduceBEq, wAs, wA, wC, zipW, noDupN, grpE, g_laws_toBone, grpC, en0, dc_en0])
        | (refine eA_wk (wk_norm (ks := [0, 3, 4]) (ls := [7]) ?_) (eA_cast ?_ (sl62_0 y0 _ _ _ _ _ (getD_some (d := default) (x := (l_laws_toBoneS_0 y0 (Int.toNat (((List.length y0 : Nat) : Int) - 0) + 2) (List.replicate (Int.toNat ((List.length y0 : Nat) : Int)) (0, 0, 0, 0)) 0)) ?_) ?_)); (simp only [nilS, nilV, normOk, optIn, blkIn, nameIn, 
          hp, grpS, grpD, grpF, grpL, eop, vop, bop, uop, fltop, convop, endOk, newE, new1, freshL, Md.isNew, outV, pureV, pureX, pure1, AV.cells, AV.one, storable, laid, refless,
                refless1, vload, loadC, storeC, vnil, vfaddr, vextract, flatT, flatE, flatC, vconv, vmm, vidxA, viaddrA, vfield, vlen, elemsOf, dF32, dF64, dI64, dU8, dBool, dStr,
                esOk, elemsS, vsliceX, bnd, ownV, ownC, own1, ownT, isSl, nSl, endL, Md.isOwn, purge, purgeH, purgeB, purgeE, hasName, name1, List.any_cons, List.any_nil, Md.isWr,
                pureV.pureP, Option.map, reduceIte, Nat.reduceEqDiff, Nat.reduceAdd, Nat.reduceMul, Nat.reduceLT, Nat.reduceLeDiff, List.mapM_cons, List.mapM_nil, Option.pure_def,
                Option.bind_eq_bind, Option.bind_some, implies_true, forall_const, beq_self_eq_true, decide_true, decide_false, eq_self, Int.reduceEq, Int.reduceLE, Int.reduceLT,
                if_true, if_false, fc62_0, fc62_1, fc62_2, fc62_3, fc62_4, Int.reduceAdd, Int.reduceSub, Int.reduceMul, Int.reduceNeg, Int.reducePow, Nat.reducePow, Int.reduceToNat,
                Nat.reduceSub, List.replicate, Nat.reduceBEq, wAs, wA, wC, zipW, noDupN, grpE, g_laws_toBone, grpC, en0, dc_en0] <;> rfl); (simp only [nilS, nilV, normS,  List.map_append, List.length_append, List.map_set, List.length_set, List.map_replicate, List.length_replicate, List.map_nil, List.map_cons,
          hp, grpS, grpD, grpF, grpL, eop, vop, bop, uop, fltop, convop, endOk, newE, new1, freshL, Md.isNew, outV, pureV, pureX, pure1, AV.cells, AV.one, storable, laid, refless,
                refless1, vload, loadC, storeC, vnil, vfaddr, vextract, flatT, flatE, flatC, vconv, vmm, vidxA, viaddrA, vfield, vlen, elemsOf, dF32, dF64, dI64, dU8, dBool, dStr,
                esOk, elemsS, vsliceX, bnd, ownV, ownC, own1, ownT, isSl, nSl, endL, Md.isOwn, purge, purgeH, purgeB, purgeE, hasName, name1, List.any_cons, List.any_nil, Md.isWr,
                pureV.pureP, Option.map, reduceIte, Nat.reduceEqDiff, Nat.reduceAdd, Nat.reduceMul, Nat.reduceLT, Nat.reduceLeDiff, List.mapM_cons, List.mapM_nil, Option.pure_def,
                Option.bind_eq_bind, Option.bind_some, implies_true, forall_const, beq_self_eq_true, decide_true, decide_false, eq_self, Int.reduceEq, Int.reduceLE, Int.reduceLT,
                if_true, if_false, fc62_0, fc62_1, fc62_2, fc62_3, fc62_4, Int.reduceAdd, Int.reduceSub, Int.reduceMul, Int.reduceNeg, Int.reducePow, Nat.reducePow, Int.reduceToNat,
                Nat.reduceSub, List.replicate, Nat.reduceBEq, wAs, wA, wC, zipW, noDupN, grpE, g_laws_toBone, grpC, en0, dc_en0] <;> rfl); (simp only [hp]); (
        intro st2 hw; (try simp only [reduceCtorEq, Bool.not_eq_true', decide_eq_false_iff_not, Bool.not_true, Bool.not_false, Bool.false_or, Bool.true_or, Bool.true_and, Bool.false_and, Bool.and_eq_true, Bool.or_eq_true, if_true, if_false, reduceIte, Bool.false_eq_true, and_true, true_and, false_or, or_false, decide_eq_true_eq, not_false_eq_true, not_true_eq_false] at hp); simp only [
          hp, grpS, grpD, grpF, grpL, eop, vop, bop, uop, fltop, convop, endOk, newE, new1, freshL, Md.isNew, outV, pureV, pureX, pure1, AV.cells, AV.one, storable, laid, refless,
                refless1, vload, loadC, storeC, vnil, vfaddr, vextract, flatT, flatE, flatC, vconv, vmm, vidxA, viaddrA, vfield, vlen, elemsOf, dF32, dF64, dI64, dU8, dBool, dStr,
                esOk, elemsS, vsliceX, bnd, ownV, ownC, own1, ownT, isSl, nSl, endL, Md.isOwn, purge, purgeH, purgeB, purgeE, hasName, name1, List.any_cons, List.any_nil, Md.isWr,
                pureV.pureP, Option.map, reduceIte, Nat.reduceEqDiff, Nat.reduceAdd, Nat.reduceMul, Nat.reduceLT, Nat.reduceLeDiff, List.mapM_cons, List.mapM_nil, Option.pure_def,
                Option.bind_eq_bind, Option.bind_some, implies_true, forall_const, beq_self_eq_true, decide_true, decide_false, eq_self, Int.reduceEq, Int.reduceLE, Int.reduceLT,
                if_true, if_false, fc62_0, fc62_1, fc62_2, fc62_3, fc62_4, Int.reduceAdd, Int.reduceSub, Int.reduceMul, Int.reduceNeg, Int.reducePow, Nat.reducePow, Int.reduceToNat,
                Nat.reduceSub, List.replicate, Nat.reduceBEq, wAs, wA, wC, zipW, noDupN, grpE, g_laws_toBone, grpC, en0, dc_en0]; refine KW_of hw ?_; simp only [
          hp, grpS, grpD, grpF, grpL, eop, vop, bop, uop, fltop, convop, endOk, newE, new1, freshL, Md.isNew, outV, pureV, pureX, pure1, AV.cells, AV.one, storable, laid, refless,
                refless1, vload, loadC, storeC, vnil, vfaddr, vextract, flatT, flatE, flatC, vconv, vmm, vidxA, viaddrA, vfield, vlen, elemsOf, dF32, dF64, dI64, dU8, dBool, dStr,
                esOk, elemsS, vsliceX, bnd, ownV, ownC, own1, ownT, isSl, nSl, endL, Md.isOwn, purge, purgeH, purgeB, purgeE, hasName, name1, List.any_cons, List.any_nil, Md.isWr,
                pureV.pureP, Option.map, reduceIte, Nat.reduceEqDiff, Nat.reduceAdd, Nat.reduceMul, Nat.reduceLT, Nat.reduceLeDiff, List.mapM_cons, List.mapM_nil, Option.pure_def,
                Option.bind_eq_bind, Option.bind_some, implies_true, forall_const, beq_self_eq_true, decide_true, decide_false, eq_self, Int.reduceEq, Int.reduceLE, Int.reduceLT,
                if_true, if_false, fc62_0, fc62_1, fc62_2, fc62_3, fc62_4, Int.reduceAdd, Int.reduceSub, Int.reduceMul, Int.reduceNeg, Int.reducePow, Nat.reducePow, Int.reduceToNat,
                Nat.reduceSub, List.replicate, Nat.reduceBEq, wAs, wA, wC, zipW, noDupN, grpE, g_laws_toBone, grpC, en0, dc_en0])))
      all_goals (try simp only [*, m_laws_toBoneS, Bool.and_true, Bool.true_and, Bool.and_false, Bool.false_and, Bool.or_true, Bool.true_or, Bool.or_false, Bool.false_or, Bool.not_true, Bool.not_false, Bool.false_eq_true, if_true, if_false, reduceIte, decide_true, decide_false])
      all_goals (try (simp_all; done))
    · cases h
  · cases h
def m_laws_toSkeleton (x0 : (List (Int × Nat × Nat × Nat))) : (List (Int × Nat × Nat × Nat)) := (m_laws_toBoneS x0)
def p_laws_toSkeleton (x0 : (List (Int × Nat × Nat × Nat))) : Bool := (p_laws_toBoneS x0)
def g_laws_toSkeleton : List AV → Option AV
  | [.agg [.sl w0]] => (match decL dc_en0 w0 with | some y0 => (if p_laws_toSkeleton y0 = true then some (AV.agg [(.sl (List.map en0 (m_laws_toSkeleton y0)))]) else none) | none => none)
  | _ => none
def ic23 : ICode := (.seq (.reg [⟨(some 1), none, (.box 1 (.t 0))⟩, ⟨(some 2), none, (.alloc (.agg [.snil]))⟩] [1, 2]) (.seq (.reg [⟨(some 3), none, (.alloc (.agg [.snil]))⟩] [1, 2,
      3]) (.seq (.reg [⟨(some 4), none, (.faddr 0 (.t 1))⟩, ⟨(some 5), none, (.load none (.t 4))⟩, ⟨(some 6), none, (.call (.fn 62) [(.t 5)] [4])⟩, ⟨(some 7), none, (.faddr 0 (.t
      3))⟩, ⟨none, none, (.store 1 (.t 7) (.t 6))⟩] [2, 3]) (.seq (.reg [⟨(some 8), none, (.load (some 1) (.t 3))⟩, ⟨none, none, (.store 1 (.t 2) (.t 8))⟩] [2]) .ret))))
def cp23 : CP := CP.mk [(6, [4])] [] [[1, 2], [1, 2, 3], [2, 3], [2]] 9
theorem fc23_0 : IntKind.wrap .i64 0 = 0 := by decide
theorem fc23_1 : IntKind.wrap .i64 1 = 1 := by decide
theorem fc23_2 : IntKind.wrap .i64 2 = 2 := by decide
theorem fc23_3 : IntKind.wrap .i64 3 = 3 := by decide
theorem fc23_4 : IntKind.wrap .i64 4 = 4 := by decide
theorem s23 : ∀ vs r, g_laws_toSkeleton vs = some r → SaysM Try.prog (.own [4]) 23 vs r := by
  intro vs r h
  unfold g_laws_toSkeleton at h
  split at h
  · rename_i w0
    cases hd_y0 : decL dc_en0 w0 with
    | none => rw [hd_y0] at h; cases h
    | some y0 =>
    rw [hd_y0] at h
    obtain rfl := decL_inv dc_en0_inv hd_y0
    clear hd_y0
    dsimp only at h
    split at h
    · rename_i hp
      cases h
      refine spec_of (m := (.own [4])) (tab := tabOf [(62, wM (.own [4]) g_laws_toBoneS)]) (cp := cp23) (ic := ic23) (rvl := [(.c 2 (some 1))]) hm (tabOk_cons (m := (.own [4])) s62 tabOk_nil) Try.func23 rfl rfl rfl (by kernel_rfl) rfl (Nat.le_of_ble_eq_true rfl) (Nat.le_of_ble_eq_true rfl) ?_
      show eA _ _ _ _
      unfold ic23
      simp only [p_laws_toSkeleton, Bool.and_eq_true, Bool.or_eq_true, decide_eq_true_eq, Bool.not_eq_true', decide_eq_false_iff_not] at hp
      simp only [
          hp, grpS, grpD, grpF, grpL, eop, vop, bop, uop, fltop, convop, endOk, newE, new1, freshL, Md.isNew, outV, pureV, pureX, pure1, AV.cells, AV.one, storable, laid, refless,
                refless1, vload, loadC, storeC, vnil, vfaddr, vextract, flatT, flatE, flatC, vconv, vmm, vidxA, viaddrA, vfield, vlen, elemsOf, dF32, dF64, dI64, dU8, dBool, dStr,
                esOk, elemsS, vsliceX, bnd, ownV, ownC, own1, ownT, isSl, nSl, endL, Md.isOwn, purge, purgeH, purgeB, purgeE, hasName, name1, List.any_cons, List.any_nil, Md.isWr,
                pureV.pureP, Option.map, reduceIte, Nat.reduceEqDiff, Nat.reduceAdd, Nat.reduceMul, Nat.reduceLT, Nat.reduceLeDiff, List.mapM_cons, List.mapM_nil, Option.pure_def,
                Option.bind_eq_bind, Option.bind_some, implies_true, forall_const, beq_self_eq_true, decide_true, decide_false, eq_self, Int.reduceEq, Int.reduceLE, Int.reduceLT,
                if_true, if_false, fc23_0, fc23_1, fc23_2, fc23_3, fc23_4, Int.reduceAdd, Int.reduceSub, Int.reduceMul, Int.reduceNeg, Int.reducePow, Nat.reducePow, Int.reduceToNat,
                Nat.reduceSub, List.replicate, Nat.reduceBEq, wAs, wA, wC, zipW, noDupN, grpE, g_laws_toBoneS, grpC, en0, dc_en0]
      repeat' (first
        | ((first | (refine eGI_of (fun h => ?_) (fun h => ?_)) | (refine eCc_of (fun h => ?_) (fun h => ?_))) <;> (try simp only [Bool.not_eq_true', Bool.not_eq_false'] at h) <;> (try simp only [h, reduceCtorEq, Bool.not_eq_true', decide_eq_false_iff_not, Bool.not_true, Bool.not_false, Bool.false_or, Bool.true_or, Bool.true_and, Bool.false_and, Bool.and_eq_true, Bool.or_eq_true, if_true, if_false, reduceIte, Bool.false_eq_true, and_true, true_and, false_or, or_false, decide_eq_true_eq, not_false_eq_true, not_true_eq_false] at hp) <;> (try (have h2 := h; simp only [decide_eq_true_eq, decide_eq_false_iff_not] at h2; (first | (replace h2 := eq_false h2) | (replace h2 := eq_true h2)); simp only [h2, if_true, if_false, false_or, true_or, or_true, or_false, and_true, true_and, not_false_eq_true, not_true_eq_false] at hp)) <;> simp only [h,
          hp, grpS, grpD, grpF, grpL, eop, vop, bop, uop, fltop, convop, endOk, newE, new1, freshL, Md.isNew, outV, pureV, pureX, pure1, AV.cells, AV.one, storable, laid, refless,
                refless1, vload, loadC, storeC, vnil, vfaddr, vextract, flatT, flatE, flatC, vconv, vmm, vidxA, viaddrA, vfield, vlen, elemsOf, dF32, dF64, dI64, dU8, dBool, dStr,
                esOk, elemsS, vsliceX, bnd, ownV, ownC, own1, ownT, isSl, nSl, endL, Md.isOwn, purge, purgeH, purgeB, purgeE, hasName, name1, List.any_cons, List.any_nil, Md.isWr,
                pureV.pureP, Option.map, reduceIte, Nat.reduceEqDiff, Nat.reduceAdd, Nat.reduceMul, Nat.reduceLT, Nat.reduceLeDiff, List.mapM_cons, List.mapM_nil, Option.pure_def,
                Option.bind_eq_bind, Option.bind_some, implies_true, forall_const, beq_self_eq_true, decide_true, decide_false, eq_self, Int.reduceEq, Int.reduceLE, Int.reduceLT,
                if_true, if_false, fc23_0, fc23_1, fc23_2, fc23_3, fc23_4, Int.reduceAdd, Int.reduceSub, Int.reduceMul, Int.reduceNeg, Int.reducePow, Nat.reducePow, Int.reduceToNat,
                Nat.reduceSub, List.replicate, Nat.reduceBEq, wAs, wA, wC, zipW, noDupN, grpE, g_laws_toBoneS, grpC, en0, dc_en0]))
      all_goals (try simp only [*, m_laws_toSkeleton, Bool.and_true, Bool.true_and, Bool.and_false, Bool.false_and, Bool.or_true, Bool.true_or, Bool.or_false, Bool.false_or, Bool.not_true, Bool.not_false, Bool.false_eq_true, if_true, if_false, reduceIte, decide_true, decide_false])
      all_goals (try (simp_all; done))
    · cases h
  · cases h
def m_spec_l00In (x0 : Int) (x1 : Int) (x2 : Int) : Bool := (if (decide (x1 ≤ x0)) = true then (decide (x0 ≤ x2)) else false)
def g_spec_l00In : List AV → Option AV
  | [.int .i64 y0, .int .i64 y1, .int .i64 y2] => some (.bool (m_spec_l00In y0 y1 y2))
  | _ => none
def ic52 : ICode := (.seq (.reg [⟨(some 6), none, (.mov (.c (.bool false)))⟩] [0, 1, 2]) (.seq (.reg [⟨(some 7), none, (.mov (.t 0))⟩, ⟨(some 8), none, (.mov (.t 1))⟩, ⟨(some 9),
      none, (.bin .geq false (.t 7) (.t 8))⟩, ⟨(some 10), none, (.mov (.t 9))⟩, ⟨(some 11), (some (10, true)), (.mov (.t 0))⟩, ⟨(some 12), (some (10, true)), (.mov (.t 2))⟩, ⟨(some
      13), (some (10, true)), (.bin .leq false (.t 11) (.t 12))⟩, ⟨(some 14), none, (.pick (.t 10) (.t 13) (.c (.bool false)))⟩, ⟨(some 6), none, (.mov (.t 14))⟩] [6]) .ret))
def cp52 : CP := CP.mk [] [] [[0, 1, 2], [6]] 15
theorem fc52_0 : IntKind.wrap .i64 0 = 0 := by decide
theorem fc52_1 : IntKind.wrap .i64 1 = 1 := by decide
theorem fc52_2 : IntKind.wrap .i64 2 = 2 := by decide
theorem fc52_3 : IntKind.wrap .i64 3 = 3 := by decide
theorem fc52_4 : IntKind.wrap .i64 4 = 4 := by decide
theorem s52 : ∀ vs r, g_spec_l00In vs = some r → SaysM Try.prog .any 52 vs r := by
  intro vs r h
  unfold g_spec_l00In at h
  split at h
  · rename_i y0 y1 y2
    cases h
    refine spec_of (m := .any) (tab := tabOf []) (cp := cp52) (ic := ic52) (rvl := [(.t 6)]) hm tabOk_nil Try.func52 rfl rfl rfl (by kernel_rfl) rfl (Nat.le_of_ble_eq_true rfl) (Nat.le_of_ble_eq_true rfl) ?_
    show eA _ _ _ _
    unfold ic52
    simp only [
        grpS, grpD, grpF, grpL, eop, vop, bop, uop, fltop, convop, endOk, newE, new1, freshL, Md.isNew, outV, pureV, pureX, pure1, AV.cells, AV.one, storable, laid, refless,
              refless1, vload, loadC, storeC, vnil, vfaddr, vextract, flatT, flatE, flatC, vconv, vmm, vidxA, viaddrA, vfield, vlen, elemsOf, dF32, dF64, dI64, dU8, dBool, dStr,
              esOk, elemsS, vsliceX, bnd, ownV, ownC, own1, ownT, isSl, nSl, endL, Md.isOwn, purge, purgeH, purgeB, purgeE, hasName, name1, List.any_cons, List.any_nil, Md.isWr,
              pureV.pureP, Option.map, reduceIte, Nat.reduceEqDiff, Nat.reduceAdd, Nat.reduceMul, Nat.reduceLT, Nat.reduceLeDiff, List.mapM_cons, List.mapM_nil, Option.pure_def,
              Option.bind_eq_bind, Option.bind_some, implies_true, forall_const, beq_self_eq_true, decide_true, decide_false, eq_self, Int.reduceEq, Int.reduceLE, Int.reduceLT,
              if_true, if_false, fc52_0, fc52_1, fc52_2, fc52_3, fc52_4, Int.reduceAdd, Int.reduceSub, Int.reduceMul, Int.reduceNeg, Int.reducePow, Nat.reducePow, Int.reduceToNat,
              Nat.reduceSub, List.replicate, Nat.reduceBEq, wAs, wA, wC, zipW, noDupN, grpE, grpC, en0, dc_en0, ↓b_pick, ePk_true, ePk_false]
    repeat' (first
      | ((first | (refine eGI_of (fun h => ?_) (fun h => ?_)) | (refine eCc_of (fun h => ?_) (fun h => ?_)) | (refine ePk_of (fun h => ?_) (fun h => ?_))) <;> (try simp only [Bool.not_eq_true', Bool.not_eq_false'] at h) <;> simp only [h,
        grpS, grpD, grpF, grpL, eop, vop, bop, uop, fltop, convop, endOk, newE, new1, freshL, Md.isNew, outV, pureV, pureX, pure1, AV.cells, AV.one, storable, laid, refless,
              refless1, vload, loadC, storeC, vnil, vfaddr, vextract, flatT, flatE, flatC, vconv, vmm, vidxA, viaddrA, vfield, vlen, elemsOf, dF32, dF64, dI64, dU8, dBool, dStr,
              esOk, elemsS, vsliceX, bnd, ownV, ownC, own1, ownT, isSl, nSl, endL, Md.isOwn, purge, purgeH, purgeB, purgeE, hasName, name1, List.any_cons, List.any_nil, Md.isWr,
              pureV.pureP, Option.map, reduceIte, Nat.reduceEqDiff, Nat.reduceAdd, Nat.reduceMul, Nat.reduceLT, Nat.reduceLeDiff, List.mapM_cons, List.mapM_nil, Option.pure_def,
              Option.bind_eq_bind, Option.bind_some, implies_true, forall_const, beq_self_eq_true, decide_true, decide_false, eq_self, Int.reduceEq, Int.reduceLE, Int.reduceLT,
              if_true, if_false, fc52_0, fc52_1, fc52_2, fc52_3, fc52_4, Int.reduceAdd, Int.reduceSub, Int.reduceMul, Int.reduceNeg, Int.reducePow, Nat.reducePow, Int.reduceToNat,
              Nat.reduceSub, List.replicate, Nat.reduceBEq, wAs, wA, wC, zipW, noDupN, grpE, grpC, en0, dc_en0, ↓b_pick, ePk_true, ePk_false]))
    all_goals (try simp only [*, m_spec_l00In, Bool.and_true, Bool.true_and, Bool.and_false, Bool.false_and, Bool.or_true, Bool.true_or, Bool.or_false, Bool.false_or, Bool.not_true, Bool.not_false, Bool.false_eq_true, if_true, if_false, reduceIte, decide_true, decide_false])
    all_goals (try (simp_all; done))
  · cases h
def l_spec_l03Is_0 (x0 : (List (Int × Nat × Nat × Nat))) : Nat → Int → Option (Bool × Bool × Unit)
  | 0, _ => none
  | n + 1, z0_0 => (if (decide (z0_0 < ((List.length x0 : Nat) : Int))) = true then (need (inB z0_0 (List.length x0)) (if (m_spec_l00In (atI x0 z0_0).1 0 (IntKind.wrap .i64 (z0_0 -
        1))) = true then (l_spec_l03Is_0 x0 n (IntKind.wrap .i64 (z0_0 + 1))) else (some (true, false, default)))) else (some (false, default, ())))
def m_spec_l03Is (x0 : (List (Int × Nat × Nat × Nat))) : Bool := (if (m_spec_l00In ((List.length x0 : Nat) : Int) 1 12) = true then (if (decide ((atI x0 0).1 = (-1))) = true then
      (if (Option.getD (l_spec_l03Is_0 x0 (Int.toNat (((List.length x0 : Nat) : Int) - 1) + 2) 1) default).1 = true then (Option.getD (l_spec_l03Is_0 x0 (Int.toNat (((List.length x0
      : Nat) : Int) - 1) + 2) 1) default).2.1 else true) else false) else false)
def p_spec_l03Is (x0 : (List (Int × Nat × Nat × Nat))) : Bool := (!(m_spec_l00In ((List.length x0 : Nat) : Int) 1 12) || ((inB 0 (List.length x0)) && (!(decide ((atI x0 0).1 =
      (-1))) || (Option.isSome (l_spec_l03Is_0 x0 (Int.toNat (((List.length x0 : Nat) : Int) - 1) + 2) 1)))))
def g_spec_l03Is : List AV → Option AV
  | [.ptr (.agg [.sl w0]) 0] => (match decL dc_en0 w0 with | some y0 => (if p_spec_l03Is y0 = true then some (.bool (m_spec_l03Is y0)) else none) | none => none)
  | _ => none
def lb60_0 : ICode := (.seq (.seq (.reg [⟨(some 23), none, (.mov (.t 4))⟩, ⟨(some 24), none, (.mov (.t 3))⟩, ⟨(some 25), none, (.bin .lss false (.t 23) (.t 24))⟩] [0, 3, 4, 25])
      (.cond (.t 25) .skip (.exit 0))) (.seq (.block 1 (.seq (.reg [⟨(some 28), none, (.mov (.t 0))⟩, ⟨(some 29), none, (.nilchk (.t 28))⟩, ⟨(some 30), none, (.faddr 0 (.t 29))⟩,
      ⟨(some 31), none, (.load none (.t 30))⟩, ⟨(some 32), none, (.mov (.t 4))⟩, ⟨(some 33), none, (.iaddrS 4 (.t 31) (.t 32))⟩, ⟨(some 34), none, (.faddr 0 (.t 33))⟩, ⟨(some 35),
      none, (.load none (.t 34))⟩, ⟨(some 36), none, (.mov (.t 4))⟩, ⟨(some 37), none, (.bin .sub false (.t 36) (.c (.int .i64 1)))⟩, ⟨(some 38), none, (.call (.fn 52) [(.t 35), (.c
      (.int .i64 0)), (.t 37)] [])⟩, ⟨(some 39), none, (.un .not (.t 38))⟩] [0, 3, 4, 39]) (.cond (.t 39) (.seq (.reg [⟨(some 2), none, (.mov (.c (.bool false)))⟩] [2]) .ret)
      .skip))) (.reg [⟨(some 26), none, (.mov (.t 4))⟩, ⟨(some 27), none, (.bin .add false (.t 26) (.c (.int .i64 1)))⟩, ⟨(some 4), none, (.mov (.t 27))⟩] [0, 3, 4])))
def ic60 : ICode := (.seq (.reg [⟨(some 2), none, (.mov (.c (.bool false)))⟩] [0]) (.seq (.reg [⟨(some 5), none, (.mov (.t 0))⟩, ⟨(some 6), none, (.nilchk (.t 5))⟩, ⟨(some 7), none,
      (.faddr 0 (.t 6))⟩, ⟨(some 8), none, (.load none (.t 7))⟩, ⟨(some 9), none, (.len false (.t 8))⟩, ⟨(some 3), none, (.mov (.t 9))⟩] [0, 3]) (.seq (.seq (.reg [⟨(some 10), none,
      (.mov (.t 3))⟩, ⟨(some 11), none, (.call (.fn 52) [(.t 10), (.c (.int .i64 1)), (.c (.int .i64 12))] [])⟩, ⟨(some 12), none, (.un .not (.t 11))⟩, ⟨(some 13), none, (.mov (.t
      12))⟩, ⟨(some 14), (some (13, false)), (.mov (.t 0))⟩, ⟨(some 15), (some (13, false)), (.nilchk (.t 14))⟩, ⟨(some 16), (some (13, false)), (.faddr 0 (.t 15))⟩, ⟨(some 17),
      (some (13, false)), (.load none (.t 16))⟩, ⟨(some 18), (some (13, false)), (.iaddrS 4 (.t 17) (.c (.int .i64 0)))⟩, ⟨(some 19), (some (13, false)), (.faddr 0 (.t 18))⟩, ⟨(some
      20), (some (13, false)), (.load none (.t 19))⟩, ⟨(some 21), (some (13, false)), (.bin .neq false (.t 20) (.c (.int .i64 (-1))))⟩, ⟨(some 22), none, (.pick (.t 13) (.c (.bool
      true)) (.t 21))⟩] [0, 3, 22]) (.cond (.t 22) (.seq (.reg [⟨(some 2), none, (.mov (.c (.bool false)))⟩] [2]) .ret) .skip)) (.seq (.seq (.reg [⟨(some 4), none, (.mov (.c (.int
      .i64 1)))⟩] [0, 3, 4]) (.block 0 (.loop lb60_0))) (.seq (.reg [⟨(some 2), none, (.mov (.c (.bool true)))⟩] [2]) .ret)))))
def cp60 : CP := CP.mk [] [] [[0], [0, 3], [0, 3, 22], [2], [0, 3, 4], [0, 3, 4, 25], [0, 3, 4], [0, 3, 4, 39], [2], [2]] 40
theorem fc60_0 : IntKind.wrap .i64 0 = 0 := by decide
theorem fc60_1 : IntKind.wrap .i64 1 = 1 := by decide
theorem fc60_2 : IntKind.wrap .i64 2 = 2 := by decide
theorem fc60_3 : IntKind.wrap .i64 3 = 3 := by decide
theorem fc60_4 : IntKind.wrap .i64 4 = 4 := by decide
theorem sl60_0 (x0 : (List (Int × Nat × Nat × Nat))) : ∀ (n : Nat) (z0_0 : Int) (o : (Bool × Bool × Unit)) (K : IExit → St → Prop), l_spec_l03Is_0 x0 n z0_0 = some o → (∀ st, o.1 =
      true → outM .any st [(.t 2)] = some (.bool o.2.1) → K .ret st) → (∀ st, o.1 = false → Wk st (⟨[], []⟩ : St) → K (.exit 0) st) → eA (tabOf [(52, wM .any g_spec_l00In)]) (.loop
      lb60_0) (⟨[(0, (.ptr (AV.agg [(.sl (List.map en0 x0))]) 0)), (3, (.int .i64 ((List.length x0 : Nat) : Int))), (4, (.int .i64 z0_0))], []⟩ : St) K := by
  intro n
  induction n with
  | zero =>
    intro z0_0 o K h h0 h1
    simp only [l_spec_l03Is_0, reduceCtorEq] at h
  | succ n ih =>
    intro z0_0 o K h h0 h1
    refine eA_loop ?_
    unfold lb60_0
    unfold l_spec_l03Is_0 at h
    (try simp only [need_iff] at h)
    simp only [
      need_iff, h, grpS, grpD, grpF, grpL, eop, vop, bop, uop, fltop, convop, endOk, newE, new1, freshL, Md.isNew, outV, pureV, pureX, pure1, AV.cells, AV.one, storable, laid,
            refless, refless1, vload, loadC, storeC, vnil, vfaddr, vextract, flatT, flatE, flatC, vconv, vmm, vidxA, viaddrA, vfield, vlen, elemsOf, dF32, dF64, dI64, dU8, dBool,
            dStr, esOk, elemsS, vsliceX, bnd, ownV, ownC, own1, ownT, isSl, nSl, endL, Md.isOwn, purge, purgeH, purgeB, purgeE, hasName, name1, List.any_cons, List.any_nil, Md.isWr,
            pureV.pureP, Option.map, reduceIte, Nat.reduceEqDiff, Nat.reduceAdd, Nat.reduceMul, Nat.reduceLT, Nat.reduceLeDiff, List.mapM_cons, List.mapM_nil, Option.pure_def,
            Option.bind_eq_bind, Option.bind_some, implies_true, forall_const, beq_self_eq_true, decide_true, decide_false, eq_self, Int.reduceEq, Int.reduceLE, Int.reduceLT,
            if_true, if_false, fc60_0, fc60_1, fc60_2, fc60_3, fc60_4, Int.reduceAdd, Int.reduceSub, Int.reduceMul, Int.reduceNeg, Int.reducePow, Nat.reducePow, Int.reduceToNat,
            Nat.reduceSub, List.replicate, Nat.reduceBEq, wAs, wA, wC, zipW, noDupN, grpE, g_spec_l00In, grpC, en0, dc_en0, ↓b_pick, ePk_true, ePk_false]
    repeat' (first
      | ((first | (refine eGI_of (fun hc => ?_) (fun hc => ?_)) | (refine eCc_of (fun hc => ?_) (fun hc => ?_)) | (refine ePk_of (fun hc => ?_) (fun hc => ?_)) | (have hc := True.intro; refine KW_refl ?_)) <;> (try simp only [Bool.not_eq_true', Bool.not_eq_false'] at hc) <;> (try simp only [hc, need_iff, reduceCtorEq, Bool.not_eq_true', decide_eq_false_iff_not, Bool.not_true, Bool.not_false, Bool.false_or, Bool.true_or, Bool.true_and, Bool.false_and, Bool.and_eq_true, Bool.or_eq_true, if_true, if_false, reduceIte, Bool.false_eq_true, and_true, true_and, false_or, or_false, decide_eq_true_eq, not_false_eq_true, not_true_eq_false] at h) <;> (try (have hc2 := hc; simp only [decide_eq_true_eq, decide_eq_false_iff_not] at hc2; simp only [hc2, if_true, if_false, reduceCtorEq, Bool.not_eq_true', decide_eq_false_iff_not, Bool.not_true, Bool.not_false, Bool.false_or, Bool.true_or, Bool.true_and, Bool.false_and, Bool.and_eq_true, Bool.or_eq_true, if_true, if_false, reduceIte, Bool.false_eq_true, and_true, true_and, false_or, or_false, decide_eq_true_eq, not_false_eq_true, not_true_eq_false] at h)) <;> simp only [hc,
      need_iff, h, grpS, grpD, grpF, grpL, eop, vop, bop, uop, fltop, convop, endOk, newE, new1, freshL, Md.isNew, outV, pureV, pureX, pure1, AV.cells, AV.one, storable, laid,
            refless, refless1, vload, loadC, storeC, vnil, vfaddr, vextract, flatT, flatE, flatC, vconv, vmm, vidxA, viaddrA, vfield, vlen, elemsOf, dF32, dF64, dI64, dU8, dBool,
            dStr, esOk, elemsS, vsliceX, bnd, ownV, ownC, own1, ownT, isSl, nSl, endL, Md.isOwn, purge, purgeH, purgeB, purgeE, hasName, name1, List.any_cons, List.any_nil, Md.isWr,
            pureV.pureP, Option.map, reduceIte, Nat.reduceEqDiff, Nat.reduceAdd, Nat.reduceMul, Nat.reduceLT, Nat.reduceLeDiff, List.mapM_cons, List.mapM_nil, Option.pure_def,
            Option.bind_eq_bind, Option.bind_some, implies_true, forall_const, beq_self_eq_true, decide_true, decide_false, eq_self, Int.reduceEq, Int.reduceLE, Int.reduceLT,
            if_true, if_false, fc60_0, fc60_1, fc60_2, fc60_3, fc60_4, Int.reduceAdd, Int.reduceSub, Int.reduceMul, Int.reduceNeg, Int.reducePow, Nat.reducePow, Int.reduceToNat,
            Nat.reduceSub, List.replicate, Nat.reduceBEq, wAs, wA, wC, zipW, noDupN, grpE, g_spec_l00In, grpC, en0, dc_en0, ↓b_pick, ePk_true, ePk_false]))
    all_goals (repeat (replace h := And.right h))
    all_goals first
      | (refine eA_wk (wk_norm (ks := [0, 3, 4]) (ls := []) ?_) (eA_cast ?_ (ih _ _ _ h h0 h1)); (simp only [normOk, optIn, blkIn, nameIn,
      need_iff, h, grpS, grpD, grpF, grpL, eop, vop, bop, uop, fltop, convop, endOk, newE, new1, freshL, Md.isNew, outV, pureV, pureX, pure1, AV.cells, AV.one, storable, laid,
            refless, refless1, vload, loadC, storeC, vnil, vfaddr, vextract, flatT, flatE, flatC, vconv, vmm, vidxA, viaddrA, vfield, vlen, elemsOf, dF32, dF64, dI64, dU8, dBool,
            dStr, esOk, elemsS, vsliceX, bnd, ownV, ownC, own1, ownT, isSl, nSl, endL, Md.isOwn, purge, purgeH, purgeB, purgeE, hasName, name1, List.any_cons, List.any_nil, Md.isWr,
            pureV.pureP, Option.map, reduceIte, Nat.reduceEqDiff, Nat.reduceAdd, Nat.reduceMul, Nat.reduceLT, Nat.reduceLeDiff, List.mapM_cons, List.mapM_nil, Option.pure_def,
            Option.bind_eq_bind, Option.bind_some, implies_true, forall_const, beq_self_eq_true, decide_true, decide_false, eq_self, Int.reduceEq, Int.reduceLE, Int.reduceLT,
            if_true, if_false, fc60_0, fc60_1, fc60_2, fc60_3, fc60_4, Int.reduceAdd, Int.reduceSub, Int.reduceMul, Int.reduceNeg, Int.reducePow, Nat.reducePow, Int.reduceToNat,
            Nat.reduceSub, List.replicate, Nat.reduceBEq, wAs, wA, wC, zipW, noDupN, grpE, g_spec_l00In, grpC, en0, dc_en0, ↓b_pick, ePk_true, ePk_false] <;> rfl); (simp only [normS, List.map_append, List.length_append, List.map_set, List.length_set, List.map_replicate, List.length_replicate, List.map_nil, List.map_cons,
      need_iff, h, grpS, grpD, grpF, grpL, eop, vop, bop, uop, fltop, convop, endOk, newE, new1, freshL, Md.isNew, outV, pureV, pureX, pure1, AV.cells, AV.one, storable, laid,
            refless, refless1, vload, loadC, storeC, vnil, vfaddr, vextract, flatT, flatE, flatC, vconv, vmm, vidxA, viaddrA, vfield, vlen, elemsOf, dF32, dF64, dI64, dU8, dBool,
            dStr, esOk, elemsS, vsliceX, bnd, ownV, ownC, own1, ownT, isSl, nSl, endL, Md.isOwn, purge, purgeH, purgeB, purgeE, hasName, name1, List.any_cons, List.any_nil, Md.isWr,
            pureV.pureP, Option.map, reduceIte, Nat.reduceEqDiff, Nat.reduceAdd, Nat.reduceMul, Nat.reduceLT, Nat.reduceLeDiff, List.mapM_cons, List.mapM_nil, Option.pure_def,
            Option.bind_eq_bind, Option.bind_some, implies_true, forall_const, beq_self_eq_true, decide_true, decide_false, eq_self, Int.reduceEq, Int.reduceLE, Int.reduceLT,
            if_true, if_false, fc60_0, fc60_1, fc60_2, fc60_3, fc60_4, Int.reduceAdd, Int.reduceSub, Int.reduceMul, Int.reduceNeg, Int.reducePow, Nat.reducePow, Int.reduceToNat,
            Nat.reduceSub, List.replicate, Nat.reduceBEq, wAs, wA, wC, zipW, noDupN, grpE, g_spec_l00In, grpC, en0, dc_en0, ↓b_pick, ePk_true, ePk_false] <;> rfl))
      | (cases h; refine h0 _ rfl ?_; simp only [
      grpS, grpD, grpF, grpL, eop, vop, bop, uop, fltop, convop, endOk, newE, new1, freshL, Md.isNew, outV, pureV, pureX, pure1, AV.cells, AV.one, storable, laid, refless, refless1,
            vload, loadC, storeC, vnil, vfaddr, vextract, flatT, flatE, flatC, vconv, vmm, vidxA, viaddrA, vfield, vlen, elemsOf, dF32, dF64, dI64, dU8, dBool, dStr, esOk, elemsS,
            vsliceX, bnd, ownV, ownC, own1, ownT, isSl, nSl, endL, Md.isOwn, purge, purgeH, purgeB, purgeE, hasName, name1, List.any_cons, List.any_nil, Md.isWr, pureV.pureP,
            Option.map, reduceIte, Nat.reduceEqDiff, Nat.reduceAdd, Nat.reduceMul, Nat.reduceLT, Nat.reduceLeDiff, List.mapM_cons, List.mapM_nil, Option.pure_def,
            Option.bind_eq_bind, Option.bind_some, implies_true, forall_const, beq_self_eq_true, decide_true, decide_false, eq_self, Int.reduceEq, Int.reduceLE, Int.reduceLT,
            if_true, if_false, fc60_0, fc60_1, fc60_2, fc60_3, fc60_4, Int.reduceAdd, Int.reduceSub, Int.reduceMul, Int.reduceNeg, Int.reducePow, Nat.reducePow, Int.reduceToNat,
            Nat.reduceSub, List.replicate, Nat.reduceBEq, wAs, wA, wC, zipW, noDupN, grpE, g_spec_l00In, grpC, en0, dc_en0, ↓b_pick, ePk_true, ePk_false])
      | (cases h; refine h1 _ rfl (Wk.cast (wk_norm (ks := []) (ls := []) ?_) ?_); (simp only [normOk, optIn, blkIn, nameIn,
      grpS, grpD, grpF, grpL, eop, vop, bop, uop, fltop, convop, endOk, newE, new1, freshL, Md.isNew, outV, pureV, pureX, pure1, AV.cells, AV.one, storable, laid, refless, refless1,
            vload, loadC, storeC, vnil, vfaddr, vextract, flatT, flatE, flatC, vconv, vmm, vidxA, viaddrA, vfield, vlen, elemsOf, dF32, dF64, dI64, dU8, dBool, dStr, esOk, elemsS,
            vsliceX, bnd, ownV, ownC, own1, ownT, isSl, nSl, endL, Md.isOwn, purge, purgeH, purgeB, purgeE, hasName, name1, List.any_cons, List.any_nil, Md.isWr, pureV.pureP,
            Option.map, reduceIte, Nat.reduceEqDiff, Nat.reduceAdd, Nat.reduceMul, Nat.reduceLT, Nat.reduceLeDiff, List.mapM_cons, List.mapM_nil, Option.pure_def,
            Option.bind_eq_bind, Option.bind_some, implies_true, forall_const, beq_self_eq_true, decide_true, decide_false, eq_self, Int.reduceEq, Int.reduceLE, Int.reduceLT,
            if_true, if_false, fc60_0, fc60_1, fc60_2, fc60_3, fc60_4, Int.reduceAdd, Int.reduceSub, Int.reduceMul, Int.reduceNeg, Int.reducePow, Nat.reducePow, Int.reduceToNat,
            Nat.reduceSub, List.replicate, Nat.reduceBEq, wAs, wA, wC, zipW, noDupN, grpE, g_spec_l00In, grpC, en0, dc_en0, ↓b_pick, ePk_true, ePk_false] <;> rfl); (simp only [normS, List.map_append, List.length_append, List.map_set, List.length_set, List.map_replicate, List.length_replicate,
      grpS, grpD, grpF, grpL, eop, vop, bop, uop, fltop, convop, endOk, newE, new1, freshL, Md.isNew, outV, pureV, pureX, pure1, AV.cells, AV.one, storable, laid, refless, refless1,
            vload, loadC, storeC, vnil, vfaddr, vextract, flatT, flatE, flatC, vconv, vmm, vidxA, viaddrA, vfield, vlen, elemsOf, dF32, dF64, dI64, dU8, dBool, dStr, esOk, elemsS,
            vsliceX, bnd, ownV, ownC, own1, ownT, isSl, nSl, endL, Md.isOwn, purge, purgeH, purgeB, purgeE, hasName, name1, List.any_cons, List.any_nil, Md.isWr, pureV.pureP,
            Option.map, reduceIte, Nat.reduceEqDiff, Nat.reduceAdd, Nat.reduceMul, Nat.reduceLT, Nat.reduceLeDiff, List.mapM_cons, List.mapM_nil, Option.pure_def,
            Option.bind_eq_bind, Option.bind_some, implies_true, forall_const, beq_self_eq_true, decide_true, decide_false, eq_self, Int.reduceEq, Int.reduceLE, Int.reduceLT,
            if_true, if_false, fc60_0, fc60_1, fc60_2, fc60_3, fc60_4, Int.reduceAdd, Int.reduceSub, Int.reduceMul, Int.reduceNeg, Int.reducePow, Nat.reducePow, Int.reduceToNat,
            Nat.reduceSub, List.replicate, Nat.reduceBEq, wAs, wA, wC, zipW, noDupN, grpE, g_spec_l00In, grpC, en0, dc_en0, ↓b_pick, ePk_true, ePk_false] <;> rfl))
theorem s60 : ∀ vs r, g_spec_l03Is vs = some r → SaysM Try.prog .any 60 vs r := by
  intro vs r h
  unfold g_spec_l03Is at h
  split at h
  · rename_i w0
    cases hd_y0 : decL dc_en0 w0 with
    | none => rw [hd_y0] at h; cases h
    | some y0 =>
    rw [hd_y0] at h
    obtain rfl := decL_inv dc_en0_inv hd_y0
    clear hd_y0
    dsimp only at h
    split at h
    · rename_i hp
      cases h
      refine spec_of (m := .any) (tab := tabOf [(52, wM .any g_spec_l00In)]) (cp := cp60) (ic := ic60) (rvl := [(.t 2)]) hm (tabOk_cons (m := .any) s52 tabOk_nil) Try.func60 rfl rfl rfl (by kernel_rfl) rfl (Nat.le_of_ble_eq_true rfl) (Nat.le_of_ble_eq_true rfl) ?_
      show eA _ _ _ _
      unfold ic60
      simp only [p_spec_l03Is, Bool.and_eq_true, Bool.or_eq_true, decide_eq_true_eq, Bool.not_eq_true', decide_eq_false_iff_not] at hp
      simp only [
          hp, grpS, grpD, grpF, grpL, eop, vop, bop, uop, fltop, convop, endOk, newE, new1, freshL, Md.isNew, outV, pureV, pureX, pure1, AV.cells, AV.one, storable, laid, refless,
                refless1, vload, loadC, storeC, vnil, vfaddr, vextract, flatT, flatE, flatC, vconv, vmm, vidxA, viaddrA, vfield, vlen, elemsOf, dF32, dF64, dI64, dU8, dBool, dStr,
                esOk, elemsS, vsliceX, bnd, ownV, ownC, own1, ownT, isSl, nSl, endL, Md.isOwn, purge, purgeH, purgeB, purgeE, hasName, name1, List.any_cons, List.any_nil, Md.isWr,
                pureV.pureP, Option.map, reduceIte, Nat.reduceEqDiff, Nat.reduceAdd, Nat.reduceMul, Nat.reduceLT, Nat.reduceLeDiff, List.mapM_cons, List.mapM_nil, Option.pure_def,
                Option.bind_eq_bind, Option.bind_some, implies_true, forall_const, beq_self_eq_true, decide_true, decide_false, eq_self, Int.reduceEq, Int.reduceLE, Int.reduceLT,
                if_true, if_false, fc60_0, fc60_1, fc60_2, fc60_3, fc60_4, Int.reduceAdd, Int.reduceSub, Int.reduceMul, Int.reduceNeg, Int.reducePow, Nat.reducePow, Int.reduceToNat,
                Nat.reduceSub, List.replicate, Nat.reduceBEq, wAs, wA, wC, zipW, noDupN, grpE, g_spec_l00In, grpC, en0, dc_en0, ↓b_pick, ePk_true, ePk_false]
      repeat' (first
        | ((first | (refine eGI_of (fun h => ?_) (fun h => ?_)) | (refine eCc_of (fun h => ?_) (fun h => ?_)) | (refine ePk_of (fun h => ?_) (fun h => ?_)) | (have h := True.intro; refine KW_refl ?_)) <;> (try simp only [Bool.not_eq_true', Bool.not_eq_false'] at h) <;> (try simp only [h, reduceCtorEq, Bool.not_eq_true', decide_eq_false_iff_not, Bool.not_true, Bool.not_false, Bool.false_or, Bool.true_or, Bool.true_and, Bool.false_and, Bool.and_eq_true, Bool.or_eq_true, if_true, if_false, reduceIte, Bool.false_eq_true, and_true, true_and, false_or, or_false, decide_eq_true_eq, not_false_eq_true, not_true_eq_false] at hp) <;> (try (have h2 := h; simp only [decide_eq_true_eq, decide_eq_false_iff_not] at h2; (first | (replace h2 := eq_false h2) | (replace h2 := eq_true h2)); simp only [h2, if_true, if_false, false_or, true_or, or_true, or_false, and_true, true_and, not_false_eq_true, not_true_eq_false] at hp)) <;> simp only [h,
          hp, grpS, grpD, grpF, grpL, eop, vop, bop, uop, fltop, convop, endOk, newE, new1, freshL, Md.isNew, outV, pureV, pureX, pure1, AV.cells, AV.one, storable, laid, refless,
                refless1, vload, loadC, storeC, vnil, vfaddr, vextract, flatT, flatE, flatC, vconv, vmm, vidxA, viaddrA, vfield, vlen, elemsOf, dF32, dF64, dI64, dU8, dBool, dStr,
                esOk, elemsS, vsliceX, bnd, ownV, ownC, own1, ownT, isSl, nSl, endL, Md.isOwn, purge, purgeH, purgeB, purgeE, hasName, name1, List.any_cons, List.any_nil, Md.isWr,
                pureV.pureP, Option.map, reduceIte, Nat.reduceEqDiff, Nat.reduceAdd, Nat.reduceMul, Nat.reduceLT, Nat.reduceLeDiff, List.mapM_cons, List.mapM_nil, Option.pure_def,
                Option.bind_eq_bind, Option.bind_some, implies_true, forall_const, beq_self_eq_true, decide_true, decide_false, eq_self, Int.reduceEq, Int.reduceLE, Int.reduceLT,
                if_true, if_false, fc60_0, fc60_1, fc60_2, fc60_3, fc60_4, Int.reduceAdd, Int.reduceSub, Int.reduceMul, Int.reduceNeg, Int.reducePow, Nat.reducePow, Int.reduceToNat,
                Nat.reduceSub, List.replicate, Nat.reduceBEq, wAs, wA, wC, zipW, noDupN, grpE, g_spec_l00In, grpC, en0, dc_en0, ↓b_pick, ePk_true, ePk_false])
        | (refine eA_wk (wk_norm (ks := [0, 3, 4]) (ls := []) ?_) (eA_cast ?_ (sl60_0 y0 _ _ _ _ (getD_some (d := default) (x := (l_spec_l03Is_0 y0 (Int.toNat (((List.length y0 : Nat) : Int) - 1) + 2) 1)) ?_) ?_ ?_)); (simp only [nilS, nilV, normOk, optIn, blkIn, nameIn, 
          hp, grpS, grpD, grpF, grpL, eop, vop, bop, uop, fltop, convop, endOk, newE, new1, freshL, Md.isNew, outV, pureV, pureX, pure1, AV.cells, AV.one, storable, laid, refless,
                refless1, vload, loadC, storeC, vnil, vfaddr, vextract, flatT, flatE, flatC, vconv, vmm, vidxA, viaddrA, vfield, vlen, elemsOf, dF32, dF64, dI64, dU8, dBool, dStr,
                esOk, elemsS, vsliceX, bnd, ownV, ownC, own1, ownT, isSl, nSl, endL, Md.isOwn, purge, purgeH, purgeB, purgeE, hasName, name1, List.any_cons, List.any_nil, Md.isWr,
                pureV.pureP, Option.map, reduceIte, Nat.reduceEqDiff, Nat.reduceAdd, Nat.reduceMul, Nat.reduceLT, Nat.reduceLeDiff, List.mapM_cons, List.mapM_nil, Option.pure_def,
                Option.bind_eq_bind, Option.bind_some, implies_true, forall_const, beq_self_eq_true, decide_true, decide_false, eq_self, Int.reduceEq, Int.reduceLE, Int.reduceLT,
                if_true, if_false, fc60_0, fc60_1, fc60_2, fc60_3, fc60_4, Int.reduceAdd, Int.reduceSub, Int.reduceMul, Int.reduceNeg, Int.reducePow, Nat.reducePow, Int.reduceToNat,
                Nat.reduceSub, List.replicate, Nat.reduceBEq, wAs, wA, wC, zipW, noDupN, grpE, g_spec_l00In, grpC, en0, dc_en0, ↓b_pick, ePk_true, ePk_false] <;> rfl); (simp only [nilS, nilV, normS,  List.map_append, List.length_append, List.map_set, List.length_set, List.map_replicate, List.length_replicate, List.map_nil, List.map_cons,
          hp, grpS, grpD, grpF, grpL, eop, vop, bop, uop, fltop, convop, endOk, newE, new1, freshL, Md.isNew, outV, pureV, pureX, pure1, AV.cells, AV.one, storable, laid, refless,
                refless1, vload, loadC, storeC, vnil, vfaddr, vextract, flatT, flatE, flatC, vconv, vmm, vidxA, viaddrA, vfield, vlen, elemsOf, dF32, dF64, dI64, dU8, dBool, dStr,
                esOk, elemsS, vsliceX, bnd, ownV, ownC, own1, ownT, isSl, nSl, endL, Md.isOwn, purge, purgeH, purgeB, purgeE, hasName, name1, List.any_cons, List.any_nil, Md.isWr,
                pureV.pureP, Option.map, reduceIte, Nat.reduceEqDiff, Nat.reduceAdd, Nat.reduceMul, Nat.reduceLT, Nat.reduceLeDiff, List.mapM_cons, List.mapM_nil, Option.pure_def,
                Option.bind_eq_bind, Option.bind_some, implies_true, forall_const, beq_self_eq_true, decide_true, decide_false, eq_self, Int.reduceEq, Int.reduceLE, Int.reduceLT,
                if_true, if_false, fc60_0, fc60_1, fc60_2, fc60_3, fc60_4, Int.reduceAdd, Int.reduceSub, Int.reduceMul, Int.reduceNeg, Int.reducePow, Nat.reducePow, Int.reduceToNat,
                Nat.reduceSub, List.replicate, Nat.reduceBEq, wAs, wA, wC, zipW, noDupN, grpE, g_spec_l00In, grpC, en0, dc_en0, ↓b_pick, ePk_true, ePk_false] <;> rfl); (simp only [hp]); (
        intro st2 ht hw; simp only [Kq_ret, Kb_ret, Kl_ret, ret_ok]; first | exact h0 _ hw | exact h0 _ rfl hw | exact h1 _ rfl hw | exact h0 _ ht hw | exact h1 _ ht hw | refine ⟨_, hw, ?_⟩); rotate_left; (
        intro st2 ht hw; (try simp only [ht, reduceCtorEq, Bool.not_eq_true', decide_eq_false_iff_not, Bool.not_true, Bool.not_false, Bool.false_or, Bool.true_or, Bool.true_and, Bool.false_and, Bool.and_eq_true, Bool.or_eq_true, if_true, if_false, reduceIte, Bool.false_eq_true, and_true, true_and, false_or, or_false, decide_eq_true_eq, not_false_eq_true, not_true_eq_false] at hp); simp only [
          hp, grpS, grpD, grpF, grpL, eop, vop, bop, uop, fltop, convop, endOk, newE, new1, freshL, Md.isNew, outV, pureV, pureX, pure1, AV.cells, AV.one, storable, laid, refless,
                refless1, vload, loadC, storeC, vnil, vfaddr, vextract, flatT, flatE, flatC, vconv, vmm, vidxA, viaddrA, vfield, vlen, elemsOf, dF32, dF64, dI64, dU8, dBool, dStr,
                esOk, elemsS, vsliceX, bnd, ownV, ownC, own1, ownT, isSl, nSl, endL, Md.isOwn, purge, purgeH, purgeB, purgeE, hasName, name1, List.any_cons, List.any_nil, Md.isWr,
                pureV.pureP, Option.map, reduceIte, Nat.reduceEqDiff, Nat.reduceAdd, Nat.reduceMul, Nat.reduceLT, Nat.reduceLeDiff, List.mapM_cons, List.mapM_nil, Option.pure_def,
                Option.bind_eq_bind, Option.bind_some, implies_true, forall_const, beq_self_eq_true, decide_true, decide_false, eq_self, Int.reduceEq, Int.reduceLE, Int.reduceLT,
                if_true, if_false, fc60_0, fc60_1, fc60_2, fc60_3, fc60_4, Int.reduceAdd, Int.reduceSub, Int.reduceMul, Int.reduceNeg, Int.reducePow, Nat.reducePow, Int.reduceToNat,
                Nat.reduceSub, List.replicate, Nat.reduceBEq, wAs, wA, wC, zipW, noDupN, grpE, g_spec_l00In, grpC, en0, dc_en0, ↓b_pick, ePk_true, ePk_false]; refine KW_of hw ?_; simp only [ht, 
          hp, grpS, grpD, grpF, grpL, eop, vop, bop, uop, fltop, convop, endOk, newE, new1, freshL, Md.isNew, outV, pureV, pureX, pure1, AV.cells, AV.one, storable, laid, refless,
                refless1, vload, loadC, storeC, vnil, vfaddr, vextract, flatT, flatE, flatC, vconv, vmm, vidxA, viaddrA, vfield, vlen, elemsOf, dF32, dF64, dI64, dU8, dBool, dStr,
                esOk, elemsS, vsliceX, bnd, ownV, ownC, own1, ownT, isSl, nSl, endL, Md.isOwn, purge, purgeH, purgeB, purgeE, hasName, name1, List.any_cons, List.any_nil, Md.isWr,
                pureV.pureP, Option.map, reduceIte, Nat.reduceEqDiff, Nat.reduceAdd, Nat.reduceMul, Nat.reduceLT, Nat.reduceLeDiff, List.mapM_cons, List.mapM_nil, Option.pure_def,
                Option.bind_eq_bind, Option.bind_some, implies_true, forall_const, beq_self_eq_true, decide_true, decide_false, eq_self, Int.reduceEq, Int.reduceLE, Int.reduceLT,
                if_true, if_false, fc60_0, fc60_1, fc60_2, fc60_3, fc60_4, Int.reduceAdd, Int.reduceSub, Int.reduceMul, Int.reduceNeg, Int.reducePow, Nat.reducePow, Int.reduceToNat,
                Nat.reduceSub, List.replicate, Nat.reduceBEq, wAs, wA, wC, zipW, noDupN, grpE, g_spec_l00In, grpC, en0, dc_en0, ↓b_pick, ePk_true, ePk_false])))
      all_goals (try simp only [*, m_spec_l03Is, Bool.and_true, Bool.true_and, Bool.and_false, Bool.false_and, Bool.or_true, Bool.true_or, Bool.or_false, Bool.false_or, Bool.not_true, Bool.not_false, Bool.false_eq_true, if_true, if_false, reduceIte, decide_true, decide_false])
      all_goals (try (simp_all; done))
    · cases h
  · cases h
def m_spec_l01Inner (x0 : (Nat × Nat × Nat)) (x1 : (Nat × Nat × Nat)) : Nat := (fadd .f32 (fadd .f32 (fmul .f32 x0.1 x1.1) (fmul .f32 x0.2.1 x1.2.1)) (fmul .f32 x0.2.2 x1.2.2))
def g_spec_l01Inner : List AV → Option AV
  | [.agg [.flt .f32 y0, .flt .f32 y1, .flt .f32 y2], .agg [.flt .f32 y3, .flt .f32 y4, .flt .f32 y5]] => some (.flt .f32 (m_spec_l01Inner
      (y0, y1, y2) (y3, y4, y5)))
  | _ => none
def ic93 : ICode := (.seq (.reg [⟨(some 2), none, (.box 3 (.t 0))⟩, ⟨(some 3), none, (.box 3 (.t 1))⟩, ⟨(some 4), none, (.mov (.c (.flt .f32 0)))⟩] [2, 3]) (.seq (.reg [⟨(some 5),
      none, (.faddr 0 (.t 2))⟩, ⟨(some 6), none, (.load none (.t 5))⟩, ⟨(some 7), none, (.faddr 0 (.t 3))⟩, ⟨(some 8), none, (.load none (.t 7))⟩, ⟨(some 9), none, (.bin .mul false
      (.t 6) (.t 8))⟩, ⟨(some 10), none, (.faddr 1 (.t 2))⟩, ⟨(some 11), none, (.load none (.t 10))⟩, ⟨(some 12), none, (.faddr 1 (.t 3))⟩, ⟨(some 13), none, (.load none (.t 12))⟩,
      ⟨(some 14), none, (.bin .mul false (.t 11) (.t 13))⟩, ⟨(some 15), none, (.bin .add false (.t 9) (.t 14))⟩, ⟨(some 16), none, (.faddr 2 (.t 2))⟩, ⟨(some 17), none, (.load none
      (.t 16))⟩, ⟨(some 18), none, (.faddr 2 (.t 3))⟩, ⟨(some 19), none, (.load none (.t 18))⟩, ⟨(some 20), none, (.bin .mul false (.t 17) (.t 19))⟩, ⟨(some 21), none, (.bin .add
      false (.t 15) (.t 20))⟩, ⟨(some 4), none, (.mov (.t 21))⟩] [4]) .ret))
def cp93 : CP := CP.mk [] [] [[2, 3], [4]] 22
theorem fc93_0 : IntKind.wrap .i64 0 = 0 := by decide
theorem fc93_1 : IntKind.wrap .i64 1 = 1 := by decide
theorem fc93_2 : IntKind.wrap .i64 2 = 2 := by decide
theorem fc93_3 : IntKind.wrap .i64 3 = 3 := by decide
theorem fc93_4 : IntKind.wrap .i64 4 = 4 := by decide
theorem s93 : ∀ vs r, g_spec_l01Inner vs = some r → SaysM Try.prog .any 93 vs r := by
  intro vs r h
  unfold g_spec_l01Inner at h
  split at h
  · rename_i y0 y1 y2 y3 y4 y5
    cases h
    refine spec_of (m := .any) (tab := tabOf []) (cp := cp93) (ic := ic93) (rvl := [(.t 4)]) hm tabOk_nil Try.func93 rfl rfl rfl (by kernel_rfl) rfl (Nat.le_of_ble_eq_true rfl) (Nat.le_of_ble_eq_true rfl) ?_
    show eA _ _ _ _
    unfold ic93
    simp only [
        grpS, grpD, grpF, grpL, eop, vop, bop, uop, fltop, convop, endOk, newE, new1, freshL, Md.isNew, outV, pureV, pureX, pure1, AV.cells, AV.one, storable, laid, refless,
              refless1, vload, loadC, storeC, vnil, vfaddr, vextract, flatT, flatE, flatC, vconv, vmm, vidxA, viaddrA, vfield, vlen, elemsOf, dF32, dF64, dI64, dU8, dBool, dStr,
              esOk, elemsS, vsliceX, bnd, ownV, ownC, own1, ownT, isSl, nSl, endL, Md.isOwn, purge, purgeH, purgeB, purgeE, hasName, name1, List.any_cons, List.any_nil, Md.isWr,
              pureV.pureP, Option.map, reduceIte, Nat.reduceEqDiff, Nat.reduceAdd, Nat.reduceMul, Nat.reduceLT, Nat.reduceLeDiff, List.mapM_cons, List.mapM_nil, Option.pure_def,
              Option.bind_eq_bind, Option.bind_some, implies_true, forall_const, beq_self_eq_true, decide_true, decide_false, eq_self, Int.reduceEq, Int.reduceLE, Int.reduceLT,
              if_true, if_false, fc93_0, fc93_1, fc93_2, fc93_3, fc93_4, Int.reduceAdd, Int.reduceSub, Int.reduceMul, Int.reduceNeg, Int.reducePow, Nat.reducePow, Int.reduceToNat,
              Nat.reduceSub, List.replicate, Nat.reduceBEq, wAs, wA, wC, zipW, noDupN, grpE, grpC, en0, dc_en0]
    repeat' (first
      | ((first | (refine eGI_of (fun h => ?_) (fun h => ?_)) | (refine eCc_of (fun h => ?_) (fun h => ?_))) <;> (try simp only [Bool.not_eq_true', Bool.not_eq_false'] at h) <;> simp only [h,
        grpS, grpD, grpF, grpL, eop, vop, bop, uop, fltop, convop, endOk, newE, new1, freshL, Md.isNew, outV, pureV, pureX, pure1, AV.cells, AV.one, storable, laid, refless,
              refless1, vload, loadC, storeC, vnil, vfaddr, vextract, flatT, flatE, flatC, vconv, vmm, vidxA, viaddrA, vfield, vlen, elemsOf, dF32, dF64, dI64, dU8, dBool, dStr,
              esOk, elemsS, vsliceX, bnd, ownV, ownC, own1, ownT, isSl, nSl, endL, Md.isOwn, purge, purgeH, purgeB, purgeE, hasName, name1, List.any_cons, List.any_nil, Md.isWr,
              pureV.pureP, Option.map, reduceIte, Nat.reduceEqDiff, Nat.reduceAdd, Nat.reduceMul, Nat.reduceLT, Nat.reduceLeDiff, List.mapM_cons, List.mapM_nil, Option.pure_def,
              Option.bind_eq_bind, Option.bind_some, implies_true, forall_const, beq_self_eq_true, decide_true, decide_false, eq_self, Int.reduceEq, Int.reduceLE, Int.reduceLT,
              if_true, if_false, fc93_0, fc93_1, fc93_2, fc93_3, fc93_4, Int.reduceAdd, Int.reduceSub, Int.reduceMul, Int.reduceNeg, Int.reducePow, Nat.reducePow, Int.reduceToNat,
              Nat.reduceSub, List.replicate, Nat.reduceBEq, wAs, wA, wC, zipW, noDupN, grpE, grpC, en0, dc_en0]))
    all_goals (try simp only [*, m_spec_l01Inner, Bool.and_true, Bool.true_and, Bool.and_false, Bool.false_and, Bool.or_true, Bool.true_or, Bool.or_false, Bool.false_or, Bool.not_true, Bool.not_false, Bool.false_eq_true, if_true, if_false, reduceIte, decide_true, decide_false])
    all_goals (try (simp_all; done))
  · cases h
theorem s118 : ∀ vs r, g_sqrt vs = some r → SaysM Try.prog .any 118 vs r := t_sqrt Try.func118 (by kernel_rfl) rfl (by kernel_rfl) (by kernel_rfl)
def m_math_Sqrt (x0 : Nat) : Nat := (fsqrt x0)
def g_math_Sqrt : List AV → Option AV
  | [.flt .f64 y0] => some (.flt .f64 (m_math_Sqrt y0))
  | _ => none
def ic108 : ICode := (.seq (.reg [⟨(some 2), none, (.mov (.c (.flt .f64 0)))⟩] [0]) (.seq (.reg [⟨(some 3), none, (.mov (.t 0))⟩, ⟨(some 4), none, (.call (.fn 118) [(.t 3)] [])⟩,
      ⟨(some 2), none, (.mov (.t 4))⟩] [2]) .ret))
def cp108 : CP := CP.mk [] [] [[0], [2]] 5
theorem fc108_0 : IntKind.wrap .i64 0 = 0 := by decide
theorem fc108_1 : IntKind.wrap .i64 1 = 1 := by decide
theorem fc108_2 : IntKind.wrap .i64 2 = 2 := by decide
theorem fc108_3 : IntKind.wrap .i64 3 = 3 := by decide
theorem fc108_4 : IntKind.wrap .i64 4 = 4 := by decide
theorem s108 : ∀ vs r, g_math_Sqrt vs = some r → SaysM Try.prog .any 108 vs r := by
  intro vs r h
  unfold g_math_Sqrt at h
  split at h
  · rename_i y0
    cases h
    refine spec_of (m := .any) (tab := tabOf [(118, wM .any g_sqrt)]) (cp := cp108) (ic := ic108) (rvl := [(.t 2)]) hm (tabOk_cons (m := .any) s118 tabOk_nil) Try.func108 rfl rfl rfl (by kernel_rfl) rfl (Nat.le_of_ble_eq_true rfl) (Nat.le_of_ble_eq_true rfl) ?_
    show eA _ _ _ _
    unfold ic108
    simp only [
        grpS, grpD, grpF, grpL, eop, vop, bop, uop, fltop, convop, endOk, newE, new1, freshL, Md.isNew, outV, pureV, pureX, pure1, AV.cells, AV.one, storable, laid, refless,
              refless1, vload, loadC, storeC, vnil, vfaddr, vextract, flatT, flatE, flatC, vconv, vmm, vidxA, viaddrA, vfield, vlen, elemsOf, dF32, dF64, dI64, dU8, dBool, dStr,
              esOk, elemsS, vsliceX, bnd, ownV, ownC, own1, ownT, isSl, nSl, endL, Md.isOwn, purge, purgeH, purgeB, purgeE, hasName, name1, List.any_cons, List.any_nil, Md.isWr,
              pureV.pureP, Option.map, reduceIte, Nat.reduceEqDiff, Nat.reduceAdd, Nat.reduceMul, Nat.reduceLT, Nat.reduceLeDiff, List.mapM_cons, List.mapM_nil, Option.pure_def,
              Option.bind_eq_bind, Option.bind_some, implies_true, forall_const, beq_self_eq_true, decide_true, decide_false, eq_self, Int.reduceEq, Int.reduceLE, Int.reduceLT,
              if_true, if_false, fc108_0, fc108_1, fc108_2, fc108_3, fc108_4, Int.reduceAdd, Int.reduceSub, Int.reduceMul, Int.reduceNeg, Int.reducePow, Nat.reducePow,
              Int.reduceToNat, Nat.reduceSub, List.replicate, Nat.reduceBEq, wAs, wA, wC, zipW, noDupN, grpE, g_sqrt, grpC, en0, dc_en0]
    repeat' (first
      | ((first | (refine eGI_of (fun h => ?_) (fun h => ?_)) | (refine eCc_of (fun h => ?_) (fun h => ?_))) <;> (try simp only [Bool.not_eq_true', Bool.not_eq_false'] at h) <;> simp only [h,
        grpS, grpD, grpF, grpL, eop, vop, bop, uop, fltop, convop, endOk, newE, new1, freshL, Md.isNew, outV, pureV, pureX, pure1, AV.cells, AV.one, storable, laid, refless,
              refless1, vload, loadC, storeC, vnil, vfaddr, vextract, flatT, flatE, flatC, vconv, vmm, vidxA, viaddrA, vfield, vlen, elemsOf, dF32, dF64, dI64, dU8, dBool, dStr,
              esOk, elemsS, vsliceX, bnd, ownV, ownC, own1, ownT, isSl, nSl, endL, Md.isOwn, purge, purgeH, purgeB, purgeE, hasName, name1, List.any_cons, List.any_nil, Md.isWr,
              pureV.pureP, Option.map, reduceIte, Nat.reduceEqDiff, Nat.reduceAdd, Nat.reduceMul, Nat.reduceLT, Nat.reduceLeDiff, List.mapM_cons, List.mapM_nil, Option.pure_def,
              Option.bind_eq_bind, Option.bind_some, implies_true, forall_const, beq_self_eq_true, decide_true, decide_false, eq_self, Int.reduceEq, Int.reduceLE, Int.reduceLT,
              if_true, if_false, fc108_0, fc108_1, fc108_2, fc108_3, fc108_4, Int.reduceAdd, Int.reduceSub, Int.reduceMul, Int.reduceNeg, Int.reducePow, Nat.reducePow,
              Int.reduceToNat, Nat.reduceSub, List.replicate, Nat.reduceBEq, wAs, wA, wC, zipW, noDupN, grpE, g_sqrt, grpC, en0, dc_en0]))
    all_goals (try simp only [*, m_math_Sqrt, Bool.and_true, Bool.true_and, Bool.and_false, Bool.false_and, Bool.or_true, Bool.true_or, Bool.or_false, Bool.false_or, Bool.not_true, Bool.not_false, Bool.false_eq_true, if_true, if_false, reduceIte, decide_true, decide_false])
    all_goals (try (simp_all; done))
  · cases h
def m_spec_l01Narrow (x0 : Nat) : Nat := (narrow x0)
def p_spec_l01Narrow (x0 : Nat) : Bool := (narrowOk x0)
def g_spec_l01Narrow : List AV → Option AV
  | [.flt .f64 y0] => if p_spec_l01Narrow y0 = true then some (.flt .f32 (m_spec_l01Narrow y0)) else none
  | _ => none
def ic107 : ICode := (.seq (.reg [⟨(some 2), none, (.mov (.c (.flt .f32 0)))⟩] [0]) (.seq (.reg [⟨(some 3), none, (.mov (.t 0))⟩, ⟨(some 4), none, (.conv (.flt .f32) (.t 3))⟩,
      ⟨(some 2), none, (.mov (.t 4))⟩] [2]) .ret))
def cp107 : CP := CP.mk [] [] [[0], [2]] 5
theorem fc107_0 : IntKind.wrap .i64 0 = 0 := by decide
theorem fc107_1 : IntKind.wrap .i64 1 = 1 := by decide
theorem fc107_2 : IntKind.wrap .i64 2 = 2 := by decide
theorem fc107_3 : IntKind.wrap .i64 3 = 3 := by decide
theorem fc107_4 : IntKind.wrap .i64 4 = 4 := by decide
theorem s107 : ∀ vs r, g_spec_l01Narrow vs = some r → SaysM Try.prog .any 107 vs r := by
  intro vs r h
  unfold g_spec_l01Narrow at h
  split at h
  · rename_i y0
    split at h
    · rename_i hp
      cases h
      refine spec_of (m := .any) (tab := tabOf []) (cp := cp107) (ic := ic107) (rvl := [(.t 2)]) hm tabOk_nil Try.func107 rfl rfl rfl (by kernel_rfl) rfl (Nat.le_of_ble_eq_true rfl) (Nat.le_of_ble_eq_true rfl) ?_
      show eA _ _ _ _
      unfold ic107
      simp only [p_spec_l01Narrow, Bool.and_eq_true, Bool.or_eq_true, decide_eq_true_eq, Bool.not_eq_true', decide_eq_false_iff_not] at hp
      simp only [
          hp, grpS, grpD, grpF, grpL, eop, vop, bop, uop, fltop, convop, endOk, newE, new1, freshL, Md.isNew, outV, pureV, pureX, pure1, AV.cells, AV.one, storable, laid, refless,
                refless1, vload, loadC, storeC, vnil, vfaddr, vextract, flatT, flatE, flatC, vconv, vmm, vidxA, viaddrA, vfield, vlen, elemsOf, dF32, dF64, dI64, dU8, dBool, dStr,
                esOk, elemsS, vsliceX, bnd, ownV, ownC, own1, ownT, isSl, nSl, endL, Md.isOwn, purge, purgeH, purgeB, purgeE, hasName, name1, List.any_cons, List.any_nil, Md.isWr,
                pureV.pureP, Option.map, reduceIte, Nat.reduceEqDiff, Nat.reduceAdd, Nat.reduceMul, Nat.reduceLT, Nat.reduceLeDiff, List.mapM_cons, List.mapM_nil, Option.pure_def,
                Option.bind_eq_bind, Option.bind_some, implies_true, forall_const, beq_self_eq_true, decide_true, decide_false, eq_self, Int.reduceEq, Int.reduceLE, Int.reduceLT,
                if_true, if_false, fc107_0, fc107_1, fc107_2, fc107_3, fc107_4, Int.reduceAdd, Int.reduceSub, Int.reduceMul, Int.reduceNeg, Int.reducePow, Nat.reducePow,
                Int.reduceToNat, Nat.reduceSub, List.replicate, Nat.reduceBEq, wAs, wA, wC, zipW, noDupN, grpE, grpC, en0, dc_en0]
      repeat' (first
        | ((first | (refine eGI_of (fun h => ?_) (fun h => ?_)) | (refine eCc_of (fun h => ?_) (fun h => ?_))) <;> (try simp only [Bool.not_eq_true', Bool.not_eq_false'] at h) <;> (try simp only [h, reduceCtorEq, Bool.not_eq_true', decide_eq_false_iff_not, Bool.not_true, Bool.not_false, Bool.false_or, Bool.true_or, Bool.true_and, Bool.false_and, Bool.and_eq_true, Bool.or_eq_true, if_true, if_false, reduceIte, Bool.false_eq_true, and_true, true_and, false_or, or_false, decide_eq_true_eq, not_false_eq_true, not_true_eq_false] at hp) <;> (try (have h2 := h; simp only [decide_eq_true_eq, decide_eq_false_iff_not] at h2; (first | (replace h2 := eq_false h2) | (replace h2 := eq_true h2)); simp only [h2, if_true, if_false, false_or, true_or, or_true, or_false, and_true, true_and, not_false_eq_true, not_true_eq_false] at hp)) <;> simp only [h,
          hp, grpS, grpD, grpF, grpL, eop, vop, bop, uop, fltop, convop, endOk, newE, new1, freshL, Md.isNew, outV, pureV, pureX, pure1, AV.cells, AV.one, storable, laid, refless,
                refless1, vload, loadC, storeC, vnil, vfaddr, vextract, flatT, flatE, flatC, vconv, vmm, vidxA, viaddrA, vfield, vlen, elemsOf, dF32, dF64, dI64, dU8, dBool, dStr,
                esOk, elemsS, vsliceX, bnd, ownV, ownC, own1, ownT, isSl, nSl, endL, Md.isOwn, purge, purgeH, purgeB, purgeE, hasName, name1, List.any_cons, List.any_nil, Md.isWr,
                pureV.pureP, Option.map, reduceIte, Nat.reduceEqDiff, Nat.reduceAdd, Nat.reduceMul, Nat.reduceLT, Nat.reduceLeDiff, List.mapM_cons, List.mapM_nil, Option.pure_def,
                Option.bind_eq_bind, Option.bind_some, implies_true, forall_const, beq_self_eq_true, decide_true, decide_false, eq_self, Int.reduceEq, Int.reduceLE, Int.reduceLT,
                if_true, if_false, fc107_0, fc107_1, fc107_2, fc107_3, fc107_4, Int.reduceAdd, Int.reduceSub, Int.reduceMul, Int.reduceNeg, Int.reducePow, Nat.reducePow,
                Int.reduceToNat, Nat.reduceSub, List.replicate, Nat.reduceBEq, wAs, wA, wC, zipW, noDupN, grpE, grpC, en0, dc_en0]))
      all_goals (try simp only [*, m_spec_l01Narrow, Bool.and_true, Bool.true_and, Bool.and_false, Bool.false_and, Bool.or_true, Bool.true_or, Bool.or_false, Bool.false_or, Bool.not_true, Bool.not_false, Bool.false_eq_true, if_true, if_false, reduceIte, decide_true, decide_false])
      all_goals (try (simp_all; done))
    · cases h
  · cases h
def m_spec_l01Sqrt (x0 : Nat) : Nat := (m_spec_l01Narrow (m_math_Sqrt (widen x0)))
def p_spec_l01Sqrt (x0 : Nat) : Bool := (p_spec_l01Narrow (m_math_Sqrt (widen x0)))
def g_spec_l01Sqrt : List AV → Option AV
  | [.flt .f32 y0] => if p_spec_l01Sqrt y0 = true then some (.flt .f32 (m_spec_l01Sqrt y0)) else none
  | _ => none
def ic92 : ICode := (.seq (.reg [⟨(some 2), none, (.mov (.c (.flt .f32 0)))⟩] [0]) (.seq (.reg [⟨(some 3), none, (.mov (.t 0))⟩, ⟨(some 4), none, (.conv (.flt .f64) (.t 3))⟩, ⟨(some
      5), none, (.call (.fn 108) [(.t 4)] [])⟩, ⟨(some 6), none, (.call (.fn 107) [(.t 5)] [])⟩, ⟨(some 2), none, (.mov (.t 6))⟩] [2]) .ret))
def cp92 : CP := CP.mk [] [] [[0], [2]] 7
theorem fc92_0 : IntKind.wrap .i64 0 = 0 := by decide
theorem fc92_1 : IntKind.wrap .i64 1 = 1 := by decide
theorem fc92_2 : IntKind.wrap .i64 2 = 2 := by decide
theorem fc92_3 : IntKind.wrap .i64 3 = 3 := by decide
theorem fc92_4 : IntKind.wrap .i64 4 = 4 := by decide
theorem s92 : ∀ vs r, g_spec_l01Sqrt vs = some r → SaysM Try.prog .any 92 vs r := by
  intro vs r h
  unfold g_spec_l01Sqrt at h
  split at h
  · rename_i y0
    split at h
    · rename_i hp
      cases h
      refine spec_of (m := .any) (tab := tabOf [(107, wM .any g_spec_l01Narrow), (108, wM .any g_math_Sqrt)]) (cp := cp92) (ic := ic92) (rvl := [(.t 2)]) hm (tabOk_cons (m := .any) s107 (tabOk_cons (m := .any) s108 tabOk_nil)) Try.func92 rfl rfl rfl (by kernel_rfl) rfl (Nat.le_of_ble_eq_true rfl) (Nat.le_of_ble_eq_true rfl) ?_
      show eA _ _ _ _
      unfold ic92
      simp only [p_spec_l01Sqrt, Bool.and_eq_true, Bool.or_eq_true, decide_eq_true_eq, Bool.not_eq_true', decide_eq_false_iff_not] at hp
      simp only [
          hp, grpS, grpD, grpF, grpL, eop, vop, bop, uop, fltop, convop, endOk, newE, new1, freshL, Md.isNew, outV, pureV, pureX, pure1, AV.cells, AV.one, storable, laid, refless,
                refless1, vload, loadC, storeC, vnil, vfaddr, vextract, flatT, flatE, flatC, vconv, vmm, vidxA, viaddrA, vfield, vlen, elemsOf, dF32, dF64, dI64, dU8, dBool, dStr,
                esOk, elemsS, vsliceX, bnd, ownV, ownC, own1, ownT, isSl, nSl, endL, Md.isOwn, purge, purgeH, purgeB, purgeE, hasName, name1, List.any_cons, List.any_nil, Md.isWr,
                pureV.pureP, Option.map, reduceIte, Nat.reduceEqDiff, Nat.reduceAdd, Nat.reduceMul, Nat.reduceLT, Nat.reduceLeDiff, List.mapM_cons, List.mapM_nil, Option.pure_def,
                Option.bind_eq_bind, Option.bind_some, implies_true, forall_const, beq_self_eq_true, decide_true, decide_false, eq_self, Int.reduceEq, Int.reduceLE, Int.reduceLT,
                if_true, if_false, fc92_0, fc92_1, fc92_2, fc92_3, fc92_4, Int.reduceAdd, Int.reduceSub, Int.reduceMul, Int.reduceNeg, Int.reducePow, Nat.reducePow, Int.reduceToNat,
                Nat.reduceSub, List.replicate, Nat.reduceBEq, wAs, wA, wC, zipW, noDupN, grpE, g_spec_l01Narrow, g_math_Sqrt, grpC, en0, dc_en0]
      repeat' (first
        | ((first | (refine eGI_of (fun h => ?_) (fun h => ?_)) | (refine eCc_of (fun h => ?_) (fun h => ?_))) <;> (try simp only [Bool.not_eq_true', Bool.not_eq_false'] at h) <;> (try simp only [h, reduceCtorEq, Bool.not_eq_true', decide_eq_false_iff_not, Bool.not_true, Bool.not_false, Bool.false_or, Bool.true_or, Bool.true_and, Bool.false_and, Bool.and_eq_true, Bool.or_eq_true, if_true, if_false, reduceIte, Bool.false_eq_true, and_true, true_and, false_or, or_false, decide_eq_true_eq, not_false_eq_true, not_true_eq_false] at hp) <;> (try (have h2 := h; simp only [decide_eq_true_eq, decide_eq_false_iff_not] at h2; (first | (replace h2 := eq_false h2) | (replace h2 := eq_true h2)); simp only [h2, if_true, if_false, false_or, true_or, or_true, or_false, and_true, true_and, not_false_eq_true, not_true_eq_false] at hp)) <;> simp only [h,
          hp, grpS, grpD, grpF, grpL, eop, vop, bop, uop, fltop, convop, endOk, newE, new1, freshL, Md.isNew, outV, pureV, pureX, pure1, AV.cells, AV.one, storable, laid, refless,
                refless1, vload, loadC, storeC, vnil, vfaddr, vextract, flatT, flatE, flatC, vconv, vmm, vidxA, viaddrA, vfield, vlen, elemsOf, dF32, dF64, dI64, dU8, dBool, dStr,
                esOk, elemsS, vsliceX, bnd, ownV, ownC, own1, ownT, isSl, nSl, endL, Md.isOwn, purge, purgeH, purgeB, purgeE, hasName, name1, List.any_cons, List.any_nil, Md.isWr,
                pureV.pureP, Option.map, reduceIte, Nat.reduceEqDiff, Nat.reduceAdd, Nat.reduceMul, Nat.reduceLT, Nat.reduceLeDiff, List.mapM_cons, List.mapM_nil, Option.pure_def,
                Option.bind_eq_bind, Option.bind_some, implies_true, forall_const, beq_self_eq_true, decide_true, decide_false, eq_self, Int.reduceEq, Int.reduceLE, Int.reduceLT,
                if_true, if_false, fc92_0, fc92_1, fc92_2, fc92_3, fc92_4, Int.reduceAdd, Int.reduceSub, Int.reduceMul, Int.reduceNeg, Int.reducePow, Nat.reducePow, Int.reduceToNat,
                Nat.reduceSub, List.replicate, Nat.reduceBEq, wAs, wA, wC, zipW, noDupN, grpE, g_spec_l01Narrow, g_math_Sqrt, grpC, en0, dc_en0]))
      all_goals (try simp only [*, m_spec_l01Sqrt, Bool.and_true, Bool.true_and, Bool.and_false, Bool.false_and, Bool.or_true, Bool.true_or, Bool.or_false, Bool.false_or, Bool.not_true, Bool.not_false, Bool.false_eq_true, if_true, if_false, reduceIte, decide_true, decide_false])
      all_goals (try (simp_all; done))
    · cases h
  · cases h
def m_spec_l01Long (x0 : (Nat × Nat × Nat)) : Nat := (m_spec_l01Sqrt (m_spec_l01Inner x0 x0))
def p_spec_l01Long (x0 : (Nat × Nat × Nat)) : Bool := (p_spec_l01Sqrt (m_spec_l01Inner x0 x0))
def g_spec_l01Long : List AV → Option AV
  | [.agg [.flt .f32 y0, .flt .f32 y1, .flt .f32 y2]] => if p_spec_l01Long (y0, y1, y2) = true then some (.flt .f32 (m_spec_l01Long (y0, y1,
      y2))) else none
  | _ => none
def ic61 : ICode := (.seq (.reg [⟨(some 1), none, (.box 3 (.t 0))⟩, ⟨(some 2), none, (.mov (.c (.flt .f32 0)))⟩] [1]) (.seq (.reg [⟨(some 3), none, (.load (some 3) (.t 1))⟩, ⟨(some
      4), none, (.load (some 3) (.t 1))⟩, ⟨(some 5), none, (.call (.fn 93) [(.t 3), (.t 4)] [])⟩, ⟨(some 6), none, (.call (.fn 92) [(.t 5)] [])⟩, ⟨(some 2), none, (.mov (.t 6))⟩]
      [2]) .ret))
def cp61 : CP := CP.mk [] [] [[1], [2]] 7
theorem fc61_0 : IntKind.wrap .i64 0 = 0 := by decide
theorem fc61_1 : IntKind.wrap .i64 1 = 1 := by decide
theorem fc61_2 : IntKind.wrap .i64 2 = 2 := by decide
theorem fc61_3 : IntKind.wrap .i64 3 = 3 := by decide
theorem fc61_4 : IntKind.wrap .i64 4 = 4 := by decide
theorem s61 : ∀ vs r, g_spec_l01Long vs = some r → SaysM Try.prog .any 61 vs r := by
  intro vs r h
  unfold g_spec_l01Long at h
  split at h
  · rename_i y0 y1 y2
    split at h
    · rename_i hp
      cases h
      refine spec_of (m := .any) (tab := tabOf [(92, wM .any g_spec_l01Sqrt), (93, wM .any g_spec_l01Inner)]) (cp := cp61) (ic := ic61) (rvl := [(.t 2)]) hm (tabOk_cons (m := .any) s92 (tabOk_cons (m := .any) s93 tabOk_nil)) Try.func61 rfl rfl rfl (by kernel_rfl) rfl (Nat.le_of_ble_eq_true rfl) (Nat.le_of_ble_eq_true rfl) ?_
      show eA _ _ _ _
      unfold ic61
      simp only [p_spec_l01Long, Bool.and_eq_true, Bool.or_eq_true, decide_eq_true_eq, Bool.not_eq_true', decide_eq_false_iff_not] at hp
      simp only [
          hp, grpS, grpD, grpF, grpL, eop, vop, bop, uop, fltop, convop, endOk, newE, new1, freshL, Md.isNew, outV, pureV, pureX, pure1, AV.cells, AV.one, storable, laid, refless,
                refless1, vload, loadC, storeC, vnil, vfaddr, vextract, flatT, flatE, flatC, vconv, vmm, vidxA, viaddrA, vfield, vlen, elemsOf, dF32, dF64, dI64, dU8, dBool, dStr,
                esOk, elemsS, vsliceX, bnd, ownV, ownC, own1, ownT, isSl, nSl, endL, Md.isOwn, purge, purgeH, purgeB, purgeE, hasName, name1, List.any_cons, List.any_nil, Md.isWr,
                pureV.pureP, Option.map, reduceIte, Nat.reduceEqDiff, Nat.reduceAdd, Nat.reduceMul, Nat.reduceLT, Nat.reduceLeDiff, List.mapM_cons, List.mapM_nil, Option.pure_def,
                Option.bind_eq_bind, Option.bind_some, implies_true, forall_const, beq_self_eq_true, decide_true, decide_false, eq_self, Int.reduceEq, Int.reduceLE, Int.reduceLT,
                if_true, if_false, fc61_0, fc61_1, fc61_2, fc61_3, fc61_4, Int.reduceAdd, Int.reduceSub, Int.reduceMul, Int.reduceNeg, Int.reducePow, Nat.reducePow, Int.reduceToNat,
                Nat.reduceSub, List.replicate, Nat.reduceBEq, wAs, wA, wC, zipW, noDupN, grpE, g_spec_l01Sqrt, g_spec_l01Inner, grpC, en0, dc_en0]
      repeat' (first
        | ((first | (refine eGI_of (fun h => ?_) (fun h => ?_)) | (refine eCc_of (fun h => ?_) (fun h => ?_))) <;> (try simp only [Bool.not_eq_true', Bool.not_eq_false'] at h) <;> (try simp only [h, reduceCtorEq, Bool.not_eq_true', decide_eq_false_iff_not, Bool.not_true, Bool.not_false, Bool.false_or, Bool.true_or, Bool.true_and, Bool.false_and, Bool.and_eq_true, Bool.or_eq_true, if_true, if_false, reduceIte, Bool.false_eq_true, and_true, true_and, false_or, or_false, decide_eq_true_eq, not_false_eq_true, not_true_eq_false] at hp) <;> (try (have h2 := h; simp only [decide_eq_true_eq, decide_eq_false_iff_not] at h2; (first | (replace h2 := eq_false h2) | (replace h2 := eq_true h2)); simp only [h2, if_true, if_false, false_or, true_or, or_true, or_false, and_true, true_and, not_false_eq_true, not_true_eq_false] at hp)) <;> simp only [h,
          hp, grpS, grpD, grpF, grpL, eop, vop, bop, uop, fltop, convop, endOk, newE, new1, freshL, Md.isNew, outV, pureV, pureX, pure1, AV.cells, AV.one, storable, laid, refless,
                refless1, vload, loadC, storeC, vnil, vfaddr, vextract, flatT, flatE, flatC, vconv, vmm, vidxA, viaddrA, vfield, vlen, elemsOf, dF32, dF64, dI64, dU8, dBool, dStr,
                esOk, elemsS, vsliceX, bnd, ownV, ownC, own1, ownT, isSl, nSl, endL, Md.isOwn, purge, purgeH, purgeB, purgeE, hasName, name1, List.any_cons, List.any_nil, Md.isWr,
                pureV.pureP, Option.map, reduceIte, Nat.reduceEqDiff, Nat.reduceAdd, Nat.reduceMul, Nat.reduceLT, Nat.reduceLeDiff, List.mapM_cons, List.mapM_nil, Option.pure_def,
                Option.bind_eq_bind, Option.bind_some, implies_true, forall_const, beq_self_eq_true, decide_true, decide_false, eq_self, Int.reduceEq, Int.reduceLE, Int.reduceLT,
                if_true, if_false, fc61_0, fc61_1, fc61_2, fc61_3, fc61_4, Int.reduceAdd, Int.reduceSub, Int.reduceMul, Int.reduceNeg, Int.reducePow, Nat.reducePow, Int.reduceToNat,
                Nat.reduceSub, List.replicate, Nat.reduceBEq, wAs, wA, wC, zipW, noDupN, grpE, g_spec_l01Sqrt, g_spec_l01Inner, grpC, en0, dc_en0]))
      all_goals (try simp only [*, m_spec_l01Long, Bool.and_true, Bool.true_and, Bool.and_false, Bool.false_and, Bool.or_true, Bool.true_or, Bool.or_false, Bool.false_or, Bool.not_true, Bool.not_false, Bool.false_eq_true, if_true, if_false, reduceIte, decide_true, decide_false])
      all_goals (try (simp_all; done))
    · cases h
  · cases h
def l_spec_BoneLengths_0 (x0 : (List (Int × Nat × Nat × Nat))) : Nat → (List Nat) → Int → Option (List Nat)
  | 0, _, _ => none
  | n + 1, z0_0, z0_1 => (if (decide (z0_1 < ((List.length x0 : Nat) : Int))) = true then (need (inB z0_1 (List.length x0)) (need (p_spec_l01Long ((atI x0 z0_1).2.1, (atI x0
        z0_1).2.2.1, (atI x0 z0_1).2.2.2)) (need (decide (((List.length z0_0) + 1) * 4 ≤ 17592186044416)) (need (decide ((List.length z0_0) + 1 ≤ 17592186044416))
        (l_spec_BoneLengths_0 x0 n (z0_0 ++ [(m_spec_l01Long ((atI x0 z0_1).2.1, (atI x0 z0_1).2.2.1, (atI x0 z0_1).2.2.2))]) (IntKind.wrap .i64 (z0_1 + 1))))))) else (some z0_0))
def m_spec_BoneLengths (x0 : (List (Int × Nat × Nat × Nat))) : ((List Nat) × Bool) := (if (m_spec_l03Is x0) = true then ((Option.getD (l_spec_BoneLengths_0 x0 (Int.toNat
      (((List.length x0 : Nat) : Int) - 0) + 2) [] 0) default), true) else ([], false))
def p_spec_BoneLengths (x0 : (List (Int × Nat × Nat × Nat))) : Bool := ((p_spec_l03Is x0) && (!(m_spec_l03Is x0) || (Option.isSome (l_spec_BoneLengths_0 x0 (Int.toNat (((List.length
      x0 : Nat) : Int) - 0) + 2) [] 0))))
def g_spec_BoneLengths : List AV → Option AV
  | [.agg [.sl w0]] => (match decL dc_en0 w0 with | some y0 => (if p_spec_BoneLengths y0 = true then some (AV.tup [(.sl (List.map (AV.flt .f32) (m_spec_BoneLengths y0).1)), (.bool (m_spec_BoneLengths y0).2)]) else none) | none => none)
  | _ => none
def lb22_0 : ICode := (.seq (.reg [⟨(some 13), none, (.bin .lss false (.t 12) (.t 11))⟩] [1, 4, 11, 12, 13]) (.seq (.cond (.t 13) .skip (.exit 0)) (.seq (.block 1 (.seq (.reg
      [⟨(some 14), none, (.mov (.t 12))⟩, ⟨(some 5), none, (.mov (.t 14))⟩] [1, 4, 5, 11, 12]) (.reg [⟨(some 15), none, (.mov (.t 4))⟩, ⟨(some 16), none, (.faddr 0 (.t 1))⟩, ⟨(some
      17), none, (.load none (.t 16))⟩, ⟨(some 18), none, (.mov (.t 5))⟩, ⟨(some 19), none, (.iaddrS 4 (.t 17) (.t 18))⟩, ⟨(some 20), none, (.faddr 1 (.t 19))⟩, ⟨(some 21), none,
      (.load (some 3) (.t 20))⟩, ⟨(some 22), none, (.call (.fn 61) [(.t 21)] [])⟩, ⟨(some 23), none, (.bslice 1 1 (.flt .f32 0) [(0, (.t 22))])⟩, ⟨(some 24), none, (.append 1 4 (.t
      15) (.t 23))⟩, ⟨(some 4), none, (.mov (.t 24))⟩] [1, 4, 11, 12]))) (.reg [⟨(some 25), none, (.bin .add false (.t 12) (.c (.int .i64 1)))⟩, ⟨(some 12), none, (.mov (.t 25))⟩]
      [1, 4, 11, 12]))))
def ic22 : ICode := (.seq (.reg [⟨(some 1), none, (.box 1 (.t 0))⟩, ⟨(some 2), none, (.mov (.c .snil))⟩, ⟨(some 3), none, (.mov (.c (.bool false)))⟩] [1]) (.seq (.seq (.reg [⟨(some
      6), none, (.call (.fn 60) [(.t 1)] [])⟩, ⟨(some 7), none, (.un .not (.t 6))⟩] [1, 7]) (.cond (.t 7) (.seq (.reg [⟨(some 2), none, (.mov (.c .snil))⟩, ⟨(some 3), none, (.mov
      (.c (.bool false)))⟩] [2, 3]) .ret) .skip)) (.seq (.reg [⟨(some 8), none, (.bslice 1 0 (.flt .f32 0) [])⟩, ⟨(some 4), none, (.mov (.t 8))⟩] [1, 4]) (.seq (.seq (.reg [⟨(some
      9), none, (.faddr 0 (.t 1))⟩, ⟨(some 10), none, (.load none (.t 9))⟩, ⟨(some 11), none, (.len false (.t 10))⟩, ⟨(some 12), none, (.mov (.c (.int .i64 0)))⟩] [1, 4, 11, 12])
      (.block 0 (.loop lb22_0))) (.seq (.reg [⟨(some 26), none, (.mov (.t 4))⟩, ⟨(some 2), none, (.mov (.t 26))⟩, ⟨(some 3), none, (.mov (.c (.bool true)))⟩] [2, 3]) .ret)))))
def cp22 : CP := CP.mk [] [] [[1], [1, 7], [2, 3], [1, 4], [1, 4, 11, 12], [1, 4, 11, 12, 13], [1, 4, 5, 11, 12], [1, 4, 11, 12], [1, 4, 11, 12], [2, 3]] 27
theorem fc22_0 : IntKind.wrap .i64 0 = 0 := by decide
theorem fc22_1 : IntKind.wrap .i64 1 = 1 := by decide
theorem fc22_2 : IntKind.wrap .i64 2 = 2 := by decide
theorem fc22_3 : IntKind.wrap .i64 3 = 3 := by decide
theorem fc22_4 : IntKind.wrap .i64 4 = 4 := by decide
theorem sl22_0 (x0 : (List (Int × Nat × Nat × Nat))) : ∀ (n : Nat) (z0_0 : (List Nat)) (z0_1 : Int) (o : (List Nat)) (K : IExit → St → Prop), l_spec_BoneLengths_0 x0 n z0_0 z0_1 =
      some o → (∀ st, Wk st (⟨[(4, (.lsl 8 0 (List.length o)))], [(8, (some ⟨1, true, (List.map (AV.flt .f32) o)⟩))]⟩ : St) → K (.exit 0) st) → eA (tabOf [(60, wM .any
      g_spec_l03Is), (61, wM .any g_spec_l01Long)]) (.loop lb22_0) (⟨[(1, (.lptr 1 0 0)), (4, (.lsl 8 0 (List.length z0_0))), (11, (.int .i64 ((List.length x0 : Nat) : Int))), (12,
      (.int .i64 z0_1))], [(1, (some ⟨1, false, [(AV.agg [(.sl (List.map en0 x0))])]⟩)), (8, (some ⟨1, true, (List.map (AV.flt .f32) z0_0)⟩))]⟩ : St) K := by
  intro n
  induction n with
  | zero =>
    intro z0_0 z0_1 o K h h0
    simp only [l_spec_BoneLengths_0, reduceCtorEq] at h
  | succ n ih =>
    intro z0_0 z0_1 o K h h0
    refine eA_loop ?_
    unfold lb22_0
    unfold l_spec_BoneLengths_0 at h
    (try simp only [need_iff] at h)
    simp only [
      need_iff, h, grpS, grpD, grpF, grpL, eop, vop, bop, uop, fltop, convop, endOk, newE, new1, freshL, Md.isNew, outV, pureV, pureX, pure1, AV.cells, AV.one, storable, laid,
            refless, refless1, vload, loadC, storeC, vnil, vfaddr, vextract, flatT, flatE, flatC, vconv, vmm, vidxA, viaddrA, vfield, vlen, elemsOf, dF32, dF64, dI64, dU8, dBool,
            dStr, esOk, elemsS, vsliceX, bnd, ownV, ownC, own1, ownT, isSl, nSl, endL, Md.isOwn, purge, purgeH, purgeB, purgeE, hasName, name1, List.any_cons, List.any_nil, Md.isWr,
            pureV.pureP, Option.map, reduceIte, Nat.reduceEqDiff, Nat.reduceAdd, Nat.reduceMul, Nat.reduceLT, Nat.reduceLeDiff, List.mapM_cons, List.mapM_nil, Option.pure_def,
            Option.bind_eq_bind, Option.bind_some, implies_true, forall_const, beq_self_eq_true, decide_true, decide_false, eq_self, Int.reduceEq, Int.reduceLE, Int.reduceLT,
            if_true, if_false, fc22_0, fc22_1, fc22_2, fc22_3, fc22_4, Int.reduceAdd, Int.reduceSub, Int.reduceMul, Int.reduceNeg, Int.reducePow, Nat.reducePow, Int.reduceToNat,
            Nat.reduceSub, List.replicate, Nat.reduceBEq, wAs, wA, wC, zipW, noDupN, grpE, g_spec_l03Is, g_spec_l01Long, grpC, en0, dc_en0]
    repeat' (first
      | ((first | (refine eGI_of (fun hc => ?_) (fun hc => ?_)) | (refine eCc_of (fun hc => ?_) (fun hc => ?_)) | (have hc := True.intro; refine KW_refl ?_)) <;> (try simp only [Bool.not_eq_true', Bool.not_eq_false'] at hc) <;> (try simp only [hc, need_iff, reduceCtorEq, Bool.not_eq_true', decide_eq_false_iff_not, Bool.not_true, Bool.not_false, Bool.false_or, Bool.true_or, Bool.true_and, Bool.false_and, Bool.and_eq_true, Bool.or_eq_true, if_true, if_false, reduceIte, Bool.false_eq_true, and_true, true_and, false_or, or_false, decide_eq_true_eq, not_false_eq_true, not_true_eq_false] at h) <;> (try (have hc2 := hc; simp only [decide_eq_true_eq, decide_eq_false_iff_not] at hc2; simp only [hc2, if_true, if_false, reduceCtorEq, Bool.not_eq_true', decide_eq_false_iff_not, Bool.not_true, Bool.not_false, Bool.false_or, Bool.true_or, Bool.true_and, Bool.false_and, Bool.and_eq_true, Bool.or_eq_true, if_true, if_false, reduceIte, Bool.false_eq_true, and_true, true_and, false_or, or_false, decide_eq_true_eq, not_false_eq_true, not_true_eq_false] at h)) <;> simp only [hc,
      need_iff, h, grpS, grpD, grpF, grpL, eop, vop, bop, uop, fltop, convop, endOk, newE, new1, freshL, Md.isNew, outV, pureV, pureX, pure1, AV.cells, AV.one, storable, laid,
            refless, refless1, vload, loadC, storeC, vnil, vfaddr, vextract, flatT, flatE, flatC, vconv, vmm, vidxA, viaddrA, vfield, vlen, elemsOf, dF32, dF64, dI64, dU8, dBool,
            dStr, esOk, elemsS, vsliceX, bnd, ownV, ownC, own1, ownT, isSl, nSl, endL, Md.isOwn, purge, purgeH, purgeB, purgeE, hasName, name1, List.any_cons, List.any_nil, Md.isWr,
            pureV.pureP, Option.map, reduceIte, Nat.reduceEqDiff, Nat.reduceAdd, Nat.reduceMul, Nat.reduceLT, Nat.reduceLeDiff, List.mapM_cons, List.mapM_nil, Option.pure_def,
            Option.bind_eq_bind, Option.bind_some, implies_true, forall_const, beq_self_eq_true, decide_true, decide_false, eq_self, Int.reduceEq, Int.reduceLE, Int.reduceLT,
            if_true, if_false, fc22_0, fc22_1, fc22_2, fc22_3, fc22_4, Int.reduceAdd, Int.reduceSub, Int.reduceMul, Int.reduceNeg, Int.reducePow, Nat.reducePow, Int.reduceToNat,
            Nat.reduceSub, List.replicate, Nat.reduceBEq, wAs, wA, wC, zipW, noDupN, grpE, g_spec_l03Is, g_spec_l01Long, grpC, en0, dc_en0]))
    all_goals (repeat (replace h := And.right h))
    all_goals first
      | (refine eA_wk (wk_norm (ks := [1, 4, 11, 12]) (ls := [1, 8]) ?_) (eA_cast ?_ (ih _ _ _ _ h h0)); (simp only [normOk, optIn, blkIn, nameIn,
      need_iff, h, grpS, grpD, grpF, grpL, eop, vop, bop, uop, fltop, convop, endOk, newE, new1, freshL, Md.isNew, outV, pureV, pureX, pure1, AV.cells, AV.one, storable, laid,
            refless, refless1, vload, loadC, storeC, vnil, vfaddr, vextract, flatT, flatE, flatC, vconv, vmm, vidxA, viaddrA, vfield, vlen, elemsOf, dF32, dF64, dI64, dU8, dBool,
            dStr, esOk, elemsS, vsliceX, bnd, ownV, ownC, own1, ownT, isSl, nSl, endL, Md.isOwn, purge, purgeH, purgeB, purgeE, hasName, name1, List.any_cons, List.any_nil, Md.isWr,
            pureV.pureP, Option.map, reduceIte, Nat.reduceEqDiff, Nat.reduceAdd, Nat.reduceMul, Nat.reduceLT, Nat.reduceLeDiff, List.mapM_cons, List.mapM_nil, Option.pure_def,
            Option.bind_eq_bind, Option.bind_some, implies_true, forall_const, beq_self_eq_true, decide_true, decide_false, eq_self, Int.reduceEq, Int.reduceLE, Int.reduceLT,
            if_true, if_false, fc22_0, fc22_1, fc22_2, fc22_3, fc22_4, Int.reduceAdd, Int.reduceSub, Int.reduceMul, Int.reduceNeg, Int.reducePow, Nat.reducePow, Int.reduceToNat,
            Nat.reduceSub, List.replicate, Nat.reduceBEq, wAs, wA, wC, zipW, noDupN, grpE, g_spec_l03Is, g_spec_l01Long, grpC, en0, dc_en0] <;> rfl); (simp only [normS, List.map_append, List.length_append, List.map_set, List.length_set, List.map_replicate, List.length_replicate, List.map_nil, List.map_cons,
      need_iff, h, grpS, grpD, grpF, grpL, eop, vop, bop, uop, fltop, convop, endOk, newE, new1, freshL, Md.isNew, outV, pureV, pureX, pure1, AV.cells, AV.one, storable, laid,
            refless, refless1, vload, loadC, storeC, vnil, vfaddr, vextract, flatT, flatE, flatC, vconv, vmm, vidxA, viaddrA, vfield, vlen, elemsOf, dF32, dF64, dI64, dU8, dBool,
            dStr, esOk, elemsS, vsliceX, bnd, ownV, ownC, own1, ownT, isSl, nSl, endL, Md.isOwn, purge, purgeH, purgeB, purgeE, hasName, name1, List.any_cons, List.any_nil, Md.isWr,
            pureV.pureP, Option.map, reduceIte, Nat.reduceEqDiff, Nat.reduceAdd, Nat.reduceMul, Nat.reduceLT, Nat.reduceLeDiff, List.mapM_cons, List.mapM_nil, Option.pure_def,
            Option.bind_eq_bind, Option.bind_some, implies_true, forall_const, beq_self_eq_true, decide_true, decide_false, eq_self, Int.reduceEq, Int.reduceLE, Int.reduceLT,
            if_true, if_false, fc22_0, fc22_1, fc22_2, fc22_3, fc22_4, Int.reduceAdd, Int.reduceSub, Int.reduceMul, Int.reduceNeg, Int.reducePow, Nat.reducePow, Int.reduceToNat,
            Nat.reduceSub, List.replicate, Nat.reduceBEq, wAs, wA, wC, zipW, noDupN, grpE, g_spec_l03Is, g_spec_l01Long, grpC, en0, dc_en0] <;> rfl))
      | (cases h; refine h0 _ (Wk.cast (wk_norm (ks := [4]) (ls := [8]) ?_) ?_); (simp only [normOk, optIn, blkIn, nameIn,
      grpS, grpD, grpF, grpL, eop, vop, bop, uop, fltop, convop, endOk, newE, new1, freshL, Md.isNew, outV, pureV, pureX, pure1, AV.cells, AV.one, storable, laid, refless, refless1,
            vload, loadC, storeC, vnil, vfaddr, vextract, flatT, flatE, flatC, vconv, vmm, vidxA, viaddrA, vfield, vlen, elemsOf, dF32, dF64, dI64, dU8, dBool, dStr, esOk, elemsS,
            vsliceX, bnd, ownV, ownC, own1, ownT, isSl, nSl, endL, Md.isOwn, purge, purgeH, purgeB, purgeE, hasName, name1, List.any_cons, List.any_nil, Md.isWr, pureV.pureP,
            Option.map, reduceIte, Nat.reduceEqDiff, Nat.reduceAdd, Nat.reduceMul, Nat.reduceLT, Nat.reduceLeDiff, List.mapM_cons, List.mapM_nil, Option.pure_def,
            Option.bind_eq_bind, Option.bind_some, implies_true, forall_const, beq_self_eq_true, decide_true, decide_false, eq_self, Int.reduceEq, Int.reduceLE, Int.reduceLT,
            if_true, if_false, fc22_0, fc22_1, fc22_2, fc22_3, fc22_4, Int.reduceAdd, Int.reduceSub, Int.reduceMul, Int.reduceNeg, Int.reducePow, Nat.reducePow, Int.reduceToNat,
            Nat.reduceSub, List.replicate, Nat.reduceBEq, wAs, wA, wC, zipW, noDupN, grpE, g_spec_l03Is, g_spec_l01Long, grpC, en0, dc_en0] <;> rfl); (simp only [normS, List.map_append, List.length_append, List.map_set, List.length_set, List.map_replicate, List.length_replicate,
      grpS, grpD, grpF, grpL, eop, vop, bop, uop, fltop, convop, endOk, newE, new1, freshL, Md.isNew, outV, pureV, pureX, pure1, AV.cells, AV.one, storable, laid, refless, refless1,
            vload, loadC, storeC, vnil, vfaddr, vextract, flatT, flatE, flatC, vconv, vmm, vidxA, viaddrA, vfield, vlen, elemsOf, dF32, dF64, dI64, dU8, dBool, dStr, esOk, elemsS,
            vsliceX, bnd, ownV, ownC, own1, ownT, isSl, nSl, endL, Md.isOwn, purge, purgeH, purgeB, purgeE, hasName, name1, List.any_cons, List.any_nil, Md.isWr, pureV.pureP,
            Option.map, reduceIte, Nat.reduceEqDiff, Nat.reduceAdd, Nat.reduceMul, Nat.reduceLT, Nat.reduceLeDiff, List.mapM_cons, List.mapM_nil, Option.pure_def,
            Option.bind_eq_bind, Option.bind_some, implies_true, forall_const, beq_self_eq_true, decide_true, decide_false, eq_self, Int.reduceEq, Int.reduceLE, Int.reduceLT,
            if_true, if_false, fc22_0, fc22_1, fc22_2, fc22_3, fc22_4, Int.reduceAdd, Int.reduceSub, Int.reduceMul, Int.reduceNeg, Int.reducePow, Nat.reducePow, Int.reduceToNat,
            Nat.reduceSub, List.replicate, Nat.reduceBEq, wAs, wA, wC, zipW, noDupN, grpE, g_spec_l03Is, g_spec_l01Long, grpC, en0, dc_en0] <;> rfl))
theorem s22 : ∀ vs r, g_spec_BoneLengths vs = some r → SaysM Try.prog (.own [1]) 22 vs r := by
  intro vs r h
  unfold g_spec_BoneLengths at h
  split at h
  · rename_i w0
    cases hd_y0 : decL dc_en0 w0 with
    | none => rw [hd_y0] at h; cases h
    | some y0 =>
    rw [hd_y0] at h
    obtain rfl := decL_inv dc_en0_inv hd_y0
    clear hd_y0
    dsimp only at h
    split at h
    · rename_i hp
      cases h
      refine spec_of (m := (.own [1])) (tab := tabOf [(60, wM .any g_spec_l03Is), (61, wM .any g_spec_l01Long)]) (cp := cp22) (ic := ic22) (rvl := [(.t 2), (.t 3)]) hm (tabOk_cons (m := .any) s60 (tabOk_cons (m := .any) s61 tabOk_nil)) Try.func22 rfl rfl rfl (by kernel_rfl) rfl (Nat.le_of_ble_eq_true rfl) (Nat.le_of_ble_eq_true rfl) ?_
      show eA _ _ _ _
      unfold ic22
      simp only [p_spec_BoneLengths, Bool.and_eq_true, Bool.or_eq_true, decide_eq_true_eq, Bool.not_eq_true', decide_eq_false_iff_not] at hp
      simp only [
          hp, grpS, grpD, grpF, grpL, eop, vop, bop, uop, fltop, convop, endOk, newE, new1, freshL, Md.isNew, outV, pureV, pureX, pure1, AV.cells, AV.one, storable, laid, refless,
                refless1, vload, loadC, storeC, vnil, vfaddr, vextract, flatT, flatE, flatC, vconv, vmm, vidxA, viaddrA, vfield, vlen, elemsOf, dF32, dF64, dI64, dU8, dBool, dStr,
                esOk, elemsS, vsliceX, bnd, ownV, ownC, own1, ownT, isSl, nSl, endL, Md.isOwn, purge, purgeH, purgeB, purgeE, hasName, name1, List.any_cons, List.any_nil, Md.isWr,
                pureV.pureP, Option.map, reduceIte, Nat.reduceEqDiff, Nat.reduceAdd, Nat.reduceMul, Nat.reduceLT, Nat.reduceLeDiff, List.mapM_cons, List.mapM_nil, Option.pure_def,
                Option.bind_eq_bind, Option.bind_some, implies_true, forall_const, beq_self_eq_true, decide_true, decide_false, eq_self, Int.reduceEq, Int.reduceLE, Int.reduceLT,
                if_true, if_false, fc22_0, fc22_1, fc22_2, fc22_3, fc22_4, Int.reduceAdd, Int.reduceSub, Int.reduceMul, Int.reduceNeg, Int.reducePow, Nat.reducePow, Int.reduceToNat,
                Nat.reduceSub, List.replicate, Nat.reduceBEq, wAs, wA, wC, zipW, noDupN, grpE, g_spec_l03Is, g_spec_l01Long, grpC, en0, dc_en0]
      repeat' (first
        | ((first | (refine eGI_of (fun h => ?_) (fun h => ?_)) | (refine eCc_of (fun h => ?_) (fun h => ?_)) | (have h := True.intro; refine KW_refl ?_)) <;> (try simp only [Bool.not_eq_true', Bool.not_eq_false'] at h) <;> (try simp only [h, reduceCtorEq, Bool.not_eq_true', decide_eq_false_iff_not, Bool.not_true, Bool.not_false, Bool.false_or, Bool.true_or, Bool.true_and, Bool.false_and, Bool.and_eq_true, Bool.or_eq_true, if_true, if_false, reduceIte, Bool.false_eq_true, and_true, true_and, false_or, or_false, decide_eq_true_eq, not_false_eq_true, not_true_eq_false] at hp) <;> (try (have h2 := h; simp only [decide_eq_true_eq, decide_eq_false_iff_not] at h2; (first | (replace h2 := eq_false h2) | (replace h2 := eq_true h2)); simp only [h2, if_true, if_false, false_or, true_or, or_true, or_false, and_true, true_and, not_false_eq_true, not_true_eq_false] at hp)) <;> simp only [h,
          hp, grpS, grpD, grpF, grpL, eop, vop, bop, uop, fltop, convop, endOk, newE, new1, freshL, Md.isNew, outV, pureV, pureX, pure1, AV.cells, AV.one, storable, laid, refless,
                refless1, vload, loadC, storeC, vnil, vfaddr, vextract, flatT, flatE, flatC, vconv, vmm, vidxA, viaddrA, vfield, vlen, elemsOf, dF32, dF64, dI64, dU8, dBool, dStr,
                esOk, elemsS, vsliceX, bnd, ownV, ownC, own1, ownT, isSl, nSl, endL, Md.isOwn, purge, purgeH, purgeB, purgeE, hasName, name1, List.any_cons, List.any_nil, Md.isWr,
                pureV.pureP, Option.map, reduceIte, Nat.reduceEqDiff, Nat.reduceAdd, Nat.reduceMul, Nat.reduceLT, Nat.reduceLeDiff, List.mapM_cons, List.mapM_nil, Option.pure_def,
                Option.bind_eq_bind, Option.bind_some, implies_true, forall_const, beq_self_eq_true, decide_true, decide_false, eq_self, Int.reduceEq, Int.reduceLE, Int.reduceLT,
                if_true, if_false, fc22_0, fc22_1, fc22_2, fc22_3, fc22_4, Int.reduceAdd, Int.reduceSub, Int.reduceMul, Int.reduceNeg, Int.reducePow, Nat.reducePow, Int.reduceToNat,
                Nat.reduceSub, List.replicate, Nat.reduceBEq, wAs, wA, wC, zipW, noDupN, grpE, g_spec_l03Is, g_spec_l01Long, grpC, en0, dc_en0])
        | (refine eA_wk (wk_norm (ks := [1, 4, 11, 12]) (ls := [1, 8]) ?_) (eA_cast ?_ (sl22_0 y0 _ _ _ _ _ (getD_some (d := default) (x := (l_spec_BoneLengths_0 y0 (Int.toNat (((List.length y0 : Nat) : Int) - 0) + 2) [] 0)) ?_) ?_)); (simp only [nilS, nilV, normOk, optIn, blkIn, nameIn, 
          hp, grpS, grpD, grpF, grpL, eop, vop, bop, uop, fltop, convop, endOk, newE, new1, freshL, Md.isNew, outV, pureV, pureX, pure1, AV.cells, AV.one, storable, laid, refless,
                refless1, vload, loadC, storeC, vnil, vfaddr, vextract, flatT, flatE, flatC, vconv, vmm, vidxA, viaddrA, vfield, vlen, elemsOf, dF32, dF64, dI64, dU8, dBool, dStr,
                esOk, elemsS, vsliceX, bnd, ownV, ownC, own1, ownT, isSl, nSl, endL, Md.isOwn, purge, purgeH, purgeB, purgeE, hasName, name1, List.any_cons, List.any_nil, Md.isWr,
                pureV.pureP, Option.map, reduceIte, Nat.reduceEqDiff, Nat.reduceAdd, Nat.reduceMul, Nat.reduceLT, Nat.reduceLeDiff, List.mapM_cons, List.mapM_nil, Option.pure_def,
                Option.bind_eq_bind, Option.bind_some, implies_true, forall_const, beq_self_eq_true, decide_true, decide_false, eq_self, Int.reduceEq, Int.reduceLE, Int.reduceLT,
                if_true, if_false, fc22_0, fc22_1, fc22_2, fc22_3, fc22_4, Int.reduceAdd, Int.reduceSub, Int.reduceMul, Int.reduceNeg, Int.reducePow, Nat.reducePow, Int.reduceToNat,
                Nat.reduceSub, List.replicate, Nat.reduceBEq, wAs, wA, wC, zipW, noDupN, grpE, g_spec_l03Is, g_spec_l01Long, grpC, en0, dc_en0] <;> rfl); (simp only [nilS, nilV, normS,  List.map_append, List.length_append, List.map_set, List.length_set, List.map_replicate, List.length_replicate, List.map_nil, List.map_cons,
          hp, grpS, grpD, grpF, grpL, eop, vop, bop, uop, fltop, convop, endOk, newE, new1, freshL, Md.isNew, outV, pureV, pureX, pure1, AV.cells, AV.one, storable, laid, refless,
                refless1, vload, loadC, storeC, vnil, vfaddr, vextract, flatT, flatE, flatC, vconv, vmm, vidxA, viaddrA, vfield, vlen, elemsOf, dF32, dF64, dI64, dU8, dBool, dStr,
                esOk, elemsS, vsliceX, bnd, ownV, ownC, own1, ownT, isSl, nSl, endL, Md.isOwn, purge, purgeH, purgeB, purgeE, hasName, name1, List.any_cons, List.any_nil, Md.isWr,
                pureV.pureP, Option.map, reduceIte, Nat.reduceEqDiff, Nat.reduceAdd, Nat.reduceMul, Nat.reduceLT, Nat.reduceLeDiff, List.mapM_cons, List.mapM_nil, Option.pure_def,
                Option.bind_eq_bind, Option.bind_some, implies_true, forall_const, beq_self_eq_true, decide_true, decide_false, eq_self, Int.reduceEq, Int.reduceLE, Int.reduceLT,
                if_true, if_false, fc22_0, fc22_1, fc22_2, fc22_3, fc22_4, Int.reduceAdd, Int.reduceSub, Int.reduceMul, Int.reduceNeg, Int.reducePow, Nat.reducePow, Int.reduceToNat,
                Nat.reduceSub, List.replicate, Nat.reduceBEq, wAs, wA, wC, zipW, noDupN, grpE, g_spec_l03Is, g_spec_l01Long, grpC, en0, dc_en0] <;> rfl); (simp only [hp]); (
        intro st2 hw; (try simp only [reduceCtorEq, Bool.not_eq_true', decide_eq_false_iff_not, Bool.not_true, Bool.not_false, Bool.false_or, Bool.true_or, Bool.true_and, Bool.false_and, Bool.and_eq_true, Bool.or_eq_true, if_true, if_false, reduceIte, Bool.false_eq_true, and_true, true_and, false_or, or_false, decide_eq_true_eq, not_false_eq_true, not_true_eq_false] at hp); simp only [
          hp, grpS, grpD, grpF, grpL, eop, vop, bop, uop, fltop, convop, endOk, newE, new1, freshL, Md.isNew, outV, pureV, pureX, pure1, AV.cells, AV.one, storable, laid, refless,
                refless1, vload, loadC, storeC, vnil, vfaddr, vextract, flatT, flatE, flatC, vconv, vmm, vidxA, viaddrA, vfield, vlen, elemsOf, dF32, dF64, dI64, dU8, dBool, dStr,
                esOk, elemsS, vsliceX, bnd, ownV, ownC, own1, ownT, isSl, nSl, endL, Md.isOwn, purge, purgeH, purgeB, purgeE, hasName, name1, List.any_cons, List.any_nil, Md.isWr,
                pureV.pureP, Option.map, reduceIte, Nat.reduceEqDiff, Nat.reduceAdd, Nat.reduceMul, Nat.reduceLT, Nat.reduceLeDiff, List.mapM_cons, List.mapM_nil, Option.pure_def,
                Option.bind_eq_bind, Option.bind_some, implies_true, forall_const, beq_self_eq_true, decide_true, decide_false, eq_self, Int.reduceEq, Int.reduceLE, Int.reduceLT,
                if_true, if_false, fc22_0, fc22_1, fc22_2, fc22_3, fc22_4, Int.reduceAdd, Int.reduceSub, Int.reduceMul, Int.reduceNeg, Int.reducePow, Nat.reducePow, Int.reduceToNat,
                Nat.reduceSub, List.replicate, Nat.reduceBEq, wAs, wA, wC, zipW, noDupN, grpE, g_spec_l03Is, g_spec_l01Long, grpC, en0, dc_en0]; refine KW_of hw ?_; simp only [
          hp, grpS, grpD, grpF, grpL, eop, vop, bop, uop, fltop, convop, endOk, newE, new1, freshL, Md.isNew, outV, pureV, pureX, pure1, AV.cells, AV.one, storable, laid, refless,
                refless1, vload, loadC, storeC, vnil, vfaddr, vextract, flatT, flatE, flatC, vconv, vmm, vidxA, viaddrA, vfield, vlen, elemsOf, dF32, dF64, dI64, dU8, dBool, dStr,
                esOk, elemsS, vsliceX, bnd, ownV, ownC, own1, ownT, isSl, nSl, endL, Md.isOwn, purge, purgeH, purgeB, purgeE, hasName, name1, List.any_cons, List.any_nil, Md.isWr,
                pureV.pureP, Option.map, reduceIte, Nat.reduceEqDiff, Nat.reduceAdd, Nat.reduceMul, Nat.reduceLT, Nat.reduceLeDiff, List.mapM_cons, List.mapM_nil, Option.pure_def,
                Option.bind_eq_bind, Option.bind_some, implies_true, forall_const, beq_self_eq_true, decide_true, decide_false, eq_self, Int.reduceEq, Int.reduceLE, Int.reduceLT,
                if_true, if_false, fc22_0, fc22_1, fc22_2, fc22_3, fc22_4, Int.reduceAdd, Int.reduceSub, Int.reduceMul, Int.reduceNeg, Int.reducePow, Nat.reducePow, Int.reduceToNat,
                Nat.reduceSub, List.replicate, Nat.reduceBEq, wAs, wA, wC, zipW, noDupN, grpE, g_spec_l03Is, g_spec_l01Long, grpC, en0, dc_en0])))
      all_goals (try simp only [*, m_spec_BoneLengths, Bool.and_true, Bool.true_and, Bool.and_false, Bool.false_and, Bool.or_true, Bool.true_or, Bool.or_false, Bool.false_or, Bool.not_true, Bool.not_false, Bool.false_eq_true, if_true, if_false, reduceIte, decide_true, decide_false])
      all_goals (try (simp_all; done))
    · cases h
  · cases h
def l_impl_ValidSkeleton_0 (x0 : (List (Int × Nat × Nat × Nat))) : Nat → Int → Option (Bool × Bool × Unit)
  | 0, _ => none
  | n + 1, z0_0 => (if (decide (z0_0 < ((List.length (List.drop 1 x0) : Nat) : Int))) = true then (need (inB z0_0 (List.length (List.drop 1 x0))) (if (decide ((atI (List.drop 1 x0)
        z0_0).1 < 0)) = true then (some (true, false, default)) else (if (decide (z0_0 < (atI (List.drop 1 x0) z0_0).1)) = true then (some (true, false, default)) else
        (l_impl_ValidSkeleton_0 x0 n (IntKind.wrap .i64 (z0_0 + 1)))))) else (some (false, default, ())))
def m_impl_ValidSkeleton (x0 : (List (Int × Nat × Nat × Nat))) : Bool := (if (decide (((List.length x0 : Nat) : Int) < 1)) = true then false else (if (decide (12 < ((List.length x0
      : Nat) : Int))) = true then false else (if (decide ((atI x0 0).1 = (-1))) = true then (if (Option.getD (l_impl_ValidSkeleton_0 x0 (Int.toNat (((List.length (List.drop 1 x0) :
      Nat) : Int) - 0) + 2) 0) default).1 = true then (Option.getD (l_impl_ValidSkeleton_0 x0 (Int.toNat (((List.length (List.drop 1 x0) : Nat) : Int) - 0) + 2) 0) default).2.1 else
      true) else false)))
def p_impl_ValidSkeleton (x0 : (List (Int × Nat × Nat × Nat))) : Bool := ((decide (((List.length x0 : Nat) : Int) < 1)) || ((decide (12 < ((List.length x0 : Nat) : Int))) || ((inB 0
      (List.length x0)) && (!(decide ((atI x0 0).1 = (-1))) || ((decide ((1 : Nat) ≤ (List.length x0))) && (Option.isSome (l_impl_ValidSkeleton_0 x0 (Int.toNat (((List.length
      (List.drop 1 x0) : Nat) : Int) - 0) + 2) 0)))))))
def g_impl_ValidSkeleton : List AV → Option AV
  | [.agg [.sl w0]] => (match decL dc_en0 w0 with | some y0 => (if p_impl_ValidSkeleton y0 = true then some (.bool (m_impl_ValidSkeleton y0)) else none) | none => none)
  | _ => none
def lb63_0 : ICode := (.seq (.reg [⟨(some 28), none, (.bin .lss false (.t 27) (.t 26))⟩] [25, 26, 27, 28]) (.seq (.cond (.t 28) .skip (.exit 0)) (.seq (.block 1 (.seq (.reg [⟨(some
      29), none, (.mov (.t 27))⟩, ⟨(some 30), none, (.iaddrS 4 (.t 25) (.t 27))⟩, ⟨(some 31), none, (.load (some 4) (.t 30))⟩, ⟨(some 4), none, (.alloc (.agg [(.int .i64 0), (.flt
      .f32 0), (.flt .f32 0), (.flt .f32 0)]))⟩, ⟨(some 3), none, (.mov (.t 29))⟩, ⟨none, none, (.store 4 (.t 4) (.t 31))⟩] [3, 4, 25, 26, 27]) (.seq (.reg [⟨(some 32), none,
      (.faddr 0 (.t 4))⟩, ⟨(some 33), none, (.load none (.t 32))⟩, ⟨(some 34), none, (.bin .lss false (.t 33) (.c (.int .i64 0)))⟩, ⟨(some 35), none, (.mov (.t 34))⟩, ⟨(some 36),
      (some (35, false)), (.faddr 0 (.t 4))⟩, ⟨(some 37), (some (35, false)), (.load none (.t 36))⟩, ⟨(some 38), (some (35, false)), (.mov (.t 3))⟩, ⟨(some 39), (some (35, false)),
      (.bin .gtr false (.t 37) (.t 38))⟩, ⟨(some 40), none, (.pick (.t 35) (.c (.bool true)) (.t 39))⟩] [25, 26, 27, 40]) (.cond (.t 40) (.seq (.reg [⟨(some 2), none, (.mov (.c
      (.bool false)))⟩] [2]) .ret) .skip)))) (.reg [⟨(some 41), none, (.bin .add false (.t 27) (.c (.int .i64 1)))⟩, ⟨(some 27), none, (.mov (.t 41))⟩] [25, 26, 27]))))
def ic63 : ICode := (.seq (.reg [⟨(some 1), none, (.box 1 (.t 0))⟩, ⟨(some 2), none, (.mov (.c (.bool false)))⟩] [1]) (.seq (.seq (.reg [⟨(some 5), none, (.faddr 0 (.t 1))⟩, ⟨(some
      6), none, (.load none (.t 5))⟩, ⟨(some 7), none, (.len false (.t 6))⟩, ⟨(some 8), none, (.bin .lss false (.t 7) (.c (.int .i64 1)))⟩, ⟨(some 9), none, (.mov (.t 8))⟩, ⟨(some
      10), (some (9, false)), (.faddr 0 (.t 1))⟩, ⟨(some 11), (some (9, false)), (.load none (.t 10))⟩, ⟨(some 12), (some (9, false)), (.len false (.t 11))⟩, ⟨(some 13), (some (9,
      false)), (.bin .gtr false (.t 12) (.c (.int .i64 12)))⟩, ⟨(some 14), none, (.pick (.t 9) (.c (.bool true)) (.t 13))⟩, ⟨(some 15), none, (.mov (.t 14))⟩, ⟨(some 16), (some (15,
      false)), (.faddr 0 (.t 1))⟩, ⟨(some 17), (some (15, false)), (.load none (.t 16))⟩, ⟨(some 18), (some (15, false)), (.iaddrS 4 (.t 17) (.c (.int .i64 0)))⟩, ⟨(some 19), (some
      (15, false)), (.faddr 0 (.t 18))⟩, ⟨(some 20), (some (15, false)), (.load none (.t 19))⟩, ⟨(some 21), (some (15, false)), (.bin .neq false (.t 20) (.c (.int .i64 (-1))))⟩,
      ⟨(some 22), none, (.pick (.t 15) (.c (.bool true)) (.t 21))⟩] [1, 22]) (.cond (.t 22) (.seq (.reg [⟨(some 2), none, (.mov (.c (.bool false)))⟩] [2]) .ret) .skip)) (.seq (.seq
      (.reg [⟨(some 23), none, (.faddr 0 (.t 1))⟩, ⟨(some 24), none, (.load none (.t 23))⟩, ⟨(some 25), none, (.sliceX 4 (.t 24) (some (.c (.int .i64 1))) none)⟩, ⟨(some 26), none,
      (.len false (.t 25))⟩, ⟨(some 27), none, (.mov (.c (.int .i64 0)))⟩] [25, 26, 27]) (.block 0 (.loop lb63_0))) (.seq (.reg [⟨(some 2), none, (.mov (.c (.bool true)))⟩] [2])
      .ret))))
def cp63 : CP := CP.mk [] [] [[1], [1, 22], [2], [25, 26, 27], [25, 26, 27, 28], [3, 4, 25, 26, 27], [25, 26, 27, 40], [2], [25, 26, 27], [2]] 42
theorem fc63_0 : IntKind.wrap .i64 0 = 0 := by decide
theorem fc63_1 : IntKind.wrap .i64 1 = 1 := by decide
theorem fc63_2 : IntKind.wrap .i64 2 = 2 := by decide
theorem fc63_3 : IntKind.wrap .i64 3 = 3 := by decide
theorem fc63_4 : IntKind.wrap .i64 4 = 4 := by decide
theorem sl63_0 (x0 : (List (Int × Nat × Nat × Nat))) : ∀ (n : Nat) (z0_0 : Int) (o : (Bool × Bool × Unit)) (K : IExit → St → Prop), l_impl_ValidSkeleton_0 x0 n z0_0 = some o → (∀
      st, o.1 = true → outM .any st [(.t 2)] = some (.bool o.2.1) → K .ret st) → (∀ st, o.1 = false → Wk st (⟨[], []⟩ : St) → K (.exit 0) st) → eA (tabOf []) (.loop lb63_0) (⟨[(25,
      (.sl (List.map en0 (List.drop 1 x0)))), (26, (.int .i64 ((List.length (List.drop 1 x0) : Nat) : Int))), (27, (.int .i64 z0_0))], []⟩ : St) K := by
  intro n
  induction n with
  | zero =>
    intro z0_0 o K h h0 h1
    simp only [l_impl_ValidSkeleton_0, reduceCtorEq] at h
  | succ n ih =>
    intro z0_0 o K h h0 h1
    refine eA_loop ?_
    unfold lb63_0
    unfold l_impl_ValidSkeleton_0 at h
    (try simp only [need_iff] at h)
    simp only [
      need_iff, h, grpS, grpD, grpF, grpL, eop, vop, bop, uop, fltop, convop, endOk, newE, new1, freshL, Md.isNew, outV, pureV, pureX, pure1, AV.cells, AV.one, storable, laid,
            refless, refless1, vload, loadC, storeC, vnil, vfaddr, vextract, flatT, flatE, flatC, vconv, vmm, vidxA, viaddrA, vfield, vlen, elemsOf, dF32, dF64, dI64, dU8, dBool,
            dStr, esOk, elemsS, vsliceX, bnd, ownV, ownC, own1, ownT, isSl, nSl, endL, Md.isOwn, purge, purgeH, purgeB, purgeE, hasName, name1, List.any_cons, List.any_nil, Md.isWr,
            pureV.pureP, Option.map, reduceIte, Nat.reduceEqDiff, Nat.reduceAdd, Nat.reduceMul, Nat.reduceLT, Nat.reduceLeDiff, List.mapM_cons, List.mapM_nil, Option.pure_def,
            Option.bind_eq_bind, Option.bind_some, implies_true, forall_const, beq_self_eq_true, decide_true, decide_false, eq_self, Int.reduceEq, Int.reduceLE, Int.reduceLT,
            if_true, if_false, fc63_0, fc63_1, fc63_2, fc63_3, fc63_4, Int.reduceAdd, Int.reduceSub, Int.reduceMul, Int.reduceNeg, Int.reducePow, Nat.reducePow, Int.reduceToNat,
            Nat.reduceSub, List.replicate, Nat.reduceBEq, wAs, wA, wC, zipW, noDupN, grpE, grpC, en0, dc_en0, ↓b_pick, ePk_true, ePk_false]
    repeat' (first
      | ((first | (refine eGI_of (fun hc => ?_) (fun hc => ?_)) | (refine eCc_of (fun hc => ?_) (fun hc => ?_)) | (refine ePk_of (fun hc => ?_) (fun hc => ?_)) | (have hc := True.intro; refine KW_refl ?_)) <;> (try simp only [Bool.not_eq_true', Bool.not_eq_false'] at hc) <;> (try simp only [hc, need_iff, reduceCtorEq, Bool.not_eq_true', decide_eq_false_iff_not, Bool.not_true, Bool.not_false, Bool.false_or, Bool.true_or, Bool.true_and, Bool.false_and, Bool.and_eq_true, Bool.or_eq_true, if_true, if_false, reduceIte, Bool.false_eq_true, and_true, true_and, false_or, or_false, decide_eq_true_eq, not_false_eq_true, not_true_eq_false] at h) <;> (try (have hc2 := hc; simp only [decide_eq_true_eq, decide_eq_false_iff_not] at hc2; simp only [hc2, if_true, if_false, reduceCtorEq, Bool.not_eq_true', decide_eq_false_iff_not, Bool.not_true, Bool.not_false, Bool.false_or, Bool.true_or, Bool.true_and, Bool.false_and, Bool.and_eq_true, Bool.or_eq_true, if_true, if_false, reduceIte, Bool.false_eq_true, and_true, true_and, false_or, or_false, decide_eq_true_eq, not_false_eq_true, not_true_eq_false] at h)) <;> simp only [hc,
      need_iff, h, grpS, grpD, grpF, grpL, eop, vop, bop, uop, fltop, convop, endOk, newE, new1, freshL, Md.isNew, outV, pureV, pureX, pure1, AV.cells, AV.one, storable, laid,
            refless, refless1, vload, loadC, storeC, vnil, vfaddr, vextract, flatT, flatE, flatC, vconv, vmm, vidxA, viaddrA, vfield, vlen, elemsOf, dF32, dF64, dI64, dU8, dBool,
            dStr, esOk, elemsS, vsliceX, bnd, ownV, ownC, own1, ownT, isSl, nSl, endL, Md.isOwn, purge, purgeH, purgeB, purgeE, hasName, name1, List.any_cons, List.any_nil, Md.isWr,
            pureV.pureP, Option.map, reduceIte, Nat.reduceEqDiff, Nat.reduceAdd, Nat.reduceMul, Nat.reduceLT, Nat.reduceLeDiff, List.mapM_cons, List.mapM_nil, Option.pure_def,
            Option.bind_eq_bind, Option.bind_some, implies_true, forall_const, beq_self_eq_true, decide_true, decide_false, eq_self, Int.reduceEq, Int.reduceLE, Int.reduceLT,
            if_true, if_false, fc63_0, fc63_1, fc63_2, fc63_3, fc63_4, Int.reduceAdd, Int.reduceSub, Int.reduceMul, Int.reduceNeg, Int.reducePow, Nat.reducePow, Int.reduceToNat,
            Nat.reduceSub, List.replicate, Nat.reduceBEq, wAs, wA, wC, zipW, noDupN, grpE, grpC, en0, dc_en0, ↓b_pick, ePk_true, ePk_false]))
    all_goals (repeat (replace h := And.right h))
    all_goals first
      | (refine eA_wk (wk_norm (ks := [25, 26, 27]) (ls := []) ?_) (eA_cast ?_ (ih _ _ _ h h0 h1)); (simp only [normOk, optIn, blkIn, nameIn,
      need_iff, h, grpS, grpD, grpF, grpL, eop, vop, bop, uop, fltop, convop, endOk, newE, new1, freshL, Md.isNew, outV, pureV, pureX, pure1, AV.cells, AV.one, storable, laid,
            refless, refless1, vload, loadC, storeC, vnil, vfaddr, vextract, flatT, flatE, flatC, vconv, vmm, vidxA, viaddrA, vfield, vlen, elemsOf, dF32, dF64, dI64, dU8, dBool,
            dStr, esOk, elemsS, vsliceX, bnd, ownV, ownC, own1, ownT, isSl, nSl, endL, Md.isOwn, purge, purgeH, purgeB, purgeE, hasName, name1, List.any_cons, List.any_nil, Md.isWr,
            pureV.pureP, Option.map, reduceIte, Nat.reduceEqDiff, Nat.reduceAdd, Nat.reduceMul, Nat.reduceLT, Nat.reduceLeDiff, List.mapM_cons, List.mapM_nil, Option.pure_def,
            Option.bind_eq_bind, Option.bind_some, implies_true, forall_const, beq_self_eq_true, decide_true, decide_false, eq_self, Int.reduceEq, Int.reduceLE, Int.reduceLT,
            if_true, if_false, fc63_0, fc63_1, fc63_2, fc63_3, fc63_4, Int.reduceAdd, Int.reduceSub, Int.reduceMul, Int.reduceNeg, Int.reducePow, Nat.reducePow, Int.reduceToNat,
            Nat.reduceSub, List.replicate, Nat.reduceBEq, wAs, wA, wC, zipW, noDupN, grpE, grpC, en0, dc_en0, ↓b_pick, ePk_true, ePk_false] <;> rfl); (simp only [normS, List.map_append, List.length_append, List.map_set, List.length_set, List.map_replicate, List.length_replicate, List.map_nil, List.map_cons,
      need_iff, h, grpS, grpD, grpF, grpL, eop, vop, bop, uop, fltop, convop, endOk, newE, new1, freshL, Md.isNew, outV, pureV, pureX, pure1, AV.cells, AV.one, storable, laid,
            refless, refless1, vload, loadC, storeC, vnil, vfaddr, vextract, flatT, flatE, flatC, vconv, vmm, vidxA, viaddrA, vfield, vlen, elemsOf, dF32, dF64, dI64, dU8, dBool,
            dStr, esOk, elemsS, vsliceX, bnd, ownV, ownC, own1, ownT, isSl, nSl, endL, Md.isOwn, purge, purgeH, purgeB, purgeE, hasName, name1, List.any_cons, List.any_nil, Md.isWr,
            pureV.pureP, Option.map, reduceIte, Nat.reduceEqDiff, Nat.reduceAdd, Nat.reduceMul, Nat.reduceLT, Nat.reduceLeDiff, List.mapM_cons, List.mapM_nil, Option.pure_def,
            Option.bind_eq_bind, Option.bind_some, implies_true, forall_const, beq_self_eq_true, decide_true, decide_false, eq_self, Int.reduceEq, Int.reduceLE, Int.reduceLT,
            if_true, if_false, fc63_0, fc63_1, fc63_2, fc63_3, fc63_4, Int.reduceAdd, Int.reduceSub, Int.reduceMul, Int.reduceNeg, Int.reducePow, Nat.reducePow, Int.reduceToNat,
            Nat.reduceSub, List.replicate, Nat.reduceBEq, wAs, wA, wC, zipW, noDupN, grpE, grpC, en0, dc_en0, ↓b_pick, ePk_true, ePk_false] <;> rfl))
      | (cases h; refine h0 _ rfl ?_; simp only [
      grpS, grpD, grpF, grpL, eop, vop, bop, uop, fltop, convop, endOk, newE, new1, freshL, Md.isNew, outV, pureV, pureX, pure1, AV.cells, AV.one, storable, laid, refless, refless1,
            vload, loadC, storeC, vnil, vfaddr, vextract, flatT, flatE, flatC, vconv, vmm, vidxA, viaddrA, vfield, vlen, elemsOf, dF32, dF64, dI64, dU8, dBool, dStr, esOk, elemsS,
            vsliceX, bnd, ownV, ownC, own1, ownT, isSl, nSl, endL, Md.isOwn, purge, purgeH, purgeB, purgeE, hasName, name1, List.any_cons, List.any_nil, Md.isWr, pureV.pureP,
            Option.map, reduceIte, Nat.reduceEqDiff, Nat.reduceAdd, Nat.reduceMul, Nat.reduceLT, Nat.reduceLeDiff, List.mapM_cons, List.mapM_nil, Option.pure_def,
            Option.bind_eq_bind, Option.bind_some, implies_true, forall_const, beq_self_eq_true, decide_true, decide_false, eq_self, Int.reduceEq, Int.reduceLE, Int.reduceLT,
            if_true, if_false, fc63_0, fc63_1, fc63_2, fc63_3, fc63_4, Int.reduceAdd, Int.reduceSub, Int.reduceMul, Int.reduceNeg, Int.reducePow, Nat.reducePow, Int.reduceToNat,
            Nat.reduceSub, List.replicate, Nat.reduceBEq, wAs, wA, wC, zipW, noDupN, grpE, grpC, en0, dc_en0, ↓b_pick, ePk_true, ePk_false])
      | (cases h; refine h1 _ rfl (Wk.cast (wk_norm (ks := []) (ls := []) ?_) ?_); (simp only [normOk, optIn, blkIn, nameIn,
      grpS, grpD, grpF, grpL, eop, vop, bop, uop, fltop, convop, endOk, newE, new1, freshL, Md.isNew, outV, pureV, pureX, pure1, AV.cells, AV.one, storable, laid, refless, refless1,
            vload, loadC, storeC, vnil, vfaddr, vextract, flatT, flatE, flatC, vconv, vmm, vidxA, viaddrA, vfield, vlen, elemsOf, dF32, dF64, dI64, dU8, dBool, dStr, esOk, elemsS,
            vsliceX, bnd, ownV, ownC, own1, ownT, isSl, nSl, endL, Md.isOwn, purge, purgeH, purgeB, purgeE, hasName, name1, List.any_cons, List.any_nil, Md.isWr, pureV.pureP,
            Option.map, reduceIte, Nat.reduceEqDiff, Nat.reduceAdd, Nat.reduceMul, Nat.reduceLT, Nat.reduceLeDiff, List.mapM_cons, List.mapM_nil, Option.pure_def,
            Option.bind_eq_bind, Option.bind_some, implies_true, forall_const, beq_self_eq_true, decide_true, decide_false, eq_self, Int.reduceEq, Int.reduceLE, Int.reduceLT,
            if_true, if_false, fc63_0, fc63_1, fc63_2, fc63_3, fc63_4, Int.reduceAdd, Int.reduceSub, Int.reduceMul, Int.reduceNeg, Int.reducePow, Nat.reducePow, Int.reduceToNat,
            Nat.reduceSub, List.replicate, Nat.reduceBEq, wAs, wA, wC, zipW, noDupN, grpE, grpC, en0, dc_en0, ↓b_pick, ePk_true, ePk_false] <;> rfl); (simp only [normS, List.map_append, List.length_append, List.map_set, List.length_set, List.map_replicate, List.length_replicate,
      grpS, grpD, grpF, grpL, eop, vop, bop, uop, fltop, convop, endOk, newE, new1, freshL, Md.isNew, outV, pureV, pureX, pure1, AV.cells, AV.one, storable, laid, refless, refless1,
            vload, loadC, storeC, vnil, vfaddr, vextract, flatT, flatE, flatC, vconv, vmm, vidxA, viaddrA, vfield, vlen, elemsOf, dF32, dF64, dI64, dU8, dBool, dStr, esOk, elemsS,
            vsliceX, bnd, ownV, ownC, own1, ownT, isSl, nSl, endL, Md.isOwn, purge, purgeH, purgeB, purgeE, hasName, name1, List.any_cons, List.any_nil, Md.isWr, pureV.pureP,
            Option.map, reduceIte, Nat.reduceEqDiff, Nat.reduceAdd, Nat.reduceMul, Nat.reduceLT, Nat.reduceLeDiff, List.mapM_cons, List.mapM_nil, Option.pure_def,
            Option.bind_eq_bind, Option.bind_some, implies_true, forall_const, beq_self_eq_true, decide_true, decide_false, eq_self, Int.reduceEq, Int.reduceLE, Int.reduceLT,
            if_true, if_false, fc63_0, fc63_1, fc63_2, fc63_3, fc63_4, Int.reduceAdd, Int.reduceSub, Int.reduceMul, Int.reduceNeg, Int.reducePow, Nat.reducePow, Int.reduceToNat,
            Nat.reduceSub, List.replicate, Nat.reduceBEq, wAs, wA, wC, zipW, noDupN, grpE, grpC, en0, dc_en0, ↓b_pick, ePk_true, ePk_false] <;> rfl))
theorem s63 : ∀ vs r, g_impl_ValidSkeleton vs = some r → SaysM Try.prog .any 63 vs r := by
  intro vs r h
  unfold g_impl_ValidSkeleton at h
  split at h
  · rename_i w0
    cases hd_y0 : decL dc_en0 w0 with
    | none => rw [hd_y0] at h; cases h
    | some y0 =>
    rw [hd_y0] at h
    obtain rfl := decL_inv dc_en0_inv hd_y0
    clear hd_y0
    dsimp only at h
    split at h
    · rename_i hp
      cases h
      refine spec_of (m := .any) (tab := tabOf []) (cp := cp63) (ic := ic63) (rvl := [(.t 2)]) hm tabOk_nil Try.func63 rfl rfl rfl (by kernel_rfl) rfl (Nat.le_of_ble_eq_true rfl) (Nat.le_of_ble_eq_true rfl) ?_
      show eA _ _ _ _
      unfold ic63
      simp only [p_impl_ValidSkeleton, Bool.and_eq_true, Bool.or_eq_true, decide_eq_true_eq, Bool.not_eq_true', decide_eq_false_iff_not] at hp
      simp only [
          hp, grpS, grpD, grpF, grpL, eop, vop, bop, uop, fltop, convop, endOk, newE, new1, freshL, Md.isNew, outV, pureV, pureX, pure1, AV.cells, AV.one, storable, laid, refless,
                refless1, vload, loadC, storeC, vnil, vfaddr, vextract, flatT, flatE, flatC, vconv, vmm, vidxA, viaddrA, vfield, vlen, elemsOf, dF32, dF64, dI64, dU8, dBool, dStr,
                esOk, elemsS, vsliceX, bnd, ownV, ownC, own1, ownT, isSl, nSl, endL, Md.isOwn, purge, purgeH, purgeB, purgeE, hasName, name1, List.any_cons, List.any_nil, Md.isWr,
                pureV.pureP, Option.map, reduceIte, Nat.reduceEqDiff, Nat.reduceAdd, Nat.reduceMul, Nat.reduceLT, Nat.reduceLeDiff, List.mapM_cons, List.mapM_nil, Option.pure_def,
                Option.bind_eq_bind, Option.bind_some, implies_true, forall_const, beq_self_eq_true, decide_true, decide_false, eq_self, Int.reduceEq, Int.reduceLE, Int.reduceLT,
                if_true, if_false, fc63_0, fc63_1, fc63_2, fc63_3, fc63_4, Int.reduceAdd, Int.reduceSub, Int.reduceMul, Int.reduceNeg, Int.reducePow, Nat.reducePow, Int.reduceToNat,
                Nat.reduceSub, List.replicate, Nat.reduceBEq, wAs, wA, wC, zipW, noDupN, grpE, grpC, en0, dc_en0, ↓b_pick, ePk_true, ePk_false]
      repeat' (first
        | ((first | (refine eGI_of (fun h => ?_) (fun h => ?_)) | (refine eCc_of (fun h => ?_) (fun h => ?_)) | (refine ePk_of (fun h => ?_) (fun h => ?_)) | (have h := True.intro; refine KW_refl ?_)) <;> (try simp only [Bool.not_eq_true', Bool.not_eq_false'] at h) <;> (try simp only [h, reduceCtorEq, Bool.not_eq_true', decide_eq_false_iff_not, Bool.not_true, Bool.not_false, Bool.false_or, Bool.true_or, Bool.true_and, Bool.false_and, Bool.and_eq_true, Bool.or_eq_true, if_true, if_false, reduceIte, Bool.false_eq_true, and_true, true_and, false_or, or_false, decide_eq_true_eq, not_false_eq_true, not_true_eq_false] at hp) <;> (try (have h2 := h; simp only [decide_eq_true_eq, decide_eq_false_iff_not] at h2; (first | (replace h2 := eq_false h2) | (replace h2 := eq_true h2)); simp only [h2, if_true, if_false, false_or, true_or, or_true, or_false, and_true, true_and, not_false_eq_true, not_true_eq_false] at hp)) <;> simp only [h,
          hp, grpS, grpD, grpF, grpL, eop, vop, bop, uop, fltop, convop, endOk, newE, new1, freshL, Md.isNew, outV, pureV, pureX, pure1, AV.cells, AV.one, storable, laid, refless,
                refless1, vload, loadC, storeC, vnil, vfaddr, vextract, flatT, flatE, flatC, vconv, vmm, vidxA, viaddrA, vfield, vlen, elemsOf, dF32, dF64, dI64, dU8, dBool, dStr,
                esOk, elemsS, vsliceX, bnd, ownV, ownC, own1, ownT, isSl, nSl, endL, Md.isOwn, purge, purgeH, purgeB, purgeE, hasName, name1, List.any_cons, List.any_nil, Md.isWr,
                pureV.pureP, Option.map, reduceIte, Nat.reduceEqDiff, Nat.reduceAdd, Nat.reduceMul, Nat.reduceLT, Nat.reduceLeDiff, List.mapM_cons, List.mapM_nil, Option.pure_def,
                Option.bind_eq_bind, Option.bind_some, implies_true, forall_const, beq_self_eq_true, decide_true, decide_false, eq_self, Int.reduceEq, Int.reduceLE, Int.reduceLT,
                if_true, if_false, fc63_0, fc63_1, fc63_2, fc63_3, fc63_4, Int.reduceAdd, Int.reduceSub, Int.reduceMul, Int.reduceNeg, Int.reducePow, Nat.reducePow, Int.reduceToNat,
                Nat.reduceSub, List.replicate, Nat.reduceBEq, wAs, wA, wC, zipW, noDupN, grpE, grpC, en0, dc_en0, ↓b_pick, ePk_true, ePk_false])
        | (refine eA_wk (wk_norm (ks := [25, 26, 27]) (ls := []) ?_) (eA_cast ?_ (sl63_0 y0 _ _ _ _ (getD_some (d := default) (x := (l_impl_ValidSkeleton_0 y0 (Int.toNat (((List.length (List.drop 1 y0) : Nat) : Int) - 0) + 2) 0)) ?_) ?_ ?_)); (simp only [nilS, nilV, normOk, optIn, blkIn, nameIn, 
          hp, grpS, grpD, grpF, grpL, eop, vop, bop, uop, fltop, convop, endOk, newE, new1, freshL, Md.isNew, outV, pureV, pureX, pure1, AV.cells, AV.one, storable, laid, refless,
                refless1, vload, loadC, storeC, vnil, vfaddr, vextract, flatT, flatE, flatC, vconv, vmm, vidxA, viaddrA, vfield, vlen, elemsOf, dF32, dF64, dI64, dU8, dBool, dStr,
                esOk, elemsS, vsliceX, bnd, ownV, ownC, own1, ownT, isSl, nSl, endL, Md.isOwn, purge, purgeH, purgeB, purgeE, hasName, name1, List.any_cons, List.any_nil, Md.isWr,
                pureV.pureP, Option.map, reduceIte, Nat.reduceEqDiff, Nat.reduceAdd, Nat.reduceMul, Nat.reduceLT, Nat.reduceLeDiff, List.mapM_cons, List.mapM_nil, Option.pure_def,
                Option.bind_eq_bind, Option.bind_some, implies_true, forall_const, beq_self_eq_true, decide_true, decide_false, eq_self, Int.reduceEq, Int.reduceLE, Int.reduceLT,
                if_true, if_false, fc63_0, fc63_1, fc63_2, fc63_3, fc63_4, Int.reduceAdd, Int.reduceSub, Int.reduceMul, Int.reduceNeg, Int.reducePow, Nat.reducePow, Int.reduceToNat,
                Nat.reduceSub, List.replicate, Nat.reduceBEq, wAs, wA, wC, zipW, noDupN, grpE, grpC, en0, dc_en0, ↓b_pick, ePk_true, ePk_false] <;> rfl); (simp only [nilS, nilV, normS,  List.map_append, List.length_append, List.map_set, List.length_set, List.map_replicate, List.length_replicate, List.map_nil, List.map_cons,
          hp, grpS, grpD, grpF, grpL, eop, vop, bop, uop, fltop, convop, endOk, newE, new1, freshL, Md.isNew, outV, pureV, pureX, pure1, AV.cells, AV.one, storable, laid, refless,
                refless1, vload, loadC, storeC, vnil, vfaddr, vextract, flatT, flatE, flatC, vconv, vmm, vidxA, viaddrA, vfield, vlen, elemsOf, dF32, dF64, dI64, dU8, dBool, dStr,
                esOk, elemsS, vsliceX, bnd, ownV, ownC, own1, ownT, isSl, nSl, endL, Md.isOwn, purge, purgeH, purgeB, purgeE, hasName, name1, List.any_cons, List.any_nil, Md.isWr,
                pureV.pureP, Option.map, reduceIte, Nat.reduceEqDiff, Nat.reduceAdd, Nat.reduceMul, Nat.reduceLT, Nat.reduceLeDiff, List.mapM_cons, List.mapM_nil, Option.pure_def,
                Option.bind_eq_bind, Option.bind_some, implies_true, forall_const, beq_self_eq_true, decide_true, decide_false, eq_self, Int.reduceEq, Int.reduceLE, Int.reduceLT,
                if_true, if_false, fc63_0, fc63_1, fc63_2, fc63_3, fc63_4, Int.reduceAdd, Int.reduceSub, Int.reduceMul, Int.reduceNeg, Int.reducePow, Nat.reducePow, Int.reduceToNat,
                Nat.reduceSub, List.replicate, Nat.reduceBEq, wAs, wA, wC, zipW, noDupN, grpE, grpC, en0, dc_en0, ↓b_pick, ePk_true, ePk_false] <;> rfl); (simp only [hp]); (
        intro st2 ht hw; simp only [Kq_ret, Kb_ret, Kl_ret, ret_ok]; first | exact h0 _ hw | exact h0 _ rfl hw | exact h1 _ rfl hw | exact h0 _ ht hw | exact h1 _ ht hw | refine ⟨_, hw, ?_⟩); rotate_left; (
        intro st2 ht hw; (try simp only [ht, reduceCtorEq, Bool.not_eq_true', decide_eq_false_iff_not, Bool.not_true, Bool.not_false, Bool.false_or, Bool.true_or, Bool.true_and, Bool.false_and, Bool.and_eq_true, Bool.or_eq_true, if_true, if_false, reduceIte, Bool.false_eq_true, and_true, true_and, false_or, or_false, decide_eq_true_eq, not_false_eq_true, not_true_eq_false] at hp); simp only [
          hp, grpS, grpD, grpF, grpL, eop, vop, bop, uop, fltop, convop, endOk, newE, new1, freshL, Md.isNew, outV, pureV, pureX, pure1, AV.cells, AV.one, storable, laid, refless,
                refless1, vload, loadC, storeC, vnil, vfaddr, vextract, flatT, flatE, flatC, vconv, vmm, vidxA, viaddrA, vfield, vlen, elemsOf, dF32, dF64, dI64, dU8, dBool, dStr,
                esOk, elemsS, vsliceX, bnd, ownV, ownC, own1, ownT, isSl, nSl, endL, Md.isOwn, purge, purgeH, purgeB, purgeE, hasName, name1, List.any_cons, List.any_nil, Md.isWr,
                pureV.pureP, Option.map, reduceIte, Nat.reduceEqDiff, Nat.reduceAdd, Nat.reduceMul, Nat.reduceLT, Nat.reduceLeDiff, List.mapM_cons, List.mapM_nil, Option.pure_def,
                Option.bind_eq_bind, Option.bind_some, implies_true, forall_const, beq_self_eq_true, decide_true, decide_false, eq_self, Int.reduceEq, Int.reduceLE, Int.reduceLT,
                if_true, if_false, fc63_0, fc63_1, fc63_2, fc63_3, fc63_4, Int.reduceAdd, Int.reduceSub, Int.reduceMul, Int.reduceNeg, Int.reducePow, Nat.reducePow, Int.reduceToNat,
                Nat.reduceSub, List.replicate, Nat.reduceBEq, wAs, wA, wC, zipW, noDupN, grpE, grpC, en0, dc_en0, ↓b_pick, ePk_true, ePk_false]; refine KW_of hw ?_; simp only [ht, 
          hp, grpS, grpD, grpF, grpL, eop, vop, bop, uop, fltop, convop, endOk, newE, new1, freshL, Md.isNew, outV, pureV, pureX, pure1, AV.cells, AV.one, storable, laid, refless,
                refless1, vload, loadC, storeC, vnil, vfaddr, vextract, flatT, flatE, flatC, vconv, vmm, vidxA, viaddrA, vfield, vlen, elemsOf, dF32, dF64, dI64, dU8, dBool, dStr,
                esOk, elemsS, vsliceX, bnd, ownV, ownC, own1, ownT, isSl, nSl, endL, Md.isOwn, purge, purgeH, purgeB, purgeE, hasName, name1, List.any_cons, List.any_nil, Md.isWr,
                pureV.pureP, Option.map, reduceIte, Nat.reduceEqDiff, Nat.reduceAdd, Nat.reduceMul, Nat.reduceLT, Nat.reduceLeDiff, List.mapM_cons, List.mapM_nil, Option.pure_def,
                Option.bind_eq_bind, Option.bind_some, implies_true, forall_const, beq_self_eq_true, decide_true, decide_false, eq_self, Int.reduceEq, Int.reduceLE, Int.reduceLT,
                if_true, if_false, fc63_0, fc63_1, fc63_2, fc63_3, fc63_4, Int.reduceAdd, Int.reduceSub, Int.reduceMul, Int.reduceNeg, Int.reducePow, Nat.reducePow, Int.reduceToNat,
                Nat.reduceSub, List.replicate, Nat.reduceBEq, wAs, wA, wC, zipW, noDupN, grpE, grpC, en0, dc_en0, ↓b_pick, ePk_true, ePk_false])))
      all_goals (try simp only [*, m_impl_ValidSkeleton, Bool.and_true, Bool.true_and, Bool.and_false, Bool.false_and, Bool.or_true, Bool.true_or, Bool.or_false, Bool.false_or, Bool.not_true, Bool.not_false, Bool.false_eq_true, if_true, if_false, reduceIte, decide_true, decide_false])
      all_goals (try (simp_all; done))
    · cases h
  · cases h
def m_impl_InnerOf (x0 : (Nat × Nat × Nat)) (x1 : (Nat × Nat × Nat)) : Nat := (fadd .f32 (fadd .f32 (fmul .f32 x0.1 x1.1) (fmul .f32 x0.2.1 x1.2.1)) (fmul .f32 x0.2.2 x1.2.2))
def g_impl_InnerOf : List AV → Option AV
  | [.agg [.flt .f32 y0, .flt .f32 y1, .flt .f32 y2], .agg [.flt .f32 y3, .flt .f32 y4, .flt .f32 y5]] => some (.flt .f32 (m_impl_InnerOf
      (y0, y1, y2) (y3, y4, y5)))
  | _ => none
def ic96 : ICode := (.seq (.reg [⟨(some 2), none, (.box 3 (.t 0))⟩, ⟨(some 3), none, (.box 3 (.t 1))⟩, ⟨(some 4), none, (.mov (.c (.flt .f32 0)))⟩] [2, 3]) (.seq (.reg [⟨(some 5),
      none, (.faddr 0 (.t 2))⟩, ⟨(some 6), none, (.load none (.t 5))⟩, ⟨(some 7), none, (.faddr 0 (.t 3))⟩, ⟨(some 8), none, (.load none (.t 7))⟩, ⟨(some 9), none, (.bin .mul false
      (.t 6) (.t 8))⟩, ⟨(some 10), none, (.faddr 1 (.t 2))⟩, ⟨(some 11), none, (.load none (.t 10))⟩, ⟨(some 12), none, (.faddr 1 (.t 3))⟩, ⟨(some 13), none, (.load none (.t 12))⟩,
      ⟨(some 14), none, (.bin .mul false (.t 11) (.t 13))⟩, ⟨(some 15), none, (.bin .add false (.t 9) (.t 14))⟩, ⟨(some 16), none, (.faddr 2 (.t 2))⟩, ⟨(some 17), none, (.load none
      (.t 16))⟩, ⟨(some 18), none, (.faddr 2 (.t 3))⟩, ⟨(some 19), none, (.load none (.t 18))⟩, ⟨(some 20), none, (.bin .mul false (.t 17) (.t 19))⟩, ⟨(some 21), none, (.bin .add
      false (.t 15) (.t 20))⟩, ⟨(some 4), none, (.mov (.t 21))⟩] [4]) .ret))
def cp96 : CP := CP.mk [] [] [[2, 3], [4]] 22
theorem fc96_0 : IntKind.wrap .i64 0 = 0 := by decide
theorem fc96_1 : IntKind.wrap .i64 1 = 1 := by decide
theorem fc96_2 : IntKind.wrap .i64 2 = 2 := by decide
theorem fc96_3 : IntKind.wrap .i64 3 = 3 := by decide
theorem fc96_4 : IntKind.wrap .i64 4 = 4 := by decide
theorem s96 : ∀ vs r, g_impl_InnerOf vs = some r → SaysM Try.prog .any 96 vs r := by
  intro vs r h
  unfold g_impl_InnerOf at h
  split at h
  · rename_i y0 y1 y2 y3 y4 y5
    cases h
    refine spec_of (m := .any) (tab := tabOf []) (cp := cp96) (ic := ic96) (rvl := [(.t 4)]) hm tabOk_nil Try.func96 rfl rfl rfl (by kernel_rfl) rfl (Nat.le_of_ble_eq_true rfl) (Nat.le_of_ble_eq_true rfl) ?_
    show eA _ _ _ _
    unfold ic96
    simp only [
        grpS, grpD, grpF, grpL, eop, vop, bop, uop, fltop, convop, endOk, newE, new1, freshL, Md.isNew, outV, pureV, pureX, pure1, AV.cells, AV.one, storable, laid, refless,
              refless1, vload, loadC, storeC, vnil, vfaddr, vextract, flatT, flatE, flatC, vconv, vmm, vidxA, viaddrA, vfield, vlen, elemsOf, dF32, dF64, dI64, dU8, dBool, dStr,
              esOk, elemsS, vsliceX, bnd, ownV, ownC, own1, ownT, isSl, nSl, endL, Md.isOwn, purge, purgeH, purgeB, purgeE, hasName, name1, List.any_cons, List.any_nil, Md.isWr,
              pureV.pureP, Option.map, reduceIte, Nat.reduceEqDiff, Nat.reduceAdd, Nat.reduceMul, Nat.reduceLT, Nat.reduceLeDiff, List.mapM_cons, List.mapM_nil, Option.pure_def,
              Option.bind_eq_bind, Option.bind_some, implies_true, forall_const, beq_self_eq_true, decide_true, decide_false, eq_self, Int.reduceEq, Int.reduceLE, Int.reduceLT,
              if_true, if_false, fc96_0, fc96_1, fc96_2, fc96_3, fc96_4, Int.reduceAdd, Int.reduceSub, Int.reduceMul, Int.reduceNeg, Int.reducePow, Nat.reducePow, Int.reduceToNat,
              Nat.reduceSub, List.replicate, Nat.reduceBEq, wAs, wA, wC, zipW, noDupN, grpE, grpC, en0, dc_en0]
    repeat' (first
      | ((first | (refine eGI_of (fun h => ?_) (fun h => ?_)) | (refine eCc_of (fun h => ?_) (fun h => ?_))) <;> (try simp only [Bool.not_eq_true', Bool.not_eq_false'] at h) <;> simp only [h,
        grpS, grpD, grpF, grpL, eop, vop, bop, uop, fltop, convop, endOk, newE, new1, freshL, Md.isNew, outV, pureV, pureX, pure1, AV.cells, AV.one, storable, laid, refless,
              refless1, vload, loadC, storeC, vnil, vfaddr, vextract, flatT, flatE, flatC, vconv, vmm, vidxA, viaddrA, vfield, vlen, elemsOf, dF32, dF64, dI64, dU8, dBool, dStr,
              esOk, elemsS, vsliceX, bnd, ownV, ownC, own1, ownT, isSl, nSl, endL, Md.isOwn, purge, purgeH, purgeB, purgeE, hasName, name1, List.any_cons, List.any_nil, Md.isWr,
              pureV.pureP, Option.map, reduceIte, Nat.reduceEqDiff, Nat.reduceAdd, Nat.reduceMul, Nat.reduceLT, Nat.reduceLeDiff, List.mapM_cons, List.mapM_nil, Option.pure_def,
              Option.bind_eq_bind, Option.bind_some, implies_true, forall_const, beq_self_eq_true, decide_true, decide_false, eq_self, Int.reduceEq, Int.reduceLE, Int.reduceLT,
              if_true, if_false, fc96_0, fc96_1, fc96_2, fc96_3, fc96_4, Int.reduceAdd, Int.reduceSub, Int.reduceMul, Int.reduceNeg, Int.reducePow, Nat.reducePow, Int.reduceToNat,
              Nat.reduceSub, List.replicate, Nat.reduceBEq, wAs, wA, wC, zipW, noDupN, grpE, grpC, en0, dc_en0]))
    all_goals (try simp only [*, m_impl_InnerOf, Bool.and_true, Bool.true_and, Bool.and_false, Bool.false_and, Bool.or_true, Bool.true_or, Bool.or_false, Bool.false_or, Bool.not_true, Bool.not_false, Bool.false_eq_true, if_true, if_false, reduceIte, decide_true, decide_false])
    all_goals (try (simp_all; done))
  · cases h
def m_impl_RootNumber (x0 : Nat) : Nat := (narrow (m_math_Sqrt (widen x0)))
def p_impl_RootNumber (x0 : Nat) : Bool := (narrowOk (m_math_Sqrt (widen x0)))
def g_impl_RootNumber : List AV → Option AV
  | [.flt .f32 y0] => if p_impl_RootNumber y0 = true then some (.flt .f32 (m_impl_RootNumber y0)) else none
  | _ => none
def ic95 : ICode := (.seq (.reg [⟨(some 2), none, (.mov (.c (.flt .f32 0)))⟩] [0]) (.seq (.reg [⟨(some 3), none, (.mov (.t 0))⟩, ⟨(some 4), none, (.conv (.flt .f64) (.t 3))⟩, ⟨(some
      5), none, (.call (.fn 108) [(.t 4)] [])⟩, ⟨(some 6), none, (.conv (.flt .f32) (.t 5))⟩, ⟨(some 2), none, (.mov (.t 6))⟩] [2]) .ret))
def cp95 : CP := CP.mk [] [] [[0], [2]] 7
theorem fc95_0 : IntKind.wrap .i64 0 = 0 := by decide
theorem fc95_1 : IntKind.wrap .i64 1 = 1 := by decide
theorem fc95_2 : IntKind.wrap .i64 2 = 2 := by decide
theorem fc95_3 : IntKind.wrap .i64 3 = 3 := by decide
theorem fc95_4 : IntKind.wrap .i64 4 = 4 := by decide
theorem s95 : ∀ vs r, g_impl_RootNumber vs = some r → SaysM Try.prog .any 95 vs r := by
  intro vs r h
  unfold g_impl_RootNumber at h
  split at h
  · rename_i y0
    split at h
    · rename_i hp
      cases h
      refine spec_of (m := .any) (tab := tabOf [(108, wM .any g_math_Sqrt)]) (cp := cp95) (ic := ic95) (rvl := [(.t 2)]) hm (tabOk_cons (m := .any) s108 tabOk_nil) Try.func95 rfl rfl rfl (by kernel_rfl) rfl (Nat.le_of_ble_eq_true rfl) (Nat.le_of_ble_eq_true rfl) ?_
      show eA _ _ _ _
      unfold ic95
      simp only [p_impl_RootNumber, Bool.and_eq_true, Bool.or_eq_true, decide_eq_true_eq, Bool.not_eq_true', decide_eq_false_iff_not] at hp
      simp only [
          hp, grpS, grpD, grpF, grpL, eop, vop, bop, uop, fltop, convop, endOk, newE, new1, freshL, Md.isNew, outV, pureV, pureX, pure1, AV.cells, AV.one, storable, laid, refless,
                refless1, vload, loadC, storeC, vnil, vfaddr, vextract, flatT, flatE, flatC, vconv, vmm, vidxA, viaddrA, vfield, vlen, elemsOf, dF32, dF64, dI64, dU8, dBool, dStr,
                esOk, elemsS, vsliceX, bnd, ownV, ownC, own1, ownT, isSl, nSl, endL, Md.isOwn, purge, purgeH, purgeB, purgeE, hasName, name1, List.any_cons, List.any_nil, Md.isWr,
                pureV.pureP, Option.map, reduceIte, Nat.reduceEqDiff, Nat.reduceAdd, Nat.reduceMul, Nat.reduceLT, Nat.reduceLeDiff, List.mapM_cons, List.mapM_nil, Option.pure_def,
                Option.bind_eq_bind, Option.bind_some, implies_true, forall_const, beq_self_eq_true, decide_true, decide_false, eq_self, Int.reduceEq, Int.reduceLE, Int.reduceLT,
                if_true, if_false, fc95_0, fc95_1, fc95_2, fc95_3, fc95_4, Int.reduceAdd, Int.reduceSub, Int.reduceMul, Int.reduceNeg, Int.reducePow, Nat.reducePow, Int.reduceToNat,
                Nat.reduceSub, List.replicate, Nat.reduceBEq, wAs, wA, wC, zipW, noDupN, grpE, g_math_Sqrt, grpC, en0, dc_en0]
      repeat' (first
        | ((first | (refine eGI_of (fun h => ?_) (fun h => ?_)) | (refine eCc_of (fun h => ?_) (fun h => ?_))) <;> (try simp only [Bool.not_eq_true', Bool.not_eq_false'] at h) <;> (try simp only [h, reduceCtorEq, Bool.not_eq_true', decide_eq_false_iff_not, Bool.not_true, Bool.not_false, Bool.false_or, Bool.true_or, Bool.true_and, Bool.false_and, Bool.and_eq_true, Bool.or_eq_true, if_true, if_false, reduceIte, Bool.false_eq_true, and_true, true_and, false_or, or_false, decide_eq_true_eq, not_false_eq_true, not_true_eq_false] at hp) <;> (try (have h2 := h; simp only [decide_eq_true_eq, decide_eq_false_iff_not] at h2; (first | (replace h2 := eq_false h2) | (replace h2 := eq_true h2)); simp only [h2, if_true, if_false, false_or, true_or, or_true, or_false, and_true, true_and, not_false_eq_true, not_true_eq_false] at hp)) <;> simp only [h,
          hp, grpS, grpD, grpF, grpL, eop, vop, bop, uop, fltop, convop, endOk, newE, new1, freshL, Md.isNew, outV, pureV, pureX, pure1, AV.cells, AV.one, storable, laid, refless,
                refless1, vload, loadC, storeC, vnil, vfaddr, vextract, flatT, flatE, flatC, vconv, vmm, vidxA, viaddrA, vfield, vlen, elemsOf, dF32, dF64, dI64, dU8, dBool, dStr,
                esOk, elemsS, vsliceX, bnd, ownV, ownC, own1, ownT, isSl, nSl, endL, Md.isOwn, purge, purgeH, purgeB, purgeE, hasName, name1, List.any_cons, List.any_nil, Md.isWr,
                pureV.pureP, Option.map, reduceIte, Nat.reduceEqDiff, Nat.reduceAdd, Nat.reduceMul, Nat.reduceLT, Nat.reduceLeDiff, List.mapM_cons, List.mapM_nil, Option.pure_def,
                Option.bind_eq_bind, Option.bind_some, implies_true, forall_const, beq_self_eq_true, decide_true, decide_false, eq_self, Int.reduceEq, Int.reduceLE, Int.reduceLT,
                if_true, if_false, fc95_0, fc95_1, fc95_2, fc95_3, fc95_4, Int.reduceAdd, Int.reduceSub, Int.reduceMul, Int.reduceNeg, Int.reducePow, Nat.reducePow, Int.reduceToNat,
                Nat.reduceSub, List.replicate, Nat.reduceBEq, wAs, wA, wC, zipW, noDupN, grpE, g_math_Sqrt, grpC, en0, dc_en0]))
      all_goals (try simp only [*, m_impl_RootNumber, Bool.and_true, Bool.true_and, Bool.and_false, Bool.false_and, Bool.or_true, Bool.true_or, Bool.or_false, Bool.false_or, Bool.not_true, Bool.not_false, Bool.false_eq_true, if_true, if_false, reduceIte, decide_true, decide_false])
      all_goals (try (simp_all; done))
    · cases h
  · cases h
def m_impl_LongOf (x0 : (Nat × Nat × Nat)) : Nat := (m_impl_RootNumber (m_impl_InnerOf x0 x0))
def p_impl_LongOf (x0 : (Nat × Nat × Nat)) : Bool := (p_impl_RootNumber (m_impl_InnerOf x0 x0))
def g_impl_LongOf : List AV → Option AV
  | [.agg [.flt .f32 y0, .flt .f32 y1, .flt .f32 y2]] => if p_impl_LongOf (y0, y1, y2) = true then some (.flt .f32 (m_impl_LongOf (y0, y1,
      y2))) else none
  | _ => none
def ic64 : ICode := (.seq (.reg [⟨(some 1), none, (.box 3 (.t 0))⟩, ⟨(some 2), none, (.mov (.c (.flt .f32 0)))⟩] [1]) (.seq (.reg [⟨(some 3), none, (.load (some 3) (.t 1))⟩, ⟨(some
      4), none, (.load (some 3) (.t 1))⟩, ⟨(some 5), none, (.call (.fn 96) [(.t 3), (.t 4)] [])⟩, ⟨(some 6), none, (.call (.fn 95) [(.t 5)] [])⟩, ⟨(some 2), none, (.mov (.t 6))⟩]
      [2]) .ret))
def cp64 : CP := CP.mk [] [] [[1], [2]] 7
theorem fc64_0 : IntKind.wrap .i64 0 = 0 := by decide
theorem fc64_1 : IntKind.wrap .i64 1 = 1 := by decide
theorem fc64_2 : IntKind.wrap .i64 2 = 2 := by decide
theorem fc64_3 : IntKind.wrap .i64 3 = 3 := by decide
theorem fc64_4 : IntKind.wrap .i64 4 = 4 := by decide
theorem s64 : ∀ vs r, g_impl_LongOf vs = some r → SaysM Try.prog .any 64 vs r := by
  intro vs r h
  unfold g_impl_LongOf at h
  split at h
  · rename_i y0 y1 y2
    split at h
    · rename_i hp
      cases h
      refine spec_of (m := .any) (tab := tabOf [(95, wM .any g_impl_RootNumber), (96, wM .any g_impl_InnerOf)]) (cp := cp64) (ic := ic64) (rvl := [(.t 2)]) hm (tabOk_cons (m := .any) s95 (tabOk_cons (m := .any) s96 tabOk_nil)) Try.func64 rfl rfl rfl (by kernel_rfl) rfl (Nat.le_of_ble_eq_true rfl) (Nat.le_of_ble_eq_true rfl) ?_
      show eA _ _ _ _
      unfold ic64
      simp only [p_impl_LongOf, Bool.and_eq_true, Bool.or_eq_true, decide_eq_true_eq, Bool.not_eq_true', decide_eq_false_iff_not] at hp
      simp only [
          hp, grpS, grpD, grpF, grpL, eop, vop, bop, uop, fltop, convop, endOk, newE, new1, freshL, Md.isNew, outV, pureV, pureX, pure1, AV.cells, AV.one, storable, laid, refless,
                refless1, vload, loadC, storeC, vnil, vfaddr, vextract, flatT, flatE, flatC, vconv, vmm, vidxA, viaddrA, vfield, vlen, elemsOf, dF32, dF64, dI64, dU8, dBool, dStr,
                esOk, elemsS, vsliceX, bnd, ownV, ownC, own1, ownT, isSl, nSl, endL, Md.isOwn, purge, purgeH, purgeB, purgeE, hasName, name1, List.any_cons, List.any_nil, Md.isWr,
                pureV.pureP, Option.map, reduceIte, Nat.reduceEqDiff, Nat.reduceAdd, Nat.reduceMul, Nat.reduceLT, Nat.reduceLeDiff, List.mapM_cons, List.mapM_nil, Option.pure_def,
                Option.bind_eq_bind, Option.bind_some, implies_true, forall_const, beq_self_eq_true, decide_true, decide_false, eq_self, Int.reduceEq, Int.reduceLE, Int.reduceLT,
                if_true, if_false, fc64_0, fc64_1, fc64_2, fc64_3, fc64_4, Int.reduceAdd, Int.reduceSub, Int.reduceMul, Int.reduceNeg, Int.reducePow, Nat.reducePow, Int.reduceToNat,
                Nat.reduceSub, List.replicate, Nat.reduceBEq, wAs, wA, wC, zipW, noDupN, grpE, g_impl_RootNumber, g_impl_InnerOf, grpC, en0, dc_en0]
      repeat' (first
        | ((first | (refine eGI_of (fun h => ?_) (fun h => ?_)) | (refine eCc_of (fun h => ?_) (fun h => ?_))) <;> (try simp only [Bool.not_eq_true', Bool.not_eq_false'] at h) <;> (try simp only [h, reduceCtorEq, Bool.not_eq_true', decide_eq_false_iff_not, Bool.not_true, Bool.not_false, Bool.false_or, Bool.true_or, Bool.true_and, Bool.false_and, Bool.and_eq_true, Bool.or_eq_true, if_true, if_false, reduceIte, Bool.false_eq_true, and_true, true_and, false_or, or_false, decide_eq_true_eq, not_false_eq_true, not_true_eq_false] at hp) <;> (try (have h2 := h; simp only [decide_eq_true_eq, decide_eq_false_iff_not] at h2; (first | (replace h2 := eq_false h2) | (replace h2 := eq_true h2)); simp only [h2, if_true, if_false, false_or, true_or, or_true, or_false, and_true, true_and, not_false_eq_true, not_true_eq_false] at hp)) <;> simp only [h,
          hp, grpS, grpD, grpF, grpL, eop, vop, bop, uop, fltop, convop, endOk, newE, new1, freshL, Md.isNew, outV, pureV, pureX, pure1, AV.cells, AV.one, storable, laid, refless,
                refless1, vload, loadC, storeC, vnil, vfaddr, vextract, flatT, flatE, flatC, vconv, vmm, vidxA, viaddrA, vfield, vlen, elemsOf, dF32, dF64, dI64, dU8, dBool, dStr,
                esOk, elemsS, vsliceX, bnd, ownV, ownC, own1, ownT, isSl, nSl, endL, Md.isOwn, purge, purgeH, purgeB, purgeE, hasName, name1, List.any_cons, List.any_nil, Md.isWr,
                pureV.pureP, Option.map, reduceIte, Nat.reduceEqDiff, Nat.reduceAdd, Nat.reduceMul, Nat.reduceLT, Nat.reduceLeDiff, List.mapM_cons, List.mapM_nil, Option.pure_def,
                Option.bind_eq_bind, Option.bind_some, implies_true, forall_const, beq_self_eq_true, decide_true, decide_false, eq_self, Int.reduceEq, Int.reduceLE, Int.reduceLT,
                if_true, if_false, fc64_0, fc64_1, fc64_2, fc64_3, fc64_4, Int.reduceAdd, Int.reduceSub, Int.reduceMul, Int.reduceNeg, Int.reducePow, Nat.reducePow, Int.reduceToNat,
                Nat.reduceSub, List.replicate, Nat.reduceBEq, wAs, wA, wC, zipW, noDupN, grpE, g_impl_RootNumber, g_impl_InnerOf, grpC, en0, dc_en0]))
      all_goals (try simp only [*, m_impl_LongOf, Bool.and_true, Bool.true_and, Bool.and_false, Bool.false_and, Bool.or_true, Bool.true_or, Bool.or_false, Bool.false_or, Bool.not_true, Bool.not_false, Bool.false_eq_true, if_true, if_false, reduceIte, decide_true, decide_false])
      all_goals (try (simp_all; done))
    · cases h
  · cases h
def l_impl_BoneLengths_0 (x0 : (List (Int × Nat × Nat × Nat))) : Nat → (List Nat) → Int → Option (List Nat)
  | 0, _, _ => none
  | n + 1, z0_0, z0_1 => (if (decide (z0_1 < ((List.length x0 : Nat) : Int))) = true then (need (inB z0_1 (List.length x0)) (need (p_impl_LongOf ((atI x0 z0_1).2.1, (atI x0
        z0_1).2.2.1, (atI x0 z0_1).2.2.2)) (need (inB z0_1 (List.length z0_0)) (l_impl_BoneLengths_0 x0 n (List.set z0_0 (Int.toNat z0_1) (m_impl_LongOf ((atI x0 z0_1).2.1, (atI x0
        z0_1).2.2.1, (atI x0 z0_1).2.2.2))) (IntKind.wrap .i64 (z0_1 + 1)))))) else (some z0_0))
def m_impl_BoneLengths (x0 : (List (Int × Nat × Nat × Nat))) : ((List Nat) × Bool) := (if (m_impl_ValidSkeleton x0) = true then ((Option.getD (l_impl_BoneLengths_0 x0 (Int.toNat
      (((List.length x0 : Nat) : Int) - 0) + 2) (List.replicate (Int.toNat ((List.length x0 : Nat) : Int)) 0) 0) default), true) else ([], false))
def p_impl_BoneLengths (x0 : (List (Int × Nat × Nat × Nat))) : Bool := ((p_impl_ValidSkeleton x0) && (!(m_impl_ValidSkeleton x0) || ((decide (0 ≤ ((List.length x0 : Nat) : Int))) &&
      ((decide (((List.length x0 : Nat) : Int) * 4 ≤ 70368744177664)) && ((decide (((List.length x0 : Nat) : Int) ≤ 70368744177664)) && (Option.isSome (l_impl_BoneLengths_0 x0
      (Int.toNat (((List.length x0 : Nat) : Int) - 0) + 2) (List.replicate (Int.toNat ((List.length x0 : Nat) : Int)) 0) 0)))))))
def g_impl_BoneLengths : List AV → Option AV
  | [.agg [.sl w0]] => (match decL dc_en0 w0 with | some y0 => (if p_impl_BoneLengths y0 = true then some (AV.tup [(.sl (List.map (AV.flt .f32) (m_impl_BoneLengths y0).1)), (.bool (m_impl_BoneLengths y0).2)]) else none) | none => none)
  | _ => none
def lb24_0 : ICode := (.seq (.reg [⟨(some 18), none, (.bin .lss false (.t 17) (.t 16))⟩] [4, 15, 16, 17, 18]) (.seq (.cond (.t 18) .skip (.exit 0)) (.seq (.block 1 (.seq (.reg
      [⟨(some 19), none, (.mov (.t 17))⟩, ⟨(some 20), none, (.iaddrS 4 (.t 15) (.t 17))⟩, ⟨(some 21), none, (.load (some 4) (.t 20))⟩, ⟨(some 6), none, (.alloc (.agg [(.int .i64 0),
      (.flt .f32 0), (.flt .f32 0), (.flt .f32 0)]))⟩, ⟨(some 5), none, (.mov (.t 19))⟩, ⟨none, none, (.store 4 (.t 6) (.t 21))⟩] [4, 5, 6, 15, 16, 17]) (.reg [⟨(some 22), none,
      (.mov (.t 4))⟩, ⟨(some 23), none, (.mov (.t 5))⟩, ⟨(some 24), none, (.faddr 1 (.t 6))⟩, ⟨(some 25), none, (.load (some 3) (.t 24))⟩, ⟨(some 26), none, (.call (.fn 64) [(.t
      25)] [])⟩, ⟨(some 27), none, (.iaddrS 1 (.t 22) (.t 23))⟩, ⟨none, none, (.store 1 (.t 27) (.t 26))⟩] [4, 15, 16, 17]))) (.reg [⟨(some 28), none, (.bin .add false (.t 17) (.c
      (.int .i64 1)))⟩, ⟨(some 17), none, (.mov (.t 28))⟩] [4, 15, 16, 17]))))
def ic24 : ICode := (.seq (.reg [⟨(some 1), none, (.box 1 (.t 0))⟩, ⟨(some 2), none, (.mov (.c .snil))⟩, ⟨(some 3), none, (.mov (.c (.bool false)))⟩] [1]) (.seq (.seq (.reg [⟨(some
      7), none, (.load (some 1) (.t 1))⟩, ⟨(some 8), none, (.call (.fn 63) [(.t 7)] [])⟩, ⟨(some 9), none, (.un .not (.t 8))⟩] [1, 9]) (.cond (.t 9) (.seq (.reg [⟨(some 2), none,
      (.mov (.c .snil))⟩, ⟨(some 3), none, (.mov (.c (.bool false)))⟩] [2, 3]) .ret) .skip)) (.seq (.reg [⟨(some 10), none, (.faddr 0 (.t 1))⟩, ⟨(some 11), none, (.load none (.t
      10))⟩, ⟨(some 12), none, (.len false (.t 11))⟩, ⟨(some 13), none, (.mkslice 1 4 (.flt .f32 0) (.t 12) (.t 12))⟩, ⟨(some 4), none, (.mov (.t 13))⟩] [1, 4]) (.seq (.seq (.reg
      [⟨(some 14), none, (.faddr 0 (.t 1))⟩, ⟨(some 15), none, (.load none (.t 14))⟩, ⟨(some 16), none, (.len false (.t 15))⟩, ⟨(some 17), none, (.mov (.c (.int .i64 0)))⟩] [4, 15,
      16, 17]) (.block 0 (.loop lb24_0))) (.seq (.reg [⟨(some 29), none, (.mov (.t 4))⟩, ⟨(some 2), none, (.mov (.t 29))⟩, ⟨(some 3), none, (.mov (.c (.bool true)))⟩] [2, 3])
      .ret)))))
def cp24 : CP := CP.mk [] [] [[1], [1, 9], [2, 3], [1, 4], [4, 15, 16, 17], [4, 15, 16, 17, 18], [4, 5, 6, 15, 16, 17], [4, 15, 16, 17], [4, 15, 16, 17], [2, 3]] 30
theorem fc24_0 : IntKind.wrap .i64 0 = 0 := by decide
theorem fc24_1 : IntKind.wrap .i64 1 = 1 := by decide
theorem fc24_2 : IntKind.wrap .i64 2 = 2 := by decide
theorem fc24_3 : IntKind.wrap .i64 3 = 3 := by decide
theorem fc24_4 : IntKind.wrap .i64 4 = 4 := by decide
theorem sl24_0 (x0 : (List (Int × Nat × Nat × Nat))) : ∀ (n : Nat) (z0_0 : (List Nat)) (z0_1 : Int) (o : (List Nat)) (K : IExit → St → Prop), l_impl_BoneLengths_0 x0 n z0_0 z0_1 =
      some o → (∀ st, Wk st (⟨[(4, (.lsl 13 0 (List.length o)))], [(13, (some ⟨1, true, (List.map (AV.flt .f32) o)⟩))]⟩ : St) → K (.exit 0) st) → eA (tabOf [(63, wM .any
      g_impl_ValidSkeleton), (64, wM .any g_impl_LongOf)]) (.loop lb24_0) (⟨[(4, (.lsl 13 0 (List.length z0_0))), (15, (.sl (List.map en0 x0))), (16, (.int .i64 ((List.length x0 :
      Nat) : Int))), (17, (.int .i64 z0_1))], [(13, (some ⟨1, true, (List.map (AV.flt .f32) z0_0)⟩))]⟩ : St) K := by
  intro n
  induction n with
  | zero =>
    intro z0_0 z0_1 o K h h0
    simp only [l_impl_BoneLengths_0, reduceCtorEq] at h
  | succ n ih =>
    intro z0_0 z0_1 o K h h0
    refine eA_loop ?_
    unfold lb24_0
    unfold l_impl_BoneLengths_0 at h
    (try simp only [need_iff] at h)
    simp only [
      need_iff, h, grpS, grpD, grpF, grpL, eop, vop, bop, uop, fltop, convop, endOk, newE, new1, freshL, Md.isNew, outV, pureV, pureX, pure1, AV.cells, AV.one, storable, laid,
            refless, refless1, vload, loadC, storeC, vnil, vfaddr, vextract, flatT, flatE, flatC, vconv, vmm, vidxA, viaddrA, vfield, vlen, elemsOf, dF32, dF64, dI64, dU8, dBool,
            dStr, esOk, elemsS, vsliceX, bnd, ownV, ownC, own1, ownT, isSl, nSl, endL, Md.isOwn, purge, purgeH, purgeB, purgeE, hasName, name1, List.any_cons, List.any_nil, Md.isWr,
            pureV.pureP, Option.map, reduceIte, Nat.reduceEqDiff, Nat.reduceAdd, Nat.reduceMul, Nat.reduceLT, Nat.reduceLeDiff, List.mapM_cons, List.mapM_nil, Option.pure_def,
            Option.bind_eq_bind, Option.bind_some, implies_true, forall_const, beq_self_eq_true, decide_true, decide_false, eq_self, Int.reduceEq, Int.reduceLE, Int.reduceLT,
            if_true, if_false, fc24_0, fc24_1, fc24_2, fc24_3, fc24_4, Int.reduceAdd, Int.reduceSub, Int.reduceMul, Int.reduceNeg, Int.reducePow, Nat.reducePow, Int.reduceToNat,
            Nat.reduceSub, List.replicate, Nat.reduceBEq, wAs, wA, wC, zipW, noDupN, grpE, g_impl_ValidSkeleton, g_impl_LongOf, grpC, en0, dc_en0]
    repeat' (first
      | ((first | (refine eGI_of (fun hc => ?_) (fun hc => ?_)) | (refine eCc_of (fun hc => ?_) (fun hc => ?_)) | (have hc := True.intro; refine KW_refl ?_)) <;> (try simp only [Bool.not_eq_true', Bool.not_eq_false'] at hc) <;> (try simp only [hc, need_iff, reduceCtorEq, Bool.not_eq_true', decide_eq_false_iff_not, Bool.not_true, Bool.not_false, Bool.false_or, Bool.true_or, Bool.true_and, Bool.false_and, Bool.and_eq_true, Bool.or_eq_true, if_true, if_false, reduceIte, Bool.false_eq_true, and_true, true_and, false_or, or_false, decide_eq_true_eq, not_false_eq_true, not_true_eq_false] at h) <;> (try (have hc2 := hc; simp only [decide_eq_true_eq, decide_eq_false_iff_not] at hc2; simp only [hc2, if_true, if_false, reduceCtorEq, Bool.not_eq_true', decide_eq_false_iff_not, Bool.not_true, Bool.not_false, Bool.false_or, Bool.true_or, Bool.true_and, Bool.false_and, Bool.and_eq_true, Bool.or_eq_true, if_true, if_false, reduceIte, Bool.false_eq_true, and_true, true_and, false_or, or_false, decide_eq_true_eq, not_false_eq_true, not_true_eq_false] at h)) <;> simp only [hc,
      need_iff, h, grpS, grpD, grpF, grpL, eop, vop, bop, uop, fltop, convop, endOk, newE, new1, freshL, Md.isNew, outV, pureV, pureX, pure1, AV.cells, AV.one, storable, laid,
            refless, refless1, vload, loadC, storeC, vnil, vfaddr, vextract, flatT, flatE, flatC, vconv, vmm, vidxA, viaddrA, vfield, vlen, elemsOf, dF32, dF64, dI64, dU8, dBool,
            dStr, esOk, elemsS, vsliceX, bnd, ownV, ownC, own1, ownT, isSl, nSl, endL, Md.isOwn, purge, purgeH, purgeB, purgeE, hasName, name1, List.any_cons, List.any_nil, Md.isWr,
            pureV.pureP, Option.map, reduceIte, Nat.reduceEqDiff, Nat.reduceAdd, Nat.reduceMul, Nat.reduceLT, Nat.reduceLeDiff, List.mapM_cons, List.mapM_nil, Option.pure_def,
            Option.bind_eq_bind, Option.bind_some, implies_true, forall_const, beq_self_eq_true, decide_true, decide_false, eq_self, Int.reduceEq, Int.reduceLE, Int.reduceLT,
            if_true, if_false, fc24_0, fc24_1, fc24_2, fc24_3, fc24_4, Int.reduceAdd, Int.reduceSub, Int.reduceMul, Int.reduceNeg, Int.reducePow, Nat.reducePow, Int.reduceToNat,
            Nat.reduceSub, List.replicate, Nat.reduceBEq, wAs, wA, wC, zipW, noDupN, grpE, g_impl_ValidSkeleton, g_impl_LongOf, grpC, en0, dc_en0]))
    all_goals (repeat (replace h := And.right h))
    all_goals first
      | (refine eA_wk (wk_norm (ks := [4, 15, 16, 17]) (ls := [13]) ?_) (eA_cast ?_ (ih _ _ _ _ h h0)); (simp only [normOk, optIn, blkIn, nameIn,
      need_iff, h, grpS, grpD, grpF, grpL, eop, vop, bop, uop, fltop, convop, endOk, newE, new1, freshL, Md.isNew, outV, pureV, pureX, pure1, AV.cells, AV.one, storable, laid,
            refless, refless1, vload, loadC, storeC, vnil, vfaddr, vextract, flatT, flatE, flatC, vconv, vmm, vidxA, viaddrA, vfield, vlen, elemsOf, dF32, dF64, dI64, dU8, dBool,
            dStr, esOk, elemsS, vsliceX, bnd, ownV, ownC, own1, ownT, isSl, nSl, endL, Md.isOwn, purge, purgeH, purgeB, purgeE, hasName, name1, List.any_cons, List.any_nil, Md.isWr,
            pureV.pureP, Option.map, reduceIte, Nat.reduceEqDiff, Nat.reduceAdd, Nat.reduceMul, Nat.reduceLT, Nat.reduceLeDiff, List.mapM_cons, List.mapM_nil, Option.pure_def,
            Option.bind_eq_bind, Option.bind_some, implies_true, forall_const, beq_self_eq_true, decide_true, decide_false, eq_self, Int.reduceEq, Int.reduceLE, Int.reduceLT,
            if_true, if_false, fc24_0, fc24_1, fc24_2, fc24_3, fc24_4, Int.reduceAdd, Int.reduceSub, Int.reduceMul, Int.reduceNeg, Int.reducePow, Nat.reducePow, Int.reduceToNat,
            Nat.reduceSub, List.replicate, Nat.reduceBEq, wAs, wA, wC, zipW, noDupN, grpE, g_impl_ValidSkeleton, g_impl_LongOf, grpC, en0, dc_en0] <;> rfl); (simp only [normS, List.map_append, List.length_append, List.map_set, List.length_set, List.map_replicate, List.length_replicate, List.map_nil, List.map_cons,
      need_iff, h, grpS, grpD, grpF, grpL, eop, vop, bop, uop, fltop, convop, endOk, newE, new1, freshL, Md.isNew, outV, pureV, pureX, pure1, AV.cells, AV.one, storable, laid,
            refless, refless1, vload, loadC, storeC, vnil, vfaddr, vextract, flatT, flatE, flatC, vconv, vmm, vidxA, viaddrA, vfield, vlen, elemsOf, dF32, dF64, dI64, dU8, dBool,
            dStr, esOk, elemsS, vsliceX, bnd, ownV, ownC, own1, ownT, isSl, nSl, endL, Md.isOwn, purge, purgeH, purgeB, purgeE, hasName, name1, List.any_cons, List.any_nil, Md.isWr,
            pureV.pureP, Option.map, reduceIte, Nat.reduceEqDiff, Nat.reduceAdd, Nat.reduceMul, Nat.reduceLT, Nat.reduceLeDiff, List.mapM_cons, List.mapM_nil, Option.pure_def,
            Option.bind_eq_bind, Option.bind_some, implies_true, forall_const, beq_self_eq_true, decide_true, decide_false, eq_self, Int.reduceEq, Int.reduceLE, Int.reduceLT,
            if_true, if_false, fc24_0, fc24_1, fc24_2, fc24_3, fc24_4, Int.reduceAdd, Int.reduceSub, Int.reduceMul, Int.reduceNeg, Int.reducePow, Nat.reducePow, Int.reduceToNat,
            Nat.reduceSub, List.replicate, Nat.reduceBEq, wAs, wA, wC, zipW, noDupN, grpE, g_impl_ValidSkeleton, g_impl_LongOf, grpC, en0, dc_en0] <;> rfl))
      | (cases h; refine h0 _ (Wk.cast (wk_norm (ks := [4]) (ls := [13]) ?_) ?_); (simp only [normOk, optIn, blkIn, nameIn,
      grpS, grpD, grpF, grpL, eop, vop, bop, uop, fltop, convop, endOk, newE, new1, freshL, Md.isNew, outV, pureV, pureX, pure1, AV.cells, AV.one, storable, laid, refless, refless1,
            vload, loadC, storeC, vnil, vfaddr, vextract, flatT, flatE, flatC, vconv, vmm, vidxA, viaddrA, vfield, vlen, elemsOf, dF32, dF64, dI64, dU8, dBool, dStr, esOk, elemsS,
            vsliceX, bnd, ownV, ownC, own1, ownT, isSl, nSl, endL, Md.isOwn, purge, purgeH, purgeB, purgeE, hasName, name1, List.any_cons, List.any_nil, Md.isWr, pureV.pureP,
            Option.map, reduceIte, Nat.reduceEqDiff, Nat.reduceAdd, Nat.reduceMul, Nat.reduceLT, Nat.reduceLeDiff, List.mapM_cons, List.mapM_nil, Option.pure_def,
            Option.bind_eq_bind, Option.bind_some, implies_true, forall_const, beq_self_eq_true, decide_true, decide_false, eq_self, Int.reduceEq, Int.reduceLE, Int.reduceLT,
            if_true, if_false, fc24_0, fc24_1, fc24_2, fc24_3, fc24_4, Int.reduceAdd, Int.reduceSub, Int.reduceMul, Int.reduceNeg, Int.reducePow, Nat.reducePow, Int.reduceToNat,
            Nat.reduceSub, List.replicate, Nat.reduceBEq, wAs, wA, wC, zipW, noDupN, grpE, g_impl_ValidSkeleton, g_impl_LongOf, grpC, en0, dc_en0] <;> rfl); (simp only [normS, List.map_append, List.length_append, List.map_set, List.length_set, List.map_replicate, List.length_replicate,
      grpS, grpD, grpF, grpL, eop, vop, bop, uop, fltop, convop, endOk, newE, new1, freshL, Md.isNew, outV, pureV, pureX, pure1, AV.cells, AV.one, storable, laid, refless, refless1,
            vload, loadC, storeC, vnil, vfaddr, vextract, flatT, flatE, flatC, vconv, vmm, vidxA, viaddrA, vfield, vlen, elemsOf, dF32, dF64, dI64, dU8, dBool, dStr, esOk, elemsS,
            vsliceX, bnd, ownV, ownC, own1, ownT, isSl, nSl, endL, Md.isOwn, purge, purgeH, purgeB, purgeE, hasName, name1, List.any_cons, List.any_nil, Md.isWr, pureV.pureP,
            Option.map, reduceIte, Nat.reduceEqDiff, Nat.reduceAdd, Nat.reduceMul, Nat.reduceLT, Nat.reduceLeDiff, List.mapM_cons, List.mapM_nil, Option.pure_def,
            Option.bind_eq_bind, Option.bind_some, implies_true, forall_const, beq_self_eq_true, decide_true, decide_false, eq_self, Int.reduceEq, Int.reduceLE, Int.reduceLT,
            if_true, if_false, fc24_0, fc24_1, fc24_2, fc24_3, fc24_4, Int.reduceAdd, Int.reduceSub, Int.reduceMul, Int.reduceNeg, Int.reducePow, Nat.reducePow, Int.reduceToNat,
            Nat.reduceSub, List.replicate, Nat.reduceBEq, wAs, wA, wC, zipW, noDupN, grpE, g_impl_ValidSkeleton, g_impl_LongOf, grpC, en0, dc_en0] <;> rfl))
theorem s24 : ∀ vs r, g_impl_BoneLengths vs = some r → SaysM Try.prog (.own [1]) 24 vs r := by
  intro vs r h
  unfold g_impl_BoneLengths at h
  split at h
  · rename_i w0
    cases hd_y0 : decL dc_en0 w0 with
    | none => rw [hd_y0] at h; cases h
    | some y0 =>
    rw [hd_y0] at h
    obtain rfl := decL_inv dc_en0_inv hd_y0
    clear hd_y0
    dsimp only at h
    split at h
    · rename_i hp
      cases h
      refine spec_of (m := (.own [1])) (tab := tabOf [(63, wM .any g_impl_ValidSkeleton), (64, wM .any g_impl_LongOf)]) (cp := cp24) (ic := ic24) (rvl := [(.t 2), (.t 3)]) hm (tabOk_cons (m := .any) s63 (tabOk_cons (m := .any) s64 tabOk_nil)) Try.func24 rfl rfl rfl (by kernel_rfl) rfl (Nat.le_of_ble_eq_true rfl) (Nat.le_of_ble_eq_true rfl) ?_
      show eA _ _ _ _
      unfold ic24
      simp only [p_impl_BoneLengths, Bool.and_eq_true, Bool.or_eq_true, decide_eq_true_eq, Bool.not_eq_true', decide_eq_false_iff_not] at hp
      simp only [
          hp, grpS, grpD, grpF, grpL, eop, vop, bop, uop, fltop, convop, endOk, newE, new1, freshL, Md.isNew, outV, pureV, pureX, pure1, AV.cells, AV.one, storable, laid, refless,
                refless1, vload, loadC, storeC, vnil, vfaddr, vextract, flatT, flatE, flatC, vconv, vmm, vidxA, viaddrA, vfield, vlen, elemsOf, dF32, dF64, dI64, dU8, dBool, dStr,
                esOk, elemsS, vsliceX, bnd, ownV, ownC, own1, ownT, isSl, nSl, endL, Md.isOwn, purge, purgeH, purgeB, purgeE, hasName, name1, List.any_cons, List.any_nil, Md.isWr,
                pureV.pureP, Option.map, reduceIte, Nat.reduceEqDiff, Nat.reduceAdd, Nat.reduceMul, Nat.reduceLT, Nat.reduceLeDiff, List.mapM_cons, List.mapM_nil, Option.pure_def,
                Option.bind_eq_bind, Option.bind_some, implies_true, forall_const, beq_self_eq_true, decide_true, decide_false, eq_self, Int.reduceEq, Int.reduceLE, Int.reduceLT,
                if_true, if_false, fc24_0, fc24_1, fc24_2, fc24_3, fc24_4, Int.reduceAdd, Int.reduceSub, Int.reduceMul, Int.reduceNeg, Int.reducePow, Nat.reducePow, Int.reduceToNat,
                Nat.reduceSub, List.replicate, Nat.reduceBEq, wAs, wA, wC, zipW, noDupN, grpE, g_impl_ValidSkeleton, g_impl_LongOf, grpC, en0, dc_en0]
      repeat' (first
        | ((first | (refine eGI_of (fun h => ?_) (fun h => ?_)) | (refine eCc_of (fun h => ?_) (fun h => ?_)) | (have h := True.intro; refine KW_refl ?_)) <;> (try simp only [Bool.not_eq_true', Bool.not_eq_false'] at h) <;> (try simp only [h, reduceCtorEq, Bool.not_eq_true', decide_eq_false_iff_not, Bool.not_true, Bool.not_false, Bool.false_or, Bool.true_or, Bool.true_and, Bool.false_and, Bool.and_eq_true, Bool.or_eq_true, if_true, if_false, reduceIte, Bool.false_eq_true, and_true, true_and, false_or, or_false, decide_eq_true_eq, not_false_eq_true, not_true_eq_false] at hp) <;> (try (have h2 := h; simp only [decide_eq_true_eq, decide_eq_false_iff_not] at h2; (first | (replace h2 := eq_false h2) | (replace h2 := eq_true h2)); simp only [h2, if_true, if_false, false_or, true_or, or_true, or_false, and_true, true_and, not_false_eq_true, not_true_eq_false] at hp)) <;> simp only [h,
          hp, grpS, grpD, grpF, grpL, eop, vop, bop, uop, fltop, convop, endOk, newE, new1, freshL, Md.isNew, outV, pureV, pureX, pure1, AV.cells, AV.one, storable, laid, refless,
                refless1, vload, loadC, storeC, vnil, vfaddr, vextract, flatT, flatE, flatC, vconv, vmm, vidxA, viaddrA, vfield, vlen, elemsOf, dF32, dF64, dI64, dU8, dBool, dStr,
                esOk, elemsS, vsliceX, bnd, ownV, ownC, own1, ownT, isSl, nSl, endL, Md.isOwn, purge, purgeH, purgeB, purgeE, hasName, name1, List.any_cons, List.any_nil, Md.isWr,
                pureV.pureP, Option.map, reduceIte, Nat.reduceEqDiff, Nat.reduceAdd, Nat.reduceMul, Nat.reduceLT, Nat.reduceLeDiff, List.mapM_cons, List.mapM_nil, Option.pure_def,
                Option.bind_eq_bind, Option.bind_some, implies_true, forall_const, beq_self_eq_true, decide_true, decide_false, eq_self, Int.reduceEq, Int.reduceLE, Int.reduceLT,
                if_true, if_false, fc24_0, fc24_1, fc24_2, fc24_3, fc24_4, Int.reduceAdd, Int.reduceSub, Int.reduceMul, Int.reduceNeg, Int.reducePow, Nat.reducePow, Int.reduceToNat,
                Nat.reduceSub, List.replicate, Nat.reduceBEq, wAs, wA, wC, zipW, noDupN, grpE, g_impl_ValidSkeleton, g_impl_LongOf, grpC, en0, dc_en0])
        | (refine eA_wk (wk_norm (ks := [4, 15, 16, 17]) (ls := [13]) ?_) (eA_cast ?_ (sl24_0 y0 _ _ _ _ _ (getD_some (d := default) (x := (l_impl_BoneLengths_0 y0 (Int.toNat (((List.length y0 : Nat) : Int) - 0) + 2) (List.replicate (Int.toNat ((List.length y0 : Nat) : Int)) 0) 0)) ?_) ?_)); (simp only [nilS, nilV, normOk, optIn, blkIn, nameIn, 
          hp, grpS, grpD, grpF, grpL, eop, vop, bop, uop, fltop, convop, endOk, newE, new1, freshL, Md.isNew, outV, pureV, pureX, pure1, AV.cells, AV.one, storable, laid, refless,
                refless1, vload, loadC, storeC, vnil, vfaddr, vextract, flatT, flatE, flatC, vconv, vmm, vidxA, viaddrA, vfield, vlen, elemsOf, dF32, dF64, dI64, dU8, dBool, dStr,
                esOk, elemsS, vsliceX, bnd, ownV, ownC, own1, ownT, isSl, nSl, endL, Md.isOwn, purge, purgeH, purgeB, purgeE, hasName, name1, List.any_cons, List.any_nil, Md.isWr,
                pureV.pureP, Option.map, reduceIte, Nat.reduceEqDiff, Nat.reduceAdd, Nat.reduceMul, Nat.reduceLT, Nat.reduceLeDiff, List.mapM_cons, List.mapM_nil, Option.pure_def,
                Option.bind_eq_bind, Option.bind_some, implies_true, forall_const, beq_self_eq_true, decide_true, decide_false, eq_self, Int.reduceEq, Int.reduceLE, Int.reduceLT,
                if_true, if_false, fc24_0, fc24_1, fc24_2, fc24_3, fc24_4, Int.reduceAdd, Int.reduceSub, Int.reduceMul, Int.reduceNeg, Int.reducePow, Nat.reducePow, Int.reduceToNat,
                Nat.reduceSub, List.replicate, Nat.reduceBEq, wAs, wA, wC, zipW, noDupN, grpE, g_impl_ValidSkeleton, g_impl_LongOf, grpC, en0, dc_en0] <;> rfl); (simp only [nilS, nilV, normS,  List.map_append, List.length_append, List.map_set, List.length_set, List.map_replicate, List.length_replicate, List.map_nil, List.map_cons,
          hp, grpS, grpD, grpF, grpL, eop, vop, bop, uop, fltop, convop, endOk, newE, new1, freshL, Md.isNew, outV, pureV, pureX, pure1, AV.cells, AV.one, storable, laid, refless,
                refless1, vload, loadC, storeC, vnil, vfaddr, vextract, flatT, flatE, flatC, vconv, vmm, vidxA, viaddrA, vfield, vlen, elemsOf, dF32, dF64, dI64, dU8, dBool, dStr,
                esOk, elemsS, vsliceX, bnd, ownV, ownC, own1, ownT, isSl, nSl, endL, Md.isOwn, purge, purgeH, purgeB, purgeE, hasName, name1, List.any_cons, List.any_nil, Md.isWr,
                pureV.pureP, Option.map, reduceIte, Nat.reduceEqDiff, Nat.reduceAdd, Nat.reduceMul, Nat.reduceLT, Nat.reduceLeDiff, List.mapM_cons, List.mapM_nil, Option.pure_def,
                Option.bind_eq_bind, Option.bind_some, implies_true, forall_const, beq_self_eq_true, decide_true, decide_false, eq_self, Int.reduceEq, Int.reduceLE, Int.reduceLT,
                if_true, if_false, fc24_0, fc24_1, fc24_2, fc24_3, fc24_4, Int.reduceAdd, Int.reduceSub, Int.reduceMul, Int.reduceNeg, Int.reducePow, Nat.reducePow, Int.reduceToNat,
                Nat.reduceSub, List.replicate, Nat.reduceBEq, wAs, wA, wC, zipW, noDupN, grpE, g_impl_ValidSkeleton, g_impl_LongOf, grpC, en0, dc_en0] <;> rfl); (simp only [hp]); (
        intro st2 hw; (try simp only [reduceCtorEq, Bool.not_eq_true', decide_eq_false_iff_not, Bool.not_true, Bool.not_false, Bool.false_or, Bool.true_or, Bool.true_and, Bool.false_and, Bool.and_eq_true, Bool.or_eq_true, if_true, if_false, reduceIte, Bool.false_eq_true, and_true, true_and, false_or, or_false, decide_eq_true_eq, not_false_eq_true, not_true_eq_false] at hp); simp only [
          hp, grpS, grpD, grpF, grpL, eop, vop, bop, uop, fltop, convop, endOk, newE, new1, freshL, Md.isNew, outV, pureV, pureX, pure1, AV.cells, AV.one, storable, laid, refless,
                refless1, vload, loadC, storeC, vnil, vfaddr, vextract, flatT, flatE, flatC, vconv, vmm, vidxA, viaddrA, vfield, vlen, elemsOf, dF32, dF64, dI64, dU8, dBool, dStr,
                esOk, elemsS, vsliceX, bnd, ownV, ownC, own1, ownT, isSl, nSl, endL, Md.isOwn, purge, purgeH, purgeB, purgeE, hasName, name1, List.any_cons, List.any_nil, Md.isWr,
                pureV.pureP, Option.map, reduceIte, Nat.reduceEqDiff, Nat.reduceAdd, Nat.reduceMul, Nat.reduceLT, Nat.reduceLeDiff, List.mapM_cons, List.mapM_nil, Option.pure_def,
                Option.bind_eq_bind, Option.bind_some, implies_true, forall_const, beq_self_eq_true, decide_true, decide_false, eq_self, Int.reduceEq, Int.reduceLE, Int.reduceLT,
                if_true, if_false, fc24_0, fc24_1, fc24_2, fc24_3, fc24_4, Int.reduceAdd, Int.reduceSub, Int.reduceMul, Int.reduceNeg, Int.reducePow, Nat.reducePow, Int.reduceToNat,
                Nat.reduceSub, List.replicate, Nat.reduceBEq, wAs, wA, wC, zipW, noDupN, grpE, g_impl_ValidSkeleton, g_impl_LongOf, grpC, en0, dc_en0]; refine KW_of hw ?_; simp only [
          hp, grpS, grpD, grpF, grpL, eop, vop, bop, uop, fltop, convop, endOk, newE, new1, freshL, Md.isNew, outV, pureV, pureX, pure1, AV.cells, AV.one, storable, laid, refless,
                refless1, vload, loadC, storeC, vnil, vfaddr, vextract, flatT, flatE, flatC, vconv, vmm, vidxA, viaddrA, vfield, vlen, elemsOf, dF32, dF64, dI64, dU8, dBool, dStr,
                esOk, elemsS, vsliceX, bnd, ownV, ownC, own1, ownT, isSl, nSl, endL, Md.isOwn, purge, purgeH, purgeB, purgeE, hasName, name1, List.any_cons, List.any_nil, Md.isWr,
                pureV.pureP, Option.map, reduceIte, Nat.reduceEqDiff, Nat.reduceAdd, Nat.reduceMul, Nat.reduceLT, Nat.reduceLeDiff, List.mapM_cons, List.mapM_nil, Option.pure_def,
                Option.bind_eq_bind, Option.bind_some, implies_true, forall_const, beq_self_eq_true, decide_true, decide_false, eq_self, Int.reduceEq, Int.reduceLE, Int.reduceLT,
                if_true, if_false, fc24_0, fc24_1, fc24_2, fc24_3, fc24_4, Int.reduceAdd, Int.reduceSub, Int.reduceMul, Int.reduceNeg, Int.reducePow, Nat.reducePow, Int.reduceToNat,
                Nat.reduceSub, List.replicate, Nat.reduceBEq, wAs, wA, wC, zipW, noDupN, grpE, g_impl_ValidSkeleton, g_impl_LongOf, grpC, en0, dc_en0])))
      all_goals (try simp only [*, m_impl_BoneLengths, Bool.and_true, Bool.true_and, Bool.and_false, Bool.false_and, Bool.or_true, Bool.true_or, Bool.or_false, Bool.false_or, Bool.not_true, Bool.not_false, Bool.false_eq_true, if_true, if_false, reduceIte, decide_true, decide_false])
      all_goals (try (simp_all; done))
    · cases h
  · cases h
def m_laws_sameFloat (x0 : Nat) (x1 : Nat) : Bool := (if (feq .f64 x0 x0) = true then (if (feq .f64 x1 x1) = true then (if (feq .f64 x0 0) = true then (if (feq .f64 x1 0) = true
      then ((flt .f64 0 (fdiv .f64 4607182418800017408 x0)) == (flt .f64 0 (fdiv .f64 4607182418800017408 x1))) else (feq .f64 x0 x1)) else (feq .f64 x0 x1)) else false) else (!(feq
      .f64 x1 x1)))
def g_laws_sameFloat : List AV → Option AV
  | [.flt .f64 y0, .flt .f64 y1] => some (.bool (m_laws_sameFloat y0 y1))
  | _ => none
def ic65 : ICode := (.seq (.reg [⟨(some 4), none, (.mov (.c (.bool false)))⟩] [0, 1]) (.seq (.seq (.reg [⟨(some 5), none, (.mov (.t 0))⟩, ⟨(some 6), none, (.mov (.t 0))⟩, ⟨(some 7),
      none, (.bin .neq false (.t 5) (.t 6))⟩, ⟨(some 8), none, (.mov (.t 7))⟩, ⟨(some 9), (some (8, false)), (.mov (.t 1))⟩, ⟨(some 10), (some (8, false)), (.mov (.t 1))⟩, ⟨(some
      11), (some (8, false)), (.bin .neq false (.t 9) (.t 10))⟩, ⟨(some 12), none, (.pick (.t 8) (.c (.bool true)) (.t 11))⟩] [0, 1, 12]) (.cond (.t 12) (.seq (.reg [⟨(some 13),
      none, (.mov (.t 0))⟩, ⟨(some 14), none, (.mov (.t 0))⟩, ⟨(some 15), none, (.bin .neq false (.t 13) (.t 14))⟩, ⟨(some 16), none, (.mov (.t 15))⟩, ⟨(some 17), (some (16, true)),
      (.mov (.t 1))⟩, ⟨(some 18), (some (16, true)), (.mov (.t 1))⟩, ⟨(some 19), (some (16, true)), (.bin .neq false (.t 17) (.t 18))⟩, ⟨(some 20), none, (.pick (.t 16) (.t 19) (.c
      (.bool false)))⟩, ⟨(some 4), none, (.mov (.t 20))⟩] [4]) .ret) .skip)) (.seq (.seq (.reg [⟨(some 21), none, (.mov (.t 0))⟩, ⟨(some 22), none, (.bin .eql false (.t 21) (.c
      (.flt .f64 0)))⟩, ⟨(some 23), none, (.mov (.t 22))⟩, ⟨(some 24), (some (23, true)), (.mov (.t 1))⟩, ⟨(some 25), (some (23, true)), (.bin .eql false (.t 24) (.c (.flt .f64
      0)))⟩, ⟨(some 26), none, (.pick (.t 23) (.t 25) (.c (.bool false)))⟩] [0, 1, 26]) (.cond (.t 26) (.seq (.reg [⟨(some 27), none, (.mov (.t 0))⟩, ⟨(some 28), none, (.bin .quo
      false (.c (.flt .f64 4607182418800017408)) (.t 27))⟩, ⟨(some 29), none, (.bin .gtr false (.t 28) (.c (.flt .f64 0)))⟩, ⟨(some 30), none, (.mov (.t 1))⟩, ⟨(some 31), none,
      (.bin .quo false (.c (.flt .f64 4607182418800017408)) (.t 30))⟩, ⟨(some 32), none, (.bin .gtr false (.t 31) (.c (.flt .f64 0)))⟩, ⟨(some 33), none, (.bin .eql true (.t 29) (.t
      32))⟩, ⟨(some 4), none, (.mov (.t 33))⟩] [4]) .ret) .skip)) (.seq (.reg [⟨(some 34), none, (.mov (.t 0))⟩, ⟨(some 35), none, (.mov (.t 1))⟩, ⟨(some 36), none, (.bin .eql false
      (.t 34) (.t 35))⟩, ⟨(some 4), none, (.mov (.t 36))⟩] [4]) .ret))))
def cp65 : CP := CP.mk [] [] [[0, 1], [0, 1, 12], [4], [0, 1, 26], [4], [4]] 37
theorem fc65_0 : IntKind.wrap .i64 0 = 0 := by decide
theorem fc65_1 : IntKind.wrap .i64 1 = 1 := by decide
theorem fc65_2 : IntKind.wrap .i64 2 = 2 := by decide
theorem fc65_3 : IntKind.wrap .i64 3 = 3 := by decide
theorem fc65_4 : IntKind.wrap .i64 4 = 4 := by decide
theorem s65 : ∀ vs r, g_laws_sameFloat vs = some r → SaysM Try.prog .any 65 vs r := by
  intro vs r h
  unfold g_laws_sameFloat at h
  split at h
  · rename_i y0 y1
    cases h
    refine spec_of (m := .any) (tab := tabOf []) (cp := cp65) (ic := ic65) (rvl := [(.t 4)]) hm tabOk_nil Try.func65 rfl rfl rfl (by kernel_rfl) rfl (Nat.le_of_ble_eq_true rfl) (Nat.le_of_ble_eq_true rfl) ?_
    show eA _ _ _ _
    unfold ic65
    simp only [
        grpS, grpD, grpF, grpL, eop, vop, bop, uop, fltop, convop, endOk, newE, new1, freshL, Md.isNew, outV, pureV, pureX, pure1, AV.cells, AV.one, storable, laid, refless,
              refless1, vload, loadC, storeC, vnil, vfaddr, vextract, flatT, flatE, flatC, vconv, vmm, vidxA, viaddrA, vfield, vlen, elemsOf, dF32, dF64, dI64, dU8, dBool, dStr,
              esOk, elemsS, vsliceX, bnd, ownV, ownC, own1, ownT, isSl, nSl, endL, Md.isOwn, purge, purgeH, purgeB, purgeE, hasName, name1, List.any_cons, List.any_nil, Md.isWr,
              pureV.pureP, Option.map, reduceIte, Nat.reduceEqDiff, Nat.reduceAdd, Nat.reduceMul, Nat.reduceLT, Nat.reduceLeDiff, List.mapM_cons, List.mapM_nil, Option.pure_def,
              Option.bind_eq_bind, Option.bind_some, implies_true, forall_const, beq_self_eq_true, decide_true, decide_false, eq_self, Int.reduceEq, Int.reduceLE, Int.reduceLT,
              if_true, if_false, fc65_0, fc65_1, fc65_2, fc65_3, fc65_4, Int.reduceAdd, Int.reduceSub, Int.reduceMul, Int.reduceNeg, Int.reducePow, Nat.reducePow, Int.reduceToNat,
              Nat.reduceSub, List.replicate, Nat.reduceBEq, wAs, wA, wC, zipW, noDupN, grpE, grpC, en0, dc_en0, ↓b_pick, ePk_true, ePk_false]
    repeat' (first
      | ((first | (refine eGI_of (fun h => ?_) (fun h => ?_)) | (refine eCc_of (fun h => ?_) (fun h => ?_)) | (refine ePk_of (fun h => ?_) (fun h => ?_))) <;> (try simp only [Bool.not_eq_true', Bool.not_eq_false'] at h) <;> simp only [h,
        grpS, grpD, grpF, grpL, eop, vop, bop, uop, fltop, convop, endOk, newE, new1, freshL, Md.isNew, outV, pureV, pureX, pure1, AV.cells, AV.one, storable, laid, refless,
              refless1, vload, loadC, storeC, vnil, vfaddr, vextract, flatT, flatE, flatC, vconv, vmm, vidxA, viaddrA, vfield, vlen, elemsOf, dF32, dF64, dI64, dU8, dBool, dStr,
              esOk, elemsS, vsliceX, bnd, ownV, ownC, own1, ownT, isSl, nSl, endL, Md.isOwn, purge, purgeH, purgeB, purgeE, hasName, name1, List.any_cons, List.any_nil, Md.isWr,
              pureV.pureP, Option.map, reduceIte, Nat.reduceEqDiff, Nat.reduceAdd, Nat.reduceMul, Nat.reduceLT, Nat.reduceLeDiff, List.mapM_cons, List.mapM_nil, Option.pure_def,
              Option.bind_eq_bind, Option.bind_some, implies_true, forall_const, beq_self_eq_true, decide_true, decide_false, eq_self, Int.reduceEq, Int.reduceLE, Int.reduceLT,
              if_true, if_false, fc65_0, fc65_1, fc65_2, fc65_3, fc65_4, Int.reduceAdd, Int.reduceSub, Int.reduceMul, Int.reduceNeg, Int.reducePow, Nat.reducePow, Int.reduceToNat,
              Nat.reduceSub, List.replicate, Nat.reduceBEq, wAs, wA, wC, zipW, noDupN, grpE, grpC, en0, dc_en0, ↓b_pick, ePk_true, ePk_false]))
    all_goals (try simp only [*, m_laws_sameFloat, Bool.and_true, Bool.true_and, Bool.and_false, Bool.false_and, Bool.or_true, Bool.true_or, Bool.or_false, Bool.false_or, Bool.not_true, Bool.not_false, Bool.false_eq_true, if_true, if_false, reduceIte, decide_true, decide_false])
    all_goals (try (simp_all; done))
  · cases h
def l_laws_eqFloat32S_0 (x0 : (List Nat)) (x1 : (List Nat)) : Nat → Int → Option (Bool × Bool × Unit)
  | 0, _ => none
  | n + 1, z0_0 => (if (decide (z0_0 < ((List.length x0 : Nat) : Int))) = true then (need (inB z0_0 (List.length x0)) (need (inB z0_0 (List.length x1)) (if (m_laws_sameFloat (widen
        (atI x0 z0_0)) (widen (atI x1 z0_0))) = true then (l_laws_eqFloat32S_0 x0 x1 n (IntKind.wrap .i64 (z0_0 + 1))) else (some (true, false, default))))) else (some (false,
        default, ())))
def m_laws_eqFloat32S (x0 : (List Nat)) (x1 : (List Nat)) : Bool := (if (decide (((List.length x0 : Nat) : Int) = ((List.length x1 : Nat) : Int))) = true then (if (Option.getD
      (l_laws_eqFloat32S_0 x0 x1 (Int.toNat (((List.length x0 : Nat) : Int) - 0) + 2) 0) default).1 = true then (Option.getD (l_laws_eqFloat32S_0 x0 x1 (Int.toNat (((List.length x0
      : Nat) : Int) - 0) + 2) 0) default).2.1 else true) else false)
def p_laws_eqFloat32S (x0 : (List Nat)) (x1 : (List Nat)) : Bool := (!(decide (((List.length x0 : Nat) : Int) = ((List.length x1 : Nat) : Int))) || (Option.isSome
      (l_laws_eqFloat32S_0 x0 x1 (Int.toNat (((List.length x0 : Nat) : Int) - 0) + 2) 0)))
def g_laws_eqFloat32S : List AV → Option AV
  | [.sl w0, .sl w1] => (match decL dF32 w0 with | some y0 => ((match decL dF32 w1 with | some y1 => (if p_laws_eqFloat32S y0 y1 = true then some (.bool (m_laws_eqFloat32S y0 y1)) else none) | none => none)) | none => none)
  | _ => none
def lb25_0 : ICode := (.seq (.seq (.reg [⟨(some 11), none, (.mov (.t 5))⟩, ⟨(some 12), none, (.mov (.t 0))⟩, ⟨(some 13), none, (.len false (.t 12))⟩, ⟨(some 14), none, (.bin .lss
      false (.t 11) (.t 13))⟩] [0, 1, 5, 14]) (.cond (.t 14) .skip (.exit 0))) (.seq (.block 1 (.seq (.reg [⟨(some 17), none, (.mov (.t 0))⟩, ⟨(some 18), none, (.mov (.t 5))⟩,
      ⟨(some 19), none, (.iaddrS 1 (.t 17) (.t 18))⟩, ⟨(some 20), none, (.load none (.t 19))⟩, ⟨(some 21), none, (.conv (.flt .f64) (.t 20))⟩, ⟨(some 22), none, (.mov (.t 1))⟩,
      ⟨(some 23), none, (.mov (.t 5))⟩, ⟨(some 24), none, (.iaddrS 1 (.t 22) (.t 23))⟩, ⟨(some 25), none, (.load none (.t 24))⟩, ⟨(some 26), none, (.conv (.flt .f64) (.t 25))⟩,
      ⟨(some 27), none, (.call (.fn 65) [(.t 21), (.t 26)] [])⟩, ⟨(some 28), none, (.un .not (.t 27))⟩] [0, 1, 5, 28]) (.cond (.t 28) (.seq (.reg [⟨(some 4), none, (.mov (.c (.bool
      false)))⟩] [4]) .ret) .skip))) (.reg [⟨(some 15), none, (.mov (.t 5))⟩, ⟨(some 16), none, (.bin .add false (.t 15) (.c (.int .i64 1)))⟩, ⟨(some 5), none, (.mov (.t 16))⟩] [0,
      1, 5])))
def ic25 : ICode := (.seq (.reg [⟨(some 4), none, (.mov (.c (.bool false)))⟩] [0, 1]) (.seq (.seq (.reg [⟨(some 6), none, (.mov (.t 0))⟩, ⟨(some 7), none, (.len false (.t 6))⟩,
      ⟨(some 8), none, (.mov (.t 1))⟩, ⟨(some 9), none, (.len false (.t 8))⟩, ⟨(some 10), none, (.bin .neq false (.t 7) (.t 9))⟩] [0, 1, 10]) (.cond (.t 10) (.seq (.reg [⟨(some 4),
      none, (.mov (.c (.bool false)))⟩] [4]) .ret) .skip)) (.seq (.seq (.reg [⟨(some 5), none, (.mov (.c (.int .i64 0)))⟩] [0, 1, 5]) (.block 0 (.loop lb25_0))) (.seq (.reg [⟨(some
      4), none, (.mov (.c (.bool true)))⟩] [4]) .ret))))
def cp25 : CP := CP.mk [] [] [[0, 1], [0, 1, 10], [4], [0, 1, 5], [0, 1, 5, 14], [0, 1, 5], [0, 1, 5, 28], [4], [4]] 29
theorem fc25_0 : IntKind.wrap .i64 0 = 0 := by decide
theorem fc25_1 : IntKind.wrap .i64 1 = 1 := by decide
theorem fc25_2 : IntKind.wrap .i64 2 = 2 := by decide
theorem fc25_3 : IntKind.wrap .i64 3 = 3 := by decide
theorem fc25_4 : IntKind.wrap .i64 4 = 4 := by decide
theorem sl25_0 (x0 : (List Nat)) (x1 : (List Nat)) : ∀ (n : Nat) (z0_0 : Int) (o : (Bool × Bool × Unit)) (K : IExit → St → Prop), l_laws_eqFloat32S_0 x0 x1 n z0_0 = some o → (∀ st,
      o.1 = true → outM .any st [(.t 4)] = some (.bool o.2.1) → K .ret st) → (∀ st, o.1 = false → Wk st (⟨[], []⟩ : St) → K (.exit 0) st) → eA (tabOf [(65, wM .any
      g_laws_sameFloat)]) (.loop lb25_0) (⟨[(0, (.sl (List.map (AV.flt .f32) x0))), (1, (.sl (List.map (AV.flt .f32) x1))), (5, (.int .i64 z0_0))], []⟩ : St) K := by
  intro n
  induction n with
  | zero =>
    intro z0_0 o K h h0 h1
    simp only [l_laws_eqFloat32S_0, reduceCtorEq] at h
  | succ n ih =>
    intro z0_0 o K h h0 h1
    refine eA_loop ?_
    unfold lb25_0
    unfold l_laws_eqFloat32S_0 at h
    (try simp only [need_iff] at h)
    simp only [
      need_iff, h, grpS, grpD, grpF, grpL, eop, vop, bop, uop, fltop, convop, endOk, newE, new1, freshL, Md.isNew, outV, pureV, pureX, pure1, AV.cells, AV.one, storable, laid,
            refless, refless1, vload, loadC, storeC, vnil, vfaddr, vextract, flatT, flatE, flatC, vconv, vmm, vidxA, viaddrA, vfield, vlen, elemsOf, dF32, dF64, dI64, dU8, dBool,
            dStr, esOk, elemsS, vsliceX, bnd, ownV, ownC, own1, ownT, isSl, nSl, endL, Md.isOwn, purge, purgeH, purgeB, purgeE, hasName, name1, List.any_cons, List.any_nil, Md.isWr,
            pureV.pureP, Option.map, reduceIte, Nat.reduceEqDiff, Nat.reduceAdd, Nat.reduceMul, Nat.reduceLT, Nat.reduceLeDiff, List.mapM_cons, List.mapM_nil, Option.pure_def,
            Option.bind_eq_bind, Option.bind_some, implies_true, forall_const, beq_self_eq_true, decide_true, decide_false, eq_self, Int.reduceEq, Int.reduceLE, Int.reduceLT,
            if_true, if_false, fc25_0, fc25_1, fc25_2, fc25_3, fc25_4, Int.reduceAdd, Int.reduceSub, Int.reduceMul, Int.reduceNeg, Int.reducePow, Nat.reducePow, Int.reduceToNat,
            Nat.reduceSub, List.replicate, Nat.reduceBEq, wAs, wA, wC, zipW, noDupN, grpE, g_laws_sameFloat, grpC, en0, dc_en0]
    repeat' (first
      | ((first | (refine eGI_of (fun hc => ?_) (fun hc => ?_)) | (refine eCc_of (fun hc => ?_) (fun hc => ?_)) | (have hc := True.intro; refine KW_refl ?_)) <;> (try simp only [Bool.not_eq_true', Bool.not_eq_false'] at hc) <;> (try simp only [hc, need_iff, reduceCtorEq, Bool.not_eq_true', decide_eq_false_iff_not, Bool.not_true, Bool.not_false, Bool.false_or, Bool.true_or, Bool.true_and, Bool.false_and, Bool.and_eq_true, Bool.or_eq_true, if_true, if_false, reduceIte, Bool.false_eq_true, and_true, true_and, false_or, or_false, decide_eq_true_eq, not_false_eq_true, not_true_eq_false] at h) <;> (try (have hc2 := hc; simp only [decide_eq_true_eq, decide_eq_false_iff_not] at hc2; simp only [hc2, if_true, if_false, reduceCtorEq, Bool.not_eq_true', decide_eq_false_iff_not, Bool.not_true, Bool.not_false, Bool.false_or, Bool.true_or, Bool.true_and, Bool.false_and, Bool.and_eq_true, Bool.or_eq_true, if_true, if_false, reduceIte, Bool.false_eq_true, and_true, true_and, false_or, or_false, decide_eq_true_eq, not_false_eq_true, not_true_eq_false] at h)) <;> simp only [hc,
      need_iff, h, grpS, grpD, grpF, grpL, eop, vop, bop, uop, fltop, convop, endOk, newE, new1, freshL, Md.isNew, outV, pureV, pureX, pure1, AV.cells, AV.one, storable, laid,
            refless, refless1, vload, loadC, storeC, vnil, vfaddr, vextract, flatT, flatE, flatC, vconv, vmm, vidxA, viaddrA, vfield, vlen, elemsOf, dF32, dF64, dI64, dU8, dBool,
            dStr, esOk, elemsS, vsliceX, bnd, ownV, ownC, own1, ownT, isSl, nSl, endL, Md.isOwn, purge, purgeH, purgeB, purgeE, hasName, name1, List.any_cons, List.any_nil, Md.isWr,
            pureV.pureP, Option.map, reduceIte, Nat.reduceEqDiff, Nat.reduceAdd, Nat.reduceMul, Nat.reduceLT, Nat.reduceLeDiff, List.mapM_cons, List.mapM_nil, Option.pure_def,
            Option.bind_eq_bind, Option.bind_some, implies_true, forall_const, beq_self_eq_true, decide_true, decide_false, eq_self, Int.reduceEq, Int.reduceLE, Int.reduceLT,
            if_true, if_false, fc25_0, fc25_1, fc25_2, fc25_3, fc25_4, Int.reduceAdd, Int.reduceSub, Int.reduceMul, Int.reduceNeg, Int.reducePow, Nat.reducePow, Int.reduceToNat,
            Nat.reduceSub, List.replicate, Nat.reduceBEq, wAs, wA, wC, zipW, noDupN, grpE, g_laws_sameFloat, grpC, en0, dc_en0]))
    all_goals (repeat (replace h := And.right h))
    all_goals first
      | (refine eA_wk (wk_norm (ks := [0, 1, 5]) (ls := []) ?_) (eA_cast ?_ (ih _ _ _ h h0 h1)); (simp only [normOk, optIn, blkIn, nameIn,
      need_iff, h, grpS, grpD, grpF, grpL, eop, vop, bop, uop, fltop, convop, endOk, newE, new1, freshL, Md.isNew, outV, pureV, pureX, pure1, AV.cells, AV.one, storable, laid,
            refless, refless1, vload, loadC, storeC, vnil, vfaddr, vextract, flatT, flatE, flatC, vconv, vmm, vidxA, viaddrA, vfield, vlen, elemsOf, dF32, dF64, dI64, dU8, dBool,
            dStr, esOk, elemsS, vsliceX, bnd, ownV, ownC, own1, ownT, isSl, nSl, endL, Md.isOwn, purge, purgeH, purgeB, purgeE, hasName, name1, List.any_cons, List.any_nil, Md.isWr,
            pureV.pureP, Option.map, reduceIte, Nat.reduceEqDiff, Nat.reduceAdd, Nat.reduceMul, Nat.reduceLT, Nat.reduceLeDiff, List.mapM_cons, List.mapM_nil, Option.pure_def,
            Option.bind_eq_bind, Option.bind_some, implies_true, forall_const, beq_self_eq_true, decide_true, decide_false, eq_self, Int.reduceEq, Int.reduceLE, Int.reduceLT,
            if_true, if_false, fc25_0, fc25_1, fc25_2, fc25_3, fc25_4, Int.reduceAdd, Int.reduceSub, Int.reduceMul, Int.reduceNeg, Int.reducePow, Nat.reducePow, Int.reduceToNat,
            Nat.reduceSub, List.replicate, Nat.reduceBEq, wAs, wA, wC, zipW, noDupN, grpE, g_laws_sameFloat, grpC, en0, dc_en0] <;> rfl); (simp only [normS, List.map_append, List.length_append, List.map_set, List.length_set, List.map_replicate, List.length_replicate, List.map_nil, List.map_cons,
      need_iff, h, grpS, grpD, grpF, grpL, eop, vop, bop, uop, fltop, convop, endOk, newE, new1, freshL, Md.isNew, outV, pureV, pureX, pure1, AV.cells, AV.one, storable, laid,
            refless, refless1, vload, loadC, storeC, vnil, vfaddr, vextract, flatT, flatE, flatC, vconv, vmm, vidxA, viaddrA, vfield, vlen, elemsOf, dF32, dF64, dI64, dU8, dBool,
            dStr, esOk, elemsS, vsliceX, bnd, ownV, ownC, own1, ownT, isSl, nSl, endL, Md.isOwn, purge, purgeH, purgeB, purgeE, hasName, name1, List.any_cons, List.any_nil, Md.isWr,
            pureV.pureP, Option.map, reduceIte, Nat.reduceEqDiff, Nat.reduceAdd, Nat.reduceMul, Nat.reduceLT, Nat.reduceLeDiff, List.mapM_cons, List.mapM_nil, Option.pure_def,
            Option.bind_eq_bind, Option.bind_some, implies_true, forall_const, beq_self_eq_true, decide_true, decide_false, eq_self, Int.reduceEq, Int.reduceLE, Int.reduceLT,
            if_true, if_false, fc25_0, fc25_1, fc25_2, fc25_3, fc25_4, Int.reduceAdd, Int.reduceSub, Int.reduceMul, Int.reduceNeg, Int.reducePow, Nat.reducePow, Int.reduceToNat,
            Nat.reduceSub, List.replicate, Nat.reduceBEq, wAs, wA, wC, zipW, noDupN, grpE, g_laws_sameFloat, grpC, en0, dc_en0] <;> rfl))
      | (cases h; refine h0 _ rfl ?_; simp only [
      grpS, grpD, grpF, grpL, eop, vop, bop, uop, fltop, convop, endOk, newE, new1, freshL, Md.isNew, outV, pureV, pureX, pure1, AV.cells, AV.one, storable, laid, refless, refless1,
            vload, loadC, storeC, vnil, vfaddr, vextract, flatT, flatE, flatC, vconv, vmm, vidxA, viaddrA, vfield, vlen, elemsOf, dF32, dF64, dI64, dU8, dBool, dStr, esOk, elemsS,
            vsliceX, bnd, ownV, ownC, own1, ownT, isSl, nSl, endL, Md.isOwn, purge, purgeH, purgeB, purgeE, hasName, name1, List.any_cons, List.any_nil, Md.isWr, pureV.pureP,
            Option.map, reduceIte, Nat.reduceEqDiff, Nat.reduceAdd, Nat.reduceMul, Nat.reduceLT, Nat.reduceLeDiff, List.mapM_cons, List.mapM_nil, Option.pure_def,
            Option.bind_eq_bind, Option.bind_some, implies_true, forall_const, beq_self_eq_true, decide_true, decide_false, eq_self, Int.reduceEq, Int.reduceLE, Int.reduceLT,
            if_true, if_false, fc25_0, fc25_1, fc25_2, fc25_3, fc25_4, Int.reduceAdd, Int.reduceSub, Int.reduceMul, Int.reduceNeg, Int.reducePow, Nat.reducePow, Int.reduceToNat,
            Nat.reduceSub, List.replicate, Nat.reduceBEq, wAs, wA, wC, zipW, noDupN, grpE, g_laws_sameFloat, grpC, en0, dc_en0])
      | (cases h; refine h1 _ rfl (Wk.cast (wk_norm (ks := []) (ls := []) ?_) ?_); (simp only [normOk, optIn, blkIn, nameIn,
      grpS, grpD, grpF, grpL, eop, vop, bop, uop, fltop, convop, endOk, newE, new1, freshL, Md.isNew, outV, pureV, pureX, pure1, AV.cells, AV.one, storable, laid, refless, refless1,
            vload, loadC, storeC, vnil, vfaddr, vextract, flatT, flatE, flatC, vconv, vmm, vidxA, viaddrA, vfield, vlen, elemsOf, dF32, dF64, dI64, dU8, dBool, dStr, esOk, elemsS,
            vsliceX, bnd, ownV, ownC, own1, ownT, isSl, nSl, endL, Md.isOwn, purge, purgeH, purgeB, purgeE, hasName, name1, List.any_cons, List.any_nil, Md.isWr, pureV.pureP,
            Option.map, reduceIte, Nat.reduceEqDiff, Nat.reduceAdd, Nat.reduceMul, Nat.reduceLT, Nat.reduceLeDiff, List.mapM_cons, List.mapM_nil, Option.pure_def,
            Option.bind_eq_bind, Option.bind_some, implies_true, forall_const, beq_self_eq_true, decide_true, decide_false, eq_self, Int.reduceEq, Int.reduceLE, Int.reduceLT,
            if_true, if_false, fc25_0, fc25_1, fc25_2, fc25_3, fc25_4, Int.reduceAdd, Int.reduceSub, Int.reduceMul, Int.reduceNeg, Int.reducePow, Nat.reducePow, Int.reduceToNat,
            Nat.reduceSub, List.replicate, Nat.reduceBEq, wAs, wA, wC, zipW, noDupN, grpE, g_laws_sameFloat, grpC, en0, dc_en0] <;> rfl); (simp only [normS, List.map_append, List.length_append, List.map_set, List.length_set, List.map_replicate, List.length_replicate,
      grpS, grpD, grpF, grpL, eop, vop, bop, uop, fltop, convop, endOk, newE, new1, freshL, Md.isNew, outV, pureV, pureX, pure1, AV.cells, AV.one, storable, laid, refless, refless1,
            vload, loadC, storeC, vnil, vfaddr, vextract, flatT, flatE, flatC, vconv, vmm, vidxA, viaddrA, vfield, vlen, elemsOf, dF32, dF64, dI64, dU8, dBool, dStr, esOk, elemsS,
            vsliceX, bnd, ownV, ownC, own1, ownT, isSl, nSl, endL, Md.isOwn, purge, purgeH, purgeB, purgeE, hasName, name1, List.any_cons, List.any_nil, Md.isWr, pureV.pureP,
            Option.map, reduceIte, Nat.reduceEqDiff, Nat.reduceAdd, Nat.reduceMul, Nat.reduceLT, Nat.reduceLeDiff, List.mapM_cons, List.mapM_nil, Option.pure_def,
            Option.bind_eq_bind, Option.bind_some, implies_true, forall_const, beq_self_eq_true, decide_true, decide_false, eq_self, Int.reduceEq, Int.reduceLE, Int.reduceLT,
            if_true, if_false, fc25_0, fc25_1, fc25_2, fc25_3, fc25_4, Int.reduceAdd, Int.reduceSub, Int.reduceMul, Int.reduceNeg, Int.reducePow, Nat.reducePow, Int.reduceToNat,
            Nat.reduceSub, List.replicate, Nat.reduceBEq, wAs, wA, wC, zipW, noDupN, grpE, g_laws_sameFloat, grpC, en0, dc_en0] <;> rfl))
theorem s25 : ∀ vs r, g_laws_eqFloat32S vs = some r → SaysM Try.prog .any 25 vs r := by
  intro vs r h
  unfold g_laws_eqFloat32S at h
  split at h
  · rename_i w0 w1
    cases hd_y0 : decL dF32 w0 with
    | none => rw [hd_y0] at h; cases h
    | some y0 =>
    rw [hd_y0] at h
    obtain rfl := decL_inv dF32_inv hd_y0
    clear hd_y0
    dsimp only at h
    cases hd_y1 : decL dF32 w1 with
    | none => rw [hd_y1] at h; cases h
    | some y1 =>
    rw [hd_y1] at h
    obtain rfl := decL_inv dF32_inv hd_y1
    clear hd_y1
    dsimp only at h
    split at h
    · rename_i hp
      cases h
      refine spec_of (m := .any) (tab := tabOf [(65, wM .any g_laws_sameFloat)]) (cp := cp25) (ic := ic25) (rvl := [(.t 4)]) hm (tabOk_cons (m := .any) s65 tabOk_nil) Try.func25 rfl rfl rfl (by kernel_rfl) rfl (Nat.le_of_ble_eq_true rfl) (Nat.le_of_ble_eq_true rfl) ?_
      show eA _ _ _ _
      unfold ic25
      simp only [p_laws_eqFloat32S, Bool.and_eq_true, Bool.or_eq_true, decide_eq_true_eq, Bool.not_eq_true', decide_eq_false_iff_not] at hp
      simp only [
          hp, grpS, grpD, grpF, grpL, eop, vop, bop, uop, fltop, convop, endOk, newE, new1, freshL, Md.isNew, outV, pureV, pureX, pure1, AV.cells, AV.one, storable, laid, refless,
                refless1, vload, loadC, storeC, vnil, vfaddr, vextract, flatT, flatE, flatC, vconv, vmm, vidxA, viaddrA, vfield, vlen, elemsOf, dF32, dF64, dI64, dU8, dBool, dStr,
                esOk, elemsS, vsliceX, bnd, ownV, ownC, own1, ownT, isSl, nSl, endL, Md.isOwn, purge, purgeH, purgeB, purgeE, hasName, name1, List.any_cons, List.any_nil, Md.isWr,
                pureV.pureP, Option.map, reduceIte, Nat.reduceEqDiff, Nat.reduceAdd, Nat.reduceMul, Nat.reduceLT, Nat.reduceLeDiff, List.mapM_cons, List.mapM_nil, Option.pure_def,
                Option.bind_eq_bind, Option.bind_some, implies_true, forall_const, beq_self_eq_true, decide_true, decide_false, eq_self, Int.reduceEq, Int.reduceLE, Int.reduceLT,
                if_true, if_false, fc25_0, fc25_1, fc25_2, fc25_3, fc25_4, Int.reduceAdd, Int.reduceSub, Int.reduceMul, Int.reduceNeg, Int.reducePow, Nat.reducePow, Int.reduceToNat,
                Nat.reduceSub, List.replicate, Nat.reduceBEq, wAs, wA, wC, zipW, noDupN, grpE, g_laws_sameFloat, grpC, en0, dc_en0]
      repeat' (first
        | ((first | (refine eGI_of (fun h => ?_) (fun h => ?_)) | (refine eCc_of (fun h => ?_) (fun h => ?_)) | (have h := True.intro; refine KW_refl ?_)) <;> (try simp only [Bool.not_eq_true', Bool.not_eq_false'] at h) <;> (try simp only [h, reduceCtorEq, Bool.not_eq_true', decide_eq_false_iff_not, Bool.not_true, Bool.not_false, Bool.false_or, Bool.true_or, Bool.true_and, Bool.false_and, Bool.and_eq_true, Bool.or_eq_true, if_true, if_false, reduceIte, Bool.false_eq_true, and_true, true_and, false_or, or_false, decide_eq_true_eq, not_false_eq_true, not_true_eq_false] at hp) <;> (try (have h2 := h; simp only [decide_eq_true_eq, decide_eq_false_iff_not] at h2; (first | (replace h2 := eq_false h2) | (replace h2 := eq_true h2)); simp only [h2, if_true, if_false, false_or, true_or, or_true, or_false, and_true, true_and, not_false_eq_true, not_true_eq_false] at hp)) <;> simp only [h,
          hp, grpS, grpD, grpF, grpL, eop, vop, bop, uop, fltop, convop, endOk, newE, new1, freshL, Md.isNew, outV, pureV, pureX, pure1, AV.cells, AV.one, storable, laid, refless,
                refless1, vload, loadC, storeC, vnil, vfaddr, vextract, flatT, flatE, flatC, vconv, vmm, vidxA, viaddrA, vfield, vlen, elemsOf, dF32, dF64, dI64, dU8, dBool, dStr,
                esOk, elemsS, vsliceX, bnd, ownV, ownC, own1, ownT, isSl, nSl, endL, Md.isOwn, purge, purgeH, purgeB, purgeE, hasName, name1, List.any_cons, List.any_nil, Md.isWr,
                pureV.pureP, Option.map, reduceIte, Nat.reduceEqDiff, Nat.reduceAdd, Nat.reduceMul, Nat.reduceLT, Nat.reduceLeDiff, List.mapM_cons, List.mapM_nil, Option.pure_def,
                Option.bind_eq_bind, Option.bind_some, implies_true, forall_const, beq_self_eq_true, decide_true, decide_false, eq_self, Int.reduceEq, Int.reduceLE, Int.reduceLT,
                if_true, if_false, fc25_0, fc25_1, fc25_2, fc25_3, fc25_4, Int.reduceAdd, Int.reduceSub, Int.reduceMul, Int.reduceNeg, Int.reducePow, Nat.reducePow, Int.reduceToNat,
                Nat.reduceSub, List.replicate, Nat.reduceBEq, wAs, wA, wC, zipW, noDupN, grpE, g_laws_sameFloat, grpC, en0, dc_en0])
        | (refine eA_wk (wk_norm (ks := [0, 1, 5]) (ls := []) ?_) (eA_cast ?_ (sl25_0 y0 y1 _ _ _ _ (getD_some (d := default) (x := (l_laws_eqFloat32S_0 y0 y1 (Int.toNat (((List.length y0 : Nat) : Int) - 0) + 2) 0)) ?_) ?_ ?_)); (simp only [nilS, nilV, normOk, optIn, blkIn, nameIn, 
          hp, grpS, grpD, grpF, grpL, eop, vop, bop, uop, fltop, convop, endOk, newE, new1, freshL, Md.isNew, outV, pureV, pureX, pure1, AV.cells, AV.one, storable, laid, refless,
                refless1, vload, loadC, storeC, vnil, vfaddr, vextract, flatT, flatE, flatC, vconv, vmm, vidxA, viaddrA, vfield, vlen, elemsOf, dF32, dF64, dI64, dU8, dBool, dStr,
                esOk, elemsS, vsliceX, bnd, ownV, ownC, own1, ownT, isSl, nSl, endL, Md.isOwn, purge, purgeH, purgeB, purgeE, hasName, name1, List.any_cons, List.any_nil, Md.isWr,
                pureV.pureP, Option.map, reduceIte, Nat.reduceEqDiff, Nat.reduceAdd, Nat.reduceMul, Nat.reduceLT, Nat.reduceLeDiff, List.mapM_cons, List.mapM_nil, Option.pure_def,
                Option.bind_eq_bind, Option.bind_some, implies_true, forall_const, beq_self_eq_true, decide_true, decide_false, eq_self, Int.reduceEq, Int.reduceLE, Int.reduceLT,
                if_true, if_false, fc25_0, fc25_1, fc25_2, fc25_3, fc25_4, Int.reduceAdd, Int.reduceSub, Int.reduceMul, Int.reduceNeg, Int.reducePow, Nat.reducePow, Int.reduceToNat,
                Nat.reduceSub, List.replicate, Nat.reduceBEq, wAs, wA, wC, zipW, noDupN, grpE, g_laws_sameFloat, grpC, en0, dc_en0] <;> rfl); (simp only [nilS, nilV, normS,  List.map_append, List.length_append, List.map_set, List.length_set, List.map_replicate, List.length_replicate, List.map_nil, List.map_cons,
          hp, grpS, grpD, grpF, grpL, eop, vop, bop, uop, fltop, convop, endOk, newE, new1, freshL, Md.isNew, outV, pureV, pureX, pure1, AV.cells, AV.one, storable, laid, refless,
                refless1, vload, loadC, storeC, vnil, vfaddr, vextract, flatT, flatE, flatC, vconv, vmm, vidxA, viaddrA, vfield, vlen, elemsOf, dF32, dF64, dI64, dU8, dBool, dStr,
                esOk, elemsS, vsliceX, bnd, ownV, ownC, own1, ownT, isSl, nSl, endL, Md.isOwn, purge, purgeH, purgeB, purgeE, hasName, name1, List.any_cons, List.any_nil, Md.isWr,
                pureV.pureP, Option.map, reduceIte, Nat.reduceEqDiff, Nat.reduceAdd, Nat.reduceMul, Nat.reduceLT, Nat.reduceLeDiff, List.mapM_cons, List.mapM_nil, Option.pure_def,
                Option.bind_eq_bind, Option.bind_some, implies_true, forall_const, beq_self_eq_true, decide_true, decide_false, eq_self, Int.reduceEq, Int.reduceLE, Int.reduceLT,
                if_true, if_false, fc25_0, fc25_1, fc25_2, fc25_3, fc25_4, Int.reduceAdd, Int.reduceSub, Int.reduceMul, Int.reduceNeg, Int.reducePow, Nat.reducePow, Int.reduceToNat,
                Nat.reduceSub, List.replicate, Nat.reduceBEq, wAs, wA, wC, zipW, noDupN, grpE, g_laws_sameFloat, grpC, en0, dc_en0] <;> rfl); (simp only [hp]); (
        intro st2 ht hw; simp only [Kq_ret, Kb_ret, Kl_ret, ret_ok]; first | exact h0 _ hw | exact h0 _ rfl hw | exact h1 _ rfl hw | exact h0 _ ht hw | exact h1 _ ht hw | refine ⟨_, hw, ?_⟩); rotate_left; (
        intro st2 ht hw; (try simp only [ht, reduceCtorEq, Bool.not_eq_true', decide_eq_false_iff_not, Bool.not_true, Bool.not_false, Bool.false_or, Bool.true_or, Bool.true_and, Bool.false_and, Bool.and_eq_true, Bool.or_eq_true, if_true, if_false, reduceIte, Bool.false_eq_true, and_true, true_and, false_or, or_false, decide_eq_true_eq, not_false_eq_true, not_true_eq_false] at hp); simp only [
          hp, grpS, grpD, grpF, grpL, eop, vop, bop, uop, fltop, convop, endOk, newE, new1, freshL, Md.isNew, outV, pureV, pureX, pure1, AV.cells, AV.one, storable, laid, refless,
                refless1, vload, loadC, storeC, vnil, vfaddr, vextract, flatT, flatE, flatC, vconv, vmm, vidxA, viaddrA, vfield, vlen, elemsOf, dF32, dF64, dI64, dU8, dBool, dStr,
                esOk, elemsS, vsliceX, bnd, ownV, ownC, own1, ownT, isSl, nSl, endL, Md.isOwn, purge, purgeH, purgeB, purgeE, hasName, name1, List.any_cons, List.any_nil, Md.isWr,
                pureV.pureP, Option.map, reduceIte, Nat.reduceEqDiff, Nat.reduceAdd, Nat.reduceMul, Nat.reduceLT, Nat.reduceLeDiff, List.mapM_cons, List.mapM_nil, Option.pure_def,
                Option.bind_eq_bind, Option.bind_some, implies_true, forall_const, beq_self_eq_true, decide_true, decide_false, eq_self, Int.reduceEq, Int.reduceLE, Int.reduceLT,
                if_true, if_false, fc25_0, fc25_1, fc25_2, fc25_3, fc25_4, Int.reduceAdd, Int.reduceSub, Int.reduceMul, Int.reduceNeg, Int.reducePow, Nat.reducePow, Int.reduceToNat,
                Nat.reduceSub, List.replicate, Nat.reduceBEq, wAs, wA, wC, zipW, noDupN, grpE, g_laws_sameFloat, grpC, en0, dc_en0]; refine KW_of hw ?_; simp only [ht, 
          hp, grpS, grpD, grpF, grpL, eop, vop, bop, uop, fltop, convop, endOk, newE, new1, freshL, Md.isNew, outV, pureV, pureX, pure1, AV.cells, AV.one, storable, laid, refless,
                refless1, vload, loadC, storeC, vnil, vfaddr, vextract, flatT, flatE, flatC, vconv, vmm, vidxA, viaddrA, vfield, vlen, elemsOf, dF32, dF64, dI64, dU8, dBool, dStr,
                esOk, elemsS, vsliceX, bnd, ownV, ownC, own1, ownT, isSl, nSl, endL, Md.isOwn, purge, purgeH, purgeB, purgeE, hasName, name1, List.any_cons, List.any_nil, Md.isWr,
                pureV.pureP, Option.map, reduceIte, Nat.reduceEqDiff, Nat.reduceAdd, Nat.reduceMul, Nat.reduceLT, Nat.reduceLeDiff, List.mapM_cons, List.mapM_nil, Option.pure_def,
                Option.bind_eq_bind, Option.bind_some, implies_true, forall_const, beq_self_eq_true, decide_true, decide_false, eq_self, Int.reduceEq, Int.reduceLE, Int.reduceLT,
                if_true, if_false, fc25_0, fc25_1, fc25_2, fc25_3, fc25_4, Int.reduceAdd, Int.reduceSub, Int.reduceMul, Int.reduceNeg, Int.reducePow, Nat.reducePow, Int.reduceToNat,
                Nat.reduceSub, List.replicate, Nat.reduceBEq, wAs, wA, wC, zipW, noDupN, grpE, g_laws_sameFloat, grpC, en0, dc_en0])))
      all_goals (try simp only [*, m_laws_eqFloat32S, Bool.and_true, Bool.true_and, Bool.and_false, Bool.false_and, Bool.or_true, Bool.true_or, Bool.or_false, Bool.false_or, Bool.not_true, Bool.not_false, Bool.false_eq_true, if_true, if_false, reduceIte, decide_true, decide_false])
      all_goals (try (simp_all; done))
    · cases h
  · cases h
def m_laws_eqVector (x0 : (Nat × Nat × Nat)) (x1 : (Nat × Nat × Nat)) : Bool := (if (m_laws_sameFloat (widen x0.1) (widen x1.1)) = true then (if (m_laws_sameFloat (widen x0.2.1)
      (widen x1.2.1)) = true then (if (m_laws_sameFloat (widen x0.2.2) (widen x1.2.2)) = true then true else false) else false) else false)
def g_laws_eqVector : List AV → Option AV
  | [.agg [.flt .f32 y0, .flt .f32 y1, .flt .f32 y2], .agg [.flt .f32 y3, .flt .f32 y4, .flt .f32 y5]] => some (.bool (m_laws_eqVector (y0,
      y1, y2) (y3, y4, y5)))
  | _ => none
def ic57 : ICode := (.seq (.reg [⟨(some 2), none, (.box 3 (.t 0))⟩, ⟨(some 3), none, (.box 3 (.t 1))⟩, ⟨(some 4), none, (.mov (.c (.bool false)))⟩] [2, 3]) (.seq (.seq (.reg [⟨(some
      5), none, (.faddr 0 (.t 2))⟩, ⟨(some 6), none, (.load none (.t 5))⟩, ⟨(some 7), none, (.conv (.flt .f64) (.t 6))⟩, ⟨(some 8), none, (.faddr 0 (.t 3))⟩, ⟨(some 9), none, (.load
      none (.t 8))⟩, ⟨(some 10), none, (.conv (.flt .f64) (.t 9))⟩, ⟨(some 11), none, (.call (.fn 65) [(.t 7), (.t 10)] [])⟩, ⟨(some 12), none, (.un .not (.t 11))⟩] [2, 3, 12])
      (.cond (.t 12) (.seq (.reg [⟨(some 4), none, (.mov (.c (.bool false)))⟩] [4]) .ret) .skip)) (.seq (.seq (.reg [⟨(some 13), none, (.faddr 1 (.t 2))⟩, ⟨(some 14), none, (.load
      none (.t 13))⟩, ⟨(some 15), none, (.conv (.flt .f64) (.t 14))⟩, ⟨(some 16), none, (.faddr 1 (.t 3))⟩, ⟨(some 17), none, (.load none (.t 16))⟩, ⟨(some 18), none, (.conv (.flt
      .f64) (.t 17))⟩, ⟨(some 19), none, (.call (.fn 65) [(.t 15), (.t 18)] [])⟩, ⟨(some 20), none, (.un .not (.t 19))⟩] [2, 3, 20]) (.cond (.t 20) (.seq (.reg [⟨(some 4), none,
      (.mov (.c (.bool false)))⟩] [4]) .ret) .skip)) (.seq (.seq (.reg [⟨(some 21), none, (.faddr 2 (.t 2))⟩, ⟨(some 22), none, (.load none (.t 21))⟩, ⟨(some 23), none, (.conv (.flt
      .f64) (.t 22))⟩, ⟨(some 24), none, (.faddr 2 (.t 3))⟩, ⟨(some 25), none, (.load none (.t 24))⟩, ⟨(some 26), none, (.conv (.flt .f64) (.t 25))⟩, ⟨(some 27), none, (.call (.fn
      65) [(.t 23), (.t 26)] [])⟩, ⟨(some 28), none, (.un .not (.t 27))⟩] [28]) (.cond (.t 28) (.seq (.reg [⟨(some 4), none, (.mov (.c (.bool false)))⟩] [4]) .ret) .skip)) (.seq
      (.reg [⟨(some 4), none, (.mov (.c (.bool true)))⟩] [4]) .ret)))))
def cp57 : CP := CP.mk [] [] [[2, 3], [2, 3, 12], [4], [2, 3, 20], [4], [28], [4], [4]] 29
theorem fc57_0 : IntKind.wrap .i64 0 = 0 := by decide
theorem fc57_1 : IntKind.wrap .i64 1 = 1 := by decide
theorem fc57_2 : IntKind.wrap .i64 2 = 2 := by decide
theorem fc57_3 : IntKind.wrap .i64 3 = 3 := by decide
theorem fc57_4 : IntKind.wrap .i64 4 = 4 := by decide
theorem s57 : ∀ vs r, g_laws_eqVector vs = some r → SaysM Try.prog .any 57 vs r := by
  intro vs r h
  unfold g_laws_eqVector at h
  split at h
  · rename_i y0 y1 y2 y3 y4 y5
    cases h
    refine spec_of (m := .any) (tab := tabOf [(65, wM .any g_laws_sameFloat)]) (cp := cp57) (ic := ic57) (rvl := [(.t 4)]) hm (tabOk_cons (m := .any) s65 tabOk_nil) Try.func57 rfl rfl rfl (by kernel_rfl) rfl (Nat.le_of_ble_eq_true rfl) (Nat.le_of_ble_eq_true rfl) ?_
    show eA _ _ _ _
    unfold ic57
    simp only [
        grpS, grpD, grpF, grpL, eop, vop, bop, uop, fltop, convop, endOk, newE, new1, freshL, Md.isNew, outV, pureV, pureX, pure1, AV.cells, AV.one, storable, laid, refless,
              refless1, vload, loadC, storeC, vnil, vfaddr, vextract, flatT, flatE, flatC, vconv, vmm, vidxA, viaddrA, vfield, vlen, elemsOf, dF32, dF64, dI64, dU8, dBool, dStr,
              esOk, elemsS, vsliceX, bnd, ownV, ownC, own1, ownT, isSl, nSl, endL, Md.isOwn, purge, purgeH, purgeB, purgeE, hasName, name1, List.any_cons, List.any_nil, Md.isWr,
              pureV.pureP, Option.map, reduceIte, Nat.reduceEqDiff, Nat.reduceAdd, Nat.reduceMul, Nat.reduceLT, Nat.reduceLeDiff, List.mapM_cons, List.mapM_nil, Option.pure_def,
              Option.bind_eq_bind, Option.bind_some, implies_true, forall_const, beq_self_eq_true, decide_true, decide_false, eq_self, Int.reduceEq, Int.reduceLE, Int.reduceLT,
              if_true, if_false, fc57_0, fc57_1, fc57_2, fc57_3, fc57_4, Int.reduceAdd, Int.reduceSub, Int.reduceMul, Int.reduceNeg, Int.reducePow, Nat.reducePow, Int.reduceToNat,
              Nat.reduceSub, List.replicate, Nat.reduceBEq, wAs, wA, wC, zipW, noDupN, grpE, g_laws_sameFloat, grpC, en0, dc_en0]
    repeat' (first
      | ((first | (refine eGI_of (fun h => ?_) (fun h => ?_)) | (refine eCc_of (fun h => ?_) (fun h => ?_))) <;> (try simp only [Bool.not_eq_true', Bool.not_eq_false'] at h) <;> simp only [h,
        grpS, grpD, grpF, grpL, eop, vop, bop, uop, fltop, convop, endOk, newE, new1, freshL, Md.isNew, outV, pureV, pureX, pure1, AV.cells, AV.one, storable, laid, refless,
              refless1, vload, loadC, storeC, vnil, vfaddr, vextract, flatT, flatE, flatC, vconv, vmm, vidxA, viaddrA, vfield, vlen, elemsOf, dF32, dF64, dI64, dU8, dBool, dStr,
              esOk, elemsS, vsliceX, bnd, ownV, ownC, own1, ownT, isSl, nSl, endL, Md.isOwn, purge, purgeH, purgeB, purgeE, hasName, name1, List.any_cons, List.any_nil, Md.isWr,
              pureV.pureP, Option.map, reduceIte, Nat.reduceEqDiff, Nat.reduceAdd, Nat.reduceMul, Nat.reduceLT, Nat.reduceLeDiff, List.mapM_cons, List.mapM_nil, Option.pure_def,
              Option.bind_eq_bind, Option.bind_some, implies_true, forall_const, beq_self_eq_true, decide_true, decide_false, eq_self, Int.reduceEq, Int.reduceLE, Int.reduceLT,
              if_true, if_false, fc57_0, fc57_1, fc57_2, fc57_3, fc57_4, Int.reduceAdd, Int.reduceSub, Int.reduceMul, Int.reduceNeg, Int.reducePow, Nat.reducePow, Int.reduceToNat,
              Nat.reduceSub, List.replicate, Nat.reduceBEq, wAs, wA, wC, zipW, noDupN, grpE, g_laws_sameFloat, grpC, en0, dc_en0]))
    all_goals (try simp only [*, m_laws_eqVector, Bool.and_true, Bool.true_and, Bool.and_false, Bool.false_and, Bool.or_true, Bool.true_or, Bool.or_false, Bool.false_or, Bool.not_true, Bool.not_false, Bool.false_eq_true, if_true, if_false, reduceIte, decide_true, decide_false])
    all_goals (try (simp_all; done))
  · cases h
def m_laws_eqBone (x0 : (Int × Nat × Nat × Nat)) (x1 : (Int × Nat × Nat × Nat)) : Bool := (if (decide (x0.1 = x1.1)) = true then (if (m_laws_eqVector (x0.2.1, x0.2.2.1, x0.2.2.2)
      (x1.2.1, x1.2.2.1, x1.2.2.2)) = true then true else false) else false)
def g_laws_eqBone : List AV → Option AV
  | [.agg [.int .i64 y0, .flt .f32 y1, .flt .f32 y2, .flt .f32 y3], .agg [.int .i64 y4, .flt .f32 y5, .flt .f32 y6, .flt .f32 y7]] => some
      (.bool (m_laws_eqBone (y0, y1, y2, y3) (y4, y5, y6, y7)))
  | _ => none
def ic97 : ICode := (.seq (.reg [⟨(some 2), none, (.box 4 (.t 0))⟩, ⟨(some 3), none, (.box 4 (.t 1))⟩, ⟨(some 4), none, (.mov (.c (.bool false)))⟩] [2, 3]) (.seq (.seq (.reg [⟨(some
      5), none, (.faddr 0 (.t 2))⟩, ⟨(some 6), none, (.load none (.t 5))⟩, ⟨(some 7), none, (.faddr 0 (.t 3))⟩, ⟨(some 8), none, (.load none (.t 7))⟩, ⟨(some 9), none, (.bin .neq
      false (.t 6) (.t 8))⟩] [2, 3, 9]) (.cond (.t 9) (.seq (.reg [⟨(some 4), none, (.mov (.c (.bool false)))⟩] [4]) .ret) .skip)) (.seq (.seq (.reg [⟨(some 10), none, (.faddr 1 (.t
      2))⟩, ⟨(some 11), none, (.load (some 3) (.t 10))⟩, ⟨(some 12), none, (.faddr 1 (.t 3))⟩, ⟨(some 13), none, (.load (some 3) (.t 12))⟩, ⟨(some 14), none, (.call (.fn 57) [(.t
      11), (.t 13)] [])⟩, ⟨(some 15), none, (.un .not (.t 14))⟩] [15]) (.cond (.t 15) (.seq (.reg [⟨(some 4), none, (.mov (.c (.bool false)))⟩] [4]) .ret) .skip)) (.seq (.reg
      [⟨(some 4), none, (.mov (.c (.bool true)))⟩] [4]) .ret))))
def cp97 : CP := CP.mk [] [] [[2, 3], [2, 3, 9], [4], [15], [4], [4]] 16
theorem fc97_0 : IntKind.wrap .i64 0 = 0 := by decide
theorem fc97_1 : IntKind.wrap .i64 1 = 1 := by decide
theorem fc97_2 : IntKind.wrap .i64 2 = 2 := by decide
theorem fc97_3 : IntKind.wrap .i64 3 = 3 := by decide
theorem fc97_4 : IntKind.wrap .i64 4 = 4 := by decide
theorem s97 : ∀ vs r, g_laws_eqBone vs = some r → SaysM Try.prog .any 97 vs r := by
  intro vs r h
  unfold g_laws_eqBone at h
  split at h
  · rename_i y0 y1 y2 y3 y4 y5 y6 y7
    cases h
    refine spec_of (m := .any) (tab := tabOf [(57, wM .any g_laws_eqVector)]) (cp := cp97) (ic := ic97) (rvl := [(.t 4)]) hm (tabOk_cons (m := .any) s57 tabOk_nil) Try.func97 rfl rfl rfl (by kernel_rfl) rfl (Nat.le_of_ble_eq_true rfl) (Nat.le_of_ble_eq_true rfl) ?_
    show eA _ _ _ _
    unfold ic97
    simp only [
        grpS, grpD, grpF, grpL, eop, vop, bop, uop, fltop, convop, endOk, newE, new1, freshL, Md.isNew, outV, pureV, pureX, pure1, AV.cells, AV.one, storable, laid, refless,
              refless1, vload, loadC, storeC, vnil, vfaddr, vextract, flatT, flatE, flatC, vconv, vmm, vidxA, viaddrA, vfield, vlen, elemsOf, dF32, dF64, dI64, dU8, dBool, dStr,
              esOk, elemsS, vsliceX, bnd, ownV, ownC, own1, ownT, isSl, nSl, endL, Md.isOwn, purge, purgeH, purgeB, purgeE, hasName, name1, List.any_cons, List.any_nil, Md.isWr,
              pureV.pureP, Option.map, reduceIte, Nat.reduceEqDiff, Nat.reduceAdd, Nat.reduceMul, Nat.reduceLT, Nat.reduceLeDiff, List.mapM_cons, List.mapM_nil, Option.pure_def,
              Option.bind_eq_bind, Option.bind_some, implies_true, forall_const, beq_self_eq_true, decide_true, decide_false, eq_self, Int.reduceEq, Int.reduceLE, Int.reduceLT,
              if_true, if_false, fc97_0, fc97_1, fc97_2, fc97_3, fc97_4, Int.reduceAdd, Int.reduceSub, Int.reduceMul, Int.reduceNeg, Int.reducePow, Nat.reducePow, Int.reduceToNat,
              Nat.reduceSub, List.replicate, Nat.reduceBEq, wAs, wA, wC, zipW, noDupN, grpE, g_laws_eqVector, grpC, en0, dc_en0]
    repeat' (first
      | ((first | (refine eGI_of (fun h => ?_) (fun h => ?_)) | (refine eCc_of (fun h => ?_) (fun h => ?_))) <;> (try simp only [Bool.not_eq_true', Bool.not_eq_false'] at h) <;> simp only [h,
        grpS, grpD, grpF, grpL, eop, vop, bop, uop, fltop, convop, endOk, newE, new1, freshL, Md.isNew, outV, pureV, pureX, pure1, AV.cells, AV.one, storable, laid, refless,
              refless1, vload, loadC, storeC, vnil, vfaddr, vextract, flatT, flatE, flatC, vconv, vmm, vidxA, viaddrA, vfield, vlen, elemsOf, dF32, dF64, dI64, dU8, dBool, dStr,
              esOk, elemsS, vsliceX, bnd, ownV, ownC, own1, ownT, isSl, nSl, endL, Md.isOwn, purge, purgeH, purgeB, purgeE, hasName, name1, List.any_cons, List.any_nil, Md.isWr,
              pureV.pureP, Option.map, reduceIte, Nat.reduceEqDiff, Nat.reduceAdd, Nat.reduceMul, Nat.reduceLT, Nat.reduceLeDiff, List.mapM_cons, List.mapM_nil, Option.pure_def,
              Option.bind_eq_bind, Option.bind_some, implies_true, forall_const, beq_self_eq_true, decide_true, decide_false, eq_self, Int.reduceEq, Int.reduceLE, Int.reduceLT,
              if_true, if_false, fc97_0, fc97_1, fc97_2, fc97_3, fc97_4, Int.reduceAdd, Int.reduceSub, Int.reduceMul, Int.reduceNeg, Int.reducePow, Nat.reducePow, Int.reduceToNat,
              Nat.reduceSub, List.replicate, Nat.reduceBEq, wAs, wA, wC, zipW, noDupN, grpE, g_laws_eqVector, grpC, en0, dc_en0]))
    all_goals (try simp only [*, m_laws_eqBone, Bool.and_true, Bool.true_and, Bool.and_false, Bool.false_and, Bool.or_true, Bool.true_or, Bool.or_false, Bool.false_or, Bool.not_true, Bool.not_false, Bool.false_eq_true, if_true, if_false, reduceIte, decide_true, decide_false])
    all_goals (try (simp_all; done))
  · cases h
def l_laws_eqBoneS_0 (x0 : (List (Int × Nat × Nat × Nat))) (x1 : (List (Int × Nat × Nat × Nat))) : Nat → Int → Option (Bool × Bool × Unit)
  | 0, _ => none
  | n + 1, z0_0 => (if (decide (z0_0 < ((List.length x0 : Nat) : Int))) = true then (need (inB z0_0 (List.length x0)) (need (inB z0_0 (List.length x1)) (if (m_laws_eqBone (atI x0
        z0_0) (atI x1 z0_0)) = true then (l_laws_eqBoneS_0 x0 x1 n (IntKind.wrap .i64 (z0_0 + 1))) else (some (true, false, default))))) else (some (false, default, ())))
def m_laws_eqBoneS (x0 : (List (Int × Nat × Nat × Nat))) (x1 : (List (Int × Nat × Nat × Nat))) : Bool := (if (decide (((List.length x0 : Nat) : Int) = ((List.length x1 : Nat) :
      Int))) = true then (if (Option.getD (l_laws_eqBoneS_0 x0 x1 (Int.toNat (((List.length x0 : Nat) : Int) - 0) + 2) 0) default).1 = true then (Option.getD (l_laws_eqBoneS_0 x0 x1
      (Int.toNat (((List.length x0 : Nat) : Int) - 0) + 2) 0) default).2.1 else true) else false)
def p_laws_eqBoneS (x0 : (List (Int × Nat × Nat × Nat))) (x1 : (List (Int × Nat × Nat × Nat))) : Bool := (!(decide (((List.length x0 : Nat) : Int) = ((List.length x1 : Nat) : Int)))
      || (Option.isSome (l_laws_eqBoneS_0 x0 x1 (Int.toNat (((List.length x0 : Nat) : Int) - 0) + 2) 0)))
def g_laws_eqBoneS : List AV → Option AV
  | [.sl w0, .sl w1] => (match decL dc_en0 w0 with | some y0 => ((match decL dc_en0 w1 with | some y1 => (if p_laws_eqBoneS y0 y1 = true then some (.bool (m_laws_eqBoneS y0 y1)) else none) | none => none)) | none => none)
  | _ => none
def lb66_0 : ICode := (.seq (.seq (.reg [⟨(some 11), none, (.mov (.t 5))⟩, ⟨(some 12), none, (.mov (.t 0))⟩, ⟨(some 13), none, (.len false (.t 12))⟩, ⟨(some 14), none, (.bin .lss
      false (.t 11) (.t 13))⟩] [0, 1, 5, 14]) (.cond (.t 14) .skip (.exit 0))) (.seq (.block 1 (.seq (.reg [⟨(some 17), none, (.mov (.t 0))⟩, ⟨(some 18), none, (.mov (.t 5))⟩,
      ⟨(some 19), none, (.iaddrS 4 (.t 17) (.t 18))⟩, ⟨(some 20), none, (.load (some 4) (.t 19))⟩, ⟨(some 21), none, (.mov (.t 1))⟩, ⟨(some 22), none, (.mov (.t 5))⟩, ⟨(some 23),
      none, (.iaddrS 4 (.t 21) (.t 22))⟩, ⟨(some 24), none, (.load (some 4) (.t 23))⟩, ⟨(some 25), none, (.call (.fn 97) [(.t 20), (.t 24)] [])⟩, ⟨(some 26), none, (.un .not (.t
      25))⟩] [0, 1, 5, 26]) (.cond (.t 26) (.seq (.reg [⟨(some 4), none, (.mov (.c (.bool false)))⟩] [4]) .ret) .skip))) (.reg [⟨(some 15), none, (.mov (.t 5))⟩, ⟨(some 16), none,
      (.bin .add false (.t 15) (.c (.int .i64 1)))⟩, ⟨(some 5), none, (.mov (.t 16))⟩] [0, 1, 5])))
def ic66 : ICode := (.seq (.reg [⟨(some 4), none, (.mov (.c (.bool false)))⟩] [0, 1]) (.seq (.seq (.reg [⟨(some 6), none, (.mov (.t 0))⟩, ⟨(some 7), none, (.len false (.t 6))⟩,
      ⟨(some 8), none, (.mov (.t 1))⟩, ⟨(some 9), none, (.len false (.t 8))⟩, ⟨(some 10), none, (.bin .neq false (.t 7) (.t 9))⟩] [0, 1, 10]) (.cond (.t 10) (.seq (.reg [⟨(some 4),
      none, (.mov (.c (.bool false)))⟩] [4]) .ret) .skip)) (.seq (.seq (.reg [⟨(some 5), none, (.mov (.c (.int .i64 0)))⟩] [0, 1, 5]) (.block 0 (.loop lb66_0))) (.seq (.reg [⟨(some
      4), none, (.mov (.c (.bool true)))⟩] [4]) .ret))))
def cp66 : CP := CP.mk [] [] [[0, 1], [0, 1, 10], [4], [0, 1, 5], [0, 1, 5, 14], [0, 1, 5], [0, 1, 5, 26], [4], [4]] 27
theorem fc66_0 : IntKind.wrap .i64 0 = 0 := by decide
theorem fc66_1 : IntKind.wrap .i64 1 = 1 := by decide
theorem fc66_2 : IntKind.wrap .i64 2 = 2 := by decide
theorem fc66_3 : IntKind.wrap .i64 3 = 3 := by decide
theorem fc66_4 : IntKind.wrap .i64 4 = 4 := by decide
theorem sl66_0 (x0 : (List (Int × Nat × Nat × Nat))) (x1 : (List (Int × Nat × Nat × Nat))) : ∀ (n : Nat) (z0_0 : Int) (o : (Bool × Bool × Unit)) (K : IExit → St → Prop),
      l_laws_eqBoneS_0 x0 x1 n z0_0 = some o → (∀ st, o.1 = true → outM .any st [(.t 4)] = some (.bool o.2.1) → K .ret st) → (∀ st, o.1 = false → Wk st (⟨[], []⟩ : St) → K (.exit 0)
      st) → eA (tabOf [(97, wM .any g_laws_eqBone)]) (.loop lb66_0) (⟨[(0, (.sl (List.map en0 x0))), (1, (.sl (List.map en0 x1))), (5, (.int .i64 z0_0))], []⟩ : St) K := by
  intro n
  induction n with
  | zero =>
    intro z0_0 o K h h0 h1
    simp only [l_laws_eqBoneS_0, reduceCtorEq] at h
  | succ n ih =>
    intro z0_0 o K h h0 h1
    refine eA_loop ?_
    unfold lb66_0
    unfold l_laws_eqBoneS_0 at h
    (try simp only [need_iff] at h)
    simp only [
      need_iff, h, grpS, grpD, grpF, grpL, eop, vop, bop, uop, fltop, convop, endOk, newE, new1, freshL, Md.isNew, outV, pureV, pureX, pure1, AV.cells, AV.one, storable, laid,
            refless, refless1, vload, loadC, storeC, vnil, vfaddr, vextract, flatT, flatE, flatC, vconv, vmm, vidxA, viaddrA, vfield, vlen, elemsOf, dF32, dF64, dI64, dU8, dBool,
            dStr, esOk, elemsS, vsliceX, bnd, ownV, ownC, own1, ownT, isSl, nSl, endL, Md.isOwn, purge, purgeH, purgeB, purgeE, hasName, name1, List.any_cons, List.any_nil, Md.isWr,
            pureV.pureP, Option.map, reduceIte, Nat.reduceEqDiff, Nat.reduceAdd, Nat.reduceMul, Nat.reduceLT, Nat.reduceLeDiff, List.mapM_cons, List.mapM_nil, Option.pure_def,
            Option.bind_eq_bind, Option.bind_some, implies_true, forall_const, beq_self_eq_true, decide_true, decide_false, eq_self, Int.reduceEq, Int.reduceLE, Int.reduceLT,
            if_true, if_false, fc66_0, fc66_1, fc66_2, fc66_3, fc66_4, Int.reduceAdd, Int.reduceSub, Int.reduceMul, Int.reduceNeg, Int.reducePow, Nat.reducePow, Int.reduceToNat,
            Nat.reduceSub, List.replicate, Nat.reduceBEq, wAs, wA, wC, zipW, noDupN, grpE, g_laws_eqBone, grpC, en0, dc_en0]
    repeat' (first
      | ((first | (refine eGI_of (fun hc => ?_) (fun hc => ?_)) | (refine eCc_of (fun hc => ?_) (fun hc => ?_)) | (have hc := True.intro; refine KW_refl ?_)) <;> (try simp only [Bool.not_eq_true', Bool.not_eq_false'] at hc) <;> (try simp only [hc, need_iff, reduceCtorEq, Bool.not_eq_true', decide_eq_false_iff_not, Bool.not_true, Bool.not_false, Bool.false_or, Bool.true_or, Bool.true_and, Bool.false_and, Bool.and_eq_true, Bool.or_eq_true, if_true, if_false, reduceIte, Bool.false_eq_true, and_true, true_and, false_or, or_false, decide_eq_true_eq, not_false_eq_true, not_true_eq_false] at h) <;> (try (have hc2 := hc; simp only [decide_eq_true_eq, decide_eq_false_iff_not] at hc2; simp only [hc2, if_true, if_false, reduceCtorEq, Bool.not_eq_true', decide_eq_false_iff_not, Bool.not_true, Bool.not_false, Bool.false_or, Bool.true_or, Bool.true_and, Bool.false_and, Bool.and_eq_true, Bool.or_eq_true, if_true, if_false, reduceIte, Bool.false_eq_true, and_true, true_and, false_or, or_false, decide_eq_true_eq, not_false_eq_true, not_true_eq_false] at h)) <;> simp only [hc,
      need_iff, h, grpS, grpD, grpF, grpL, eop, vop, bop, uop, fltop, convop, endOk, newE, new1, freshL, Md.isNew, outV, pureV, pureX, pure1, AV.cells, AV.one, storable, laid,
            refless, refless1, vload, loadC, storeC, vnil, vfaddr, vextract, flatT, flatE, flatC, vconv, vmm, vidxA, viaddrA, vfield, vlen, elemsOf, dF32, dF64, dI64, dU8, dBool,
            dStr, esOk, elemsS, vsliceX, bnd, ownV, ownC, own1, ownT, isSl, nSl, endL, Md.isOwn, purge, purgeH, purgeB, purgeE, hasName, name1, List.any_cons, List.any_nil, Md.isWr,
            pureV.pureP, Option.map, reduceIte, Nat.reduceEqDiff, Nat.reduceAdd, Nat.reduceMul, Nat.reduceLT, Nat.reduceLeDiff, List.mapM_cons, List.mapM_nil, Option.pure_def,
            Option.bind_eq_bind, Option.bind_some, implies_true, forall_const, beq_self_eq_true, decide_true, decide_false, eq_self, Int.reduceEq, Int.reduceLE, Int.reduceLT,
            if_true, if_false, fc66_0, fc66_1, fc66_2, fc66_3, fc66_4, Int.reduceAdd, Int.reduceSub, Int.reduceMul, Int.reduceNeg, Int.reducePow, Nat.reducePow, Int.reduceToNat,
            Nat.reduceSub, List.replicate, Nat.reduceBEq, wAs, wA, wC, zipW, noDupN, grpE, g_laws_eqBone, grpC, en0, dc_en0]))
    all_goals (repeat (replace h := And.right h))
    all_goals first
      | (refine eA_wk (wk_norm (ks := [0, 1, 5]) (ls := []) ?_) (eA_cast ?_ (ih _ _ _ h h0 h1)); (simp only [normOk, optIn, blkIn, nameIn,
      need_iff, h, grpS, grpD, grpF, grpL, eop, vop, bop, uop, fltop, convop, endOk, newE, new1, freshL, Md.isNew, outV, pureV, pureX, pure1, AV.cells, AV.one, storable, laid,
            refless, refless1, vload, loadC, storeC, vnil, vfaddr, vextract, flatT, flatE, flatC, vconv, vmm, vidxA, viaddrA, vfield, vlen, elemsOf, dF32, dF64, dI64, dU8, dBool,
            dStr, esOk, elemsS, vsliceX, bnd, ownV, ownC, own1, ownT, isSl, nSl, endL, Md.isOwn, purge, purgeH, purgeB, purgeE, hasName, name1, List.any_cons, List.any_nil, Md.isWr,
            pureV.pureP, Option.map, reduceIte, Nat.reduceEqDiff, Nat.reduceAdd, Nat.reduceMul, Nat.reduceLT, Nat.reduceLeDiff, List.mapM_cons, List.mapM_nil, Option.pure_def,
            Option.bind_eq_bind, Option.bind_some, implies_true, forall_const, beq_self_eq_true, decide_true, decide_false, eq_self, Int.reduceEq, Int.reduceLE, Int.reduceLT,
            if_true, if_false, fc66_0, fc66_1, fc66_2, fc66_3, fc66_4, Int.reduceAdd, Int.reduceSub, Int.reduceMul, Int.reduceNeg, Int.reducePow, Nat.reducePow, Int.reduceToNat,
            Nat.reduceSub, List.replicate, Nat.reduceBEq, wAs, wA, wC, zipW, noDupN, grpE, g_laws_eqBone, grpC, en0, dc_en0] <;> rfl); (simp only [normS, List.map_append, List.length_append, List.map_set, List.length_set, List.map_replicate, List.length_replicate, List.map_nil, List.map_cons,
      need_iff, h, grpS, grpD, grpF, grpL, eop, vop, bop, uop, fltop, convop, endOk, newE, new1, freshL, Md.isNew, outV, pureV, pureX, pure1, AV.cells, AV.one, storable, laid,
            refless, refless1, vload, loadC, storeC, vnil, vfaddr, vextract, flatT, flatE, flatC, vconv, vmm, vidxA, viaddrA, vfield, vlen, elemsOf, dF32, dF64, dI64, dU8, dBool,
            dStr, esOk, elemsS, vsliceX, bnd, ownV, ownC, own1, ownT, isSl, nSl, endL, Md.isOwn, purge, purgeH, purgeB, purgeE, hasName, name1, List.any_cons, List.any_nil, Md.isWr,
            pureV.pureP, Option.map, reduceIte, Nat.reduceEqDiff, Nat.reduceAdd, Nat.reduceMul, Nat.reduceLT, Nat.reduceLeDiff, List.mapM_cons, List.mapM_nil, Option.pure_def,
            Option.bind_eq_bind, Option.bind_some, implies_true, forall_const, beq_self_eq_true, decide_true, decide_false, eq_self, Int.reduceEq, Int.reduceLE, Int.reduceLT,
            if_true, if_false, fc66_0, fc66_1, fc66_2, fc66_3, fc66_4, Int.reduceAdd, Int.reduceSub, Int.reduceMul, Int.reduceNeg, Int.reducePow, Nat.reducePow, Int.reduceToNat,
            Nat.reduceSub, List.replicate, Nat.reduceBEq, wAs, wA, wC, zipW, noDupN, grpE, g_laws_eqBone, grpC, en0, dc_en0] <;> rfl))
      | (cases h; refine h0 _ rfl ?_; simp only [
      grpS, grpD, grpF, grpL, eop, vop, bop, uop, fltop, convop, endOk, newE, new1, freshL, Md.isNew, outV, pureV, pureX, pure1, AV.cells, AV.one, storable, laid, refless, refless1,
            vload, loadC, storeC, vnil, vfaddr, vextract, flatT, flatE, flatC, vconv, vmm, vidxA, viaddrA, vfield, vlen, elemsOf, dF32, dF64, dI64, dU8, dBool, dStr, esOk, elemsS,
            vsliceX, bnd, ownV, ownC, own1, ownT, isSl, nSl, endL, Md.isOwn, purge, purgeH, purgeB, purgeE, hasName, name1, List.any_cons, List.any_nil, Md.isWr, pureV.pureP,
            Option.map, reduceIte, Nat.reduceEqDiff, Nat.reduceAdd, Nat.reduceMul, Nat.reduceLT, Nat.reduceLeDiff, List.mapM_cons, List.mapM_nil, Option.pure_def,
            Option.bind_eq_bind, Option.bind_some, implies_true, forall_const, beq_self_eq_true, decide_true, decide_false, eq_self, Int.reduceEq, Int.reduceLE, Int.reduceLT,
            if_true, if_false, fc66_0, fc66_1, fc66_2, fc66_3, fc66_4, Int.reduceAdd, Int.reduceSub, Int.reduceMul, Int.reduceNeg, Int.reducePow, Nat.reducePow, Int.reduceToNat,
            Nat.reduceSub, List.replicate, Nat.reduceBEq, wAs, wA, wC, zipW, noDupN, grpE, g_laws_eqBone, grpC, en0, dc_en0])
      | (cases h; refine h1 _ rfl (Wk.cast (wk_norm (ks := []) (ls := []) ?_) ?_); (simp only [normOk, optIn, blkIn, nameIn,
      grpS, grpD, grpF, grpL, eop, vop, bop, uop, fltop, convop, endOk, newE, new1, freshL, Md.isNew, outV, pureV, pureX, pure1, AV.cells, AV.one, storable, laid, refless, refless1,
            vload, loadC, storeC, vnil, vfaddr, vextract, flatT, flatE, flatC, vconv, vmm, vidxA, viaddrA, vfield, vlen, elemsOf, dF32, dF64, dI64, dU8, dBool, dStr, esOk, elemsS,
            vsliceX, bnd, ownV, ownC, own1, ownT, isSl, nSl, endL, Md.isOwn, purge, purgeH, purgeB, purgeE, hasName, name1, List.any_cons, List.any_nil, Md.isWr, pureV.pureP,
            Option.map, reduceIte, Nat.reduceEqDiff, Nat.reduceAdd, Nat.reduceMul, Nat.reduceLT, Nat.reduceLeDiff, List.mapM_cons, List.mapM_nil, Option.pure_def,
            Option.bind_eq_bind, Option.bind_some, implies_true, forall_const, beq_self_eq_true, decide_true, decide_false, eq_self, Int.reduceEq, Int.reduceLE, Int.reduceLT,
            if_true, if_false, fc66_0, fc66_1, fc66_2, fc66_3, fc66_4, Int.reduceAdd, Int.reduceSub, Int.reduceMul, Int.reduceNeg, Int.reducePow, Nat.reducePow, Int.reduceToNat,
            Nat.reduceSub, List.replicate, Nat.reduceBEq, wAs, wA, wC, zipW, noDupN, grpE, g_laws_eqBone, grpC, en0, dc_en0] <;> rfl); (simp only [normS, List.map_append, List.length_append, List.map_set, List.length_set, List.map_replicate, List.length_replicate,
      grpS, grpD, grpF, grpL, eop, vop, bop, uop, fltop, convop, endOk, newE, new1, freshL, Md.isNew, outV, pureV, pureX, pure1, AV.cells, AV.one, storable, laid, refless, refless1,
            vload, loadC, storeC, vnil, vfaddr, vextract, flatT, flatE, flatC, vconv, vmm, vidxA, viaddrA, vfield, vlen, elemsOf, dF32, dF64, dI64, dU8, dBool, dStr, esOk, elemsS,
            vsliceX, bnd, ownV, ownC, own1, ownT, isSl, nSl, endL, Md.isOwn, purge, purgeH, purgeB, purgeE, hasName, name1, List.any_cons, List.any_nil, Md.isWr, pureV.pureP,
            Option.map, reduceIte, Nat.reduceEqDiff, Nat.reduceAdd, Nat.reduceMul, Nat.reduceLT, Nat.reduceLeDiff, List.mapM_cons, List.mapM_nil, Option.pure_def,
            Option.bind_eq_bind, Option.bind_some, implies_true, forall_const, beq_self_eq_true, decide_true, decide_false, eq_self, Int.reduceEq, Int.reduceLE, Int.reduceLT,
            if_true, if_false, fc66_0, fc66_1, fc66_2, fc66_3, fc66_4, Int.reduceAdd, Int.reduceSub, Int.reduceMul, Int.reduceNeg, Int.reducePow, Nat.reducePow, Int.reduceToNat,
            Nat.reduceSub, List.replicate, Nat.reduceBEq, wAs, wA, wC, zipW, noDupN, grpE, g_laws_eqBone, grpC, en0, dc_en0] <;> rfl))
theorem s66 : ∀ vs r, g_laws_eqBoneS vs = some r → SaysM Try.prog .any 66 vs r := by
  intro vs r h
  unfold g_laws_eqBoneS at h
  split at h
  · rename_i w0 w1
    cases hd_y0 : decL dc_en0 w0 with
    | none => rw [hd_y0] at h; cases h
    | some y0 =>
    rw [hd_y0] at h
    obtain rfl := decL_inv dc_en0_inv hd_y0
    clear hd_y0
    dsimp only at h
    cases hd_y1 : decL dc_en0 w1 with
    | none => rw [hd_y1] at h; cases h
    | some y1 =>
    rw [hd_y1] at h
    obtain rfl := decL_inv dc_en0_inv hd_y1
    clear hd_y1
    dsimp only at h
    split at h
    · rename_i hp
      cases h
      refine spec_of (m := .any) (tab := tabOf [(97, wM .any g_laws_eqBone)]) (cp := cp66) (ic := ic66) (rvl := [(.t 4)]) hm (tabOk_cons (m := .any) s97 tabOk_nil) Try.func66 rfl rfl rfl (by kernel_rfl) rfl (Nat.le_of_ble_eq_true rfl) (Nat.le_of_ble_eq_true rfl) ?_
      show eA _ _ _ _
      unfold ic66
      simp only [p_laws_eqBoneS, Bool.and_eq_true, Bool.or_eq_true, decide_eq_true_eq, Bool.not_eq_true', decide_eq_false_iff_not] at hp
      simp only [
          hp, grpS, grpD, grpF, grpL, eop, vop, bop, uop, fltop, convop, endOk, newE, new1, freshL, Md.isNew, outV, pureV, pureX, pure1, AV.cells, AV.one, storable, laid, refless,
                refless1, vload, loadC, storeC, vnil, vfaddr, vextract, flatT, flatE, flatC, vconv, vmm, vidxA, viaddrA, vfield, vlen, elemsOf, dF32, dF64, dI64, dU8, dBool, dStr,
                esOk, elemsS, vsliceX, bnd, ownV, ownC, own1, ownT, isSl, nSl, endL, Md.isOwn, purge, purgeH, purgeB, purgeE, hasName, name1, List.any_cons, List.any_nil, Md.isWr,
                pureV.pureP, Option.map, reduceIte, Nat.reduceEqDiff, Nat.reduceAdd, Nat.reduceMul, Nat.reduceLT, Nat.reduceLeDiff, List.mapM_cons, List.mapM_nil, Option.pure_def,
                Option.bind_eq_bind, Option.bind_some, implies_true, forall_const, beq_self_eq_true, decide_true, decide_false, eq_self, Int.reduceEq, Int.reduceLE, Int.reduceLT,
                if_true, if_false, fc66_0, fc66_1, fc66_2, fc66_3, fc66_4, Int.reduceAdd, Int.reduceSub, Int.reduceMul, Int.reduceNeg, Int.reducePow, Nat.reducePow, Int.reduceToNat,
                Nat.reduceSub, List.replicate, Nat.reduceBEq, wAs, wA, wC, zipW, noDupN, grpE, g_laws_eqBone, grpC, en0, dc_en0]
      repeat' (first
        | ((first | (refine eGI_of (fun h => ?_) (fun h => ?_)) | (refine eCc_of (fun h => ?_) (fun h => ?_)) | (have h := True.intro; refine KW_refl ?_)) <;> (try simp only [Bool.not_eq_true', Bool.not_eq_false'] at h) <;> (try simp only [h, reduceCtorEq, Bool.not_eq_true', decide_eq_false_iff_not, Bool.not_true, Bool.not_false, Bool.false_or, Bool.true_or, Bool.true_and, Bool.false_and, Bool.and_eq_true, Bool.or_eq_true, if_true, if_false, reduceIte, Bool.false_eq_true, and_true, true_and, false_or, or_false, decide_eq_true_eq, not_false_eq_true, not_true_eq_false] at hp) <;> (try (have h2 := h; simp only [decide_eq_true_eq, decide_eq_false_iff_not] at h2; (first | (replace h2 := eq_false h2) | (replace h2 := eq_true h2)); simp only [h2, if_true, if_false, false_or, true_or, or_true, or_false, and_true, true_and, not_false_eq_true, not_true_eq_false] at hp)) <;> simp only [h,
          hp, grpS, grpD, grpF, grpL, eop, vop, bop, uop, fltop, convop, endOk, newE, new1, freshL, Md.isNew, outV, pureV, pureX, pure1, AV.cells, AV.one, storable, laid, refless,
                refless1, vload, loadC, storeC, vnil, vfaddr, vextract, flatT, flatE, flatC, vconv, vmm, vidxA, viaddrA, vfield, vlen, elemsOf, dF32, dF64, dI64, dU8, dBool, dStr,
                esOk, elemsS, vsliceX, bnd, ownV, ownC, own1, ownT, isSl, nSl, endL, Md.isOwn, purge, purgeH, purgeB, purgeE, hasName, name1, List.any_cons, List.any_nil, Md.isWr,
                pureV.pureP, Option.map, reduceIte, Nat.reduceEqDiff, Nat.reduceAdd, Nat.reduceMul, Nat.reduceLT, Nat.reduceLeDiff, List.mapM_cons, List.mapM_nil, Option.pure_def,
                Option.bind_eq_bind, Option.bind_some, implies_true, forall_const, beq_self_eq_true, decide_true, decide_false, eq_self, Int.reduceEq, Int.reduceLE, Int.reduceLT,
                if_true, if_false, fc66_0, fc66_1, fc66_2, fc66_3, fc66_4, Int.reduceAdd, Int.reduceSub, Int.reduceMul, Int.reduceNeg, Int.reducePow, Nat.reducePow, Int.reduceToNat,
                Nat.reduceSub, List.replicate, Nat.reduceBEq, wAs, wA, wC, zipW, noDupN, grpE, g_laws_eqBone, grpC, en0, dc_en0])
        | (refine eA_wk (wk_norm (ks := [0, 1, 5]) (ls := []) ?_) (eA_cast ?_ (sl66_0 y0 y1 _ _ _ _ (getD_some (d := default) (x := (l_laws_eqBoneS_0 y0 y1 (Int.toNat (((List.length y0 : Nat) : Int) - 0) + 2) 0)) ?_) ?_ ?_)); (simp only [nilS, nilV, normOk, optIn, blkIn, nameIn, 
          hp, grpS, grpD, grpF, grpL, eop, vop, bop, uop, fltop, convop, endOk, newE, new1, freshL, Md.isNew, outV, pureV, pureX, pure1, AV.cells, AV.one, storable, laid, refless,
                refless1, vload, loadC, storeC, vnil, vfaddr, vextract, flatT, flatE, flatC, vconv, vmm, vidxA, viaddrA, vfield, vlen, elemsOf, dF32, dF64, dI64, dU8, dBool, dStr,
                esOk, elemsS, vsliceX, bnd, ownV, ownC, own1, ownT, isSl, nSl, endL, Md.isOwn, purge, purgeH, purgeB, purgeE, hasName, name1, List.any_cons, List.any_nil, Md.isWr,
                pureV.pureP, Option.map, reduceIte, Nat.reduceEqDiff, Nat.reduceAdd, Nat.reduceMul, Nat.reduceLT, Nat.reduceLeDiff, List.mapM_cons, List.mapM_nil, Option.pure_def,
                Option.bind_eq_bind, Option.bind_some, implies_true, forall_const, beq_self_eq_true, decide_true, decide_false, eq_self, Int.reduceEq, Int.reduceLE, Int.reduceLT,
                if_true, if_false, fc66_0, fc66_1, fc66_2, fc66_3, fc66_4, Int.reduceAdd, Int.reduceSub, Int.reduceMul, Int.reduceNeg, Int.reducePow, Nat.reducePow, Int.reduceToNat,
                Nat.reduceSub, List.replicate, Nat.reduceBEq, wAs, wA, wC, zipW, noDupN, grpE, g_laws_eqBone, grpC, en0, dc_en0] <;> rfl); (simp only [nilS, nilV, normS,  List.map_append, List.length_append, List.map_set, List.length_set, List.map_replicate, List.length_replicate, List.map_nil, List.map_cons,
          hp, grpS, grpD, grpF, grpL, eop, vop, bop, uop, fltop, convop, endOk, newE, new1, freshL, Md.isNew, outV, pureV, pureX, pure1, AV.cells, AV.one, storable, laid, refless,
                refless1, vload, loadC, storeC, vnil, vfaddr, vextract, flatT, flatE, flatC, vconv, vmm, vidxA, viaddrA, vfield, vlen, elemsOf, dF32, dF64, dI64, dU8, dBool, dStr,
                esOk, elemsS, vsliceX, bnd, ownV, ownC, own1, ownT, isSl, nSl, endL, Md.isOwn, purge, purgeH, purgeB, purgeE, hasName, name1, List.any_cons, List.any_nil, Md.isWr,
                pureV.pureP, Option.map, reduceIte, Nat.reduceEqDiff, Nat.reduceAdd, Nat.reduceMul, Nat.reduceLT, Nat.reduceLeDiff, List.mapM_cons, List.mapM_nil, Option.pure_def,
                Option.bind_eq_bind, Option.bind_some, implies_true, forall_const, beq_self_eq_true, decide_true, decide_false, eq_self, Int.reduceEq, Int.reduceLE, Int.reduceLT,
                if_true, if_false, fc66_0, fc66_1, fc66_2, fc66_3, fc66_4, Int.reduceAdd, Int.reduceSub, Int.reduceMul, Int.reduceNeg, Int.reducePow, Nat.reducePow, Int.reduceToNat,
                Nat.reduceSub, List.replicate, Nat.reduceBEq, wAs, wA, wC, zipW, noDupN, grpE, g_laws_eqBone, grpC, en0, dc_en0] <;> rfl); (simp only [hp]); (
        intro st2 ht hw; simp only [Kq_ret, Kb_ret, Kl_ret, ret_ok]; first | exact h0 _ hw | exact h0 _ rfl hw | exact h1 _ rfl hw | exact h0 _ ht hw | exact h1 _ ht hw | refine ⟨_, hw, ?_⟩); rotate_left; (
        intro st2 ht hw; (try simp only [ht, reduceCtorEq, Bool.not_eq_true', decide_eq_false_iff_not, Bool.not_true, Bool.not_false, Bool.false_or, Bool.true_or, Bool.true_and, Bool.false_and, Bool.and_eq_true, Bool.or_eq_true, if_true, if_false, reduceIte, Bool.false_eq_true, and_true, true_and, false_or, or_false, decide_eq_true_eq, not_false_eq_true, not_true_eq_false] at hp); simp only [
          hp, grpS, grpD, grpF, grpL, eop, vop, bop, uop, fltop, convop, endOk, newE, new1, freshL, Md.isNew, outV, pureV, pureX, pure1, AV.cells, AV.one, storable, laid, refless,
                refless1, vload, loadC, storeC, vnil, vfaddr, vextract, flatT, flatE, flatC, vconv, vmm, vidxA, viaddrA, vfield, vlen, elemsOf, dF32, dF64, dI64, dU8, dBool, dStr,
                esOk, elemsS, vsliceX, bnd, ownV, ownC, own1, ownT, isSl, nSl, endL, Md.isOwn, purge, purgeH, purgeB, purgeE, hasName, name1, List.any_cons, List.any_nil, Md.isWr,
                pureV.pureP, Option.map, reduceIte, Nat.reduceEqDiff, Nat.reduceAdd, Nat.reduceMul, Nat.reduceLT, Nat.reduceLeDiff, List.mapM_cons, List.mapM_nil, Option.pure_def,
                Option.bind_eq_bind, Option.bind_some, implies_true, forall_const, beq_self_eq_true, decide_true, decide_false, eq_self, Int.reduceEq, Int.reduceLE, Int.reduceLT,
                if_true, if_false, fc66_0, fc66_1, fc66_2, fc66_3, fc66_4, Int.reduceAdd, Int.reduceSub, Int.reduceMul, Int.reduceNeg, Int.reducePow, Nat.reducePow, Int.reduceToNat,
                Nat.reduceSub, List.replicate, Nat.reduceBEq, wAs, wA, wC, zipW, noDupN, grpE, g_laws_eqBone, grpC, en0, dc_en0]; refine KW_of hw ?_; simp only [ht, 
          hp, grpS, grpD, grpF, grpL, eop, vop, bop, uop, fltop, convop, endOk, newE, new1, freshL, Md.isNew, outV, pureV, pureX, pure1, AV.cells, AV.one, storable, laid, refless,
                refless1, vload, loadC, storeC, vnil, vfaddr, vextract, flatT, flatE, flatC, vconv, vmm, vidxA, viaddrA, vfield, vlen, elemsOf, dF32, dF64, dI64, dU8, dBool, dStr,
                esOk, elemsS, vsliceX, bnd, ownV, ownC, own1, ownT, isSl, nSl, endL, Md.isOwn, purge, purgeH, purgeB, purgeE, hasName, name1, List.any_cons, List.any_nil, Md.isWr,
                pureV.pureP, Option.map, reduceIte, Nat.reduceEqDiff, Nat.reduceAdd, Nat.reduceMul, Nat.reduceLT, Nat.reduceLeDiff, List.mapM_cons, List.mapM_nil, Option.pure_def,
                Option.bind_eq_bind, Option.bind_some, implies_true, forall_const, beq_self_eq_true, decide_true, decide_false, eq_self, Int.reduceEq, Int.reduceLE, Int.reduceLT,
                if_true, if_false, fc66_0, fc66_1, fc66_2, fc66_3, fc66_4, Int.reduceAdd, Int.reduceSub, Int.reduceMul, Int.reduceNeg, Int.reducePow, Nat.reducePow, Int.reduceToNat,
                Nat.reduceSub, List.replicate, Nat.reduceBEq, wAs, wA, wC, zipW, noDupN, grpE, g_laws_eqBone, grpC, en0, dc_en0])))
      all_goals (try simp only [*, m_laws_eqBoneS, Bool.and_true, Bool.true_and, Bool.and_false, Bool.false_and, Bool.or_true, Bool.true_or, Bool.or_false, Bool.false_or, Bool.not_true, Bool.not_false, Bool.false_eq_true, if_true, if_false, reduceIte, decide_true, decide_false])
      all_goals (try (simp_all; done))
    · cases h
  · cases h
def m_laws_eqSkeleton (x0 : (List (Int × Nat × Nat × Nat))) (x1 : (List (Int × Nat × Nat × Nat))) : Bool := (if (m_laws_eqBoneS x0 x1) = true then true else false)
def p_laws_eqSkeleton (x0 : (List (Int × Nat × Nat × Nat))) (x1 : (List (Int × Nat × Nat × Nat))) : Bool := (p_laws_eqBoneS x0 x1)
def g_laws_eqSkeleton : List AV → Option AV
  | [.agg [.sl w0], .agg [.sl w1]] => (match decL dc_en0 w0 with | some y0 => ((match decL dc_en0 w1 with | some y1 => (if p_laws_eqSkeleton y0 y1 = true then some (.bool (m_laws_eqSkeleton y0 y1)) else none) | none => none)) | none => none)
  | _ => none
def ic26 : ICode := (.seq (.reg [⟨(some 2), none, (.box 1 (.t 0))⟩, ⟨(some 3), none, (.box 1 (.t 1))⟩, ⟨(some 4), none, (.mov (.c (.bool false)))⟩] [2, 3]) (.seq (.seq (.reg [⟨(some
      5), none, (.faddr 0 (.t 2))⟩, ⟨(some 6), none, (.load none (.t 5))⟩, ⟨(some 7), none, (.faddr 0 (.t 3))⟩, ⟨(some 8), none, (.load none (.t 7))⟩, ⟨(some 9), none, (.call (.fn
      66) [(.t 6), (.t 8)] [])⟩, ⟨(some 10), none, (.un .not (.t 9))⟩] [10]) (.cond (.t 10) (.seq (.reg [⟨(some 4), none, (.mov (.c (.bool false)))⟩] [4]) .ret) .skip)) (.seq (.reg
      [⟨(some 4), none, (.mov (.c (.bool true)))⟩] [4]) .ret)))
def cp26 : CP := CP.mk [] [] [[2, 3], [10], [4], [4]] 11
theorem fc26_0 : IntKind.wrap .i64 0 = 0 := by decide
theorem fc26_1 : IntKind.wrap .i64 1 = 1 := by decide
theorem fc26_2 : IntKind.wrap .i64 2 = 2 := by decide
theorem fc26_3 : IntKind.wrap .i64 3 = 3 := by decide
theorem fc26_4 : IntKind.wrap .i64 4 = 4 := by decide
end Go.Proofs
