/- What functions that FnExactValidSkeleton reaches compute. No conditions. -/
import Derived.Test.YtpoghajdcdfhbabFwF
import Derived.Test.YtpoghajdcdfhbabProg
import Derived.KernelRfl
set_option maxRecDepth 100000
set_option maxHeartbeats 4000000
set_option linter.all false
namespace Go.Proofs
open Go.Ab
theorem hm : Try.prog.follows .mixedOrders = true := by kernel_rfl
def en0 (p : (Int × Nat × Nat × Nat)) : AV := (AV.agg [(.int .i64 p.1), (.flt .f32 p.2.1), (.flt .f32 p.2.2.1), (.flt .f32 p.2.2.2)])
def dc_en0 : AV → Option (Int × Nat × Nat × Nat)
  | .agg [.int .i64 y0, .flt .f32 y1, .flt .f32 y2, .flt .f32 y3] => some (y0, y1, y2, y3)
  | _ => none
theorem dc_en0_map (ys : List (Int × Nat × Nat × Nat)) : decL dc_en0 (List.map en0 ys) = some ys := decL_map (d := dc_en0) (e := en0) (fun p => by rfl) ys
theorem dc_en0_inv : ∀ x p, dc_en0 x = some p → x = en0 p := by
  intro x p h; unfold dc_en0 at h; split at h
  · cases h; rfl
  · cases h
theorem dc_en0_es (l : List (Int × Nat × Nat × Nat)) : List.all (List.map en0 l) (esIs 4) = true := all_enc (fun _ => rfl) l
theorem dc_en0_st (l : List (Int × Nat × Nat × Nat)) : List.all (List.map en0 l) (esSt 4) = true := all_enc (fun _ => rfl) l
theorem dc_en0_fl (l : List (Int × Nat × Nat × Nat)) : List.all (List.map en0 l) flatE = true := all_enc (fun _ => rfl) l
def grpC := And.intro @dc_en0_map <| And.intro @dc_en0_es <| And.intro @dc_en0_st @dc_en0_fl
def m_laws_szBoneS (x0 : (List (Int × Nat × Nat × Nat))) (x1 : Int) : Int := (if (decide ((IntKind.wrap .i64 (x1 - ((List.length x0 : Nat) : Int))) < 0)) = true then (-1) else
      (IntKind.wrap .i64 (x1 - ((List.length x0 : Nat) : Int))))
def g_laws_szBoneS : List AV → Option AV
  | [.sl w0, .int .i64 y1] => (match decL dc_en0 w0 with | some y0 => (some (.int .i64 (m_laws_szBoneS y0 y1))) | none => none)
  | _ => none
def ic49 : ICode := (.seq (.reg [⟨(some 4), none, (.mov (.c (.int .i64 0)))⟩] [0, 1]) (.seq (.reg [⟨(some 5), none, (.mov (.t 1))⟩, ⟨(some 6), none, (.mov (.t 0))⟩, ⟨(some 7), none,
      (.len false (.t 6))⟩, ⟨(some 8), none, (.bin .sub false (.t 5) (.t 7))⟩, ⟨(some 1), none, (.mov (.t 8))⟩] [1]) (.seq (.seq (.reg [⟨(some 9), none, (.mov (.t 1))⟩, ⟨(some 10),
      none, (.bin .lss false (.t 9) (.c (.int .i64 0)))⟩] [1, 10]) (.cond (.t 10) (.seq (.reg [⟨(some 4), none, (.mov (.c (.int .i64 (-1))))⟩] [4]) .ret) .skip)) (.seq (.reg [⟨(some
      11), none, (.mov (.t 1))⟩, ⟨(some 4), none, (.mov (.t 11))⟩] [4]) .ret))))
def cp49 : CP := { n := 12, kp := [[0, 1], [1], [1, 10], [4], [4]] }
theorem fc49_0 : IntKind.wrap .i64 0 = 0 := by decide
theorem fc49_1 : IntKind.wrap .i64 1 = 1 := by decide
theorem fc49_2 : IntKind.wrap .i64 10 = 10 := by decide
theorem fc49_3 : IntKind.wrap .i64 11 = 11 := by decide
theorem fc49_4 : IntKind.wrap .i64 12 = 12 := by decide
theorem fc49_5 : IntKind.wrap .i64 13 = 13 := by decide
theorem fc49_6 : IntKind.wrap .i64 14 = 14 := by decide
theorem fc49_7 : IntKind.wrap .i64 15 = 15 := by decide
theorem fc49_8 : IntKind.wrap .i64 16 = 16 := by decide
theorem fc49_9 : IntKind.wrap .i64 17 = 17 := by decide
theorem fc49_10 : IntKind.wrap .i64 18 = 18 := by decide
theorem fc49_11 : IntKind.wrap .i64 19 = 19 := by decide
theorem fc49_12 : IntKind.wrap .i64 2 = 2 := by decide
theorem fc49_13 : IntKind.wrap .i64 20 = 20 := by decide
theorem fc49_14 : IntKind.wrap .i64 21 = 21 := by decide
theorem fc49_15 : IntKind.wrap .i64 22 = 22 := by decide
theorem fc49_16 : IntKind.wrap .i64 23 = 23 := by decide
theorem fc49_17 : IntKind.wrap .i64 24 = 24 := by decide
theorem fc49_18 : IntKind.wrap .i64 25 = 25 := by decide
theorem fc49_19 : IntKind.wrap .i64 26 = 26 := by decide
theorem fc49_20 : IntKind.wrap .i64 27 = 27 := by decide
theorem fc49_21 : IntKind.wrap .i64 28 = 28 := by decide
theorem fc49_22 : IntKind.wrap .i64 29 = 29 := by decide
theorem fc49_23 : IntKind.wrap .i64 3 = 3 := by decide
theorem fc49_24 : IntKind.wrap .i64 30 = 30 := by decide
theorem fc49_25 : IntKind.wrap .i64 31 = 31 := by decide
theorem fc49_26 : IntKind.wrap .i64 32 = 32 := by decide
theorem fc49_27 : IntKind.wrap .i64 33 = 33 := by decide
theorem fc49_28 : IntKind.wrap .i64 34 = 34 := by decide
theorem fc49_29 : IntKind.wrap .i64 35 = 35 := by decide
theorem fc49_30 : IntKind.wrap .i64 36 = 36 := by decide
theorem fc49_31 : IntKind.wrap .i64 37 = 37 := by decide
theorem fc49_32 : IntKind.wrap .i64 38 = 38 := by decide
theorem fc49_33 : IntKind.wrap .i64 39 = 39 := by decide
theorem fc49_34 : IntKind.wrap .i64 4 = 4 := by decide
theorem fc49_35 : IntKind.wrap .i64 40 = 40 := by decide
theorem fc49_36 : IntKind.wrap .i64 41 = 41 := by decide
theorem fc49_37 : IntKind.wrap .i64 42 = 42 := by decide
theorem fc49_38 : IntKind.wrap .i64 43 = 43 := by decide
theorem fc49_39 : IntKind.wrap .i64 44 = 44 := by decide
theorem fc49_40 : IntKind.wrap .i64 45 = 45 := by decide
theorem fc49_41 : IntKind.wrap .i64 46 = 46 := by decide
theorem fc49_42 : IntKind.wrap .i64 47 = 47 := by decide
theorem fc49_43 : IntKind.wrap .i64 48 = 48 := by decide
theorem fc49_44 : IntKind.wrap .i64 49 = 49 := by decide
theorem fc49_45 : IntKind.wrap .i64 5 = 5 := by decide
theorem fc49_46 : IntKind.wrap .i64 50 = 50 := by decide
theorem fc49_47 : IntKind.wrap .i64 51 = 51 := by decide
theorem fc49_48 : IntKind.wrap .i64 52 = 52 := by decide
theorem fc49_49 : IntKind.wrap .i64 53 = 53 := by decide
theorem fc49_50 : IntKind.wrap .i64 54 = 54 := by decide
theorem fc49_51 : IntKind.wrap .i64 55 = 55 := by decide
theorem fc49_52 : IntKind.wrap .i64 56 = 56 := by decide
theorem fc49_53 : IntKind.wrap .i64 57 = 57 := by decide
theorem fc49_54 : IntKind.wrap .i64 58 = 58 := by decide
theorem fc49_55 : IntKind.wrap .i64 59 = 59 := by decide
theorem fc49_56 : IntKind.wrap .i64 6 = 6 := by decide
theorem fc49_57 : IntKind.wrap .i64 60 = 60 := by decide
theorem fc49_58 : IntKind.wrap .i64 61 = 61 := by decide
theorem fc49_59 : IntKind.wrap .i64 62 = 62 := by decide
theorem fc49_60 : IntKind.wrap .i64 63 = 63 := by decide
theorem fc49_61 : IntKind.wrap .i64 64 = 64 := by decide
theorem fc49_62 : IntKind.wrap .i64 65 = 65 := by decide
theorem fc49_63 : IntKind.wrap .i64 66 = 66 := by decide
theorem fc49_64 : IntKind.wrap .i64 67 = 67 := by decide
theorem fc49_65 : IntKind.wrap .i64 68 = 68 := by decide
theorem fc49_66 : IntKind.wrap .i64 69 = 69 := by decide
theorem fc49_67 : IntKind.wrap .i64 7 = 7 := by decide
theorem fc49_68 : IntKind.wrap .i64 70 = 70 := by decide
theorem fc49_69 : IntKind.wrap .i64 71 = 71 := by decide
theorem fc49_70 : IntKind.wrap .i64 8 = 8 := by decide
theorem fc49_71 : IntKind.wrap .i64 9 = 9 := by decide
theorem s49 : ∀ vs r, g_laws_szBoneS vs = some r → SaysM Try.prog .any 49 vs r := by
  intro vs r h
  unfold g_laws_szBoneS at h
  split at h
  · rename_i w0 y1
    cases hd_y0 : decL dc_en0 w0 with
    | none => rw [hd_y0] at h; cases h
    | some y0 =>
    rw [hd_y0] at h
    obtain rfl := decL_inv dc_en0_inv hd_y0
    clear hd_y0
    dsimp only at h
    cases h
    refine spec_of (m := .any) (tab := tabOf []) (cp := cp49) (ic := ic49) (rvl := [(.t 4)]) hm tabOk_nil Try.func49 rfl rfl rfl (by kernel_rfl) rfl (Nat.le_of_ble_eq_true rfl) (Nat.le_of_ble_eq_true rfl) ?_
    show eA _ _ _ _
    unfold ic49
    simp only [
        grpS, grpD, grpF, grpL, eop, vop, bop, uop, fltop, convop, endOk, newE, new1, freshL, Md.isNew, outV, pureV, pureX, pure1, AV.cells, AV.one, storable, laid, refless,
              refless1, vload, loadC, storeC, vnil, vfaddr, vextract, flatT, flatE, flatC, vconv, vmm, vidxA, viaddrA, vfield, vlen, elemsOf, dF32, dF64, dI64, dU8, dBool, dStr,
              esOk, elemsS, vsliceX, bnd, ownV, ownC, Md.isOwn, pureV.pureP, Option.map, reduceIte, Nat.reduceEqDiff, Nat.reduceAdd, Nat.reduceMul, Nat.reduceLT, Nat.reduceLeDiff,
              List.mapM_cons, List.mapM_nil, Option.pure_def, Option.bind_eq_bind, Option.bind_some, implies_true, forall_const, beq_self_eq_true, decide_true, decide_false,
              eq_self, Int.reduceEq, Int.reduceLE, Int.reduceLT, if_true, if_false, fc49_0, fc49_1, fc49_2, fc49_3, fc49_4, fc49_5, fc49_6, fc49_7, fc49_8, fc49_9, fc49_10, fc49_11,
              fc49_12, fc49_13, fc49_14, fc49_15, fc49_16, fc49_17, fc49_18, fc49_19, fc49_20, fc49_21, fc49_22, fc49_23, fc49_24, fc49_25, fc49_26, fc49_27, fc49_28, fc49_29,
              fc49_30, fc49_31, fc49_32, fc49_33, fc49_34, fc49_35, fc49_36, fc49_37, fc49_38, fc49_39, fc49_40, fc49_41, fc49_42, fc49_43, fc49_44, fc49_45, fc49_46, fc49_47,
              fc49_48, fc49_49, fc49_50, fc49_51, fc49_52, fc49_53, fc49_54, fc49_55, fc49_56, fc49_57, fc49_58, fc49_59, fc49_60, fc49_61, fc49_62, fc49_63, fc49_64, fc49_65,
              fc49_66, fc49_67, fc49_68, fc49_69, fc49_70, fc49_71, Int.reduceAdd, Int.reduceSub, Int.reduceMul, Int.reduceNeg, Int.reducePow, Nat.reducePow, Int.reduceToNat,
              Nat.reduceSub, List.replicate, Nat.reduceBEq, grpE, grpC, en0, dc_en0]
    repeat' (first
      | ((first | (refine eGI_of (fun h => ?_) (fun h => ?_)) | (refine eCc_of (fun h => ?_) (fun h => ?_))) <;> (try simp only [Bool.not_eq_true', Bool.not_eq_false'] at h) <;> simp only [h,
        grpS, grpD, grpF, grpL, eop, vop, bop, uop, fltop, convop, endOk, newE, new1, freshL, Md.isNew, outV, pureV, pureX, pure1, AV.cells, AV.one, storable, laid, refless,
              refless1, vload, loadC, storeC, vnil, vfaddr, vextract, flatT, flatE, flatC, vconv, vmm, vidxA, viaddrA, vfield, vlen, elemsOf, dF32, dF64, dI64, dU8, dBool, dStr,
              esOk, elemsS, vsliceX, bnd, ownV, ownC, Md.isOwn, pureV.pureP, Option.map, reduceIte, Nat.reduceEqDiff, Nat.reduceAdd, Nat.reduceMul, Nat.reduceLT, Nat.reduceLeDiff,
              List.mapM_cons, List.mapM_nil, Option.pure_def, Option.bind_eq_bind, Option.bind_some, implies_true, forall_const, beq_self_eq_true, decide_true, decide_false,
              eq_self, Int.reduceEq, Int.reduceLE, Int.reduceLT, if_true, if_false, fc49_0, fc49_1, fc49_2, fc49_3, fc49_4, fc49_5, fc49_6, fc49_7, fc49_8, fc49_9, fc49_10, fc49_11,
              fc49_12, fc49_13, fc49_14, fc49_15, fc49_16, fc49_17, fc49_18, fc49_19, fc49_20, fc49_21, fc49_22, fc49_23, fc49_24, fc49_25, fc49_26, fc49_27, fc49_28, fc49_29,
              fc49_30, fc49_31, fc49_32, fc49_33, fc49_34, fc49_35, fc49_36, fc49_37, fc49_38, fc49_39, fc49_40, fc49_41, fc49_42, fc49_43, fc49_44, fc49_45, fc49_46, fc49_47,
              fc49_48, fc49_49, fc49_50, fc49_51, fc49_52, fc49_53, fc49_54, fc49_55, fc49_56, fc49_57, fc49_58, fc49_59, fc49_60, fc49_61, fc49_62, fc49_63, fc49_64, fc49_65,
              fc49_66, fc49_67, fc49_68, fc49_69, fc49_70, fc49_71, Int.reduceAdd, Int.reduceSub, Int.reduceMul, Int.reduceNeg, Int.reducePow, Nat.reducePow, Int.reduceToNat,
              Nat.reduceSub, List.replicate, Nat.reduceBEq, grpE, grpC, en0, dc_en0]))
    all_goals (try simp only [*, m_laws_szBoneS, Bool.and_true, Bool.true_and, Bool.and_false, Bool.false_and, Bool.or_true, Bool.true_or, Bool.or_false, Bool.false_or, Bool.not_true, Bool.not_false, Bool.false_eq_true, if_true, if_false, reduceIte, decide_true, decide_false])
    all_goals (try (simp_all; done))
  · cases h
def m_laws_szSkeleton (x0 : (List (Int × Nat × Nat × Nat))) (x1 : Int) : Int := (if (decide ((m_laws_szBoneS x0 x1) < 0)) = true then (-1) else (m_laws_szBoneS x0 x1))
def g_laws_szSkeleton : List AV → Option AV
  | [.agg [.sl w0], .int .i64 y1] => (match decL dc_en0 w0 with | some y0 => (some (.int .i64 (m_laws_szSkeleton y0 y1))) | none => none)
  | _ => none
def ic17 : ICode := (.seq (.reg [⟨(some 2), none, (.box 1 (.t 0))⟩, ⟨(some 4), none, (.mov (.c (.int .i64 0)))⟩] [1, 2]) (.seq (.reg [⟨(some 5), none, (.faddr 0 (.t 2))⟩, ⟨(some 6),
      none, (.load none (.t 5))⟩, ⟨(some 7), none, (.mov (.t 1))⟩, ⟨(some 8), none, (.call (.fn 49) [(.t 6), (.t 7)] [])⟩, ⟨(some 1), none, (.mov (.t 8))⟩] [1]) (.seq (.seq (.reg
      [⟨(some 9), none, (.mov (.t 1))⟩, ⟨(some 10), none, (.bin .lss false (.t 9) (.c (.int .i64 0)))⟩] [1, 10]) (.cond (.t 10) (.seq (.reg [⟨(some 4), none, (.mov (.c (.int .i64
      (-1))))⟩] [4]) .ret) .skip)) (.seq (.reg [⟨(some 11), none, (.mov (.t 1))⟩, ⟨(some 4), none, (.mov (.t 11))⟩] [4]) .ret))))
def cp17 : CP := { n := 12, kp := [[1, 2], [1], [1, 10], [4], [4]] }
theorem fc17_0 : IntKind.wrap .i64 0 = 0 := by decide
theorem fc17_1 : IntKind.wrap .i64 1 = 1 := by decide
theorem fc17_2 : IntKind.wrap .i64 10 = 10 := by decide
theorem fc17_3 : IntKind.wrap .i64 11 = 11 := by decide
theorem fc17_4 : IntKind.wrap .i64 12 = 12 := by decide
theorem fc17_5 : IntKind.wrap .i64 13 = 13 := by decide
theorem fc17_6 : IntKind.wrap .i64 14 = 14 := by decide
theorem fc17_7 : IntKind.wrap .i64 15 = 15 := by decide
theorem fc17_8 : IntKind.wrap .i64 16 = 16 := by decide
theorem fc17_9 : IntKind.wrap .i64 17 = 17 := by decide
theorem fc17_10 : IntKind.wrap .i64 18 = 18 := by decide
theorem fc17_11 : IntKind.wrap .i64 19 = 19 := by decide
theorem fc17_12 : IntKind.wrap .i64 2 = 2 := by decide
theorem fc17_13 : IntKind.wrap .i64 20 = 20 := by decide
theorem fc17_14 : IntKind.wrap .i64 21 = 21 := by decide
theorem fc17_15 : IntKind.wrap .i64 22 = 22 := by decide
theorem fc17_16 : IntKind.wrap .i64 23 = 23 := by decide
theorem fc17_17 : IntKind.wrap .i64 24 = 24 := by decide
theorem fc17_18 : IntKind.wrap .i64 25 = 25 := by decide
theorem fc17_19 : IntKind.wrap .i64 26 = 26 := by decide
theorem fc17_20 : IntKind.wrap .i64 27 = 27 := by decide
theorem fc17_21 : IntKind.wrap .i64 28 = 28 := by decide
theorem fc17_22 : IntKind.wrap .i64 29 = 29 := by decide
theorem fc17_23 : IntKind.wrap .i64 3 = 3 := by decide
theorem fc17_24 : IntKind.wrap .i64 30 = 30 := by decide
theorem fc17_25 : IntKind.wrap .i64 31 = 31 := by decide
theorem fc17_26 : IntKind.wrap .i64 32 = 32 := by decide
theorem fc17_27 : IntKind.wrap .i64 33 = 33 := by decide
theorem fc17_28 : IntKind.wrap .i64 34 = 34 := by decide
theorem fc17_29 : IntKind.wrap .i64 35 = 35 := by decide
theorem fc17_30 : IntKind.wrap .i64 36 = 36 := by decide
theorem fc17_31 : IntKind.wrap .i64 37 = 37 := by decide
theorem fc17_32 : IntKind.wrap .i64 38 = 38 := by decide
theorem fc17_33 : IntKind.wrap .i64 39 = 39 := by decide
theorem fc17_34 : IntKind.wrap .i64 4 = 4 := by decide
theorem fc17_35 : IntKind.wrap .i64 40 = 40 := by decide
theorem fc17_36 : IntKind.wrap .i64 41 = 41 := by decide
theorem fc17_37 : IntKind.wrap .i64 42 = 42 := by decide
theorem fc17_38 : IntKind.wrap .i64 43 = 43 := by decide
theorem fc17_39 : IntKind.wrap .i64 44 = 44 := by decide
theorem fc17_40 : IntKind.wrap .i64 45 = 45 := by decide
theorem fc17_41 : IntKind.wrap .i64 46 = 46 := by decide
theorem fc17_42 : IntKind.wrap .i64 47 = 47 := by decide
theorem fc17_43 : IntKind.wrap .i64 48 = 48 := by decide
theorem fc17_44 : IntKind.wrap .i64 49 = 49 := by decide
theorem fc17_45 : IntKind.wrap .i64 5 = 5 := by decide
theorem fc17_46 : IntKind.wrap .i64 50 = 50 := by decide
theorem fc17_47 : IntKind.wrap .i64 51 = 51 := by decide
theorem fc17_48 : IntKind.wrap .i64 52 = 52 := by decide
theorem fc17_49 : IntKind.wrap .i64 53 = 53 := by decide
theorem fc17_50 : IntKind.wrap .i64 54 = 54 := by decide
theorem fc17_51 : IntKind.wrap .i64 55 = 55 := by decide
theorem fc17_52 : IntKind.wrap .i64 56 = 56 := by decide
theorem fc17_53 : IntKind.wrap .i64 57 = 57 := by decide
theorem fc17_54 : IntKind.wrap .i64 58 = 58 := by decide
theorem fc17_55 : IntKind.wrap .i64 59 = 59 := by decide
theorem fc17_56 : IntKind.wrap .i64 6 = 6 := by decide
theorem fc17_57 : IntKind.wrap .i64 60 = 60 := by decide
theorem fc17_58 : IntKind.wrap .i64 61 = 61 := by decide
theorem fc17_59 : IntKind.wrap .i64 62 = 62 := by decide
theorem fc17_60 : IntKind.wrap .i64 63 = 63 := by decide
theorem fc17_61 : IntKind.wrap .i64 64 = 64 := by decide
theorem fc17_62 : IntKind.wrap .i64 65 = 65 := by decide
theorem fc17_63 : IntKind.wrap .i64 66 = 66 := by decide
theorem fc17_64 : IntKind.wrap .i64 67 = 67 := by decide
theorem fc17_65 : IntKind.wrap .i64 68 = 68 := by decide
theorem fc17_66 : IntKind.wrap .i64 69 = 69 := by decide
theorem fc17_67 : IntKind.wrap .i64 7 = 7 := by decide
theorem fc17_68 : IntKind.wrap .i64 70 = 70 := by decide
theorem fc17_69 : IntKind.wrap .i64 71 = 71 := by decide
theorem fc17_70 : IntKind.wrap .i64 8 = 8 := by decide
theorem fc17_71 : IntKind.wrap .i64 9 = 9 := by decide
theorem s17 : ∀ vs r, g_laws_szSkeleton vs = some r → SaysM Try.prog .any 17 vs r := by
  intro vs r h
  unfold g_laws_szSkeleton at h
  split at h
  · rename_i w0 y1
    cases hd_y0 : decL dc_en0 w0 with
    | none => rw [hd_y0] at h; cases h
    | some y0 =>
    rw [hd_y0] at h
    obtain rfl := decL_inv dc_en0_inv hd_y0
    clear hd_y0
    dsimp only at h
    cases h
    refine spec_of (m := .any) (tab := tabOf [(49, .any, g_laws_szBoneS)]) (cp := cp17) (ic := ic17) (rvl := [(.t 4)]) hm (tabOk_cons (m := .any) s49 tabOk_nil) Try.func17 rfl rfl rfl (by kernel_rfl) rfl (Nat.le_of_ble_eq_true rfl) (Nat.le_of_ble_eq_true rfl) ?_
    show eA _ _ _ _
    unfold ic17
    simp only [
        grpS, grpD, grpF, grpL, eop, vop, bop, uop, fltop, convop, endOk, newE, new1, freshL, Md.isNew, outV, pureV, pureX, pure1, AV.cells, AV.one, storable, laid, refless,
              refless1, vload, loadC, storeC, vnil, vfaddr, vextract, flatT, flatE, flatC, vconv, vmm, vidxA, viaddrA, vfield, vlen, elemsOf, dF32, dF64, dI64, dU8, dBool, dStr,
              esOk, elemsS, vsliceX, bnd, ownV, ownC, Md.isOwn, pureV.pureP, Option.map, reduceIte, Nat.reduceEqDiff, Nat.reduceAdd, Nat.reduceMul, Nat.reduceLT, Nat.reduceLeDiff,
              List.mapM_cons, List.mapM_nil, Option.pure_def, Option.bind_eq_bind, Option.bind_some, implies_true, forall_const, beq_self_eq_true, decide_true, decide_false,
              eq_self, Int.reduceEq, Int.reduceLE, Int.reduceLT, if_true, if_false, fc17_0, fc17_1, fc17_2, fc17_3, fc17_4, fc17_5, fc17_6, fc17_7, fc17_8, fc17_9, fc17_10, fc17_11,
              fc17_12, fc17_13, fc17_14, fc17_15, fc17_16, fc17_17, fc17_18, fc17_19, fc17_20, fc17_21, fc17_22, fc17_23, fc17_24, fc17_25, fc17_26, fc17_27, fc17_28, fc17_29,
              fc17_30, fc17_31, fc17_32, fc17_33, fc17_34, fc17_35, fc17_36, fc17_37, fc17_38, fc17_39, fc17_40, fc17_41, fc17_42, fc17_43, fc17_44, fc17_45, fc17_46, fc17_47,
              fc17_48, fc17_49, fc17_50, fc17_51, fc17_52, fc17_53, fc17_54, fc17_55, fc17_56, fc17_57, fc17_58, fc17_59, fc17_60, fc17_61, fc17_62, fc17_63, fc17_64, fc17_65,
              fc17_66, fc17_67, fc17_68, fc17_69, fc17_70, fc17_71, Int.reduceAdd, Int.reduceSub, Int.reduceMul, Int.reduceNeg, Int.reducePow, Nat.reducePow, Int.reduceToNat,
              Nat.reduceSub, List.replicate, Nat.reduceBEq, grpE, g_laws_szBoneS, grpC, en0, dc_en0]
    repeat' (first
      | ((first | (refine eGI_of (fun h => ?_) (fun h => ?_)) | (refine eCc_of (fun h => ?_) (fun h => ?_))) <;> (try simp only [Bool.not_eq_true', Bool.not_eq_false'] at h) <;> simp only [h,
        grpS, grpD, grpF, grpL, eop, vop, bop, uop, fltop, convop, endOk, newE, new1, freshL, Md.isNew, outV, pureV, pureX, pure1, AV.cells, AV.one, storable, laid, refless,
              refless1, vload, loadC, storeC, vnil, vfaddr, vextract, flatT, flatE, flatC, vconv, vmm, vidxA, viaddrA, vfield, vlen, elemsOf, dF32, dF64, dI64, dU8, dBool, dStr,
              esOk, elemsS, vsliceX, bnd, ownV, ownC, Md.isOwn, pureV.pureP, Option.map, reduceIte, Nat.reduceEqDiff, Nat.reduceAdd, Nat.reduceMul, Nat.reduceLT, Nat.reduceLeDiff,
              List.mapM_cons, List.mapM_nil, Option.pure_def, Option.bind_eq_bind, Option.bind_some, implies_true, forall_const, beq_self_eq_true, decide_true, decide_false,
              eq_self, Int.reduceEq, Int.reduceLE, Int.reduceLT, if_true, if_false, fc17_0, fc17_1, fc17_2, fc17_3, fc17_4, fc17_5, fc17_6, fc17_7, fc17_8, fc17_9, fc17_10, fc17_11,
              fc17_12, fc17_13, fc17_14, fc17_15, fc17_16, fc17_17, fc17_18, fc17_19, fc17_20, fc17_21, fc17_22, fc17_23, fc17_24, fc17_25, fc17_26, fc17_27, fc17_28, fc17_29,
              fc17_30, fc17_31, fc17_32, fc17_33, fc17_34, fc17_35, fc17_36, fc17_37, fc17_38, fc17_39, fc17_40, fc17_41, fc17_42, fc17_43, fc17_44, fc17_45, fc17_46, fc17_47,
              fc17_48, fc17_49, fc17_50, fc17_51, fc17_52, fc17_53, fc17_54, fc17_55, fc17_56, fc17_57, fc17_58, fc17_59, fc17_60, fc17_61, fc17_62, fc17_63, fc17_64, fc17_65,
              fc17_66, fc17_67, fc17_68, fc17_69, fc17_70, fc17_71, Int.reduceAdd, Int.reduceSub, Int.reduceMul, Int.reduceNeg, Int.reducePow, Nat.reducePow, Int.reduceToNat,
              Nat.reduceSub, List.replicate, Nat.reduceBEq, grpE, g_laws_szBoneS, grpC, en0, dc_en0]))
    all_goals (try simp only [*, m_laws_szSkeleton, Bool.and_true, Bool.true_and, Bool.and_false, Bool.false_and, Bool.or_true, Bool.true_or, Bool.or_false, Bool.false_or, Bool.not_true, Bool.not_false, Bool.false_eq_true, if_true, if_false, reduceIte, decide_true, decide_false])
    all_goals (try (simp_all; done))
  · cases h
def m_laws_toVector (x0 : (Nat × Nat × Nat)) : (Nat × Nat × Nat) := (x0.1, x0.2.1, x0.2.2)
def g_laws_toVector : List AV → Option AV
  | [.agg [.flt .f32 y0, .flt .f32 y1, .flt .f32 y2]] => some (AV.agg [(.flt .f32 (m_laws_toVector (y0, y1, y2)).1), (.flt .f32
      (m_laws_toVector (y0, y1, y2)).2.1), (.flt .f32 (m_laws_toVector (y0, y1, y2)).2.2)])
  | _ => none
def ic45 : ICode := (.seq (.reg [⟨(some 1), none, (.box 3 (.t 0))⟩, ⟨(some 2), none, (.alloc (.agg [(.flt .f32 0), (.flt .f32 0), (.flt .f32 0)]))⟩] [1, 2]) (.seq (.reg [⟨(some 3),
      none, (.alloc (.agg [(.flt .f32 0), (.flt .f32 0), (.flt .f32 0)]))⟩] [1, 2, 3]) (.seq (.reg [⟨(some 4), none, (.faddr 0 (.t 1))⟩, ⟨(some 5), none, (.load none (.t 4))⟩,
      ⟨(some 6), none, (.faddr 0 (.t 3))⟩, ⟨none, none, (.store 1 (.t 6) (.t 5))⟩] [1, 2, 3]) (.seq (.reg [⟨(some 7), none, (.faddr 1 (.t 1))⟩, ⟨(some 8), none, (.load none (.t
      7))⟩, ⟨(some 9), none, (.faddr 1 (.t 3))⟩, ⟨none, none, (.store 1 (.t 9) (.t 8))⟩] [1, 2, 3]) (.seq (.reg [⟨(some 10), none, (.faddr 2 (.t 1))⟩, ⟨(some 11), none, (.load none
      (.t 10))⟩, ⟨(some 12), none, (.faddr 2 (.t 3))⟩, ⟨none, none, (.store 1 (.t 12) (.t 11))⟩] [2, 3]) (.seq (.reg [⟨(some 13), none, (.load (some 3) (.t 3))⟩, ⟨none, none,
      (.store 3 (.t 2) (.t 13))⟩] [2]) .ret))))))
def cp45 : CP := { n := 14, kp := [[1, 2], [1, 2, 3], [1, 2, 3], [1, 2, 3], [2, 3], [2]] }
theorem fc45_0 : IntKind.wrap .i64 0 = 0 := by decide
theorem fc45_1 : IntKind.wrap .i64 1 = 1 := by decide
theorem fc45_2 : IntKind.wrap .i64 10 = 10 := by decide
theorem fc45_3 : IntKind.wrap .i64 11 = 11 := by decide
theorem fc45_4 : IntKind.wrap .i64 12 = 12 := by decide
theorem fc45_5 : IntKind.wrap .i64 13 = 13 := by decide
theorem fc45_6 : IntKind.wrap .i64 14 = 14 := by decide
theorem fc45_7 : IntKind.wrap .i64 15 = 15 := by decide
theorem fc45_8 : IntKind.wrap .i64 16 = 16 := by decide
theorem fc45_9 : IntKind.wrap .i64 17 = 17 := by decide
theorem fc45_10 : IntKind.wrap .i64 18 = 18 := by decide
theorem fc45_11 : IntKind.wrap .i64 19 = 19 := by decide
theorem fc45_12 : IntKind.wrap .i64 2 = 2 := by decide
theorem fc45_13 : IntKind.wrap .i64 20 = 20 := by decide
theorem fc45_14 : IntKind.wrap .i64 21 = 21 := by decide
theorem fc45_15 : IntKind.wrap .i64 22 = 22 := by decide
theorem fc45_16 : IntKind.wrap .i64 23 = 23 := by decide
theorem fc45_17 : IntKind.wrap .i64 24 = 24 := by decide
theorem fc45_18 : IntKind.wrap .i64 25 = 25 := by decide
theorem fc45_19 : IntKind.wrap .i64 26 = 26 := by decide
theorem fc45_20 : IntKind.wrap .i64 27 = 27 := by decide
theorem fc45_21 : IntKind.wrap .i64 28 = 28 := by decide
theorem fc45_22 : IntKind.wrap .i64 29 = 29 := by decide
theorem fc45_23 : IntKind.wrap .i64 3 = 3 := by decide
theorem fc45_24 : IntKind.wrap .i64 30 = 30 := by decide
theorem fc45_25 : IntKind.wrap .i64 31 = 31 := by decide
theorem fc45_26 : IntKind.wrap .i64 32 = 32 := by decide
theorem fc45_27 : IntKind.wrap .i64 33 = 33 := by decide
theorem fc45_28 : IntKind.wrap .i64 34 = 34 := by decide
theorem fc45_29 : IntKind.wrap .i64 35 = 35 := by decide
theorem fc45_30 : IntKind.wrap .i64 36 = 36 := by decide
theorem fc45_31 : IntKind.wrap .i64 37 = 37 := by decide
theorem fc45_32 : IntKind.wrap .i64 38 = 38 := by decide
theorem fc45_33 : IntKind.wrap .i64 39 = 39 := by decide
theorem fc45_34 : IntKind.wrap .i64 4 = 4 := by decide
theorem fc45_35 : IntKind.wrap .i64 40 = 40 := by decide
theorem fc45_36 : IntKind.wrap .i64 41 = 41 := by decide
theorem fc45_37 : IntKind.wrap .i64 42 = 42 := by decide
theorem fc45_38 : IntKind.wrap .i64 43 = 43 := by decide
theorem fc45_39 : IntKind.wrap .i64 44 = 44 := by decide
theorem fc45_40 : IntKind.wrap .i64 45 = 45 := by decide
theorem fc45_41 : IntKind.wrap .i64 46 = 46 := by decide
theorem fc45_42 : IntKind.wrap .i64 47 = 47 := by decide
theorem fc45_43 : IntKind.wrap .i64 48 = 48 := by decide
theorem fc45_44 : IntKind.wrap .i64 49 = 49 := by decide
theorem fc45_45 : IntKind.wrap .i64 5 = 5 := by decide
theorem fc45_46 : IntKind.wrap .i64 50 = 50 := by decide
theorem fc45_47 : IntKind.wrap .i64 51 = 51 := by decide
theorem fc45_48 : IntKind.wrap .i64 52 = 52 := by decide
theorem fc45_49 : IntKind.wrap .i64 53 = 53 := by decide
theorem fc45_50 : IntKind.wrap .i64 54 = 54 := by decide
theorem fc45_51 : IntKind.wrap .i64 55 = 55 := by decide
theorem fc45_52 : IntKind.wrap .i64 56 = 56 := by decide
theorem fc45_53 : IntKind.wrap .i64 57 = 57 := by decide
theorem fc45_54 : IntKind.wrap .i64 58 = 58 := by decide
theorem fc45_55 : IntKind.wrap .i64 59 = 59 := by decide
theorem fc45_56 : IntKind.wrap .i64 6 = 6 := by decide
theorem fc45_57 : IntKind.wrap .i64 60 = 60 := by decide
theorem fc45_58 : IntKind.wrap .i64 61 = 61 := by decide
theorem fc45_59 : IntKind.wrap .i64 62 = 62 := by decide
theorem fc45_60 : IntKind.wrap .i64 63 = 63 := by decide
theorem fc45_61 : IntKind.wrap .i64 64 = 64 := by decide
theorem fc45_62 : IntKind.wrap .i64 65 = 65 := by decide
theorem fc45_63 : IntKind.wrap .i64 66 = 66 := by decide
theorem fc45_64 : IntKind.wrap .i64 67 = 67 := by decide
theorem fc45_65 : IntKind.wrap .i64 68 = 68 := by decide
theorem fc45_66 : IntKind.wrap .i64 69 = 69 := by decide
theorem fc45_67 : IntKind.wrap .i64 7 = 7 := by decide
theorem fc45_68 : IntKind.wrap .i64 70 = 70 := by decide
theorem fc45_69 : IntKind.wrap .i64 71 = 71 := by decide
theorem fc45_70 : IntKind.wrap .i64 8 = 8 := by decide
theorem fc45_71 : IntKind.wrap .i64 9 = 9 := by decide
theorem s45 : ∀ vs r, g_laws_toVector vs = some r → SaysM Try.prog .any 45 vs r := by
  intro vs r h
  unfold g_laws_toVector at h
  split at h
  · rename_i y0 y1 y2
    cases h
    refine spec_of (m := .any) (tab := tabOf []) (cp := cp45) (ic := ic45) (rvl := [(.c 2 (some 3))]) hm tabOk_nil Try.func45 rfl rfl rfl (by kernel_rfl) rfl (Nat.le_of_ble_eq_true rfl) (Nat.le_of_ble_eq_true rfl) ?_
    show eA _ _ _ _
    unfold ic45
    simp only [
        grpS, grpD, grpF, grpL, eop, vop, bop, uop, fltop, convop, endOk, newE, new1, freshL, Md.isNew, outV, pureV, pureX, pure1, AV.cells, AV.one, storable, laid, refless,
              refless1, vload, loadC, storeC, vnil, vfaddr, vextract, flatT, flatE, flatC, vconv, vmm, vidxA, viaddrA, vfield, vlen, elemsOf, dF32, dF64, dI64, dU8, dBool, dStr,
              esOk, elemsS, vsliceX, bnd, ownV, ownC, Md.isOwn, pureV.pureP, Option.map, reduceIte, Nat.reduceEqDiff, Nat.reduceAdd, Nat.reduceMul, Nat.reduceLT, Nat.reduceLeDiff,
              List.mapM_cons, List.mapM_nil, Option.pure_def, Option.bind_eq_bind, Option.bind_some, implies_true, forall_const, beq_self_eq_true, decide_true, decide_false,
              eq_self, Int.reduceEq, Int.reduceLE, Int.reduceLT, if_true, if_false, fc45_0, fc45_1, fc45_2, fc45_3, fc45_4, fc45_5, fc45_6, fc45_7, fc45_8, fc45_9, fc45_10, fc45_11,
              fc45_12, fc45_13, fc45_14, fc45_15, fc45_16, fc45_17, fc45_18, fc45_19, fc45_20, fc45_21, fc45_22, fc45_23, fc45_24, fc45_25, fc45_26, fc45_27, fc45_28, fc45_29,
              fc45_30, fc45_31, fc45_32, fc45_33, fc45_34, fc45_35, fc45_36, fc45_37, fc45_38, fc45_39, fc45_40, fc45_41, fc45_42, fc45_43, fc45_44, fc45_45, fc45_46, fc45_47,
              fc45_48, fc45_49, fc45_50, fc45_51, fc45_52, fc45_53, fc45_54, fc45_55, fc45_56, fc45_57, fc45_58, fc45_59, fc45_60, fc45_61, fc45_62, fc45_63, fc45_64, fc45_65,
              fc45_66, fc45_67, fc45_68, fc45_69, fc45_70, fc45_71, Int.reduceAdd, Int.reduceSub, Int.reduceMul, Int.reduceNeg, Int.reducePow, Nat.reducePow, Int.reduceToNat,
              Nat.reduceSub, List.replicate, Nat.reduceBEq, grpE, grpC, en0, dc_en0]
    repeat' (first
      | ((first | (refine eGI_of (fun h => ?_) (fun h => ?_)) | (refine eCc_of (fun h => ?_) (fun h => ?_))) <;> (try simp only [Bool.not_eq_true', Bool.not_eq_false'] at h) <;> simp only [h,
        grpS, grpD, grpF, grpL, eop, vop, bop, uop, fltop, convop, endOk, newE, new1, freshL, Md.isNew, outV, pureV, pureX, pure1, AV.cells, AV.one, storable, laid, refless,
              refless1, vload, loadC, storeC, vnil, vfaddr, vextract, flatT, flatE, flatC, vconv, vmm, vidxA, viaddrA, vfield, vlen, elemsOf, dF32, dF64, dI64, dU8, dBool, dStr,
              esOk, elemsS, vsliceX, bnd, ownV, ownC, Md.isOwn, pureV.pureP, Option.map, reduceIte, Nat.reduceEqDiff, Nat.reduceAdd, Nat.reduceMul, Nat.reduceLT, Nat.reduceLeDiff,
              List.mapM_cons, List.mapM_nil, Option.pure_def, Option.bind_eq_bind, Option.bind_some, implies_true, forall_const, beq_self_eq_true, decide_true, decide_false,
              eq_self, Int.reduceEq, Int.reduceLE, Int.reduceLT, if_true, if_false, fc45_0, fc45_1, fc45_2, fc45_3, fc45_4, fc45_5, fc45_6, fc45_7, fc45_8, fc45_9, fc45_10, fc45_11,
              fc45_12, fc45_13, fc45_14, fc45_15, fc45_16, fc45_17, fc45_18, fc45_19, fc45_20, fc45_21, fc45_22, fc45_23, fc45_24, fc45_25, fc45_26, fc45_27, fc45_28, fc45_29,
              fc45_30, fc45_31, fc45_32, fc45_33, fc45_34, fc45_35, fc45_36, fc45_37, fc45_38, fc45_39, fc45_40, fc45_41, fc45_42, fc45_43, fc45_44, fc45_45, fc45_46, fc45_47,
              fc45_48, fc45_49, fc45_50, fc45_51, fc45_52, fc45_53, fc45_54, fc45_55, fc45_56, fc45_57, fc45_58, fc45_59, fc45_60, fc45_61, fc45_62, fc45_63, fc45_64, fc45_65,
              fc45_66, fc45_67, fc45_68, fc45_69, fc45_70, fc45_71, Int.reduceAdd, Int.reduceSub, Int.reduceMul, Int.reduceNeg, Int.reducePow, Nat.reducePow, Int.reduceToNat,
              Nat.reduceSub, List.replicate, Nat.reduceBEq, grpE, grpC, en0, dc_en0]))
    all_goals (try simp only [*, m_laws_toVector, Bool.and_true, Bool.true_and, Bool.and_false, Bool.false_and, Bool.or_true, Bool.true_or, Bool.or_false, Bool.false_or, Bool.not_true, Bool.not_false, Bool.false_eq_true, if_true, if_false, reduceIte, decide_true, decide_false])
    all_goals (try (simp_all; done))
  · cases h
def m_laws_toBone (x0 : (Int × Nat × Nat × Nat)) : (Int × Nat × Nat × Nat) := (x0.1, (m_laws_toVector (x0.2.1, x0.2.2.1, x0.2.2.2)).1, (m_laws_toVector (x0.2.1, x0.2.2.1,
      x0.2.2.2)).2.1, (m_laws_toVector (x0.2.1, x0.2.2.1, x0.2.2.2)).2.2)
def g_laws_toBone : List AV → Option AV
  | [.agg [.int .i64 y0, .flt .f32 y1, .flt .f32 y2, .flt .f32 y3]] => some (AV.agg [(.int .i64 (m_laws_toBone (y0, y1, y2, y3)).1), (.flt
      .f32 (m_laws_toBone (y0, y1, y2, y3)).2.1), (.flt .f32 (m_laws_toBone (y0, y1, y2, y3)).2.2.1), (.flt .f32 (m_laws_toBone (y0, y1, y2, y3)).2.2.2)])
  | _ => none
def ic75 : ICode := (.seq (.reg [⟨(some 1), none, (.box 4 (.t 0))⟩, ⟨(some 2), none, (.alloc (.agg [(.int .i64 0), (.flt .f32 0), (.flt .f32 0), (.flt .f32 0)]))⟩] [1, 2]) (.seq
      (.reg [⟨(some 3), none, (.alloc (.agg [(.int .i64 0), (.flt .f32 0), (.flt .f32 0), (.flt .f32 0)]))⟩] [1, 2, 3]) (.seq (.reg [⟨(some 4), none, (.faddr 0 (.t 1))⟩, ⟨(some 5),
      none, (.load none (.t 4))⟩, ⟨(some 6), none, (.faddr 0 (.t 3))⟩, ⟨none, none, (.store 1 (.t 6) (.t 5))⟩] [1, 2, 3]) (.seq (.reg [⟨(some 7), none, (.faddr 1 (.t 1))⟩, ⟨(some
      8), none, (.load (some 3) (.t 7))⟩, ⟨(some 9), none, (.call (.fn 45) [(.t 8)] [])⟩, ⟨(some 10), none, (.faddr 1 (.t 3))⟩, ⟨none, none, (.store 3 (.t 10) (.t 9))⟩] [2, 3])
      (.seq (.reg [⟨(some 11), none, (.load (some 4) (.t 3))⟩, ⟨none, none, (.store 4 (.t 2) (.t 11))⟩] [2]) .ret)))))
def cp75 : CP := { n := 12, kp := [[1, 2], [1, 2, 3], [1, 2, 3], [2, 3], [2]] }
theorem fc75_0 : IntKind.wrap .i64 0 = 0 := by decide
theorem fc75_1 : IntKind.wrap .i64 1 = 1 := by decide
theorem fc75_2 : IntKind.wrap .i64 10 = 10 := by decide
theorem fc75_3 : IntKind.wrap .i64 11 = 11 := by decide
theorem fc75_4 : IntKind.wrap .i64 12 = 12 := by decide
theorem fc75_5 : IntKind.wrap .i64 13 = 13 := by decide
theorem fc75_6 : IntKind.wrap .i64 14 = 14 := by decide
theorem fc75_7 : IntKind.wrap .i64 15 = 15 := by decide
theorem fc75_8 : IntKind.wrap .i64 16 = 16 := by decide
theorem fc75_9 : IntKind.wrap .i64 17 = 17 := by decide
theorem fc75_10 : IntKind.wrap .i64 18 = 18 := by decide
theorem fc75_11 : IntKind.wrap .i64 19 = 19 := by decide
theorem fc75_12 : IntKind.wrap .i64 2 = 2 := by decide
theorem fc75_13 : IntKind.wrap .i64 20 = 20 := by decide
theorem fc75_14 : IntKind.wrap .i64 21 = 21 := by decide
theorem fc75_15 : IntKind.wrap .i64 22 = 22 := by decide
theorem fc75_16 : IntKind.wrap .i64 23 = 23 := by decide
theorem fc75_17 : IntKind.wrap .i64 24 = 24 := by decide
theorem fc75_18 : IntKind.wrap .i64 25 = 25 := by decide
theorem fc75_19 : IntKind.wrap .i64 26 = 26 := by decide
theorem fc75_20 : IntKind.wrap .i64 27 = 27 := by decide
theorem fc75_21 : IntKind.wrap .i64 28 = 28 := by decide
theorem fc75_22 : IntKind.wrap .i64 29 = 29 := by decide
theorem fc75_23 : IntKind.wrap .i64 3 = 3 := by decide
theorem fc75_24 : IntKind.wrap .i64 30 = 30 := by decide
theorem fc75_25 : IntKind.wrap .i64 31 = 31 := by decide
theorem fc75_26 : IntKind.wrap .i64 32 = 32 := by decide
theorem fc75_27 : IntKind.wrap .i64 33 = 33 := by decide
theorem fc75_28 : IntKind.wrap .i64 34 = 34 := by decide
theorem fc75_29 : IntKind.wrap .i64 35 = 35 := by decide
theorem fc75_30 : IntKind.wrap .i64 36 = 36 := by decide
theorem fc75_31 : IntKind.wrap .i64 37 = 37 := by decide
theorem fc75_32 : IntKind.wrap .i64 38 = 38 := by decide
theorem fc75_33 : IntKind.wrap .i64 39 = 39 := by decide
theorem fc75_34 : IntKind.wrap .i64 4 = 4 := by decide
theorem fc75_35 : IntKind.wrap .i64 40 = 40 := by decide
theorem fc75_36 : IntKind.wrap .i64 41 = 41 := by decide
theorem fc75_37 : IntKind.wrap .i64 42 = 42 := by decide
theorem fc75_38 : IntKind.wrap .i64 43 = 43 := by decide
theorem fc75_39 : IntKind.wrap .i64 44 = 44 := by decide
theorem fc75_40 : IntKind.wrap .i64 45 = 45 := by decide
theorem fc75_41 : IntKind.wrap .i64 46 = 46 := by decide
theorem fc75_42 : IntKind.wrap .i64 47 = 47 := by decide
theorem fc75_43 : IntKind.wrap .i64 48 = 48 := by decide
theorem fc75_44 : IntKind.wrap .i64 49 = 49 := by decide
theorem fc75_45 : IntKind.wrap .i64 5 = 5 := by decide
theorem fc75_46 : IntKind.wrap .i64 50 = 50 := by decide
theorem fc75_47 : IntKind.wrap .i64 51 = 51 := by decide
theorem fc75_48 : IntKind.wrap .i64 52 = 52 := by decide
theorem fc75_49 : IntKind.wrap .i64 53 = 53 := by decide
theorem fc75_50 : IntKind.wrap .i64 54 = 54 := by decide
theorem fc75_51 : IntKind.wrap .i64 55 = 55 := by decide
theorem fc75_52 : IntKind.wrap .i64 56 = 56 := by decide
theorem fc75_53 : IntKind.wrap .i64 57 = 57 := by decide
theorem fc75_54 : IntKind.wrap .i64 58 = 58 := by decide
theorem fc75_55 : IntKind.wrap .i64 59 = 59 := by decide
theorem fc75_56 : IntKind.wrap .i64 6 = 6 := by decide
theorem fc75_57 : IntKind.wrap .i64 60 = 60 := by decide
theorem fc75_58 : IntKind.wrap .i64 61 = 61 := by decide
theorem fc75_59 : IntKind.wrap .i64 62 = 62 := by decide
theorem fc75_60 : IntKind.wrap .i64 63 = 63 := by decide
theorem fc75_61 : IntKind.wrap .i64 64 = 64 := by decide
theorem fc75_62 : IntKind.wrap .i64 65 = 65 := by decide
theorem fc75_63 : IntKind.wrap .i64 66 = 66 := by decide
theorem fc75_64 : IntKind.wrap .i64 67 = 67 := by decide
theorem fc75_65 : IntKind.wrap .i64 68 = 68 := by decide
theorem fc75_66 : IntKind.wrap .i64 69 = 69 := by decide
theorem fc75_67 : IntKind.wrap .i64 7 = 7 := by decide
theorem fc75_68 : IntKind.wrap .i64 70 = 70 := by decide
theorem fc75_69 : IntKind.wrap .i64 71 = 71 := by decide
theorem fc75_70 : IntKind.wrap .i64 8 = 8 := by decide
theorem fc75_71 : IntKind.wrap .i64 9 = 9 := by decide
theorem s75 : ∀ vs r, g_laws_toBone vs = some r → SaysM Try.prog .any 75 vs r := by
  intro vs r h
  unfold g_laws_toBone at h
  split at h
  · rename_i y0 y1 y2 y3
    cases h
    refine spec_of (m := .any) (tab := tabOf [(45, .any, g_laws_toVector)]) (cp := cp75) (ic := ic75) (rvl := [(.c 2 (some 4))]) hm (tabOk_cons (m := .any) s45 tabOk_nil) Try.func75 rfl rfl rfl (by kernel_rfl) rfl (Nat.le_of_ble_eq_true rfl) (Nat.le_of_ble_eq_true rfl) ?_
    show eA _ _ _ _
    unfold ic75
    simp only [
        grpS, grpD, grpF, grpL, eop, vop, bop, uop, fltop, convop, endOk, newE, new1, freshL, Md.isNew, outV, pureV, pureX, pure1, AV.cells, AV.one, storable, laid, refless,
              refless1, vload, loadC, storeC, vnil, vfaddr, vextract, flatT, flatE, flatC, vconv, vmm, vidxA, viaddrA, vfield, vlen, elemsOf, dF32, dF64, dI64, dU8, dBool, dStr,
              esOk, elemsS, vsliceX, bnd, ownV, ownC, Md.isOwn, pureV.pureP, Option.map, reduceIte, Nat.reduceEqDiff, Nat.reduceAdd, Nat.reduceMul, Nat.reduceLT, Nat.reduceLeDiff,
              List.mapM_cons, List.mapM_nil, Option.pure_def, Option.bind_eq_bind, Option.bind_some, implies_true, forall_const, beq_self_eq_true, decide_true, decide_false,
              eq_self, Int.reduceEq, Int.reduceLE, Int.reduceLT, if_true, if_false, fc75_0, fc75_1, fc75_2, fc75_3, fc75_4, fc75_5, fc75_6, fc75_7, fc75_8, fc75_9, fc75_10, fc75_11,
              fc75_12, fc75_13, fc75_14, fc75_15, fc75_16, fc75_17, fc75_18, fc75_19, fc75_20, fc75_21, fc75_22, fc75_23, fc75_24, fc75_25, fc75_26, fc75_27, fc75_28, fc75_29,
              fc75_30, fc75_31, fc75_32, fc75_33, fc75_34, fc75_35, fc75_36, fc75_37, fc75_38, fc75_39, fc75_40, fc75_41, fc75_42, fc75_43, fc75_44, fc75_45, fc75_46, fc75_47,
              fc75_48, fc75_49, fc75_50, fc75_51, fc75_52, fc75_53, fc75_54, fc75_55, fc75_56, fc75_57, fc75_58, fc75_59, fc75_60, fc75_61, fc75_62, fc75_63, fc75_64, fc75_65,
              fc75_66, fc75_67, fc75_68, fc75_69, fc75_70, fc75_71, Int.reduceAdd, Int.reduceSub, Int.reduceMul, Int.reduceNeg, Int.reducePow, Nat.reducePow, Int.reduceToNat,
              Nat.reduceSub, List.replicate, Nat.reduceBEq, grpE, g_laws_toVector, grpC, en0, dc_en0]
    repeat' (first
      | ((first | (refine eGI_of (fun h => ?_) (fun h => ?_)) | (refine eCc_of (fun h => ?_) (fun h => ?_))) <;> (try simp only [Bool.not_eq_true', Bool.not_eq_false'] at h) <;> simp only [h,
        grpS, grpD, grpF, grpL, eop, vop, bop, uop, fltop, convop, endOk, newE, new1, freshL, Md.isNew, outV, pureV, pureX, pure1, AV.cells, AV.one, storable, laid, refless,
              refless1, vload, loadC, storeC, vnil, vfaddr, vextract, flatT, flatE, flatC, vconv, vmm, vidxA, viaddrA, vfield, vlen, elemsOf, dF32, dF64, dI64, dU8, dBool, dStr,
              esOk, elemsS, vsliceX, bnd, ownV, ownC, Md.isOwn, pureV.pureP, Option.map, reduceIte, Nat.reduceEqDiff, Nat.reduceAdd, Nat.reduceMul, Nat.reduceLT, Nat.reduceLeDiff,
              List.mapM_cons, List.mapM_nil, Option.pure_def, Option.bind_eq_bind, Option.bind_some, implies_true, forall_const, beq_self_eq_true, decide_true, decide_false,
              eq_self, Int.reduceEq, Int.reduceLE, Int.reduceLT, if_true, if_false, fc75_0, fc75_1, fc75_2, fc75_3, fc75_4, fc75_5, fc75_6, fc75_7, fc75_8, fc75_9, fc75_10, fc75_11,
              fc75_12, fc75_13, fc75_14, fc75_15, fc75_16, fc75_17, fc75_18, fc75_19, fc75_20, fc75_21, fc75_22, fc75_23, fc75_24, fc75_25, fc75_26, fc75_27, fc75_28, fc75_29,
              fc75_30, fc75_31, fc75_32, fc75_33, fc75_34, fc75_35, fc75_36, fc75_37, fc75_38, fc75_39, fc75_40, fc75_41, fc75_42, fc75_43, fc75_44, fc75_45, fc75_46, fc75_47,
              fc75_48, fc75_49, fc75_50, fc75_51, fc75_52, fc75_53, fc75_54, fc75_55, fc75_56, fc75_57, fc75_58, fc75_59, fc75_60, fc75_61, fc75_62, fc75_63, fc75_64, fc75_65,
              fc75_66, fc75_67, fc75_68, fc75_69, fc75_70, fc75_71, Int.reduceAdd, Int.reduceSub, Int.reduceMul, Int.reduceNeg, Int.reducePow, Nat.reducePow, Int.reduceToNat,
              Nat.reduceSub, List.replicate, Nat.reduceBEq, grpE, g_laws_toVector, grpC, en0, dc_en0]))
    all_goals (try simp only [*, m_laws_toBone, Bool.and_true, Bool.true_and, Bool.and_false, Bool.false_and, Bool.or_true, Bool.true_or, Bool.or_false, Bool.false_or, Bool.not_true, Bool.not_false, Bool.false_eq_true, if_true, if_false, reduceIte, decide_true, decide_false])
    all_goals (try (simp_all; done))
  · cases h
def l_laws_toBoneS_0 (x0 : (List (Int × Nat × Nat × Nat))) : Nat → (List (Int × Nat × Nat × Nat)) → Int → Option (List (Int × Nat × Nat × Nat))
  | 0, _, _ => none
  | n + 1, z0_0, z0_1 => (if (decide (z0_1 < ((List.length x0 : Nat) : Int))) = true then (need (inB z0_1 (List.length x0)) (need (inB z0_1 (List.length z0_0)) (l_laws_toBoneS_0 x0
        n (List.set z0_0 (Int.toNat z0_1) (m_laws_toBone (atI x0 z0_1))) (IntKind.wrap .i64 (z0_1 + 1))))) else (some z0_0))
def m_laws_toBoneS (x0 : (List (Int × Nat × Nat × Nat))) : (List (Int × Nat × Nat × Nat)) := (Option.getD (l_laws_toBoneS_0 x0 (Int.toNat (((List.length x0 : Nat) : Int) - 0) + 2)
      (List.replicate (Int.toNat ((List.length x0 : Nat) : Int)) (0, 0, 0, 0)) 0) default)
def p_laws_toBoneS (x0 : (List (Int × Nat × Nat × Nat))) : Bool := ((decide (0 ≤ ((List.length x0 : Nat) : Int))) && ((decide (((List.length x0 : Nat) : Int) * 24 ≤ 70368744177664))
      && ((decide (((List.length x0 : Nat) : Int) ≤ 70368744177664)) && (Option.isSome (l_laws_toBoneS_0 x0 (Int.toNat (((List.length x0 : Nat) : Int) - 0) + 2) (List.replicate
      (Int.toNat ((List.length x0 : Nat) : Int)) (0, 0, 0, 0)) 0)))))
def g_laws_toBoneS : List AV → Option AV
  | [.sl w0] => (match decL dc_en0 w0 with | some y0 => (if p_laws_toBoneS y0 = true then some (.sl (List.map en0 (m_laws_toBoneS y0))) else none) | none => none)
  | _ => none
def lb51_0 : ICode := (.seq (.seq (.reg [⟨(some 8), none, (.mov (.t 4))⟩, ⟨(some 9), none, (.mov (.t 0))⟩, ⟨(some 10), none, (.len false (.t 9))⟩, ⟨(some 11), none, (.bin .lss false
      (.t 8) (.t 10))⟩] [0, 3, 4, 11]) (.cond (.t 11) .skip (.exit 0))) (.seq (.block 1 (.reg [⟨(some 14), none, (.mov (.t 3))⟩, ⟨(some 15), none, (.mov (.t 4))⟩, ⟨(some 16), none,
      (.mov (.t 0))⟩, ⟨(some 17), none, (.mov (.t 4))⟩, ⟨(some 18), none, (.iaddrS 4 (.t 16) (.t 17))⟩, ⟨(some 19), none, (.load (some 4) (.t 18))⟩, ⟨(some 20), none, (.call (.fn
      75) [(.t 19)] [])⟩, ⟨(some 21), none, (.iaddrS 4 (.t 14) (.t 15))⟩, ⟨none, none, (.store 4 (.t 21) (.t 20))⟩] [0, 3, 4])) (.reg [⟨(some 12), none, (.mov (.t 4))⟩, ⟨(some 13),
      none, (.bin .add false (.t 12) (.c (.int .i64 1)))⟩, ⟨(some 4), none, (.mov (.t 13))⟩] [0, 3, 4])))
def ic51 : ICode := (.seq (.reg [⟨(some 2), none, (.mov (.c .snil))⟩] [0]) (.seq (.reg [⟨(some 5), none, (.mov (.t 0))⟩, ⟨(some 6), none, (.len false (.t 5))⟩, ⟨(some 7), none,
      (.mkslice 4 24 (.agg [(.int .i64 0), (.flt .f32 0), (.flt .f32 0), (.flt .f32 0)]) (.t 6) (.t 6))⟩, ⟨(some 3), none, (.mov (.t 7))⟩] [0, 3]) (.seq (.seq (.reg [⟨(some 4),
      none, (.mov (.c (.int .i64 0)))⟩] [0, 3, 4]) (.block 0 (.loop lb51_0))) (.seq (.reg [⟨(some 22), none, (.mov (.t 3))⟩, ⟨(some 2), none, (.mov (.t 22))⟩] [2]) .ret))))
def cp51 : CP := { n := 23, kp := [[0], [0, 3], [0, 3, 4], [0, 3, 4, 11], [0, 3, 4], [0, 3, 4], [2]] }
theorem fc51_0 : IntKind.wrap .i64 0 = 0 := by decide
theorem fc51_1 : IntKind.wrap .i64 1 = 1 := by decide
theorem fc51_2 : IntKind.wrap .i64 10 = 10 := by decide
theorem fc51_3 : IntKind.wrap .i64 11 = 11 := by decide
theorem fc51_4 : IntKind.wrap .i64 12 = 12 := by decide
theorem fc51_5 : IntKind.wrap .i64 13 = 13 := by decide
theorem fc51_6 : IntKind.wrap .i64 14 = 14 := by decide
theorem fc51_7 : IntKind.wrap .i64 15 = 15 := by decide
theorem fc51_8 : IntKind.wrap .i64 16 = 16 := by decide
theorem fc51_9 : IntKind.wrap .i64 17 = 17 := by decide
theorem fc51_10 : IntKind.wrap .i64 18 = 18 := by decide
theorem fc51_11 : IntKind.wrap .i64 19 = 19 := by decide
theorem fc51_12 : IntKind.wrap .i64 2 = 2 := by decide
theorem fc51_13 : IntKind.wrap .i64 20 = 20 := by decide
theorem fc51_14 : IntKind.wrap .i64 21 = 21 := by decide
theorem fc51_15 : IntKind.wrap .i64 22 = 22 := by decide
theorem fc51_16 : IntKind.wrap .i64 23 = 23 := by decide
theorem fc51_17 : IntKind.wrap .i64 24 = 24 := by decide
theorem fc51_18 : IntKind.wrap .i64 25 = 25 := by decide
theorem fc51_19 : IntKind.wrap .i64 26 = 26 := by decide
theorem fc51_20 : IntKind.wrap .i64 27 = 27 := by decide
theorem fc51_21 : IntKind.wrap .i64 28 = 28 := by decide
theorem fc51_22 : IntKind.wrap .i64 29 = 29 := by decide
theorem fc51_23 : IntKind.wrap .i64 3 = 3 := by decide
theorem fc51_24 : IntKind.wrap .i64 30 = 30 := by decide
theorem fc51_25 : IntKind.wrap .i64 31 = 31 := by decide
theorem fc51_26 : IntKind.wrap .i64 32 = 32 := by decide
theorem fc51_27 : IntKind.wrap .i64 33 = 33 := by decide
theorem fc51_28 : IntKind.wrap .i64 34 = 34 := by decide
theorem fc51_29 : IntKind.wrap .i64 35 = 35 := by decide
theorem fc51_30 : IntKind.wrap .i64 36 = 36 := by decide
theorem fc51_31 : IntKind.wrap .i64 37 = 37 := by decide
theorem fc51_32 : IntKind.wrap .i64 38 = 38 := by decide
theorem fc51_33 : IntKind.wrap .i64 39 = 39 := by decide
theorem fc51_34 : IntKind.wrap .i64 4 = 4 := by decide
theorem fc51_35 : IntKind.wrap .i64 40 = 40 := by decide
theorem fc51_36 : IntKind.wrap .i64 41 = 41 := by decide
theorem fc51_37 : IntKind.wrap .i64 42 = 42 := by decide
theorem fc51_38 : IntKind.wrap .i64 43 = 43 := by decide
theorem fc51_39 : IntKind.wrap .i64 44 = 44 := by decide
theorem fc51_40 : IntKind.wrap .i64 45 = 45 := by decide
theorem fc51_41 : IntKind.wrap .i64 46 = 46 := by decide
theorem fc51_42 : IntKind.wrap .i64 47 = 47 := by decide
theorem fc51_43 : IntKind.wrap .i64 48 = 48 := by decide
theorem fc51_44 : IntKind.wrap .i64 49 = 49 := by decide
theorem fc51_45 : IntKind.wrap .i64 5 = 5 := by decide
theorem fc51_46 : IntKind.wrap .i64 50 = 50 := by decide
theorem fc51_47 : IntKind.wrap .i64 51 = 51 := by decide
theorem fc51_48 : IntKind.wrap .i64 52 = 52 := by decide
theorem fc51_49 : IntKind.wrap .i64 53 = 53 := by decide
theorem fc51_50 : IntKind.wrap .i64 54 = 54 := by decide
theorem fc51_51 : IntKind.wrap .i64 55 = 55 := by decide
theorem fc51_52 : IntKind.wrap .i64 56 = 56 := by decide
theorem fc51_53 : IntKind.wrap .i64 57 = 57 := by decide
theorem fc51_54 : IntKind.wrap .i64 58 = 58 := by decide
theorem fc51_55 : IntKind.wrap .i64 59 = 59 := by decide
theorem fc51_56 : IntKind.wrap .i64 6 = 6 := by decide
theorem fc51_57 : IntKind.wrap .i64 60 = 60 := by decide
theorem fc51_58 : IntKind.wrap .i64 61 = 61 := by decide
theorem fc51_59 : IntKind.wrap .i64 62 = 62 := by decide
theorem fc51_60 : IntKind.wrap .i64 63 = 63 := by decide
theorem fc51_61 : IntKind.wrap .i64 64 = 64 := by decide
theorem fc51_62 : IntKind.wrap .i64 65 = 65 := by decide
theorem fc51_63 : IntKind.wrap .i64 66 = 66 := by decide
theorem fc51_64 : IntKind.wrap .i64 67 = 67 := by decide
theorem fc51_65 : IntKind.wrap .i64 68 = 68 := by decide
theorem fc51_66 : IntKind.wrap .i64 69 = 69 := by decide
theorem fc51_67 : IntKind.wrap .i64 7 = 7 := by decide
theorem fc51_68 : IntKind.wrap .i64 70 = 70 := by decide
theorem fc51_69 : IntKind.wrap .i64 71 = 71 := by decide
theorem fc51_70 : IntKind.wrap .i64 8 = 8 := by decide
theorem fc51_71 : IntKind.wrap .i64 9 = 9 := by decide
theorem sl51_0 (x0 : (List (Int × Nat × Nat × Nat))) : ∀ (n : Nat) (z0_0 : (List (Int × Nat × Nat × Nat))) (z0_1 : Int) (o : (List (Int × Nat × Nat × Nat))) (K : IExit → St → Prop),
      l_laws_toBoneS_0 x0 n z0_0 z0_1 = some o → (∀ st, Wk st (⟨[(3, (.lsl 7 0 (List.length o)))], [(7, (some ⟨4, true, (List.map en0 o)⟩))]⟩ : St) → K (.exit 0) st) → eA (tabOf
      [(75, .any, g_laws_toBone)]) (.loop lb51_0) (⟨[(0, (.sl (List.map en0 x0))), (3, (.lsl 7 0 (List.length z0_0))), (4, (.int .i64 z0_1))], [(7, (some ⟨4, true, (List.map en0
      z0_0)⟩))]⟩ : St) K := by
  intro n
  induction n with
  | zero =>
    intro z0_0 z0_1 o K h h0
    simp only [l_laws_toBoneS_0, reduceCtorEq] at h
  | succ n ih =>
    intro z0_0 z0_1 o K h h0
    refine eA_loop ?_
    unfold lb51_0
    unfold l_laws_toBoneS_0 at h
    (try simp only [need_iff] at h)
    simp only [
      need_iff, h, grpS, grpD, grpF, grpL, eop, vop, bop, uop, fltop, convop, endOk, newE, new1, freshL, Md.isNew, outV, pureV, pureX, pure1, AV.cells, AV.one, storable, laid,
            refless, refless1, vload, loadC, storeC, vnil, vfaddr, vextract, flatT, flatE, flatC, vconv, vmm, vidxA, viaddrA, vfield, vlen, elemsOf, dF32, dF64, dI64, dU8, dBool,
            dStr, esOk, elemsS, vsliceX, bnd, ownV, ownC, Md.isOwn, pureV.pureP, Option.map, reduceIte, Nat.reduceEqDiff, Nat.reduceAdd, Nat.reduceMul, Nat.reduceLT,
            Nat.reduceLeDiff, List.mapM_cons, List.mapM_nil, Option.pure_def, Option.bind_eq_bind, Option.bind_some, implies_true, forall_const, beq_self_eq_true, decide_true,
            decide_false, eq_self, Int.reduceEq, Int.reduceLE, Int.reduceLT, if_true, if_false, fc51_0, fc51_1, fc51_2, fc51_3, fc51_4, fc51_5, fc51_6, fc51_7, fc51_8, fc51_9,
            fc51_10, fc51_11, fc51_12, fc51_13, fc51_14, fc51_15, fc51_16, fc51_17, fc51_18, fc51_19, fc51_20, fc51_21, fc51_22, fc51_23, fc51_24, fc51_25, fc51_26, fc51_27,
            fc51_28, fc51_29, fc51_30, fc51_31, fc51_32, fc51_33, fc51_34, fc51_35, fc51_36, fc51_37, fc51_38, fc51_39, fc51_40, fc51_41, fc51_42, fc51_43, fc51_44, fc51_45,
            fc51_46, fc51_47, fc51_48, fc51_49, fc51_50, fc51_51, fc51_52, fc51_53, fc51_54, fc51_55, fc51_56, fc51_57, fc51_58, fc51_59, fc51_60, fc51_61, fc51_62, fc51_63,
            fc51_64, fc51_65, fc51_66, fc51_67, fc51_68, fc51_69, fc51_70, fc51_71, Int.reduceAdd, Int.reduceSub, Int.reduceMul, Int.reduceNeg, Int.reducePow, Nat.reducePow,
            Int.reduceToNat, Nat.reduceSub, List.replicate, Nat.reduceBEq, grpE, g_laws_toBone, grpC, en0, dc_en0]
    repeat' (first
      | ((first | (refine eGI_of (fun hc => ?_) (fun hc => ?_)) | (refine eCc_of (fun hc => ?_) (fun hc => ?_)) | (have hc := True.intro; refine KW_refl ?_)) <;> (try simp only [Bool.not_eq_true', Bool.not_eq_false'] at hc) <;> (try simp only [hc, need_iff, reduceCtorEq, Bool.not_eq_true', decide_eq_false_iff_not, Bool.not_true, Bool.not_false, Bool.false_or, Bool.true_or, Bool.true_and, Bool.false_and, Bool.and_eq_true, Bool.or_eq_true, if_true, if_false, reduceIte, Bool.false_eq_true, and_true, true_and, false_or, or_false, decide_eq_true_eq, not_false_eq_true, not_true_eq_false] at h) <;> (try (have hc2 := hc; simp only [decide_eq_true_eq, decide_eq_false_iff_not] at hc2; simp only [hc2, if_true, if_false, reduceCtorEq, Bool.not_eq_true', decide_eq_false_iff_not, Bool.not_true, Bool.not_false, Bool.false_or, Bool.true_or, Bool.true_and, Bool.false_and, Bool.and_eq_true, Bool.or_eq_true, if_true, if_false, reduceIte, Bool.false_eq_true, and_true, true_and, false_or, or_false, decide_eq_true_eq, not_false_eq_true, not_true_eq_false] at h)) <;> simp only [hc,
      need_iff, h, grpS, grpD, grpF, grpL, eop, vop, bop, uop, fltop, convop, endOk, newE, new1, freshL, Md.isNew, outV, pureV, pureX, pure1, AV.cells, AV.one, storable, laid,
            refless, refless1, vload, loadC, storeC, vnil, vfaddr, vextract, flatT, flatE, flatC, vconv, vmm, vidxA, viaddrA, vfield, vlen, elemsOf, dF32, dF64, dI64, dU8, dBool,
            dStr, esOk, elemsS, vsliceX, bnd, ownV, ownC, Md.isOwn, pureV.pureP, Option.map, reduceIte, Nat.reduceEqDiff, Nat.reduceAdd, Nat.reduceMul, Nat.reduceLT,
            Nat.reduceLeDiff, List.mapM_cons, List.mapM_nil, Option.pure_def, Option.bind_eq_bind, Option.bind_some, implies_true, forall_const, beq_self_eq_true, decide_true,
            decide_false, eq_self, Int.reduceEq, Int.reduceLE, Int.reduceLT, if_true, if_false, fc51_0, fc51_1, fc51_2, fc51_3, fc51_4, fc51_5, fc51_6, fc51_7, fc51_8, fc51_9,
            fc51_10, fc51_11, fc51_12, fc51_13, fc51_14, fc51_15, fc51_16, fc51_17, fc51_18, fc51_19, fc51_20, fc51_21, fc51_22, fc51_23, fc51_24, fc51_25, fc51_26, fc51_27,
            fc51_28, fc51_29, fc51_30, fc51_31, fc51_32, fc51_33, fc51_34, fc51_35, fc51_36, fc51_37, fc51_38, fc51_39, fc51_40, fc51_41, fc51_42, fc51_43, fc51_44, fc51_45,
            fc51_46, fc51_47, fc51_48, fc51_49, fc51_50, fc51_51, fc51_52, fc51_53, fc51_54, fc51_55, fc51_56, fc51_57, fc51_58, fc51_59, fc51_60, fc51_61, fc51_62, fc51_63,
            fc51_64, fc51_65, fc51_66, fc51_67, fc51_68, fc51_69, fc51_70, fc51_71, Int.reduceAdd, Int.reduceSub, Int.reduceMul, Int.reduceNeg, Int.reducePow, Nat.reducePow,
            Int.reduceToNat, Nat.reduceSub, List.replicate, Nat.reduceBEq, grpE, g_laws_toBone, grpC, en0, dc_en0]))
    all_goals (repeat (replace h := And.right h))
    all_goals first
      | (refine eA_wk (wk_norm (ks := [0, 3, 4]) (ls := [7]) ?_) (eA_cast ?_ (ih _ _ _ _ h h0)); (simp only [normOk, optIn, blkIn, nameIn,
      need_iff, h, grpS, grpD, grpF, grpL, eop, vop, bop, uop, fltop, convop, endOk, newE, new1, freshL, Md.isNew, outV, pureV, pureX, pure1, AV.cells, AV.one, storable, laid,
            refless, refless1, vload, loadC, storeC, vnil, vfaddr, vextract, flatT, flatE, flatC, vconv, vmm, vidxA, viaddrA, vfield, vlen, elemsOf, dF32, dF64, dI64, dU8, dBool,
            dStr, esOk, elemsS, vsliceX, bnd, ownV, ownC, Md.isOwn, pureV.pureP, Option.map, reduceIte, Nat.reduceEqDiff, Nat.reduceAdd, Nat.reduceMul, Nat.reduceLT,
            Nat.reduceLeDiff, List.mapM_cons, List.mapM_nil, Option.pure_def, Option.bind_eq_bind, Option.bind_some, implies_true, forall_const, beq_self_eq_true, decide_true,
            decide_false, eq_self, Int.reduceEq, Int.reduceLE, Int.reduceLT, if_true, if_false, fc51_0, fc51_1, fc51_2, fc51_3, fc51_4, fc51_5, fc51_6, fc51_7, fc51_8, fc51_9,
            fc51_10, fc51_11, fc51_12, fc51_13, fc51_14, fc51_15, fc51_16, fc51_17, fc51_18, fc51_19, fc51_20, fc51_21, fc51_22, fc51_23, fc51_24, fc51_25, fc51_26, fc51_27,
            fc51_28, fc51_29, fc51_30, fc51_31, fc51_32, fc51_33, fc51_34, fc51_35, fc51_36, fc51_37, fc51_38, fc51_39, fc51_40, fc51_41, fc51_42, fc51_43, fc51_44, fc51_45,
            fc51_46, fc51_47, fc51_48, fc51_49, fc51_50, fc51_51, fc51_52, fc51_53, fc51_54, fc51_55, fc51_56, fc51_57, fc51_58, fc51_59, fc51_60, fc51_61, fc51_62, fc51_63,
            fc51_64, fc51_65, fc51_66, fc51_67, fc51_68, fc51_69, fc51_70, fc51_71, Int.reduceAdd, Int.reduceSub, Int.reduceMul, Int.reduceNeg, Int.reducePow, Nat.reducePow,
            Int.reduceToNat, Nat.reduceSub, List.replicate, Nat.reduceBEq, grpE, g_laws_toBone, grpC, en0, dc_en0] <;> rfl); (simp only [normS, List.map_append, List.length_append, List.map_set, List.length_set, List.map_replicate, List.length_replicate, List.map_nil, List.map_cons,
      need_iff, h, grpS, grpD, grpF, grpL, eop, vop, bop, uop, fltop, convop, endOk, newE, new1, freshL, Md.isNew, outV, pureV, pureX, pure1, AV.cells, AV.one, storable, laid,
            refless, refless1, vload, loadC, storeC, vnil, vfaddr, vextract, flatT, flatE, flatC, vconv, vmm, vidxA, viaddrA, vfield, vlen, elemsOf, dF32, dF64, dI64, dU8, dBool,
            dStr, esOk, elemsS, vsliceX, bnd, ownV, ownC, Md.isOwn, pureV.pureP, Option.map, reduceIte, Nat.reduceEqDiff, Nat.reduceAdd, Nat.reduceMul, Nat.reduceLT,
            Nat.reduceLeDiff, List.mapM_cons, List.mapM_nil, Option.pure_def, Option.bind_eq_bind, Option.bind_some, implies_true, forall_const, beq_self_eq_true, decide_true,
            decide_false, eq_self, Int.reduceEq, Int.reduceLE, Int.reduceLT, if_true, if_false, fc51_0, fc51_1, fc51_2, fc51_3, fc51_4, fc51_5, fc51_6, fc51_7, fc51_8, fc51_9,
            fc51_10, fc51_11, fc51_12, fc51_13, fc51_14, fc51_15, fc51_16, fc51_17, fc51_18, fc51_19, fc51_20, fc51_21, fc51_22, fc51_23, fc51_24, fc51_25, fc51_26, fc51_27,
            fc51_28, fc51_29, fc51_30, fc51_31, fc51_32, fc51_33, fc51_34, fc51_35, fc51_36, fc51_37, fc51_38, fc51_39, fc51_40, fc51_41, fc51_42, fc51_43, fc51_44, fc51_45,
            fc51_46, fc51_47, fc51_48, fc51_49, fc51_50, fc51_51, fc51_52, fc51_53, fc51_54, fc51_55, fc51_56, fc51_57, fc51_58, fc51_59, fc51_60, fc51_61, fc51_62, fc51_63,
            fc51_64, fc51_65, fc51_66, fc51_67, fc51_68, fc51_69, fc51_70, fc51_71, Int.reduceAdd, Int.reduceSub, Int.reduceMul, Int.reduceNeg, Int.reducePow, Nat.reducePow,
            Int.reduceToNat, Nat.reduceSub, List.replicate, Nat.reduceBEq, grpE, g_laws_toBone, grpC, en0, dc_en0] <;> rfl))
      | (cases h; refine h0 _ (Wk.cast (wk_norm (ks := [3]) (ls := [7]) ?_) ?_); (simp only [normOk, optIn, blkIn, nameIn,
      grpS, grpD, grpF, grpL, eop, vop, bop, uop, fltop, convop, endOk, newE, new1, freshL, Md.isNew, outV, pureV, pureX, pure1, AV.cells, AV.one, storable, laid, refless, refless1,
            vload, loadC, storeC, vnil, vfaddr, vextract, flatT, flatE, flatC, vconv, vmm, vidxA, viaddrA, vfield, vlen, elemsOf, dF32, dF64, dI64, dU8, dBool, dStr, esOk, elemsS,
            vsliceX, bnd, ownV, ownC, Md.isOwn, pureV.pureP, Option.map, reduceIte, Nat.reduceEqDiff, Nat.reduceAdd, Nat.reduceMul, Nat.reduceLT, Nat.reduceLeDiff, List.mapM_cons,
            List.mapM_nil, Option.pure_def, Option.bind_eq_bind, Option.bind_some, implies_true, forall_const, beq_self_eq_true, decide_true, decide_false, eq_self, Int.reduceEq,
            Int.reduceLE, Int.reduceLT, if_true, if_false, fc51_0, fc51_1, fc51_2, fc51_3, fc51_4, fc51_5, fc51_6, fc51_7, fc51_8, fc51_9, fc51_10, fc51_11, fc51_12, fc51_13,
            fc51_14, fc51_15, fc51_16, fc51_17, fc51_18, fc51_19, fc51_20, fc51_21, fc51_22, fc51_23, fc51_24, fc51_25, fc51_26, fc51_27, fc51_28, fc51_29, fc51_30, fc51_31,
            fc51_32, fc51_33, fc51_34, fc51_35, fc51_36, fc51_37, fc51_38, fc51_39, fc51_40, fc51_41, fc51_42, fc51_43, fc51_44, fc51_45, fc51_46, fc51_47, fc51_48, fc51_49,
            fc51_50, fc51_51, fc51_52, fc51_53, fc51_54, fc51_55, fc51_56, fc51_57, fc51_58, fc51_59, fc51_60, fc51_61, fc51_62, fc51_63, fc51_64, fc51_65, fc51_66, fc51_67,
            fc51_68, fc51_69, fc51_70, fc51_71, Int.reduceAdd, Int.reduceSub, Int.reduceMul, Int.reduceNeg, Int.reducePow, Nat.reducePow, Int.reduceToNat, Nat.reduceSub,
            List.replicate, Nat.reduceBEq, grpE, g_laws_toBone, grpC, en0, dc_en0] <;> rfl); (simp only [normS, List.map_append, List.length_append, List.map_set, List.length_set, List.map_replicate, List.length_replicate,
      grpS, grpD, grpF, grpL, eop, vop, bop, uop, fltop, convop, endOk, newE, new1, freshL, Md.isNew, outV, pureV, pureX, pure1, AV.cells, AV.one, storable, laid, refless, refless1,
            vload, loadC, storeC, vnil, vfaddr, vextract, flatT, flatE, flatC, vconv, vmm, vidxA, viaddrA, vfield, vlen, elemsOf, dF32, dF64, dI64, dU8, dBool, dStr, esOk, elemsS,
            vsliceX, bnd, ownV, ownC, Md.isOwn, pureV.pureP, Option.map, reduceIte, Nat.reduceEqDiff, Nat.reduceAdd, Nat.reduceMul, Nat.reduceLT, Nat.reduceLeDiff, List.mapM_cons,
            List.mapM_nil, Option.pure_def, Option.bind_eq_bind, Option.bind_some, implies_true, forall_const, beq_self_eq_true, decide_true, decide_false, eq_self, Int.reduceEq,
            Int.reduceLE, Int.reduceLT, if_true, if_false, fc51_0, fc51_1, fc51_2, fc51_3, fc51_4, fc51_5, fc51_6, fc51_7, fc51_8, fc51_9, fc51_10, fc51_11, fc51_12, fc51_13,
            fc51_14, fc51_15, fc51_16, fc51_17, fc51_18, fc51_19, fc51_20, fc51_21, fc51_22, fc51_23, fc51_24, fc51_25, fc51_26, fc51_27, fc51_28, fc51_29, fc51_30, fc51_31,
            fc51_32, fc51_33, fc51_34, fc51_35, fc51_36, fc51_37, fc51_38, fc51_39, fc51_40, fc51_41, fc51_42, fc51_43, fc51_44, fc51_45, fc51_46, fc51_47, fc51_48, fc51_49,
            fc51_50, fc51_51, fc51_52, fc51_53, fc51_54, fc51_55, fc51_56, fc51_57, fc51_58, fc51_59, fc51_60, fc51_61, fc51_62, fc51_63, fc51_64, fc51_65, fc51_66, fc51_67,
            fc51_68, fc51_69, fc51_70, fc51_71, Int.reduceAdd, Int.reduceSub, Int.reduceMul, Int.reduceNeg, Int.reducePow, Nat.reducePow, Int.reduceToNat, Nat.reduceSub,
            List.replicate, Nat.reduceBEq, grpE, g_laws_toBone, grpC, en0, dc_en0] <;> rfl))
theorem s51 : ∀ vs r, g_laws_toBoneS vs = some r → SaysM Try.prog (.own [4]) 51 vs r := by
  intro vs r h
  unfold g_laws_toBoneS at h
  split at h
  · rename_i w0
    cases hd_y0 : decL dc_en0 w0 with
    | none => rw [hd_y0] at h; cases h
    | some y0 =>
    rw [hd_y0] at h
    obtain rfl := decL_inv dc_en0_inv hd_y0
    clear hd_y0
    dsimp only at h
    split at h
    · rename_i hp
      cases h
      refine spec_of (m := (.own [4])) (tab := tabOf [(75, .any, g_laws_toBone)]) (cp := cp51) (ic := ic51) (rvl := [(.t 2)]) hm (tabOk_cons (m := .any) s75 tabOk_nil) Try.func51 rfl rfl rfl (by kernel_rfl) rfl (Nat.le_of_ble_eq_true rfl) (Nat.le_of_ble_eq_true rfl) ?_
      show eA _ _ _ _
      unfold ic51
      simp only [p_laws_toBoneS, Bool.and_eq_true, Bool.or_eq_true, decide_eq_true_eq, Bool.not_eq_true', decide_eq_false_iff_not] at hp
      simp only [
          hp, grpS, grpD, grpF, grpL, eop, vop, bop, uop, fltop, convop, endOk, newE, new1, freshL, Md.isNew, outV, pureV, pureX, pure1, AV.cells, AV.one, storable, laid, refless,
                refless1, vload, loadC, storeC, vnil, vfaddr, vextract, flatT, flatE, flatC, vconv, vmm, vidxA, viaddrA, vfield, vlen, elemsOf, dF32, dF64, dI64, dU8, dBool, dStr,
                esOk, elemsS, vsliceX, bnd, ownV, ownC, Md.isOwn, pureV.pureP, Option.map, reduceIte, Nat.reduceEqDiff, Nat.reduceAdd, Nat.reduceMul, Nat.reduceLT, Nat.reduceLeDiff,
                List.mapM_cons, List.mapM_nil, Option.pure_def, Option.bind_eq_bind, Option.bind_some, implies_true, forall_const, beq_self_eq_true, decide_true, decide_false,
                eq_self, Int.reduceEq, Int.reduceLE, Int.reduceLT, if_true, if_false, fc51_0, fc51_1, fc51_2, fc51_3, fc51_4, fc51_5, fc51_6, fc51_7, fc51_8, fc51_9, fc51_10,
                fc51_11, fc51_12, fc51_13, fc51_14, fc51_15, fc51_16, fc51_17, fc51_18, fc51_19, fc51_20, fc51_21, fc51_22, fc51_23, fc51_24, fc51_25, fc51_26, fc51_27, fc51_28,
                fc51_29, fc51_30, fc51_31, fc51_32, fc51_33, fc51_34, fc51_35, fc51_36, fc51_37, fc51_38, fc51_39, fc51_40, fc51_41, fc51_42, fc51_43, fc51_44, fc51_45, fc51_46,
                fc51_47, fc51_48, fc51_49, fc51_50, fc51_51, fc51_52, fc51_53, fc51_54, fc51_55, fc51_56, fc51_57, fc51_58, fc51_59, fc51_60, fc51_61, fc51_62, fc51_63, fc51_64,
                fc51_65, fc51_66, fc51_67, fc51_68, fc51_69, fc51_70, fc51_71, Int.reduceAdd, Int.reduceSub, Int.reduceMul, Int.reduceNeg, Int.reducePow, Nat.reducePow,
                Int.reduceToNat, Nat.reduceSub, List.replicate, Nat.reduceBEq, grpE, g_laws_toBone, grpC, en0, dc_en0]
      repeat' (first
        | ((first | (refine eGI_of (fun h => ?_) (fun h => ?_)) | (refine eCc_of (fun h => ?_) (fun h => ?_)) | (have h := True.intro; refine KW_refl ?_)) <;> (try simp only [Bool.not_eq_true', Bool.not_eq_false'] at h) <;> (try simp only [h, reduceCtorEq, Bool.not_eq_true', decide_eq_false_iff_not, Bool.not_true, Bool.not_false, Bool.false_or, Bool.true_or, Bool.true_and, Bool.false_and, Bool.and_eq_true, Bool.or_eq_true, if_true, if_false, reduceIte, Bool.false_eq_true, and_true, true_and, false_or, or_false, decide_eq_true_eq, not_false_eq_true, not_true_eq_false] at hp) <;> (try (have h2 := h; simp only [decide_eq_true_eq, decide_eq_false_iff_not] at h2; (first | (replace h2 := eq_false h2) | (replace h2 := eq_true h2)); simp only [h2, if_true, if_false, false_or, true_or, or_true, or_false, and_true, true_and, not_false_eq_true, not_true_eq_false] at hp)) <;> simp only [h,
          hp, grpS, grpD, grpF, grpL, eop, vop, bop, uop, fltop, convop, endOk, newE, new1, freshL, Md.isNew, outV, pureV, pureX, pure1, AV.cells, AV.one, storable, laid, refless,
                refless1, vload, loadC, storeC, vnil, vfaddr, vextract, flatT, flatE, flatC, vconv, vmm, vidxA, viaddrA, vfield, vlen, elemsOf, dF32, dF64, dI64, dU8, dBool, dStr,
                esOk, elemsS, vsliceX, bnd, ownV, ownC, Md.isOwn, pureV.pureP, Option.map, reduceIte, Nat.reduceEqDiff, Nat.reduceAdd, Nat.reduceMul, Nat.reduceLT, Nat.reduceLeDiff,
                List.mapM_cons, List.mapM_nil, Option.pure_def, Option.bind_eq_bind, Option.bind_some, implies_true, forall_const, beq_self_eq_true, decide_true, decide_false,
                eq_self, Int.reduceEq, Int.reduceLE, Int.reduceLT, if_true, if_false, fc51_0, fc51_1, fc51_2, fc51_3, fc51_4, fc51_5, fc51_6, fc51_7, fc51_8, fc51_9, fc51_10,
                fc51_11, fc51_12, fc51_13, fc51_14, fc51_15, fc51_16, fc51_17, fc51_18, fc51_19, fc51_20, fc51_21, fc51_22, fc51_23, fc51_24, fc51_25, fc51_26, fc51_27, fc51_28,
                fc51_29, fc51_30, fc51_31, fc51_32, fc51_33, fc51_34, fc51_35, fc51_36, fc51_37, fc51_38, fc51_39, fc51_40, fc51_41, fc51_42, fc51_43, fc51_44, fc51_45, fc51_46,
                fc51_47, fc51_48, fc51_49, fc51_50, fc51_51, fc51_52, fc51_53, fc51_54, fc51_55, fc51_56, fc51_57, fc51_58, fc51_59, fc51_60, fc51_61, fc51_62, fc51_63, fc51_64,
                fc51_65, fc51_66, fc51_67, fc51_68, fc51_69, fc51_70, fc51_71, Int.reduceAdd, Int.reduceSub, Int.reduceMul, Int.reduceNeg, Int.reducePow, Nat.reducePow,
                Int.reduceToNat, Nat.reduceSub, List.replicate, Nat.reduceBEq, grpE, g_laws_toBone, grpC, en0, dc_en0])
        | (refine eA_wk (wk_norm (ks := [0, 3, 4]) (ls := [7]) ?_) (eA_cast ?_ (sl51_0 y0 _ _ _ _ _ (getD_some (d := default) (x := (l_laws_toBoneS_0 y0 (Int.toNat (((List.length y0 : Nat) : Int) - 0) + 2) (List.replicate (Int.toNat ((List.length y0 : Nat) : Int)) (0, 0, 0, 0)) 0)) ?_) ?_)); (simp only [nilS, nilV, normOk, optIn, blkIn, nameIn, 
          hp, grpS, grpD, grpF, grpL, eop, vop, bop, uop, fltop, convop, endOk, newE, new1, freshL, Md.isNew, outV, pureV, pureX, pure1, AV.cells, AV.one, storable, laid, refless,
                refless1, vload, loadC, storeC, vnil, vfaddr, vextract, flatT, flatE, flatC, vconv, vmm, vidxA, viaddrA, vfield, vlen, elemsOf, dF32, dF64, dI64, dU8, dBool, dStr,
                esOk, elemsS, vsliceX, bnd, ownV, ownC, Md.isOwn, pureV.pureP, Option.map, reduceIte, Nat.reduceEqDiff, Nat.reduceAdd, Nat.reduceMul, Nat.reduceLT, Nat.reduceLeDiff,
                List.mapM_cons, List.mapM_nil, Option.pure_def, Option.bind_eq_bind, Option.bind_some, implies_true, forall_const, beq_self_eq_true, decide_true, decide_false,
                eq_self, Int.reduceEq, Int.reduceLE, Int.reduceLT, if_true, if_false, fc51_0, fc51_1, fc51_2, fc51_3, fc51_4, fc51_5, fc51_6, fc51_7, fc51_8, fc51_9, fc51_10,
                fc51_11, fc51_12, fc51_13, fc51_14, fc51_15, fc51_16, fc51_17, fc51_18, fc51_19, fc51_20, fc51_21, fc51_22, fc51_23, fc51_24, fc51_25, fc51_26, fc51_27, fc51_28,
                fc51_29, fc51_30, fc51_31, fc51_32, fc51_33, fc51_34, fc51_35, fc51_36, fc51_37, fc51_38, fc51_39, fc51_40, fc51_41, fc51_42, fc51_43, fc51_44, fc51_45, fc51_46,
                fc51_47, fc51_48, fc51_49, fc51_50, fc51_51, fc51_52, fc51_53, fc51_54, fc51_55, fc51_56, fc51_57, fc51_58, fc51_59, fc51_60, fc51_61, fc51_62, fc51_63, fc51_64,
                fc51_65, fc51_66, fc51_67, fc51_68, fc51_69, fc51_70, fc51_71, Int.reduceAdd, Int.reduceSub, Int.reduceMul, Int.reduceNeg, Int.reducePow, Nat.reducePow,
                Int.reduceToNat, Nat.reduceSub, List.replicate, Nat.reduceBEq, grpE, g_laws_toBone, grpC, en0, dc_en0] <;> rfl); (simp only [nilS, nilV, normS,  List.map_append, List.length_append, List.map_set, List.length_set, List.map_replicate, List.length_replicate, List.map_nil, List.map_cons,
          hp, grpS, grpD, grpF, grpL, eop, vop, bop, uop, fltop, convop, endOk, newE, new1, freshL, Md.isNew, outV, pureV, pureX, pure1, AV.cells, AV.one, storable, laid, refless,
                refless1, vload, loadC, storeC, vnil, vfaddr, vextract, flatT, flatE, flatC, vconv, vmm, vidxA, viaddrA, vfield, vlen, elemsOf, dF32, dF64, dI64, dU8, dBool, dStr,
                esOk, elemsS, vsliceX, bnd, ownV, ownC, Md.isOwn, pureV.pureP, Option.map, reduceIte, Nat.reduceEqDiff, Nat.reduceAdd, Nat.reduceMul, Nat.reduceLT, Nat.reduceLeDiff,
                List.mapM_cons, List.mapM_nil, Option.pure_def, Option.bind_eq_bind, Option.bind_some, implies_true, forall_const, beq_self_eq_true, decide_true, decide_false,
                eq_self, Int.reduceEq, Int.reduceLE, Int.reduceLT, if_true, if_false, fc51_0, fc51_1, fc51_2, fc51_3, fc51_4, fc51_5, fc51_6, fc51_7, fc51_8, fc51_9, fc51_10,
                fc51_11, fc51_12, fc51_13, fc51_14, fc51_15, fc51_16, fc51_17, fc51_18, fc51_19, fc51_20, fc51_21, fc51_22, fc51_23, fc51_24, fc51_25, fc51_26, fc51_27, fc51_28,
                fc51_29, fc51_30, fc51_31, fc51_32, fc51_33, fc51_34, fc51_35, fc51_36, fc51_37, fc51_38, fc51_39, fc51_40, fc51_41, fc51_42, fc51_43, fc51_44, fc51_45, fc51_46,
                fc51_47, fc51_48, fc51_49, fc51_50, fc51_51, fc51_52, fc51_53, fc51_54, fc51_55, fc51_56, fc51_57, fc51_58, fc51_59, fc51_60, fc51_61, fc51_62, fc51_63, fc51_64,
                fc51_65, fc51_66, fc51_67, fc51_68, fc51_69, fc51_70, fc51_71, Int.reduceAdd, Int.reduceSub, Int.reduceMul, Int.reduceNeg, Int.reducePow, Nat.reducePow,
                Int.reduceToNat, Nat.reduceSub, List.replicate, Nat.reduceBEq, grpE, g_laws_toBone, grpC, en0, dc_en0] <;> rfl); (simp only [hp]); (
        intro st2 hw; (try simp only [reduceCtorEq, Bool.not_eq_true', decide_eq_false_iff_not, Bool.not_true, Bool.not_false, Bool.false_or, Bool.true_or, Bool.true_and, Bool.false_and, Bool.and_eq_true, Bool.or_eq_true, if_true, if_false, reduceIte, Bool.false_eq_true, and_true, true_and, false_or, or_false, decide_eq_true_eq, not_false_eq_true, not_true_eq_false] at hp); simp only [
          hp, grpS, grpD, grpF, grpL, eop, vop, bop, uop, fltop, convop, endOk, newE, new1, freshL, Md.isNew, outV, pureV, pureX, pure1, AV.cells, AV.one, storable, laid, refless,
                refless1, vload, loadC, storeC, vnil, vfaddr, vextract, flatT, flatE, flatC, vconv, vmm, vidxA, viaddrA, vfield, vlen, elemsOf, dF32, dF64, dI64, dU8, dBool, dStr,
                esOk, elemsS, vsliceX, bnd, ownV, ownC, Md.isOwn, pureV.pureP, Option.map, reduceIte, Nat.reduceEqDiff, Nat.reduceAdd, Nat.reduceMul, Nat.reduceLT, Nat.reduceLeDiff,
                List.mapM_cons, List.mapM_nil, Option.pure_def, Option.bind_eq_bind, Option.bind_some, implies_true, forall_const, beq_self_eq_true, decide_true, decide_false,
                eq_self, Int.reduceEq, Int.reduceLE, Int.reduceLT, if_true, if_false, fc51_0, fc51_1, fc51_2, fc51_3, fc51_4, fc51_5, fc51_6, fc51_7, fc51_8, fc51_9, fc51_10,
                fc51_11, fc51_12, fc51_13, fc51_14, fc51_15, fc51_16, fc51_17, fc51_18, fc51_19, fc51_20, fc51_21, fc51_22, fc51_23, fc51_24, fc51_25, fc51_26, fc51_27, fc51_28,
                fc51_29, fc51_30, fc51_31, fc51_32, fc51_33, fc51_34, fc51_35, fc51_36, fc51_37, fc51_38, fc51_39, fc51_40, fc51_41, fc51_42, fc51_43, fc51_44, fc51_45, fc51_46,
                fc51_47, fc51_48, fc51_49, fc51_50, fc51_51, fc51_52, fc51_53, fc51_54, fc51_55, fc51_56, fc51_57, fc51_58, fc51_59, fc51_60, fc51_61, fc51_62, fc51_63, fc51_64,
                fc51_65, fc51_66, fc51_67, fc51_68, fc51_69, fc51_70, fc51_71, Int.reduceAdd, Int.reduceSub, Int.reduceMul, Int.reduceNeg, Int.reducePow, Nat.reducePow,
                Int.reduceToNat, Nat.reduceSub, List.replicate, Nat.reduceBEq, grpE, g_laws_toBone, grpC, en0, dc_en0]; refine KW_of hw ?_; simp only [
          hp, grpS, grpD, grpF, grpL, eop, vop, bop, uop, fltop, convop, endOk, newE, new1, freshL, Md.isNew, outV, pureV, pureX, pure1, AV.cells, AV.one, storable, laid, refless,
                refless1, vload, loadC, storeC, vnil, vfaddr, vextract, flatT, flatE, flatC, vconv, vmm, vidxA, viaddrA, vfield, vlen, elemsOf, dF32, dF64, dI64, dU8, dBool, dStr,
                esOk, elemsS, vsliceX, bnd, ownV, ownC, Md.isOwn, pureV.pureP, Option.map, reduceIte, Nat.reduceEqDiff, Nat.reduceAdd, Nat.reduceMul, Nat.reduceLT, Nat.reduceLeDiff,
                List.mapM_cons, List.mapM_nil, Option.pure_def, Option.bind_eq_bind, Option.bind_some, implies_true, forall_const, beq_self_eq_true, decide_true, decide_false,
                eq_self, Int.reduceEq, Int.reduceLE, Int.reduceLT, if_true, if_false, fc51_0, fc51_1, fc51_2, fc51_3, fc51_4, fc51_5, fc51_6, fc51_7, fc51_8, fc51_9, fc51_10,
                fc51_11, fc51_12, fc51_13, fc51_14, fc51_15, fc51_16, fc51_17, fc51_18, fc51_19, fc51_20, fc51_21, fc51_22, fc51_23, fc51_24, fc51_25, fc51_26, fc51_27, fc51_28,
                fc51_29, fc51_30, fc51_31, fc51_32, fc51_33, fc51_34, fc51_35, fc51_36, fc51_37, fc51_38, fc51_39, fc51_40, fc51_41, fc51_42, fc51_43, fc51_44, fc51_45, fc51_46,
                fc51_47, fc51_48, fc51_49, fc51_50, fc51_51, fc51_52, fc51_53, fc51_54, fc51_55, fc51_56, fc51_57, fc51_58, fc51_59, fc51_60, fc51_61, fc51_62, fc51_63, fc51_64,
                fc51_65, fc51_66, fc51_67, fc51_68, fc51_69, fc51_70, fc51_71, Int.reduceAdd, Int.reduceSub, Int.reduceMul, Int.reduceNeg, Int.reducePow, Nat.reducePow,
                Int.reduceToNat, Nat.reduceSub, List.replicate, Nat.reduceBEq, grpE, g_laws_toBone, grpC, en0, dc_en0])))
      all_goals (try simp only [*, m_laws_toBoneS, Bool.and_true, Bool.true_and, Bool.and_false, Bool.false_and, Bool.or_true, Bool.true_or, Bool.or_false, Bool.false_or, Bool.not_true, Bool.not_false, Bool.false_eq_true, if_true, if_false, reduceIte, decide_true, decide_false])
      all_goals (try (simp_all; done))
    · cases h
  · cases h
def m_laws_toSkeleton (x0 : (List (Int × Nat × Nat × Nat))) : (List (Int × Nat × Nat × Nat)) := (m_laws_toBoneS x0)
def p_laws_toSkeleton (x0 : (List (Int × Nat × Nat × Nat))) : Bool := (p_laws_toBoneS x0)
def g_laws_toSkeleton : List AV → Option AV
  | [.agg [.sl w0]] => (match decL dc_en0 w0 with | some y0 => (if p_laws_toSkeleton y0 = true then some (AV.agg [(.sl (List.map en0 (m_laws_toSkeleton y0)))]) else none) | none => none)
  | _ => none
def ic19 : ICode := (.seq (.reg [⟨(some 1), none, (.box 1 (.t 0))⟩, ⟨(some 2), none, (.alloc (.agg [.snil]))⟩] [1, 2]) (.seq (.reg [⟨(some 3), none, (.alloc (.agg [.snil]))⟩] [1, 2,
      3]) (.seq (.reg [⟨(some 4), none, (.faddr 0 (.t 1))⟩, ⟨(some 5), none, (.load none (.t 4))⟩, ⟨(some 6), none, (.call (.fn 51) [(.t 5)] [])⟩, ⟨(some 7), none, (.faddr 0 (.t
      3))⟩, ⟨none, none, (.store 1 (.t 7) (.t 6))⟩] [2, 3]) (.seq (.reg [⟨(some 8), none, (.load (some 1) (.t 3))⟩, ⟨none, none, (.store 1 (.t 2) (.t 8))⟩] [2]) .ret))))
def cp19 : CP := { n := 9, kp := [[1, 2], [1, 2, 3], [2, 3], [2]] }
theorem fc19_0 : IntKind.wrap .i64 0 = 0 := by decide
theorem fc19_1 : IntKind.wrap .i64 1 = 1 := by decide
theorem fc19_2 : IntKind.wrap .i64 10 = 10 := by decide
theorem fc19_3 : IntKind.wrap .i64 11 = 11 := by decide
theorem fc19_4 : IntKind.wrap .i64 12 = 12 := by decide
theorem fc19_5 : IntKind.wrap .i64 13 = 13 := by decide
theorem fc19_6 : IntKind.wrap .i64 14 = 14 := by decide
theorem fc19_7 : IntKind.wrap .i64 15 = 15 := by decide
theorem fc19_8 : IntKind.wrap .i64 16 = 16 := by decide
theorem fc19_9 : IntKind.wrap .i64 17 = 17 := by decide
theorem fc19_10 : IntKind.wrap .i64 18 = 18 := by decide
theorem fc19_11 : IntKind.wrap .i64 19 = 19 := by decide
theorem fc19_12 : IntKind.wrap .i64 2 = 2 := by decide
theorem fc19_13 : IntKind.wrap .i64 20 = 20 := by decide
theorem fc19_14 : IntKind.wrap .i64 21 = 21 := by decide
theorem fc19_15 : IntKind.wrap .i64 22 = 22 := by decide
theorem fc19_16 : IntKind.wrap .i64 23 = 23 := by decide
theorem fc19_17 : IntKind.wrap .i64 24 = 24 := by decide
theorem fc19_18 : IntKind.wrap .i64 25 = 25 := by decide
theorem fc19_19 : IntKind.wrap .i64 26 = 26 := by decide
theorem fc19_20 : IntKind.wrap .i64 27 = 27 := by decide
theorem fc19_21 : IntKind.wrap .i64 28 = 28 := by decide
theorem fc19_22 : IntKind.wrap .i64 29 = 29 := by decide
theorem fc19_23 : IntKind.wrap .i64 3 = 3 := by decide
theorem fc19_24 : IntKind.wrap .i64 30 = 30 := by decide
theorem fc19_25 : IntKind.wrap .i64 31 = 31 := by decide
theorem fc19_26 : IntKind.wrap .i64 32 = 32 := by decide
theorem fc19_27 : IntKind.wrap .i64 33 = 33 := by decide
theorem fc19_28 : IntKind.wrap .i64 34 = 34 := by decide
theorem fc19_29 : IntKind.wrap .i64 35 = 35 := by decide
theorem fc19_30 : IntKind.wrap .i64 36 = 36 := by decide
theorem fc19_31 : IntKind.wrap .i64 37 = 37 := by decide
theorem fc19_32 : IntKind.wrap .i64 38 = 38 := by decide
theorem fc19_33 : IntKind.wrap .i64 39 = 39 := by decide
theorem fc19_34 : IntKind.wrap .i64 4 = 4 := by decide
theorem fc19_35 : IntKind.wrap .i64 40 = 40 := by decide
theorem fc19_36 : IntKind.wrap .i64 41 = 41 := by decide
theorem fc19_37 : IntKind.wrap .i64 42 = 42 := by decide
theorem fc19_38 : IntKind.wrap .i64 43 = 43 := by decide
theorem fc19_39 : IntKind.wrap .i64 44 = 44 := by decide
theorem fc19_40 : IntKind.wrap .i64 45 = 45 := by decide
theorem fc19_41 : IntKind.wrap .i64 46 = 46 := by decide
theorem fc19_42 : IntKind.wrap .i64 47 = 47 := by decide
theorem fc19_43 : IntKind.wrap .i64 48 = 48 := by decide
theorem fc19_44 : IntKind.wrap .i64 49 = 49 := by decide
theorem fc19_45 : IntKind.wrap .i64 5 = 5 := by decide
theorem fc19_46 : IntKind.wrap .i64 50 = 50 := by decide
theorem fc19_47 : IntKind.wrap .i64 51 = 51 := by decide
theorem fc19_48 : IntKind.wrap .i64 52 = 52 := by decide
theorem fc19_49 : IntKind.wrap .i64 53 = 53 := by decide
theorem fc19_50 : IntKind.wrap .i64 54 = 54 := by decide
theorem fc19_51 : IntKind.wrap .i64 55 = 55 := by decide
theorem fc19_52 : IntKind.wrap .i64 56 = 56 := by decide
theorem fc19_53 : IntKind.wrap .i64 57 = 57 := by decide
theorem fc19_54 : IntKind.wrap .i64 58 = 58 := by decide
theorem fc19_55 : IntKind.wrap .i64 59 = 59 := by decide
theorem fc19_56 : IntKind.wrap .i64 6 = 6 := by decide
theorem fc19_57 : IntKind.wrap .i64 60 = 60 := by decide
theorem fc19_58 : IntKind.wrap .i64 61 = 61 := by decide
theorem fc19_59 : IntKind.wrap .i64 62 = 62 := by decide
theorem fc19_60 : IntKind.wrap .i64 63 = 63 := by decide
theorem fc19_61 : IntKind.wrap .i64 64 = 64 := by decide
theorem fc19_62 : IntKind.wrap .i64 65 = 65 := by decide
theorem fc19_63 : IntKind.wrap .i64 66 = 66 := by decide
theorem fc19_64 : IntKind.wrap .i64 67 = 67 := by decide
theorem fc19_65 : IntKind.wrap .i64 68 = 68 := by decide
theorem fc19_66 : IntKind.wrap .i64 69 = 69 := by decide
theorem fc19_67 : IntKind.wrap .i64 7 = 7 := by decide
theorem fc19_68 : IntKind.wrap .i64 70 = 70 := by decide
theorem fc19_69 : IntKind.wrap .i64 71 = 71 := by decide
theorem fc19_70 : IntKind.wrap .i64 8 = 8 := by decide
theorem fc19_71 : IntKind.wrap .i64 9 = 9 := by decide
theorem s19 : ∀ vs r, g_laws_toSkeleton vs = some r → SaysM Try.prog .any 19 vs r := by
  intro vs r h
  unfold g_laws_toSkeleton at h
  split at h
  · rename_i w0
    cases hd_y0 : decL dc_en0 w0 with
    | none => rw [hd_y0] at h; cases h
    | some y0 =>
    rw [hd_y0] at h
    obtain rfl := decL_inv dc_en0_inv hd_y0
    clear hd_y0
    dsimp only at h
    split at h
    · rename_i hp
      cases h
      refine spec_of (m := .any) (tab := tabOf [(51, (.own [4]), g_laws_toBoneS)]) (cp := cp19) (ic := ic19) (rvl := [(.c 2 (some 1))]) hm (tabOk_cons (m := (.own [4])) s51 tabOk_nil) Try.func19 rfl rfl rfl (by kernel_rfl) rfl (Nat.le_of_ble_eq_true rfl) (Nat.le_of_ble_eq_true rfl) ?_
      show eA _ _ _ _
      unfold ic19
      simp only [p_laws_toSkeleton, Bool.and_eq_true, Bool.or_eq_true, decide_eq_true_eq, Bool.not_eq_true', decide_eq_false_iff_not] at hp
      simp only [
          hp, grpS, grpD, grpF, grpL, eop, vop, bop, uop, fltop, convop, endOk, newE, new1, freshL, Md.isNew, outV, pureV, pureX, pure1, AV.cells, AV.one, storable, laid, refless,
                refless1, vload, loadC, storeC, vnil, vfaddr, vextract, flatT, flatE, flatC, vconv, vmm, vidxA, viaddrA, vfield, vlen, elemsOf, dF32, dF64, dI64, dU8, dBool, dStr,
                esOk, elemsS, vsliceX, bnd, ownV, ownC, Md.isOwn, pureV.pureP, Option.map, reduceIte, Nat.reduceEqDiff, Nat.reduceAdd, Nat.reduceMul, Nat.reduceLT, Nat.reduceLeDiff,
                List.mapM_cons, List.mapM_nil, Option.pure_def, Option.bind_eq_bind, Option.bind_some, implies_true, forall_const, beq_self_eq_true, decide_true, decide_false,
                eq_self, Int.reduceEq, Int.reduceLE, Int.reduceLT, if_true, if_false, fc19_0, fc19_1, fc19_2, fc19_3, fc19_4, fc19_5, fc19_6, fc19_7, fc19_8, fc19_9, fc19_10,
                fc19_11, fc19_12, fc19_13, fc19_14, fc19_15, fc19_16, fc19_17, fc19_18, fc19_19, fc19_20, fc19_21, fc19_22, fc19_23, fc19_24, fc19_25, fc19_26, fc19_27, fc19_28,
                fc19_29, fc19_30, fc19_31, fc19_32, fc19_33, fc19_34, fc19_35, fc19_36, fc19_37, fc19_38, fc19_39, fc19_40, fc19_41, fc19_42, fc19_43, fc19_44, fc19_45, fc19_46,
                fc19_47, fc19_48, fc19_49, fc19_50, fc19_51, fc19_52, fc19_53, fc19_54, fc19_55, fc19_56, fc19_57, fc19_58, fc19_59, fc19_60, fc19_61, fc19_62, fc19_63, fc19_64,
                fc19_65, fc19_66, fc19_67, fc19_68, fc19_69, fc19_70, fc19_71, Int.reduceAdd, Int.reduceSub, Int.reduceMul, Int.reduceNeg, Int.reducePow, Nat.reducePow,
                Int.reduceToNat, Nat.reduceSub, List.replicate, Nat.reduceBEq, grpE, g_laws_toBoneS, grpC, en0, dc_en0]
      repeat' (first
        | ((first | (refine eGI_of (fun h => ?_) (fun h => ?_)) | (refine eCc_of (fun h => ?_) (fun h => ?_))) <;> (try simp only [Bool.not_eq_true', Bool.not_eq_false'] at h) <;> (try simp only [h, reduceCtorEq, Bool.not_eq_true', decide_eq_false_iff_not, Bool.not_true, Bool.not_false, Bool.false_or, Bool.true_or, Bool.true_and, Bool.false_and, Bool.and_eq_true, Bool.or_eq_true, if_true, if_false, reduceIte, Bool.false_eq_true, and_true, true_and, false_or, or_false, decide_eq_true_eq, not_false_eq_true, not_true_eq_false] at hp) <;> (try (have h2 := h; simp only [decide_eq_true_eq, decide_eq_false_iff_not] at h2; (first | (replace h2 := eq_false h2) | (replace h2 := eq_true h2)); simp only [h2, if_true, if_false, false_or, true_or, or_true, or_false, and_true, true_and, not_false_eq_true, not_true_eq_false] at hp)) <;> simp only [h,
          hp, grpS, grpD, grpF, grpL, eop, vop, bop, uop, fltop, convop, endOk, newE, new1, freshL, Md.isNew, outV, pureV, pureX, pure1, AV.cells, AV.one, storable, laid, refless,
                refless1, vload, loadC, storeC, vnil, vfaddr, vextract, flatT, flatE, flatC, vconv, vmm, vidxA, viaddrA, vfield, vlen, elemsOf, dF32, dF64, dI64, dU8, dBool, dStr,
                esOk, elemsS, vsliceX, bnd, ownV, ownC, Md.isOwn, pureV.pureP, Option.map, reduceIte, Nat.reduceEqDiff, Nat.reduceAdd, Nat.reduceMul, Nat.reduceLT, Nat.reduceLeDiff,
                List.mapM_cons, List.mapM_nil, Option.pure_def, Option.bind_eq_bind, Option.bind_some, implies_true, forall_const, beq_self_eq_true, decide_true, decide_false,
                eq_self, Int.reduceEq, Int.reduceLE, Int.reduceLT, if_true, if_false, fc19_0, fc19_1, fc19_2, fc19_3, fc19_4, fc19_5, fc19_6, fc19_7, fc19_8, fc19_9, fc19_10,
                fc19_11, fc19_12, fc19_13, fc19_14, fc19_15, fc19_16, fc19_17, fc19_18, fc19_19, fc19_20, fc19_21, fc19_22, fc19_23, fc19_24, fc19_25, fc19_26, fc19_27, fc19_28,
                fc19_29, fc19_30, fc19_31, fc19_32, fc19_33, fc19_34, fc19_35, fc19_36, fc19_37, fc19_38, fc19_39, fc19_40, fc19_41, fc19_42, fc19_43, fc19_44, fc19_45, fc19_46,
                fc19_47, fc19_48, fc19_49, fc19_50, fc19_51, fc19_52, fc19_53, fc19_54, fc19_55, fc19_56, fc19_57, fc19_58, fc19_59, fc19_60, fc19_61, fc19_62, fc19_63, fc19_64,
                fc19_65, fc19_66, fc19_67, fc19_68, fc19_69, fc19_70, fc19_71, Int.reduceAdd, Int.reduceSub, Int.reduceMul, Int.reduceNeg, Int.reducePow, Nat.reducePow,
                Int.reduceToNat, Nat.reduceSub, List.replicate, Nat.reduceBEq, grpE, g_laws_toBoneS, grpC, en0, dc_en0]))
      all_goals (try simp only [*, m_laws_toSkeleton, Bool.and_true, Bool.true_and, Bool.and_false, Bool.false_and, Bool.or_true, Bool.true_or, Bool.or_false, Bool.false_or, Bool.not_true, Bool.not_false, Bool.false_eq_true, if_true, if_false, reduceIte, decide_true, decide_false])
      all_goals (try (simp_all; done))
    · cases h
  · cases h
def m_spec_l00In (x0 : Int) (x1 : Int) (x2 : Int) : Bool := (if (decide (x1 ≤ x0)) = true then (decide (x0 ≤ x2)) else false)
def g_spec_l00In : List AV → Option AV
  | [.int .i64 y0, .int .i64 y1, .int .i64 y2] => some (.bool (m_spec_l00In y0 y1 y2))
  | _ => none
def ic64 : ICode := (.seq (.reg [⟨(some 6), none, (.mov (.c (.bool false)))⟩] [0, 1, 2]) (.seq (.reg [⟨(some 7), none, (.mov (.t 0))⟩, ⟨(some 8), none, (.mov (.t 1))⟩, ⟨(some 9),
      none, (.bin .geq false (.t 7) (.t 8))⟩, ⟨(some 10), none, (.mov (.t 9))⟩, ⟨(some 11), (some (10, true)), (.mov (.t 0))⟩, ⟨(some 12), (some (10, true)), (.mov (.t 2))⟩, ⟨(some
      13), (some (10, true)), (.bin .leq false (.t 11) (.t 12))⟩, ⟨(some 14), none, (.pick (.t 10) (.t 13) (.c (.bool false)))⟩, ⟨(some 6), none, (.mov (.t 14))⟩] [6]) .ret))
def cp64 : CP := { n := 15, kp := [[0, 1, 2], [6]] }
theorem fc64_0 : IntKind.wrap .i64 0 = 0 := by decide
theorem fc64_1 : IntKind.wrap .i64 1 = 1 := by decide
theorem fc64_2 : IntKind.wrap .i64 10 = 10 := by decide
theorem fc64_3 : IntKind.wrap .i64 11 = 11 := by decide
theorem fc64_4 : IntKind.wrap .i64 12 = 12 := by decide
theorem fc64_5 : IntKind.wrap .i64 13 = 13 := by decide
theorem fc64_6 : IntKind.wrap .i64 14 = 14 := by decide
theorem fc64_7 : IntKind.wrap .i64 15 = 15 := by decide
theorem fc64_8 : IntKind.wrap .i64 16 = 16 := by decide
theorem fc64_9 : IntKind.wrap .i64 17 = 17 := by decide
theorem fc64_10 : IntKind.wrap .i64 18 = 18 := by decide
theorem fc64_11 : IntKind.wrap .i64 19 = 19 := by decide
theorem fc64_12 : IntKind.wrap .i64 2 = 2 := by decide
theorem fc64_13 : IntKind.wrap .i64 20 = 20 := by decide
theorem fc64_14 : IntKind.wrap .i64 21 = 21 := by decide
theorem fc64_15 : IntKind.wrap .i64 22 = 22 := by decide
theorem fc64_16 : IntKind.wrap .i64 23 = 23 := by decide
theorem fc64_17 : IntKind.wrap .i64 24 = 24 := by decide
theorem fc64_18 : IntKind.wrap .i64 25 = 25 := by decide
theorem fc64_19 : IntKind.wrap .i64 26 = 26 := by decide
theorem fc64_20 : IntKind.wrap .i64 27 = 27 := by decide
theorem fc64_21 : IntKind.wrap .i64 28 = 28 := by decide
theorem fc64_22 : IntKind.wrap .i64 29 = 29 := by decide
theorem fc64_23 : IntKind.wrap .i64 3 = 3 := by decide
theorem fc64_24 : IntKind.wrap .i64 30 = 30 := by decide
theorem fc64_25 : IntKind.wrap .i64 31 = 31 := by decide
theorem fc64_26 : IntKind.wrap .i64 32 = 32 := by decide
theorem fc64_27 : IntKind.wrap .i64 33 = 33 := by decide
theorem fc64_28 : IntKind.wrap .i64 34 = 34 := by decide
theorem fc64_29 : IntKind.wrap .i64 35 = 35 := by decide
theorem fc64_30 : IntKind.wrap .i64 36 = 36 := by decide
theorem fc64_31 : IntKind.wrap .i64 37 = 37 := by decide
theorem fc64_32 : IntKind.wrap .i64 38 = 38 := by decide
theorem fc64_33 : IntKind.wrap .i64 39 = 39 := by decide
theorem fc64_34 : IntKind.wrap .i64 4 = 4 := by decide
theorem fc64_35 : IntKind.wrap .i64 40 = 40 := by decide
theorem fc64_36 : IntKind.wrap .i64 41 = 41 := by decide
theorem fc64_37 : IntKind.wrap .i64 42 = 42 := by decide
theorem fc64_38 : IntKind.wrap .i64 43 = 43 := by decide
theorem fc64_39 : IntKind.wrap .i64 44 = 44 := by decide
theorem fc64_40 : IntKind.wrap .i64 45 = 45 := by decide
theorem fc64_41 : IntKind.wrap .i64 46 = 46 := by decide
theorem fc64_42 : IntKind.wrap .i64 47 = 47 := by decide
theorem fc64_43 : IntKind.wrap .i64 48 = 48 := by decide
theorem fc64_44 : IntKind.wrap .i64 49 = 49 := by decide
theorem fc64_45 : IntKind.wrap .i64 5 = 5 := by decide
theorem fc64_46 : IntKind.wrap .i64 50 = 50 := by decide
theorem fc64_47 : IntKind.wrap .i64 51 = 51 := by decide
theorem fc64_48 : IntKind.wrap .i64 52 = 52 := by decide
theorem fc64_49 : IntKind.wrap .i64 53 = 53 := by decide
theorem fc64_50 : IntKind.wrap .i64 54 = 54 := by decide
theorem fc64_51 : IntKind.wrap .i64 55 = 55 := by decide
theorem fc64_52 : IntKind.wrap .i64 56 = 56 := by decide
theorem fc64_53 : IntKind.wrap .i64 57 = 57 := by decide
theorem fc64_54 : IntKind.wrap .i64 58 = 58 := by decide
theorem fc64_55 : IntKind.wrap .i64 59 = 59 := by decide
theorem fc64_56 : IntKind.wrap .i64 6 = 6 := by decide
theorem fc64_57 : IntKind.wrap .i64 60 = 60 := by decide
theorem fc64_58 : IntKind.wrap .i64 61 = 61 := by decide
theorem fc64_59 : IntKind.wrap .i64 62 = 62 := by decide
theorem fc64_60 : IntKind.wrap .i64 63 = 63 := by decide
theorem fc64_61 : IntKind.wrap .i64 64 = 64 := by decide
theorem fc64_62 : IntKind.wrap .i64 65 = 65 := by decide
theorem fc64_63 : IntKind.wrap .i64 66 = 66 := by decide
theorem fc64_64 : IntKind.wrap .i64 67 = 67 := by decide
theorem fc64_65 : IntKind.wrap .i64 68 = 68 := by decide
theorem fc64_66 : IntKind.wrap .i64 69 = 69 := by decide
theorem fc64_67 : IntKind.wrap .i64 7 = 7 := by decide
theorem fc64_68 : IntKind.wrap .i64 70 = 70 := by decide
theorem fc64_69 : IntKind.wrap .i64 71 = 71 := by decide
theorem fc64_70 : IntKind.wrap .i64 8 = 8 := by decide
theorem fc64_71 : IntKind.wrap .i64 9 = 9 := by decide
theorem s64 : ∀ vs r, g_spec_l00In vs = some r → SaysM Try.prog .any 64 vs r := by
  intro vs r h
  unfold g_spec_l00In at h
  split at h
  · rename_i y0 y1 y2
    cases h
    refine spec_of (m := .any) (tab := tabOf []) (cp := cp64) (ic := ic64) (rvl := [(.t 6)]) hm tabOk_nil Try.func64 rfl rfl rfl (by kernel_rfl) rfl (Nat.le_of_ble_eq_true rfl) (Nat.le_of_ble_eq_true rfl) ?_
    show eA _ _ _ _
    unfold ic64
    simp only [
        grpS, grpD, grpF, grpL, eop, vop, bop, uop, fltop, convop, endOk, newE, new1, freshL, Md.isNew, outV, pureV, pureX, pure1, AV.cells, AV.one, storable, laid, refless,
              refless1, vload, loadC, storeC, vnil, vfaddr, vextract, flatT, flatE, flatC, vconv, vmm, vidxA, viaddrA, vfield, vlen, elemsOf, dF32, dF64, dI64, dU8, dBool, dStr,
              esOk, elemsS, vsliceX, bnd, ownV, ownC, Md.isOwn, pureV.pureP, Option.map, reduceIte, Nat.reduceEqDiff, Nat.reduceAdd, Nat.reduceMul, Nat.reduceLT, Nat.reduceLeDiff,
              List.mapM_cons, List.mapM_nil, Option.pure_def, Option.bind_eq_bind, Option.bind_some, implies_true, forall_const, beq_self_eq_true, decide_true, decide_false,
              eq_self, Int.reduceEq, Int.reduceLE, Int.reduceLT, if_true, if_false, fc64_0, fc64_1, fc64_2, fc64_3, fc64_4, fc64_5, fc64_6, fc64_7, fc64_8, fc64_9, fc64_10, fc64_11,
              fc64_12, fc64_13, fc64_14, fc64_15, fc64_16, fc64_17, fc64_18, fc64_19, fc64_20, fc64_21, fc64_22, fc64_23, fc64_24, fc64_25, fc64_26, fc64_27, fc64_28, fc64_29,
              fc64_30, fc64_31, fc64_32, fc64_33, fc64_34, fc64_35, fc64_36, fc64_37, fc64_38, fc64_39, fc64_40, fc64_41, fc64_42, fc64_43, fc64_44, fc64_45, fc64_46, fc64_47,
              fc64_48, fc64_49, fc64_50, fc64_51, fc64_52, fc64_53, fc64_54, fc64_55, fc64_56, fc64_57, fc64_58, fc64_59, fc64_60, fc64_61, fc64_62, fc64_63, fc64_64, fc64_65,
              fc64_66, fc64_67, fc64_68, fc64_69, fc64_70, fc64_71, Int.reduceAdd, Int.reduceSub, Int.reduceMul, Int.reduceNeg, Int.reducePow, Nat.reducePow, Int.reduceToNat,
              Nat.reduceSub, List.replicate, Nat.reduceBEq, grpE, grpC, en0, dc_en0, ↓b_pick, ePk_true, ePk_false]
    repeat' (first
      | ((first | (refine eGI_of (fun h => ?_) (fun h => ?_)) | (refine eCc_of (fun h => ?_) (fun h => ?_)) | (refine ePk_of (fun h => ?_) (fun h => ?_))) <;> (try simp only [Bool.not_eq_true', Bool.not_eq_false'] at h) <;> simp only [h,
        grpS, grpD, grpF, grpL, eop, vop, bop, uop, fltop, convop, endOk, newE, new1, freshL, Md.isNew, outV, pureV, pureX, pure1, AV.cells, AV.one, storable, laid, refless,
              refless1, vload, loadC, storeC, vnil, vfaddr, vextract, flatT, flatE, flatC, vconv, vmm, vidxA, viaddrA, vfield, vlen, elemsOf, dF32, dF64, dI64, dU8, dBool, dStr,
              esOk, elemsS, vsliceX, bnd, ownV, ownC, Md.isOwn, pureV.pureP, Option.map, reduceIte, Nat.reduceEqDiff, Nat.reduceAdd, Nat.reduceMul, Nat.reduceLT, Nat.reduceLeDiff,
              List.mapM_cons, List.mapM_nil, Option.pure_def, Option.bind_eq_bind, Option.bind_some, implies_true, forall_const, beq_self_eq_true, decide_true, decide_false,
              eq_self, Int.reduceEq, Int.reduceLE, Int.reduceLT, if_true, if_false, fc64_0, fc64_1, fc64_2, fc64_3, fc64_4, fc64_5, fc64_6, fc64_7, fc64_8, fc64_9, fc64_10, fc64_11,
              fc64_12, fc64_13, fc64_14, fc64_15, fc64_16, fc64_17, fc64_18, fc64_19, fc64_20, fc64_21, fc64_22, fc64_23, fc64_24, fc64_25, fc64_26, fc64_27, fc64_28, fc64_29,
              fc64_30, fc64_31, fc64_32, fc64_33, fc64_34, fc64_35, fc64_36, fc64_37, fc64_38, fc64_39, fc64_40, fc64_41, fc64_42, fc64_43, fc64_44, fc64_45, fc64_46, fc64_47,
              fc64_48, fc64_49, fc64_50, fc64_51, fc64_52, fc64_53, fc64_54, fc64_55, fc64_56, fc64_57, fc64_58, fc64_59, fc64_60, fc64_61, fc64_62, fc64_63, fc64_64, fc64_65,
              fc64_66, fc64_67, fc64_68, fc64_69, fc64_70, fc64_71, Int.reduceAdd, Int.reduceSub, Int.reduceMul, Int.reduceNeg, Int.reducePow, Nat.reducePow, Int.reduceToNat,
              Nat.reduceSub, List.replicate, Nat.reduceBEq, grpE, grpC, en0, dc_en0, ↓b_pick, ePk_true, ePk_false]))
    all_goals (try simp only [*, m_spec_l00In, Bool.and_true, Bool.true_and, Bool.and_false, Bool.false_and, Bool.or_true, Bool.true_or, Bool.or_false, Bool.false_or, Bool.not_true, Bool.not_false, Bool.false_eq_true, if_true, if_false, reduceIte, decide_true, decide_false])
    all_goals (try (simp_all; done))
  · cases h
def l_spec_l03Is_0 (x0 : (List (Int × Nat × Nat × Nat))) : Nat → Int → Option (Bool × Bool × Unit)
  | 0, _ => none
  | n + 1, z0_0 => (if (decide (z0_0 < ((List.length x0 : Nat) : Int))) = true then (need (inB z0_0 (List.length x0)) (if (m_spec_l00In (atI x0 z0_0).1 0 (IntKind.wrap .i64 (z0_0 -
        1))) = true then (l_spec_l03Is_0 x0 n (IntKind.wrap .i64 (z0_0 + 1))) else (some (true, false, default)))) else (some (false, default, ())))
def m_spec_l03Is (x0 : (List (Int × Nat × Nat × Nat))) : Bool := (if (m_spec_l00In ((List.length x0 : Nat) : Int) 1 12) = true then (if (decide ((atI x0 0).1 = (-1))) = true then
      (if (Option.getD (l_spec_l03Is_0 x0 (Int.toNat (((List.length x0 : Nat) : Int) - 1) + 2) 1) default).1 = true then (Option.getD (l_spec_l03Is_0 x0 (Int.toNat (((List.length x0
      : Nat) : Int) - 1) + 2) 1) default).2.1 else true) else false) else false)
def p_spec_l03Is (x0 : (List (Int × Nat × Nat × Nat))) : Bool := (!(m_spec_l00In ((List.length x0 : Nat) : Int) 1 12) || ((inB 0 (List.length x0)) && (!(decide ((atI x0 0).1 =
      (-1))) || (Option.isSome (l_spec_l03Is_0 x0 (Int.toNat (((List.length x0 : Nat) : Int) - 1) + 2) 1)))))
def g_spec_l03Is : List AV → Option AV
  | [.ptr (.agg [.sl w0]) 0] => (match decL dc_en0 w0 with | some y0 => (if p_spec_l03Is y0 = true then some (.bool (m_spec_l03Is y0)) else none) | none => none)
  | _ => none
def lb50_0 : ICode := (.seq (.seq (.reg [⟨(some 23), none, (.mov (.t 4))⟩, ⟨(some 24), none, (.mov (.t 3))⟩, ⟨(some 25), none, (.bin .lss false (.t 23) (.t 24))⟩] [0, 3, 4, 25])
      (.cond (.t 25) .skip (.exit 0))) (.seq (.block 1 (.seq (.reg [⟨(some 28), none, (.mov (.t 0))⟩, ⟨(some 29), none, (.nilchk (.t 28))⟩, ⟨(some 30), none, (.faddr 0 (.t 29))⟩,
      ⟨(some 31), none, (.load none (.t 30))⟩, ⟨(some 32), none, (.mov (.t 4))⟩, ⟨(some 33), none, (.iaddrS 4 (.t 31) (.t 32))⟩, ⟨(some 34), none, (.faddr 0 (.t 33))⟩, ⟨(some 35),
      none, (.load none (.t 34))⟩, ⟨(some 36), none, (.mov (.t 4))⟩, ⟨(some 37), none, (.bin .sub false (.t 36) (.c (.int .i64 1)))⟩, ⟨(some 38), none, (.call (.fn 64) [(.t 35), (.c
      (.int .i64 0)), (.t 37)] [])⟩, ⟨(some 39), none, (.un .not (.t 38))⟩] [0, 3, 4, 39]) (.cond (.t 39) (.seq (.reg [⟨(some 2), none, (.mov (.c (.bool false)))⟩] [2]) .ret)
      .skip))) (.reg [⟨(some 26), none, (.mov (.t 4))⟩, ⟨(some 27), none, (.bin .add false (.t 26) (.c (.int .i64 1)))⟩, ⟨(some 4), none, (.mov (.t 27))⟩] [0, 3, 4])))
def ic50 : ICode := (.seq (.reg [⟨(some 2), none, (.mov (.c (.bool false)))⟩] [0]) (.seq (.reg [⟨(some 5), none, (.mov (.t 0))⟩, ⟨(some 6), none, (.nilchk (.t 5))⟩, ⟨(some 7), none,
      (.faddr 0 (.t 6))⟩, ⟨(some 8), none, (.load none (.t 7))⟩, ⟨(some 9), none, (.len false (.t 8))⟩, ⟨(some 3), none, (.mov (.t 9))⟩] [0, 3]) (.seq (.seq (.reg [⟨(some 10), none,
      (.mov (.t 3))⟩, ⟨(some 11), none, (.call (.fn 64) [(.t 10), (.c (.int .i64 1)), (.c (.int .i64 12))] [])⟩, ⟨(some 12), none, (.un .not (.t 11))⟩, ⟨(some 13), none, (.mov (.t
      12))⟩, ⟨(some 14), (some (13, false)), (.mov (.t 0))⟩, ⟨(some 15), (some (13, false)), (.nilchk (.t 14))⟩, ⟨(some 16), (some (13, false)), (.faddr 0 (.t 15))⟩, ⟨(some 17),
      (some (13, false)), (.load none (.t 16))⟩, ⟨(some 18), (some (13, false)), (.iaddrS 4 (.t 17) (.c (.int .i64 0)))⟩, ⟨(some 19), (some (13, false)), (.faddr 0 (.t 18))⟩, ⟨(some
      20), (some (13, false)), (.load none (.t 19))⟩, ⟨(some 21), (some (13, false)), (.bin .neq false (.t 20) (.c (.int .i64 (-1))))⟩, ⟨(some 22), none, (.pick (.t 13) (.c (.bool
      true)) (.t 21))⟩] [0, 3, 22]) (.cond (.t 22) (.seq (.reg [⟨(some 2), none, (.mov (.c (.bool false)))⟩] [2]) .ret) .skip)) (.seq (.seq (.reg [⟨(some 4), none, (.mov (.c (.int
      .i64 1)))⟩] [0, 3, 4]) (.block 0 (.loop lb50_0))) (.seq (.reg [⟨(some 2), none, (.mov (.c (.bool true)))⟩] [2]) .ret)))))
def cp50 : CP := { n := 40, kp := [[0], [0, 3], [0, 3, 22], [2], [0, 3, 4], [0, 3, 4, 25], [0, 3, 4], [0, 3, 4, 39], [2], [2]] }
theorem fc50_0 : IntKind.wrap .i64 0 = 0 := by decide
theorem fc50_1 : IntKind.wrap .i64 1 = 1 := by decide
theorem fc50_2 : IntKind.wrap .i64 10 = 10 := by decide
theorem fc50_3 : IntKind.wrap .i64 11 = 11 := by decide
theorem fc50_4 : IntKind.wrap .i64 12 = 12 := by decide
theorem fc50_5 : IntKind.wrap .i64 13 = 13 := by decide
theorem fc50_6 : IntKind.wrap .i64 14 = 14 := by decide
theorem fc50_7 : IntKind.wrap .i64 15 = 15 := by decide
theorem fc50_8 : IntKind.wrap .i64 16 = 16 := by decide
theorem fc50_9 : IntKind.wrap .i64 17 = 17 := by decide
theorem fc50_10 : IntKind.wrap .i64 18 = 18 := by decide
theorem fc50_11 : IntKind.wrap .i64 19 = 19 := by decide
theorem fc50_12 : IntKind.wrap .i64 2 = 2 := by decide
theorem fc50_13 : IntKind.wrap .i64 20 = 20 := by decide
theorem fc50_14 : IntKind.wrap .i64 21 = 21 := by decide
theorem fc50_15 : IntKind.wrap .i64 22 = 22 := by decide
theorem fc50_16 : IntKind.wrap .i64 23 = 23 := by decide
theorem fc50_17 : IntKind.wrap .i64 24 = 24 := by decide
theorem fc50_18 : IntKind.wrap .i64 25 = 25 := by decide
theorem fc50_19 : IntKind.wrap .i64 26 = 26 := by decide
theorem fc50_20 : IntKind.wrap .i64 27 = 27 := by decide
theorem fc50_21 : IntKind.wrap .i64 28 = 28 := by decide
theorem fc50_22 : IntKind.wrap .i64 29 = 29 := by decide
theorem fc50_23 : IntKind.wrap .i64 3 = 3 := by decide
theorem fc50_24 : IntKind.wrap .i64 30 = 30 := by decide
theorem fc50_25 : IntKind.wrap .i64 31 = 31 := by decide
theorem fc50_26 : IntKind.wrap .i64 32 = 32 := by decide
theorem fc50_27 : IntKind.wrap .i64 33 = 33 := by decide
theorem fc50_28 : IntKind.wrap .i64 34 = 34 := by decide
theorem fc50_29 : IntKind.wrap .i64 35 = 35 := by decide
theorem fc50_30 : IntKind.wrap .i64 36 = 36 := by decide
theorem fc50_31 : IntKind.wrap .i64 37 = 37 := by decide
theorem fc50_32 : IntKind.wrap .i64 38 = 38 := by decide
theorem fc50_33 : IntKind.wrap .i64 39 = 39 := by decide
theorem fc50_34 : IntKind.wrap .i64 4 = 4 := by decide
theorem fc50_35 : IntKind.wrap .i64 40 = 40 := by decide
theorem fc50_36 : IntKind.wrap .i64 41 = 41 := by decide
theorem fc50_37 : IntKind.wrap .i64 42 = 42 := by decide
theorem fc50_38 : IntKind.wrap .i64 43 = 43 := by decide
theorem fc50_39 : IntKind.wrap .i64 44 = 44 := by decide
theorem fc50_40 : IntKind.wrap .i64 45 = 45 := by decide
theorem fc50_41 : IntKind.wrap .i64 46 = 46 := by decide
theorem fc50_42 : IntKind.wrap .i64 47 = 47 := by decide
theorem fc50_43 : IntKind.wrap .i64 48 = 48 := by decide
theorem fc50_44 : IntKind.wrap .i64 49 = 49 := by decide
theorem fc50_45 : IntKind.wrap .i64 5 = 5 := by decide
theorem fc50_46 : IntKind.wrap .i64 50 = 50 := by decide
theorem fc50_47 : IntKind.wrap .i64 51 = 51 := by decide
theorem fc50_48 : IntKind.wrap .i64 52 = 52 := by decide
theorem fc50_49 : IntKind.wrap .i64 53 = 53 := by decide
theorem fc50_50 : IntKind.wrap .i64 54 = 54 := by decide
theorem fc50_51 : IntKind.wrap .i64 55 = 55 := by decide
theorem fc50_52 : IntKind.wrap .i64 56 = 56 := by decide
theorem fc50_53 : IntKind.wrap .i64 57 = 57 := by decide
theorem fc50_54 : IntKind.wrap .i64 58 = 58 := by decide
theorem fc50_55 : IntKind.wrap .i64 59 = 59 := by decide
theorem fc50_56 : IntKind.wrap .i64 6 = 6 := by decide
theorem fc50_57 : IntKind.wrap .i64 60 = 60 := by decide
theorem fc50_58 : IntKind.wrap .i64 61 = 61 := by decide
theorem fc50_59 : IntKind.wrap .i64 62 = 62 := by decide
theorem fc50_60 : IntKind.wrap .i64 63 = 63 := by decide
theorem fc50_61 : IntKind.wrap .i64 64 = 64 := by decide
theorem fc50_62 : IntKind.wrap .i64 65 = 65 := by decide
theorem fc50_63 : IntKind.wrap .i64 66 = 66 := by decide
theorem fc50_64 : IntKind.wrap .i64 67 = 67 := by decide
theorem fc50_65 : IntKind.wrap .i64 68 = 68 := by decide
theorem fc50_66 : IntKind.wrap .i64 69 = 69 := by decide
theorem fc50_67 : IntKind.wrap .i64 7 = 7 := by decide
theorem fc50_68 : IntKind.wrap .i64 70 = 70 := by decide
theorem fc50_69 : IntKind.wrap .i64 71 = 71 := by decide
theorem fc50_70 : IntKind.wrap .i64 8 = 8 := by decide
theorem fc50_71 : IntKind.wrap .i64 9 = 9 := by decide
theorem sl50_0 (x0 : (List (Int × Nat × Nat × Nat))) : ∀ (n : Nat) (z0_0 : Int) (o : (Bool × Bool × Unit)) (K : IExit → St → Prop), l_spec_l03Is_0 x0 n z0_0 = some o → (∀ st, o.1 =
      true → outM .any st [(.t 2)] = some (.bool o.2.1) → K .ret st) → (∀ st, o.1 = false → Wk st (⟨[], []⟩ : St) → K (.exit 0) st) → eA (tabOf [(64, .any, g_spec_l00In)]) (.loop
      lb50_0) (⟨[(0, (.ptr (AV.agg [(.sl (List.map en0 x0))]) 0)), (3, (.int .i64 ((List.length x0 : Nat) : Int))), (4, (.int .i64 z0_0))], []⟩ : St) K := by
  intro n
  induction n with
  | zero =>
    intro z0_0 o K h h0 h1
    simp only [l_spec_l03Is_0, reduceCtorEq] at h
  | succ n ih =>
    intro z0_0 o K h h0 h1
    refine eA_loop ?_
    unfold lb50_0
    unfold l_spec_l03Is_0 at h
    (try simp only [need_iff] at h)
    simp only [
      need_iff, h, grpS, grpD, grpF, grpL, eop, vop, bop, uop, fltop, convop, endOk, newE, new1, freshL, Md.isNew, outV, pureV, pureX, pure1, AV.cells, AV.one, storable, laid,
            refless, refless1, vload, loadC, storeC, vnil, vfaddr, vextract, flatT, flatE, flatC, vconv, vmm, vidxA, viaddrA, vfield, vlen, elemsOf, dF32, dF64, dI64, dU8, dBool,
            dStr, esOk, elemsS, vsliceX, bnd, ownV, ownC, Md.isOwn, pureV.pureP, Option.map, reduceIte, Nat.reduceEqDiff, Nat.reduceAdd, Nat.reduceMul, Nat.reduceLT,
            Nat.reduceLeDiff, List.mapM_cons, List.mapM_nil, Option.pure_def, Option.bind_eq_bind, Option.bind_some, implies_true, forall_const, beq_self_eq_true, decide_true,
            decide_false, eq_self, Int.reduceEq, Int.reduceLE, Int.reduceLT, if_true, if_false, fc50_0, fc50_1, fc50_2, fc50_3, fc50_4, fc50_5, fc50_6, fc50_7, fc50_8, fc50_9,
            fc50_10, fc50_11, fc50_12, fc50_13, fc50_14, fc50_15, fc50_16, fc50_17, fc50_18, fc50_19, fc50_20, fc50_21, fc50_22, fc50_23, fc50_24, fc50_25, fc50_26, fc50_27,
            fc50_28, fc50_29, fc50_30, fc50_31, fc50_32, fc50_33, fc50_34, fc50_35, fc50_36, fc50_37, fc50_38, fc50_39, fc50_40, fc50_41, fc50_42, fc50_43, fc50_44, fc50_45,
            fc50_46, fc50_47, fc50_48, fc50_49, fc50_50, fc50_51, fc50_52, fc50_53, fc50_54, fc50_55, fc50_56, fc50_57, fc50_58, fc50_59, fc50_60, fc50_61, fc50_62, fc50_63,
            fc50_64, fc50_65, fc50_66, fc50_67, fc50_68, fc50_69, fc50_70, fc50_71, Int.reduceAdd, Int.reduceSub, Int.reduceMul, Int.reduceNeg, Int.reducePow, Nat.reducePow,
            Int.reduceToNat, Nat.reduceSub, List.replicate, Nat.reduceBEq, grpE, g_spec_l00In, grpC, en0, dc_en0, ↓b_pick, ePk_true, ePk_false]
    repeat' (first
      | ((first | (refine eGI_of (fun hc => ?_) (fun hc => ?_)) | (refine eCc_of (fun hc => ?_) (fun hc => ?_)) | (refine ePk_of (fun hc => ?_) (fun hc => ?_)) | (have hc := True.intro; refine KW_refl ?_)) <;> (try simp only [Bool.not_eq_true', Bool.not_eq_false'] at hc) <;> (try simp only [hc, need_iff, reduceCtorEq, Bool.not_eq_true', decide_eq_false_iff_not, Bool.not_true, Bool.not_false, Bool.false_or, Bool.true_or, Bool.true_and, Bool.false_and, Bool.and_eq_true, Bool.or_eq_true, if_true, if_false, reduceIte, Bool.false_eq_true, and_true, true_and, false_or, or_false, decide_eq_true_eq, not_false_eq_true, not_true_eq_false] at h) <;> (try (have hc2 := hc; simp only [decide_eq_true_eq, decide_eq_false_iff_not] at hc2; simp only [hc2, if_true, if_false, reduceCtorEq, Bool.not_eq_true', decide_eq_false_iff_not, Bool.not_true, Bool.not_false, Bool.false_or, Bool.true_or, Bool.true_and, Bool.false_and, Bool.and_eq_true, Bool.or_eq_true, if_true, if_false, reduceIte, Bool.false_eq_true, and_true, true_and, false_or, or_false, decide_eq_true_eq, not_false_eq_true, not_true_eq_false] at h)) <;> simp only [hc,
      need_iff, h, grpS, grpD, grpF, grpL, eop, vop, bop, uop, fltop, convop, endOk, newE, new1, freshL, Md.isNew, outV, pureV, pureX, pure1, AV.cells, AV.one, storable, laid,
            refless, refless1, vload, loadC, storeC, vnil, vfaddr, vextract, flatT, flatE, flatC, vconv, vmm, vidxA, viaddrA, vfield, vlen, elemsOf, dF32, dF64, dI64, dU8, dBool,
            dStr, esOk, elemsS, vsliceX, bnd, ownV, ownC, Md.isOwn, pureV.pureP, Option.map, reduceIte, Nat.reduceEqDiff, Nat.reduceAdd, Nat.reduceMul, Nat.reduceLT,
            Nat.reduceLeDiff, List.mapM_cons, List.mapM_nil, Option.pure_def, Option.bind_eq_bind, Option.bind_some, implies_true, forall_const, beq_self_eq_true, decide_true,
            decide_false, eq_self, Int.reduceEq, Int.reduceLE, Int.reduceLT, if_true, if_false, fc50_0, fc50_1, fc50_2, fc50_3, fc50_4, fc50_5, fc50_6, fc50_7, fc50_8, fc50_9,
            fc50_10, fc50_11, fc50_12, fc50_13, fc50_14, fc50_15, fc50_16, fc50_17, fc50_18, fc50_19, fc50_20, fc50_21, fc50_22, fc50_23, fc50_24, fc50_25, fc50_26, fc50_27,
            fc50_28, fc50_29, fc50_30, fc50_31, fc50_32, fc50_33, fc50_34, fc50_35, fc50_36, fc50_37, fc50_38, fc50_39, fc50_40, fc50_41, fc50_42, fc50_43, fc50_44, fc50_45,
            fc50_46, fc50_47, fc50_48, fc50_49, fc50_50, fc50_51, fc50_52, fc50_53, fc50_54, fc50_55, fc50_56, fc50_57, fc50_58, fc50_59, fc50_60, fc50_61, fc50_62, fc50_63,
            fc50_64, fc50_65, fc50_66, fc50_67, fc50_68, fc50_69, fc50_70, fc50_71, Int.reduceAdd, Int.reduceSub, Int.reduceMul, Int.reduceNeg, Int.reducePow, Nat.reducePow,
            Int.reduceToNat, Nat.reduceSub, List.replicate, Nat.reduceBEq, grpE, g_spec_l00In, grpC, en0, dc_en0, ↓b_pick, ePk_true, ePk_false]))
    all_goals (repeat (replace h := And.right h))
    all_goals first
      | (refine eA_wk (wk_norm (ks := [0, 3, 4]) (ls := []) ?_) (eA_cast ?_ (ih _ _ _ h h0 h1)); (simp only [normOk, optIn, blkIn, nameIn,
      need_iff, h, grpS, grpD, grpF, grpL, eop, vop, bop, uop, fltop, convop, endOk, newE, new1, freshL, Md.isNew, outV, pureV, pureX, pure1, AV.cells, AV.one, storable, laid,
            refless, refless1, vload, loadC, storeC, vnil, vfaddr, vextract, flatT, flatE, flatC, vconv, vmm, vidxA, viaddrA, vfield, vlen, elemsOf, dF32, dF64, dI64, dU8, dBool,
            dStr, esOk, elemsS, vsliceX, bnd, ownV, ownC, Md.isOwn, pureV.pureP, Option.map, reduceIte, Nat.reduceEqDiff, Nat.reduceAdd, Nat.reduceMul, Nat.reduceLT,
            Nat.reduceLeDiff, List.mapM_cons, List.mapM_nil, Option.pure_def, Option.bind_eq_bind, Option.bind_some, implies_true, forall_const, beq_self_eq_true, decide_true,
            decide_false, eq_self, Int.reduceEq, Int.reduceLE, Int.reduceLT, if_true, if_false, fc50_0, fc50_1, fc50_2, fc50_3, fc50_4, fc50_5, fc50_6, fc50_7, fc50_8, fc50_9,
            fc50_10, fc50_11, fc50_12, fc50_13, fc50_14, fc50_15, fc50_16, fc50_17, fc50_18, fc50_19, fc50_20, fc50_21, fc50_22, fc50_23, fc50_24, fc50_25, fc50_26, fc50_27,
            fc50_28, fc50_29, fc50_30, fc50_31, fc50_32, fc50_33, fc50_34, fc50_35, fc50_36, fc50_37, fc50_38, fc50_39, fc50_40, fc50_41, fc50_42, fc50_43, fc50_44, fc50_45,
            fc50_46, fc50_47, fc50_48, fc50_49, fc50_50, fc50_51, fc50_52, fc50_53, fc50_54, fc50_55, fc50_56, fc50_57, fc50_58, fc50_59, fc50_60, fc50_61, fc50_62, fc50_63,
            fc50_64, fc50_65, fc50_66, fc50_67, fc50_68, fc50_69, fc50_70, fc50_71, Int.reduceAdd, Int.reduceSub, Int.reduceMul, Int.reduceNeg, Int.reducePow, Nat.reducePow,
            Int.reduceToNat, Nat.reduceSub, List.replicate, Nat.reduceBEq, grpE, g_spec_l00In, grpC, en0, dc_en0, ↓b_pick, ePk_true, ePk_false] <;> rfl); (simp only [normS, List.map_append, List.length_append, List.map_set, List.length_set, List.map_replicate, List.length_replicate, List.map_nil, List.map_cons,
      need_iff, h, grpS, grpD, grpF, grpL, eop, vop, bop, uop, fltop, convop, endOk, newE, new1, freshL, Md.isNew, outV, pureV, pureX, pure1, AV.cells, AV.one, storable, laid,
            refless, refless1, vload, loadC, storeC, vnil, vfaddr, vextract, flatT, flatE, flatC, vconv, vmm, vidxA, viaddrA, vfield, vlen, elemsOf, dF32, dF64, dI64, dU8, dBool,
            dStr, esOk, elemsS, vsliceX, bnd, ownV, ownC, Md.isOwn, pureV.pureP, Option.map, reduceIte, Nat.reduceEqDiff, Nat.reduceAdd, Nat.reduceMul, Nat.reduceLT,
            Nat.reduceLeDiff, List.mapM_cons, List.mapM_nil, Option.pure_def, Option.bind_eq_bind, Option.bind_some, implies_true, forall_const, beq_self_eq_true, decide_true,
            decide_false, eq_self, Int.reduceEq, Int.reduceLE, Int.reduceLT, if_true, if_false, fc50_0, fc50_1, fc50_2, fc50_3, fc50_4, fc50_5, fc50_6, fc50_7, fc50_8, fc50_9,
            fc50_10, fc50_11, fc50_12, fc50_13, fc50_14, fc50_15, fc50_16, fc50_17, fc50_18, fc50_19, fc50_20, fc50_21, fc50_22, fc50_23, fc50_24, fc50_25, fc50_26, fc50_27,
            fc50_28, fc50_29, fc50_30, fc50_31, fc50_32, fc50_33, fc50_34, fc50_35, fc50_36, fc50_37, fc50_38, fc50_39, fc50_40, fc50_41, fc50_42, fc50_43, fc50_44, fc50_45,
            fc50_46, fc50_47, fc50_48, fc50_49, fc50_50, fc50_51, fc50_52, fc50_53, fc50_54, fc50_55, fc50_56, fc50_57, fc50_58, fc50_59, fc50_60, fc50_61, fc50_62, fc50_63,
            fc50_64, fc50_65, fc50_66, fc50_67, fc50_68, fc50_69, fc50_70, fc50_71, Int.reduceAdd, Int.reduceSub, Int.reduceMul, Int.reduceNeg, Int.reducePow, Nat.reducePow,
            Int.reduceToNat, Nat.reduceSub, List.replicate, Nat.reduceBEq, grpE, g_spec_l00In, grpC, en0, dc_en0, ↓b_pick, ePk_true, ePk_false] <;> rfl))
      | (cases h; refine h0 _ rfl ?_; simp only [
      grpS, grpD, grpF, grpL, eop, vop, bop, uop, fltop, convop, endOk, newE, new1, freshL, Md.isNew, outV, pureV, pureX, pure1, AV.cells, AV.one, storable, laid, refless, refless1,
            vload, loadC, storeC, vnil, vfaddr, vextract, flatT, flatE, flatC, vconv, vmm, vidxA, viaddrA, vfield, vlen, elemsOf, dF32, dF64, dI64, dU8, dBool, dStr, esOk, elemsS,
            vsliceX, bnd, ownV, ownC, Md.isOwn, pureV.pureP, Option.map, reduceIte, Nat.reduceEqDiff, Nat.reduceAdd, Nat.reduceMul, Nat.reduceLT, Nat.reduceLeDiff, List.mapM_cons,
            List.mapM_nil, Option.pure_def, Option.bind_eq_bind, Option.bind_some, implies_true, forall_const, beq_self_eq_true, decide_true, decide_false, eq_self, Int.reduceEq,
            Int.reduceLE, Int.reduceLT, if_true, if_false, fc50_0, fc50_1, fc50_2, fc50_3, fc50_4, fc50_5, fc50_6, fc50_7, fc50_8, fc50_9, fc50_10, fc50_11, fc50_12, fc50_13,
            fc50_14, fc50_15, fc50_16, fc50_17, fc50_18, fc50_19, fc50_20, fc50_21, fc50_22, fc50_23, fc50_24, fc50_25, fc50_26, fc50_27, fc50_28, fc50_29, fc50_30, fc50_31,
            fc50_32, fc50_33, fc50_34, fc50_35, fc50_36, fc50_37, fc50_38, fc50_39, fc50_40, fc50_41, fc50_42, fc50_43, fc50_44, fc50_45, fc50_46, fc50_47, fc50_48, fc50_49,
            fc50_50, fc50_51, fc50_52, fc50_53, fc50_54, fc50_55, fc50_56, fc50_57, fc50_58, fc50_59, fc50_60, fc50_61, fc50_62, fc50_63, fc50_64, fc50_65, fc50_66, fc50_67,
            fc50_68, fc50_69, fc50_70, fc50_71, Int.reduceAdd, Int.reduceSub, Int.reduceMul, Int.reduceNeg, Int.reducePow, Nat.reducePow, Int.reduceToNat, Nat.reduceSub,
            List.replicate, Nat.reduceBEq, grpE, g_spec_l00In, grpC, en0, dc_en0, ↓b_pick, ePk_true, ePk_false])
      | (cases h; refine h1 _ rfl (Wk.cast (wk_norm (ks := []) (ls := []) ?_) ?_); (simp only [normOk, optIn, blkIn, nameIn,
      grpS, grpD, grpF, grpL, eop, vop, bop, uop, fltop, convop, endOk, newE, new1, freshL, Md.isNew, outV, pureV, pureX, pure1, AV.cells, AV.one, storable, laid, refless, refless1,
            vload, loadC, storeC, vnil, vfaddr, vextract, flatT, flatE, flatC, vconv, vmm, vidxA, viaddrA, vfield, vlen, elemsOf, dF32, dF64, dI64, dU8, dBool, dStr, esOk, elemsS,
            vsliceX, bnd, ownV, ownC, Md.isOwn, pureV.pureP, Option.map, reduceIte, Nat.reduceEqDiff, Nat.reduceAdd, Nat.reduceMul, Nat.reduceLT, Nat.reduceLeDiff, List.mapM_cons,
            List.mapM_nil, Option.pure_def, Option.bind_eq_bind, Option.bind_some, implies_true, forall_const, beq_self_eq_true, decide_true, decide_false, eq_self, Int.reduceEq,
            Int.reduceLE, Int.reduceLT, if_true, if_false, fc50_0, fc50_1, fc50_2, fc50_3, fc50_4, fc50_5, fc50_6, fc50_7, fc50_8, fc50_9, fc50_10, fc50_11, fc50_12, fc50_13,
            fc50_14, fc50_15, fc50_16, fc50_17, fc50_18, fc50_19, fc50_20, fc50_21, fc50_22, fc50_23, fc50_24, fc50_25, fc50_26, fc50_27, fc50_28, fc50_29, fc50_30, fc50_31,
            fc50_32, fc50_33, fc50_34, fc50_35, fc50_36, fc50_37, fc50_38, fc50_39, fc50_40, fc50_41, fc50_42, fc50_43, fc50_44, fc50_45, fc50_46, fc50_47, fc50_48, fc50_49,
            fc50_50, fc50_51, fc50_52, fc50_53, fc50_54, fc50_55, fc50_56, fc50_57, fc50_58, fc50_59, fc50_60, fc50_61, fc50_62, fc50_63, fc50_64, fc50_65, fc50_66, fc50_67,
            fc50_68, fc50_69, fc50_70, fc50_71, Int.reduceAdd, Int.reduceSub, Int.reduceMul, Int.reduceNeg, Int.reducePow, Nat.reducePow, Int.reduceToNat, Nat.reduceSub,
            List.replicate, Nat.reduceBEq, grpE, g_spec_l00In, grpC, en0, dc_en0, ↓b_pick, ePk_true, ePk_false] <;> rfl); (simp only [normS, List.map_append, List.length_append, List.map_set, List.length_set, List.map_replicate, List.length_replicate,
      grpS, grpD, grpF, grpL, eop, vop, bop, uop, fltop, convop, endOk, newE, new1, freshL, Md.isNew, outV, pureV, pureX, pure1, AV.cells, AV.one, storable, laid, refless, refless1,
            vload, loadC, storeC, vnil, vfaddr, vextract, flatT, flatE, flatC, vconv, vmm, vidxA, viaddrA, vfield, vlen, elemsOf, dF32, dF64, dI64, dU8, dBool, dStr, esOk, elemsS,
            vsliceX, bnd, ownV, ownC, Md.isOwn, pureV.pureP, Option.map, reduceIte, Nat.reduceEqDiff, Nat.reduceAdd, Nat.reduceMul, Nat.reduceLT, Nat.reduceLeDiff, List.mapM_cons,
            List.mapM_nil, Option.pure_def, Option.bind_eq_bind, Option.bind_some, implies_true, forall_const, beq_self_eq_true, decide_true, decide_false, eq_self, Int.reduceEq,
            Int.reduceLE, Int.reduceLT, if_true, if_false, fc50_0, fc50_1, fc50_2, fc50_3, fc50_4, fc50_5, fc50_6, fc50_7, fc50_8, fc50_9, fc50_10, fc50_11, fc50_12, fc50_13,
            fc50_14, fc50_15, fc50_16, fc50_17, fc50_18, fc50_19, fc50_20, fc50_21, fc50_22, fc50_23, fc50_24, fc50_25, fc50_26, fc50_27, fc50_28, fc50_29, fc50_30, fc50_31,
            fc50_32, fc50_33, fc50_34, fc50_35, fc50_36, fc50_37, fc50_38, fc50_39, fc50_40, fc50_41, fc50_42, fc50_43, fc50_44, fc50_45, fc50_46, fc50_47, fc50_48, fc50_49,
            fc50_50, fc50_51, fc50_52, fc50_53, fc50_54, fc50_55, fc50_56, fc50_57, fc50_58, fc50_59, fc50_60, fc50_61, fc50_62, fc50_63, fc50_64, fc50_65, fc50_66, fc50_67,
            fc50_68, fc50_69, fc50_70, fc50_71, Int.reduceAdd, Int.reduceSub, Int.reduceMul, Int.reduceNeg, Int.reducePow, Nat.reducePow, Int.reduceToNat, Nat.reduceSub,
            List.replicate, Nat.reduceBEq, grpE, g_spec_l00In, grpC, en0, dc_en0, ↓b_pick, ePk_true, ePk_false] <;> rfl))
theorem s50 : ∀ vs r, g_spec_l03Is vs = some r → SaysM Try.prog .any 50 vs r := by
  intro vs r h
  unfold g_spec_l03Is at h
  split at h
  · rename_i w0
    cases hd_y0 : decL dc_en0 w0 with
    | none => rw [hd_y0] at h; cases h
    | some y0 =>
    rw [hd_y0] at h
    obtain rfl := decL_inv dc_en0_inv hd_y0
    clear hd_y0
    dsimp only at h
    split at h
    · rename_i hp
      cases h
      refine spec_of (m := .any) (tab := tabOf [(64, .any, g_spec_l00In)]) (cp := cp50) (ic := ic50) (rvl := [(.t 2)]) hm (tabOk_cons (m := .any) s64 tabOk_nil) Try.func50 rfl rfl rfl (by kernel_rfl) rfl (Nat.le_of_ble_eq_true rfl) (Nat.le_of_ble_eq_true rfl) ?_
      show eA _ _ _ _
      unfold ic50
      simp only [p_spec_l03Is, Bool.and_eq_true, Bool.or_eq_true, decide_eq_true_eq, Bool.not_eq_true', decide_eq_false_iff_not] at hp
      simp only [
          hp, grpS, grpD, grpF, grpL, eop, vop, bop, uop, fltop, convop, endOk, newE, new1, freshL, Md.isNew, outV, pureV, pureX, pure1, AV.cells, AV.one, storable, laid, refless,
                refless1, vload, loadC, storeC, vnil, vfaddr, vextract, flatT, flatE, flatC, vconv, vmm, vidxA, viaddrA, vfield, vlen, elemsOf, dF32, dF64, dI64, dU8, dBool, dStr,
                esOk, elemsS, vsliceX, bnd, ownV, ownC, Md.isOwn, pureV.pureP, Option.map, reduceIte, Nat.reduceEqDiff, Nat.reduceAdd, Nat.reduceMul, Nat.reduceLT, Nat.reduceLeDiff,
                List.mapM_cons, List.mapM_nil, Option.pure_def, Option.bind_eq_bind, Option.bind_some, implies_true, forall_const, beq_self_eq_true, decide_true, decide_false,
                eq_self, Int.reduceEq, Int.reduceLE, Int.reduceLT, if_true, if_false, fc50_0, fc50_1, fc50_2, fc50_3, fc50_4, fc50_5, fc50_6, fc50_7, fc50_8, fc50_9, fc50_10,
                fc50_11, fc50_12, fc50_13, fc50_14, fc50_15, fc50_16, fc50_17, fc50_18, fc50_19, fc50_20, fc50_21, fc50_22, fc50_23, fc50_24, fc50_25, fc50_26, fc50_27, fc50_28,
                fc50_29, fc50_30, fc50_31, fc50_32, fc50_33, fc50_34, fc50_35, fc50_36, fc50_37, fc50_38, fc50_39, fc50_40, fc50_41, fc50_42, fc50_43, fc50_44, fc50_45, fc50_46,
                fc50_47, fc50_48, fc50_49, fc50_50, fc50_51, fc50_52, fc50_53, fc50_54, fc50_55, fc50_56, fc50_57, fc50_58, fc50_59, fc50_60, fc50_61, fc50_62, fc50_63, fc50_64,
                fc50_65, fc50_66, fc50_67, fc50_68, fc50_69, fc50_70, fc50_71, Int.reduceAdd, Int.reduceSub, Int.reduceMul, Int.reduceNeg, Int.reducePow, Nat.reducePow,
                Int.reduceToNat, Nat.reduceSub, List.replicate, Nat.reduceBEq, grpE, g_spec_l00In, grpC, en0, dc_en0, ↓b_pick, ePk_true, ePk_false]
      repeat' (first
        | ((first | (refine eGI_of (fun h => ?_) (fun h => ?_)) | (refine eCc_of (fun h => ?_) (fun h => ?_)) | (refine ePk_of (fun h => ?_) (fun h => ?_)) | (have h := True.intro; refine KW_refl ?_)) <;> (try simp only [Bool.not_eq_true', Bool.not_eq_false'] at h) <;> (try simp only [h, reduceCtorEq, Bool.not_eq_true', decide_eq_false_iff_not, Bool.not_true, Bool.not_false, Bool.false_or, Bool.true_or, Bool.true_and, Bool.false_and, Bool.and_eq_true, Bool.or_eq_true, if_true, if_false, reduceIte, Bool.false_eq_true, and_true, true_and, false_or, or_false, decide_eq_true_eq, not_false_eq_true, not_true_eq_false] at hp) <;> (try (have h2 := h; simp only [decide_eq_true_eq, decide_eq_false_iff_not] at h2; (first | (replace h2 := eq_false h2) | (replace h2 := eq_true h2)); simp only [h2, if_true, if_false, false_or, true_or, or_true, or_false, and_true, true_and, not_false_eq_true, not_true_eq_false] at hp)) <;> simp only [h,
          hp, grpS, grpD, grpF, grpL, eop, vop, bop, uop, fltop, convop, endOk, newE, new1, freshL, Md.isNew, outV, pureV, pureX, pure1, AV.cells, AV.one, storable, laid, refless,
                refless1, vload, loadC, storeC, vnil, vfaddr, vextract, flatT, flatE, flatC, vconv, vmm, vidxA, viaddrA, vfield, vlen, elemsOf, dF32, dF64, dI64, dU8, dBool, dStr,
                esOk, elemsS, vsliceX, bnd, ownV, ownC, Md.isOwn, pureV.pureP, Option.map, reduceIte, Nat.reduceEqDiff, Nat.reduceAdd, Nat.reduceMul, Nat.reduceLT, Nat.reduceLeDiff,
                List.mapM_cons, List.mapM_nil, Option.pure_def, Option.bind_eq_bind, Option.bind_some, implies_true, forall_const, beq_self_eq_true, decide_true, decide_false,
                eq_self, Int.reduceEq, Int.reduceLE, Int.reduceLT, if_true, if_false, fc50_0, fc50_1, fc50_2, fc50_3, fc50_4, fc50_5, fc50_6, fc50_7, fc50_8, fc50_9, fc50_10,
                fc50_11, fc50_12, fc50_13, fc50_14, fc50_15, fc50_16, fc50_17, fc50_18, fc50_19, fc50_20, fc50_21, fc50_22, fc50_23, fc50_24, fc50_25, fc50_26, fc50_27, fc50_28,
                fc50_29, fc50_30, fc50_31, fc50_32, fc50_33, fc50_34, fc50_35, fc50_36, fc50_37, fc50_38, fc50_39, fc50_40, fc50_41, fc50_42, fc50_43, fc50_44, fc50_45, fc50_46,
                fc50_47, fc50_48, fc50_49, fc50_50, fc50_51, fc50_52, fc50_53, fc50_54, fc50_55, fc50_56, fc50_57, fc50_58, fc50_59, fc50_60, fc50_61, fc50_62, fc50_63, fc50_64,
                fc50_65, fc50_66, fc50_67, fc50_68, fc50_69, fc50_70, fc50_71, Int.reduceAdd, Int.reduceSub, Int.reduceMul, Int.reduceNeg, Int.reducePow, Nat.reducePow,
                Int.reduceToNat, Nat.reduceSub, List.replicate, Nat.reduceBEq, grpE, g_spec_l00In, grpC, en0, dc_en0, ↓b_pick, ePk_true, ePk_false])
        | (refine eA_wk (wk_norm (ks := [0, 3, 4]) (ls := []) ?_) (eA_cast ?_ (sl50_0 y0 _ _ _ _ (getD_some (d := default) (x := (l_spec_l03Is_0 y0 (Int.toNat (((List.length y0 : Nat) : Int) - 1) + 2) 1)) ?_) ?_ ?_)); (simp only [nilS, nilV, normOk, optIn, blkIn, nameIn, 
          hp, grpS, grpD, grpF, grpL, eop, vop, bop, uop, fltop, convop, endOk, newE, new1, freshL, Md.isNew, outV, pureV, pureX, pure1, AV.cells, AV.one, storable, laid, refless,
                refless1, vload, loadC, storeC, vnil, vfaddr, vextract, flatT, flatE, flatC, vconv, vmm, vidxA, viaddrA, vfield, vlen, elemsOf, dF32, dF64, dI64, dU8, dBool, dStr,
                esOk, elemsS, vsliceX, bnd, ownV, ownC, Md.isOwn, pureV.pureP, Option.map, reduceIte, Nat.reduceEqDiff, Nat.reduceAdd, Nat.reduceMul, Nat.reduceLT, Nat.reduceLeDiff,
                List.mapM_cons, List.mapM_nil, Option.pure_def, Option.bind_eq_bind, Option.bind_some, implies_true, forall_const, beq_self_eq_true, decide_true, decide_false,
                eq_self, Int.reduceEq, Int.reduceLE, Int.reduceLT, if_true, if_false, fc50_0, fc50_1, fc50_2, fc50_3, fc50_4, fc50_5, fc50_6, fc50_7, fc50_8, fc50_9, fc50_10,
                fc50_11, fc50_12, fc50_13, fc50_14, fc50_15, fc50_16, fc50_17, fc50_18, fc50_19, fc50_20, fc50_21, fc50_22, fc50_23, fc50_24, fc50_25, fc50_26, fc50_27, fc50_28,
                fc50_29, fc50_30, fc50_31, fc50_32, fc50_33, fc50_34, fc50_35, fc50_36, fc50_37, fc50_38, fc50_39, fc50_40, fc50_41, fc50_42, fc50_43, fc50_44, fc50_45, fc50_46,
                fc50_47, fc50_48, fc50_49, fc50_50, fc50_51, fc50_52, fc50_53, fc50_54, fc50_55, fc50_56, fc50_57, fc50_58, fc50_59, fc50_60, fc50_61, fc50_62, fc50_63, fc50_64,
                fc50_65, fc50_66, fc50_67, fc50_68, fc50_69, fc50_70, fc50_71, Int.reduceAdd, Int.reduceSub, Int.reduceMul, Int.reduceNeg, Int.reducePow, Nat.reducePow,
                Int.reduceToNat, Nat.reduceSub, List.replicate, Nat.reduceBEq, grpE, g_spec_l00In, grpC, en0, dc_en0, ↓b_pick, ePk_true, ePk_false] <;> rfl); (simp only [nilS, nilV, normS,  List.map_append, List.length_append, List.map_set, List.length_set, List.map_replicate, List.length_replicate, List.map_nil, List.map_cons,
          hp, grpS, grpD, grpF, grpL, eop, vop, bop, uop, fltop, convop, endOk, newE, new1, freshL, Md.isNew, outV, pureV, pureX, pure1, AV.cells, AV.one, storable, laid, refless,
                refless1, vload, loadC, storeC, vnil, vfaddr, vextract, flatT, flatE, flatC, vconv, vmm, vidxA, viaddrA, vfield, vlen, elemsOf, dF32, dF64, dI64, dU8, dBool, dStr,
                esOk, elemsS, vsliceX, bnd, ownV, ownC, Md.isOwn, pureV.pureP, Option.map, reduceIte, Nat.reduceEqDiff, Nat.reduceAdd, Nat.reduceMul, Nat.reduceLT, Nat.reduceLeDiff,
                List.mapM_cons, List.mapM_nil, Option.pure_def, Option.bind_eq_bind, Option.bind_some, implies_true, forall_const, beq_self_eq_true, decide_true, decide_false,
                eq_self, Int.reduceEq, Int.reduceLE, Int.reduceLT, if_true, if_false, fc50_0, fc50_1, fc50_2, fc50_3, fc50_4, fc50_5, fc50_6, fc50_7, fc50_8, fc50_9, fc50_10,
                fc50_11, fc50_12, fc50_13, fc50_14, fc50_15, fc50_16, fc50_17, fc50_18, fc50_19, fc50_20, fc50_21, fc50_22, fc50_23, fc50_24, fc50_25, fc50_26, fc50_27, fc50_28,
                fc50_29, fc50_30, fc50_31, fc50_32, fc50_33, fc50_34, fc50_35, fc50_36, fc50_37, fc50_38, fc50_39, fc50_40, fc50_41, fc50_42, fc50_43, fc50_44, fc50_45, fc50_46,
                fc50_47, fc50_48, fc50_49, fc50_50, fc50_51, fc50_52, fc50_53, fc50_54, fc50_55, fc50_56, fc50_57, fc50_58, fc50_59, fc50_60, fc50_61, fc50_62, fc50_63, fc50_64,
                fc50_65, fc50_66, fc50_67, fc50_68, fc50_69, fc50_70, fc50_71, Int.reduceAdd, Int.reduceSub, Int.reduceMul, Int.reduceNeg, Int.reducePow, Nat.reducePow,
                Int.reduceToNat, Nat.reduceSub, List.replicate, Nat.reduceBEq, grpE, g_spec_l00In, grpC, en0, dc_en0, ↓b_pick, ePk_true, ePk_false] <;> rfl); (simp only [hp]); (
        intro st2 ht hw; simp only [Kq_ret, Kb_ret, Kl_ret, ret_ok]; first | exact h0 _ hw | exact h0 _ rfl hw | exact h1 _ rfl hw | exact h0 _ ht hw | exact h1 _ ht hw | refine ⟨_, hw, ?_⟩); rotate_left; (
        intro st2 ht hw; (try simp only [ht, reduceCtorEq, Bool.not_eq_true', decide_eq_false_iff_not, Bool.not_true, Bool.not_false, Bool.false_or, Bool.true_or, Bool.true_and, Bool.false_and, Bool.and_eq_true, Bool.or_eq_true, if_true, if_false, reduceIte, Bool.false_eq_true, and_true, true_and, false_or, or_false, decide_eq_true_eq, not_false_eq_true, not_true_eq_false] at hp); simp only [
          hp, grpS, grpD, grpF, grpL, eop, vop, bop, uop, fltop, convop, endOk, newE, new1, freshL, Md.isNew, outV, pureV, pureX, pure1, AV.cells, AV.one, storable, laid, refless,
                refless1, vload, loadC, storeC, vnil, vfaddr, vextract, flatT, flatE, flatC, vconv, vmm, vidxA, viaddrA, vfield, vlen, elemsOf, dF32, dF64, dI64, dU8, dBool, dStr,
                esOk, elemsS, vsliceX, bnd, ownV, ownC, Md.isOwn, pureV.pureP, Option.map, reduceIte, Nat.reduceEqDiff, Nat.reduceAdd, Nat.reduceMul, Nat.reduceLT, Nat.reduceLeDiff,
                List.mapM_cons, List.mapM_nil, Option.pure_def, Option.bind_eq_bind, Option.bind_some, implies_true, forall_const, beq_self_eq_true, decide_true, decide_false,
                eq_self, Int.reduceEq, Int.reduceLE, Int.reduceLT, if_true, if_false, fc50_0, fc50_1, fc50_2, fc50_3, fc50_4, fc50_5, fc50_6, fc50_7, fc50_8, fc50_9, fc50_10,
                fc50_11, fc50_12, fc50_13, fc50_14, fc50_15, fc50_16, fc50_17, fc50_18, fc50_19, fc50_20, fc50_21, fc50_22, fc50_23, fc50_24, fc50_25, fc50_26, fc50_27, fc50_28,
                fc50_29, fc50_30, fc50_31, fc50_32, fc50_33, fc50_34, fc50_35, fc50_36, fc50_37, fc50_38, fc50_39, fc50_40, fc50_41, fc50_42, fc50_43, fc50_44, fc50_45, fc50_46,
                fc50_47, fc50_48, fc50_49, fc50_50, fc50_51, fc50_52, fc50_53, fc50_54, fc50_55, fc50_56, fc50_57, fc50_58, fc50_59, fc50_60, fc50_61, fc50_62, fc50_63, fc50_64,
                fc50_65, fc50_66, fc50_67, fc50_68, fc50_69, fc50_70, fc50_71, Int.reduceAdd, Int.reduceSub, Int.reduceMul, Int.reduceNeg, Int.reducePow, Nat.reducePow,
                Int.reduceToNat, Nat.reduceSub, List.replicate, Nat.reduceBEq, grpE, g_spec_l00In, grpC, en0, dc_en0, ↓b_pick, ePk_true, ePk_false]; refine KW_of hw ?_; simp only [ht, 
          hp, grpS, grpD, grpF, grpL, eop, vop, bop, uop, fltop, convop, endOk, newE, new1, freshL, Md.isNew, outV, pureV, pureX, pure1, AV.cells, AV.one, storable, laid, refless,
                refless1, vload, loadC, storeC, vnil, vfaddr, vextract, flatT, flatE, flatC, vconv, vmm, vidxA, viaddrA, vfield, vlen, elemsOf, dF32, dF64, dI64, dU8, dBool, dStr,
                esOk, elemsS, vsliceX, bnd, ownV, ownC, Md.isOwn, pureV.pureP, Option.map, reduceIte, Nat.reduceEqDiff, Nat.reduceAdd, Nat.reduceMul, Nat.reduceLT, Nat.reduceLeDiff,
                List.mapM_cons, List.mapM_nil, Option.pure_def, Option.bind_eq_bind, Option.bind_some, implies_true, forall_const, beq_self_eq_true, decide_true, decide_false,
                eq_self, Int.reduceEq, Int.reduceLE, Int.reduceLT, if_true, if_false, fc50_0, fc50_1, fc50_2, fc50_3, fc50_4, fc50_5, fc50_6, fc50_7, fc50_8, fc50_9, fc50_10,
                fc50_11, fc50_12, fc50_13, fc50_14, fc50_15, fc50_16, fc50_17, fc50_18, fc50_19, fc50_20, fc50_21, fc50_22, fc50_23, fc50_24, fc50_25, fc50_26, fc50_27, fc50_28,
                fc50_29, fc50_30, fc50_31, fc50_32, fc50_33, fc50_34, fc50_35, fc50_36, fc50_37, fc50_38, fc50_39, fc50_40, fc50_41, fc50_42, fc50_43, fc50_44, fc50_45, fc50_46,
                fc50_47, fc50_48, fc50_49, fc50_50, fc50_51, fc50_52, fc50_53, fc50_54, fc50_55, fc50_56, fc50_57, fc50_58, fc50_59, fc50_60, fc50_61, fc50_62, fc50_63, fc50_64,
                fc50_65, fc50_66, fc50_67, fc50_68, fc50_69, fc50_70, fc50_71, Int.reduceAdd, Int.reduceSub, Int.reduceMul, Int.reduceNeg, Int.reducePow, Nat.reducePow,
                Int.reduceToNat, Nat.reduceSub, List.replicate, Nat.reduceBEq, grpE, g_spec_l00In, grpC, en0, dc_en0, ↓b_pick, ePk_true, ePk_false])))
      all_goals (try simp only [*, m_spec_l03Is, Bool.and_true, Bool.true_and, Bool.and_false, Bool.false_and, Bool.or_true, Bool.true_or, Bool.or_false, Bool.false_or, Bool.not_true, Bool.not_false, Bool.false_eq_true, if_true, if_false, reduceIte, decide_true, decide_false])
      all_goals (try (simp_all; done))
    · cases h
  · cases h
def m_spec_ValidSkeleton (x0 : (List (Int × Nat × Nat × Nat))) : Bool := (m_spec_l03Is x0)
def p_spec_ValidSkeleton (x0 : (List (Int × Nat × Nat × Nat))) : Bool := (p_spec_l03Is x0)
def g_spec_ValidSkeleton : List AV → Option AV
  | [.agg [.sl w0]] => (match decL dc_en0 w0 with | some y0 => (if p_spec_ValidSkeleton y0 = true then some (.bool (m_spec_ValidSkeleton y0)) else none) | none => none)
  | _ => none
def ic18 : ICode := (.seq (.reg [⟨(some 1), none, (.box 1 (.t 0))⟩, ⟨(some 2), none, (.mov (.c (.bool false)))⟩] [1]) (.seq (.reg [⟨(some 3), none, (.call (.fn 50) [(.t 1)] [])⟩,
      ⟨(some 2), none, (.mov (.t 3))⟩] [2]) .ret))
def cp18 : CP := { n := 4, kp := [[1], [2]] }
theorem fc18_0 : IntKind.wrap .i64 0 = 0 := by decide
theorem fc18_1 : IntKind.wrap .i64 1 = 1 := by decide
theorem fc18_2 : IntKind.wrap .i64 10 = 10 := by decide
theorem fc18_3 : IntKind.wrap .i64 11 = 11 := by decide
theorem fc18_4 : IntKind.wrap .i64 12 = 12 := by decide
theorem fc18_5 : IntKind.wrap .i64 13 = 13 := by decide
theorem fc18_6 : IntKind.wrap .i64 14 = 14 := by decide
theorem fc18_7 : IntKind.wrap .i64 15 = 15 := by decide
theorem fc18_8 : IntKind.wrap .i64 16 = 16 := by decide
theorem fc18_9 : IntKind.wrap .i64 17 = 17 := by decide
theorem fc18_10 : IntKind.wrap .i64 18 = 18 := by decide
theorem fc18_11 : IntKind.wrap .i64 19 = 19 := by decide
theorem fc18_12 : IntKind.wrap .i64 2 = 2 := by decide
theorem fc18_13 : IntKind.wrap .i64 20 = 20 := by decide
theorem fc18_14 : IntKind.wrap .i64 21 = 21 := by decide
theorem fc18_15 : IntKind.wrap .i64 22 = 22 := by decide
theorem fc18_16 : IntKind.wrap .i64 23 = 23 := by decide
theorem fc18_17 : IntKind.wrap .i64 24 = 24 := by decide
theorem fc18_18 : IntKind.wrap .i64 25 = 25 := by decide
theorem fc18_19 : IntKind.wrap .i64 26 = 26 := by decide
theorem fc18_20 : IntKind.wrap .i64 27 = 27 := by decide
theorem fc18_21 : IntKind.wrap .i64 28 = 28 := by decide
theorem fc18_22 : IntKind.wrap .i64 29 = 29 := by decide
theorem fc18_23 : IntKind.wrap .i64 3 = 3 := by decide
theorem fc18_24 : IntKind.wrap .i64 30 = 30 := by decide
theorem fc18_25 : IntKind.wrap .i64 31 = 31 := by decide
theorem fc18_26 : IntKind.wrap .i64 32 = 32 := by decide
theorem fc18_27 : IntKind.wrap .i64 33 = 33 := by decide
theorem fc18_28 : IntKind.wrap .i64 34 = 34 := by decide
theorem fc18_29 : IntKind.wrap .i64 35 = 35 := by decide
theorem fc18_30 : IntKind.wrap .i64 36 = 36 := by decide
theorem fc18_31 : IntKind.wrap .i64 37 = 37 := by decide
theorem fc18_32 : IntKind.wrap .i64 38 = 38 := by decide
theorem fc18_33 : IntKind.wrap .i64 39 = 39 := by decide
theorem fc18_34 : IntKind.wrap .i64 4 = 4 := by decide
theorem fc18_35 : IntKind.wrap .i64 40 = 40 := by decide
theorem fc18_36 : IntKind.wrap .i64 41 = 41 := by decide
theorem fc18_37 : IntKind.wrap .i64 42 = 42 := by decide
theorem fc18_38 : IntKind.wrap .i64 43 = 43 := by decide
theorem fc18_39 : IntKind.wrap .i64 44 = 44 := by decide
theorem fc18_40 : IntKind.wrap .i64 45 = 45 := by decide
theorem fc18_41 : IntKind.wrap .i64 46 = 46 := by decide
theorem fc18_42 : IntKind.wrap .i64 47 = 47 := by decide
theorem fc18_43 : IntKind.wrap .i64 48 = 48 := by decide
theorem fc18_44 : IntKind.wrap .i64 49 = 49 := by decide
theorem fc18_45 : IntKind.wrap .i64 5 = 5 := by decide
theorem fc18_46 : IntKind.wrap .i64 50 = 50 := by decide
theorem fc18_47 : IntKind.wrap .i64 51 = 51 := by decide
theorem fc18_48 : IntKind.wrap .i64 52 = 52 := by decide
theorem fc18_49 : IntKind.wrap .i64 53 = 53 := by decide
theorem fc18_50 : IntKind.wrap .i64 54 = 54 := by decide
theorem fc18_51 : IntKind.wrap .i64 55 = 55 := by decide
theorem fc18_52 : IntKind.wrap .i64 56 = 56 := by decide
theorem fc18_53 : IntKind.wrap .i64 57 = 57 := by decide
theorem fc18_54 : IntKind.wrap .i64 58 = 58 := by decide
theorem fc18_55 : IntKind.wrap .i64 59 = 59 := by decide
theorem fc18_56 : IntKind.wrap .i64 6 = 6 := by decide
theorem fc18_57 : IntKind.wrap .i64 60 = 60 := by decide
theorem fc18_58 : IntKind.wrap .i64 61 = 61 := by decide
theorem fc18_59 : IntKind.wrap .i64 62 = 62 := by decide
theorem fc18_60 : IntKind.wrap .i64 63 = 63 := by decide
theorem fc18_61 : IntKind.wrap .i64 64 = 64 := by decide
theorem fc18_62 : IntKind.wrap .i64 65 = 65 := by decide
theorem fc18_63 : IntKind.wrap .i64 66 = 66 := by decide
theorem fc18_64 : IntKind.wrap .i64 67 = 67 := by decide
theorem fc18_65 : IntKind.wrap .i64 68 = 68 := by decide
theorem fc18_66 : IntKind.wrap .i64 69 = 69 := by decide
theorem fc18_67 : IntKind.wrap .i64 7 = 7 := by decide
theorem fc18_68 : IntKind.wrap .i64 70 = 70 := by decide
theorem fc18_69 : IntKind.wrap .i64 71 = 71 := by decide
theorem fc18_70 : IntKind.wrap .i64 8 = 8 := by decide
theorem fc18_71 : IntKind.wrap .i64 9 = 9 := by decide
theorem s18 : ∀ vs r, g_spec_ValidSkeleton vs = some r → SaysM Try.prog .any 18 vs r := by
  intro vs r h
  unfold g_spec_ValidSkeleton at h
  split at h
  · rename_i w0
    cases hd_y0 : decL dc_en0 w0 with
    | none => rw [hd_y0] at h; cases h
    | some y0 =>
    rw [hd_y0] at h
    obtain rfl := decL_inv dc_en0_inv hd_y0
    clear hd_y0
    dsimp only at h
    split at h
    · rename_i hp
      cases h
      refine spec_of (m := .any) (tab := tabOf [(50, .any, g_spec_l03Is)]) (cp := cp18) (ic := ic18) (rvl := [(.t 2)]) hm (tabOk_cons (m := .any) s50 tabOk_nil) Try.func18 rfl rfl rfl (by kernel_rfl) rfl (Nat.le_of_ble_eq_true rfl) (Nat.le_of_ble_eq_true rfl) ?_
      show eA _ _ _ _
      unfold ic18
      simp only [p_spec_ValidSkeleton, Bool.and_eq_true, Bool.or_eq_true, decide_eq_true_eq, Bool.not_eq_true', decide_eq_false_iff_not] at hp
      simp only [
          hp, grpS, grpD, grpF, grpL, eop, vop, bop, uop, fltop, convop, endOk, newE, new1, freshL, Md.isNew, outV, pureV, pureX, pure1, AV.cells, AV.one, storable, laid, refless,
                refless1, vload, loadC, storeC, vnil, vfaddr, vextract, flatT, flatE, flatC, vconv, vmm, vidxA, viaddrA, vfield, vlen, elemsOf, dF32, dF64, dI64, dU8, dBool, dStr,
                esOk, elemsS, vsliceX, bnd, ownV, ownC, Md.isOwn, pureV.pureP, Option.map, reduceIte, Nat.reduceEqDiff, Nat.reduceAdd, Nat.reduceMul, Nat.reduceLT, Nat.reduceLeDiff,
                List.mapM_cons, List.mapM_nil, Option.pure_def, Option.bind_eq_bind, Option.bind_some, implies_true, forall_const, beq_self_eq_true, decide_true, decide_false,
                eq_self, Int.reduceEq, Int.reduceLE, Int.reduceLT, if_true, if_false, fc18_0, fc18_1, fc18_2, fc18_3, fc18_4, fc18_5, fc18_6, fc18_7, fc18_8, fc18_9, fc18_10,
                fc18_11, fc18_12, fc18_13, fc18_14, fc18_15, fc18_16, fc18_17, fc18_18, fc18_19, fc18_20, fc18_21, fc18_22, fc18_23, fc18_24, fc18_25, fc18_26, fc18_27, fc18_28,
                fc18_29, fc18_30, fc18_31, fc18_32, fc18_33, fc18_34, fc18_35, fc18_36, fc18_37, fc18_38, fc18_39, fc18_40, fc18_41, fc18_42, fc18_43, fc18_44, fc18_45, fc18_46,
                fc18_47, fc18_48, fc18_49, fc18_50, fc18_51, fc18_52, fc18_53, fc18_54, fc18_55, fc18_56, fc18_57, fc18_58, fc18_59, fc18_60, fc18_61, fc18_62, fc18_63, fc18_64,
                fc18_65, fc18_66, fc18_67, fc18_68, fc18_69, fc18_70, fc18_71, Int.reduceAdd, Int.reduceSub, Int.reduceMul, Int.reduceNeg, Int.reducePow, Nat.reducePow,
                Int.reduceToNat, Nat.reduceSub, List.replicate, Nat.reduceBEq, grpE, g_spec_l03Is, grpC, en0, dc_en0]
      repeat' (first
        | ((first | (refine eGI_of (fun h => ?_) (fun h => ?_)) | (refine eCc_of (fun h => ?_) (fun h => ?_))) <;> (try simp only [Bool.not_eq_true', Bool.not_eq_false'] at h) <;> (try simp only [h, reduceCtorEq, Bool.not_eq_true', decide_eq_false_iff_not, Bool.not_true, Bool.not_false, Bool.false_or, Bool.true_or, Bool.true_and, Bool.false_and, Bool.and_eq_true, Bool.or_eq_true, if_true, if_false, reduceIte, Bool.false_eq_true, and_true, true_and, false_or, or_false, decide_eq_true_eq, not_false_eq_true, not_true_eq_false] at hp) <;> (try (have h2 := h; simp only [decide_eq_true_eq, decide_eq_false_iff_not] at h2; (first | (replace h2 := eq_false h2) | (replace h2 := eq_true h2)); simp only [h2, if_true, if_false, false_or, true_or, or_true, or_false, and_true, true_and, not_false_eq_true, not_true_eq_false] at hp)) <;> simp only [h,
          hp, grpS, grpD, grpF, grpL, eop, vop, bop, uop, fltop, convop, endOk, newE, new1, freshL, Md.isNew, outV, pureV, pureX, pure1, AV.cells, AV.one, storable, laid, refless,
                refless1, vload, loadC, storeC, vnil, vfaddr, vextract, flatT, flatE, flatC, vconv, vmm, vidxA, viaddrA, vfield, vlen, elemsOf, dF32, dF64, dI64, dU8, dBool, dStr,
                esOk, elemsS, vsliceX, bnd, ownV, ownC, Md.isOwn, pureV.pureP, Option.map, reduceIte, Nat.reduceEqDiff, Nat.reduceAdd, Nat.reduceMul, Nat.reduceLT, Nat.reduceLeDiff,
                List.mapM_cons, List.mapM_nil, Option.pure_def, Option.bind_eq_bind, Option.bind_some, implies_true, forall_const, beq_self_eq_true, decide_true, decide_false,
                eq_self, Int.reduceEq, Int.reduceLE, Int.reduceLT, if_true, if_false, fc18_0, fc18_1, fc18_2, fc18_3, fc18_4, fc18_5, fc18_6, fc18_7, fc18_8, fc18_9, fc18_10,
                fc18_11, fc18_12, fc18_13, fc18_14, fc18_15, fc18_16, fc18_17, fc18_18, fc18_19, fc18_20, fc18_21, fc18_22, fc18_23, fc18_24, fc18_25, fc18_26, fc18_27, fc18_28,
                fc18_29, fc18_30, fc18_31, fc18_32, fc18_33, fc18_34, fc18_35, fc18_36, fc18_37, fc18_38, fc18_39, fc18_40, fc18_41, fc18_42, fc18_43, fc18_44, fc18_45, fc18_46,
                fc18_47, fc18_48, fc18_49, fc18_50, fc18_51, fc18_52, fc18_53, fc18_54, fc18_55, fc18_56, fc18_57, fc18_58, fc18_59, fc18_60, fc18_61, fc18_62, fc18_63, fc18_64,
                fc18_65, fc18_66, fc18_67, fc18_68, fc18_69, fc18_70, fc18_71, Int.reduceAdd, Int.reduceSub, Int.reduceMul, Int.reduceNeg, Int.reducePow, Nat.reducePow,
                Int.reduceToNat, Nat.reduceSub, List.replicate, Nat.reduceBEq, grpE, g_spec_l03Is, grpC, en0, dc_en0]))
      all_goals (try simp only [*, m_spec_ValidSkeleton, Bool.and_true, Bool.true_and, Bool.and_false, Bool.false_and, Bool.or_true, Bool.true_or, Bool.or_false, Bool.false_or, Bool.not_true, Bool.not_false, Bool.false_eq_true, if_true, if_false, reduceIte, decide_true, decide_false])
      all_goals (try (simp_all; done))
    · cases h
  · cases h
def l_impl_ValidSkeleton_0 (x0 : (List (Int × Nat × Nat × Nat))) : Nat → Int → Option (Bool × Bool × Unit)
  | 0, _ => none
  | n + 1, z0_0 => (if (decide (z0_0 < ((List.length (List.drop 1 x0) : Nat) : Int))) = true then (need (inB z0_0 (List.length (List.drop 1 x0))) (if (decide ((atI (List.drop 1 x0)
        z0_0).1 < 0)) = true then (some (true, false, default)) else (if (decide (z0_0 < (atI (List.drop 1 x0) z0_0).1)) = true then (some (true, false, default)) else
        (l_impl_ValidSkeleton_0 x0 n (IntKind.wrap .i64 (z0_0 + 1)))))) else (some (false, default, ())))
def m_impl_ValidSkeleton (x0 : (List (Int × Nat × Nat × Nat))) : Bool := (if (decide (((List.length x0 : Nat) : Int) < 1)) = true then false else (if (decide (12 < ((List.length x0
      : Nat) : Int))) = true then false else (if (decide ((atI x0 0).1 = (-1))) = true then (if (Option.getD (l_impl_ValidSkeleton_0 x0 (Int.toNat (((List.length (List.drop 1 x0) :
      Nat) : Int) - 0) + 2) 0) default).1 = true then (Option.getD (l_impl_ValidSkeleton_0 x0 (Int.toNat (((List.length (List.drop 1 x0) : Nat) : Int) - 0) + 2) 0) default).2.1 else
      true) else false)))
def p_impl_ValidSkeleton (x0 : (List (Int × Nat × Nat × Nat))) : Bool := ((decide (((List.length x0 : Nat) : Int) < 1)) || ((decide (12 < ((List.length x0 : Nat) : Int))) || ((inB 0
      (List.length x0)) && (!(decide ((atI x0 0).1 = (-1))) || ((decide ((1 : Nat) ≤ (List.length x0))) && (Option.isSome (l_impl_ValidSkeleton_0 x0 (Int.toNat (((List.length
      (List.drop 1 x0) : Nat) : Int) - 0) + 2) 0)))))))
def g_impl_ValidSkeleton : List AV → Option AV
  | [.agg [.sl w0]] => (match decL dc_en0 w0 with | some y0 => (if p_impl_ValidSkeleton y0 = true then some (.bool (m_impl_ValidSkeleton y0)) else none) | none => none)
  | _ => none
def lb20_0 : ICode := (.seq (.reg [⟨(some 28), none, (.bin .lss false (.t 27) (.t 26))⟩] [25, 26, 27, 28]) (.seq (.cond (.t 28) .skip (.exit 0)) (.seq (.block 1 (.seq (.reg [⟨(some
      29), none, (.mov (.t 27))⟩, ⟨(some 30), none, (.iaddrS 4 (.t 25) (.t 27))⟩, ⟨(some 31), none, (.load (some 4) (.t 30))⟩, ⟨(some 4), none, (.alloc (.agg [(.int .i64 0), (.flt
      .f32 0), (.flt .f32 0), (.flt .f32 0)]))⟩, ⟨(some 3), none, (.mov (.t 29))⟩, ⟨none, none, (.store 4 (.t 4) (.t 31))⟩] [3, 4, 25, 26, 27]) (.seq (.reg [⟨(some 32), none,
      (.faddr 0 (.t 4))⟩, ⟨(some 33), none, (.load none (.t 32))⟩, ⟨(some 34), none, (.bin .lss false (.t 33) (.c (.int .i64 0)))⟩, ⟨(some 35), none, (.mov (.t 34))⟩, ⟨(some 36),
      (some (35, false)), (.faddr 0 (.t 4))⟩, ⟨(some 37), (some (35, false)), (.load none (.t 36))⟩, ⟨(some 38), (some (35, false)), (.mov (.t 3))⟩, ⟨(some 39), (some (35, false)),
      (.bin .gtr false (.t 37) (.t 38))⟩, ⟨(some 40), none, (.pick (.t 35) (.c (.bool true)) (.t 39))⟩] [25, 26, 27, 40]) (.cond (.t 40) (.seq (.reg [⟨(some 2), none, (.mov (.c
      (.bool false)))⟩] [2]) .ret) .skip)))) (.reg [⟨(some 41), none, (.bin .add false (.t 27) (.c (.int .i64 1)))⟩, ⟨(some 27), none, (.mov (.t 41))⟩] [25, 26, 27]))))
def ic20 : ICode := (.seq (.reg [⟨(some 1), none, (.box 1 (.t 0))⟩, ⟨(some 2), none, (.mov (.c (.bool false)))⟩] [1]) (.seq (.seq (.reg [⟨(some 5), none, (.faddr 0 (.t 1))⟩, ⟨(some
      6), none, (.load none (.t 5))⟩, ⟨(some 7), none, (.len false (.t 6))⟩, ⟨(some 8), none, (.bin .lss false (.t 7) (.c (.int .i64 1)))⟩, ⟨(some 9), none, (.mov (.t 8))⟩, ⟨(some
      10), (some (9, false)), (.faddr 0 (.t 1))⟩, ⟨(some 11), (some (9, false)), (.load none (.t 10))⟩, ⟨(some 12), (some (9, false)), (.len false (.t 11))⟩, ⟨(some 13), (some (9,
      false)), (.bin .gtr false (.t 12) (.c (.int .i64 12)))⟩, ⟨(some 14), none, (.pick (.t 9) (.c (.bool true)) (.t 13))⟩, ⟨(some 15), none, (.mov (.t 14))⟩, ⟨(some 16), (some (15,
      false)), (.faddr 0 (.t 1))⟩, ⟨(some 17), (some (15, false)), (.load none (.t 16))⟩, ⟨(some 18), (some (15, false)), (.iaddrS 4 (.t 17) (.c (.int .i64 0)))⟩, ⟨(some 19), (some
      (15, false)), (.faddr 0 (.t 18))⟩, ⟨(some 20), (some (15, false)), (.load none (.t 19))⟩, ⟨(some 21), (some (15, false)), (.bin .neq false (.t 20) (.c (.int .i64 (-1))))⟩,
      ⟨(some 22), none, (.pick (.t 15) (.c (.bool true)) (.t 21))⟩] [1, 22]) (.cond (.t 22) (.seq (.reg [⟨(some 2), none, (.mov (.c (.bool false)))⟩] [2]) .ret) .skip)) (.seq (.seq
      (.reg [⟨(some 23), none, (.faddr 0 (.t 1))⟩, ⟨(some 24), none, (.load none (.t 23))⟩, ⟨(some 25), none, (.sliceX 4 (.t 24) (some (.c (.int .i64 1))) none)⟩, ⟨(some 26), none,
      (.len false (.t 25))⟩, ⟨(some 27), none, (.mov (.c (.int .i64 0)))⟩] [25, 26, 27]) (.block 0 (.loop lb20_0))) (.seq (.reg [⟨(some 2), none, (.mov (.c (.bool true)))⟩] [2])
      .ret))))
def cp20 : CP := { n := 42, kp := [[1], [1, 22], [2], [25, 26, 27], [25, 26, 27, 28], [3, 4, 25, 26, 27], [25, 26, 27, 40], [2], [25, 26, 27], [2]] }
theorem fc20_0 : IntKind.wrap .i64 0 = 0 := by decide
theorem fc20_1 : IntKind.wrap .i64 1 = 1 := by decide
theorem fc20_2 : IntKind.wrap .i64 10 = 10 := by decide
theorem fc20_3 : IntKind.wrap .i64 11 = 11 := by decide
theorem fc20_4 : IntKind.wrap .i64 12 = 12 := by decide
theorem fc20_5 : IntKind.wrap .i64 13 = 13 := by decide
theorem fc20_6 : IntKind.wrap .i64 14 = 14 := by decide
theorem fc20_7 : IntKind.wrap .i64 15 = 15 := by decide
theorem fc20_8 : IntKind.wrap .i64 16 = 16 := by decide
theorem fc20_9 : IntKind.wrap .i64 17 = 17 := by decide
theorem fc20_10 : IntKind.wrap .i64 18 = 18 := by decide
theorem fc20_11 : IntKind.wrap .i64 19 = 19 := by decide
theorem fc20_12 : IntKind.wrap .i64 2 = 2 := by decide
theorem fc20_13 : IntKind.wrap .i64 20 = 20 := by decide
theorem fc20_14 : IntKind.wrap .i64 21 = 21 := by decide
theorem fc20_15 : IntKind.wrap .i64 22 = 22 := by decide
theorem fc20_16 : IntKind.wrap .i64 23 = 23 := by decide
theorem fc20_17 : IntKind.wrap .i64 24 = 24 := by decide
theorem fc20_18 : IntKind.wrap .i64 25 = 25 := by decide
theorem fc20_19 : IntKind.wrap .i64 26 = 26 := by decide
theorem fc20_20 : IntKind.wrap .i64 27 = 27 := by decide
theorem fc20_21 : IntKind.wrap .i64 28 = 28 := by decide
theorem fc20_22 : IntKind.wrap .i64 29 = 29 := by decide
theorem fc20_23 : IntKind.wrap .i64 3 = 3 := by decide
theorem fc20_24 : IntKind.wrap .i64 30 = 30 := by decide
theorem fc20_25 : IntKind.wrap .i64 31 = 31 := by decide
theorem fc20_26 : IntKind.wrap .i64 32 = 32 := by decide
theorem fc20_27 : IntKind.wrap .i64 33 = 33 := by decide
theorem fc20_28 : IntKind.wrap .i64 34 = 34 := by decide
theorem fc20_29 : IntKind.wrap .i64 35 = 35 := by decide
theorem fc20_30 : IntKind.wrap .i64 36 = 36 := by decide
theorem fc20_31 : IntKind.wrap .i64 37 = 37 := by decide
theorem fc20_32 : IntKind.wrap .i64 38 = 38 := by decide
theorem fc20_33 : IntKind.wrap .i64 39 = 39 := by decide
theorem fc20_34 : IntKind.wrap .i64 4 = 4 := by decide
theorem fc20_35 : IntKind.wrap .i64 40 = 40 := by decide
theorem fc20_36 : IntKind.wrap .i64 41 = 41 := by decide
theorem fc20_37 : IntKind.wrap .i64 42 = 42 := by decide
theorem fc20_38 : IntKind.wrap .i64 43 = 43 := by decide
theorem fc20_39 : IntKind.wrap .i64 44 = 44 := by decide
theorem fc20_40 : IntKind.wrap .i64 45 = 45 := by decide
theorem fc20_41 : IntKind.wrap .i64 46 = 46 := by decide
theorem fc20_42 : IntKind.wrap .i64 47 = 47 := by decide
theorem fc20_43 : IntKind.wrap .i64 48 = 48 := by decide
theorem fc20_44 : IntKind.wrap .i64 49 = 49 := by decide
theorem fc20_45 : IntKind.wrap .i64 5 = 5 := by decide
theorem fc20_46 : IntKind.wrap .i64 50 = 50 := by decide
theorem fc20_47 : IntKind.wrap .i64 51 = 51 := by decide
theorem fc20_48 : IntKind.wrap .i64 52 = 52 := by decide
theorem fc20_49 : IntKind.wrap .i64 53 = 53 := by decide
theorem fc20_50 : IntKind.wrap .i64 54 = 54 := by decide
theorem fc20_51 : IntKind.wrap .i64 55 = 55 := by decide
theorem fc20_52 : IntKind.wrap .i64 56 = 56 := by decide
theorem fc20_53 : IntKind.wrap .i64 57 = 57 := by decide
theorem fc20_54 : IntKind.wrap .i64 58 = 58 := by decide
theorem fc20_55 : IntKind.wrap .i64 59 = 59 := by decide
theorem fc20_56 : IntKind.wrap .i64 6 = 6 := by decide
theorem fc20_57 : IntKind.wrap .i64 60 = 60 := by decide
theorem fc20_58 : IntKind.wrap .i64 61 = 61 := by decide
theorem fc20_59 : IntKind.wrap .i64 62 = 62 := by decide
theorem fc20_60 : IntKind.wrap .i64 63 = 63 := by decide
theorem fc20_61 : IntKind.wrap .i64 64 = 64 := by decide
theorem fc20_62 : IntKind.wrap .i64 65 = 65 := by decide
theorem fc20_63 : IntKind.wrap .i64 66 = 66 := by decide
theorem fc20_64 : IntKind.wrap .i64 67 = 67 := by decide
theorem fc20_65 : IntKind.wrap .i64 68 = 68 := by decide
theorem fc20_66 : IntKind.wrap .i64 69 = 69 := by decide
theorem fc20_67 : IntKind.wrap .i64 7 = 7 := by decide
theorem fc20_68 : IntKind.wrap .i64 70 = 70 := by decide
theorem fc20_69 : IntKind.wrap .i64 71 = 71 := by decide
theorem fc20_70 : IntKind.wrap .i64 8 = 8 := by decide
theorem fc20_71 : IntKind.wrap .i64 9 = 9 := by decide
theorem sl20_0 (x0 : (List (Int × Nat × Nat × Nat))) : ∀ (n : Nat) (z0_0 : Int) (o : (Bool × Bool × Unit)) (K : IExit → St → Prop), l_impl_ValidSkeleton_0 x0 n z0_0 = some o → (∀
      st, o.1 = true → outM .any st [(.t 2)] = some (.bool o.2.1) → K .ret st) → (∀ st, o.1 = false → Wk st (⟨[], []⟩ : St) → K (.exit 0) st) → eA (tabOf []) (.loop lb20_0) (⟨[(25,
      (.sl (List.map en0 (List.drop 1 x0)))), (26, (.int .i64 ((List.length (List.drop 1 x0) : Nat) : Int))), (27, (.int .i64 z0_0))], []⟩ : St) K := by
  intro n
  induction n with
  | zero =>
    intro z0_0 o K h h0 h1
    simp only [l_impl_ValidSkeleton_0, reduceCtorEq] at h
  | succ n ih =>
    intro z0_0 o K h h0 h1
    refine eA_loop ?_
    unfold lb20_0
    unfold l_impl_ValidSkeleton_0 at h
    (try simp only [need_iff] at h)
    simp only [
      need_iff, h, grpS, grpD, grpF, grpL, eop, vop, bop, uop, fltop, convop, endOk, newE, new1, freshL, Md.isNew, outV, pureV, pureX, pure1, AV.cells, AV.one, storable, laid,
            refless, refless1, vload, loadC, storeC, vnil, vfaddr, vextract, flatT, flatE, flatC, vconv, vmm, vidxA, viaddrA, vfield, vlen, elemsOf, dF32, dF64, dI64, dU8, dBool,
            dStr, esOk, elemsS, vsliceX, bnd, ownV, ownC, Md.isOwn, pureV.pureP, Option.map, reduceIte, Nat.reduceEqDiff, Nat.reduceAdd, Nat.reduceMul, Nat.reduceLT,
            Nat.reduceLeDiff, List.mapM_cons, List.mapM_nil, Option.pure_def, Option.bind_eq_bind, Option.bind_some, implies_true, forall_const, beq_self_eq_true, decide_true,
            decide_false, eq_self, Int.reduceEq, Int.reduceLE, Int.reduceLT, if_true, if_false, fc20_0, fc20_1, fc20_2, fc20_3, fc20_4, fc20_5, fc20_6, fc20_7, fc20_8, fc20_9,
            fc20_10, fc20_11, fc20_12, fc20_13, fc20_14, fc20_15, fc20_16, fc20_17, fc20_18, fc20_19, fc20_20, fc20_21, fc20_22, fc20_23, fc20_24, fc20_25, fc20_26, fc20_27,
            fc20_28, fc20_29, fc20_30, fc20_31, fc20_32, fc20_33, fc20_34, fc20_35, fc20_36, fc20_37, fc20_38, fc20_39, fc20_40, fc20_41, fc20_42, fc20_43, fc20_44, fc20_45,
            fc20_46, fc20_47, fc20_48, fc20_49, fc20_50, fc20_51, fc20_52, fc20_53, fc20_54, fc20_55, fc20_56, fc20_57, fc20_58, fc20_59, fc20_60, fc20_61, fc20_62, fc20_63,
            fc20_64, fc20_65, fc20_66, fc20_67, fc20_68, fc20_69, fc20_70, fc20_71, Int.reduceAdd, Int.reduceSub, Int.reduceMul, Int.reduceNeg, Int.reducePow, Nat.reducePow,
            Int.reduceToNat, Nat.reduceSub, List.replicate, Nat.reduceBEq, grpE, grpC, en0, dc_en0, ↓b_pick, ePk_true, ePk_false]
    repeat' (first
      | ((first | (refine eGI_of (fun hc => ?_) (fun hc => ?_)) | (refine eCc_of (fun hc => ?_) (fun hc => ?_)) | (refine ePk_of (fun hc => ?_) (fun hc => ?_)) | (have hc := True.intro; refine KW_refl ?_)) <;> (try simp only [Bool.not_eq_true', Bool.not_eq_false'] at hc) <;> (try simp only [hc, need_iff, reduceCtorEq, Bool.not_eq_true', decide_eq_false_iff_not, Bool.not_true, Bool.not_false, Bool.false_or, Bool.true_or, Bool.true_and, Bool.false_and, Bool.and_eq_true, Bool.or_eq_true, if_true, if_false, reduceIte, Bool.false_eq_true, and_true, true_and, false_or, or_false, decide_eq_true_eq, not_false_eq_true, not_true_eq_false] at h) <;> (try (have hc2 := hc; simp only [decide_eq_true_eq, decide_eq_false_iff_not] at hc2; simp only [hc2, if_true, if_false, reduceCtorEq, Bool.not_eq_true', decide_eq_false_iff_not, Bool.not_true, Bool.not_false, Bool.false_or, Bool.true_or, Bool.true_and, Bool.false_and, Bool.and_eq_true, Bool.or_eq_true, if_true, if_false, reduceIte, Bool.false_eq_true, and_true, true_and, false_or, or_false, decide_eq_true_eq, not_false_eq_true, not_true_eq_false] at h)) <;> simp only [hc,
      need_iff, h, grpS, grpD, grpF, grpL, eop, vop, bop, uop, fltop, convop, endOk, newE, new1, freshL, Md.isNew, outV, pureV, pureX, pure1, AV.cells, AV.one, storable, laid,
            refless, refless1, vload, loadC, storeC, vnil, vfaddr, vextract, flatT, flatE, flatC, vconv, vmm, vidxA, viaddrA, vfield, vlen, elemsOf, dF32, dF64, dI64, dU8, dBool,
            dStr, esOk, elemsS, vsliceX, bnd, ownV, ownC, Md.isOwn, pureV.pureP, Option.map, reduceIte, Nat.reduceEqDiff, Nat.reduceAdd, Nat.reduceMul, Nat.reduceLT,
            Nat.reduceLeDiff, List.mapM_cons, List.mapM_nil, Option.pure_def, Option.bind_eq_bind, Option.bind_some, implies_true, forall_const, beq_self_eq_true, decide_true,
            decide_false, eq_self, Int.reduceEq, Int.reduceLE, Int.reduceLT, if_true, if_false, fc20_0, fc20_1, fc20_2, fc20_3, fc20_4, fc20_5, fc20_6, fc20_7, fc20_8, fc20_9,
            fc20_10, fc20_11, fc20_12, fc20_13, fc20_14, fc20_15, fc20_16, fc20_17, fc20_18, fc20_19, fc20_20, fc20_21, fc20_22, fc20_23, fc20_24, fc20_25, fc20_26, fc20_27,
            fc20_28, fc20_29, fc20_30, fc20_31, fc20_32, fc20_33, fc20_34, fc20_35, fc20_36, fc20_37, fc20_38, fc20_39, fc20_40, fc20_41, fc20_42, fc20_43, fc20_44, fc20_45,
            fc20_46, fc20_47, fc20_48, fc20_49, fc20_50, fc20_51, fc20_52, fc20_53, fc20_54, fc20_55, fc20_56, fc20_57, fc20_58, fc20_59, fc20_60, fc20_61, fc20_62, fc20_63,
            fc20_64, fc20_65, fc20_66, fc20_67, fc20_68, fc20_69, fc20_70, fc20_71, Int.reduceAdd, Int.reduceSub, Int.reduceMul, Int.reduceNeg, Int.reducePow, Nat.reducePow,
            Int.reduceToNat, Nat.reduceSub, List.replicate, Nat.reduceBEq, grpE, grpC, en0, dc_en0, ↓b_pick, ePk_true, ePk_false]))
    all_goals (repeat (replace h := And.right h))
    all_goals first
      | (refine eA_wk (wk_norm (ks := [25, 26, 27]) (ls := []) ?_) (eA_cast ?_ (ih _ _ _ h h0 h1)); (simp only [normOk, optIn, blkIn, nameIn,
      need_iff, h, grpS, grpD, grpF, grpL, eop, vop, bop, uop, fltop, convop, endOk, newE, new1, freshL, Md.isNew, outV, pureV, pureX, pure1, AV.cells, AV.one, storable, laid,
            refless, refless1, vload, loadC, storeC, vnil, vfaddr, vextract, flatT, flatE, flatC, vconv, vmm, vidxA, viaddrA, vfield, vlen, elemsOf, dF32, dF64, dI64, dU8, dBool,
            dStr, esOk, elemsS, vsliceX, bnd, ownV, ownC, Md.isOwn, pureV.pureP, Option.map, reduceIte, Nat.reduceEqDiff, Nat.reduceAdd, Nat.reduceMul, Nat.reduceLT,
            Nat.reduceLeDiff, List.mapM_cons, List.mapM_nil, Option.pure_def, Option.bind_eq_bind, Option.bind_some, implies_true, forall_const, beq_self_eq_true, decide_true,
            decide_false, eq_self, Int.reduceEq, Int.reduceLE, Int.reduceLT, if_true, if_false, fc20_0, fc20_1, fc20_2, fc20_3, fc20_4, fc20_5, fc20_6, fc20_7, fc20_8, fc20_9,
            fc20_10, fc20_11, fc20_12, fc20_13, fc20_14, fc20_15, fc20_16, fc20_17, fc20_18, fc20_19, fc20_20, fc20_21, fc20_22, fc20_23, fc20_24, fc20_25, fc20_26, fc20_27,
            fc20_28, fc20_29, fc20_30, fc20_31, fc20_32, fc20_33, fc20_34, fc20_35, fc20_36, fc20_37, fc20_38, fc20_39, fc20_40, fc20_41, fc20_42, fc20_43, fc20_44, fc20_45,
            fc20_46, fc20_47, fc20_48, fc20_49, fc20_50, fc20_51, fc20_52, fc20_53, fc20_54, fc20_55, fc20_56, fc20_57, fc20_58, fc20_59, fc20_60, fc20_61, fc20_62, fc20_63,
            fc20_64, fc20_65, fc20_66, fc20_67, fc20_68, fc20_69, fc20_70, fc20_71, Int.reduceAdd, Int.reduceSub, Int.reduceMul, Int.reduceNeg, Int.reducePow, Nat.reducePow,
            Int.reduceToNat, Nat.reduceSub, List.replicate, Nat.reduceBEq, grpE, grpC, en0, dc_en0, ↓b_pick, ePk_true, ePk_false] <;> rfl); (simp only [normS, List.map_append, List.length_append, List.map_set, List.length_set, List.map_replicate, List.length_replicate, List.map_nil, List.map_cons,
      need_iff, h, grpS, grpD, grpF, grpL, eop, vop, bop, uop, fltop, convop, endOk, newE, new1, freshL, Md.isNew, outV, pureV, pureX, pure1, AV.cells, AV.one, storable, laid,
            refless, refless1, vload, loadC, storeC, vnil, vfaddr, vextract, flatT, flatE, flatC, vconv, vmm, vidxA, viaddrA, vfield, vlen, elemsOf, dF32, dF64, dI64, dU8, dBool,
            dStr, esOk, elemsS, vsliceX, bnd, ownV, ownC, Md.isOwn, pureV.pureP, Option.map, reduceIte, Nat.reduceEqDiff, Nat.reduceAdd, Nat.reduceMul, Nat.reduceLT,
            Nat.reduceLeDiff, List.mapM_cons, List.mapM_nil, Option.pure_def, Option.bind_eq_bind, Option.bind_some, implies_true, forall_const, beq_self_eq_true, decide_true,
            decide_false, eq_self, Int.reduceEq, Int.reduceLE, Int.reduceLT, if_true, if_false, fc20_0, fc20_1, fc20_2, fc20_3, fc20_4, fc20_5, fc20_6, fc20_7, fc20_8, fc20_9,
            fc20_10, fc20_11, fc20_12, fc20_13, fc20_14, fc20_15, fc20_16, fc20_17, fc20_18, fc20_19, fc20_20, fc20_21, fc20_22, fc20_23, fc20_24, fc20_25, fc20_26, fc20_27,
            fc20_28, fc20_29, fc20_30, fc20_31, fc20_32, fc20_33, fc20_34, fc20_35, fc20_36, fc20_37, fc20_38, fc20_39, fc20_40, fc20_41, fc20_42, fc20_43, fc20_44, fc20_45,
            fc20_46, fc20_47, fc20_48, fc20_49, fc20_50, fc20_51, fc20_52, fc20_53, fc20_54, fc20_55, fc20_56, fc20_57, fc20_58, fc20_59, fc20_60, fc20_61, fc20_62, fc20_63,
            fc20_64, fc20_65, fc20_66, fc20_67, fc20_68, fc20_69, fc20_70, fc20_71, Int.reduceAdd, Int.reduceSub, Int.reduceMul, Int.reduceNeg, Int.reducePow, Nat.reducePow,
            Int.reduceToNat, Nat.reduceSub, List.replicate, Nat.reduceBEq, grpE, grpC, en0, dc_en0, ↓b_pick, ePk_true, ePk_false] <;> rfl))
      | (cases h; refine h0 _ rfl ?_; simp only [
      grpS, grpD, grpF, grpL, eop, vop, bop, uop, fltop, convop, endOk, newE, new1, freshL, Md.isNew, outV, pureV, pureX, pure1, AV.cells, AV.one, storable, laid, refless, refless1,
            vload, loadC, storeC, vnil, vfaddr, vextract, flatT, flatE, flatC, vconv, vmm, vidxA, viaddrA, vfield, vlen, elemsOf, dF32, dF64, dI64, dU8, dBool, dStr, esOk, elemsS,
            vsliceX, bnd, ownV, ownC, Md.isOwn, pureV.pureP, Option.map, reduceIte, Nat.reduceEqDiff, Nat.reduceAdd, Nat.reduceMul, Nat.reduceLT, Nat.reduceLeDiff, List.mapM_cons,
            List.mapM_nil, Option.pure_def, Option.bind_eq_bind, Option.bind_some, implies_true, forall_const, beq_self_eq_true, decide_true, decide_false, eq_self, Int.reduceEq,
            Int.reduceLE, Int.reduceLT, if_true, if_false, fc20_0, fc20_1, fc20_2, fc20_3, fc20_4, fc20_5, fc20_6, fc20_7, fc20_8, fc20_9, fc20_10, fc20_11, fc20_12, fc20_13,
            fc20_14, fc20_15, fc20_16, fc20_17, fc20_18, fc20_19, fc20_20, fc20_21, fc20_22, fc20_23, fc20_24, fc20_25, fc20_26, fc20_27, fc20_28, fc20_29, fc20_30, fc20_31,
            fc20_32, fc20_33, fc20_34, fc20_35, fc20_36, fc20_37, fc20_38, fc20_39, fc20_40, fc20_41, fc20_42, fc20_43, fc20_44, fc20_45, fc20_46, fc20_47, fc20_48, fc20_49,
            fc20_50, fc20_51, fc20_52, fc20_53, fc20_54, fc20_55, fc20_56, fc20_57, fc20_58, fc20_59, fc20_60, fc20_61, fc20_62, fc20_63, fc20_64, fc20_65, fc20_66, fc20_67,
            fc20_68, fc20_69, fc20_70, fc20_71, Int.reduceAdd, Int.reduceSub, Int.reduceMul, Int.reduceNeg, Int.reducePow, Nat.reducePow, Int.reduceToNat, Nat.reduceSub,
            List.replicate, Nat.reduceBEq, grpE, grpC, en0, dc_en0, ↓b_pick, ePk_true, ePk_false])
      | (cases h; refine h1 _ rfl (Wk.cast (wk_norm (ks := []) (ls := []) ?_) ?_); (simp only [normOk, optIn, blkIn, nameIn,
      grpS, grpD, grpF, grpL, eop, vop, bop, uop, fltop, convop, endOk, newE, new1, freshL, Md.isNew, outV, pureV, pureX, pure1, AV.cells, AV.one, storable, laid, refless, refless1,
            vload, loadC, storeC, vnil, vfaddr, vextract, flatT, flatE, flatC, vconv, vmm, vidxA, viaddrA, vfield, vlen, elemsOf, dF32, dF64, dI64, dU8, dBool, dStr, esOk, elemsS,
            vsliceX, bnd, ownV, ownC, Md.isOwn, pureV.pureP, Option.map, reduceIte, Nat.reduceEqDiff, Nat.reduceAdd, Nat.reduceMul, Nat.reduceLT, Nat.reduceLeDiff, List.mapM_cons,
            List.mapM_nil, Option.pure_def, Option.bind_eq_bind, Option.bind_some, implies_true, forall_const, beq_self_eq_true, decide_true, decide_false, eq_self, Int.reduceEq,
            Int.reduceLE, Int.reduceLT, if_true, if_false, fc20_0, fc20_1, fc20_2, fc20_3, fc20_4, fc20_5, fc20_6, fc20_7, fc20_8, fc20_9, fc20_10, fc20_11, fc20_12, fc20_13,
            fc20_14, fc20_15, fc20_16, fc20_17, fc20_18, fc20_19, fc20_20, fc20_21, fc20_22, fc20_23, fc20_24, fc20_25, fc20_26, fc20_27, fc20_28, fc20_29, fc20_30, fc20_31,
            fc20_32, fc20_33, fc20_34, fc20_35, fc20_36, fc20_37, fc20_38, fc20_39, fc20_40, fc20_41, fc20_42, fc20_43, fc20_44, fc20_45, fc20_46, fc20_47, fc20_48, fc20_49,
            fc20_50, fc20_51, fc20_52, fc20_53, fc20_54, fc20_55, fc20_56, fc20_57, fc20_58, fc20_59, fc20_60, fc20_61, fc20_62, fc20_63, fc20_64, fc20_65, fc20_66, fc20_67,
            fc20_68, fc20_69, fc20_70, fc20_71, Int.reduceAdd, Int.reduceSub, Int.reduceMul, Int.reduceNeg, Int.reducePow, Nat.reducePow, Int.reduceToNat, Nat.reduceSub,
            List.replicate, Nat.reduceBEq, grpE, grpC, en0, dc_en0, ↓b_pick, ePk_true, ePk_false] <;> rfl); (simp only [normS, List.map_append, List.length_append, List.map_set, List.length_set, List.map_replicate, List.length_replicate,
      grpS, grpD, grpF, grpL, eop, vop, bop, uop, fltop, convop, endOk, newE, new1, freshL, Md.isNew, outV, pureV, pureX, pure1, AV.cells, AV.one, storable, laid, refless, refless1,
            vload, loadC, storeC, vnil, vfaddr, vextract, flatT, flatE, flatC, vconv, vmm, vidxA, viaddrA, vfield, vlen, elemsOf, dF32, dF64, dI64, dU8, dBool, dStr, esOk, elemsS,
            vsliceX, bnd, ownV, ownC, Md.isOwn, pureV.pureP, Option.map, reduceIte, Nat.reduceEqDiff, Nat.reduceAdd, Nat.reduceMul, Nat.reduceLT, Nat.reduceLeDiff, List.mapM_cons,
            List.mapM_nil, Option.pure_def, Option.bind_eq_bind, Option.bind_some, implies_true, forall_const, beq_self_eq_true, decide_true, decide_false, eq_self, Int.reduceEq,
            Int.reduceLE, Int.reduceLT, if_true, if_false, fc20_0, fc20_1, fc20_2, fc20_3, fc20_4, fc20_5, fc20_6, fc20_7, fc20_8, fc20_9, fc20_10, fc20_11, fc20_12, fc20_13,
            fc20_14, fc20_15, fc20_16, fc20_17, fc20_18, fc20_19, fc20_20, fc20_21, fc20_22, fc20_23, fc20_24, fc20_25, fc20_26, fc20_27, fc20_28, fc20_29, fc20_30, fc20_31,
            fc20_32, fc20_33, fc20_34, fc20_35, fc20_36, fc20_37, fc20_38, fc20_39, fc20_40, fc20_41, fc20_42, fc20_43, fc20_44, fc20_45, fc20_46, fc20_47, fc20_48, fc20_49,
            fc20_50, fc20_51, fc20_52, fc20_53, fc20_54, fc20_55, fc20_56, fc20_57, fc20_58, fc20_59, fc20_60, fc20_61, fc20_62, fc20_63, fc20_64, fc20_65, fc20_66, fc20_67,
            fc20_68, fc20_69, fc20_70, fc20_71, Int.reduceAdd, Int.reduceSub, Int.reduceMul, Int.reduceNeg, Int.reducePow, Nat.reducePow, Int.reduceToNat, Nat.reduceSub,
            List.replicate, Nat.reduceBEq, grpE, grpC, en0, dc_en0, ↓b_pick, ePk_true, ePk_false] <;> rfl))
theorem s20 : ∀ vs r, g_impl_ValidSkeleton vs = some r → SaysM Try.prog .any 20 vs r := by
  intro vs r h
  unfold g_impl_ValidSkeleton at h
  split at h
  · rename_i w0
    cases hd_y0 : decL dc_en0 w0 with
    | none => rw [hd_y0] at h; cases h
    | some y0 =>
    rw [hd_y0] at h
    obtain rfl := decL_inv dc_en0_inv hd_y0
    clear hd_y0
    dsimp only at h
    split at h
    · rename_i hp
      cases h
      refine spec_of (m := .any) (tab := tabOf []) (cp := cp20) (ic := ic20) (rvl := [(.t 2)]) hm tabOk_nil Try.func20 rfl rfl rfl (by kernel_rfl) rfl (Nat.le_of_ble_eq_true rfl) (Nat.le_of_ble_eq_true rfl) ?_
      show eA _ _ _ _
      unfold ic20
      simp only [p_impl_ValidSkeleton, Bool.and_eq_true, Bool.or_eq_true, decide_eq_true_eq, Bool.not_eq_true', decide_eq_false_iff_not] at hp
      simp only [
          hp, grpS, grpD, grpF, grpL, eop, vop, bop, uop, fltop, convop, endOk, newE, new1, freshL, Md.isNew, outV, pureV, pureX, pure1, AV.cells, AV.one, storable, laid, refless,
                refless1, vload, loadC, storeC, vnil, vfaddr, vextract, flatT, flatE, flatC, vconv, vmm, vidxA, viaddrA, vfield, vlen, elemsOf, dF32, dF64, dI64, dU8, dBool, dStr,
                esOk, elemsS, vsliceX, bnd, ownV, ownC, Md.isOwn, pureV.pureP, Option.map, reduceIte, Nat.reduceEqDiff, Nat.reduceAdd, Nat.reduceMul, Nat.reduceLT, Nat.reduceLeDiff,
                List.mapM_cons, List.mapM_nil, Option.pure_def, Option.bind_eq_bind, Option.bind_some, implies_true, forall_const, beq_self_eq_true, decide_true, decide_false,
                eq_self, Int.reduceEq, Int.reduceLE, Int.reduceLT, if_true, if_false, fc20_0, fc20_1, fc20_2, fc20_3, fc20_4, fc20_5, fc20_6, fc20_7, fc20_8, fc20_9, fc20_10,
                fc20_11, fc20_12, fc20_13, fc20_14, fc20_15, fc20_16, fc20_17, fc20_18, fc20_19, fc20_20, fc20_21, fc20_22, fc20_23, fc20_24, fc20_25, fc20_26, fc20_27, fc20_28,
                fc20_29, fc20_30, fc20_31, fc20_32, fc20_33, fc20_34, fc20_35, fc20_36, fc20_37, fc20_38, fc20_39, fc20_40, fc20_41, fc20_42, fc20_43, fc20_44, fc20_45, fc20_46,
                fc20_47, fc20_48, fc20_49, fc20_50, fc20_51, fc20_52, fc20_53, fc20_54, fc20_55, fc20_56, fc20_57, fc20_58, fc20_59, fc20_60, fc20_61, fc20_62, fc20_63, fc20_64,
                fc20_65, fc20_66, fc20_67, fc20_68, fc20_69, fc20_70, fc20_71, Int.reduceAdd, Int.reduceSub, Int.reduceMul, Int.reduceNeg, Int.reducePow, Nat.reducePow,
                Int.reduceToNat, Nat.reduceSub, List.replicate, Nat.reduceBEq, grpE, grpC, en0, dc_en0, ↓b_pick, ePk_true, ePk_false]
      repeat' (first
        | ((first | (refine eGI_of (fun h => ?_) (fun h => ?_)) | (refine eCc_of (fun h => ?_) (fun h => ?_)) | (refine ePk_of (fun h => ?_) (fun h => ?_)) | (have h := True.intro; refine KW_refl ?_)) <;> (try simp only [Bool.not_eq_true', Bool.not_eq_false'] at h) <;> (try simp only [h, reduceCtorEq, Bool.not_eq_true', decide_eq_false_iff_not, Bool.not_true, Bool.not_false, Bool.false_or, Bool.true_or, Bool.true_and, Bool.false_and, Bool.and_eq_true, Bool.or_eq_true, if_true, if_false, reduceIte, Bool.false_eq_true, and_true, true_and, false_or, or_false, decide_eq_true_eq, not_false_eq_true, not_true_eq_false] at hp) <;> (try (have h2 := h; simp only [decide_eq_true_eq, decide_eq_false_iff_not] at h2; (first | (replace h2 := eq_false h2) | (replace h2 := eq_true h2)); simp only [h2, if_true, if_false, false_or, true_or, or_true, or_false, and_true, true_and, not_false_eq_true, not_true_eq_false] at hp)) <;> simp only [h,
          hp, grpS, grpD, grpF, grpL, eop, vop, bop, uop, fltop, convop, endOk, newE, new1, freshL, Md.isNew, outV, pureV, pureX, pure1, AV.cells, AV.one, storable, laid, refless,
                refless1, vload, loadC, storeC, vnil, vfaddr, vextract, flatT, flatE, flatC, vconv, vmm, vidxA, viaddrA, vfield, vlen, elemsOf, dF32, dF64, dI64, dU8, dBool, dStr,
                esOk, elemsS, vsliceX, bnd, ownV, ownC, Md.isOwn, pureV.pureP, Option.map, reduceIte, Nat.reduceEqDiff, Nat.reduceAdd, Nat.reduceMul, Nat.reduceLT, Nat.reduceLeDiff,
                List.mapM_cons, List.mapM_nil, Option.pure_def, Option.bind_eq_bind, Option.bind_some, implies_true, forall_const, beq_self_eq_true, decide_true, decide_false,
                eq_self, Int.reduceEq, Int.reduceLE, Int.reduceLT, if_true, if_false, fc20_0, fc20_1, fc20_2, fc20_3, fc20_4, fc20_5, fc20_6, fc20_7, fc20_8, fc20_9, fc20_10,
                fc20_11, fc20_12, fc20_13, fc20_14, fc20_15, fc20_16, fc20_17, fc20_18, fc20_19, fc20_20, fc20_21, fc20_22, fc20_23, fc20_24, fc20_25, fc20_26, fc20_27, fc20_28,
                fc20_29, fc20_30, fc20_31, fc20_32, fc20_33, fc20_34, fc20_35, fc20_36, fc20_37, fc20_38, fc20_39, fc20_40, fc20_41, fc20_42, fc20_43, fc20_44, fc20_45, fc20_46,
                fc20_47, fc20_48, fc20_49, fc20_50, fc20_51, fc20_52, fc20_53, fc20_54, fc20_55, fc20_56, fc20_57, fc20_58, fc20_59, fc20_60, fc20_61, fc20_62, fc20_63, fc20_64,
                fc20_65, fc20_66, fc20_67, fc20_68, fc20_69, fc20_70, fc20_71, Int.reduceAdd, Int.reduceSub, Int.reduceMul, Int.reduceNeg, Int.reducePow, Nat.reducePow,
                Int.reduceToNat, Nat.reduceSub, List.replicate, Nat.reduceBEq, grpE, grpC, en0, dc_en0, ↓b_pick, ePk_true, ePk_false])
        | (refine eA_wk (wk_norm (ks := [25, 26, 27]) (ls := []) ?_) (eA_cast ?_ (sl20_0 y0 _ _ _ _ (getD_some (d := default) (x := (l_impl_ValidSkeleton_0 y0 (Int.toNat (((List.length (List.drop 1 y0) : Nat) : Int) - 0) + 2) 0)) ?_) ?_ ?_)); (simp only [nilS, nilV, normOk, optIn, blkIn, nameIn, 
          hp, grpS, grpD, grpF, grpL, eop, vop, bop, uop, fltop, convop, endOk, newE, new1, freshL, Md.isNew, outV, pureV, pureX, pure1, AV.cells, AV.one, storable, laid, refless,
                refless1, vload, loadC, storeC, vnil, vfaddr, vextract, flatT, flatE, flatC, vconv, vmm, vidxA, viaddrA, vfield, vlen, elemsOf, dF32, dF64, dI64, dU8, dBool, dStr,
                esOk, elemsS, vsliceX, bnd, ownV, ownC, Md.isOwn, pureV.pureP, Option.map, reduceIte, Nat.reduceEqDiff, Nat.reduceAdd, Nat.reduceMul, Nat.reduceLT, Nat.reduceLeDiff,
                List.mapM_cons, List.mapM_nil, Option.pure_def, Option.bind_eq_bind, Option.bind_some, implies_true, forall_const, beq_self_eq_true, decide_true, decide_false,
                eq_self, Int.reduceEq, Int.reduceLE, Int.reduceLT, if_true, if_false, fc20_0, fc20_1, fc20_2, fc20_3, fc20_4, fc20_5, fc20_6, fc20_7, fc20_8, fc20_9, fc20_10,
                fc20_11, fc20_12, fc20_13, fc20_14, fc20_15, fc20_16, fc20_17, fc20_18, fc20_19, fc20_20, fc20_21, fc20_22, fc20_23, fc20_24, fc20_25, fc20_26, fc20_27, fc20_28,
                fc20_29, fc20_30, fc20_31, fc20_32, fc20_33, fc20_34, fc20_35, fc20_36, fc20_37, fc20_38, fc20_39, fc20_40, fc20_41, fc20_42, fc20_43, fc20_44, fc20_45, fc20_46,
                fc20_47, fc20_48, fc20_49, fc20_50, fc20_51, fc20_52, fc20_53, fc20_54, fc20_55, fc20_56, fc20_57, fc20_58, fc20_59, fc20_60, fc20_61, fc20_62, fc20_63, fc20_64,
                fc20_65, fc20_66, fc20_67, fc20_68, fc20_69, fc20_70, fc20_71, Int.reduceAdd, Int.reduceSub, Int.reduceMul, Int.reduceNeg, Int.reducePow, Nat.reducePow,
                Int.reduceToNat, Nat.reduceSub, List.replicate, Nat.reduceBEq, grpE, grpC, en0, dc_en0, ↓b_pick, ePk_true, ePk_false] <;> rfl); (simp only [nilS, nilV, normS,  List.map_append, List.length_append, List.map_set, List.length_set, List.map_replicate, List.length_replicate, List.map_nil, List.map_cons,
          hp, grpS, grpD, grpF, grpL, eop, vop, bop, uop, fltop, convop, endOk, newE, new1, freshL, Md.isNew, outV, pureV, pureX, pure1, AV.cells, AV.one, storable, laid, refless,
                refless1, vload, loadC, storeC, vnil, vfaddr, vextract, flatT, flatE, flatC, vconv, vmm, vidxA, viaddrA, vfield, vlen, elemsOf, dF32, dF64, dI64, dU8, dBool, dStr,
                esOk, elemsS, vsliceX, bnd, ownV, ownC, Md.isOwn, pureV.pureP, Option.map, reduceIte, Nat.reduceEqDiff, Nat.reduceAdd, Nat.reduceMul, Nat.reduceLT, Nat.reduceLeDiff,
                List.mapM_cons, List.mapM_nil, Option.pure_def, Option.bind_eq_bind, Option.bind_some, implies_true, forall_const, beq_self_eq_true, decide_true, decide_false,
                eq_self, Int.reduceEq, Int.reduceLE, Int.reduceLT, if_true, if_false, fc20_0, fc20_1, fc20_2, fc20_3, fc20_4, fc20_5, fc20_6, fc20_7, fc20_8, fc20_9, fc20_10,
                fc20_11, fc20_12, fc20_13, fc20_14, fc20_15, fc20_16, fc20_17, fc20_18, fc20_19, fc20_20, fc20_21, fc20_22, fc20_23, fc20_24, fc20_25, fc20_26, fc20_27, fc20_28,
                fc20_29, fc20_30, fc20_31, fc20_32, fc20_33, fc20_34, fc20_35, fc20_36, fc20_37, fc20_38, fc20_39, fc20_40, fc20_41, fc20_42, fc20_43, fc20_44, fc20_45, fc20_46,
                fc20_47, fc20_48, fc20_49, fc20_50, fc20_51, fc20_52, fc20_53, fc20_54, fc20_55, fc20_56, fc20_57, fc20_58, fc20_59, fc20_60, fc20_61, fc20_62, fc20_63, fc20_64,
                fc20_65, fc20_66, fc20_67, fc20_68, fc20_69, fc20_70, fc20_71, Int.reduceAdd, Int.reduceSub, Int.reduceMul, Int.reduceNeg, Int.reducePow, Nat.reducePow,
                Int.reduceToNat, Nat.reduceSub, List.replicate, Nat.reduceBEq, grpE, grpC, en0, dc_en0, ↓b_pick, ePk_true, ePk_false] <;> rfl); (simp only [hp]); (
        intro st2 ht hw; simp only [Kq_ret, Kb_ret, Kl_ret, ret_ok]; first | exact h0 _ hw | exact h0 _ rfl hw | exact h1 _ rfl hw | exact h0 _ ht hw | exact h1 _ ht hw | refine ⟨_, hw, ?_⟩); rotate_left; (
        intro st2 ht hw; (try simp only [ht, reduceCtorEq, Bool.not_eq_true', decide_eq_false_iff_not, Bool.not_true, Bool.not_false, Bool.false_or, Bool.true_or, Bool.true_and, Bool.false_and, Bool.and_eq_true, Bool.or_eq_true, if_true, if_false, reduceIte, Bool.false_eq_true, and_true, true_and, false_or, or_false, decide_eq_true_eq, not_false_eq_true, not_true_eq_false] at hp); simp only [
          hp, grpS, grpD, grpF, grpL, eop, vop, bop, uop, fltop, convop, endOk, newE, new1, freshL, Md.isNew, outV, pureV, pureX, pure1, AV.cells, AV.one, storable, laid, refless,
                refless1, vload, loadC, storeC, vnil, vfaddr, vextract, flatT, flatE, flatC, vconv, vmm, vidxA, viaddrA, vfield, vlen, elemsOf, dF32, dF64, dI64, dU8, dBool, dStr,
                esOk, elemsS, vsliceX, bnd, ownV, ownC, Md.isOwn, pureV.pureP, Option.map, reduceIte, Nat.reduceEqDiff, Nat.reduceAdd, Nat.reduceMul, Nat.reduceLT, Nat.reduceLeDiff,
                List.mapM_cons, List.mapM_nil, Option.pure_def, Option.bind_eq_bind, Option.bind_some, implies_true, forall_const, beq_self_eq_true, decide_true, decide_false,
                eq_self, Int.reduceEq, Int.reduceLE, Int.reduceLT, if_true, if_false, fc20_0, fc20_1, fc20_2, fc20_3, fc20_4, fc20_5, fc20_6, fc20_7, fc20_8, fc20_9, fc20_10,
                fc20_11, fc20_12, fc20_13, fc20_14, fc20_15, fc20_16, fc20_17, fc20_18, fc20_19, fc20_20, fc20_21, fc20_22, fc20_23, fc20_24, fc20_25, fc20_26, fc20_27, fc20_28,
                fc20_29, fc20_30, fc20_31, fc20_32, fc20_33, fc20_34, fc20_35, fc20_36, fc20_37, fc20_38, fc20_39, fc20_40, fc20_41, fc20_42, fc20_43, fc20_44, fc20_45, fc20_46,
                fc20_47, fc20_48, fc20_49, fc20_50, fc20_51, fc20_52, fc20_53, fc20_54, fc20_55, fc20_56, fc20_57, fc20_58, fc20_59, fc20_60, fc20_61, fc20_62, fc20_63, fc20_64,
                fc20_65, fc20_66, fc20_67, fc20_68, fc20_69, fc20_70, fc20_71, Int.reduceAdd, Int.reduceSub, Int.reduceMul, Int.reduceNeg, Int.reducePow, Nat.reducePow,
                Int.reduceToNat, Nat.reduceSub, List.replicate, Nat.reduceBEq, grpE, grpC, en0, dc_en0, ↓b_pick, ePk_true, ePk_false]; refine KW_of hw ?_; simp only [ht, 
          hp, grpS, grpD, grpF, grpL, eop, vop, bop, uop, fltop, convop, endOk, newE, new1, freshL, Md.isNew, outV, pureV, pureX, pure1, AV.cells, AV.one, storable, laid, refless,
                refless1, vload, loadC, storeC, vnil, vfaddr, vextract, flatT, flatE, flatC, vconv, vmm, vidxA, viaddrA, vfield, vlen, elemsOf, dF32, dF64, dI64, dU8, dBool, dStr,
                esOk, elemsS, vsliceX, bnd, ownV, ownC, Md.isOwn, pureV.pureP, Option.map, reduceIte, Nat.reduceEqDiff, Nat.reduceAdd, Nat.reduceMul, Nat.reduceLT, Nat.reduceLeDiff,
                List.mapM_cons, List.mapM_nil, Option.pure_def, Option.bind_eq_bind, Option.bind_some, implies_true, forall_const, beq_self_eq_true, decide_true, decide_false,
                eq_self, Int.reduceEq, Int.reduceLE, Int.reduceLT, if_true, if_false, fc20_0, fc20_1, fc20_2, fc20_3, fc20_4, fc20_5, fc20_6, fc20_7, fc20_8, fc20_9, fc20_10,
                fc20_11, fc20_12, fc20_13, fc20_14, fc20_15, fc20_16, fc20_17, fc20_18, fc20_19, fc20_20, fc20_21, fc20_22, fc20_23, fc20_24, fc20_25, fc20_26, fc20_27, fc20_28,
                fc20_29, fc20_30, fc20_31, fc20_32, fc20_33, fc20_34, fc20_35, fc20_36, fc20_37, fc20_38, fc20_39, fc20_40, fc20_41, fc20_42, fc20_43, fc20_44, fc20_45, fc20_46,
                fc20_47, fc20_48, fc20_49, fc20_50, fc20_51, fc20_52, fc20_53, fc20_54, fc20_55, fc20_56, fc20_57, fc20_58, fc20_59, fc20_60, fc20_61, fc20_62, fc20_63, fc20_64,
                fc20_65, fc20_66, fc20_67, fc20_68, fc20_69, fc20_70, fc20_71, Int.reduceAdd, Int.reduceSub, Int.reduceMul, Int.reduceNeg, Int.reducePow, Nat.reducePow,
                Int.reduceToNat, Nat.reduceSub, List.replicate, Nat.reduceBEq, grpE, grpC, en0, dc_en0, ↓b_pick, ePk_true, ePk_false])))
      all_goals (try simp only [*, m_impl_ValidSkeleton, Bool.and_true, Bool.true_and, Bool.and_false, Bool.false_and, Bool.or_true, Bool.true_or, Bool.or_false, Bool.false_or, Bool.not_true, Bool.not_false, Bool.false_eq_true, if_true, if_false, reduceIte, decide_true, decide_false])
      all_goals (try (simp_all; done))
    · cases h
  · cases h
def m_laws_sameFloat (x0 : Nat) (x1 : Nat) : Bool := (if (feq .f64 x0 x0) = true then (if (feq .f64 x1 x1) = true then (if (feq .f64 x0 0) = true then (if (feq .f64 x1 0) = true
      then ((flt .f64 0 (fdiv .f64 4607182418800017408 x0)) == (flt .f64 0 (fdiv .f64 4607182418800017408 x1))) else (feq .f64 x0 x1)) else (feq .f64 x0 x1)) else false) else (!(feq
      .f64 x1 x1)))
def g_laws_sameFloat : List AV → Option AV
  | [.flt .f64 y0, .flt .f64 y1] => some (.bool (m_laws_sameFloat y0 y1))
  | _ => none
def ic48 : ICode := (.seq (.reg [⟨(some 4), none, (.mov (.c (.bool false)))⟩] [0, 1]) (.seq (.seq (.reg [⟨(some 5), none, (.mov (.t 0))⟩, ⟨(some 6), none, (.mov (.t 0))⟩, ⟨(some 7),
      none, (.bin .neq false (.t 5) (.t 6))⟩, ⟨(some 8), none, (.mov (.t 7))⟩, ⟨(some 9), (some (8, false)), (.mov (.t 1))⟩, ⟨(some 10), (some (8, false)), (.mov (.t 1))⟩, ⟨(some
      11), (some (8, false)), (.bin .neq false (.t 9) (.t 10))⟩, ⟨(some 12), none, (.pick (.t 8) (.c (.bool true)) (.t 11))⟩] [0, 1, 12]) (.cond (.t 12) (.seq (.reg [⟨(some 13),
      none, (.mov (.t 0))⟩, ⟨(some 14), none, (.mov (.t 0))⟩, ⟨(some 15), none, (.bin .neq false (.t 13) (.t 14))⟩, ⟨(some 16), none, (.mov (.t 15))⟩, ⟨(some 17), (some (16, true)),
      (.mov (.t 1))⟩, ⟨(some 18), (some (16, true)), (.mov (.t 1))⟩, ⟨(some 19), (some (16, true)), (.bin .neq false (.t 17) (.t 18))⟩, ⟨(some 20), none, (.pick (.t 16) (.t 19) (.c
      (.bool false)))⟩, ⟨(some 4), none, (.mov (.t 20))⟩] [4]) .ret) .skip)) (.seq (.seq (.reg [⟨(some 21), none, (.mov (.t 0))⟩, ⟨(some 22), none, (.bin .eql false (.t 21) (.c
      (.flt .f64 0)))⟩, ⟨(some 23), none, (.mov (.t 22))⟩, ⟨(some 24), (some (23, true)), (.mov (.t 1))⟩, ⟨(some 25), (some (23, true)), (.bin .eql false (.t 24) (.c (.flt .f64
      0)))⟩, ⟨(some 26), none, (.pick (.t 23) (.t 25) (.c (.bool false)))⟩] [0, 1, 26]) (.cond (.t 26) (.seq (.reg [⟨(some 27), none, (.mov (.t 0))⟩, ⟨(some 28), none, (.bin .quo
      false (.c (.flt .f64 4607182418800017408)) (.t 27))⟩, ⟨(some 29), none, (.bin .gtr false (.t 28) (.c (.flt .f64 0)))⟩, ⟨(some 30), none, (.mov (.t 1))⟩, ⟨(some 31), none,
      (.bin .quo false (.c (.flt .f64 4607182418800017408)) (.t 30))⟩, ⟨(some 32), none, (.bin .gtr false (.t 31) (.c (.flt .f64 0)))⟩, ⟨(some 33), none, (.bin .eql true (.t 29) (.t
      32))⟩, ⟨(some 4), none, (.mov (.t 33))⟩] [4]) .ret) .skip)) (.seq (.reg [⟨(some 34), none, (.mov (.t 0))⟩, ⟨(some 35), none, (.mov (.t 1))⟩, ⟨(some 36), none, (.bin .eql false
      (.t 34) (.t 35))⟩, ⟨(some 4), none, (.mov (.t 36))⟩] [4]) .ret))))
def cp48 : CP := { n := 37, kp := [[0, 1], [0, 1, 12], [4], [0, 1, 26], [4], [4]] }
theorem fc48_0 : IntKind.wrap .i64 0 = 0 := by decide
theorem fc48_1 : IntKind.wrap .i64 1 = 1 := by decide
theorem fc48_2 : IntKind.wrap .i64 10 = 10 := by decide
theorem fc48_3 : IntKind.wrap .i64 11 = 11 := by decide
theorem fc48_4 : IntKind.wrap .i64 12 = 12 := by decide
theorem fc48_5 : IntKind.wrap .i64 13 = 13 := by decide
theorem fc48_6 : IntKind.wrap .i64 14 = 14 := by decide
theorem fc48_7 : IntKind.wrap .i64 15 = 15 := by decide
theorem fc48_8 : IntKind.wrap .i64 16 = 16 := by decide
theorem fc48_9 : IntKind.wrap .i64 17 = 17 := by decide
theorem fc48_10 : IntKind.wrap .i64 18 = 18 := by decide
theorem fc48_11 : IntKind.wrap .i64 19 = 19 := by decide
theorem fc48_12 : IntKind.wrap .i64 2 = 2 := by decide
theorem fc48_13 : IntKind.wrap .i64 20 = 20 := by decide
theorem fc48_14 : IntKind.wrap .i64 21 = 21 := by decide
theorem fc48_15 : IntKind.wrap .i64 22 = 22 := by decide
theorem fc48_16 : IntKind.wrap .i64 23 = 23 := by decide
theorem fc48_17 : IntKind.wrap .i64 24 = 24 := by decide
theorem fc48_18 : IntKind.wrap .i64 25 = 25 := by decide
theorem fc48_19 : IntKind.wrap .i64 26 = 26 := by decide
theorem fc48_20 : IntKind.wrap .i64 27 = 27 := by decide
theorem fc48_21 : IntKind.wrap .i64 28 = 28 := by decide
theorem fc48_22 : IntKind.wrap .i64 29 = 29 := by decide
theorem fc48_23 : IntKind.wrap .i64 3 = 3 := by decide
theorem fc48_24 : IntKind.wrap .i64 30 = 30 := by decide
theorem fc48_25 : IntKind.wrap .i64 31 = 31 := by decide
theorem fc48_26 : IntKind.wrap .i64 32 = 32 := by decide
theorem fc48_27 : IntKind.wrap .i64 33 = 33 := by decide
theorem fc48_28 : IntKind.wrap .i64 34 = 34 := by decide
theorem fc48_29 : IntKind.wrap .i64 35 = 35 := by decide
theorem fc48_30 : IntKind.wrap .i64 36 = 36 := by decide
theorem fc48_31 : IntKind.wrap .i64 37 = 37 := by decide
theorem fc48_32 : IntKind.wrap .i64 38 = 38 := by decide
theorem fc48_33 : IntKind.wrap .i64 39 = 39 := by decide
theorem fc48_34 : IntKind.wrap .i64 4 = 4 := by decide
theorem fc48_35 : IntKind.wrap .i64 40 = 40 := by decide
theorem fc48_36 : IntKind.wrap .i64 41 = 41 := by decide
theorem fc48_37 : IntKind.wrap .i64 42 = 42 := by decide
theorem fc48_38 : IntKind.wrap .i64 43 = 43 := by decide
theorem fc48_39 : IntKind.wrap .i64 44 = 44 := by decide
theorem fc48_40 : IntKind.wrap .i64 45 = 45 := by decide
theorem fc48_41 : IntKind.wrap .i64 46 = 46 := by decide
theorem fc48_42 : IntKind.wrap .i64 47 = 47 := by decide
theorem fc48_43 : IntKind.wrap .i64 48 = 48 := by decide
theorem fc48_44 : IntKind.wrap .i64 49 = 49 := by decide
theorem fc48_45 : IntKind.wrap .i64 5 = 5 := by decide
theorem fc48_46 : IntKind.wrap .i64 50 = 50 := by decide
theorem fc48_47 : IntKind.wrap .i64 51 = 51 := by decide
theorem fc48_48 : IntKind.wrap .i64 52 = 52 := by decide
theorem fc48_49 : IntKind.wrap .i64 53 = 53 := by decide
theorem fc48_50 : IntKind.wrap .i64 54 = 54 := by decide
theorem fc48_51 : IntKind.wrap .i64 55 = 55 := by decide
theorem fc48_52 : IntKind.wrap .i64 56 = 56 := by decide
theorem fc48_53 : IntKind.wrap .i64 57 = 57 := by decide
theorem fc48_54 : IntKind.wrap .i64 58 = 58 := by decide
theorem fc48_55 : IntKind.wrap .i64 59 = 59 := by decide
theorem fc48_56 : IntKind.wrap .i64 6 = 6 := by decide
theorem fc48_57 : IntKind.wrap .i64 60 = 60 := by decide
theorem fc48_58 : IntKind.wrap .i64 61 = 61 := by decide
theorem fc48_59 : IntKind.wrap .i64 62 = 62 := by decide
theorem fc48_60 : IntKind.wrap .i64 63 = 63 := by decide
theorem fc48_61 : IntKind.wrap .i64 64 = 64 := by decide
theorem fc48_62 : IntKind.wrap .i64 65 = 65 := by decide
theorem fc48_63 : IntKind.wrap .i64 66 = 66 := by decide
theorem fc48_64 : IntKind.wrap .i64 67 = 67 := by decide
theorem fc48_65 : IntKind.wrap .i64 68 = 68 := by decide
theorem fc48_66 : IntKind.wrap .i64 69 = 69 := by decide
theorem fc48_67 : IntKind.wrap .i64 7 = 7 := by decide
theorem fc48_68 : IntKind.wrap .i64 70 = 70 := by decide
theorem fc48_69 : IntKind.wrap .i64 71 = 71 := by decide
theorem fc48_70 : IntKind.wrap .i64 8 = 8 := by decide
theorem fc48_71 : IntKind.wrap .i64 9 = 9 := by decide
theorem s48 : ∀ vs r, g_laws_sameFloat vs = some r → SaysM Try.prog .any 48 vs r := by
  intro vs r h
  unfold g_laws_sameFloat at h
  split at h
  · rename_i y0 y1
    cases h
    refine spec_of (m := .any) (tab := tabOf []) (cp := cp48) (ic := ic48) (rvl := [(.t 4)]) hm tabOk_nil Try.func48 rfl rfl rfl (by kernel_rfl) rfl (Nat.le_of_ble_eq_true rfl) (Nat.le_of_ble_eq_true rfl) ?_
    show eA _ _ _ _
    unfold ic48
    simp only [
        grpS, grpD, grpF, grpL, eop, vop, bop, uop, fltop, convop, endOk, newE, new1, freshL, Md.isNew, outV, pureV, pureX, pure1, AV.cells, AV.one, storable, laid, refless,
              refless1, vload, loadC, storeC, vnil, vfaddr, vextract, flatT, flatE, flatC, vconv, vmm, vidxA, viaddrA, vfield, vlen, elemsOf, dF32, dF64, dI64, dU8, dBool, dStr,
              esOk, elemsS, vsliceX, bnd, ownV, ownC, Md.isOwn, pureV.pureP, Option.map, reduceIte, Nat.reduceEqDiff, Nat.reduceAdd, Nat.reduceMul, Nat.reduceLT, Nat.reduceLeDiff,
              List.mapM_cons, List.mapM_nil, Option.pure_def, Option.bind_eq_bind, Option.bind_some, implies_true, forall_const, beq_self_eq_true, decide_true, decide_false,
              eq_self, Int.reduceEq, Int.reduceLE, Int.reduceLT, if_true, if_false, fc48_0, fc48_1, fc48_2, fc48_3, fc48_4, fc48_5, fc48_6, fc48_7, fc48_8, fc48_9, fc48_10, fc48_11,
              fc48_12, fc48_13, fc48_14, fc48_15, fc48_16, fc48_17, fc48_18, fc48_19, fc48_20, fc48_21, fc48_22, fc48_23, fc48_24, fc48_25, fc48_26, fc48_27, fc48_28, fc48_29,
              fc48_30, fc48_31, fc48_32, fc48_33, fc48_34, fc48_35, fc48_36, fc48_37, fc48_38, fc48_39, fc48_40, fc48_41, fc48_42, fc48_43, fc48_44, fc48_45, fc48_46, fc48_47,
              fc48_48, fc48_49, fc48_50, fc48_51, fc48_52, fc48_53, fc48_54, fc48_55, fc48_56, fc48_57, fc48_58, fc48_59, fc48_60, fc48_61, fc48_62, fc48_63, fc48_64, fc48_65,
              fc48_66, fc48_67, fc48_68, fc48_69, fc48_70, fc48_71, Int.reduceAdd, Int.reduceSub, Int.reduceMul, Int.reduceNeg, Int.reducePow, Nat.reducePow, Int.reduceToNat,
              Nat.reduceSub, List.replicate, Nat.reduceBEq, grpE, grpC, en0, dc_en0, ↓b_pick, ePk_true, ePk_false]
    repeat' (first
      | ((first | (refine eGI_of (fun h => ?_) (fun h => ?_)) | (refine eCc_of (fun h => ?_) (fun h => ?_)) | (refine ePk_of (fun h => ?_) (fun h => ?_))) <;> (try simp only [Bool.not_eq_true', Bool.not_eq_false'] at h) <;> simp only [h,
        grpS, grpD, grpF, grpL, eop, vop, bop, uop, fltop, convop, endOk, newE, new1, freshL, Md.isNew, outV, pureV, pureX, pure1, AV.cells, AV.one, storable, laid, refless,
              refless1, vload, loadC, storeC, vnil, vfaddr, vextract, flatT, flatE, flatC, vconv, vmm, vidxA, viaddrA, vfield, vlen, elemsOf, dF32, dF64, dI64, dU8, dBool, dStr,
              esOk, elemsS, vsliceX, bnd, ownV, ownC, Md.isOwn, pureV.pureP, Option.map, reduceIte, Nat.reduceEqDiff, Nat.reduceAdd, Nat.reduceMul, Nat.reduceLT, Nat.reduceLeDiff,
              List.mapM_cons, List.mapM_nil, Option.pure_def, Option.bind_eq_bind, Option.bind_some, implies_true, forall_const, beq_self_eq_true, decide_true, decide_false,
              eq_self, Int.reduceEq, Int.reduceLE, Int.reduceLT, if_true, if_false, fc48_0, fc48_1, fc48_2, fc48_3, fc48_4, fc48_5, fc48_6, fc48_7, fc48_8, fc48_9, fc48_10, fc48_11,
              fc48_12, fc48_13, fc48_14, fc48_15, fc48_16, fc48_17, fc48_18, fc48_19, fc48_20, fc48_21, fc48_22, fc48_23, fc48_24, fc48_25, fc48_26, fc48_27, fc48_28, fc48_29,
              fc48_30, fc48_31, fc48_32, fc48_33, fc48_34, fc48_35, fc48_36, fc48_37, fc48_38, fc48_39, fc48_40, fc48_41, fc48_42, fc48_43, fc48_44, fc48_45, fc48_46, fc48_47,
              fc48_48, fc48_49, fc48_50, fc48_51, fc48_52, fc48_53, fc48_54, fc48_55, fc48_56, fc48_57, fc48_58, fc48_59, fc48_60, fc48_61, fc48_62, fc48_63, fc48_64, fc48_65,
              fc48_66, fc48_67, fc48_68, fc48_69, fc48_70, fc48_71, Int.reduceAdd, Int.reduceSub, Int.reduceMul, Int.reduceNeg, Int.reducePow, Nat.reducePow, Int.reduceToNat,
              Nat.reduceSub, List.replicate, Nat.reduceBEq, grpE, grpC, en0, dc_en0, ↓b_pick, ePk_true, ePk_false]))
    all_goals (try simp only [*, m_laws_sameFloat, Bool.and_true, Bool.true_and, Bool.and_false, Bool.false_and, Bool.or_true, Bool.true_or, Bool.or_false, Bool.false_or, Bool.not_true, Bool.not_false, Bool.false_eq_true, if_true, if_false, reduceIte, decide_true, decide_false])
    all_goals (try (simp_all; done))
  · cases h
def m_laws_eqVector (x0 : (Nat × Nat × Nat)) (x1 : (Nat × Nat × Nat)) : Bool := (if (m_laws_sameFloat (widen x0.1) (widen x1.1)) = true then (if (m_laws_sameFloat (widen x0.2.1)
      (widen x1.2.1)) = true then (if (m_laws_sameFloat (widen x0.2.2) (widen x1.2.2)) = true then true else false) else false) else false)
def g_laws_eqVector : List AV → Option AV
  | [.agg [.flt .f32 y0, .flt .f32 y1, .flt .f32 y2], .agg [.flt .f32 y3, .flt .f32 y4, .flt .f32 y5]] => some (.bool (m_laws_eqVector (y0,
      y1, y2) (y3, y4, y5)))
  | _ => none
def ic15 : ICode := (.seq (.reg [⟨(some 2), none, (.box 3 (.t 0))⟩, ⟨(some 3), none, (.box 3 (.t 1))⟩, ⟨(some 4), none, (.mov (.c (.bool false)))⟩] [2, 3]) (.seq (.seq (.reg [⟨(some
      5), none, (.faddr 0 (.t 2))⟩, ⟨(some 6), none, (.load none (.t 5))⟩, ⟨(some 7), none, (.conv (.flt .f64) (.t 6))⟩, ⟨(some 8), none, (.faddr 0 (.t 3))⟩, ⟨(some 9), none, (.load
      none (.t 8))⟩, ⟨(some 10), none, (.conv (.flt .f64) (.t 9))⟩, ⟨(some 11), none, (.call (.fn 48) [(.t 7), (.t 10)] [])⟩, ⟨(some 12), none, (.un .not (.t 11))⟩] [2, 3, 12])
      (.cond (.t 12) (.seq (.reg [⟨(some 4), none, (.mov (.c (.bool false)))⟩] [4]) .ret) .skip)) (.seq (.seq (.reg [⟨(some 13), none, (.faddr 1 (.t 2))⟩, ⟨(some 14), none, (.load
      none (.t 13))⟩, ⟨(some 15), none, (.conv (.flt .f64) (.t 14))⟩, ⟨(some 16), none, (.faddr 1 (.t 3))⟩, ⟨(some 17), none, (.load none (.t 16))⟩, ⟨(some 18), none, (.conv (.flt
      .f64) (.t 17))⟩, ⟨(some 19), none, (.call (.fn 48) [(.t 15), (.t 18)] [])⟩, ⟨(some 20), none, (.un .not (.t 19))⟩] [2, 3, 20]) (.cond (.t 20) (.seq (.reg [⟨(some 4), none,
      (.mov (.c (.bool false)))⟩] [4]) .ret) .skip)) (.seq (.seq (.reg [⟨(some 21), none, (.faddr 2 (.t 2))⟩, ⟨(some 22), none, (.load none (.t 21))⟩, ⟨(some 23), none, (.conv (.flt
      .f64) (.t 22))⟩, ⟨(some 24), none, (.faddr 2 (.t 3))⟩, ⟨(some 25), none, (.load none (.t 24))⟩, ⟨(some 26), none, (.conv (.flt .f64) (.t 25))⟩, ⟨(some 27), none, (.call (.fn
      48) [(.t 23), (.t 26)] [])⟩, ⟨(some 28), none, (.un .not (.t 27))⟩] [28]) (.cond (.t 28) (.seq (.reg [⟨(some 4), none, (.mov (.c (.bool false)))⟩] [4]) .ret) .skip)) (.seq
      (.reg [⟨(some 4), none, (.mov (.c (.bool true)))⟩] [4]) .ret)))))
def cp15 : CP := { n := 29, kp := [[2, 3], [2, 3, 12], [4], [2, 3, 20], [4], [28], [4], [4]] }
theorem fc15_0 : IntKind.wrap .i64 0 = 0 := by decide
theorem fc15_1 : IntKind.wrap .i64 1 = 1 := by decide
theorem fc15_2 : IntKind.wrap .i64 10 = 10 := by decide
theorem fc15_3 : IntKind.wrap .i64 11 = 11 := by decide
theorem fc15_4 : IntKind.wrap .i64 12 = 12 := by decide
theorem fc15_5 : IntKind.wrap .i64 13 = 13 := by decide
theorem fc15_6 : IntKind.wrap .i64 14 = 14 := by decide
theorem fc15_7 : IntKind.wrap .i64 15 = 15 := by decide
theorem fc15_8 : IntKind.wrap .i64 16 = 16 := by decide
theorem fc15_9 : IntKind.wrap .i64 17 = 17 := by decide
theorem fc15_10 : IntKind.wrap .i64 18 = 18 := by decide
theorem fc15_11 : IntKind.wrap .i64 19 = 19 := by decide
theorem fc15_12 : IntKind.wrap .i64 2 = 2 := by decide
theorem fc15_13 : IntKind.wrap .i64 20 = 20 := by decide
theorem fc15_14 : IntKind.wrap .i64 21 = 21 := by decide
theorem fc15_15 : IntKind.wrap .i64 22 = 22 := by decide
theorem fc15_16 : IntKind.wrap .i64 23 = 23 := by decide
theorem fc15_17 : IntKind.wrap .i64 24 = 24 := by decide
theorem fc15_18 : IntKind.wrap .i64 25 = 25 := by decide
theorem fc15_19 : IntKind.wrap .i64 26 = 26 := by decide
theorem fc15_20 : IntKind.wrap .i64 27 = 27 := by decide
theorem fc15_21 : IntKind.wrap .i64 28 = 28 := by decide
theorem fc15_22 : IntKind.wrap .i64 29 = 29 := by decide
theorem fc15_23 : IntKind.wrap .i64 3 = 3 := by decide
theorem fc15_24 : IntKind.wrap .i64 30 = 30 := by decide
theorem fc15_25 : IntKind.wrap .i64 31 = 31 := by decide
theorem fc15_26 : IntKind.wrap .i64 32 = 32 := by decide
theorem fc15_27 : IntKind.wrap .i64 33 = 33 := by decide
theorem fc15_28 : IntKind.wrap .i64 34 = 34 := by decide
theorem fc15_29 : IntKind.wrap .i64 35 = 35 := by decide
theorem fc15_30 : IntKind.wrap .i64 36 = 36 := by decide
theorem fc15_31 : IntKind.wrap .i64 37 = 37 := by decide
theorem fc15_32 : IntKind.wrap .i64 38 = 38 := by decide
theorem fc15_33 : IntKind.wrap .i64 39 = 39 := by decide
theorem fc15_34 : IntKind.wrap .i64 4 = 4 := by decide
theorem fc15_35 : IntKind.wrap .i64 40 = 40 := by decide
theorem fc15_36 : IntKind.wrap .i64 41 = 41 := by decide
theorem fc15_37 : IntKind.wrap .i64 42 = 42 := by decide
theorem fc15_38 : IntKind.wrap .i64 43 = 43 := by decide
theorem fc15_39 : IntKind.wrap .i64 44 = 44 := by decide
theorem fc15_40 : IntKind.wrap .i64 45 = 45 := by decide
theorem fc15_41 : IntKind.wrap .i64 46 = 46 := by decide
theorem fc15_42 : IntKind.wrap .i64 47 = 47 := by decide
theorem fc15_43 : IntKind.wrap .i64 48 = 48 := by decide
theorem fc15_44 : IntKind.wrap .i64 49 = 49 := by decide
theorem fc15_45 : IntKind.wrap .i64 5 = 5 := by decide
theorem fc15_46 : IntKind.wrap .i64 50 = 50 := by decide
theorem fc15_47 : IntKind.wrap .i64 51 = 51 := by decide
theorem fc15_48 : IntKind.wrap .i64 52 = 52 := by decide
theorem fc15_49 : IntKind.wrap .i64 53 = 53 := by decide
theorem fc15_50 : IntKind.wrap .i64 54 = 54 := by decide
theorem fc15_51 : IntKind.wrap .i64 55 = 55 := by decide
theorem fc15_52 : IntKind.wrap .i64 56 = 56 := by decide
theorem fc15_53 : IntKind.wrap .i64 57 = 57 := by decide
theorem fc15_54 : IntKind.wrap .i64 58 = 58 := by decide
theorem fc15_55 : IntKind.wrap .i64 59 = 59 := by decide
theorem fc15_56 : IntKind.wrap .i64 6 = 6 := by decide
theorem fc15_57 : IntKind.wrap .i64 60 = 60 := by decide
theorem fc15_58 : IntKind.wrap .i64 61 = 61 := by decide
theorem fc15_59 : IntKind.wrap .i64 62 = 62 := by decide
theorem fc15_60 : IntKind.wrap .i64 63 = 63 := by decide
theorem fc15_61 : IntKind.wrap .i64 64 = 64 := by decide
theorem fc15_62 : IntKind.wrap .i64 65 = 65 := by decide
theorem fc15_63 : IntKind.wrap .i64 66 = 66 := by decide
theorem fc15_64 : IntKind.wrap .i64 67 = 67 := by decide
theorem fc15_65 : IntKind.wrap .i64 68 = 68 := by decide
theorem fc15_66 : IntKind.wrap .i64 69 = 69 := by decide
theorem fc15_67 : IntKind.wrap .i64 7 = 7 := by decide
theorem fc15_68 : IntKind.wrap .i64 70 = 70 := by decide
theorem fc15_69 : IntKind.wrap .i64 71 = 71 := by decide
theorem fc15_70 : IntKind.wrap .i64 8 = 8 := by decide
theorem fc15_71 : IntKind.wrap .i64 9 = 9 := by decide
theorem s15 : ∀ vs r, g_laws_eqVector vs = some r → SaysM Try.prog .any 15 vs r := by
  intro vs r h
  unfold g_laws_eqVector at h
  split at h
  · rename_i y0 y1 y2 y3 y4 y5
    cases h
    refine spec_of (m := .any) (tab := tabOf [(48, .any, g_laws_sameFloat)]) (cp := cp15) (ic := ic15) (rvl := [(.t 4)]) hm (tabOk_cons (m := .any) s48 tabOk_nil) Try.func15 rfl rfl rfl (by kernel_rfl) rfl (Nat.le_of_ble_eq_true rfl) (Nat.le_of_ble_eq_true rfl) ?_
    show eA _ _ _ _
    unfold ic15
    simp only [
        grpS, grpD, grpF, grpL, eop, vop, bop, uop, fltop, convop, endOk, newE, new1, freshL, Md.isNew, outV, pureV, pureX, pure1, AV.cells, AV.one, storable, laid, refless,
              refless1, vload, loadC, storeC, vnil, vfaddr, vextract, flatT, flatE, flatC, vconv, vmm, vidxA, viaddrA, vfield, vlen, elemsOf, dF32, dF64, dI64, dU8, dBool, dStr,
              esOk, elemsS, vsliceX, bnd, ownV, ownC, Md.isOwn, pureV.pureP, Option.map, reduceIte, Nat.reduceEqDiff, Nat.reduceAdd, Nat.reduceMul, Nat.reduceLT, Nat.reduceLeDiff,
              List.mapM_cons, List.mapM_nil, Option.pure_def, Option.bind_eq_bind, Option.bind_some, implies_true, forall_const, beq_self_eq_true, decide_true, decide_false,
              eq_self, Int.reduceEq, Int.reduceLE, Int.reduceLT, if_true, if_false, fc15_0, fc15_1, fc15_2, fc15_3, fc15_4, fc15_5, fc15_6, fc15_7, fc15_8, fc15_9, fc15_10, fc15_11,
              fc15_12, fc15_13, fc15_14, fc15_15, fc15_16, fc15_17, fc15_18, fc15_19, fc15_20, fc15_21, fc15_22, fc15_23, fc15_24, fc15_25, fc15_26, fc15_27, fc15_28, fc15_29,
              fc15_30, fc15_31, fc15_32, fc15_33, fc15_34, fc15_35, fc15_36, fc15_37, fc15_38, fc15_39, fc15_40, fc15_41, fc15_42, fc15_43, fc15_44, fc15_45, fc15_46, fc15_47,
              fc15_48, fc15_49, fc15_50, fc15_51, fc15_52, fc15_53, fc15_54, fc15_55, fc15_56, fc15_57, fc15_58, fc15_59, fc15_60, fc15_61, fc15_62, fc15_63, fc15_64, fc15_65,
              fc15_66, fc15_67, fc15_68, fc15_69, fc15_70, fc15_71, Int.reduceAdd, Int.reduceSub, Int.reduceMul, Int.reduceNeg, Int.reducePow, Nat.reducePow, Int.reduceToNat,
              Nat.reduceSub, List.replicate, Nat.reduceBEq, grpE, g_laws_sameFloat, grpC, en0, dc_en0]
    repeat' (first
      | ((first | (refine eGI_of (fun h => ?_) (fun h => ?_)) | (refine eCc_of (fun h => ?_) (fun h => ?_))) <;> (try simp only [Bool.not_eq_true', Bool.not_eq_false'] at h) <;> simp only [h,
        grpS, grpD, grpF, grpL, eop, vop, bop, uop, fltop, convop, endOk, newE, new1, freshL, Md.isNew, outV, pureV, pureX, pure1, AV.cells, AV.one, storable, laid, refless,
              refless1, vload, loadC, storeC, vnil, vfaddr, vextract, flatT, flatE, flatC, vconv, vmm, vidxA, viaddrA, vfield, vlen, elemsOf, dF32, dF64, dI64, dU8, dBool, dStr,
              esOk, elemsS, vsliceX, bnd, ownV, ownC, Md.isOwn, pureV.pureP, Option.map, reduceIte, Nat.reduceEqDiff, Nat.reduceAdd, Nat.reduceMul, Nat.reduceLT, Nat.reduceLeDiff,
              List.mapM_cons, List.mapM_nil, Option.pure_def, Option.bind_eq_bind, Option.bind_some, implies_true, forall_const, beq_self_eq_true, decide_true, decide_false,
              eq_self, Int.reduceEq, Int.reduceLE, Int.reduceLT, if_true, if_false, fc15_0, fc15_1, fc15_2, fc15_3, fc15_4, fc15_5, fc15_6, fc15_7, fc15_8, fc15_9, fc15_10, fc15_11,
              fc15_12, fc15_13, fc15_14, fc15_15, fc15_16, fc15_17, fc15_18, fc15_19, fc15_20, fc15_21, fc15_22, fc15_23, fc15_24, fc15_25, fc15_26, fc15_27, fc15_28, fc15_29,
              fc15_30, fc15_31, fc15_32, fc15_33, fc15_34, fc15_35, fc15_36, fc15_37, fc15_38, fc15_39, fc15_40, fc15_41, fc15_42, fc15_43, fc15_44, fc15_45, fc15_46, fc15_47,
              fc15_48, fc15_49, fc15_50, fc15_51, fc15_52, fc15_53, fc15_54, fc15_55, fc15_56, fc15_57, fc15_58, fc15_59, fc15_60, fc15_61, fc15_62, fc15_63, fc15_64, fc15_65,
              fc15_66, fc15_67, fc15_68, fc15_69, fc15_70, fc15_71, Int.reduceAdd, Int.reduceSub, Int.reduceMul, Int.reduceNeg, Int.reducePow, Nat.reducePow, Int.reduceToNat,
              Nat.reduceSub, List.replicate, Nat.reduceBEq, grpE, g_laws_sameFloat, grpC, en0, dc_en0]))
    all_goals (try simp only [*, m_laws_eqVector, Bool.and_true, Bool.true_and, Bool.and_false, Bool.false_and, Bool.or_true, Bool.true_or, Bool.or_false, Bool.false_or, Bool.not_true, Bool.not_false, Bool.false_eq_true, if_true, if_false, reduceIte, decide_true, decide_false])
    all_goals (try (simp_all; done))
  · cases h
def m_laws_eqBone (x0 : (Int × Nat × Nat × Nat)) (x1 : (Int × Nat × Nat × Nat)) : Bool := (if (decide (x0.1 = x1.1)) = true then (if (m_laws_eqVector (x0.2.1, x0.2.2.1, x0.2.2.2)
      (x1.2.1, x1.2.2.1, x1.2.2.2)) = true then true else false) else false)
def g_laws_eqBone : List AV → Option AV
  | [.agg [.int .i64 y0, .flt .f32 y1, .flt .f32 y2, .flt .f32 y3], .agg [.int .i64 y4, .flt .f32 y5, .flt .f32 y6, .flt .f32 y7]] => some
      (.bool (m_laws_eqBone (y0, y1, y2, y3) (y4, y5, y6, y7)))
  | _ => none
def ic76 : ICode := (.seq (.reg [⟨(some 2), none, (.box 4 (.t 0))⟩, ⟨(some 3), none, (.box 4 (.t 1))⟩, ⟨(some 4), none, (.mov (.c (.bool false)))⟩] [2, 3]) (.seq (.seq (.reg [⟨(some
      5), none, (.faddr 0 (.t 2))⟩, ⟨(some 6), none, (.load none (.t 5))⟩, ⟨(some 7), none, (.faddr 0 (.t 3))⟩, ⟨(some 8), none, (.load none (.t 7))⟩, ⟨(some 9), none, (.bin .neq
      false (.t 6) (.t 8))⟩] [2, 3, 9]) (.cond (.t 9) (.seq (.reg [⟨(some 4), none, (.mov (.c (.bool false)))⟩] [4]) .ret) .skip)) (.seq (.seq (.reg [⟨(some 10), none, (.faddr 1 (.t
      2))⟩, ⟨(some 11), none, (.load (some 3) (.t 10))⟩, ⟨(some 12), none, (.faddr 1 (.t 3))⟩, ⟨(some 13), none, (.load (some 3) (.t 12))⟩, ⟨(some 14), none, (.call (.fn 15) [(.t
      11), (.t 13)] [])⟩, ⟨(some 15), none, (.un .not (.t 14))⟩] [15]) (.cond (.t 15) (.seq (.reg [⟨(some 4), none, (.mov (.c (.bool false)))⟩] [4]) .ret) .skip)) (.seq (.reg
      [⟨(some 4), none, (.mov (.c (.bool true)))⟩] [4]) .ret))))
def cp76 : CP := { n := 16, kp := [[2, 3], [2, 3, 9], [4], [15], [4], [4]] }
theorem fc76_0 : IntKind.wrap .i64 0 = 0 := by decide
theorem fc76_1 : IntKind.wrap .i64 1 = 1 := by decide
theorem fc76_2 : IntKind.wrap .i64 10 = 10 := by decide
theorem fc76_3 : IntKind.wrap .i64 11 = 11 := by decide
theorem fc76_4 : IntKind.wrap .i64 12 = 12 := by decide
theorem fc76_5 : IntKind.wrap .i64 13 = 13 := by decide
theorem fc76_6 : IntKind.wrap .i64 14 = 14 := by decide
theorem fc76_7 : IntKind.wrap .i64 15 = 15 := by decide
theorem fc76_8 : IntKind.wrap .i64 16 = 16 := by decide
theorem fc76_9 : IntKind.wrap .i64 17 = 17 := by decide
theorem fc76_10 : IntKind.wrap .i64 18 = 18 := by decide
theorem fc76_11 : IntKind.wrap .i64 19 = 19 := by decide
theorem fc76_12 : IntKind.wrap .i64 2 = 2 := by decide
theorem fc76_13 : IntKind.wrap .i64 20 = 20 := by decide
theorem fc76_14 : IntKind.wrap .i64 21 = 21 := by decide
theorem fc76_15 : IntKind.wrap .i64 22 = 22 := by decide
theorem fc76_16 : IntKind.wrap .i64 23 = 23 := by decide
theorem fc76_17 : IntKind.wrap .i64 24 = 24 := by decide
theorem fc76_18 : IntKind.wrap .i64 25 = 25 := by decide
theorem fc76_19 : IntKind.wrap .i64 26 = 26 := by decide
theorem fc76_20 : IntKind.wrap .i64 27 = 27 := by decide
theorem fc76_21 : IntKind.wrap .i64 28 = 28 := by decide
theorem fc76_22 : IntKind.wrap .i64 29 = 29 := by decide
theorem fc76_23 : IntKind.wrap .i64 3 = 3 := by decide
theorem fc76_24 : IntKind.wrap .i64 30 = 30 := by decide
theorem fc76_25 : IntKind.wrap .i64 31 = 31 := by decide
theorem fc76_26 : IntKind.wrap .i64 32 = 32 := by decide
theorem fc76_27 : IntKind.wrap .i64 33 = 33 := by decide
theorem fc76_28 : IntKind.wrap .i64 34 = 34 := by decide
theorem fc76_29 : IntKind.wrap .i64 35 = 35 := by decide
theorem fc76_30 : IntKind.wrap .i64 36 = 36 := by decide
theorem fc76_31 : IntKind.wrap .i64 37 = 37 := by decide
theorem fc76_32 : IntKind.wrap .i64 38 = 38 := by decide
theorem fc76_33 : IntKind.wrap .i64 39 = 39 := by decide
theorem fc76_34 : IntKind.wrap .i64 4 = 4 := by decide
theorem fc76_35 : IntKind.wrap .i64 40 = 40 := by decide
theorem fc76_36 : IntKind.wrap .i64 41 = 41 := by decide
theorem fc76_37 : IntKind.wrap .i64 42 = 42 := by decide
theorem fc76_38 : IntKind.wrap .i64 43 = 43 := by decide
theorem fc76_39 : IntKind.wrap .i64 44 = 44 := by decide
theorem fc76_40 : IntKind.wrap .i64 45 = 45 := by decide
theorem fc76_41 : IntKind.wrap .i64 46 = 46 := by decide
theorem fc76_42 : IntKind.wrap .i64 47 = 47 := by decide
theorem fc76_43 : IntKind.wrap .i64 48 = 48 := by decide
theorem fc76_44 : IntKind.wrap .i64 49 = 49 := by decide
theorem fc76_45 : IntKind.wrap .i64 5 = 5 := by decide
theorem fc76_46 : IntKind.wrap .i64 50 = 50 := by decide
theorem fc76_47 : IntKind.wrap .i64 51 = 51 := by decide
theorem fc76_48 : IntKind.wrap .i64 52 = 52 := by decide
theorem fc76_49 : IntKind.wrap .i64 53 = 53 := by decide
theorem fc76_50 : IntKind.wrap .i64 54 = 54 := by decide
theorem fc76_51 : IntKind.wrap .i64 55 = 55 := by decide
theorem fc76_52 : IntKind.wrap .i64 56 = 56 := by decide
theorem fc76_53 : IntKind.wrap .i64 57 = 57 := by decide
theorem fc76_54 : IntKind.wrap .i64 58 = 58 := by decide
theorem fc76_55 : IntKind.wrap .i64 59 = 59 := by decide
theorem fc76_56 : IntKind.wrap .i64 6 = 6 := by decide
theorem fc76_57 : IntKind.wrap .i64 60 = 60 := by decide
theorem fc76_58 : IntKind.wrap .i64 61 = 61 := by decide
theorem fc76_59 : IntKind.wrap .i64 62 = 62 := by decide
theorem fc76_60 : IntKind.wrap .i64 63 = 63 := by decide
theorem fc76_61 : IntKind.wrap .i64 64 = 64 := by decide
theorem fc76_62 : IntKind.wrap .i64 65 = 65 := by decide
theorem fc76_63 : IntKind.wrap .i64 66 = 66 := by decide
theorem fc76_64 : IntKind.wrap .i64 67 = 67 := by decide
theorem fc76_65 : IntKind.wrap .i64 68 = 68 := by decide
theorem fc76_66 : IntKind.wrap .i64 69 = 69 := by decide
theorem fc76_67 : IntKind.wrap .i64 7 = 7 := by decide
theorem fc76_68 : IntKind.wrap .i64 70 = 70 := by decide
theorem fc76_69 : IntKind.wrap .i64 71 = 71 := by decide
theorem fc76_70 : IntKind.wrap .i64 8 = 8 := by decide
theorem fc76_71 : IntKind.wrap .i64 9 = 9 := by decide
theorem s76 : ∀ vs r, g_laws_eqBone vs = some r → SaysM Try.prog .any 76 vs r := by
  intro vs r h
  unfold g_laws_eqBone at h
  split at h
  · rename_i y0 y1 y2 y3 y4 y5 y6 y7
    cases h
    refine spec_of (m := .any) (tab := tabOf [(15, .any, g_laws_eqVector)]) (cp := cp76) (ic := ic76) (rvl := [(.t 4)]) hm (tabOk_cons (m := .any) s15 tabOk_nil) Try.func76 rfl rfl rfl (by kernel_rfl) rfl (Nat.le_of_ble_eq_true rfl) (Nat.le_of_ble_eq_true rfl) ?_
    show eA _ _ _ _
    unfold ic76
    simp only [
        grpS, grpD, grpF, grpL, eop, vop, bop, uop, fltop, convop, endOk, newE, new1, freshL, Md.isNew, outV, pureV, pureX, pure1, AV.cells, AV.one, storable, laid, refless,
              refless1, vload, loadC, storeC, vnil, vfaddr, vextract, flatT, flatE, flatC, vconv, vmm, vidxA, viaddrA, vfield, vlen, elemsOf, dF32, dF64, dI64, dU8, dBool, dStr,
              esOk, elemsS, vsliceX, bnd, ownV, ownC, Md.isOwn, pureV.pureP, Option.map, reduceIte, Nat.reduceEqDiff, Nat.reduceAdd, Nat.reduceMul, Nat.reduceLT, Nat.reduceLeDiff,
              List.mapM_cons, List.mapM_nil, Option.pure_def, Option.bind_eq_bind, Option.bind_some, implies_true, forall_const, beq_self_eq_true, decide_true, decide_false,
              eq_self, Int.reduceEq, Int.reduceLE, Int.reduceLT, if_true, if_false, fc76_0, fc76_1, fc76_2, fc76_3, fc76_4, fc76_5, fc76_6, fc76_7, fc76_8, fc76_9, fc76_10, fc76_11,
              fc76_12, fc76_13, fc76_14, fc76_15, fc76_16, fc76_17, fc76_18, fc76_19, fc76_20, fc76_21, fc76_22, fc76_23, fc76_24, fc76_25, fc76_26, fc76_27, fc76_28, fc76_29,
              fc76_30, fc76_31, fc76_32, fc76_33, fc76_34, fc76_35, fc76_36, fc76_37, fc76_38, fc76_39, fc76_40, fc76_41, fc76_42, fc76_43, fc76_44, fc76_45, fc76_46, fc76_47,
              fc76_48, fc76_49, fc76_50, fc76_51, fc76_52, fc76_53, fc76_54, fc76_55, fc76_56, fc76_57, fc76_58, fc76_59, fc76_60, fc76_61, fc76_62, fc76_63, fc76_64, fc76_65,
              fc76_66, fc76_67, fc76_68, fc76_69, fc76_70, fc76_71, Int.reduceAdd, Int.reduceSub, Int.reduceMul, Int.reduceNeg, Int.reducePow, Nat.reducePow, Int.reduceToNat,
              Nat.reduceSub, List.replicate, Nat.reduceBEq, grpE, g_laws_eqVector, grpC, en0, dc_en0]
    repeat' (first
      | ((first | (refine eGI_of (fun h => ?_) (fun h => ?_)) | (refine eCc_of (fun h => ?_) (fun h => ?_))) <;> (try simp only [Bool.not_eq_true', Bool.not_eq_false'] at h) <;> simp only [h,
        grpS, grpD, grpF, grpL, eop, vop, bop, uop, fltop, convop, endOk, newE, new1, freshL, Md.isNew, outV, pureV, pureX, pure1, AV.cells, AV.one, storable, laid, refless,
              refless1, vload, loadC, storeC, vnil, vfaddr, vextract, flatT, flatE, flatC, vconv, vmm, vidxA, viaddrA, vfield, vlen, elemsOf, dF32, dF64, dI64, dU8, dBool, dStr,
              esOk, elemsS, vsliceX, bnd, ownV, ownC, Md.isOwn, pureV.pureP, Option.map, reduceIte, Nat.reduceEqDiff, Nat.reduceAdd, Nat.reduceMul, Nat.reduceLT, Nat.reduceLeDiff,
              List.mapM_cons, List.mapM_nil, Option.pure_def, Option.bind_eq_bind, Option.bind_some, implies_true, forall_const, beq_self_eq_true, decide_true, decide_false,
              eq_self, Int.reduceEq, Int.reduceLE, Int.reduceLT, if_true, if_false, fc76_0, fc76_1, fc76_2, fc76_3, fc76_4, fc76_5, fc76_6, fc76_7, fc76_8, fc76_9, fc76_10, fc76_11,
              fc76_12, fc76_13, fc76_14, fc76_15, fc76_16, fc76_17, fc76_18, fc76_19, fc76_20, fc76_21, fc76_22, fc76_23, fc76_24, fc76_25, fc76_26, fc76_27, fc76_28, fc76_29,
              fc76_30, fc76_31, fc76_32, fc76_33, fc76_34, fc76_35, fc76_36, fc76_37, fc76_38, fc76_39, fc76_40, fc76_41, fc76_42, fc76_43, fc76_44, fc76_45, fc76_46, fc76_47,
              fc76_48, fc76_49, fc76_50, fc76_51, fc76_52, fc76_53, fc76_54, fc76_55, fc76_56, fc76_57, fc76_58, fc76_59, fc76_60, fc76_61, fc76_62, fc76_63, fc76_64, fc76_65,
              fc76_66, fc76_67, fc76_68, fc76_69, fc76_70, fc76_71, Int.reduceAdd, Int.reduceSub, Int.reduceMul, Int.reduceNeg, Int.reducePow, Nat.reducePow, Int.reduceToNat,
              Nat.reduceSub, List.replicate, Nat.reduceBEq, grpE, g_laws_eqVector, grpC, en0, dc_en0]))
    all_goals (try simp only [*, m_laws_eqBone, Bool.and_true, Bool.true_and, Bool.and_false, Bool.false_and, Bool.or_true, Bool.true_or, Bool.or_false, Bool.false_or, Bool.not_true, Bool.not_false, Bool.false_eq_true, if_true, if_false, reduceIte, decide_true, decide_false])
    all_goals (try (simp_all; done))
  · cases h
def l_laws_eqBoneS_0 (x0 : (List (Int × Nat × Nat × Nat))) (x1 : (List (Int × Nat × Nat × Nat))) : Nat → Int → Option (Bool × Bool × Unit)
  | 0, _ => none
  | n + 1, z0_0 => (if (decide (z0_0 < ((List.length x0 : Nat) : Int))) = true then (need (inB z0_0 (List.length x0)) (need (inB z0_0 (List.length x1)) (if (m_laws_eqBone (atI x0
        z0_0) (atI x1 z0_0)) = true then (l_laws_eqBoneS_0 x0 x1 n (IntKind.wrap .i64 (z0_0 + 1))) else (some (true, false, default))))) else (some (false, default, ())))
def m_laws_eqBoneS (x0 : (List (Int × Nat × Nat × Nat))) (x1 : (List (Int × Nat × Nat × Nat))) : Bool := (if (decide (((List.length x0 : Nat) : Int) = ((List.length x1 : Nat) :
      Int))) = true then (if (Option.getD (l_laws_eqBoneS_0 x0 x1 (Int.toNat (((List.length x0 : Nat) : Int) - 0) + 2) 0) default).1 = true then (Option.getD (l_laws_eqBoneS_0 x0 x1
      (Int.toNat (((List.length x0 : Nat) : Int) - 0) + 2) 0) default).2.1 else true) else false)
def p_laws_eqBoneS (x0 : (List (Int × Nat × Nat × Nat))) (x1 : (List (Int × Nat × Nat × Nat))) : Bool := (!(decide (((List.length x0 : Nat) : Int) = ((List.length x1 : Nat) : Int)))
      || (Option.isSome (l_laws_eqBoneS_0 x0 x1 (Int.toNat (((List.length x0 : Nat) : Int) - 0) + 2) 0)))
def g_laws_eqBoneS : List AV → Option AV
  | [.sl w0, .sl w1] => (match decL dc_en0 w0 with | some y0 => ((match decL dc_en0 w1 with | some y1 => (if p_laws_eqBoneS y0 y1 = true then some (.bool (m_laws_eqBoneS y0 y1)) else none) | none => none)) | none => none)
  | _ => none
def lb52_0 : ICode := (.seq (.seq (.reg [⟨(some 11), none, (.mov (.t 5))⟩, ⟨(some 12), none, (.mov (.t 0))⟩, ⟨(some 13), none, (.len false (.t 12))⟩, ⟨(some 14), none, (.bin .lss
      false (.t 11) (.t 13))⟩] [0, 1, 5, 14]) (.cond (.t 14) .skip (.exit 0))) (.seq (.block 1 (.seq (.reg [⟨(some 17), none, (.mov (.t 0))⟩, ⟨(some 18), none, (.mov (.t 5))⟩,
      ⟨(some 19), none, (.iaddrS 4 (.t 17) (.t 18))⟩, ⟨(some 20), none, (.load (some 4) (.t 19))⟩, ⟨(some 21), none, (.mov (.t 1))⟩, ⟨(some 22), none, (.mov (.t 5))⟩, ⟨(some 23),
      none, (.iaddrS 4 (.t 21) (.t 22))⟩, ⟨(some 24), none, (.load (some 4) (.t 23))⟩, ⟨(some 25), none, (.call (.fn 76) [(.t 20), (.t 24)] [])⟩, ⟨(some 26), none, (.un .not (.t
      25))⟩] [0, 1, 5, 26]) (.cond (.t 26) (.seq (.reg [⟨(some 4), none, (.mov (.c (.bool false)))⟩] [4]) .ret) .skip))) (.reg [⟨(some 15), none, (.mov (.t 5))⟩, ⟨(some 16), none,
      (.bin .add false (.t 15) (.c (.int .i64 1)))⟩, ⟨(some 5), none, (.mov (.t 16))⟩] [0, 1, 5])))
def ic52 : ICode := (.seq (.reg [⟨(some 4), none, (.mov (.c (.bool false)))⟩] [0, 1]) (.seq (.seq (.reg [⟨(some 6), none, (.mov (.t 0))⟩, ⟨(some 7), none, (.len false (.t 6))⟩,
      ⟨(some 8), none, (.mov (.t 1))⟩, ⟨(some 9), none, (.len false (.t 8))⟩, ⟨(some 10), none, (.bin .neq false (.t 7) (.t 9))⟩] [0, 1, 10]) (.cond (.t 10) (.seq (.reg [⟨(some 4),
      none, (.mov (.c (.bool false)))⟩] [4]) .ret) .skip)) (.seq (.seq (.reg [⟨(some 5), none, (.mov (.c (.int .i64 0)))⟩] [0, 1, 5]) (.block 0 (.loop lb52_0))) (.seq (.reg [⟨(some
      4), none, (.mov (.c (.bool true)))⟩] [4]) .ret))))
def cp52 : CP := { n := 27, kp := [[0, 1], [0, 1, 10], [4], [0, 1, 5], [0, 1, 5, 14], [0, 1, 5], [0, 1, 5, 26], [4], [4]] }
theorem fc52_0 : IntKind.wrap .i64 0 = 0 := by decide
theorem fc52_1 : IntKind.wrap .i64 1 = 1 := by decide
theorem fc52_2 : IntKind.wrap .i64 10 = 10 := by decide
theorem fc52_3 : IntKind.wrap .i64 11 = 11 := by decide
theorem fc52_4 : IntKind.wrap .i64 12 = 12 := by decide
theorem fc52_5 : IntKind.wrap .i64 13 = 13 := by decide
theorem fc52_6 : IntKind.wrap .i64 14 = 14 := by decide
theorem fc52_7 : IntKind.wrap .i64 15 = 15 := by decide
theorem fc52_8 : IntKind.wrap .i64 16 = 16 := by decide
theorem fc52_9 : IntKind.wrap .i64 17 = 17 := by decide
theorem fc52_10 : IntKind.wrap .i64 18 = 18 := by decide
theorem fc52_11 : IntKind.wrap .i64 19 = 19 := by decide
theorem fc52_12 : IntKind.wrap .i64 2 = 2 := by decide
theorem fc52_13 : IntKind.wrap .i64 20 = 20 := by decide
theorem fc52_14 : IntKind.wrap .i64 21 = 21 := by decide
theorem fc52_15 : IntKind.wrap .i64 22 = 22 := by decide
theorem fc52_16 : IntKind.wrap .i64 23 = 23 := by decide
theorem fc52_17 : IntKind.wrap .i64 24 = 24 := by decide
theorem fc52_18 : IntKind.wrap .i64 25 = 25 := by decide
theorem fc52_19 : IntKind.wrap .i64 26 = 26 := by decide
theorem fc52_20 : IntKind.wrap .i64 27 = 27 := by decide
theorem fc52_21 : IntKind.wrap .i64 28 = 28 := by decide
theorem fc52_22 : IntKind.wrap .i64 29 = 29 := by decide
theorem fc52_23 : IntKind.wrap .i64 3 = 3 := by decide
theorem fc52_24 : IntKind.wrap .i64 30 = 30 := by decide
theorem fc52_25 : IntKind.wrap .i64 31 = 31 := by decide
theorem fc52_26 : IntKind.wrap .i64 32 = 32 := by decide
theorem fc52_27 : IntKind.wrap .i64 33 = 33 := by decide
theorem fc52_28 : IntKind.wrap .i64 34 = 34 := by decide
theorem fc52_29 : IntKind.wrap .i64 35 = 35 := by decide
theorem fc52_30 : IntKind.wrap .i64 36 = 36 := by decide
theorem fc52_31 : IntKind.wrap .i64 37 = 37 := by decide
theorem fc52_32 : IntKind.wrap .i64 38 = 38 := by decide
theorem fc52_33 : IntKind.wrap .i64 39 = 39 := by decide
theorem fc52_34 : IntKind.wrap .i64 4 = 4 := by decide
theorem fc52_35 : IntKind.wrap .i64 40 = 40 := by decide
theorem fc52_36 : IntKind.wrap .i64 41 = 41 := by decide
theorem fc52_37 : IntKind.wrap .i64 42 = 42 := by decide
theorem fc52_38 : IntKind.wrap .i64 43 = 43 := by decide
theorem fc52_39 : IntKind.wrap .i64 44 = 44 := by decide
theorem fc52_40 : IntKind.wrap .i64 45 = 45 := by decide
theorem fc52_41 : IntKind.wrap .i64 46 = 46 := by decide
theorem fc52_42 : IntKind.wrap .i64 47 = 47 := by decide
theorem fc52_43 : IntKind.wrap .i64 48 = 48 := by decide
theorem fc52_44 : IntKind.wrap .i64 49 = 49 := by decide
theorem fc52_45 : IntKind.wrap .i64 5 = 5 := by decide
theorem fc52_46 : IntKind.wrap .i64 50 = 50 := by decide
theorem fc52_47 : IntKind.wrap .i64 51 = 51 := by decide
theorem fc52_48 : IntKind.wrap .i64 52 = 52 := by decide
theorem fc52_49 : IntKind.wrap .i64 53 = 53 := by decide
theorem fc52_50 : IntKind.wrap .i64 54 = 54 := by decide
theorem fc52_51 : IntKind.wrap .i64 55 = 55 := by decide
theorem fc52_52 : IntKind.wrap .i64 56 = 56 := by decide
theorem fc52_53 : IntKind.wrap .i64 57 = 57 := by decide
theorem fc52_54 : IntKind.wrap .i64 58 = 58 := by decide
theorem fc52_55 : IntKind.wrap .i64 59 = 59 := by decide
theorem fc52_56 : IntKind.wrap .i64 6 = 6 := by decide
theorem fc52_57 : IntKind.wrap .i64 60 = 60 := by decide
theorem fc52_58 : IntKind.wrap .i64 61 = 61 := by decide
theorem fc52_59 : IntKind.wrap .i64 62 = 62 := by decide
theorem fc52_60 : IntKind.wrap .i64 63 = 63 := by decide
theorem fc52_61 : IntKind.wrap .i64 64 = 64 := by decide
theorem fc52_62 : IntKind.wrap .i64 65 = 65 := by decide
theorem fc52_63 : IntKind.wrap .i64 66 = 66 := by decide
theorem fc52_64 : IntKind.wrap .i64 67 = 67 := by decide
theorem fc52_65 : IntKind.wrap .i64 68 = 68 := by decide
theorem fc52_66 : IntKind.wrap .i64 69 = 69 := by decide
theorem fc52_67 : IntKind.wrap .i64 7 = 7 := by decide
theorem fc52_68 : IntKind.wrap .i64 70 = 70 := by decide
theorem fc52_69 : IntKind.wrap .i64 71 = 71 := by decide
theorem fc52_70 : IntKind.wrap .i64 8 = 8 := by decide
theorem fc52_71 : IntKind.wrap .i64 9 = 9 := by decide
theorem sl52_0 (x0 : (List (Int × Nat × Nat × Nat))) (x1 : (List (Int × Nat × Nat × Nat))) : ∀ (n : Nat) (z0_0 : Int) (o : (Bool × Bool × Unit)) (K : IExit → St → Prop),
      l_laws_eqBoneS_0 x0 x1 n z0_0 = some o → (∀ st, o.1 = true → outM .any st [(.t 4)] = some (.bool o.2.1) → K .ret st) → (∀ st, o.1 = false → Wk st (⟨[], []⟩ : St) → K (.exit 0)
      st) → eA (tabOf [(76, .any, g_laws_eqBone)]) (.loop lb52_0) (⟨[(0, (.sl (List.map en0 x0))), (1, (.sl (List.map en0 x1))), (5, (.int .i64 z0_0))], []⟩ : St) K := by
  intro n
  induction n with
  | zero =>
    intro z0_0 o K h h0 h1
    simp only [l_laws_eqBoneS_0, reduceCtorEq] at h
  | succ n ih =>
    intro z0_0 o K h h0 h1
    refine eA_loop ?_
    unfold lb52_0
    unfold l_laws_eqBoneS_0 at h
    (try simp only [need_iff] at h)
    simp only [
      need_iff, h, grpS, grpD, grpF, grpL, eop, vop, bop, uop, fltop, convop, endOk, newE, new1, freshL, Md.isNew, outV, pureV, pureX, pure1, AV.cells, AV.one, storable, laid,
            refless, refless1, vload, loadC, storeC, vnil, vfaddr, vextract, flatT, flatE, flatC, vconv, vmm, vidxA, viaddrA, vfield, vlen, elemsOf, dF32, dF64, dI64, dU8, dBool,
            dStr, esOk, elemsS, vsliceX, bnd, ownV, ownC, Md.isOwn, pureV.pureP, Option.map, reduceIte, Nat.reduceEqDiff, Nat.reduceAdd, Nat.reduceMul, Nat.reduceLT,
            Nat.reduceLeDiff, List.mapM_cons, List.mapM_nil, Option.pure_def, Option.bind_eq_bind, Option.bind_some, implies_true, forall_const, beq_self_eq_true, decide_true,
            decide_false, eq_self, Int.reduceEq, Int.reduceLE, Int.reduceLT, if_true, if_false, fc52_0, fc52_1, fc52_2, fc52_3, fc52_4, fc52_5, fc52_6, fc52_7, fc52_8, fc52_9,
            fc52_10, fc52_11, fc52_12, fc52_13, fc52_14, fc52_15, fc52_16, fc52_17, fc52_18, fc52_19, fc52_20, fc52_21, fc52_22, fc52_23, fc52_24, fc52_25, fc52_26, fc52_27,
            fc52_28, fc52_29, fc52_30, fc52_31, fc52_32, fc52_33, fc52_34, fc52_35, fc52_36, fc52_37, fc52_38, fc52_39, fc52_40, fc52_41, fc52_42, fc52_43, fc52_44, fc52_45,
            fc52_46, fc52_47, fc52_48, fc52_49, fc52_50, fc52_51, fc52_52, fc52_53, fc52_54, fc52_55, fc52_56, fc52_57, fc52_58, fc52_59, fc52_60, fc52_61, fc52_62, fc52_63,
            fc52_64, fc52_65, fc52_66, fc52_67, fc52_68, fc52_69, fc52_70, fc52_71, Int.reduceAdd, Int.reduceSub, Int.reduceMul, Int.reduceNeg, Int.reducePow, Nat.reducePow,
            Int.reduceToNat, Nat.reduceSub, List.replicate, Nat.reduceBEq, grpE, g_laws_eqBone, grpC, en0, dc_en0]
    repeat' (first
      | ((first | (refine eGI_of (fun hc => ?_) (fun hc => ?_)) | (refine eCc_of (fun hc => ?_) (fun hc => ?_)) | (have hc := True.intro; refine KW_refl ?_)) <;> (try simp only [Bool.not_eq_true', Bool.not_eq_false'] at hc) <;> (try simp only [hc, need_iff, reduceCtorEq, Bool.not_eq_true', decide_eq_false_iff_not, Bool.not_true, Bool.not_false, Bool.false_or, Bool.true_or, Bool.true_and, Bool.false_and, Bool.and_eq_true, Bool.or_eq_true, if_true, if_false, reduceIte, Bool.false_eq_true, and_true, true_and, false_or, or_false, decide_eq_true_eq, not_false_eq_true, not_true_eq_false] at h) <;> (try (have hc2 := hc; simp only [decide_eq_true_eq, decide_eq_false_iff_not] at hc2; simp only [hc2, if_true, if_false, reduceCtorEq, Bool.not_eq_true', decide_eq_false_iff_not, Bool.not_true, Bool.not_false, Bool.false_or, Bool.true_or, Bool.true_and, Bool.false_and, Bool.and_eq_true, Bool.or_eq_true, if_true, if_false, reduceIte, Bool.false_eq_true, and_true, true_and, false_or, or_false, decide_eq_true_eq, not_false_eq_true, not_true_eq_false] at h)) <;> simp only [hc,
      need_iff, h, grpS, grpD, grpF, grpL, eop, vop, bop, uop, fltop, convop, endOk, newE, new1, freshL, Md.isNew, outV, pureV, pureX, pure1, AV.cells, AV.one, storable, laid,
            refless, refless1, vload, loadC, storeC, vnil, vfaddr, vextract, flatT, flatE, flatC, vconv, vmm, vidxA, viaddrA, vfield, vlen, elemsOf, dF32, dF64, dI64, dU8, dBool,
            dStr, esOk, elemsS, vsliceX, bnd, ownV, ownC, Md.isOwn, pureV.pureP, Option.map, reduceIte, Nat.reduceEqDiff, Nat.reduceAdd, Nat.reduceMul, Nat.reduceLT,
            Nat.reduceLeDiff, List.mapM_cons, List.mapM_nil, Option.pure_def, Option.bind_eq_bind, Option.bind_some, implies_true, forall_const, beq_self_eq_true, decide_true,
            decide_false, eq_self, Int.reduceEq, Int.reduceLE, Int.reduceLT, if_true, if_false, fc52_0, fc52_1, fc52_2, fc52_3, fc52_4, fc52_5, fc52_6, fc52_7, fc52_8, fc52_9,
            fc52_10, fc52_11, fc52_12, fc52_13, fc52_14, fc52_15, fc52_16, fc52_17, fc52_18, fc52_19, fc52_20, fc52_21, fc52_22, fc52_23, fc52_24, fc52_25, fc52_26, fc52_27,
            fc52_28, fc52_29, fc52_30, fc52_31, fc52_32, fc52_33, fc52_34, fc52_35, fc52_36, fc52_37, fc52_38, fc52_39, fc52_40, fc52_41, fc52_42, fc52_43, fc52_44, fc52_45,
            fc52_46, fc52_47, fc52_48, fc52_49, fc52_50, fc52_51, fc52_52, fc52_53, fc52_54, fc52_55, fc52_56, fc52_57, fc52_58, fc52_59, fc52_60, fc52_61, fc52_62, fc52_63,
            fc52_64, fc52_65, fc52_66, fc52_67, fc52_68, fc52_69, fc52_70, fc52_71, Int.reduceAdd, Int.reduceSub, Int.reduceMul, Int.reduceNeg, Int.reducePow, Nat.reducePow,
            Int.reduceToNat, Nat.reduceSub, List.replicate, Nat.reduceBEq, grpE, g_laws_eqBone, grpC, en0, dc_en0]))
    all_goals (repeat (replace h := And.right h))
    all_goals first
      | (refine eA_wk (wk_norm (ks := [0, 1, 5]) (ls := []) ?_) (eA_cast ?_ (ih _ _ _ h h0 h1)); (simp only [normOk, optIn, blkIn, nameIn,
      need_iff, h, grpS, grpD, grpF, grpL, eop, vop, bop, uop, fltop, convop, endOk, newE, new1, freshL, Md.isNew, outV, pureV, pureX, pure1, AV.cells, AV.one, storable, laid,
            refless, refless1, vload, loadC, storeC, vnil, vfaddr, vextract, flatT, flatE, flatC, vconv, vmm, vidxA, viaddrA, vfield, vlen, elemsOf, dF32, dF64, dI64, dU8, dBool,
            dStr, esOk, elemsS, vsliceX, bnd, ownV, ownC, Md.isOwn, pureV.pureP, Option.map, reduceIte, Nat.reduceEqDiff, Nat.reduceAdd, Nat.reduceMul, Nat.reduceLT,
            Nat.reduceLeDiff, List.mapM_cons, List.mapM_nil, Option.pure_def, Option.bind_eq_bind, Option.bind_some, implies_true, forall_const, beq_self_eq_true, decide_true,
            decide_false, eq_self, Int.reduceEq, Int.reduceLE, Int.reduceLT, if_true, if_false, fc52_0, fc52_1, fc52_2, fc52_3, fc52_4, fc52_5, fc52_6, fc52_7, fc52_8, fc52_9,
            fc52_10, fc52_11, fc52_12, fc52_13, fc52_14, fc52_15, fc52_16, fc52_17, fc52_18, fc52_19, fc52_20, fc52_21, fc52_22, fc52_23, fc52_24, fc52_25, fc52_26, fc52_27,
            fc52_28, fc52_29, fc52_30, fc52_31, fc52_32, fc52_33, fc52_34, fc52_35, fc52_36, fc52_37, fc52_38, fc52_39, fc52_40, fc52_41, fc52_42, fc52_43, fc52_44, fc52_45,
            fc52_46, fc52_47, fc52_48, fc52_49, fc52_50, fc52_51, fc52_52, fc52_53, fc52_54, fc52_55, fc52_56, fc52_57, fc52_58, fc52_59, fc52_60, fc52_61, fc52_62, fc52_63,
            fc52_64, fc52_65, fc52_66, fc52_67, fc52_68, fc52_69, fc52_70, fc52_71, Int.reduceAdd, Int.reduceSub, Int.reduceMul, Int.reduceNeg, Int.reducePow, Nat.reducePow,
            Int.reduceToNat, Nat.reduceSub, List.replicate, Nat.reduceBEq, grpE, g_laws_eqBone, grpC, en0, dc_en0] <;> rfl); (simp only [normS, List.map_append, List.length_append, List.map_set, List.length_set, List.map_replicate, List.length_replicate, List.map_nil, List.map_cons,
      need_iff, h, grpS, grpD, grpF, grpL, eop, vop, bop, uop, fltop, convop, endOk, newE, new1, freshL, Md.isNew, outV, pureV, pureX, pure1, AV.cells, AV.one, storable, laid,
            refless, refless1, vload, loadC, storeC, vnil, vfaddr, vextract, flatT, flatE, flatC, vconv, vmm, vidxA, viaddrA, vfield, vlen, elemsOf, dF32, dF64, dI64, dU8, dBool,
            dStr, esOk, elemsS, vsliceX, bnd, ownV, ownC, Md.isOwn, pureV.pureP, Option.map, reduceIte, Nat.reduceEqDiff, Nat.reduceAdd, Nat.reduceMul, Nat.reduceLT,
            Nat.reduceLeDiff, List.mapM_cons, List.mapM_nil, Option.pure_def, Option.bind_eq_bind, Option.bind_some, implies_true, forall_const, beq_self_eq_true, decide_true,
            decide_false, eq_self, Int.reduceEq, Int.reduceLE, Int.reduceLT, if_true, if_false, fc52_0, fc52_1, fc52_2, fc52_3, fc52_4, fc52_5, fc52_6, fc52_7, fc52_8, fc52_9,
            fc52_10, fc52_11, fc52_12, fc52_13, fc52_14, fc52_15, fc52_16, fc52_17, fc52_18, fc52_19, fc52_20, fc52_21, fc52_22, fc52_23, fc52_24, fc52_25, fc52_26, fc52_27,
            fc52_28, fc52_29, fc52_30, fc52_31, fc52_32, fc52_33, fc52_34, fc52_35, fc52_36, fc52_37, fc52_38, fc52_39, fc52_40, fc52_41, fc52_42, fc52_43, fc52_44, fc52_45,
            fc52_46, fc52_47, fc52_48, fc52_49, fc52_50, fc52_51, fc52_52, fc52_53, fc52_54, fc52_55, fc52_56, fc52_57, fc52_58, fc52_59, fc52_60, fc52_61, fc52_62, fc52_63,
            fc52_64, fc52_65, fc52_66, fc52_67, fc52_68, fc52_69, fc52_70, fc52_71, Int.reduceAdd, Int.reduceSub, Int.reduceMul, Int.reduceNeg, Int.reducePow, Nat.reducePow,
            Int.reduceToNat, Nat.reduceSub, List.replicate, Nat.reduceBEq, grpE, g_laws_eqBone, grpC, en0, dc_en0] <;> rfl))
      | (cases h; refine h0 _ rfl ?_; simp only [
      grpS, grpD, grpF, grpL, eop, vop, bop, uop, fltop, convop, endOk, newE, new1, freshL, Md.isNew, outV, pureV, pureX, pure1, AV.cells, AV.one, storable, laid, refless, refless1,
            vload, loadC, storeC, vnil, vfaddr, vextract, flatT, flatE, flatC, vconv, vmm, vidxA, viaddrA, vfield, vlen, elemsOf, dF32, dF64, dI64, dU8, dBool, dStr, esOk, elemsS,
            vsliceX, bnd, ownV, ownC, Md.isOwn, pureV.pureP, Option.map, reduceIte, Nat.reduceEqDiff, Nat.reduceAdd, Nat.reduceMul, Nat.reduceLT, Nat.reduceLeDiff, List.mapM_cons,
            List.mapM_nil, Option.pure_def, Option.bind_eq_bind, Option.bind_some, implies_true, forall_const, beq_self_eq_true, decide_true, decide_false, eq_self, Int.reduceEq,
            Int.reduceLE, Int.reduceLT, if_true, if_false, fc52_0, fc52_1, fc52_2, fc52_3, fc52_4, fc52_5, fc52_6, fc52_7, fc52_8, fc52_9, fc52_10, fc52_11, fc52_12, fc52_13,
            fc52_14, fc52_15, fc52_16, fc52_17, fc52_18, fc52_19, fc52_20, fc52_21, fc52_22, fc52_23, fc52_24, fc52_25, fc52_26, fc52_27, fc52_28, fc52_29, fc52_30, fc52_31,
            fc52_32, fc52_33, fc52_34, fc52_35, fc52_36, fc52_37, fc52_38, fc52_39, fc52_40, fc52_41, fc52_42, fc52_43, fc52_44, fc52_45, fc52_46, fc52_47, fc52_48, fc52_49,
            fc52_50, fc52_51, fc52_52, fc52_53, fc52_54, fc52_55, fc52_56, fc52_57, fc52_58, fc52_59, fc52_60, fc52_61, fc52_62, fc52_63, fc52_64, fc52_65, fc52_66, fc52_67,
            fc52_68, fc52_69, fc52_70, fc52_71, Int.reduceAdd, Int.reduceSub, Int.reduceMul, Int.reduceNeg, Int.reducePow, Nat.reducePow, Int.reduceToNat, Nat.reduceSub,
            List.replicate, Nat.reduceBEq, grpE, g_laws_eqBone, grpC, en0, dc_en0])
      | (cases h; refine h1 _ rfl (Wk.cast (wk_norm (ks := []) (ls := []) ?_) ?_); (simp only [normOk, optIn, blkIn, nameIn,
      grpS, grpD, grpF, grpL, eop, vop, bop, uop, fltop, convop, endOk, newE, new1, freshL, Md.isNew, outV, pureV, pureX, pure1, AV.cells, AV.one, storable, laid, refless, refless1,
            vload, loadC, storeC, vnil, vfaddr, vextract, flatT, flatE, flatC, vconv, vmm, vidxA, viaddrA, vfield, vlen, elemsOf, dF32, dF64, dI64, dU8, dBool, dStr, esOk, elemsS,
            vsliceX, bnd, ownV, ownC, Md.isOwn, pureV.pureP, Option.map, reduceIte, Nat.reduceEqDiff, Nat.reduceAdd, Nat.reduceMul, Nat.reduceLT, Nat.reduceLeDiff, List.mapM_cons,
            List.mapM_nil, Option.pure_def, Option.bind_eq_bind, Option.bind_some, implies_true, forall_const, beq_self_eq_true, decide_true, decide_false, eq_self, Int.reduceEq,
            Int.reduceLE, Int.reduceLT, if_true, if_false, fc52_0, fc52_1, fc52_2, fc52_3, fc52_4, fc52_5, fc52_6, fc52_7, fc52_8, fc52_9, fc52_10, fc52_11, fc52_12, fc52_13,
            fc52_14, fc52_15, fc52_16, fc52_17, fc52_18, fc52_19, fc52_20, fc52_21, fc52_22, fc52_23, fc52_24, fc52_25, fc52_26, fc52_27, fc52_28, fc52_29, fc52_30, fc52_31,
            fc52_32, fc52_33, fc52_34, fc52_35, fc52_36, fc52_37, fc52_38, fc52_39, fc52_40, fc52_41, fc52_42, fc52_43, fc52_44, fc52_45, fc52_46, fc52_47, fc52_48, fc52_49,
            fc52_50, fc52_51, fc52_52, fc52_53, fc52_54, fc52_55, fc52_56, fc52_57, fc52_58, fc52_59, fc52_60, fc52_61, fc52_62, fc52_63, fc52_64, fc52_65, fc52_66, fc52_67,
            fc52_68, fc52_69, fc52_70, fc52_71, Int.reduceAdd, Int.reduceSub, Int.reduceMul, Int.reduceNeg, Int.reducePow, Nat.reducePow, Int.reduceToNat, Nat.reduceSub,
            List.replicate, Nat.reduceBEq, grpE, g_laws_eqBone, grpC, en0, dc_en0] <;> rfl); (simp only [normS, List.map_append, List.length_append, List.map_set, List.length_set, List.map_replicate, List.length_replicate,
      grpS, grpD, grpF, grpL, eop, vop, bop, uop, fltop, convop, endOk, newE, new1, freshL, Md.isNew, outV, pureV, pureX, pure1, AV.cells, AV.one, storable, laid, refless, refless1,
            vload, loadC, storeC, vnil, vfaddr, vextract, flatT, flatE, flatC, vconv, vmm, vidxA, viaddrA, vfield, vlen, elemsOf, dF32, dF64, dI64, dU8, dBool, dStr, esOk, elemsS,
            vsliceX, bnd, ownV, ownC, Md.isOwn, pureV.pureP, Option.map, reduceIte, Nat.reduceEqDiff, Nat.reduceAdd, Nat.reduceMul, Nat.reduceLT, Nat.reduceLeDiff, List.mapM_cons,
            List.mapM_nil, Option.pure_def, Option.bind_eq_bind, Option.bind_some, implies_true, forall_const, beq_self_eq_true, decide_true, decide_false, eq_self, Int.reduceEq,
            Int.reduceLE, Int.reduceLT, if_true, if_false, fc52_0, fc52_1, fc52_2, fc52_3, fc52_4, fc52_5, fc52_6, fc52_7, fc52_8, fc52_9, fc52_10, fc52_11, fc52_12, fc52_13,
            fc52_14, fc52_15, fc52_16, fc52_17, fc52_18, fc52_19, fc52_20, fc52_21, fc52_22, fc52_23, fc52_24, fc52_25, fc52_26, fc52_27, fc52_28, fc52_29, fc52_30, fc52_31,
            fc52_32, fc52_33, fc52_34, fc52_35, fc52_36, fc52_37, fc52_38, fc52_39, fc52_40, fc52_41, fc52_42, fc52_43, fc52_44, fc52_45, fc52_46, fc52_47, fc52_48, fc52_49,
            fc52_50, fc52_51, fc52_52, fc52_53, fc52_54, fc52_55, fc52_56, fc52_57, fc52_58, fc52_59, fc52_60, fc52_61, fc52_62, fc52_63, fc52_64, fc52_65, fc52_66, fc52_67,
            fc52_68, fc52_69, fc52_70, fc52_71, Int.reduceAdd, Int.reduceSub, Int.reduceMul, Int.reduceNeg, Int.reducePow, Nat.reducePow, Int.reduceToNat, Nat.reduceSub,
            List.replicate, Nat.reduceBEq, grpE, g_laws_eqBone, grpC, en0, dc_en0] <;> rfl))
theorem s52 : ∀ vs r, g_laws_eqBoneS vs = some r → SaysM Try.prog .any 52 vs r := by
  intro vs r h
  unfold g_laws_eqBoneS at h
  split at h
  · rename_i w0 w1
    cases hd_y0 : decL dc_en0 w0 with
    | none => rw [hd_y0] at h; cases h
    | some y0 =>
    rw [hd_y0] at h
    obtain rfl := decL_inv dc_en0_inv hd_y0
    clear hd_y0
    dsimp only at h
    cases hd_y1 : decL dc_en0 w1 with
    | none => rw [hd_y1] at h; cases h
    | some y1 =>
    rw [hd_y1] at h
    obtain rfl := decL_inv dc_en0_inv hd_y1
    clear hd_y1
    dsimp only at h
    split at h
    · rename_i hp
      cases h
      refine spec_of (m := .any) (tab := tabOf [(76, .any, g_laws_eqBone)]) (cp := cp52) (ic := ic52) (rvl := [(.t 4)]) hm (tabOk_cons (m := .any) s76 tabOk_nil) Try.func52 rfl rfl rfl (by kernel_rfl) rfl (Nat.le_of_ble_eq_true rfl) (Nat.le_of_ble_eq_true rfl) ?_
      show eA _ _ _ _
      unfold ic52
      simp only [p_laws_eqBoneS, Bool.and_eq_true, Bool.or_eq_true, decide_eq_true_eq, Bool.not_eq_true', decide_eq_false_iff_not] at hp
      simp only [
          hp, grpS, grpD, grpF, grpL, eop, vop, bop, uop, fltop, convop, endOk, newE, new1, freshL, Md.isNew, outV, pureV, pureX, pure1, AV.cells, AV.one, storable, laid, refless,
                refless1, vload, loadC, storeC, vnil, vfaddr, vextract, flatT, flatE, flatC, vconv, vmm, vidxA, viaddrA, vfield, vlen, elemsOf, dF32, dF64, dI64, dU8, dBool, dStr,
                esOk, elemsS, vsliceX, bnd, ownV, ownC, Md.isOwn, pureV.pureP, Option.map, reduceIte, Nat.reduceEqDiff, Nat.reduceAdd, Nat.reduceMul, Nat.reduceLT, Nat.reduceLeDiff,
                List.mapM_cons, List.mapM_nil, Option.pure_def, Option.bind_eq_bind, Option.bind_some, implies_true, forall_const, beq_self_eq_true, decide_true, decide_false,
                eq_self, Int.reduceEq, Int.reduceLE, Int.reduceLT, if_true, if_false, fc52_0, fc52_1, fc52_2, fc52_3, fc52_4, fc52_5, fc52_6, fc52_7, fc52_8, fc52_9, fc52_10,
                fc52_11, fc52_12, fc52_13, fc52_14, fc52_15, fc52_16, fc52_17, fc52_18, fc52_19, fc52_20, fc52_21, fc52_22, fc52_23, fc52_24, fc52_25, fc52_26, fc52_27, fc52_28,
                fc52_29, fc52_30, fc52_31, fc52_32, fc52_33, fc52_34, fc52_35, fc52_36, fc52_37, fc52_38, fc52_39, fc52_40, fc52_41, fc52_42, fc52_43, fc52_44, fc52_45, fc52_46,
                fc52_47, fc52_48, fc52_49, fc52_50, fc52_51, fc52_52, fc52_53, fc52_54, fc52_55, fc52_56, fc52_57, fc52_58, fc52_59, fc52_60, fc52_61, fc52_62, fc52_63, fc52_64,
                fc52_65, fc52_66, fc52_67, fc52_68, fc52_69, fc52_70, fc52_71, Int.reduceAdd, Int.reduceSub, Int.reduceMul, Int.reduceNeg, Int.reducePow, Nat.reducePow,
                Int.reduceToNat, Nat.reduceSub, List.replicate, Nat.reduceBEq, grpE, g_laws_eqBone, grpC, en0, dc_en0]
      repeat' (first
        | ((first | (refine eGI_of (fun h => ?_) (fun h => ?_)) | (refine eCc_of (fun h => ?_) (fun h => ?_)) | (have h := True.intro; refine KW_refl ?_)) <;> (try simp only [Bool.not_eq_true', Bool.not_eq_false'] at h) <;> (try simp only [h, reduceCtorEq, Bool.not_eq_true', decide_eq_false_iff_not, Bool.not_true, Bool.not_false, Bool.false_or, Bool.true_or, Bool.true_and, Bool.false_and, Bool.and_eq_true, Bool.or_eq_true, if_true, if_false, reduceIte, Bool.false_eq_true, and_true, true_and, false_or, or_false, decide_eq_true_eq, not_false_eq_true, not_true_eq_false] at hp) <;> (try (have h2 := h; simp only [decide_eq_true_eq, decide_eq_false_iff_not] at h2; (first | (replace h2 := eq_false h2) | (replace h2 := eq_true h2)); simp only [h2, if_true, if_false, false_or, true_or, or_true, or_false, and_true, true_and, not_false_eq_true, not_true_eq_false] at hp)) <;> simp only [h,
          hp, grpS, grpD, grpF, grpL, eop, vop, bop, uop, fltop, convop, endOk, newE, new1, freshL, Md.isNew, outV, pureV, pureX, pure1, AV.cells, AV.one, storable, laid, refless,
                refless1, vload, loadC, storeC, vnil, vfaddr, vextract, flatT, flatE, flatC, vconv, vmm, vidxA, viaddrA, vfield, vlen, elemsOf, dF32, dF64, dI64, dU8, dBool, dStr,
                esOk, elemsS, vsliceX, bnd, ownV, ownC, Md.isOwn, pureV.pureP, Option.map, reduceIte, Nat.reduceEqDiff, Nat.reduceAdd, Nat.reduceMul, Nat.reduceLT, Nat.reduceLeDiff,
                List.mapM_cons, List.mapM_nil, Option.pure_def, Option.bind_eq_bind, Option.bind_some, implies_true, forall_const, beq_self_eq_true, decide_true, decide_false,
                eq_self, Int.reduceEq, Int.reduceLE, Int.reduceLT, if_true, if_false, fc52_0, fc52_1, fc52_2, fc52_3, fc52_4, fc52_5, fc52_6, fc52_7, fc52_8, fc52_9, fc52_10,
                fc52_11, fc52_12, fc52_13, fc52_14, fc52_15, fc52_16, fc52_17, fc52_18, fc52_19, fc52_20, fc52_21, fc52_22, fc52_23, fc52_24, fc52_25, fc52_26, fc52_27, fc52_28,
                fc52_29, fc52_30, fc52_31, fc52_32, fc52_33, fc52_34, fc52_35, fc52_36, fc52_37, fc52_38, fc52_39, fc52_40, fc52_41, fc52_42, fc52_43, fc52_44, fc52_45, fc52_46,
                fc52_47, fc52_48, fc52_49, fc52_50, fc52_51, fc52_52, fc52_53, fc52_54, fc52_55, fc52_56, fc52_57, fc52_58, fc52_59, fc52_60, fc52_61, fc52_62, fc52_63, fc52_64,
                fc52_65, fc52_66, fc52_67, fc52_68, fc52_69, fc52_70, fc52_71, Int.reduceAdd, Int.reduceSub, Int.reduceMul, Int.reduceNeg, Int.reducePow, Nat.reducePow,
                Int.reduceToNat, Nat.reduceSub, List.replicate, Nat.reduceBEq, grpE, g_laws_eqBone, grpC, en0, dc_en0])
        | (refine eA_wk (wk_norm (ks := [0, 1, 5]) (ls := []) ?_) (eA_cast ?_ (sl52_0 y0 y1 _ _ _ _ (getD_some (d := default) (x := (l_laws_eqBoneS_0 y0 y1 (Int.toNat (((List.length y0 : Nat) : Int) - 0) + 2) 0)) ?_) ?_ ?_)); (simp only [nilS, nilV, normOk, optIn, blkIn, nameIn, 
          hp, grpS, grpD, grpF, grpL, eop, vop, bop, uop, fltop, convop, endOk, newE, new1, freshL, Md.isNew, outV, pureV, pureX, pure1, AV.cells, AV.one, storable, laid, refless,
                refless1, vload, loadC, storeC, vnil, vfaddr, vextract, flatT, flatE, flatC, vconv, vmm, vidxA, viaddrA, vfield, vlen, elemsOf, dF32, dF64, dI64, dU8, dBool, dStr,
                esOk, elemsS, vsliceX, bnd, ownV, ownC, Md.isOwn, pureV.pureP, Option.map, reduceIte, Nat.reduceEqDiff, Nat.reduceAdd, Nat.reduceMul, Nat.reduceLT, Nat.reduceLeDiff,
                List.mapM_cons, List.mapM_nil, Option.pure_def, Option.bind_eq_bind, Option.bind_some, implies_true, forall_const, beq_self_eq_true, decide_true, decide_false,
                eq_self, Int.reduceEq, Int.reduceLE, Int.reduceLT, if_true, if_false, fc52_0, fc52_1, fc52_2, fc52_3, fc52_4, fc52_5, fc52_6, fc52_7, fc52_8, fc52_9, fc52_10,
                fc52_11, fc52_12, fc52_13, fc52_14, fc52_15, fc52_16, fc52_17, fc52_18, fc52_19, fc52_20, fc52_21, fc52_22, fc52_23, fc52_24, fc52_25, fc52_26, fc52_27, fc52_28,
                fc52_29, fc52_30, fc52_31, fc52_32, fc52_33, fc52_34, fc52_35, fc52_36, fc52_37, fc52_38, fc52_39, fc52_40, fc52_41, fc52_42, fc52_43, fc52_44, fc52_45, fc52_46,
                fc52_47, fc52_48, fc52_49, fc52_50, fc52_51, fc52_52, fc52_53, fc52_54, fc52_55, fc52_56, fc52_57, fc52_58, fc52_59, fc52_60, fc52_61, fc52_62, fc52_63, fc52_64,
                fc52_65, fc52_66, fc52_67, fc52_68, fc52_69, fc52_70, fc52_71, Int.reduceAdd, Int.reduceSub, Int.reduceMul, Int.reduceNeg, Int.reducePow, Nat.reducePow,
                Int.reduceToNat, Nat.reduceSub, List.replicate, Nat.reduceBEq, grpE, g_laws_eqBone, grpC, en0, dc_en0] <;> rfl); (simp only [nilS, nilV, normS,  List.map_append, List.length_append, List.map_set, List.length_set, List.map_replicate, List.length_replicate, List.map_nil, List.map_cons,
          hp, grpS, grpD, grpF, grpL, eop, vop, bop, uop, fltop, convop, endOk, newE, new1, freshL, Md.isNew, outV, pureV, pureX, pure1, AV.cells, AV.one, storable, laid, refless,
                refless1, vload, loadC, storeC, vnil, vfaddr, vextract, flatT, flatE, flatC, vconv, vmm, vidxA, viaddrA, vfield, vlen, elemsOf, dF32, dF64, dI64, dU8, dBool, dStr,
                esOk, elemsS, vsliceX, bnd, ownV, ownC, Md.isOwn, pureV.pureP, Option.map, reduceIte, Nat.reduceEqDiff, Nat.reduceAdd, Nat.reduceMul, Nat.reduceLT, Nat.reduceLeDiff,
                List.mapM_cons, List.mapM_nil, Option.pure_def, Option.bind_eq_bind, Option.bind_some, implies_true, forall_const, beq_self_eq_true, decide_true, decide_false,
                eq_self, Int.reduceEq, Int.reduceLE, Int.reduceLT, if_true, if_false, fc52_0, fc52_1, fc52_2, fc52_3, fc52_4, fc52_5, fc52_6, fc52_7, fc52_8, fc52_9, fc52_10,
                fc52_11, fc52_12, fc52_13, fc52_14, fc52_15, fc52_16, fc52_17, fc52_18, fc52_19, fc52_20, fc52_21, fc52_22, fc52_23, fc52_24, fc52_25, fc52_26, fc52_27, fc52_28,
                fc52_29, fc52_30, fc52_31, fc52_32, fc52_33, fc52_34, fc52_35, fc52_36, fc52_37, fc52_38, fc52_39, fc52_40, fc52_41, fc52_42, fc52_43, fc52_44, fc52_45, fc52_46,
                fc52_47, fc52_48, fc52_49, fc52_50, fc52_51, fc52_52, fc52_53, fc52_54, fc52_55, fc52_56, fc52_57, fc52_58, fc52_59, fc52_60, fc52_61, fc52_62, fc52_63, fc52_64,
                fc52_65, fc52_66, fc52_67, fc52_68, fc52_69, fc52_70, fc52_71, Int.reduceAdd, Int.reduceSub, Int.reduceMul, Int.reduceNeg, Int.reducePow, Nat.reducePow,
                Int.reduceToNat, Nat.reduceSub, List.replicate, Nat.reduceBEq, grpE, g_laws_eqBone, grpC, en0, dc_en0] <;> rfl); (simp only [hp]); (
        intro st2 ht hw; simp only [Kq_ret, Kb_ret, Kl_ret, ret_ok]; first | exact h0 _ hw | exact h0 _ rfl hw | exact h1 _ rfl hw | exact h0 _ ht hw | exact h1 _ ht hw | refine ⟨_, hw, ?_⟩); rotate_left; (
        intro st2 ht hw; (try simp only [ht, reduceCtorEq, Bool.not_eq_true', decide_eq_false_iff_not, Bool.not_true, Bool.not_false, Bool.false_or, Bool.true_or, Bool.true_and, Bool.false_and, Bool.and_eq_true, Bool.or_eq_true, if_true, if_false, reduceIte, Bool.false_eq_true, and_true, true_and, false_or, or_false, decide_eq_true_eq, not_false_eq_true, not_true_eq_false] at hp); simp only [
          hp, grpS, grpD, grpF, grpL, eop, vop, bop, uop, fltop, convop, endOk, newE, new1, freshL, Md.isNew, outV, pureV, pureX, pure1, AV.cells, AV.one, storable, laid, refless,
                refless1, vload, loadC, storeC, vnil, vfaddr, vextract, flatT, flatE, flatC, vconv, vmm, vidxA, viaddrA, vfield, vlen, elemsOf, dF32, dF64, dI64, dU8, dBool, dStr,
                esOk, elemsS, vsliceX, bnd, ownV, ownC, Md.isOwn, pureV.pureP, Option.map, reduceIte, Nat.reduceEqDiff, Nat.reduceAdd, Nat.reduceMul, Nat.reduceLT, Nat.reduceLeDiff,
                List.mapM_cons, List.mapM_nil, Option.pure_def, Option.bind_eq_bind, Option.bind_some, implies_true, forall_const, beq_self_eq_true, decide_true, decide_false,
                eq_self, Int.reduceEq, Int.reduceLE, Int.reduceLT, if_true, if_false, fc52_0, fc52_1, fc52_2, fc52_3, fc52_4, fc52_5, fc52_6, fc52_7, fc52_8, fc52_9, fc52_10,
                fc52_11, fc52_12, fc52_13, fc52_14, fc52_15, fc52_16, fc52_17, fc52_18, fc52_19, fc52_20, fc52_21, fc52_22, fc52_23, fc52_24, fc52_25, fc52_26, fc52_27, fc52_28,
                fc52_29, fc52_30, fc52_31, fc52_32, fc52_33, fc52_34, fc52_35, fc52_36, fc52_37, fc52_38, fc52_39, fc52_40, fc52_41, fc52_42, fc52_43, fc52_44, fc52_45, fc52_46,
                fc52_47, fc52_48, fc52_49, fc52_50, fc52_51, fc52_52, fc52_53, fc52_54, fc52_55, fc52_56, fc52_57, fc52_58, fc52_59, fc52_60, fc52_61, fc52_62, fc52_63, fc52_64,
                fc52_65, fc52_66, fc52_67, fc52_68, fc52_69, fc52_70, fc52_71, Int.reduceAdd, Int.reduceSub, Int.reduceMul, Int.reduceNeg, Int.reducePow, Nat.reducePow,
                Int.reduceToNat, Nat.reduceSub, List.replicate, Nat.reduceBEq, grpE, g_laws_eqBone, grpC, en0, dc_en0]; refine KW_of hw ?_; simp only [ht, 
          hp, grpS, grpD, grpF, grpL, eop, vop, bop, uop, fltop, convop, endOk, newE, new1, freshL, Md.isNew, outV, pureV, pureX, pure1, AV.cells, AV.one, storable, laid, refless,
                refless1, vload, loadC, storeC, vnil, vfaddr, vextract, flatT, flatE, flatC, vconv, vmm, vidxA, viaddrA, vfield, vlen, elemsOf, dF32, dF64, dI64, dU8, dBool, dStr,
                esOk, elemsS, vsliceX, bnd, ownV, ownC, Md.isOwn, pureV.pureP, Option.map, reduceIte, Nat.reduceEqDiff, Nat.reduceAdd, Nat.reduceMul, Nat.reduceLT, Nat.reduceLeDiff,
                List.mapM_cons, List.mapM_nil, Option.pure_def, Option.bind_eq_bind, Option.bind_some, implies_true, forall_const, beq_self_eq_true, decide_true, decide_false,
                eq_self, Int.reduceEq, Int.reduceLE, Int.reduceLT, if_true, if_false, fc52_0, fc52_1, fc52_2, fc52_3, fc52_4, fc52_5, fc52_6, fc52_7, fc52_8, fc52_9, fc52_10,
                fc52_11, fc52_12, fc52_13, fc52_14, fc52_15, fc52_16, fc52_17, fc52_18, fc52_19, fc52_20, fc52_21, fc52_22, fc52_23, fc52_24, fc52_25, fc52_26, fc52_27, fc52_28,
                fc52_29, fc52_30, fc52_31, fc52_32, fc52_33, fc52_34, fc52_35, fc52_36, fc52_37, fc52_38, fc52_39, fc52_40, fc52_41, fc52_42, fc52_43, fc52_44, fc52_45, fc52_46,
                fc52_47, fc52_48, fc52_49, fc52_50, fc52_51, fc52_52, fc52_53, fc52_54, fc52_55, fc52_56, fc52_57, fc52_58, fc52_59, fc52_60, fc52_61, fc52_62, fc52_63, fc52_64,
                fc52_65, fc52_66, fc52_67, fc52_68, fc52_69, fc52_70, fc52_71, Int.reduceAdd, Int.reduceSub, Int.reduceMul, Int.reduceNeg, Int.reducePow, Nat.reducePow,
                Int.reduceToNat, Nat.reduceSub, List.replicate, Nat.reduceBEq, grpE, g_laws_eqBone, grpC, en0, dc_en0])))
      all_goals (try simp only [*, m_laws_eqBoneS, Bool.and_true, Bool.true_and, Bool.and_false, Bool.false_and, Bool.or_true, Bool.true_or, Bool.or_false, Bool.false_or, Bool.not_true, Bool.not_false, Bool.false_eq_true, if_true, if_false, reduceIte, decide_true, decide_false])
      all_goals (try (simp_all; done))
    · cases h
  · cases h
def m_laws_eqSkeleton (x0 : (List (Int × Nat × Nat × Nat))) (x1 : (List (Int × Nat × Nat × Nat))) : Bool := (if (m_laws_eqBoneS x0 x1) = true then true else false)
def p_laws_eqSkeleton (x0 : (List (Int × Nat × Nat × Nat))) (x1 : (List (Int × Nat × Nat × Nat))) : Bool := (p_laws_eqBoneS x0 x1)
def g_laws_eqSkeleton : List AV → Option AV
  | [.agg [.sl w0], .agg [.sl w1]] => (match decL dc_en0 w0 with | some y0 => ((match decL dc_en0 w1 with | some y1 => (if p_laws_eqSkeleton y0 y1 = true then some (.bool (m_laws_eqSkeleton y0 y1)) else none) | none => none)) | none => none)
  | _ => none
def ic21 : ICode := (.seq (.reg [⟨(some 2), none, (.box 1 (.t 0))⟩, ⟨(some 3), none, (.box 1 (.t 1))⟩, ⟨(some 4), none, (.mov (.c (.bool false)))⟩] [2, 3]) (.seq (.seq (.reg [⟨(some
      5), none, (.faddr 0 (.t 2))⟩, ⟨(some 6), none, (.load none (.t 5))⟩, ⟨(some 7), none, (.faddr 0 (.t 3))⟩, ⟨(some 8), none, (.load none (.t 7))⟩, ⟨(some 9), none, (.call (.fn
      52) [(.t 6), (.t 8)] [])⟩, ⟨(some 10), none, (.un .not (.t 9))⟩] [10]) (.cond (.t 10) (.seq (.reg [⟨(some 4), none, (.mov (.c (.bool false)))⟩] [4]) .ret) .skip)) (.seq (.reg
      [⟨(some 4), none, (.mov (.c (.bool true)))⟩] [4]) .ret)))
def cp21 : CP := { n := 11, kp := [[2, 3], [10], [4], [4]] }
theorem fc21_0 : IntKind.wrap .i64 0 = 0 := by decide
theorem fc21_1 : IntKind.wrap .i64 1 = 1 := by decide
theorem fc21_2 : IntKind.wrap .i64 10 = 10 := by decide
theorem fc21_3 : IntKind.wrap .i64 11 = 11 := by decide
theorem fc21_4 : IntKind.wrap .i64 12 = 12 := by decide
theorem fc21_5 : IntKind.wrap .i64 13 = 13 := by decide
theorem fc21_6 : IntKind.wrap .i64 14 = 14 := by decide
theorem fc21_7 : IntKind.wrap .i64 15 = 15 := by decide
theorem fc21_8 : IntKind.wrap .i64 16 = 16 := by decide
theorem fc21_9 : IntKind.wrap .i64 17 = 17 := by decide
theorem fc21_10 : IntKind.wrap .i64 18 = 18 := by decide
theorem fc21_11 : IntKind.wrap .i64 19 = 19 := by decide
theorem fc21_12 : IntKind.wrap .i64 2 = 2 := by decide
theorem fc21_13 : IntKind.wrap .i64 20 = 20 := by decide
theorem fc21_14 : IntKind.wrap .i64 21 = 21 := by decide
theorem fc21_15 : IntKind.wrap .i64 22 = 22 := by decide
theorem fc21_16 : IntKind.wrap .i64 23 = 23 := by decide
theorem fc21_17 : IntKind.wrap .i64 24 = 24 := by decide
theorem fc21_18 : IntKind.wrap .i64 25 = 25 := by decide
theorem fc21_19 : IntKind.wrap .i64 26 = 26 := by decide
theorem fc21_20 : IntKind.wrap .i64 27 = 27 := by decide
theorem fc21_21 : IntKind.wrap .i64 28 = 28 := by decide
theorem fc21_22 : IntKind.wrap .i64 29 = 29 := by decide
theorem fc21_23 : IntKind.wrap .i64 3 = 3 := by decide
theorem fc21_24 : IntKind.wrap .i64 30 = 30 := by decide
theorem fc21_25 : IntKind.wrap .i64 31 = 31 := by decide
theorem fc21_26 : IntKind.wrap .i64 32 = 32 := by decide
theorem fc21_27 : IntKind.wrap .i64 33 = 33 := by decide
theorem fc21_28 : IntKind.wrap .i64 34 = 34 := by decide
theorem fc21_29 : IntKind.wrap .i64 35 = 35 := by decide
theorem fc21_30 : IntKind.wrap .i64 36 = 36 := by decide
theorem fc21_31 : IntKind.wrap .i64 37 = 37 := by decide
theorem fc21_32 : IntKind.wrap .i64 38 = 38 := by decide
theorem fc21_33 : IntKind.wrap .i64 39 = 39 := by decide
theorem fc21_34 : IntKind.wrap .i64 4 = 4 := by decide
theorem fc21_35 : IntKind.wrap .i64 40 = 40 := by decide
theorem fc21_36 : IntKind.wrap .i64 41 = 41 := by decide
theorem fc21_37 : IntKind.wrap .i64 42 = 42 := by decide
theorem fc21_38 : IntKind.wrap .i64 43 = 43 := by decide
theorem fc21_39 : IntKind.wrap .i64 44 = 44 := by decide
theorem fc21_40 : IntKind.wrap .i64 45 = 45 := by decide
theorem fc21_41 : IntKind.wrap .i64 46 = 46 := by decide
theorem fc21_42 : IntKind.wrap .i64 47 = 47 := by decide
theorem fc21_43 : IntKind.wrap .i64 48 = 48 := by decide
theorem fc21_44 : IntKind.wrap .i64 49 = 49 := by decide
theorem fc21_45 : IntKind.wrap .i64 5 = 5 := by decide
theorem fc21_46 : IntKind.wrap .i64 50 = 50 := by decide
theorem fc21_47 : IntKind.wrap .i64 51 = 51 := by decide
theorem fc21_48 : IntKind.wrap .i64 52 = 52 := by decide
theorem fc21_49 : IntKind.wrap .i64 53 = 53 := by decide
theorem fc21_50 : IntKind.wrap .i64 54 = 54 := by decide
theorem fc21_51 : IntKind.wrap .i64 55 = 55 := by decide
theorem fc21_52 : IntKind.wrap .i64 56 = 56 := by decide
theorem fc21_53 : IntKind.wrap .i64 57 = 57 := by decide
theorem fc21_54 : IntKind.wrap .i64 58 = 58 := by decide
theorem fc21_55 : IntKind.wrap .i64 59 = 59 := by decide
theorem fc21_56 : IntKind.wrap .i64 6 = 6 := by decide
theorem fc21_57 : IntKind.wrap .i64 60 = 60 := by decide
theorem fc21_58 : IntKind.wrap .i64 61 = 61 := by decide
theorem fc21_59 : IntKind.wrap .i64 62 = 62 := by decide
theorem fc21_60 : IntKind.wrap .i64 63 = 63 := by decide
theorem fc21_61 : IntKind.wrap .i64 64 = 64 := by decide
theorem fc21_62 : IntKind.wrap .i64 65 = 65 := by decide
theorem fc21_63 : IntKind.wrap .i64 66 = 66 := by decide
theorem fc21_64 : IntKind.wrap .i64 67 = 67 := by decide
theorem fc21_65 : IntKind.wrap .i64 68 = 68 := by decide
theorem fc21_66 : IntKind.wrap .i64 69 = 69 := by decide
theorem fc21_67 : IntKind.wrap .i64 7 = 7 := by decide
theorem fc21_68 : IntKind.wrap .i64 70 = 70 := by decide
theorem fc21_69 : IntKind.wrap .i64 71 = 71 := by decide
theorem fc21_70 : IntKind.wrap .i64 8 = 8 := by decide
theorem fc21_71 : IntKind.wrap .i64 9 = 9 := by decide
theorem s21 : ∀ vs r, g_laws_eqSkeleton vs = some r → SaysM Try.prog .any 21 vs r := by
  intro vs r h
  unfold g_laws_eqSkeleton at h
  split at h
  · rename_i w0 w1
    cases hd_y0 : decL dc_en0 w0 with
    | none => rw [hd_y0] at h; cases h
    | some y0 =>
    rw [hd_y0] at h
    obtain rfl := decL_inv dc_en0_inv hd_y0
    clear hd_y0
    dsimp only at h
    cases hd_y1 : decL dc_en0 w1 with
    | none => rw [hd_y1] at h; cases h
    | some y1 =>
    rw [hd_y1] at h
    obtain rfl := decL_inv dc_en0_inv hd_y1
    clear hd_y1
    dsimp only at h
    split at h
    · rename_i hp
      cases h
      refine spec_of (m := .any) (tab := tabOf [(52, .any, g_laws_eqBoneS)]) (cp := cp21) (ic := ic21) (rvl := [(.t 4)]) hm (tabOk_cons (m := .any) s52 tabOk_nil) Try.func21 rfl rfl rfl (by kernel_rfl) rfl (Nat.le_of_ble_eq_true rfl) (Nat.le_of_ble_eq_true rfl) ?_
      show eA _ _ _ _
      unfold ic21
      simp only [p_laws_eqSkeleton, Bool.and_eq_true, Bool.or_eq_true, decide_eq_true_eq, Bool.not_eq_true', decide_eq_false_iff_not] at hp
      simp only [
          hp, grpS, grpD, grpF, grpL, eop, vop, bop, uop, fltop, convop, endOk, newE, new1, freshL, Md.isNew, outV, pureV, pureX, pure1, AV.cells, AV.one, storable, laid, refless,
                refless1, vload, loadC, storeC, vnil, vfaddr, vextract, flatT, flatE, flatC, vconv, vmm, vidxA, viaddrA, vfield, vlen, elemsOf, dF32, dF64, dI64, dU8, dBool, dStr,
                esOk, elemsS, vsliceX, bnd, ownV, ownC, Md.isOwn, pureV.pureP, Option.map, reduceIte, Nat.reduceEqDiff, Nat.reduceAdd, Nat.reduceMul, Nat.reduceLT, Nat.reduceLeDiff,
                List.mapM_cons, List.mapM_nil, Option.pure_def, Option.bind_eq_bind, Option.bind_some, implies_true, forall_const, beq_self_eq_true, decide_true, decide_false,
                eq_self, Int.reduceEq, Int.reduceLE, Int.reduceLT, if_true, if_false, fc21_0, fc21_1, fc21_2, fc21_3, fc21_4, fc21_5, fc21_6, fc21_7, fc21_8, fc21_9, fc21_10,
                fc21_11, fc21_12, fc21_13, fc21_14, fc21_15, fc21_16, fc21_17, fc21_18, fc21_19, fc21_20, fc21_21, fc21_22, fc21_23, fc21_24, fc21_25, fc21_26, fc21_27, fc21_28,
                fc21_29, fc21_30, fc21_31, fc21_32, fc21_33, fc21_34, fc21_35, fc21_36, fc21_37, fc21_38, fc21_39, fc21_40, fc21_41, fc21_42, fc21_43, fc21_44, fc21_45, fc21_46,
                fc21_47, fc21_48, fc21_49, fc21_50, fc21_51, fc21_52, fc21_53, fc21_54, fc21_55, fc21_56, fc21_57, fc21_58, fc21_59, fc21_60, fc21_61, fc21_62, fc21_63, fc21_64,
                fc21_65, fc21_66, fc21_67, fc21_68, fc21_69, fc21_70, fc21_71, Int.reduceAdd, Int.reduceSub, Int.reduceMul, Int.reduceNeg, Int.reducePow, Nat.reducePow,
                Int.reduceToNat, Nat.reduceSub, List.replicate, Nat.reduceBEq, grpE, g_laws_eqBoneS, grpC, en0, dc_en0]
      repeat' (first
        | ((first | (refine eGI_of (fun h => ?_) (fun h => ?_)) | (refine eCc_of (fun h => ?_) (fun h => ?_))) <;> (try simp only [Bool.not_eq_true', Bool.not_eq_false'] at h) <;> (try simp only [h, reduceCtorEq, Bool.not_eq_true', decide_eq_false_iff_not, Bool.not_true, Bool.not_false, Bool.false_or, Bool.true_or, Bool.true_and, Bool.false_and, Bool.and_eq_true, Bool.or_eq_true, if_true, if_false, reduceIte, Bool.false_eq_true, and_true, true_and, false_or, or_false, decide_eq_true_eq, not_false_eq_true, not_true_eq_false] at hp) <;> (try (have h2 := h; simp only [decide_eq_true_eq, decide_eq_false_iff_not] at h2; (first | (replace h2 := eq_false h2) | (replace h2 := eq_true h2)); simp only [h2, if_true, if_false, false_or, true_or, or_true, or_false, and_true, true_and, not_false_eq_true, not_true_eq_false] at hp)) <;> simp only [h,
          hp, grpS, grpD, grpF, grpL, eop, vop, bop, uop, fltop, convop, endOk, newE, new1, freshL, Md.isNew, outV, pureV, pureX, pure1, AV.cells, AV.one, storable, laid, refless,
                refless1, vload, loadC, storeC, vnil, vfaddr, vextract, flatT, flatE, flatC, vconv, vmm, vidxA, viaddrA, vfield, vlen, elemsOf, dF32, dF64, dI64, dU8, dBool, dStr,
                esOk, elemsS, vsliceX, bnd, ownV, ownC, Md.isOwn, pureV.pureP, Option.map, reduceIte, Nat.reduceEqDiff, Nat.reduceAdd, Nat.reduceMul, Nat.reduceLT, Nat.reduceLeDiff,
                List.mapM_cons, List.mapM_nil, Option.pure_def, Option.bind_eq_bind, Option.bind_some, implies_true, forall_const, beq_self_eq_true, decide_true, decide_false,
                eq_self, Int.reduceEq, Int.reduceLE, Int.reduceLT, if_true, if_false, fc21_0, fc21_1, fc21_2, fc21_3, fc21_4, fc21_5, fc21_6, fc21_7, fc21_8, fc21_9, fc21_10,
                fc21_11, fc21_12, fc21_13, fc21_14, fc21_15, fc21_16, fc21_17, fc21_18, fc21_19, fc21_20, fc21_21, fc21_22, fc21_23, fc21_24, fc21_25, fc21_26, fc21_27, fc21_28,
                fc21_29, fc21_30, fc21_31, fc21_32, fc21_33, fc21_34, fc21_35, fc21_36, fc21_37, fc21_38, fc21_39, fc21_40, fc21_41, fc21_42, fc21_43, fc21_44, fc21_45, fc21_46,
                fc21_47, fc21_48, fc21_49, fc21_50, fc21_51, fc21_52, fc21_53, fc21_54, fc21_55, fc21_56, fc21_57, fc21_58, fc21_59, fc21_60, fc21_61, fc21_62, fc21_63, fc21_64,
                fc21_65, fc21_66, fc21_67, fc21_68, fc21_69, fc21_70, fc21_71, Int.reduceAdd, Int.reduceSub, Int.reduceMul, Int.reduceNeg, Int.reducePow, Nat.reducePow,
                Int.reduceToNat, Nat.reduceSub, List.replicate, Nat.reduceBEq, grpE, g_laws_eqBoneS, grpC, en0, dc_en0]))
      all_goals (try simp only [*, m_laws_eqSkeleton, Bool.and_true, Bool.true_and, Bool.and_false, Bool.false_and, Bool.or_true, Bool.true_or, Bool.or_false, Bool.false_or, Bool.not_true, Bool.not_false, Bool.false_eq_true, if_true, if_false, reduceIte, decide_true, decide_false])
      all_goals (try (simp_all; done))
    · cases h
  · cases h
def m_laws_FnExactValidSkeleton (x0 : (List (Int × Nat × Nat × Nat))) : Bool := (if (decide ((m_laws_szSkeleton x0 1048576) < 0)) = true then true else (if ((m_impl_ValidSkeleton
      (m_laws_toSkeleton x0)) == (m_spec_ValidSkeleton (m_laws_toSkeleton x0))) = true then (if (m_laws_eqSkeleton (m_laws_toSkeleton x0) (m_laws_toSkeleton x0)) = true then true
      else false) else false))
def p_laws_FnExactValidSkeleton (x0 : (List (Int × Nat × Nat × Nat))) : Bool := ((decide ((m_laws_szSkeleton x0 1048576) < 0)) || ((p_laws_toSkeleton x0) && ((p_spec_ValidSkeleton
      (m_laws_toSkeleton x0)) && ((p_impl_ValidSkeleton (m_laws_toSkeleton x0)) && (!((m_impl_ValidSkeleton (m_laws_toSkeleton x0)) == (m_spec_ValidSkeleton (m_laws_toSkeleton x0)))
      || (p_laws_eqSkeleton (m_laws_toSkeleton x0) (m_laws_toSkeleton x0)))))))
def g_laws_FnExactValidSkeleton : List AV → Option AV
  | [.agg [.sl w0]] => (match decL dc_en0 w0 with | some y0 => (if p_laws_FnExactValidSkeleton y0 = true then some (.bool (m_laws_FnExactValidSkeleton y0)) else none) | none => none)
  | _ => none
def ic4 : ICode := (.seq (.reg [⟨(some 1), none, (.box 1 (.t 0))⟩, ⟨(some 2), none, (.mov (.c (.bool false)))⟩] [1]) (.seq (.reg [⟨(some 3), none, (.mov (.c (.int .i64 1048576)))⟩]
      [1, 3]) (.seq (.reg [⟨(some 7), none, (.load (some 1) (.t 1))⟩, ⟨(some 8), none, (.mov (.t 3))⟩, ⟨(some 9), none, (.call (.fn 17) [(.t 7), (.t 8)] [])⟩, ⟨(some 3), none, (.mov
      (.t 9))⟩] [1, 3]) (.seq (.seq (.reg [⟨(some 10), none, (.mov (.t 3))⟩, ⟨(some 11), none, (.bin .lss false (.t 10) (.c (.int .i64 0)))⟩] [1, 11]) (.cond (.t 11) (.seq (.reg
      [⟨(some 2), none, (.mov (.c (.bool true)))⟩] [2]) .ret) .skip)) (.seq (.reg [⟨(some 12), none, (.load (some 1) (.t 1))⟩, ⟨(some 13), none, (.call (.fn 19) [(.t 12)] [])⟩,
      ⟨(some 14), none, (.call (.fn 18) [(.t 13)] [])⟩, ⟨(some 4), none, (.mov (.t 14))⟩] [1, 4]) (.seq (.reg [⟨(some 15), none, (.load (some 1) (.t 1))⟩, ⟨(some 16), none, (.call
      (.fn 19) [(.t 15)] [])⟩, ⟨(some 5), none, (.alloc (.agg [.snil]))⟩, ⟨none, none, (.store 1 (.t 5) (.t 16))⟩] [1, 4, 5]) (.seq (.reg [⟨(some 17), none, (.load (some 1) (.t
      5))⟩, ⟨(some 18), none, (.call (.fn 20) [(.t 17)] [])⟩, ⟨(some 6), none, (.mov (.t 18))⟩] [1, 4, 5, 6]) (.seq (.seq (.reg [⟨(some 19), none, (.mov (.t 6))⟩, ⟨(some 20), none,
      (.mov (.t 4))⟩, ⟨(some 21), none, (.bin .neq true (.t 19) (.t 20))⟩] [1, 5, 21]) (.cond (.t 21) (.seq (.reg [⟨(some 2), none, (.mov (.c (.bool false)))⟩] [2]) .ret) .skip))
      (.seq (.seq (.reg [⟨(some 22), none, (.load (some 1) (.t 5))⟩, ⟨(some 23), none, (.load (some 1) (.t 1))⟩, ⟨(some 24), none, (.call (.fn 19) [(.t 23)] [])⟩, ⟨(some 25), none,
      (.call (.fn 21) [(.t 22), (.t 24)] [])⟩, ⟨(some 26), none, (.un .not (.t 25))⟩] [26]) (.cond (.t 26) (.seq (.reg [⟨(some 2), none, (.mov (.c (.bool false)))⟩] [2]) .ret)
      .skip)) (.seq (.reg [⟨(some 2), none, (.mov (.c (.bool true)))⟩] [2]) .ret))))))))))
def cp4 : CP := { n := 27, kp := [[1], [1, 3], [1, 3], [1, 11], [2], [1, 4], [1, 4, 5], [1, 4, 5, 6], [1, 5, 21], [2], [26], [2], [2]] }
theorem fc4_0 : IntKind.wrap .i64 0 = 0 := by decide
theorem fc4_1 : IntKind.wrap .i64 1 = 1 := by decide
theorem fc4_2 : IntKind.wrap .i64 10 = 10 := by decide
theorem fc4_3 : IntKind.wrap .i64 11 = 11 := by decide
theorem fc4_4 : IntKind.wrap .i64 12 = 12 := by decide
theorem fc4_5 : IntKind.wrap .i64 13 = 13 := by decide
theorem fc4_6 : IntKind.wrap .i64 14 = 14 := by decide
theorem fc4_7 : IntKind.wrap .i64 15 = 15 := by decide
theorem fc4_8 : IntKind.wrap .i64 16 = 16 := by decide
theorem fc4_9 : IntKind.wrap .i64 17 = 17 := by decide
theorem fc4_10 : IntKind.wrap .i64 18 = 18 := by decide
theorem fc4_11 : IntKind.wrap .i64 19 = 19 := by decide
theorem fc4_12 : IntKind.wrap .i64 2 = 2 := by decide
theorem fc4_13 : IntKind.wrap .i64 20 = 20 := by decide
theorem fc4_14 : IntKind.wrap .i64 21 = 21 := by decide
theorem fc4_15 : IntKind.wrap .i64 22 = 22 := by decide
theorem fc4_16 : IntKind.wrap .i64 23 = 23 := by decide
theorem fc4_17 : IntKind.wrap .i64 24 = 24 := by decide
theorem fc4_18 : IntKind.wrap .i64 25 = 25 := by decide
theorem fc4_19 : IntKind.wrap .i64 26 = 26 := by decide
theorem fc4_20 : IntKind.wrap .i64 27 = 27 := by decide
theorem fc4_21 : IntKind.wrap .i64 28 = 28 := by decide
theorem fc4_22 : IntKind.wrap .i64 29 = 29 := by decide
theorem fc4_23 : IntKind.wrap .i64 3 = 3 := by decide
theorem fc4_24 : IntKind.wrap .i64 30 = 30 := by decide
theorem fc4_25 : IntKind.wrap .i64 31 = 31 := by decide
theorem fc4_26 : IntKind.wrap .i64 32 = 32 := by decide
theorem fc4_27 : IntKind.wrap .i64 33 = 33 := by decide
theorem fc4_28 : IntKind.wrap .i64 34 = 34 := by decide
theorem fc4_29 : IntKind.wrap .i64 35 = 35 := by decide
theorem fc4_30 : IntKind.wrap .i64 36 = 36 := by decide
theorem fc4_31 : IntKind.wrap .i64 37 = 37 := by decide
theorem fc4_32 : IntKind.wrap .i64 38 = 38 := by decide
theorem fc4_33 : IntKind.wrap .i64 39 = 39 := by decide
theorem fc4_34 : IntKind.wrap .i64 4 = 4 := by decide
theorem fc4_35 : IntKind.wrap .i64 40 = 40 := by decide
theorem fc4_36 : IntKind.wrap .i64 41 = 41 := by decide
theorem fc4_37 : IntKind.wrap .i64 42 = 42 := by decide
theorem fc4_38 : IntKind.wrap .i64 43 = 43 := by decide
theorem fc4_39 : IntKind.wrap .i64 44 = 44 := by decide
theorem fc4_40 : IntKind.wrap .i64 45 = 45 := by decide
theorem fc4_41 : IntKind.wrap .i64 46 = 46 := by decide
theorem fc4_42 : IntKind.wrap .i64 47 = 47 := by decide
theorem fc4_43 : IntKind.wrap .i64 48 = 48 := by decide
theorem fc4_44 : IntKind.wrap .i64 49 = 49 := by decide
theorem fc4_45 : IntKind.wrap .i64 5 = 5 := by decide
theorem fc4_46 : IntKind.wrap .i64 50 = 50 := by decide
theorem fc4_47 : IntKind.wrap .i64 51 = 51 := by decide
theorem fc4_48 : IntKind.wrap .i64 52 = 52 := by decide
theorem fc4_49 : IntKind.wrap .i64 53 = 53 := by decide
theorem fc4_50 : IntKind.wrap .i64 54 = 54 := by decide
theorem fc4_51 : IntKind.wrap .i64 55 = 55 := by decide
theorem fc4_52 : IntKind.wrap .i64 56 = 56 := by decide
theorem fc4_53 : IntKind.wrap .i64 57 = 57 := by decide
theorem fc4_54 : IntKind.wrap .i64 58 = 58 := by decide
theorem fc4_55 : IntKind.wrap .i64 59 = 59 := by decide
theorem fc4_56 : IntKind.wrap .i64 6 = 6 := by decide
theorem fc4_57 : IntKind.wrap .i64 60 = 60 := by decide
theorem fc4_58 : IntKind.wrap .i64 61 = 61 := by decide
theorem fc4_59 : IntKind.wrap .i64 62 = 62 := by decide
theorem fc4_60 : IntKind.wrap .i64 63 = 63 := by decide
theorem fc4_61 : IntKind.wrap .i64 64 = 64 := by decide
theorem fc4_62 : IntKind.wrap .i64 65 = 65 := by decide
theorem fc4_63 : IntKind.wrap .i64 66 = 66 := by decide
theorem fc4_64 : IntKind.wrap .i64 67 = 67 := by decide
theorem fc4_65 : IntKind.wrap .i64 68 = 68 := by decide
theorem fc4_66 : IntKind.wrap .i64 69 = 69 := by decide
theorem fc4_67 : IntKind.wrap .i64 7 = 7 := by decide
theorem fc4_68 : IntKind.wrap .i64 70 = 70 := by decide
theorem fc4_69 : IntKind.wrap .i64 71 = 71 := by decide
theorem fc4_70 : IntKind.wrap .i64 8 = 8 := by decide
theorem fc4_71 : IntKind.wrap .i64 9 = 9 := by decide
end Go.Proofs
