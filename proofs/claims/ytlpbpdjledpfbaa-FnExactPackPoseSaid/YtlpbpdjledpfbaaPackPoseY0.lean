/- What functions that FnExactPackPose reaches compute. No conditions. -/
import Derived.Test.YtlpbpdjledpfbaaFwF
import Derived.Test.YtlpbpdjledpfbaaProg
import Derived.KernelRfl
set_option maxRecDepth 100000
set_option maxHeartbeats 4000000
set_option linter.all false
namespace Go.Proofs
open Go.Ab
theorem hm : Try.prog.follows .mixedOrders = true := by kernel_rfl
theorem fc0 : (min 0 8 : Nat) = 0 := by decide
theorem fc1 : (min 1 8 : Nat) = 1 := by decide
theorem fc2 : (min 2 8 : Nat) = 2 := by decide
theorem fc3 : (min 3 8 : Nat) = 3 := by decide
theorem fc4 : (min 4 8 : Nat) = 4 := by decide
theorem fc5 : (min 5 8 : Nat) = 5 := by decide
theorem fc6 : (min 6 8 : Nat) = 6 := by decide
theorem fc7 : (min 7 8 : Nat) = 7 := by decide
theorem fc8 : IntKind.wrap .i64 0 = 0 := by decide
theorem fc9 : IntKind.wrap .i64 1 = 1 := by decide
theorem fc10 : IntKind.wrap .i64 2 = 2 := by decide
theorem fc11 : IntKind.wrap .i64 3 = 3 := by decide
theorem fc12 : IntKind.wrap .i64 4 = 4 := by decide
theorem fc13 : IntKind.wrap .i64 5 = 5 := by decide
theorem fc14 : IntKind.wrap .i64 6 = 6 := by decide
theorem fc15 : IntKind.wrap .i64 7 = 7 := by decide
theorem fc16 : IntKind.wrap .i64 8 = 8 := by decide
theorem fc17 : IntKind.wrap .u64 0 = 0 := by decide
theorem fc18 : IntKind.wrap .u64 1 = 1 := by decide
theorem fc19 : IntKind.wrap .u64 2 = 2 := by decide
theorem fc20 : IntKind.wrap .u64 3 = 3 := by decide
theorem fc21 : IntKind.wrap .u64 4 = 4 := by decide
theorem fc22 : IntKind.wrap .u64 5 = 5 := by decide
theorem fc23 : IntKind.wrap .u64 6 = 6 := by decide
theorem fc24 : IntKind.wrap .u64 7 = 7 := by decide
theorem fc25 : inB 0 1 = true := by decide
theorem fc26 : inB 0 3 = true := by decide
theorem fc27 : inB 1 3 = true := by decide
theorem fc28 : inB 2 3 = true := by decide
def grpK := And.intro fc0 <| And.intro fc1 <| And.intro fc2 <| And.intro fc3 <| And.intro fc4 <| And.intro fc5 <| And.intro fc6 <| And.intro fc7 <| And.intro fc8 <| And.intro fc9 <| And.intro fc10 <| And.intro fc11 <| And.intro fc12 <| And.intro fc13 <| And.intro fc14 <| And.intro fc15 <| And.intro fc16 <| And.intro fc17 <| And.intro fc18 <| And.intro fc19 <| And.intro fc20 <| And.intro fc21 <| And.intro fc22 <| And.intro fc23 <| And.intro fc24 <| And.intro fc25 <| And.intro fc26 <| And.intro fc27 fc28
def en0 (p : (Nat × Nat × Nat × Nat)) : AV := (AV.agg [(.flt .f32 p.1), (.flt .f32 p.2.1), (.flt .f32 p.2.2.1), (.flt .f32 p.2.2.2)])
def dc_en0 : AV → Option (Nat × Nat × Nat × Nat)
  | .agg [.flt .f32 y0, .flt .f32 y1, .flt .f32 y2, .flt .f32 y3] => some (y0, y1, y2, y3)
  | _ => none
theorem dc_en0_map (ys : List (Nat × Nat × Nat × Nat)) : decL dc_en0 (List.map en0 ys) = some ys := decL_map (d := dc_en0) (e := en0) (fun p => by rfl) ys
theorem dc_en0_inv : ∀ x p, dc_en0 x = some p → x = en0 p := by
  intro x p h; unfold dc_en0 at h; split at h
  · cases h; rfl
  · cases h
theorem dc_en0_es (l : List (Nat × Nat × Nat × Nat)) : List.all (List.map en0 l) (esIs 4) = true := all_enc (fun _ => rfl) l
theorem dc_en0_st (l : List (Nat × Nat × Nat × Nat)) : List.all (List.map en0 l) (esSt 4) = true := all_enc (fun _ => rfl) l
theorem en0_app {xs : List (Nat × Nat × Nat × Nat)} {n : Int} {u0 : Nat} {u1 : Nat} {u2 : Nat} {u3 : Nat} (h : inB n (xs.length + 1) = true) : ((List.map en0 xs) ++ [(AV.agg [(.flt .f32 u0), (.flt .f32 u1), (.flt .f32 u2), (.flt .f32 u3)])])[n.toNat]? = some (en0 (atI (xs ++ [(u0, u1, u2, u3)]) n)) := getE_app (e := en0) (v := (u0, u1, u2, u3)) h
theorem en0_set {xs : List (Nat × Nat × Nat × Nat)} {n : Int} {i : Nat} {u0 : Nat} {u1 : Nat} {u2 : Nat} {u3 : Nat} (h : inB n xs.length = true) : ((List.map en0 xs).set i (AV.agg [(.flt .f32 u0), (.flt .f32 u1), (.flt .f32 u2), (.flt .f32 u3)]))[n.toNat]? = some (en0 (atI (xs.set i (u0, u1, u2, u3)) n)) := getE_set (e := en0) (v := (u0, u1, u2, u3)) h
theorem dc_en0_fl (l : List (Nat × Nat × Nat × Nat)) : List.all (List.map en0 l) flatE = true := all_enc (fun _ => rfl) l
def grpC := And.intro @dc_en0_map <| And.intro @dc_en0_es <| And.intro @dc_en0_st <| And.intro @en0_app <| And.intro @en0_set @dc_en0_fl
def m_laws_szTurnS (x0 : (List (Nat × Nat × Nat × Nat))) (x1 : Int) : Int := (if (decide ((IntKind.wrap .i64 (x1 - ((List.length x0 : Nat) : Int))) < 0)) = true then (-1) else (IntKind.wrap .i64 (x1 - ((List.length x0 : Nat) : Int))))
def g_laws_szTurnS : List AV → Option AV
  | [.sl w0, .int .i64 y1] => (match decL dc_en0 w0 with | some y0 => (some (.int .i64 (m_laws_szTurnS y0 y1))) | none => none)
  | _ => none
def ic74 : ICode := (.seq (.reg [⟨(some 4), none, (.mov (.c (.int .i64 0)))⟩] [0, 1]) (.seq (.reg [⟨(some 5), none, (.mov (.t 1))⟩, ⟨(some 6), none, (.mov (.t 0))⟩, ⟨(some 7), none, (.len false (.t 6))⟩, ⟨(some 8), none, (.bin .sub false (.t 5) (.t 7))⟩, ⟨(some 1), none, (.mov (.t 8))⟩] [1]) (.seq (.seq (.reg [⟨(some 9), none, (.mov (.t 1))⟩, ⟨(some 10), none, (.bin .lss false (.t 9) (.c (.int .i64 0)))⟩] [1, 10]) (.cond (.t 10) (.seq (.reg [⟨(some 4), none, (.mov (.c (.int .i64 (-1))))⟩] [4]) .ret) .skip)) (.seq (.reg [⟨(some 11), none, (.mov (.t 1))⟩, ⟨(some 4), none, (.mov (.t 11))⟩] [4]) .ret))))
def cp74 : CP := CP.mk [] [] [[0, 1], [1], [1, 10], [4], [4]] 12 [] []
theorem s74 : ∀ vs r, g_laws_szTurnS vs = some r → SaysM Try.prog .any 74 vs r := by
  intro vs r h
  unfold g_laws_szTurnS at h
  split at h
  · rename_i w0 y1
    cases hd_y0 : decL dc_en0 w0 with
    | none => rw [hd_y0] at h; cases h
    | some y0 =>
    rw [hd_y0] at h
    obtain rfl := decL_inv dc_en0_inv hd_y0
    clear hd_y0
    dsimp only at h
    cases h
    refine spec_of (m := .any) (tab := tabOf []) (cp := cp74) (ic := ic74) (rvl := [(.t 4)]) hm tabOk_nil Try.func74 rfl rfl rfl (by kernel_rfl) rfl (Nat.le_of_ble_eq_true rfl) (Nat.le_of_ble_eq_true rfl) ?_
    show eA _ _ _ _
    unfold ic74
    refine eS_to ?_
    repeat' (first
      | ((first | (have h := True.intro; refine eS_of ?_) | (refine eGI_of (fun h => ?_) (fun h => ?_)) | (refine eCc_of (fun h => ?_) (fun h => ?_))) <;> (try simp only [Bool.not_eq_true', Bool.not_eq_false'] at h) <;> (try first | exact absurd (Eq.trans (Eq.symm h) (by assumption)) Bool.false_ne_true | exact absurd (Eq.trans (Eq.symm h) (by assumption)) (Ne.symm Bool.false_ne_true)) <;> simp only [h,
        grpA, vsliceS, grpS, grpD, grpF, grpL, eop, vop, bop, uop, fltop, convop, endOk, newE, new1, freshL, Md.isNew, outV, pureV, pureX, pure1, AV.cells, AV.one, storable, laid, refless, refless1, vload, loadC, storeC, vnil, vfaddr, vextract, flatT, flatE, flatC, vconv, vmm, vidxA, viaddrA, vfield, vlen, elemsOf, dF32, dF64, dI64, dU8, dBool, dStr, esOk, elemsS, vsliceX, bnd, ownV, ownC, own1, ownT, isSl, nSl, endL, Md.isOwn, purge, purgeH, purgeB, purgeE, hasName, name1, List.any_cons, List.any_nil, Md.isWr, pureV.pureP, Option.map, reduceIte, Nat.reduceEqDiff, Nat.reduceAdd, Nat.reduceMul, Nat.reduceLT, Nat.reduceLeDiff, List.mapM_cons, List.mapM_nil, Option.pure_def, Option.bind_eq_bind, Option.bind_some, implies_true, forall_const, beq_self_eq_true, decide_true, decide_false, eq_self, Int.reduceEq, Int.reduceLE, Int.reduceLT, if_true, if_false, grpK, Int.reduceAdd, Int.reduceSub, Int.reduceMul, Int.reduceNeg, Int.reducePow, Nat.reducePow, Int.reduceToNat, Nat.reduceSub, List.replicate, Nat.reduceBEq, wAs, wA, wC, zipW, noDupN, grpE, beq_true, beq_false, grpC, en0, dc_en0]))
    all_goals (try simp only [*, m_laws_szTurnS, Bool.and_true, Bool.true_and, Bool.and_false, Bool.false_and, Bool.or_true, Bool.true_or, Bool.or_false, Bool.false_or, Bool.not_true, Bool.not_false, Bool.false_eq_true, if_true, if_false, reduceIte, decide_true, decide_false])
    all_goals (try (simp_all; done))
  · cases h
def m_laws_szPose (x0 : (Nat × Nat × Nat × (List (Nat × Nat × Nat × Nat)))) (x1 : Int) : Int := (if (decide ((m_laws_szTurnS x0.2.2.2 x1) < 0)) = true then (-1) else (m_laws_szTurnS x0.2.2.2 x1))
def g_laws_szPose : List AV → Option AV
  | [.agg [.flt .f32 y0, .flt .f32 y1, .flt .f32 y2, .sl w3], .int .i64 y4] => (match decL dc_en0 w3 with | some y3 => (some (.int .i64 (m_laws_szPose (y0, y1, y2, y3) y4))) | none => none)
  | _ => none
def ic33 : ICode := (.seq (.reg [⟨(some 2), none, (.box 4 (.t 0))⟩, ⟨(some 4), none, (.mov (.c (.int .i64 0)))⟩] [1, 2]) (.seq (.reg [⟨(some 5), none, (.faddr 3 (.t 2))⟩, ⟨(some 6), none, (.load none (.t 5))⟩, ⟨(some 7), none, (.mov (.t 1))⟩, ⟨(some 8), none, (.call (.fn 74) [(.t 6), (.t 7)] [])⟩, ⟨(some 1), none, (.mov (.t 8))⟩] [1]) (.seq (.seq (.reg [⟨(some 9), none, (.mov (.t 1))⟩, ⟨(some 10), none, (.bin .lss false (.t 9) (.c (.int .i64 0)))⟩] [1, 10]) (.cond (.t 10) (.seq (.reg [⟨(some 4), none, (.mov (.c (.int .i64 (-1))))⟩] [4]) .ret) .skip)) (.seq (.reg [⟨(some 11), none, (.mov (.t 1))⟩, ⟨(some 4), none, (.mov (.t 11))⟩] [4]) .ret))))
def cp33 : CP := CP.mk [] [] [[1, 2], [1], [1, 10], [4], [4]] 12 [] []
theorem s33 : ∀ vs r, g_laws_szPose vs = some r → SaysM Try.prog .any 33 vs r := by
  intro vs r h
  unfold g_laws_szPose at h
  split at h
  · rename_i y0 y1 y2 w3 y4
    cases hd_y3 : decL dc_en0 w3 with
    | none => rw [hd_y3] at h; cases h
    | some y3 =>
    rw [hd_y3] at h
    obtain rfl := decL_inv dc_en0_inv hd_y3
    clear hd_y3
    dsimp only at h
    cases h
    refine spec_of (m := .any) (tab := tabOf [(74, wM .any g_laws_szTurnS)]) (cp := cp33) (ic := ic33) (rvl := [(.t 4)]) hm (tabOk_cons (m := .any) s74 tabOk_nil) Try.func33 rfl rfl rfl (by kernel_rfl) rfl (Nat.le_of_ble_eq_true rfl) (Nat.le_of_ble_eq_true rfl) ?_
    show eA _ _ _ _
    unfold ic33
    refine eS_to ?_
    repeat' (first
      | ((first | (have h := True.intro; refine eS_of ?_) | (refine eGI_of (fun h => ?_) (fun h => ?_)) | (refine eCc_of (fun h => ?_) (fun h => ?_))) <;> (try simp only [Bool.not_eq_true', Bool.not_eq_false'] at h) <;> (try first | exact absurd (Eq.trans (Eq.symm h) (by assumption)) Bool.false_ne_true | exact absurd (Eq.trans (Eq.symm h) (by assumption)) (Ne.symm Bool.false_ne_true)) <;> simp only [h,
        grpA, vsliceS, grpS, grpD, grpF, grpL, eop, vop, bop, uop, fltop, convop, endOk, newE, new1, freshL, Md.isNew, outV, pureV, pureX, pure1, AV.cells, AV.one, storable, laid, refless, refless1, vload, loadC, storeC, vnil, vfaddr, vextract, flatT, flatE, flatC, vconv, vmm, vidxA, viaddrA, vfield, vlen, elemsOf, dF32, dF64, dI64, dU8, dBool, dStr, esOk, elemsS, vsliceX, bnd, ownV, ownC, own1, ownT, isSl, nSl, endL, Md.isOwn, purge, purgeH, purgeB, purgeE, hasName, name1, List.any_cons, List.any_nil, Md.isWr, pureV.pureP, Option.map, reduceIte, Nat.reduceEqDiff, Nat.reduceAdd, Nat.reduceMul, Nat.reduceLT, Nat.reduceLeDiff, List.mapM_cons, List.mapM_nil, Option.pure_def, Option.bind_eq_bind, Option.bind_some, implies_true, forall_const, beq_self_eq_true, decide_true, decide_false, eq_self, Int.reduceEq, Int.reduceLE, Int.reduceLT, if_true, if_false, grpK, Int.reduceAdd, Int.reduceSub, Int.reduceMul, Int.reduceNeg, Int.reducePow, Nat.reducePow, Int.reduceToNat, Nat.reduceSub, List.replicate, Nat.reduceBEq, wAs, wA, wC, zipW, noDupN, grpE, beq_true, beq_false, g_laws_szTurnS, grpC, en0, dc_en0]))
    all_goals (try simp only [*, m_laws_szPose, Bool.and_true, Bool.true_and, Bool.and_false, Bool.false_and, Bool.or_true, Bool.true_or, Bool.or_false, Bool.false_or, Bool.not_true, Bool.not_false, Bool.false_eq_true, if_true, if_false, reduceIte, decide_true, decide_false])
    all_goals (try (simp_all; done))
  · cases h
def m_laws_toPacking (x0 : (Int × Int × Nat)) : (Int × Int × Nat) := x0
def g_laws_toPacking : List AV → Option AV
  | [.agg [.int .i64 y0, .int .i64 y1, .flt .f32 y2]] => some (AV.agg [(.int .i64 (m_laws_toPacking (y0, y1, y2)).1), (.int .i64 (m_laws_toPacking (y0, y1, y2)).2.1), (.flt .f32 (m_laws_toPacking (y0, y1, y2)).2.2)])
  | _ => none
def ic28 : ICode := (.seq (.reg [⟨(some 1), none, (.box 3 (.t 0))⟩, ⟨(some 2), none, (.alloc (.agg [(.int .i64 0), (.int .i64 0), (.flt .f32 0)]))⟩] [1, 2]) (.seq (.reg [⟨(some 3), none, (.alloc (.agg [(.int .i64 0), (.int .i64 0), (.flt .f32 0)]))⟩] [1, 2, 3]) (.seq (.reg [⟨(some 4), none, (.faddr 0 (.t 1))⟩, ⟨(some 5), none, (.load none (.t 4))⟩, ⟨(some 6), none, (.faddr 0 (.t 3))⟩, ⟨none, none, (.store 1 (.t 6) (.t 5))⟩] [1, 2, 3]) (.seq (.reg [⟨(some 7), none, (.faddr 1 (.t 1))⟩, ⟨(some 8), none, (.load none (.t 7))⟩, ⟨(some 9), none, (.faddr 1 (.t 3))⟩, ⟨none, none, (.store 1 (.t 9) (.t 8))⟩] [1, 2, 3]) (.seq (.reg [⟨(some 10), none, (.faddr 2 (.t 1))⟩, ⟨(some 11), none, (.load none (.t 10))⟩, ⟨(some 12), none, (.faddr 2 (.t 3))⟩, ⟨none, none, (.store 1 (.t 12) (.t 11))⟩] [2, 3]) (.seq (.reg [⟨(some 13), none, (.load (some 3) (.t 3))⟩, ⟨none, none, (.store 3 (.t 2) (.t 13))⟩] [2]) .ret))))))
def cp28 : CP := CP.mk [] [] [[1, 2], [1, 2, 3], [1, 2, 3], [1, 2, 3], [2, 3], [2]] 14 [] []
theorem s28 : ∀ vs r, g_laws_toPacking vs = some r → SaysM Try.prog .any 28 vs r := by
  intro vs r h
  unfold g_laws_toPacking at h
  split at h
  · rename_i y0 y1 y2
    cases h
    refine spec_of (m := .any) (tab := tabOf []) (cp := cp28) (ic := ic28) (rvl := [(.c 2 (some 3))]) hm tabOk_nil Try.func28 rfl rfl rfl (by kernel_rfl) rfl (Nat.le_of_ble_eq_true rfl) (Nat.le_of_ble_eq_true rfl) ?_
    show eA _ _ _ _
    unfold ic28
    simp only [
        grpA, vsliceS, grpS, grpD, grpF, grpL, eop, vop, bop, uop, fltop, convop, endOk, newE, new1, freshL, Md.isNew, outV, pureV, pureX, pure1, AV.cells, AV.one, storable, laid, refless, refless1, vload, loadC, storeC, vnil, vfaddr, vextract, flatT, flatE, flatC, vconv, vmm, vidxA, viaddrA, vfield, vlen, elemsOf, dF32, dF64, dI64, dU8, dBool, dStr, esOk, elemsS, vsliceX, bnd, ownV, ownC, own1, ownT, isSl, nSl, endL, Md.isOwn, purge, purgeH, purgeB, purgeE, hasName, name1, List.any_cons, List.any_nil, Md.isWr, pureV.pureP, Option.map, reduceIte, Nat.reduceEqDiff, Nat.reduceAdd, Nat.reduceMul, Nat.reduceLT, Nat.reduceLeDiff, List.mapM_cons, List.mapM_nil, Option.pure_def, Option.bind_eq_bind, Option.bind_some, implies_true, forall_const, beq_self_eq_true, decide_true, decide_false, eq_self, Int.reduceEq, Int.reduceLE, Int.reduceLT, if_true, if_false, grpK, Int.reduceAdd, Int.reduceSub, Int.reduceMul, Int.reduceNeg, Int.reducePow, Nat.reducePow, Int.reduceToNat, Nat.reduceSub, List.replicate, Nat.reduceBEq, wAs, wA, wC, zipW, noDupN, grpE, beq_true, beq_false, grpC, en0, dc_en0]
    all_goals (try simp only [*, m_laws_toPacking, Bool.and_true, Bool.true_and, Bool.and_false, Bool.false_and, Bool.or_true, Bool.true_or, Bool.or_false, Bool.false_or, Bool.not_true, Bool.not_false, Bool.false_eq_true, if_true, if_false, reduceIte, decide_true, decide_false])
    all_goals (try (simp_all; done))
  · cases h
def m_laws_toVector (x0 : (Nat × Nat × Nat)) : (Nat × Nat × Nat) := x0
def g_laws_toVector : List AV → Option AV
  | [.agg [.flt .f32 y0, .flt .f32 y1, .flt .f32 y2]] => some (AV.agg [(.flt .f32 (m_laws_toVector (y0, y1, y2)).1), (.flt .f32 (m_laws_toVector (y0, y1, y2)).2.1), (.flt .f32 (m_laws_toVector (y0, y1, y2)).2.2)])
  | _ => none
def ic76 : ICode := (.seq (.reg [⟨(some 1), none, (.box 3 (.t 0))⟩, ⟨(some 2), none, (.alloc (.agg [(.flt .f32 0), (.flt .f32 0), (.flt .f32 0)]))⟩] [1, 2]) (.seq (.reg [⟨(some 3), none, (.alloc (.agg [(.flt .f32 0), (.flt .f32 0), (.flt .f32 0)]))⟩] [1, 2, 3]) (.seq (.reg [⟨(some 4), none, (.faddr 0 (.t 1))⟩, ⟨(some 5), none, (.load none (.t 4))⟩, ⟨(some 6), none, (.faddr 0 (.t 3))⟩, ⟨none, none, (.store 1 (.t 6) (.t 5))⟩] [1, 2, 3]) (.seq (.reg [⟨(some 7), none, (.faddr 1 (.t 1))⟩, ⟨(some 8), none, (.load none (.t 7))⟩, ⟨(some 9), none, (.faddr 1 (.t 3))⟩, ⟨none, none, (.store 1 (.t 9) (.t 8))⟩] [1, 2, 3]) (.seq (.reg [⟨(some 10), none, (.faddr 2 (.t 1))⟩, ⟨(some 11), none, (.load none (.t 10))⟩, ⟨(some 12), none, (.faddr 2 (.t 3))⟩, ⟨none, none, (.store 1 (.t 12) (.t 11))⟩] [2, 3]) (.seq (.reg [⟨(some 13), none, (.load (some 3) (.t 3))⟩, ⟨none, none, (.store 3 (.t 2) (.t 13))⟩] [2]) .ret))))))
def cp76 : CP := CP.mk [] [] [[1, 2], [1, 2, 3], [1, 2, 3], [1, 2, 3], [2, 3], [2]] 14 [] []
theorem s76 : ∀ vs r, g_laws_toVector vs = some r → SaysM Try.prog .any 76 vs r := by
  intro vs r h
  unfold g_laws_toVector at h
  split at h
  · rename_i y0 y1 y2
    cases h
    refine spec_of (m := .any) (tab := tabOf []) (cp := cp76) (ic := ic76) (rvl := [(.c 2 (some 3))]) hm tabOk_nil Try.func76 rfl rfl rfl (by kernel_rfl) rfl (Nat.le_of_ble_eq_true rfl) (Nat.le_of_ble_eq_true rfl) ?_
    show eA _ _ _ _
    unfold ic76
    simp only [
        grpA, vsliceS, grpS, grpD, grpF, grpL, eop, vop, bop, uop, fltop, convop, endOk, newE, new1, freshL, Md.isNew, outV, pureV, pureX, pure1, AV.cells, AV.one, storable, laid, refless, refless1, vload, loadC, storeC, vnil, vfaddr, vextract, flatT, flatE, flatC, vconv, vmm, vidxA, viaddrA, vfield, vlen, elemsOf, dF32, dF64, dI64, dU8, dBool, dStr, esOk, elemsS, vsliceX, bnd, ownV, ownC, own1, ownT, isSl, nSl, endL, Md.isOwn, purge, purgeH, purgeB, purgeE, hasName, name1, List.any_cons, List.any_nil, Md.isWr, pureV.pureP, Option.map, reduceIte, Nat.reduceEqDiff, Nat.reduceAdd, Nat.reduceMul, Nat.reduceLT, Nat.reduceLeDiff, List.mapM_cons, List.mapM_nil, Option.pure_def, Option.bind_eq_bind, Option.bind_some, implies_true, forall_const, beq_self_eq_true, decide_true, decide_false, eq_self, Int.reduceEq, Int.reduceLE, Int.reduceLT, if_true, if_false, grpK, Int.reduceAdd, Int.reduceSub, Int.reduceMul, Int.reduceNeg, Int.reducePow, Nat.reducePow, Int.reduceToNat, Nat.reduceSub, List.replicate, Nat.reduceBEq, wAs, wA, wC, zipW, noDupN, grpE, beq_true, beq_false, grpC, en0, dc_en0]
    all_goals (try simp only [*, m_laws_toVector, Bool.and_true, Bool.true_and, Bool.and_false, Bool.false_and, Bool.or_true, Bool.true_or, Bool.or_false, Bool.false_or, Bool.not_true, Bool.not_false, Bool.false_eq_true, if_true, if_false, reduceIte, decide_true, decide_false])
    all_goals (try (simp_all; done))
  · cases h
def m_laws_toTurn (x0 : (Nat × Nat × Nat × Nat)) : (Nat × Nat × Nat × Nat) := x0
def g_laws_toTurn : List AV → Option AV
  | [.agg [.flt .f32 y0, .flt .f32 y1, .flt .f32 y2, .flt .f32 y3]] => some (AV.agg [(.flt .f32 (m_laws_toTurn (y0, y1, y2, y3)).1), (.flt .f32 (m_laws_toTurn (y0, y1, y2, y3)).2.1), (.flt .f32 (m_laws_toTurn (y0, y1, y2, y3)).2.2.1), (.flt .f32 (m_laws_toTurn (y0, y1, y2, y3)).2.2.2)])
  | _ => none
def ic25 : ICode := (.seq (.reg [⟨(some 1), none, (.box 4 (.t 0))⟩, ⟨(some 2), none, (.alloc (.agg [(.flt .f32 0), (.flt .f32 0), (.flt .f32 0), (.flt .f32 0)]))⟩] [1, 2]) (.seq (.reg [⟨(some 3), none, (.alloc (.agg [(.flt .f32 0), (.flt .f32 0), (.flt .f32 0), (.flt .f32 0)]))⟩] [1, 2, 3]) (.seq (.reg [⟨(some 4), none, (.faddr 0 (.t 1))⟩, ⟨(some 5), none, (.load none (.t 4))⟩, ⟨(some 6), none, (.faddr 0 (.t 3))⟩, ⟨none, none, (.store 1 (.t 6) (.t 5))⟩] [1, 2, 3]) (.seq (.reg [⟨(some 7), none, (.faddr 1 (.t 1))⟩, ⟨(some 8), none, (.load none (.t 7))⟩, ⟨(some 9), none, (.faddr 1 (.t 3))⟩, ⟨none, none, (.store 1 (.t 9) (.t 8))⟩] [1, 2, 3]) (.seq (.reg [⟨(some 10), none, (.faddr 2 (.t 1))⟩, ⟨(some 11), none, (.load none (.t 10))⟩, ⟨(some 12), none, (.faddr 2 (.t 3))⟩, ⟨none, none, (.store 1 (.t 12) (.t 11))⟩] [1, 2, 3]) (.seq (.reg [⟨(some 13), none, (.faddr 3 (.t 1))⟩, ⟨(some 14), none, (.load none (.t 13))⟩, ⟨(some 15), none, (.faddr 3 (.t 3))⟩, ⟨none, none, (.store 1 (.t 15) (.t 14))⟩] [2, 3]) (.seq (.reg [⟨(some 16), none, (.load (some 4) (.t 3))⟩, ⟨none, none, (.store 4 (.t 2) (.t 16))⟩] [2]) .ret)))))))
def cp25 : CP := CP.mk [] [] [[1, 2], [1, 2, 3], [1, 2, 3], [1, 2, 3], [1, 2, 3], [2, 3], [2]] 17 [] []
theorem s25 : ∀ vs r, g_laws_toTurn vs = some r → SaysM Try.prog .any 25 vs r := by
  intro vs r h
  unfold g_laws_toTurn at h
  split at h
  · rename_i y0 y1 y2 y3
    cases h
    refine spec_of (m := .any) (tab := tabOf []) (cp := cp25) (ic := ic25) (rvl := [(.c 2 (some 4))]) hm tabOk_nil Try.func25 rfl rfl rfl (by kernel_rfl) rfl (Nat.le_of_ble_eq_true rfl) (Nat.le_of_ble_eq_true rfl) ?_
    show eA _ _ _ _
    unfold ic25
    simp only [
        grpA, vsliceS, grpS, grpD, grpF, grpL, eop, vop, bop, uop, fltop, convop, endOk, newE, new1, freshL, Md.isNew, outV, pureV, pureX, pure1, AV.cells, AV.one, storable, laid, refless, refless1, vload, loadC, storeC, vnil, vfaddr, vextract, flatT, flatE, flatC, vconv, vmm, vidxA, viaddrA, vfield, vlen, elemsOf, dF32, dF64, dI64, dU8, dBool, dStr, esOk, elemsS, vsliceX, bnd, ownV, ownC, own1, ownT, isSl, nSl, endL, Md.isOwn, purge, purgeH, purgeB, purgeE, hasName, name1, List.any_cons, List.any_nil, Md.isWr, pureV.pureP, Option.map, reduceIte, Nat.reduceEqDiff, Nat.reduceAdd, Nat.reduceMul, Nat.reduceLT, Nat.reduceLeDiff, List.mapM_cons, List.mapM_nil, Option.pure_def, Option.bind_eq_bind, Option.bind_some, implies_true, forall_const, beq_self_eq_true, decide_true, decide_false, eq_self, Int.reduceEq, Int.reduceLE, Int.reduceLT, if_true, if_false, grpK, Int.reduceAdd, Int.reduceSub, Int.reduceMul, Int.reduceNeg, Int.reducePow, Nat.reducePow, Int.reduceToNat, Nat.reduceSub, List.replicate, Nat.reduceBEq, wAs, wA, wC, zipW, noDupN, grpE, beq_true, beq_false, grpC, en0, dc_en0]
    all_goals (try simp only [*, m_laws_toTurn, Bool.and_true, Bool.true_and, Bool.and_false, Bool.false_and, Bool.or_true, Bool.true_or, Bool.or_false, Bool.false_or, Bool.not_true, Bool.not_false, Bool.false_eq_true, if_true, if_false, reduceIte, decide_true, decide_false])
    all_goals (try (simp_all; done))
  · cases h
def l_laws_toTurnS_0 (x0 : (List (Nat × Nat × Nat × Nat))) : Nat → (List (Nat × Nat × Nat × Nat)) → Int → Option (List (Nat × Nat × Nat × Nat))
  | 0, _, _ => none
  | n + 1, z0_0, z0_1 => (if (decide (z0_1 < ((List.length x0 : Nat) : Int))) = true then (need (inB z0_1 (List.length x0)) (need (inB z0_1 (List.length z0_0)) (l_laws_toTurnS_0 x0 n (List.set z0_0 (Int.toNat z0_1) (m_laws_toTurn (atI x0 z0_1))) (IntKind.wrap .i64 (z0_1 + 1))))) else (some z0_0))
def m_laws_toTurnS (x0 : (List (Nat × Nat × Nat × Nat))) : (List (Nat × Nat × Nat × Nat)) := (Option.getD (l_laws_toTurnS_0 x0 (Int.toNat (((List.length x0 : Nat) : Int) - 0) + 2) (List.replicate (Int.toNat ((List.length x0 : Nat) : Int)) (0, 0, 0, 0)) 0) default)
def p_laws_toTurnS (x0 : (List (Nat × Nat × Nat × Nat))) : Bool := ((decide (0 ≤ ((List.length x0 : Nat) : Int))) && ((decide (((List.length x0 : Nat) : Int) * 16 ≤ 70368744177664)) && ((decide (((List.length x0 : Nat) : Int) ≤ 70368744177664)) && (Option.isSome (l_laws_toTurnS_0 x0 (Int.toNat (((List.length x0 : Nat) : Int) - 0) + 2) (List.replicate (Int.toNat ((List.length x0 : Nat) : Int)) (0, 0, 0, 0)) 0)))))
def g_laws_toTurnS : List AV → Option AV
  | [.sl w0] => (match decL dc_en0 w0 with | some y0 => (if p_laws_toTurnS y0 = true then some (.sl (List.map en0 (m_laws_toTurnS y0))) else none) | none => none)
  | _ => none
def lb77_0 : ICode := (.seq (.seq (.reg [⟨(some 8), none, (.mov (.t 4))⟩, ⟨(some 9), none, (.mov (.t 0))⟩, ⟨(some 10), none, (.len false (.t 9))⟩, ⟨(some 11), none, (.bin .lss false (.t 8) (.t 10))⟩] [0, 3, 4, 11]) (.cond (.t 11) .skip (.exit 0))) (.seq (.block 1 (.reg [⟨(some 14), none, (.mov (.t 3))⟩, ⟨(some 15), none, (.mov (.t 4))⟩, ⟨(some 16), none, (.mov (.t 0))⟩, ⟨(some 17), none, (.mov (.t 4))⟩, ⟨(some 18), none, (.iaddrS 4 (.t 16) (.t 17))⟩, ⟨(some 19), none, (.load (some 4) (.t 18))⟩, ⟨(some 20), none, (.call (.fn 25) [(.t 19)] [])⟩, ⟨(some 21), none, (.iaddrS 4 (.t 14) (.t 15))⟩, ⟨none, none, (.store 4 (.t 21) (.t 20))⟩] [0, 3, 4])) (.reg [⟨(some 12), none, (.mov (.t 4))⟩, ⟨(some 13), none, (.bin .add false (.t 12) (.c (.int .i64 1)))⟩, ⟨(some 4), none, (.mov (.t 13))⟩] [0, 3, 4])))
def ic77 : ICode := (.seq (.reg [⟨(some 2), none, (.mov (.c .snil))⟩] [0]) (.seq (.reg [⟨(some 5), none, (.mov (.t 0))⟩, ⟨(some 6), none, (.len false (.t 5))⟩, ⟨(some 7), none, (.mkslice 4 16 (.agg [(.flt .f32 0), (.flt .f32 0), (.flt .f32 0), (.flt .f32 0)]) (.t 6) (.t 6))⟩, ⟨(some 3), none, (.mov (.t 7))⟩] [0, 3]) (.seq (.seq (.reg [⟨(some 4), none, (.mov (.c (.int .i64 0)))⟩] [0, 3, 4]) (.block 0 (.loop lb77_0))) (.seq (.reg [⟨(some 22), none, (.mov (.t 3))⟩, ⟨(some 2), none, (.mov (.t 22))⟩] [2]) .ret))))
def cp77 : CP := CP.mk [] [] [[0], [0, 3], [0, 3, 4], [0, 3, 4, 11], [0, 3, 4], [0, 3, 4], [2]] 23 [] []
theorem sl77_0 (x0 : (List (Nat × Nat × Nat × Nat))) : ∀ (n : Nat) (z0_0 : (List (Nat × Nat × Nat × Nat))) (z0_1 : Int) (o : (List (Nat × Nat × Nat × Nat))) (K : IExit → St → Prop), l_laws_toTurnS_0 x0 n z0_0 z0_1 = some o → (∀ st, Wk st (⟨[(3, (.lsl 7 0 (List.length o)))], [(7, (some ⟨4, true, (List.map en0 o)⟩))]⟩ : St) → K (.exit 0) st) → eA (tabOf [(25, wM .any g_laws_toTurn)]) (.loop lb77_0) (⟨[(0, (.sl (List.map en0 x0))), (3, (.lsl 7 0 (List.length z0_0))), (4, (.int .i64 z0_1))], [(7, (some ⟨4, true, (List.map en0 z0_0)⟩))]⟩ : St) K := by
  intro n
  induction n with
  | zero =>
    intro z0_0 z0_1 o K h h0
    simp only [l_laws_toTurnS_0, reduceCtorEq] at h
  | succ n ih =>
    intro z0_0 z0_1 o K h h0
    refine eA_loop ?_
    unfold lb77_0
    unfold l_laws_toTurnS_0 at h
    (try simp only [need_iff] at h)
    simp only [
      need_iff, h, grpA, vsliceS, grpS, grpD, grpF, grpL, eop, vop, bop, uop, fltop, convop, endOk, newE, new1, freshL, Md.isNew, outV, pureV, pureX, pure1, AV.cells, AV.one, storable, laid, refless, refless1, vload, loadC, storeC, vnil, vfaddr, vextract, flatT, flatE, flatC, vconv, vmm, vidxA, viaddrA, vfield, vlen, elemsOf, dF32, dF64, dI64, dU8, dBool, dStr, esOk, elemsS, vsliceX, bnd, ownV, ownC, own1, ownT, isSl, nSl, endL, Md.isOwn, purge, purgeH, purgeB, purgeE, hasName, name1, List.any_cons, List.any_nil, Md.isWr, pureV.pureP, Option.map, reduceIte, Nat.reduceEqDiff, Nat.reduceAdd, Nat.reduceMul, Nat.reduceLT, Nat.reduceLeDiff, List.mapM_cons, List.mapM_nil, Option.pure_def, Option.bind_eq_bind, Option.bind_some, implies_true, forall_const, beq_self_eq_true, decide_true, decide_false, eq_self, Int.reduceEq, Int.reduceLE, Int.reduceLT, if_true, if_false, grpK, Int.reduceAdd, Int.reduceSub, Int.reduceMul, Int.reduceNeg, Int.reducePow, Nat.reducePow, Int.reduceToNat, Nat.reduceSub, List.replicate, Nat.reduceBEq, wAs, wA, wC, zipW, noDupN, grpE, beq_true, beq_false, g_laws_toTurn, grpC, en0, dc_en0]
    repeat' (first
      | ((first | (refine eGI_of (fun hc => ?_) (fun hc => ?_)) | (refine eCc_of (fun hc => ?_) (fun hc => ?_)) | (have hc := True.intro; refine KW_refl ?_)) <;> (try simp only [Bool.not_eq_true', Bool.not_eq_false'] at hc) <;> (try simp only [hc, need_iff, reduceCtorEq, grpN, Int.reduceEq, Int.reduceLT, Int.reduceLE, if_true, if_false, reduceIte] at h) <;> (first | (have hc2 := hc; simp only [decide_eq_true_eq, decide_eq_false_iff_not] at hc2; (first | (replace hc2 := eq_false hc2) | (replace hc2 := eq_true hc2)); (try simp only [hc2, need_iff, reduceCtorEq, grpN, Int.reduceEq, Int.reduceLT, Int.reduceLE, if_true, if_false, reduceIte] at h); replace h := And.intro hc2 h) | (replace h := And.intro hc h) | skip) <;> simp only [hc,
      need_iff, h, grpA, vsliceS, grpS, grpD, grpF, grpL, eop, vop, bop, uop, fltop, convop, endOk, newE, new1, freshL, Md.isNew, outV, pureV, pureX, pure1, AV.cells, AV.one, storable, laid, refless, refless1, vload, loadC, storeC, vnil, vfaddr, vextract, flatT, flatE, flatC, vconv, vmm, vidxA, viaddrA, vfield, vlen, elemsOf, dF32, dF64, dI64, dU8, dBool, dStr, esOk, elemsS, vsliceX, bnd, ownV, ownC, own1, ownT, isSl, nSl, endL, Md.isOwn, purge, purgeH, purgeB, purgeE, hasName, name1, List.any_cons, List.any_nil, Md.isWr, pureV.pureP, Option.map, reduceIte, Nat.reduceEqDiff, Nat.reduceAdd, Nat.reduceMul, Nat.reduceLT, Nat.reduceLeDiff, List.mapM_cons, List.mapM_nil, Option.pure_def, Option.bind_eq_bind, Option.bind_some, implies_true, forall_const, beq_self_eq_true, decide_true, decide_false, eq_self, Int.reduceEq, Int.reduceLE, Int.reduceLT, if_true, if_false, grpK, Int.reduceAdd, Int.reduceSub, Int.reduceMul, Int.reduceNeg, Int.reducePow, Nat.reducePow, Int.reduceToNat, Nat.reduceSub, List.replicate, Nat.reduceBEq, wAs, wA, wC, zipW, noDupN, grpE, beq_true, beq_false, g_laws_toTurn, grpC, en0, dc_en0]))
    all_goals (have hf := h)
    all_goals (repeat (replace h := And.right h))
    all_goals ((first | (refine eA_wk (wk_norm (ks := [0, 3, 4]) (ls := [7]) ?_) (eA_cast ?_ (ih _ _ _ _ h h0))) | (cases h; have h := True.intro; refine h0 _ (Wk.cast (wk_norm (ks := [3]) (ls := [7]) ?_) ?_))) <;> simp only [normOk, optIn, blkIn, nameIn, normS, List.map_append, List.length_append, List.map_set, List.length_set, List.map_replicate, List.length_replicate, List.map_nil, List.map_cons,
      need_iff, h, hf, grpA, vsliceS, grpS, grpD, grpF, grpL, eop, vop, bop, uop, fltop, convop, endOk, newE, new1, freshL, Md.isNew, outV, pureV, pureX, pure1, AV.cells, AV.one, storable, laid, refless, refless1, vload, loadC, storeC, vnil, vfaddr, vextract, flatT, flatE, flatC, vconv, vmm, vidxA, viaddrA, vfield, vlen, elemsOf, dF32, dF64, dI64, dU8, dBool, dStr, esOk, elemsS, vsliceX, bnd, ownV, ownC, own1, ownT, isSl, nSl, endL, Md.isOwn, purge, purgeH, purgeB, purgeE, hasName, name1, List.any_cons, List.any_nil, Md.isWr, pureV.pureP, Option.map, reduceIte, Nat.reduceEqDiff, Nat.reduceAdd, Nat.reduceMul, Nat.reduceLT, Nat.reduceLeDiff, List.mapM_cons, List.mapM_nil, Option.pure_def, Option.bind_eq_bind, Option.bind_some, implies_true, forall_const, beq_self_eq_true, decide_true, decide_false, eq_self, Int.reduceEq, Int.reduceLE, Int.reduceLT, if_true, if_false, grpK, Int.reduceAdd, Int.reduceSub, Int.reduceMul, Int.reduceNeg, Int.reducePow, Nat.reducePow, Int.reduceToNat, Nat.reduceSub, List.replicate, Nat.reduceBEq, wAs, wA, wC, zipW, noDupN, grpE, beq_true, beq_false, g_laws_toTurn, grpC, en0, dc_en0] <;> first | rfl | (simp only [Nat.add_comm]; done))
theorem s77 : ∀ vs r, g_laws_toTurnS vs = some r → SaysM Try.prog (.own [4]) 77 vs r := by
  intro vs r h
  unfold g_laws_toTurnS at h
  split at h
  · rename_i w0
    cases hd_y0 : decL dc_en0 w0 with
    | none => rw [hd_y0] at h; cases h
    | some y0 =>
    rw [hd_y0] at h
    obtain rfl := decL_inv dc_en0_inv hd_y0
    clear hd_y0
    dsimp only at h
    split at h
    · rename_i hp
      cases h
      refine spec_of (m := (.own [4])) (tab := tabOf [(25, wM .any g_laws_toTurn)]) (cp := cp77) (ic := ic77) (rvl := [(.t 2)]) hm (tabOk_cons (m := .any) s25 tabOk_nil) Try.func77 rfl rfl rfl (by kernel_rfl) rfl (Nat.le_of_ble_eq_true rfl) (Nat.le_of_ble_eq_true rfl) ?_
      show eA _ _ _ _
      unfold ic77
      simp only [p_laws_toTurnS, Bool.and_eq_true, Bool.or_eq_true, decide_eq_true_eq, Bool.not_eq_true', decide_eq_false_iff_not] at hp
      refine eS_to ?_
      repeat' (first
        | ((first | (have h := True.intro; refine eS_of ?_) | (refine eGI_of (fun h => ?_) (fun h => ?_)) | (refine eCc_of (fun h => ?_) (fun h => ?_)) | (have h := True.intro; refine KW_refl ?_)) <;> (try simp only [Bool.not_eq_true', Bool.not_eq_false'] at h) <;> (try first | exact absurd (Eq.trans (Eq.symm h) (by assumption)) Bool.false_ne_true | exact absurd (Eq.trans (Eq.symm h) (by assumption)) (Ne.symm Bool.false_ne_true)) <;> (try simp only [h, reduceCtorEq, grpN, Int.reduceEq, Int.reduceLT, Int.reduceLE, if_true, if_false, reduceIte] at hp) <;> (first | (have h2 := h; simp only [decide_eq_true_eq, decide_eq_false_iff_not] at h2; (first | (replace h2 := eq_false h2) | (replace h2 := eq_true h2)); (try simp only [h2, reduceCtorEq, grpN, Int.reduceEq, Int.reduceLT, Int.reduceLE, if_true, if_false, reduceIte] at hp); replace hp := And.intro h2 hp) | (replace hp := And.intro h hp) | skip) <;> simp only [h,
          hp, grpA, vsliceS, grpS, grpD, grpF, grpL, eop, vop, bop, uop, fltop, convop, endOk, newE, new1, freshL, Md.isNew, outV, pureV, pureX, pure1, AV.cells, AV.one, storable, laid, refless, refless1, vload, loadC, storeC, vnil, vfaddr, vextract, flatT, flatE, flatC, vconv, vmm, vidxA, viaddrA, vfield, vlen, elemsOf, dF32, dF64, dI64, dU8, dBool, dStr, esOk, elemsS, vsliceX, bnd, ownV, ownC, own1, ownT, isSl, nSl, endL, Md.isOwn, purge, purgeH, purgeB, purgeE, hasName, name1, List.any_cons, List.any_nil, Md.isWr, pureV.pureP, Option.map, reduceIte, Nat.reduceEqDiff, Nat.reduceAdd, Nat.reduceMul, Nat.reduceLT, Nat.reduceLeDiff, List.mapM_cons, List.mapM_nil, Option.pure_def, Option.bind_eq_bind, Option.bind_some, implies_true, forall_const, beq_self_eq_true, decide_true, decide_false, eq_self, Int.reduceEq, Int.reduceLE, Int.reduceLT, if_true, if_false, grpK, Int.reduceAdd, Int.reduceSub, Int.reduceMul, Int.reduceNeg, Int.reducePow, Nat.reducePow, Int.reduceToNat, Nat.reduceSub, List.replicate, Nat.reduceBEq, wAs, wA, wC, zipW, noDupN, grpE, beq_true, beq_false, g_laws_toTurn, grpC, en0, dc_en0])
        | (refine eA_wk (wk_norm (ks := [0, 3, 4]) (ls := [7]) ?_) (eA_cast ?_ (sl77_0 y0 _ _ _ _ _ (getD_some (d := default) (x := (l_laws_toTurnS_0 y0 (Int.toNat (((List.length y0 : Nat) : Int) - 0) + 2) (List.replicate (Int.toNat ((List.length y0 : Nat) : Int)) (0, 0, 0, 0)) 0)) ?_) ?_)); (iterate 2 (simp only [nilS, nilV, normOk, optIn, blkIn, nameIn, normS, List.map_append, List.length_append, List.map_set, List.length_set, List.map_replicate, List.length_replicate, List.map_nil, List.map_cons,
          hp, grpA, vsliceS, grpS, grpD, grpF, grpL, eop, vop, bop, uop, fltop, convop, endOk, newE, new1, freshL, Md.isNew, outV, pureV, pureX, pure1, AV.cells, AV.one, storable, laid, refless, refless1, vload, loadC, storeC, vnil, vfaddr, vextract, flatT, flatE, flatC, vconv, vmm, vidxA, viaddrA, vfield, vlen, elemsOf, dF32, dF64, dI64, dU8, dBool, dStr, esOk, elemsS, vsliceX, bnd, ownV, ownC, own1, ownT, isSl, nSl, endL, Md.isOwn, purge, purgeH, purgeB, purgeE, hasName, name1, List.any_cons, List.any_nil, Md.isWr, pureV.pureP, Option.map, reduceIte, Nat.reduceEqDiff, Nat.reduceAdd, Nat.reduceMul, Nat.reduceLT, Nat.reduceLeDiff, List.mapM_cons, List.mapM_nil, Option.pure_def, Option.bind_eq_bind, Option.bind_some, implies_true, forall_const, beq_self_eq_true, decide_true, decide_false, eq_self, Int.reduceEq, Int.reduceLE, Int.reduceLT, if_true, if_false, grpK, Int.reduceAdd, Int.reduceSub, Int.reduceMul, Int.reduceNeg, Int.reducePow, Nat.reducePow, Int.reduceToNat, Nat.reduceSub, List.replicate, Nat.reduceBEq, wAs, wA, wC, zipW, noDupN, grpE, beq_true, beq_false, g_laws_toTurn, grpC, en0, dc_en0] <;> first | rfl | (simp only [Nat.add_comm]; done))); (simp only [hp]); (
        intro st2 hw; (try simp only [reduceCtorEq, grpN, Int.reduceEq, Int.reduceLT, Int.reduceLE, if_true, if_false, reduceIte] at hp); (try replace hp := And.intro ht hp); simp only [
Kq_exit, Kq_normal, Kq_ret, Kb_exit, Kb_normal, Kb_ret, Kl_exit, Kl_normal, Kl_ret, reduceIte, Nat.reduceEqDiff, if_true, if_false, eq_self]; refine KW_of hw ?_; simp only [
          hp, grpA, vsliceS, grpS, grpD, grpF, grpL, eop, vop, bop, uop, fltop, convop, endOk, newE, new1, freshL, Md.isNew, outV, pureV, pureX, pure1, AV.cells, AV.one, storable, laid, refless, refless1, vload, loadC, storeC, vnil, vfaddr, vextract, flatT, flatE, flatC, vconv, vmm, vidxA, viaddrA, vfield, vlen, elemsOf, dF32, dF64, dI64, dU8, dBool, dStr, esOk, elemsS, vsliceX, bnd, ownV, ownC, own1, ownT, isSl, nSl, endL, Md.isOwn, purge, purgeH, purgeB, purgeE, hasName, name1, List.any_cons, List.any_nil, Md.isWr, pureV.pureP, Option.map, reduceIte, Nat.reduceEqDiff, Nat.reduceAdd, Nat.reduceMul, Nat.reduceLT, Nat.reduceLeDiff, List.mapM_cons, List.mapM_nil, Option.pure_def, Option.bind_eq_bind, Option.bind_some, implies_true, forall_const, beq_self_eq_true, decide_true, decide_false, eq_self, Int.reduceEq, Int.reduceLE, Int.reduceLT, if_true, if_false, grpK, Int.reduceAdd, Int.reduceSub, Int.reduceMul, Int.reduceNeg, Int.reducePow, Nat.reducePow, Int.reduceToNat, Nat.reduceSub, List.replicate, Nat.reduceBEq, wAs, wA, wC, zipW, noDupN, grpE, beq_true, beq_false, g_laws_toTurn, grpC, en0, dc_en0])))
      all_goals (try simp only [*, m_laws_toTurnS, Bool.and_true, Bool.true_and, Bool.and_false, Bool.false_and, Bool.or_true, Bool.true_or, Bool.or_false, Bool.false_or, Bool.not_true, Bool.not_false, Bool.false_eq_true, if_true, if_false, reduceIte, decide_true, decide_false])
      all_goals (try (simp_all; done))
    · cases h
  · cases h
def m_laws_toPose (x0 : (Nat × Nat × Nat × (List (Nat × Nat × Nat × Nat)))) : (Nat × Nat × Nat × (List (Nat × Nat × Nat × Nat))) := ((m_laws_toVector (x0.1, x0.2.1, x0.2.2.1)).1, (m_laws_toVector (x0.1, x0.2.1, x0.2.2.1)).2.1, (m_laws_toVector (x0.1, x0.2.1, x0.2.2.1)).2.2, (m_laws_toTurnS x0.2.2.2))
def p_laws_toPose (x0 : (Nat × Nat × Nat × (List (Nat × Nat × Nat × Nat)))) : Bool := (p_laws_toTurnS x0.2.2.2)
def g_laws_toPose : List AV → Option AV
  | [.agg [.flt .f32 y0, .flt .f32 y1, .flt .f32 y2, .sl w3]] => (match decL dc_en0 w3 with | some y3 => (if p_laws_toPose (y0, y1, y2, y3) = true then some (AV.agg [(.flt .f32 (m_laws_toPose (y0, y1, y2, y3)).1), (.flt .f32 (m_laws_toPose (y0, y1, y2, y3)).2.1), (.flt .f32 (m_laws_toPose (y0, y1, y2, y3)).2.2.1), (.sl (List.map en0 (m_laws_toPose (y0, y1, y2, y3)).2.2.2))]) else none) | none => none)
  | _ => none
def ic35 : ICode := (.seq (.reg [⟨(some 1), none, (.box 4 (.t 0))⟩, ⟨(some 2), none, (.alloc (.agg [(.flt .f32 0), (.flt .f32 0), (.flt .f32 0), .snil]))⟩] [1, 2]) (.seq (.reg [⟨(some 3), none, (.alloc (.agg [(.flt .f32 0), (.flt .f32 0), (.flt .f32 0), .snil]))⟩] [1, 2, 3]) (.seq (.reg [⟨(some 4), none, (.faddr 0 (.t 1))⟩, ⟨(some 5), none, (.load (some 3) (.t 4))⟩, ⟨(some 6), none, (.call (.fn 76) [(.t 5)] [])⟩, ⟨(some 7), none, (.faddr 0 (.t 3))⟩, ⟨none, none, (.store 3 (.t 7) (.t 6))⟩] [1, 2, 3]) (.seq (.reg [⟨(some 8), none, (.faddr 3 (.t 1))⟩, ⟨(some 9), none, (.load none (.t 8))⟩, ⟨(some 10), none, (.call (.fn 77) [(.t 9)] [4])⟩, ⟨(some 11), none, (.faddr 3 (.t 3))⟩, ⟨none, none, (.store 1 (.t 11) (.t 10))⟩] [2, 3]) (.seq (.reg [⟨(some 12), none, (.load (some 4) (.t 3))⟩, ⟨none, none, (.store 4 (.t 2) (.t 12))⟩] [2]) .ret)))))
def cp35 : CP := CP.mk [(10, [4])] [] [[1, 2], [1, 2, 3], [1, 2, 3], [2, 3], [2]] 13 [] []
theorem s35 : ∀ vs r, g_laws_toPose vs = some r → SaysM Try.prog (.own [4]) 35 vs r := by
  intro vs r h
  unfold g_laws_toPose at h
  split at h
  · rename_i y0 y1 y2 w3
    cases hd_y3 : decL dc_en0 w3 with
    | none => rw [hd_y3] at h; cases h
    | some y3 =>
    rw [hd_y3] at h
    obtain rfl := decL_inv dc_en0_inv hd_y3
    clear hd_y3
    dsimp only at h
    split at h
    · rename_i hp
      cases h
      refine spec_of (m := (.own [4])) (tab := tabOf [(76, wM .any g_laws_toVector), (77, wM (.own [4]) g_laws_toTurnS)]) (cp := cp35) (ic := ic35) (rvl := [(.c 2 (some 4))]) hm (tabOk_cons (m := .any) s76 (tabOk_cons (m := (.own [4])) s77 tabOk_nil)) Try.func35 rfl rfl rfl (by kernel_rfl) rfl (Nat.le_of_ble_eq_true rfl) (Nat.le_of_ble_eq_true rfl) ?_
      show eA _ _ _ _
      unfold ic35
      simp only [p_laws_toPose, Bool.and_eq_true, Bool.or_eq_true, decide_eq_true_eq, Bool.not_eq_true', decide_eq_false_iff_not] at hp
      simp only [
          hp, grpA, vsliceS, grpS, grpD, grpF, grpL, eop, vop, bop, uop, fltop, convop, endOk, newE, new1, freshL, Md.isNew, outV, pureV, pureX, pure1, AV.cells, AV.one, storable, laid, refless, refless1, vload, loadC, storeC, vnil, vfaddr, vextract, flatT, flatE, flatC, vconv, vmm, vidxA, viaddrA, vfield, vlen, elemsOf, dF32, dF64, dI64, dU8, dBool, dStr, esOk, elemsS, vsliceX, bnd, ownV, ownC, own1, ownT, isSl, nSl, endL, Md.isOwn, purge, purgeH, purgeB, purgeE, hasName, name1, List.any_cons, List.any_nil, Md.isWr, pureV.pureP, Option.map, reduceIte, Nat.reduceEqDiff, Nat.reduceAdd, Nat.reduceMul, Nat.reduceLT, Nat.reduceLeDiff, List.mapM_cons, List.mapM_nil, Option.pure_def, Option.bind_eq_bind, Option.bind_some, implies_true, forall_const, beq_self_eq_true, decide_true, decide_false, eq_self, Int.reduceEq, Int.reduceLE, Int.reduceLT, if_true, if_false, grpK, Int.reduceAdd, Int.reduceSub, Int.reduceMul, Int.reduceNeg, Int.reducePow, Nat.reducePow, Int.reduceToNat, Nat.reduceSub, List.replicate, Nat.reduceBEq, wAs, wA, wC, zipW, noDupN, grpE, beq_true, beq_false, g_laws_toVector, g_laws_toTurnS, grpC, en0, dc_en0]
      all_goals (try simp only [*, m_laws_toPose, Bool.and_true, Bool.true_and, Bool.and_false, Bool.false_and, Bool.or_true, Bool.true_or, Bool.or_false, Bool.false_or, Bool.not_true, Bool.not_false, Bool.false_eq_true, if_true, if_false, reduceIte, decide_true, decide_false])
      all_goals (try (simp_all; done))
    · cases h
  · cases h
def m_spec_l00In (x0 : Int) (x1 : Int) (x2 : Int) : Bool := (if (decide (x1 ≤ x0)) = true then (decide (x0 ≤ x2)) else false)
def g_spec_l00In : List AV → Option AV
  | [.int .i64 y0, .int .i64 y1, .int .i64 y2] => some (.bool (m_spec_l00In y0 y1 y2))
  | _ => none
def ic44 : ICode := (.seq (.reg [⟨(some 6), none, (.mov (.c (.bool false)))⟩] [0, 1, 2]) (.seq (.reg [⟨(some 7), none, (.mov (.t 0))⟩, ⟨(some 8), none, (.mov (.t 1))⟩, ⟨(some 9), none, (.bin .geq false (.t 7) (.t 8))⟩, ⟨(some 10), none, (.mov (.t 9))⟩, ⟨(some 11), (some (10, true)), (.mov (.t 0))⟩, ⟨(some 12), (some (10, true)), (.mov (.t 2))⟩, ⟨(some 13), (some (10, true)), (.bin .leq false (.t 11) (.t 12))⟩, ⟨(some 14), none, (.pick (.t 10) (.t 13) (.c (.bool false)))⟩, ⟨(some 6), none, (.mov (.t 14))⟩] [6]) .ret))
def cp44 : CP := CP.mk [] [] [[0, 1, 2], [6]] 15 [] []
theorem s44 : ∀ vs r, g_spec_l00In vs = some r → SaysM Try.prog .any 44 vs r := by
  intro vs r h
  unfold g_spec_l00In at h
  split at h
  · rename_i y0 y1 y2
    cases h
    refine spec_of (m := .any) (tab := tabOf []) (cp := cp44) (ic := ic44) (rvl := [(.t 6)]) hm tabOk_nil Try.func44 rfl rfl rfl (by kernel_rfl) rfl (Nat.le_of_ble_eq_true rfl) (Nat.le_of_ble_eq_true rfl) ?_
    show eA _ _ _ _
    unfold ic44
    refine eS_to ?_
    repeat' (first
      | ((first | (have h := True.intro; refine eS_of ?_) | (refine eGI_of (fun h => ?_) (fun h => ?_)) | (refine eCc_of (fun h => ?_) (fun h => ?_)) | (refine ePk_of (fun h => ?_) (fun h => ?_))) <;> (try simp only [Bool.not_eq_true', Bool.not_eq_false'] at h) <;> (try first | exact absurd (Eq.trans (Eq.symm h) (by assumption)) Bool.false_ne_true | exact absurd (Eq.trans (Eq.symm h) (by assumption)) (Ne.symm Bool.false_ne_true)) <;> simp only [h,
        grpA, vsliceS, grpS, grpD, grpF, grpL, eop, vop, bop, uop, fltop, convop, endOk, newE, new1, freshL, Md.isNew, outV, pureV, pureX, pure1, AV.cells, AV.one, storable, laid, refless, refless1, vload, loadC, storeC, vnil, vfaddr, vextract, flatT, flatE, flatC, vconv, vmm, vidxA, viaddrA, vfield, vlen, elemsOf, dF32, dF64, dI64, dU8, dBool, dStr, esOk, elemsS, vsliceX, bnd, ownV, ownC, own1, ownT, isSl, nSl, endL, Md.isOwn, purge, purgeH, purgeB, purgeE, hasName, name1, List.any_cons, List.any_nil, Md.isWr, pureV.pureP, Option.map, reduceIte, Nat.reduceEqDiff, Nat.reduceAdd, Nat.reduceMul, Nat.reduceLT, Nat.reduceLeDiff, List.mapM_cons, List.mapM_nil, Option.pure_def, Option.bind_eq_bind, Option.bind_some, implies_true, forall_const, beq_self_eq_true, decide_true, decide_false, eq_self, Int.reduceEq, Int.reduceLE, Int.reduceLT, if_true, if_false, grpK, Int.reduceAdd, Int.reduceSub, Int.reduceMul, Int.reduceNeg, Int.reducePow, Nat.reducePow, Int.reduceToNat, Nat.reduceSub, List.replicate, Nat.reduceBEq, wAs, wA, wC, zipW, noDupN, grpE, beq_true, beq_false, grpC, en0, dc_en0, ↓b_pick, ePk_true, ePk_false]))
    all_goals (try simp only [*, m_spec_l00In, Bool.and_true, Bool.true_and, Bool.and_false, Bool.false_and, Bool.or_true, Bool.true_or, Bool.or_false, Bool.false_or, Bool.not_true, Bool.not_false, Bool.false_eq_true, if_true, if_false, reduceIte, decide_true, decide_false])
    all_goals (try (simp_all; done))
  · cases h
def m_spec_l06Bits (x0 : Int) : Bool := (m_spec_l00In x0 2 16)
def g_spec_l06Bits : List AV → Option AV
  | [.int .i64 y0] => some (.bool (m_spec_l06Bits y0))
  | _ => none
def ic47 : ICode := (.seq (.reg [⟨(some 2), none, (.mov (.c (.bool false)))⟩] [0]) (.seq (.reg [⟨(some 3), none, (.mov (.t 0))⟩, ⟨(some 4), none, (.call (.fn 44) [(.t 3), (.c (.int .i64 2)), (.c (.int .i64 16))] [])⟩, ⟨(some 2), none, (.mov (.t 4))⟩] [2]) .ret))
def cp47 : CP := CP.mk [] [] [[0], [2]] 5 [] []
theorem s47 : ∀ vs r, g_spec_l06Bits vs = some r → SaysM Try.prog .any 47 vs r := by
  intro vs r h
  unfold g_spec_l06Bits at h
  split at h
  · rename_i y0
    cases h
    refine spec_of (m := .any) (tab := tabOf [(44, wM .any g_spec_l00In)]) (cp := cp47) (ic := ic47) (rvl := [(.t 2)]) hm (tabOk_cons (m := .any) s44 tabOk_nil) Try.func47 rfl rfl rfl (by kernel_rfl) rfl (Nat.le_of_ble_eq_true rfl) (Nat.le_of_ble_eq_true rfl) ?_
    show eA _ _ _ _
    unfold ic47
    simp only [
        grpA, vsliceS, grpS, grpD, grpF, grpL, eop, vop, bop, uop, fltop, convop, endOk, newE, new1, freshL, Md.isNew, outV, pureV, pureX, pure1, AV.cells, AV.one, storable, laid, refless, refless1, vload, loadC, storeC, vnil, vfaddr, vextract, flatT, flatE, flatC, vconv, vmm, vidxA, viaddrA, vfield, vlen, elemsOf, dF32, dF64, dI64, dU8, dBool, dStr, esOk, elemsS, vsliceX, bnd, ownV, ownC, own1, ownT, isSl, nSl, endL, Md.isOwn, purge, purgeH, purgeB, purgeE, hasName, name1, List.any_cons, List.any_nil, Md.isWr, pureV.pureP, Option.map, reduceIte, Nat.reduceEqDiff, Nat.reduceAdd, Nat.reduceMul, Nat.reduceLT, Nat.reduceLeDiff, List.mapM_cons, List.mapM_nil, Option.pure_def, Option.bind_eq_bind, Option.bind_some, implies_true, forall_const, beq_self_eq_true, decide_true, decide_false, eq_self, Int.reduceEq, Int.reduceLE, Int.reduceLT, if_true, if_false, grpK, Int.reduceAdd, Int.reduceSub, Int.reduceMul, Int.reduceNeg, Int.reducePow, Nat.reducePow, Int.reduceToNat, Nat.reduceSub, List.replicate, Nat.reduceBEq, wAs, wA, wC, zipW, noDupN, grpE, beq_true, beq_false, g_spec_l00In, grpC, en0, dc_en0]
    all_goals (try simp only [*, m_spec_l06Bits, Bool.and_true, Bool.true_and, Bool.and_false, Bool.false_and, Bool.or_true, Bool.true_or, Bool.or_false, Bool.false_or, Bool.not_true, Bool.not_false, Bool.false_eq_true, if_true, if_false, reduceIte, decide_true, decide_false])
    all_goals (try (simp_all; done))
  · cases h
def m_spec_l01Finite (x0 : Nat) : Bool := (feq .f32 (fsub .f32 x0 x0) 0)
def g_spec_l01Finite : List AV → Option AV
  | [.flt .f32 y0] => some (.bool (m_spec_l01Finite y0))
  | _ => none
def ic88 : ICode := (.seq (.reg [⟨(some 2), none, (.mov (.c (.bool false)))⟩] [0]) (.seq (.reg [⟨(some 3), none, (.mov (.t 0))⟩, ⟨(some 4), none, (.mov (.t 0))⟩, ⟨(some 5), none, (.bin .sub false (.t 3) (.t 4))⟩, ⟨(some 6), none, (.bin .eql false (.t 5) (.c (.flt .f32 0)))⟩, ⟨(some 2), none, (.mov (.t 6))⟩] [2]) .ret))
def cp88 : CP := CP.mk [] [] [[0], [2]] 7 [] []
theorem s88 : ∀ vs r, g_spec_l01Finite vs = some r → SaysM Try.prog .any 88 vs r := by
  intro vs r h
  unfold g_spec_l01Finite at h
  split at h
  · rename_i y0
    cases h
    refine spec_of (m := .any) (tab := tabOf []) (cp := cp88) (ic := ic88) (rvl := [(.t 2)]) hm tabOk_nil Try.func88 rfl rfl rfl (by kernel_rfl) rfl (Nat.le_of_ble_eq_true rfl) (Nat.le_of_ble_eq_true rfl) ?_
    show eA _ _ _ _
    unfold ic88
    simp only [
        grpA, vsliceS, grpS, grpD, grpF, grpL, eop, vop, bop, uop, fltop, convop, endOk, newE, new1, freshL, Md.isNew, outV, pureV, pureX, pure1, AV.cells, AV.one, storable, laid, refless, refless1, vload, loadC, storeC, vnil, vfaddr, vextract, flatT, flatE, flatC, vconv, vmm, vidxA, viaddrA, vfield, vlen, elemsOf, dF32, dF64, dI64, dU8, dBool, dStr, esOk, elemsS, vsliceX, bnd, ownV, ownC, own1, ownT, isSl, nSl, endL, Md.isOwn, purge, purgeH, purgeB, purgeE, hasName, name1, List.any_cons, List.any_nil, Md.isWr, pureV.pureP, Option.map, reduceIte, Nat.reduceEqDiff, Nat.reduceAdd, Nat.reduceMul, Nat.reduceLT, Nat.reduceLeDiff, List.mapM_cons, List.mapM_nil, Option.pure_def, Option.bind_eq_bind, Option.bind_some, implies_true, forall_const, beq_self_eq_true, decide_true, decide_false, eq_self, Int.reduceEq, Int.reduceLE, Int.reduceLT, if_true, if_false, grpK, Int.reduceAdd, Int.reduceSub, Int.reduceMul, Int.reduceNeg, Int.reducePow, Nat.reducePow, Int.reduceToNat, Nat.reduceSub, List.replicate, Nat.reduceBEq, wAs, wA, wC, zipW, noDupN, grpE, beq_true, beq_false, grpC, en0, dc_en0]
    all_goals (try simp only [*, m_spec_l01Finite, Bool.and_true, Bool.true_and, Bool.and_false, Bool.false_and, Bool.or_true, Bool.true_or, Bool.or_false, Bool.false_or, Bool.not_true, Bool.not_false, Bool.false_eq_true, if_true, if_false, reduceIte, decide_true, decide_false])
    all_goals (try (simp_all; done))
  · cases h
def m_spec_l06Reach (x0 : Nat) : Bool := (if (m_spec_l01Finite x0) = true then (flt .f32 0 x0) else false)
def g_spec_l06Reach : List AV → Option AV
  | [.flt .f32 y0] => some (.bool (m_spec_l06Reach y0))
  | _ => none
def ic94 : ICode := (.seq (.reg [⟨(some 2), none, (.mov (.c (.bool false)))⟩] [0]) (.seq (.reg [⟨(some 3), none, (.mov (.t 0))⟩, ⟨(some 4), none, (.call (.fn 88) [(.t 3)] [])⟩, ⟨(some 5), none, (.mov (.t 4))⟩, ⟨(some 6), (some (5, true)), (.mov (.t 0))⟩, ⟨(some 7), (some (5, true)), (.bin .gtr false (.t 6) (.c (.flt .f32 0)))⟩, ⟨(some 8), none, (.pick (.t 5) (.t 7) (.c (.bool false)))⟩, ⟨(some 2), none, (.mov (.t 8))⟩] [2]) .ret))
def cp94 : CP := CP.mk [] [] [[0], [2]] 9 [] []
theorem s94 : ∀ vs r, g_spec_l06Reach vs = some r → SaysM Try.prog .any 94 vs r := by
  intro vs r h
  unfold g_spec_l06Reach at h
  split at h
  · rename_i y0
    cases h
    refine spec_of (m := .any) (tab := tabOf [(88, wM .any g_spec_l01Finite)]) (cp := cp94) (ic := ic94) (rvl := [(.t 2)]) hm (tabOk_cons (m := .any) s88 tabOk_nil) Try.func94 rfl rfl rfl (by kernel_rfl) rfl (Nat.le_of_ble_eq_true rfl) (Nat.le_of_ble_eq_true rfl) ?_
    show eA _ _ _ _
    unfold ic94
    refine eS_to ?_
    repeat' (first
      | ((first | (have h := True.intro; refine eS_of ?_) | (refine eGI_of (fun h => ?_) (fun h => ?_)) | (refine eCc_of (fun h => ?_) (fun h => ?_)) | (refine ePk_of (fun h => ?_) (fun h => ?_))) <;> (try simp only [Bool.not_eq_true', Bool.not_eq_false'] at h) <;> (try first | exact absurd (Eq.trans (Eq.symm h) (by assumption)) Bool.false_ne_true | exact absurd (Eq.trans (Eq.symm h) (by assumption)) (Ne.symm Bool.false_ne_true)) <;> simp only [h,
        grpA, vsliceS, grpS, grpD, grpF, grpL, eop, vop, bop, uop, fltop, convop, endOk, newE, new1, freshL, Md.isNew, outV, pureV, pureX, pure1, AV.cells, AV.one, storable, laid, refless, refless1, vload, loadC, storeC, vnil, vfaddr, vextract, flatT, flatE, flatC, vconv, vmm, vidxA, viaddrA, vfield, vlen, elemsOf, dF32, dF64, dI64, dU8, dBool, dStr, esOk, elemsS, vsliceX, bnd, ownV, ownC, own1, ownT, isSl, nSl, endL, Md.isOwn, purge, purgeH, purgeB, purgeE, hasName, name1, List.any_cons, List.any_nil, Md.isWr, pureV.pureP, Option.map, reduceIte, Nat.reduceEqDiff, Nat.reduceAdd, Nat.reduceMul, Nat.reduceLT, Nat.reduceLeDiff, List.mapM_cons, List.mapM_nil, Option.pure_def, Option.bind_eq_bind, Option.bind_some, implies_true, forall_const, beq_self_eq_true, decide_true, decide_false, eq_self, Int.reduceEq, Int.reduceLE, Int.reduceLT, if_true, if_false, grpK, Int.reduceAdd, Int.reduceSub, Int.reduceMul, Int.reduceNeg, Int.reducePow, Nat.reducePow, Int.reduceToNat, Nat.reduceSub, List.replicate, Nat.reduceBEq, wAs, wA, wC, zipW, noDupN, grpE, beq_true, beq_false, g_spec_l01Finite, grpC, en0, dc_en0, ↓b_pick, ePk_true, ePk_false]))
    all_goals (try simp only [*, m_spec_l06Reach, Bool.and_true, Bool.true_and, Bool.and_false, Bool.false_and, Bool.or_true, Bool.true_or, Bool.or_false, Bool.false_or, Bool.not_true, Bool.not_false, Bool.false_eq_true, if_true, if_false, reduceIte, decide_true, decide_false])
    all_goals (try (simp_all; done))
  · cases h
def m_spec_l06Is (x0 : (Int × Int × Nat)) : Bool := (if (m_spec_l06Bits x0.1) = true then (if (m_spec_l06Bits x0.2.1) = true then (m_spec_l06Reach x0.2.2) else false) else false)
def g_spec_l06Is : List AV → Option AV
  | [.ptr (.agg [.int .i64 y0, .int .i64 y1, .flt .f32 y2]) 0] => some (.bool (m_spec_l06Is (y0, y1, y2)))
  | _ => none
def ic63 : ICode := (.seq (.reg [⟨(some 2), none, (.mov (.c (.bool false)))⟩] [0]) (.seq (.reg [⟨(some 3), none, (.mov (.t 0))⟩, ⟨(some 4), none, (.nilchk (.t 3))⟩, ⟨(some 5), none, (.faddr 0 (.t 4))⟩, ⟨(some 6), none, (.load none (.t 5))⟩, ⟨(some 7), none, (.call (.fn 47) [(.t 6)] [])⟩, ⟨(some 8), none, (.mov (.t 7))⟩, ⟨(some 9), (some (8, true)), (.mov (.t 0))⟩, ⟨(some 10), (some (8, true)), (.nilchk (.t 9))⟩, ⟨(some 11), (some (8, true)), (.faddr 1 (.t 10))⟩, ⟨(some 12), (some (8, true)), (.load none (.t 11))⟩, ⟨(some 13), (some (8, true)), (.call (.fn 47) [(.t 12)] [])⟩, ⟨(some 14), none, (.pick (.t 8) (.t 13) (.c (.bool false)))⟩, ⟨(some 15), none, (.mov (.t 14))⟩, ⟨(some 16), (some (15, true)), (.mov (.t 0))⟩, ⟨(some 17), (some (15, true)), (.nilchk (.t 16))⟩, ⟨(some 18), (some (15, true)), (.faddr 2 (.t 17))⟩, ⟨(some 19), (some (15, true)), (.load none (.t 18))⟩, ⟨(some 20), (some (15, true)), (.call (.fn 94) [(.t 19)] [])⟩, ⟨(some 21), none, (.pick (.t 15) (.t 20) (.c (.bool false)))⟩, ⟨(some 2), none, (.mov (.t 21))⟩] [2]) .ret))
def cp63 : CP := CP.mk [] [] [[0], [2]] 22 [] []
theorem s63 : ∀ vs r, g_spec_l06Is vs = some r → SaysM Try.prog .any 63 vs r := by
  intro vs r h
  unfold g_spec_l06Is at h
  split at h
  · rename_i y0 y1 y2
    cases h
    refine spec_of (m := .any) (tab := tabOf [(47, wM .any g_spec_l06Bits), (94, wM .any g_spec_l06Reach)]) (cp := cp63) (ic := ic63) (rvl := [(.t 2)]) hm (tabOk_cons (m := .any) s47 (tabOk_cons (m := .any) s94 tabOk_nil)) Try.func63 rfl rfl rfl (by kernel_rfl) rfl (Nat.le_of_ble_eq_true rfl) (Nat.le_of_ble_eq_true rfl) ?_
    show eA _ _ _ _
    unfold ic63
    refine eS_to ?_
    repeat' (first
      | ((first | (have h := True.intro; refine eS_of ?_) | (refine eGI_of (fun h => ?_) (fun h => ?_)) | (refine eCc_of (fun h => ?_) (fun h => ?_)) | (refine ePk_of (fun h => ?_) (fun h => ?_))) <;> (try simp only [Bool.not_eq_true', Bool.not_eq_false'] at h) <;> (try first | exact absurd (Eq.trans (Eq.symm h) (by assumption)) Bool.false_ne_true | exact absurd (Eq.trans (Eq.symm h) (by assumption)) (Ne.symm Bool.false_ne_true)) <;> simp only [h,
        grpA, vsliceS, grpS, grpD, grpF, grpL, eop, vop, bop, uop, fltop, convop, endOk, newE, new1, freshL, Md.isNew, outV, pureV, pureX, pure1, AV.cells, AV.one, storable, laid, refless, refless1, vload, loadC, storeC, vnil, vfaddr, vextract, flatT, flatE, flatC, vconv, vmm, vidxA, viaddrA, vfield, vlen, elemsOf, dF32, dF64, dI64, dU8, dBool, dStr, esOk, elemsS, vsliceX, bnd, ownV, ownC, own1, ownT, isSl, nSl, endL, Md.isOwn, purge, purgeH, purgeB, purgeE, hasName, name1, List.any_cons, List.any_nil, Md.isWr, pureV.pureP, Option.map, reduceIte, Nat.reduceEqDiff, Nat.reduceAdd, Nat.reduceMul, Nat.reduceLT, Nat.reduceLeDiff, List.mapM_cons, List.mapM_nil, Option.pure_def, Option.bind_eq_bind, Option.bind_some, implies_true, forall_const, beq_self_eq_true, decide_true, decide_false, eq_self, Int.reduceEq, Int.reduceLE, Int.reduceLT, if_true, if_false, grpK, Int.reduceAdd, Int.reduceSub, Int.reduceMul, Int.reduceNeg, Int.reducePow, Nat.reducePow, Int.reduceToNat, Nat.reduceSub, List.replicate, Nat.reduceBEq, wAs, wA, wC, zipW, noDupN, grpE, beq_true, beq_false, g_spec_l06Bits, g_spec_l06Reach, grpC, en0, dc_en0, ↓b_pick, ePk_true, ePk_false]))
    all_goals (try simp only [*, m_spec_l06Is, Bool.and_true, Bool.true_and, Bool.and_false, Bool.false_and, Bool.or_true, Bool.true_or, Bool.or_false, Bool.false_or, Bool.not_true, Bool.not_false, Bool.false_eq_true, if_true, if_false, reduceIte, decide_true, decide_false])
    all_goals (try (simp_all; done))
  · cases h
def m_spec_l03Few (x0 : (Nat × Nat × Nat × (List (Nat × Nat × Nat × Nat)))) : Bool := (if (decide (1 ≤ ((List.length x0.2.2.2 : Nat) : Int))) = true then (decide (((List.length x0.2.2.2 : Nat) : Int) ≤ 12)) else false)
def g_spec_l03Few : List AV → Option AV
  | [.ptr (.agg [.flt .f32 y0, .flt .f32 y1, .flt .f32 y2, .sl w3]) 0] => (match decL dc_en0 w3 with | some y3 => (some (.bool (m_spec_l03Few (y0, y1, y2, y3)))) | none => none)
  | _ => none
def ic98 : ICode := (.seq (.reg [⟨(some 2), none, (.mov (.c (.bool false)))⟩] [0]) (.seq (.reg [⟨(some 3), none, (.mov (.t 0))⟩, ⟨(some 4), none, (.nilchk (.t 3))⟩, ⟨(some 5), none, (.faddr 3 (.t 4))⟩, ⟨(some 6), none, (.load none (.t 5))⟩, ⟨(some 7), none, (.len false (.t 6))⟩, ⟨(some 8), none, (.bin .geq false (.t 7) (.c (.int .i64 1)))⟩, ⟨(some 9), none, (.mov (.t 8))⟩, ⟨(some 10), (some (9, true)), (.mov (.t 0))⟩, ⟨(some 11), (some (9, true)), (.nilchk (.t 10))⟩, ⟨(some 12), (some (9, true)), (.faddr 3 (.t 11))⟩, ⟨(some 13), (some (9, true)), (.load none (.t 12))⟩, ⟨(some 14), (some (9, true)), (.len false (.t 13))⟩, ⟨(some 15), (some (9, true)), (.bin .leq false (.t 14) (.c (.int .i64 12)))⟩, ⟨(some 16), none, (.pick (.t 9) (.t 15) (.c (.bool false)))⟩, ⟨(some 2), none, (.mov (.t 16))⟩] [2]) .ret))
def cp98 : CP := CP.mk [] [] [[0], [2]] 17 [] []
theorem s98 : ∀ vs r, g_spec_l03Few vs = some r → SaysM Try.prog .any 98 vs r := by
  intro vs r h
  unfold g_spec_l03Few at h
  split at h
  · rename_i y0 y1 y2 w3
    cases hd_y3 : decL dc_en0 w3 with
    | none => rw [hd_y3] at h; cases h
    | some y3 =>
    rw [hd_y3] at h
    obtain rfl := decL_inv dc_en0_inv hd_y3
    clear hd_y3
    dsimp only at h
    cases h
    refine spec_of (m := .any) (tab := tabOf []) (cp := cp98) (ic := ic98) (rvl := [(.t 2)]) hm tabOk_nil Try.func98 rfl rfl rfl (by kernel_rfl) rfl (Nat.le_of_ble_eq_true rfl) (Nat.le_of_ble_eq_true rfl) ?_
    show eA _ _ _ _
    unfold ic98
    refine eS_to ?_
    repeat' (first
      | ((first | (have h := True.intro; refine eS_of ?_) | (refine eGI_of (fun h => ?_) (fun h => ?_)) | (refine eCc_of (fun h => ?_) (fun h => ?_)) | (refine ePk_of (fun h => ?_) (fun h => ?_))) <;> (try simp only [Bool.not_eq_true', Bool.not_eq_false'] at h) <;> (try first | exact absurd (Eq.trans (Eq.symm h) (by assumption)) Bool.false_ne_true | exact absurd (Eq.trans (Eq.symm h) (by assumption)) (Ne.symm Bool.false_ne_true)) <;> simp only [h,
        grpA, vsliceS, grpS, grpD, grpF, grpL, eop, vop, bop, uop, fltop, convop, endOk, newE, new1, freshL, Md.isNew, outV, pureV, pureX, pure1, AV.cells, AV.one, storable, laid, refless, refless1, vload, loadC, storeC, vnil, vfaddr, vextract, flatT, flatE, flatC, vconv, vmm, vidxA, viaddrA, vfield, vlen, elemsOf, dF32, dF64, dI64, dU8, dBool, dStr, esOk, elemsS, vsliceX, bnd, ownV, ownC, own1, ownT, isSl, nSl, endL, Md.isOwn, purge, purgeH, purgeB, purgeE, hasName, name1, List.any_cons, List.any_nil, Md.isWr, pureV.pureP, Option.map, reduceIte, Nat.reduceEqDiff, Nat.reduceAdd, Nat.reduceMul, Nat.reduceLT, Nat.reduceLeDiff, List.mapM_cons, List.mapM_nil, Option.pure_def, Option.bind_eq_bind, Option.bind_some, implies_true, forall_const, beq_self_eq_true, decide_true, decide_false, eq_self, Int.reduceEq, Int.reduceLE, Int.reduceLT, if_true, if_false, grpK, Int.reduceAdd, Int.reduceSub, Int.reduceMul, Int.reduceNeg, Int.reducePow, Nat.reducePow, Int.reduceToNat, Nat.reduceSub, List.replicate, Nat.reduceBEq, wAs, wA, wC, zipW, noDupN, grpE, beq_true, beq_false, grpC, en0, dc_en0, ↓b_pick, ePk_true, ePk_false]))
    all_goals (try simp only [*, m_spec_l03Few, Bool.and_true, Bool.true_and, Bool.and_false, Bool.false_and, Bool.or_true, Bool.true_or, Bool.or_false, Bool.false_or, Bool.not_true, Bool.not_false, Bool.false_eq_true, if_true, if_false, reduceIte, decide_true, decide_false])
    all_goals (try (simp_all; done))
  · cases h
def m_spec_l06Vector (x0 : (Nat × Nat × Nat)) : Bool := (if (feq .f32 x0.1 x0.1) = true then (if (feq .f32 x0.2.1 x0.2.1) = true then (feq .f32 x0.2.2 x0.2.2) else false) else false)
def g_spec_l06Vector : List AV → Option AV
  | [.agg [.flt .f32 y0, .flt .f32 y1, .flt .f32 y2]] => some (.bool (m_spec_l06Vector (y0, y1, y2)))
  | _ => none
def ic99 : ICode := (.seq (.reg [⟨(some 1), none, (.box 3 (.t 0))⟩, ⟨(some 2), none, (.mov (.c (.bool false)))⟩] [1]) (.seq (.reg [⟨(some 3), none, (.faddr 0 (.t 1))⟩, ⟨(some 4), none, (.load none (.t 3))⟩, ⟨(some 5), none, (.faddr 0 (.t 1))⟩, ⟨(some 6), none, (.load none (.t 5))⟩, ⟨(some 7), none, (.bin .eql false (.t 4) (.t 6))⟩, ⟨(some 8), none, (.mov (.t 7))⟩, ⟨(some 9), (some (8, true)), (.faddr 1 (.t 1))⟩, ⟨(some 10), (some (8, true)), (.load none (.t 9))⟩, ⟨(some 11), (some (8, true)), (.faddr 1 (.t 1))⟩, ⟨(some 12), (some (8, true)), (.load none (.t 11))⟩, ⟨(some 13), (some (8, true)), (.bin .eql false (.t 10) (.t 12))⟩, ⟨(some 14), none, (.pick (.t 8) (.t 13) (.c (.bool false)))⟩, ⟨(some 15), none, (.mov (.t 14))⟩, ⟨(some 16), (some (15, true)), (.faddr 2 (.t 1))⟩, ⟨(some 17), (some (15, true)), (.load none (.t 16))⟩, ⟨(some 18), (some (15, true)), (.faddr 2 (.t 1))⟩, ⟨(some 19), (some (15, true)), (.load none (.t 18))⟩, ⟨(some 20), (some (15, true)), (.bin .eql false (.t 17) (.t 19))⟩, ⟨(some 21), none, (.pick (.t 15) (.t 20) (.c (.bool false)))⟩, ⟨(some 2), none, (.mov (.t 21))⟩] [2]) .ret))
def cp99 : CP := CP.mk [] [] [[1], [2]] 22 [] []
theorem s99 : ∀ vs r, g_spec_l06Vector vs = some r → SaysM Try.prog .any 99 vs r := by
  intro vs r h
  unfold g_spec_l06Vector at h
  split at h
  · rename_i y0 y1 y2
    cases h
    refine spec_of (m := .any) (tab := tabOf []) (cp := cp99) (ic := ic99) (rvl := [(.t 2)]) hm tabOk_nil Try.func99 rfl rfl rfl (by kernel_rfl) rfl (Nat.le_of_ble_eq_true rfl) (Nat.le_of_ble_eq_true rfl) ?_
    show eA _ _ _ _
    unfold ic99
    refine eS_to ?_
    repeat' (first
      | ((first | (have h := True.intro; refine eS_of ?_) | (refine eGI_of (fun h => ?_) (fun h => ?_)) | (refine eCc_of (fun h => ?_) (fun h => ?_)) | (refine ePk_of (fun h => ?_) (fun h => ?_))) <;> (try simp only [Bool.not_eq_true', Bool.not_eq_false'] at h) <;> (try first | exact absurd (Eq.trans (Eq.symm h) (by assumption)) Bool.false_ne_true | exact absurd (Eq.trans (Eq.symm h) (by assumption)) (Ne.symm Bool.false_ne_true)) <;> simp only [h,
        grpA, vsliceS, grpS, grpD, grpF, grpL, eop, vop, bop, uop, fltop, convop, endOk, newE, new1, freshL, Md.isNew, outV, pureV, pureX, pure1, AV.cells, AV.one, storable, laid, refless, refless1, vload, loadC, storeC, vnil, vfaddr, vextract, flatT, flatE, flatC, vconv, vmm, vidxA, viaddrA, vfield, vlen, elemsOf, dF32, dF64, dI64, dU8, dBool, dStr, esOk, elemsS, vsliceX, bnd, ownV, ownC, own1, ownT, isSl, nSl, endL, Md.isOwn, purge, purgeH, purgeB, purgeE, hasName, name1, List.any_cons, List.any_nil, Md.isWr, pureV.pureP, Option.map, reduceIte, Nat.reduceEqDiff, Nat.reduceAdd, Nat.reduceMul, Nat.reduceLT, Nat.reduceLeDiff, List.mapM_cons, List.mapM_nil, Option.pure_def, Option.bind_eq_bind, Option.bind_some, implies_true, forall_const, beq_self_eq_true, decide_true, decide_false, eq_self, Int.reduceEq, Int.reduceLE, Int.reduceLT, if_true, if_false, grpK, Int.reduceAdd, Int.reduceSub, Int.reduceMul, Int.reduceNeg, Int.reducePow, Nat.reducePow, Int.reduceToNat, Nat.reduceSub, List.replicate, Nat.reduceBEq, wAs, wA, wC, zipW, noDupN, grpE, beq_true, beq_false, grpC, en0, dc_en0, ↓b_pick, ePk_true, ePk_false]))
    all_goals (try simp only [*, m_spec_l06Vector, Bool.and_true, Bool.true_and, Bool.and_false, Bool.false_and, Bool.or_true, Bool.true_or, Bool.or_false, Bool.false_or, Bool.not_true, Bool.not_false, Bool.false_eq_true, if_true, if_false, reduceIte, decide_true, decide_false])
    all_goals (try (simp_all; done))
  · cases h
def m_spec_l06Most (x0 : Int) : Int := (IntKind.wrap .i64 ((IntKind.wrap .i64 (1 * 2 ^ (min ((IntKind.wrap .u64 x0) : Int).toNat 64))) - 1))
def p_spec_l06Most (x0 : Int) : Bool := (decide (0 ≤ (IntKind.wrap .u64 x0)))
def g_spec_l06Most : List AV → Option AV
  | [.int .i64 y0] => if p_spec_l06Most y0 = true then some (.int .i64 (m_spec_l06Most y0)) else none
  | _ => none
def ic80 : ICode := (.seq (.reg [⟨(some 2), none, (.mov (.c (.int .i64 0)))⟩] [0]) (.seq (.reg [⟨(some 3), none, (.mov (.t 0))⟩, ⟨(some 4), none, (.conv (.int .u64) (.t 3))⟩, ⟨(some 5), none, (.bin .shl false (.c (.int .i64 1)) (.t 4))⟩, ⟨(some 6), none, (.bin .sub false (.t 5) (.c (.int .i64 1)))⟩, ⟨(some 2), none, (.mov (.t 6))⟩] [2]) .ret))
def cp80 : CP := CP.mk [] [] [[0], [2]] 7 [] []
theorem s80 : ∀ vs r, g_spec_l06Most vs = some r → SaysM Try.prog .any 80 vs r := by
  intro vs r h
  unfold g_spec_l06Most at h
  split at h
  · rename_i y0
    split at h
    · rename_i hp
      cases h
      refine spec_of (m := .any) (tab := tabOf []) (cp := cp80) (ic := ic80) (rvl := [(.t 2)]) hm tabOk_nil Try.func80 rfl rfl rfl (by kernel_rfl) rfl (Nat.le_of_ble_eq_true rfl) (Nat.le_of_ble_eq_true rfl) ?_
      show eA _ _ _ _
      unfold ic80
      simp only [p_spec_l06Most, Bool.and_eq_true, Bool.or_eq_true, decide_eq_true_eq, Bool.not_eq_true', decide_eq_false_iff_not] at hp
      simp only [
          hp, grpA, vsliceS, grpS, grpD, grpF, grpL, eop, vop, bop, uop, fltop, convop, endOk, newE, new1, freshL, Md.isNew, outV, pureV, pureX, pure1, AV.cells, AV.one, storable, laid, refless, refless1, vload, loadC, storeC, vnil, vfaddr, vextract, flatT, flatE, flatC, vconv, vmm, vidxA, viaddrA, vfield, vlen, elemsOf, dF32, dF64, dI64, dU8, dBool, dStr, esOk, elemsS, vsliceX, bnd, ownV, ownC, own1, ownT, isSl, nSl, endL, Md.isOwn, purge, purgeH, purgeB, purgeE, hasName, name1, List.any_cons, List.any_nil, Md.isWr, pureV.pureP, Option.map, reduceIte, Nat.reduceEqDiff, Nat.reduceAdd, Nat.reduceMul, Nat.reduceLT, Nat.reduceLeDiff, List.mapM_cons, List.mapM_nil, Option.pure_def, Option.bind_eq_bind, Option.bind_some, implies_true, forall_const, beq_self_eq_true, decide_true, decide_false, eq_self, Int.reduceEq, Int.reduceLE, Int.reduceLT, if_true, if_false, grpK, Int.reduceAdd, Int.reduceSub, Int.reduceMul, Int.reduceNeg, Int.reducePow, Nat.reducePow, Int.reduceToNat, Nat.reduceSub, List.replicate, Nat.reduceBEq, wAs, wA, wC, zipW, noDupN, grpE, beq_true, beq_false, grpC, en0, dc_en0]
      all_goals (try simp only [*, m_spec_l06Most, Bool.and_true, Bool.true_and, Bool.and_false, Bool.false_and, Bool.or_true, Bool.true_or, Bool.or_false, Bool.false_or, Bool.not_true, Bool.not_false, Bool.false_eq_true, if_true, if_false, reduceIte, decide_true, decide_false])
      all_goals (try (simp_all; done))
    · cases h
  · cases h
theorem s93 : ∀ vs r, g_integral .even vs = some r → SaysM Try.prog .any 93 vs r := t_integral (name := "math.RoundToEven") Try.func93 (by kernel_rfl) rfl (by kernel_rfl) (by kernel_rfl)
def v_spec_l06Code_0 (x0 : Nat) (x1 : Nat) (x2 : Nat) (x3 : Int) : Bool := (flt .f64 (ofInt .f64 (m_spec_l06Most x3)) (integral .even (fmul .f64 (fdiv .f64 (fsub .f64 (widen x0) (widen x1)) (fsub .f64 (widen x2) (widen x1))) (ofInt .f64 (m_spec_l06Most x3)))))
def m_spec_l06Code (x0 : Nat) (x1 : Nat) (x2 : Nat) (x3 : Int) : Int := (if (flt .f64 (integral .even (fmul .f64 (fdiv .f64 (fsub .f64 (widen x0) (widen x1)) (fsub .f64 (widen x2) (widen x1))) (ofInt .f64 (m_spec_l06Most x3)))) 0) = true then 0 else (if (v_spec_l06Code_0 x0 x1 x2 x3) = true then (m_spec_l06Most x3) else (f2iV .f64 (integral .even (fmul .f64 (fdiv .f64 (fsub .f64 (widen x0) (widen x1)) (fsub .f64 (widen x2) (widen x1))) (ofInt .f64 (m_spec_l06Most x3)))))))
def p_spec_l06Code (x0 : Nat) (x1 : Nat) (x2 : Nat) (x3 : Int) : Bool := ((p_spec_l06Most x3) && ((flt .f64 (integral .even (fmul .f64 (fdiv .f64 (fsub .f64 (widen x0) (widen x1)) (fsub .f64 (widen x2) (widen x1))) (ofInt .f64 (m_spec_l06Most x3)))) 0) || ((v_spec_l06Code_0 x0 x1 x2 x3) || (f2iOk .i64 .f64 (integral .even (fmul .f64 (fdiv .f64 (fsub .f64 (widen x0) (widen x1)) (fsub .f64 (widen x2) (widen x1))) (ofInt .f64 (m_spec_l06Most x3))))))))
def g_spec_l06Code : List AV → Option AV
  | [.flt .f32 y0, .flt .f32 y1, .flt .f32 y2, .int .i64 y3] => if p_spec_l06Code y0 y1 y2 y3 = true then some (.int .i64 (m_spec_l06Code y0 y1 y2 y3)) else none
  | _ => none
def ic91 : ICode := (.seq (.reg [⟨(some 8), none, (.mov (.c (.int .i64 0)))⟩] [0, 1, 2, 3]) (.seq (.reg [⟨(some 11), none, (.mov (.t 0))⟩, ⟨(some 12), none, (.conv (.flt .f64) (.t 11))⟩, ⟨(some 13), none, (.mov (.t 1))⟩, ⟨(some 14), none, (.conv (.flt .f64) (.t 13))⟩, ⟨(some 15), none, (.bin .sub false (.t 12) (.t 14))⟩, ⟨(some 16), none, (.mov (.t 2))⟩, ⟨(some 17), none, (.conv (.flt .f64) (.t 16))⟩, ⟨(some 18), none, (.mov (.t 1))⟩, ⟨(some 19), none, (.conv (.flt .f64) (.t 18))⟩, ⟨(some 20), none, (.bin .sub false (.t 17) (.t 19))⟩, ⟨(some 21), none, (.bin .quo false (.t 15) (.t 20))⟩, ⟨(some 9), none, (.mov (.t 21))⟩] [3, 9]) (.seq (.reg [⟨(some 22), none, (.mov (.t 9))⟩, ⟨(some 23), none, (.mov (.t 3))⟩, ⟨(some 24), none, (.call (.fn 80) [(.t 23)] [])⟩, ⟨(some 25), none, (.conv (.flt .f64) (.t 24))⟩, ⟨(some 26), none, (.bin .mul false (.t 22) (.t 25))⟩, ⟨(some 27), none, (.call (.fn 93) [(.t 26)] [])⟩, ⟨(some 10), none, (.mov (.t 27))⟩] [3, 10]) (.seq (.seq (.reg [⟨(some 28), none, (.mov (.t 10))⟩, ⟨(some 29), none, (.bin .lss false (.t 28) (.c (.flt .f64 0)))⟩] [3, 10, 29]) (.cond (.t 29) (.seq (.reg [⟨(some 8), none, (.mov (.c (.int .i64 0)))⟩] [8]) .ret) .skip)) (.seq (.seq (.reg [⟨(some 30), none, (.mov (.t 10))⟩, ⟨(some 31), none, (.mov (.t 3))⟩, ⟨(some 32), none, (.call (.fn 80) [(.t 31)] [])⟩, ⟨(some 33), none, (.conv (.flt .f64) (.t 32))⟩, ⟨(some 34), none, (.bin .gtr false (.t 30) (.t 33))⟩] [3, 10, 34]) (.cond (.t 34) (.seq (.reg [⟨(some 35), none, (.mov (.t 3))⟩, ⟨(some 36), none, (.call (.fn 80) [(.t 35)] [])⟩, ⟨(some 8), none, (.mov (.t 36))⟩] [8]) .ret) .skip)) (.seq (.reg [⟨(some 37), none, (.mov (.t 10))⟩, ⟨(some 38), none, (.conv (.int .i64) (.t 37))⟩, ⟨(some 8), none, (.mov (.t 38))⟩] [8]) .ret))))))
def cp91 : CP := CP.mk [] [] [[0, 1, 2, 3], [3, 9], [3, 10], [3, 10, 29], [8], [3, 10, 34], [8], [8]] 39 [] []
theorem s91 : ∀ vs r, g_spec_l06Code vs = some r → SaysM Try.prog .any 91 vs r := by
  intro vs r h
  unfold g_spec_l06Code at h
  split at h
  · rename_i y0 y1 y2 y3
    split at h
    · rename_i hp
      cases h
      refine spec_of (m := .any) (tab := tabOf [(80, wM .any g_spec_l06Most), (93, wM .any (g_integral .even))]) (cp := cp91) (ic := ic91) (rvl := [(.t 8)]) hm (tabOk_cons (m := .any) s80 (tabOk_cons (m := .any) s93 tabOk_nil)) Try.func91 rfl rfl rfl (by kernel_rfl) rfl (Nat.le_of_ble_eq_true rfl) (Nat.le_of_ble_eq_true rfl) ?_
      show eA _ _ _ _
      unfold ic91
      simp only [p_spec_l06Code, v_spec_l06Code_0, Bool.and_eq_true, Bool.or_eq_true, decide_eq_true_eq, Bool.not_eq_true', decide_eq_false_iff_not] at hp
      refine eS_to ?_
      repeat' (first
        | ((first | (have h := True.intro; refine eS_of ?_) | (refine eGI_of (fun h => ?_) (fun h => ?_)) | (refine eCc_of (fun h => ?_) (fun h => ?_))) <;> (try simp only [Bool.not_eq_true', Bool.not_eq_false'] at h) <;> (try first | exact absurd (Eq.trans (Eq.symm h) (by assumption)) Bool.false_ne_true | exact absurd (Eq.trans (Eq.symm h) (by assumption)) (Ne.symm Bool.false_ne_true)) <;> (try simp only [h, reduceCtorEq, grpN, Int.reduceEq, Int.reduceLT, Int.reduceLE, if_true, if_false, reduceIte] at hp) <;> (first | (have h2 := h; simp only [decide_eq_true_eq, decide_eq_false_iff_not] at h2; (first | (replace h2 := eq_false h2) | (replace h2 := eq_true h2)); (try simp only [h2, reduceCtorEq, grpN, Int.reduceEq, Int.reduceLT, Int.reduceLE, if_true, if_false, reduceIte] at hp); replace hp := And.intro h2 hp) | (replace hp := And.intro h hp) | skip) <;> simp only [h,
          hp, grpA, vsliceS, grpS, grpD, grpF, grpL, eop, vop, bop, uop, fltop, convop, endOk, newE, new1, freshL, Md.isNew, outV, pureV, pureX, pure1, AV.cells, AV.one, storable, laid, refless, refless1, vload, loadC, storeC, vnil, vfaddr, vextract, flatT, flatE, flatC, vconv, vmm, vidxA, viaddrA, vfield, vlen, elemsOf, dF32, dF64, dI64, dU8, dBool, dStr, esOk, elemsS, vsliceX, bnd, ownV, ownC, own1, ownT, isSl, nSl, endL, Md.isOwn, purge, purgeH, purgeB, purgeE, hasName, name1, List.any_cons, List.any_nil, Md.isWr, pureV.pureP, Option.map, reduceIte, Nat.reduceEqDiff, Nat.reduceAdd, Nat.reduceMul, Nat.reduceLT, Nat.reduceLeDiff, List.mapM_cons, List.mapM_nil, Option.pure_def, Option.bind_eq_bind, Option.bind_some, implies_true, forall_const, beq_self_eq_true, decide_true, decide_false, eq_self, Int.reduceEq, Int.reduceLE, Int.reduceLT, if_true, if_false, grpK, Int.reduceAdd, Int.reduceSub, Int.reduceMul, Int.reduceNeg, Int.reducePow, Nat.reducePow, Int.reduceToNat, Nat.reduceSub, List.replicate, Nat.reduceBEq, wAs, wA, wC, zipW, noDupN, grpE, beq_true, beq_false, g_spec_l06Most, g_integral, grpC, en0, dc_en0]))
      all_goals (try simp only [*, m_spec_l06Code, v_spec_l06Code_0, Bool.and_true, Bool.true_and, Bool.and_false, Bool.false_and, Bool.or_true, Bool.true_or, Bool.or_false, Bool.false_or, Bool.not_true, Bool.not_false, Bool.false_eq_true, if_true, if_false, reduceIte, decide_true, decide_false])
      all_goals (try (simp_all; done))
    · cases h
  · cases h
def v_spec_l06PackVector_0 (x0 : (Nat × Nat × Nat)) (x1 : Nat) (x2 : Int) : Int := (IntKind.wrap .i64 ((IntKind.wrap .i64 ((m_spec_l06Code x0.1 (fneg .f32 x1) x1 x2) * 2 ^ (min ((IntKind.wrap .u64 x2) : Int).toNat 64))) + (m_spec_l06Code x0.2.1 (fneg .f32 x1) x1 x2)))
def v_spec_l06PackVector_1 (x0 : (Nat × Nat × Nat)) (x1 : Nat) (x2 : Int) : Int := (IntKind.wrap .i64 ((IntKind.wrap .i64 ((v_spec_l06PackVector_0 x0 x1 x2) * 2 ^ (min ((IntKind.wrap .u64 x2) : Int).toNat 64))) + (m_spec_l06Code x0.2.2 (fneg .f32 x1) x1 x2)))
def m_spec_l06PackVector (x0 : (Nat × Nat × Nat)) (x1 : Nat) (x2 : Int) : Int := (v_spec_l06PackVector_1 x0 x1 x2)
def p_spec_l06PackVector (x0 : (Nat × Nat × Nat)) (x1 : Nat) (x2 : Int) : Bool := ((p_spec_l06Code x0.1 (fneg .f32 x1) x1 x2) && ((decide (0 ≤ (IntKind.wrap .u64 x2))) && ((p_spec_l06Code x0.2.1 (fneg .f32 x1) x1 x2) && (p_spec_l06Code x0.2.2 (fneg .f32 x1) x1 x2))))
def g_spec_l06PackVector : List AV → Option AV
  | [.agg [.flt .f32 y0, .flt .f32 y1, .flt .f32 y2], .flt .f32 y3, .int .i64 y4] => if p_spec_l06PackVector (y0, y1, y2) y3 y4 = true then some (.int .i64 (m_spec_l06PackVector (y0, y1, y2) y3 y4)) else none
  | _ => none
def ic100 : ICode := (.seq (.reg [⟨(some 3), none, (.box 3 (.t 0))⟩, ⟨(some 6), none, (.mov (.c (.int .i64 0)))⟩] [1, 2, 3]) (.seq (.reg [⟨(some 8), none, (.faddr 0 (.t 3))⟩, ⟨(some 9), none, (.load none (.t 8))⟩, ⟨(some 10), none, (.mov (.t 1))⟩, ⟨(some 11), none, (.un .neg (.t 10))⟩, ⟨(some 12), none, (.mov (.t 1))⟩, ⟨(some 13), none, (.mov (.t 2))⟩, ⟨(some 14), none, (.call (.fn 91) [(.t 9), (.t 11), (.t 12), (.t 13)] [])⟩, ⟨(some 7), none, (.mov (.t 14))⟩] [1, 2, 3, 7]) (.seq (.reg [⟨(some 15), none, (.mov (.t 7))⟩, ⟨(some 16), none, (.mov (.t 2))⟩, ⟨(some 17), none, (.conv (.int .u64) (.t 16))⟩, ⟨(some 18), none, (.bin .shl false (.t 15) (.t 17))⟩, ⟨(some 19), none, (.faddr 1 (.t 3))⟩, ⟨(some 20), none, (.load none (.t 19))⟩, ⟨(some 21), none, (.mov (.t 1))⟩, ⟨(some 22), none, (.un .neg (.t 21))⟩, ⟨(some 23), none, (.mov (.t 1))⟩, ⟨(some 24), none, (.mov (.t 2))⟩, ⟨(some 25), none, (.call (.fn 91) [(.t 20), (.t 22), (.t 23), (.t 24)] [])⟩, ⟨(some 26), none, (.bin .add false (.t 18) (.t 25))⟩, ⟨(some 7), none, (.mov (.t 26))⟩] [1, 2, 3, 7]) (.seq (.reg [⟨(some 27), none, (.mov (.t 7))⟩, ⟨(some 28), none, (.mov (.t 2))⟩, ⟨(some 29), none, (.conv (.int .u64) (.t 28))⟩, ⟨(some 30), none, (.bin .shl false (.t 27) (.t 29))⟩, ⟨(some 31), none, (.faddr 2 (.t 3))⟩, ⟨(some 32), none, (.load none (.t 31))⟩, ⟨(some 33), none, (.mov (.t 1))⟩, ⟨(some 34), none, (.un .neg (.t 33))⟩, ⟨(some 35), none, (.mov (.t 1))⟩, ⟨(some 36), none, (.mov (.t 2))⟩, ⟨(some 37), none, (.call (.fn 91) [(.t 32), (.t 34), (.t 35), (.t 36)] [])⟩, ⟨(some 38), none, (.bin .add false (.t 30) (.t 37))⟩, ⟨(some 6), none, (.mov (.t 38))⟩] [6]) .ret))))
def cp100 : CP := CP.mk [] [] [[1, 2, 3], [1, 2, 3, 7], [1, 2, 3, 7], [6]] 39 [] []
theorem s100 : ∀ vs r, g_spec_l06PackVector vs = some r → SaysM Try.prog .any 100 vs r := by
  intro vs r h
  unfold g_spec_l06PackVector at h
  split at h
  · rename_i y0 y1 y2 y3 y4
    split at h
    · rename_i hp
      cases h
      refine spec_of (m := .any) (tab := tabOf [(91, wM .any g_spec_l06Code)]) (cp := cp100) (ic := ic100) (rvl := [(.t 6)]) hm (tabOk_cons (m := .any) s91 tabOk_nil) Try.func100 rfl rfl rfl (by kernel_rfl) rfl (Nat.le_of_ble_eq_true rfl) (Nat.le_of_ble_eq_true rfl) ?_
      show eA _ _ _ _
      unfold ic100
      simp only [p_spec_l06PackVector, v_spec_l06PackVector_0, v_spec_l06PackVector_1, Bool.and_eq_true, Bool.or_eq_true, decide_eq_true_eq, Bool.not_eq_true', decide_eq_false_iff_not] at hp
      simp only [
          hp, grpA, vsliceS, grpS, grpD, grpF, grpL, eop, vop, bop, uop, fltop, convop, endOk, newE, new1, freshL, Md.isNew, outV, pureV, pureX, pure1, AV.cells, AV.one, storable, laid, refless, refless1, vload, loadC, storeC, vnil, vfaddr, vextract, flatT, flatE, flatC, vconv, vmm, vidxA, viaddrA, vfield, vlen, elemsOf, dF32, dF64, dI64, dU8, dBool, dStr, esOk, elemsS, vsliceX, bnd, ownV, ownC, own1, ownT, isSl, nSl, endL, Md.isOwn, purge, purgeH, purgeB, purgeE, hasName, name1, List.any_cons, List.any_nil, Md.isWr, pureV.pureP, Option.map, reduceIte, Nat.reduceEqDiff, Nat.reduceAdd, Nat.reduceMul, Nat.reduceLT, Nat.reduceLeDiff, List.mapM_cons, List.mapM_nil, Option.pure_def, Option.bind_eq_bind, Option.bind_some, implies_true, forall_const, beq_self_eq_true, decide_true, decide_false, eq_self, Int.reduceEq, Int.reduceLE, Int.reduceLT, if_true, if_false, grpK, Int.reduceAdd, Int.reduceSub, Int.reduceMul, Int.reduceNeg, Int.reducePow, Nat.reducePow, Int.reduceToNat, Nat.reduceSub, List.replicate, Nat.reduceBEq, wAs, wA, wC, zipW, noDupN, grpE, beq_true, beq_false, g_spec_l06Code, grpC, en0, dc_en0]
      all_goals (try simp only [*, m_spec_l06PackVector, v_spec_l06PackVector_0, v_spec_l06PackVector_1, Bool.and_true, Bool.true_and, Bool.and_false, Bool.false_and, Bool.or_true, Bool.true_or, Bool.or_false, Bool.false_or, Bool.not_true, Bool.not_false, Bool.false_eq_true, if_true, if_false, reduceIte, decide_true, decide_false])
      all_goals (try (simp_all; done))
    · cases h
  · cases h
def m_spec_l06Turn (x0 : (Nat × Nat × Nat × Nat)) : Bool := (if (m_spec_l01Finite x0.1) = true then (if (m_spec_l01Finite x0.2.1) = true then (if (m_spec_l01Finite x0.2.2.1) = true then (m_spec_l01Finite x0.2.2.2) else false) else false) else false)
def g_spec_l06Turn : List AV → Option AV
  | [.agg [.flt .f32 y0, .flt .f32 y1, .flt .f32 y2, .flt .f32 y3]] => some (.bool (m_spec_l06Turn (y0, y1, y2, y3)))
  | _ => none
def ic56 : ICode := (.seq (.reg [⟨(some 1), none, (.box 4 (.t 0))⟩, ⟨(some 2), none, (.mov (.c (.bool false)))⟩] [1]) (.seq (.reg [⟨(some 3), none, (.faddr 0 (.t 1))⟩, ⟨(some 4), none, (.load none (.t 3))⟩, ⟨(some 5), none, (.call (.fn 88) [(.t 4)] [])⟩, ⟨(some 6), none, (.mov (.t 5))⟩, ⟨(some 7), (some (6, true)), (.faddr 1 (.t 1))⟩, ⟨(some 8), (some (6, true)), (.load none (.t 7))⟩, ⟨(some 9), (some (6, true)), (.call (.fn 88) [(.t 8)] [])⟩, ⟨(some 10), none, (.pick (.t 6) (.t 9) (.c (.bool false)))⟩, ⟨(some 11), none, (.mov (.t 10))⟩, ⟨(some 12), (some (11, true)), (.faddr 2 (.t 1))⟩, ⟨(some 13), (some (11, true)), (.load none (.t 12))⟩, ⟨(some 14), (some (11, true)), (.call (.fn 88) [(.t 13)] [])⟩, ⟨(some 15), none, (.pick (.t 11) (.t 14) (.c (.bool false)))⟩, ⟨(some 16), none, (.mov (.t 15))⟩, ⟨(some 17), (some (16, true)), (.faddr 3 (.t 1))⟩, ⟨(some 18), (some (16, true)), (.load none (.t 17))⟩, ⟨(some 19), (some (16, true)), (.call (.fn 88) [(.t 18)] [])⟩, ⟨(some 20), none, (.pick (.t 16) (.t 19) (.c (.bool false)))⟩, ⟨(some 2), none, (.mov (.t 20))⟩] [2]) .ret))
def cp56 : CP := CP.mk [] [] [[1], [2]] 21 [] []
theorem s56 : ∀ vs r, g_spec_l06Turn vs = some r → SaysM Try.prog .any 56 vs r := by
  intro vs r h
  unfold g_spec_l06Turn at h
  split at h
  · rename_i y0 y1 y2 y3
    cases h
    refine spec_of (m := .any) (tab := tabOf [(88, wM .any g_spec_l01Finite)]) (cp := cp56) (ic := ic56) (rvl := [(.t 2)]) hm (tabOk_cons (m := .any) s88 tabOk_nil) Try.func56 rfl rfl rfl (by kernel_rfl) rfl (Nat.le_of_ble_eq_true rfl) (Nat.le_of_ble_eq_true rfl) ?_
    show eA _ _ _ _
    unfold ic56
    refine eS_to ?_
    repeat' (first
      | ((first | (have h := True.intro; refine eS_of ?_) | (refine eGI_of (fun h => ?_) (fun h => ?_)) | (refine eCc_of (fun h => ?_) (fun h => ?_)) | (refine ePk_of (fun h => ?_) (fun h => ?_))) <;> (try simp only [Bool.not_eq_true', Bool.not_eq_false'] at h) <;> (try first | exact absurd (Eq.trans (Eq.symm h) (by assumption)) Bool.false_ne_true | exact absurd (Eq.trans (Eq.symm h) (by assumption)) (Ne.symm Bool.false_ne_true)) <;> simp only [h,
        grpA, vsliceS, grpS, grpD, grpF, grpL, eop, vop, bop, uop, fltop, convop, endOk, newE, new1, freshL, Md.isNew, outV, pureV, pureX, pure1, AV.cells, AV.one, storable, laid, refless, refless1, vload, loadC, storeC, vnil, vfaddr, vextract, flatT, flatE, flatC, vconv, vmm, vidxA, viaddrA, vfield, vlen, elemsOf, dF32, dF64, dI64, dU8, dBool, dStr, esOk, elemsS, vsliceX, bnd, ownV, ownC, own1, ownT, isSl, nSl, endL, Md.isOwn, purge, purgeH, purgeB, purgeE, hasName, name1, List.any_cons, List.any_nil, Md.isWr, pureV.pureP, Option.map, reduceIte, Nat.reduceEqDiff, Nat.reduceAdd, Nat.reduceMul, Nat.reduceLT, Nat.reduceLeDiff, List.mapM_cons, List.mapM_nil, Option.pure_def, Option.bind_eq_bind, Option.bind_some, implies_true, forall_const, beq_self_eq_true, decide_true, decide_false, eq_self, Int.reduceEq, Int.reduceLE, Int.reduceLT, if_true, if_false, grpK, Int.reduceAdd, Int.reduceSub, Int.reduceMul, Int.reduceNeg, Int.reducePow, Nat.reducePow, Int.reduceToNat, Nat.reduceSub, List.replicate, Nat.reduceBEq, wAs, wA, wC, zipW, noDupN, grpE, beq_true, beq_false, g_spec_l01Finite, grpC, en0, dc_en0, ↓b_pick, ePk_true, ePk_false]))
    all_goals (try simp only [*, m_spec_l06Turn, Bool.and_true, Bool.true_and, Bool.and_false, Bool.false_and, Bool.or_true, Bool.true_or, Bool.or_false, Bool.false_or, Bool.not_true, Bool.not_false, Bool.false_eq_true, if_true, if_false, reduceIte, decide_true, decide_false])
    all_goals (try (simp_all; done))
  · cases h
def m_spec_l02Inner (x0 : (Nat × Nat × Nat × Nat)) (x1 : (Nat × Nat × Nat × Nat)) : Nat := (fadd .f32 (fadd .f32 (fadd .f32 (fmul .f32 x0.1 x1.1) (fmul .f32 x0.2.1 x1.2.1)) (fmul .f32 x0.2.2.1 x1.2.2.1)) (fmul .f32 x0.2.2.2 x1.2.2.2))
def g_spec_l02Inner : List AV → Option AV
  | [.agg [.flt .f32 y0, .flt .f32 y1, .flt .f32 y2, .flt .f32 y3], .agg [.flt .f32 y4, .flt .f32 y5, .flt .f32 y6, .flt .f32 y7]] => some (.flt .f32 (m_spec_l02Inner (y0, y1, y2, y3) (y4, y5, y6, y7)))
  | _ => none
def ic102 : ICode := (.seq (.reg [⟨(some 2), none, (.box 4 (.t 0))⟩, ⟨(some 3), none, (.box 4 (.t 1))⟩, ⟨(some 4), none, (.mov (.c (.flt .f32 0)))⟩] [2, 3]) (.seq (.reg [⟨(some 6), none, (.faddr 0 (.t 2))⟩, ⟨(some 7), none, (.load none (.t 6))⟩, ⟨(some 8), none, (.faddr 0 (.t 3))⟩, ⟨(some 9), none, (.load none (.t 8))⟩, ⟨(some 10), none, (.bin .mul false (.t 7) (.t 9))⟩, ⟨(some 11), none, (.faddr 1 (.t 2))⟩, ⟨(some 12), none, (.load none (.t 11))⟩, ⟨(some 13), none, (.faddr 1 (.t 3))⟩, ⟨(some 14), none, (.load none (.t 13))⟩, ⟨(some 15), none, (.bin .mul false (.t 12) (.t 14))⟩, ⟨(some 16), none, (.bin .add false (.t 10) (.t 15))⟩, ⟨(some 5), none, (.mov (.t 16))⟩] [2, 3, 5]) (.seq (.reg [⟨(some 17), none, (.mov (.t 5))⟩, ⟨(some 18), none, (.faddr 2 (.t 2))⟩, ⟨(some 19), none, (.load none (.t 18))⟩, ⟨(some 20), none, (.faddr 2 (.t 3))⟩, ⟨(some 21), none, (.load none (.t 20))⟩, ⟨(some 22), none, (.bin .mul false (.t 19) (.t 21))⟩, ⟨(some 23), none, (.bin .add false (.t 17) (.t 22))⟩, ⟨(some 5), none, (.mov (.t 23))⟩] [2, 3, 5]) (.seq (.reg [⟨(some 24), none, (.mov (.t 5))⟩, ⟨(some 25), none, (.faddr 3 (.t 2))⟩, ⟨(some 26), none, (.load none (.t 25))⟩, ⟨(some 27), none, (.faddr 3 (.t 3))⟩, ⟨(some 28), none, (.load none (.t 27))⟩, ⟨(some 29), none, (.bin .mul false (.t 26) (.t 28))⟩, ⟨(some 30), none, (.bin .add false (.t 24) (.t 29))⟩, ⟨(some 4), none, (.mov (.t 30))⟩] [4]) .ret))))
def cp102 : CP := CP.mk [] [] [[2, 3], [2, 3, 5], [2, 3, 5], [4]] 31 [] []
theorem s102 : ∀ vs r, g_spec_l02Inner vs = some r → SaysM Try.prog .any 102 vs r := by
  intro vs r h
  unfold g_spec_l02Inner at h
  split at h
  · rename_i y0 y1 y2 y3 y4 y5 y6 y7
    cases h
    refine spec_of (m := .any) (tab := tabOf []) (cp := cp102) (ic := ic102) (rvl := [(.t 4)]) hm tabOk_nil Try.func102 rfl rfl rfl (by kernel_rfl) rfl (Nat.le_of_ble_eq_true rfl) (Nat.le_of_ble_eq_true rfl) ?_
    show eA _ _ _ _
    unfold ic102
    simp only [
        grpA, vsliceS, grpS, grpD, grpF, grpL, eop, vop, bop, uop, fltop, convop, endOk, newE, new1, freshL, Md.isNew, outV, pureV, pureX, pure1, AV.cells, AV.one, storable, laid, refless, refless1, vload, loadC, storeC, vnil, vfaddr, vextract, flatT, flatE, flatC, vconv, vmm, vidxA, viaddrA, vfield, vlen, elemsOf, dF32, dF64, dI64, dU8, dBool, dStr, esOk, elemsS, vsliceX, bnd, ownV, ownC, own1, ownT, isSl, nSl, endL, Md.isOwn, purge, purgeH, purgeB, purgeE, hasName, name1, List.any_cons, List.any_nil, Md.isWr, pureV.pureP, Option.map, reduceIte, Nat.reduceEqDiff, Nat.reduceAdd, Nat.reduceMul, Nat.reduceLT, Nat.reduceLeDiff, List.mapM_cons, List.mapM_nil, Option.pure_def, Option.bind_eq_bind, Option.bind_some, implies_true, forall_const, beq_self_eq_true, decide_true, decide_false, eq_self, Int.reduceEq, Int.reduceLE, Int.reduceLT, if_true, if_false, grpK, Int.reduceAdd, Int.reduceSub, Int.reduceMul, Int.reduceNeg, Int.reducePow, Nat.reducePow, Int.reduceToNat, Nat.reduceSub, List.replicate, Nat.reduceBEq, wAs, wA, wC, zipW, noDupN, grpE, beq_true, beq_false, grpC, en0, dc_en0]
    all_goals (try simp only [*, m_spec_l02Inner, Bool.and_true, Bool.true_and, Bool.and_false, Bool.false_and, Bool.or_true, Bool.true_or, Bool.or_false, Bool.false_or, Bool.not_true, Bool.not_false, Bool.false_eq_true, if_true, if_false, reduceIte, decide_true, decide_false])
    all_goals (try (simp_all; done))
  · cases h
theorem s104 : ∀ vs r, g_sqrt vs = some r → SaysM Try.prog .any 104 vs r := t_sqrt Try.func104 (by kernel_rfl) rfl (by kernel_rfl) (by kernel_rfl)
def m_math_Sqrt (x0 : Nat) : Nat := (fsqrt x0)
def g_math_Sqrt : List AV → Option AV
  | [.flt .f64 y0] => some (.flt .f64 (m_math_Sqrt y0))
  | _ => none
def ic84 : ICode := (.seq (.reg [⟨(some 2), none, (.mov (.c (.flt .f64 0)))⟩] [0]) (.seq (.reg [⟨(some 3), none, (.mov (.t 0))⟩, ⟨(some 4), none, (.call (.fn 104) [(.t 3)] [])⟩, ⟨(some 2), none, (.mov (.t 4))⟩] [2]) .ret))
def cp84 : CP := CP.mk [] [] [[0], [2]] 5 [] []
theorem s84 : ∀ vs r, g_math_Sqrt vs = some r → SaysM Try.prog .any 84 vs r := by
  intro vs r h
  unfold g_math_Sqrt at h
  split at h
  · rename_i y0
    cases h
    refine spec_of (m := .any) (tab := tabOf [(104, wM .any g_sqrt)]) (cp := cp84) (ic := ic84) (rvl := [(.t 2)]) hm (tabOk_cons (m := .any) s104 tabOk_nil) Try.func84 rfl rfl rfl (by kernel_rfl) rfl (Nat.le_of_ble_eq_true rfl) (Nat.le_of_ble_eq_true rfl) ?_
    show eA _ _ _ _
    unfold ic84
    simp only [
        grpA, vsliceS, grpS, grpD, grpF, grpL, eop, vop, bop, uop, fltop, convop, endOk, newE, new1, freshL, Md.isNew, outV, pureV, pureX, pure1, AV.cells, AV.one, storable, laid, refless, refless1, vload, loadC, storeC, vnil, vfaddr, vextract, flatT, flatE, flatC, vconv, vmm, vidxA, viaddrA, vfield, vlen, elemsOf, dF32, dF64, dI64, dU8, dBool, dStr, esOk, elemsS, vsliceX, bnd, ownV, ownC, own1, ownT, isSl, nSl, endL, Md.isOwn, purge, purgeH, purgeB, purgeE, hasName, name1, List.any_cons, List.any_nil, Md.isWr, pureV.pureP, Option.map, reduceIte, Nat.reduceEqDiff, Nat.reduceAdd, Nat.reduceMul, Nat.reduceLT, Nat.reduceLeDiff, List.mapM_cons, List.mapM_nil, Option.pure_def, Option.bind_eq_bind, Option.bind_some, implies_true, forall_const, beq_self_eq_true, decide_true, decide_false, eq_self, Int.reduceEq, Int.reduceLE, Int.reduceLT, if_true, if_false, grpK, Int.reduceAdd, Int.reduceSub, Int.reduceMul, Int.reduceNeg, Int.reducePow, Nat.reducePow, Int.reduceToNat, Nat.reduceSub, List.replicate, Nat.reduceBEq, wAs, wA, wC, zipW, noDupN, grpE, beq_true, beq_false, g_sqrt, grpC, en0, dc_en0]
    all_goals (try simp only [*, m_math_Sqrt, Bool.and_true, Bool.true_and, Bool.and_false, Bool.false_and, Bool.or_true, Bool.true_or, Bool.or_false, Bool.false_or, Bool.not_true, Bool.not_false, Bool.false_eq_true, if_true, if_false, reduceIte, decide_true, decide_false])
    all_goals (try (simp_all; done))
  · cases h
def m_spec_l01Narrow (x0 : Nat) : Nat := (narrow x0)
def p_spec_l01Narrow (x0 : Nat) : Bool := (narrowOk x0)
def g_spec_l01Narrow : List AV → Option AV
  | [.flt .f64 y0] => if p_spec_l01Narrow y0 = true then some (.flt .f32 (m_spec_l01Narrow y0)) else none
  | _ => none
def ic101 : ICode := (.seq (.reg [⟨(some 2), none, (.mov (.c (.flt .f32 0)))⟩] [0]) (.seq (.reg [⟨(some 3), none, (.mov (.t 0))⟩, ⟨(some 4), none, (.conv (.flt .f32) (.t 3))⟩, ⟨(some 2), none, (.mov (.t 4))⟩] [2]) .ret))
def cp101 : CP := CP.mk [] [] [[0], [2]] 5 [] []
theorem s101 : ∀ vs r, g_spec_l01Narrow vs = some r → SaysM Try.prog .any 101 vs r := by
  intro vs r h
  unfold g_spec_l01Narrow at h
  split at h
  · rename_i y0
    split at h
    · rename_i hp
      cases h
      refine spec_of (m := .any) (tab := tabOf []) (cp := cp101) (ic := ic101) (rvl := [(.t 2)]) hm tabOk_nil Try.func101 rfl rfl rfl (by kernel_rfl) rfl (Nat.le_of_ble_eq_true rfl) (Nat.le_of_ble_eq_true rfl) ?_
      show eA _ _ _ _
      unfold ic101
      simp only [p_spec_l01Narrow, Bool.and_eq_true, Bool.or_eq_true, decide_eq_true_eq, Bool.not_eq_true', decide_eq_false_iff_not] at hp
      simp only [
          hp, grpA, vsliceS, grpS, grpD, grpF, grpL, eop, vop, bop, uop, fltop, convop, endOk, newE, new1, freshL, Md.isNew, outV, pureV, pureX, pure1, AV.cells, AV.one, storable, laid, refless, refless1, vload, loadC, storeC, vnil, vfaddr, vextract, flatT, flatE, flatC, vconv, vmm, vidxA, viaddrA, vfield, vlen, elemsOf, dF32, dF64, dI64, dU8, dBool, dStr, esOk, elemsS, vsliceX, bnd, ownV, ownC, own1, ownT, isSl, nSl, endL, Md.isOwn, purge, purgeH, purgeB, purgeE, hasName, name1, List.any_cons, List.any_nil, Md.isWr, pureV.pureP, Option.map, reduceIte, Nat.reduceEqDiff, Nat.reduceAdd, Nat.reduceMul, Nat.reduceLT, Nat.reduceLeDiff, List.mapM_cons, List.mapM_nil, Option.pure_def, Option.bind_eq_bind, Option.bind_some, implies_true, forall_const, beq_self_eq_true, decide_true, decide_false, eq_self, Int.reduceEq, Int.reduceLE, Int.reduceLT, if_true, if_false, grpK, Int.reduceAdd, Int.reduceSub, Int.reduceMul, Int.reduceNeg, Int.reducePow, Nat.reducePow, Int.reduceToNat, Nat.reduceSub, List.replicate, Nat.reduceBEq, wAs, wA, wC, zipW, noDupN, grpE, beq_true, beq_false, grpC, en0, dc_en0]
      all_goals (try simp only [*, m_spec_l01Narrow, Bool.and_true, Bool.true_and, Bool.and_false, Bool.false_and, Bool.or_true, Bool.true_or, Bool.or_false, Bool.false_or, Bool.not_true, Bool.not_false, Bool.false_eq_true, if_true, if_false, reduceIte, decide_true, decide_false])
      all_goals (try (simp_all; done))
    · cases h
  · cases h
def m_spec_l01Sqrt (x0 : Nat) : Nat := (m_spec_l01Narrow (m_math_Sqrt (widen x0)))
def p_spec_l01Sqrt (x0 : Nat) : Bool := (p_spec_l01Narrow (m_math_Sqrt (widen x0)))
def g_spec_l01Sqrt : List AV → Option AV
  | [.flt .f32 y0] => if p_spec_l01Sqrt y0 = true then some (.flt .f32 (m_spec_l01Sqrt y0)) else none
  | _ => none
def ic82 : ICode := (.seq (.reg [⟨(some 2), none, (.mov (.c (.flt .f32 0)))⟩] [0]) (.seq (.reg [⟨(some 3), none, (.mov (.t 0))⟩, ⟨(some 4), none, (.conv (.flt .f64) (.t 3))⟩, ⟨(some 5), none, (.call (.fn 84) [(.t 4)] [])⟩, ⟨(some 6), none, (.call (.fn 101) [(.t 5)] [])⟩, ⟨(some 2), none, (.mov (.t 6))⟩] [2]) .ret))
def cp82 : CP := CP.mk [] [] [[0], [2]] 7 [] []
theorem s82 : ∀ vs r, g_spec_l01Sqrt vs = some r → SaysM Try.prog .any 82 vs r := by
  intro vs r h
  unfold g_spec_l01Sqrt at h
  split at h
  · rename_i y0
    split at h
    · rename_i hp
      cases h
      refine spec_of (m := .any) (tab := tabOf [(84, wM .any g_math_Sqrt), (101, wM .any g_spec_l01Narrow)]) (cp := cp82) (ic := ic82) (rvl := [(.t 2)]) hm (tabOk_cons (m := .any) s84 (tabOk_cons (m := .any) s101 tabOk_nil)) Try.func82 rfl rfl rfl (by kernel_rfl) rfl (Nat.le_of_ble_eq_true rfl) (Nat.le_of_ble_eq_true rfl) ?_
      show eA _ _ _ _
      unfold ic82
      simp only [p_spec_l01Sqrt, Bool.and_eq_true, Bool.or_eq_true, decide_eq_true_eq, Bool.not_eq_true', decide_eq_false_iff_not] at hp
      simp only [
          hp, grpA, vsliceS, grpS, grpD, grpF, grpL, eop, vop, bop, uop, fltop, convop, endOk, newE, new1, freshL, Md.isNew, outV, pureV, pureX, pure1, AV.cells, AV.one, storable, laid, refless, refless1, vload, loadC, storeC, vnil, vfaddr, vextract, flatT, flatE, flatC, vconv, vmm, vidxA, viaddrA, vfield, vlen, elemsOf, dF32, dF64, dI64, dU8, dBool, dStr, esOk, elemsS, vsliceX, bnd, ownV, ownC, own1, ownT, isSl, nSl, endL, Md.isOwn, purge, purgeH, purgeB, purgeE, hasName, name1, List.any_cons, List.any_nil, Md.isWr, pureV.pureP, Option.map, reduceIte, Nat.reduceEqDiff, Nat.reduceAdd, Nat.reduceMul, Nat.reduceLT, Nat.reduceLeDiff, List.mapM_cons, List.mapM_nil, Option.pure_def, Option.bind_eq_bind, Option.bind_some, implies_true, forall_const, beq_self_eq_true, decide_true, decide_false, eq_self, Int.reduceEq, Int.reduceLE, Int.reduceLT, if_true, if_false, grpK, Int.reduceAdd, Int.reduceSub, Int.reduceMul, Int.reduceNeg, Int.reducePow, Nat.reducePow, Int.reduceToNat, Nat.reduceSub, List.replicate, Nat.reduceBEq, wAs, wA, wC, zipW, noDupN, grpE, beq_true, beq_false, g_math_Sqrt, g_spec_l01Narrow, grpC, en0, dc_en0]
      all_goals (try simp only [*, m_spec_l01Sqrt, Bool.and_true, Bool.true_and, Bool.and_false, Bool.false_and, Bool.or_true, Bool.true_or, Bool.or_false, Bool.false_or, Bool.not_true, Bool.not_false, Bool.false_eq_true, if_true, if_false, reduceIte, decide_true, decide_false])
      all_goals (try (simp_all; done))
    · cases h
  · cases h
def m_spec_l02No  : (Nat × Nat × Nat × Nat) := (1065353216, 0, 0, 0)
def g_spec_l02No : List AV → Option AV
  | [] => some (AV.agg [(.flt .f32 (m_spec_l02No).1), (.flt .f32 (m_spec_l02No).2.1), (.flt .f32 (m_spec_l02No).2.2.1), (.flt .f32 (m_spec_l02No).2.2.2)])
  | _ => none
def ic103 : ICode := (.seq (.reg [⟨(some 0), none, (.alloc (.agg [(.flt .f32 0), (.flt .f32 0), (.flt .f32 0), (.flt .f32 0)]))⟩] [0]) (.seq (.reg [⟨(some 1), none, (.build [(.flt .f32 0), (.flt .f32 0), (.flt .f32 0), (.flt .f32 0)] [(0, 1, (.c (.flt .f32 1065353216)))])⟩, ⟨none, none, (.store 4 (.t 0) (.t 1))⟩] [0]) .ret))
def cp103 : CP := CP.mk [] [] [[0], [0]] 2 [] []
theorem s103 : ∀ vs r, g_spec_l02No vs = some r → SaysM Try.prog .any 103 vs r := by
  intro vs r h
  unfold g_spec_l02No at h
  split at h
  · cases h
    refine spec_of (m := .any) (tab := tabOf []) (cp := cp103) (ic := ic103) (rvl := [(.c 0 (some 4))]) hm tabOk_nil Try.func103 rfl rfl rfl (by kernel_rfl) rfl (Nat.le_of_ble_eq_true rfl) (Nat.le_of_ble_eq_true rfl) ?_
    show eA _ _ _ _
    unfold ic103
    simp only [
        grpA, vsliceS, grpS, grpD, grpF, grpL, eop, vop, bop, uop, fltop, convop, endOk, newE, new1, freshL, Md.isNew, outV, pureV, pureX, pure1, AV.cells, AV.one, storable, laid, refless, refless1, vload, loadC, storeC, vnil, vfaddr, vextract, flatT, flatE, flatC, vconv, vmm, vidxA, viaddrA, vfield, vlen, elemsOf, dF32, dF64, dI64, dU8, dBool, dStr, esOk, elemsS, vsliceX, bnd, ownV, ownC, own1, ownT, isSl, nSl, endL, Md.isOwn, purge, purgeH, purgeB, purgeE, hasName, name1, List.any_cons, List.any_nil, Md.isWr, pureV.pureP, Option.map, reduceIte, Nat.reduceEqDiff, Nat.reduceAdd, Nat.reduceMul, Nat.reduceLT, Nat.reduceLeDiff, List.mapM_cons, List.mapM_nil, Option.pure_def, Option.bind_eq_bind, Option.bind_some, implies_true, forall_const, beq_self_eq_true, decide_true, decide_false, eq_self, Int.reduceEq, Int.reduceLE, Int.reduceLT, if_true, if_false, grpK, Int.reduceAdd, Int.reduceSub, Int.reduceMul, Int.reduceNeg, Int.reducePow, Nat.reducePow, Int.reduceToNat, Nat.reduceSub, List.replicate, Nat.reduceBEq, wAs, wA, wC, zipW, noDupN, grpE, beq_true, beq_false, grpC, en0, dc_en0]
    all_goals (try simp only [*, m_spec_l02No, Bool.and_true, Bool.true_and, Bool.and_false, Bool.false_and, Bool.or_true, Bool.true_or, Bool.or_false, Bool.false_or, Bool.not_true, Bool.not_false, Bool.false_eq_true, if_true, if_false, reduceIte, decide_true, decide_false])
    all_goals (try (simp_all; done))
  · cases h
def m_spec_l02Mend (x0 : (Nat × Nat × Nat × Nat)) : (Nat × Nat × Nat × Nat) := (if (feq .f32 (m_spec_l01Sqrt (m_spec_l02Inner x0 x0)) 0) = true then (m_spec_l02No) else (if (m_spec_l01Finite (m_spec_l01Sqrt (m_spec_l02Inner x0 x0))) = true then ((fdiv .f32 x0.1 (m_spec_l01Sqrt (m_spec_l02Inner x0 x0))), (fdiv .f32 x0.2.1 (m_spec_l01Sqrt (m_spec_l02Inner x0 x0))), (fdiv .f32 x0.2.2.1 (m_spec_l01Sqrt (m_spec_l02Inner x0 x0))), (fdiv .f32 x0.2.2.2 (m_spec_l01Sqrt (m_spec_l02Inner x0 x0)))) else (m_spec_l02No)))
def p_spec_l02Mend (x0 : (Nat × Nat × Nat × Nat)) : Bool := (p_spec_l01Sqrt (m_spec_l02Inner x0 x0))
def g_spec_l02Mend : List AV → Option AV
  | [.agg [.flt .f32 y0, .flt .f32 y1, .flt .f32 y2, .flt .f32 y3]] => if p_spec_l02Mend (y0, y1, y2, y3) = true then some (AV.agg [(.flt .f32 (m_spec_l02Mend (y0, y1, y2, y3)).1), (.flt .f32 (m_spec_l02Mend (y0, y1, y2, y3)).2.1), (.flt .f32 (m_spec_l02Mend (y0, y1, y2, y3)).2.2.1), (.flt .f32 (m_spec_l02Mend (y0, y1, y2, y3)).2.2.2)]) else none
  | _ => none
def ic83 : ICode := (.seq (.reg [⟨(some 1), none, (.box 4 (.t 0))⟩, ⟨(some 2), none, (.alloc (.agg [(.flt .f32 0), (.flt .f32 0), (.flt .f32 0), (.flt .f32 0)]))⟩] [1, 2]) (.seq (.reg [⟨(some 4), none, (.load (some 4) (.t 1))⟩, ⟨(some 5), none, (.load (some 4) (.t 1))⟩, ⟨(some 6), none, (.call (.fn 102) [(.t 4), (.t 5)] [])⟩, ⟨(some 7), none, (.call (.fn 82) [(.t 6)] [])⟩, ⟨(some 3), none, (.mov (.t 7))⟩] [1, 2, 3]) (.seq (.seq (.reg [⟨(some 8), none, (.mov (.t 3))⟩, ⟨(some 9), none, (.bin .eql false (.t 8) (.c (.flt .f32 0)))⟩, ⟨(some 10), none, (.mov (.t 9))⟩, ⟨(some 11), (some (10, false)), (.mov (.t 3))⟩, ⟨(some 12), (some (10, false)), (.call (.fn 88) [(.t 11)] [])⟩, ⟨(some 13), (some (10, false)), (.un .not (.t 12))⟩, ⟨(some 14), none, (.pick (.t 10) (.c (.bool true)) (.t 13))⟩] [1, 2, 3, 14]) (.cond (.t 14) (.seq (.reg [⟨(some 15), none, (.call (.fn 103) [] [])⟩, ⟨none, none, (.store 4 (.t 2) (.t 15))⟩] [2]) .ret) .skip)) (.seq (.reg [⟨(some 16), none, (.faddr 0 (.t 1))⟩, ⟨(some 17), none, (.load none (.t 16))⟩, ⟨(some 18), none, (.mov (.t 3))⟩, ⟨(some 19), none, (.bin .quo false (.t 17) (.t 18))⟩, ⟨(some 20), none, (.faddr 1 (.t 1))⟩, ⟨(some 21), none, (.load none (.t 20))⟩, ⟨(some 22), none, (.mov (.t 3))⟩, ⟨(some 23), none, (.bin .quo false (.t 21) (.t 22))⟩, ⟨(some 24), none, (.faddr 2 (.t 1))⟩, ⟨(some 25), none, (.load none (.t 24))⟩, ⟨(some 26), none, (.mov (.t 3))⟩, ⟨(some 27), none, (.bin .quo false (.t 25) (.t 26))⟩, ⟨(some 28), none, (.faddr 3 (.t 1))⟩, ⟨(some 29), none, (.load none (.t 28))⟩, ⟨(some 30), none, (.mov (.t 3))⟩, ⟨(some 31), none, (.bin .quo false (.t 29) (.t 30))⟩, ⟨(some 32), none, (.build [(.flt .f32 0), (.flt .f32 0), (.flt .f32 0), (.flt .f32 0)] [(0, 1, (.t 19)), (1, 1, (.t 23)), (2, 1, (.t 27)), (3, 1, (.t 31))])⟩, ⟨none, none, (.store 4 (.t 2) (.t 32))⟩] [2]) .ret))))
def cp83 : CP := CP.mk [] [] [[1, 2], [1, 2, 3], [1, 2, 3, 14], [2], [2]] 33 [] []
theorem s83 : ∀ vs r, g_spec_l02Mend vs = some r → SaysM Try.prog .any 83 vs r := by
  intro vs r h
  unfold g_spec_l02Mend at h
  split at h
  · rename_i y0 y1 y2 y3
    split at h
    · rename_i hp
      cases h
      refine spec_of (m := .any) (tab := tabOf [(82, wM .any g_spec_l01Sqrt), (88, wM .any g_spec_l01Finite), (102, wM .any g_spec_l02Inner), (103, wM .any g_spec_l02No)]) (cp := cp83) (ic := ic83) (rvl := [(.c 2 (some 4))]) hm (tabOk_cons (m := .any) s82 (tabOk_cons (m := .any) s88 (tabOk_cons (m := .any) s102 (tabOk_cons (m := .any) s103 tabOk_nil)))) Try.func83 rfl rfl rfl (by kernel_rfl) rfl (Nat.le_of_ble_eq_true rfl) (Nat.le_of_ble_eq_true rfl) ?_
      show eA _ _ _ _
      unfold ic83
      simp only [p_spec_l02Mend, Bool.and_eq_true, Bool.or_eq_true, decide_eq_true_eq, Bool.not_eq_true', decide_eq_false_iff_not] at hp
      refine eS_to ?_
      repeat' (first
        | ((first | (have h := True.intro; refine eS_of ?_) | (refine eGI_of (fun h => ?_) (fun h => ?_)) | (refine eCc_of (fun h => ?_) (fun h => ?_)) | (refine ePk_of (fun h => ?_) (fun h => ?_))) <;> (try simp only [Bool.not_eq_true', Bool.not_eq_false'] at h) <;> (try first | exact absurd (Eq.trans (Eq.symm h) (by assumption)) Bool.false_ne_true | exact absurd (Eq.trans (Eq.symm h) (by assumption)) (Ne.symm Bool.false_ne_true)) <;> (try simp only [h, reduceCtorEq, grpN, Int.reduceEq, Int.reduceLT, Int.reduceLE, if_true, if_false, reduceIte] at hp) <;> (first | (have h2 := h; simp only [decide_eq_true_eq, decide_eq_false_iff_not] at h2; (first | (replace h2 := eq_false h2) | (replace h2 := eq_true h2)); (try simp only [h2, reduceCtorEq, grpN, Int.reduceEq, Int.reduceLT, Int.reduceLE, if_true, if_false, reduceIte] at hp); replace hp := And.intro h2 hp) | (replace hp := And.intro h hp) | skip) <;> simp only [h,
          hp, grpA, vsliceS, grpS, grpD, grpF, grpL, eop, vop, bop, uop, fltop, convop, endOk, newE, new1, freshL, Md.isNew, outV, pureV, pureX, pure1, AV.cells, AV.one, storable, laid, refless, refless1, vload, loadC, storeC, vnil, vfaddr, vextract, flatT, flatE, flatC, vconv, vmm, vidxA, viaddrA, vfield, vlen, elemsOf, dF32, dF64, dI64, dU8, dBool, dStr, esOk, elemsS, vsliceX, bnd, ownV, ownC, own1, ownT, isSl, nSl, endL, Md.isOwn, purge, purgeH, purgeB, purgeE, hasName, name1, List.any_cons, List.any_nil, Md.isWr, pureV.pureP, Option.map, reduceIte, Nat.reduceEqDiff, Nat.reduceAdd, Nat.reduceMul, Nat.reduceLT, Nat.reduceLeDiff, List.mapM_cons, List.mapM_nil, Option.pure_def, Option.bind_eq_bind, Option.bind_some, implies_true, forall_const, beq_self_eq_true, decide_true, decide_false, eq_self, Int.reduceEq, Int.reduceLE, Int.reduceLT, if_true, if_false, grpK, Int.reduceAdd, Int.reduceSub, Int.reduceMul, Int.reduceNeg, Int.reducePow, Nat.reducePow, Int.reduceToNat, Nat.reduceSub, List.replicate, Nat.reduceBEq, wAs, wA, wC, zipW, noDupN, grpE, beq_true, beq_false, g_spec_l01Sqrt, g_spec_l01Finite, g_spec_l02Inner, g_spec_l02No, grpC, en0, dc_en0, ↓b_pick, ePk_true, ePk_false]))
      all_goals (try simp only [*, m_spec_l02Mend, Bool.and_true, Bool.true_and, Bool.and_false, Bool.false_and, Bool.or_true, Bool.true_or, Bool.or_false, Bool.false_or, Bool.not_true, Bool.not_false, Bool.false_eq_true, if_true, if_false, reduceIte, decide_true, decide_false])
      all_goals (try (simp_all; done))
    · cases h
  · cases h
def m_spec_l06List (x0 : (Nat × Nat × Nat × Nat)) : (List Nat) := [x0.1, x0.2.1, x0.2.2.1, x0.2.2.2]
def g_spec_l06List : List AV → Option AV
  | [.agg [.flt .f32 y0, .flt .f32 y1, .flt .f32 y2, .flt .f32 y3]] => some (.sl (List.map (AV.flt .f32) (m_spec_l06List (y0, y1, y2, y3))))
  | _ => none
def ic89 : ICode := (.seq (.reg [⟨(some 1), none, (.box 4 (.t 0))⟩, ⟨(some 2), none, (.mov (.c .snil))⟩] [1]) (.seq (.reg [⟨(some 3), none, (.faddr 0 (.t 1))⟩, ⟨(some 4), none, (.load none (.t 3))⟩, ⟨(some 5), none, (.faddr 1 (.t 1))⟩, ⟨(some 6), none, (.load none (.t 5))⟩, ⟨(some 7), none, (.faddr 2 (.t 1))⟩, ⟨(some 8), none, (.load none (.t 7))⟩, ⟨(some 9), none, (.faddr 3 (.t 1))⟩, ⟨(some 10), none, (.load none (.t 9))⟩, ⟨(some 11), none, (.bslice 1 4 (.flt .f32 0) [(0, (.t 4)), (1, (.t 6)), (2, (.t 8)), (3, (.t 10))])⟩, ⟨(some 2), none, (.mov (.t 11))⟩] [2]) .ret))
def cp89 : CP := CP.mk [] [] [[1], [2]] 12 [] []
theorem s89 : ∀ vs r, g_spec_l06List vs = some r → SaysM Try.prog (.own [1]) 89 vs r := by
  intro vs r h
  unfold g_spec_l06List at h
  split at h
  · rename_i y0 y1 y2 y3
    cases h
    refine spec_of (m := (.own [1])) (tab := tabOf []) (cp := cp89) (ic := ic89) (rvl := [(.t 2)]) hm tabOk_nil Try.func89 rfl rfl rfl (by kernel_rfl) rfl (Nat.le_of_ble_eq_true rfl) (Nat.le_of_ble_eq_true rfl) ?_
    show eA _ _ _ _
    unfold ic89
    simp only [
        grpA, vsliceS, grpS, grpD, grpF, grpL, eop, vop, bop, uop, fltop, convop, endOk, newE, new1, freshL, Md.isNew, outV, pureV, pureX, pure1, AV.cells, AV.one, storable, laid, refless, refless1, vload, loadC, storeC, vnil, vfaddr, vextract, flatT, flatE, flatC, vconv, vmm, vidxA, viaddrA, vfield, vlen, elemsOf, dF32, dF64, dI64, dU8, dBool, dStr, esOk, elemsS, vsliceX, bnd, ownV, ownC, own1, ownT, isSl, nSl, endL, Md.isOwn, purge, purgeH, purgeB, purgeE, hasName, name1, List.any_cons, List.any_nil, Md.isWr, pureV.pureP, Option.map, reduceIte, Nat.reduceEqDiff, Nat.reduceAdd, Nat.reduceMul, Nat.reduceLT, Nat.reduceLeDiff, List.mapM_cons, List.mapM_nil, Option.pure_def, Option.bind_eq_bind, Option.bind_some, implies_true, forall_const, beq_self_eq_true, decide_true, decide_false, eq_self, Int.reduceEq, Int.reduceLE, Int.reduceLT, if_true, if_false, grpK, Int.reduceAdd, Int.reduceSub, Int.reduceMul, Int.reduceNeg, Int.reducePow, Nat.reducePow, Int.reduceToNat, Nat.reduceSub, List.replicate, Nat.reduceBEq, wAs, wA, wC, zipW, noDupN, grpE, beq_true, beq_false, grpC, en0, dc_en0]
    all_goals (try simp only [*, m_spec_l06List, Bool.and_true, Bool.true_and, Bool.and_false, Bool.false_and, Bool.or_true, Bool.true_or, Bool.or_false, Bool.false_or, Bool.not_true, Bool.not_false, Bool.false_eq_true, if_true, if_false, reduceIte, decide_true, decide_false])
    all_goals (try (simp_all; done))
  · cases h
theorem s111 : ∀ vs r, g_f32bits vs = some r → SaysM Try.prog .any 111 vs r := t_f32bits Try.func111 (by kernel_rfl) rfl (by kernel_rfl) (by kernel_rfl)
def m_spec_l01Bits (x0 : Nat) : Int := (if (feq .f32 x0 x0) = true then (IntKind.wrap .i64 ((x0 : Nat) : Int)) else 2143289344)
def p_spec_l01Bits (x0 : Nat) : Bool := (!(feq .f32 x0 x0) || (feq .f32 x0 x0))
def g_spec_l01Bits : List AV → Option AV
  | [.flt .f32 y0] => if p_spec_l01Bits y0 = true then some (.int .i64 (m_spec_l01Bits y0)) else none
  | _ => none
def ic107 : ICode := (.seq (.reg [⟨(some 2), none, (.mov (.c (.int .i64 0)))⟩] [0]) (.seq (.seq (.reg [⟨(some 3), none, (.mov (.t 0))⟩, ⟨(some 4), none, (.mov (.t 0))⟩, ⟨(some 5), none, (.bin .neq false (.t 3) (.t 4))⟩] [0, 5]) (.cond (.t 5) (.seq (.reg [⟨(some 2), none, (.mov (.c (.int .i64 2143289344)))⟩] [2]) .ret) .skip)) (.seq (.reg [⟨(some 6), none, (.mov (.t 0))⟩, ⟨(some 7), none, (.call (.fn 111) [(.t 6)] [])⟩, ⟨(some 8), none, (.conv (.int .i64) (.t 7))⟩, ⟨(some 2), none, (.mov (.t 8))⟩] [2]) .ret)))
def cp107 : CP := CP.mk [] [] [[0], [0, 5], [2], [2]] 9 [] []
theorem s107 : ∀ vs r, g_spec_l01Bits vs = some r → SaysM Try.prog .any 107 vs r := by
  intro vs r h
  unfold g_spec_l01Bits at h
  split at h
  · rename_i y0
    split at h
    · rename_i hp
      cases h
      refine spec_of (m := .any) (tab := tabOf [(111, wM .any g_f32bits)]) (cp := cp107) (ic := ic107) (rvl := [(.t 2)]) hm (tabOk_cons (m := .any) s111 tabOk_nil) Try.func107 rfl rfl rfl (by kernel_rfl) rfl (Nat.le_of_ble_eq_true rfl) (Nat.le_of_ble_eq_true rfl) ?_
      show eA _ _ _ _
      unfold ic107
      simp only [p_spec_l01Bits, Bool.and_eq_true, Bool.or_eq_true, decide_eq_true_eq, Bool.not_eq_true', decide_eq_false_iff_not] at hp
      refine eS_to ?_
      repeat' (first
        | ((first | (have h := True.intro; refine eS_of ?_) | (refine eGI_of (fun h => ?_) (fun h => ?_)) | (refine eCc_of (fun h => ?_) (fun h => ?_))) <;> (try simp only [Bool.not_eq_true', Bool.not_eq_false'] at h) <;> (try first | exact absurd (Eq.trans (Eq.symm h) (by assumption)) Bool.false_ne_true | exact absurd (Eq.trans (Eq.symm h) (by assumption)) (Ne.symm Bool.false_ne_true)) <;> (try simp only [h, reduceCtorEq, grpN, Int.reduceEq, Int.reduceLT, Int.reduceLE, if_true, if_false, reduceIte] at hp) <;> (first | (have h2 := h; simp only [decide_eq_true_eq, decide_eq_false_iff_not] at h2; (first | (replace h2 := eq_false h2) | (replace h2 := eq_true h2)); (try simp only [h2, reduceCtorEq, grpN, Int.reduceEq, Int.reduceLT, Int.reduceLE, if_true, if_false, reduceIte] at hp); replace hp := And.intro h2 hp) | (replace hp := And.intro h hp) | skip) <;> simp only [h,
          hp, grpA, vsliceS, grpS, grpD, grpF, grpL, eop, vop, bop, uop, fltop, convop, endOk, newE, new1, freshL, Md.isNew, outV, pureV, pureX, pure1, AV.cells, AV.one, storable, laid, refless, refless1, vload, loadC, storeC, vnil, vfaddr, vextract, flatT, flatE, flatC, vconv, vmm, vidxA, viaddrA, vfield, vlen, elemsOf, dF32, dF64, dI64, dU8, dBool, dStr, esOk, elemsS, vsliceX, bnd, ownV, ownC, own1, ownT, isSl, nSl, endL, Md.isOwn, purge, purgeH, purgeB, purgeE, hasName, name1, List.any_cons, List.any_nil, Md.isWr, pureV.pureP, Option.map, reduceIte, Nat.reduceEqDiff, Nat.reduceAdd, Nat.reduceMul, Nat.reduceLT, Nat.reduceLeDiff, List.mapM_cons, List.mapM_nil, Option.pure_def, Option.bind_eq_bind, Option.bind_some, implies_true, forall_const, beq_self_eq_true, decide_true, decide_false, eq_self, Int.reduceEq, Int.reduceLE, Int.reduceLT, if_true, if_false, grpK, Int.reduceAdd, Int.reduceSub, Int.reduceMul, Int.reduceNeg, Int.reducePow, Nat.reducePow, Int.reduceToNat, Nat.reduceSub, List.replicate, Nat.reduceBEq, wAs, wA, wC, zipW, noDupN, grpE, beq_true, beq_false, g_f32bits, grpC, en0, dc_en0]))
      all_goals (try simp only [*, m_spec_l01Bits, Bool.and_true, Bool.true_and, Bool.and_false, Bool.false_and, Bool.or_true, Bool.true_or, Bool.or_false, Bool.false_or, Bool.not_true, Bool.not_false, Bool.false_eq_true, if_true, if_false, reduceIte, decide_true, decide_false])
      all_goals (try (simp_all; done))
    · cases h
  · cases h
theorem s110 : ∀ vs r, g_f32from vs = some r → SaysM Try.prog .any 110 vs r := t_f32from Try.func110 (by kernel_rfl) rfl (by kernel_rfl) (by kernel_rfl)
def m_spec_l01From (x0 : Int) : Nat := (cn .f32 (Int.toNat (IntKind.wrap .u32 x0)))
def g_spec_l01From : List AV → Option AV
  | [.int .i64 y0] => some (.flt .f32 (m_spec_l01From y0))
  | _ => none
def ic106 : ICode := (.seq (.reg [⟨(some 2), none, (.mov (.c (.flt .f32 0)))⟩] [0]) (.seq (.reg [⟨(some 3), none, (.mov (.t 0))⟩, ⟨(some 4), none, (.conv (.int .u32) (.t 3))⟩, ⟨(some 5), none, (.call (.fn 110) [(.t 4)] [])⟩, ⟨(some 2), none, (.mov (.t 5))⟩] [2]) .ret))
def cp106 : CP := CP.mk [] [] [[0], [2]] 6 [] []
theorem s106 : ∀ vs r, g_spec_l01From vs = some r → SaysM Try.prog .any 106 vs r := by
  intro vs r h
  unfold g_spec_l01From at h
  split at h
  · rename_i y0
    cases h
    refine spec_of (m := .any) (tab := tabOf [(110, wM .any g_f32from)]) (cp := cp106) (ic := ic106) (rvl := [(.t 2)]) hm (tabOk_cons (m := .any) s110 tabOk_nil) Try.func106 rfl rfl rfl (by kernel_rfl) rfl (Nat.le_of_ble_eq_true rfl) (Nat.le_of_ble_eq_true rfl) ?_
    show eA _ _ _ _
    unfold ic106
    simp only [
        grpA, vsliceS, grpS, grpD, grpF, grpL, eop, vop, bop, uop, fltop, convop, endOk, newE, new1, freshL, Md.isNew, outV, pureV, pureX, pure1, AV.cells, AV.one, storable, laid, refless, refless1, vload, loadC, storeC, vnil, vfaddr, vextract, flatT, flatE, flatC, vconv, vmm, vidxA, viaddrA, vfield, vlen, elemsOf, dF32, dF64, dI64, dU8, dBool, dStr, esOk, elemsS, vsliceX, bnd, ownV, ownC, own1, ownT, isSl, nSl, endL, Md.isOwn, purge, purgeH, purgeB, purgeE, hasName, name1, List.any_cons, List.any_nil, Md.isWr, pureV.pureP, Option.map, reduceIte, Nat.reduceEqDiff, Nat.reduceAdd, Nat.reduceMul, Nat.reduceLT, Nat.reduceLeDiff, List.mapM_cons, List.mapM_nil, Option.pure_def, Option.bind_eq_bind, Option.bind_some, implies_true, forall_const, beq_self_eq_true, decide_true, decide_false, eq_self, Int.reduceEq, Int.reduceLE, Int.reduceLT, if_true, if_false, grpK, Int.reduceAdd, Int.reduceSub, Int.reduceMul, Int.reduceNeg, Int.reducePow, Nat.reducePow, Int.reduceToNat, Nat.reduceSub, List.replicate, Nat.reduceBEq, wAs, wA, wC, zipW, noDupN, grpE, beq_true, beq_false, g_f32from, grpC, en0, dc_en0]
    all_goals (try simp only [*, m_spec_l01From, Bool.and_true, Bool.true_and, Bool.and_false, Bool.false_and, Bool.or_true, Bool.true_or, Bool.or_false, Bool.false_or, Bool.not_true, Bool.not_false, Bool.false_eq_true, if_true, if_false, reduceIte, decide_true, decide_false])
    all_goals (try (simp_all; done))
  · cases h
def m_spec_l02Size (x0 : Nat) : Nat := (m_spec_l01From (bitop .andNot .i64 (m_spec_l01Bits x0) 2147483648))
def p_spec_l02Size (x0 : Nat) : Bool := (p_spec_l01Bits x0)
def g_spec_l02Size : List AV → Option AV
  | [.flt .f32 y0] => if p_spec_l02Size y0 = true then some (.flt .f32 (m_spec_l02Size y0)) else none
  | _ => none
def ic90 : ICode := (.seq (.reg [⟨(some 2), none, (.mov (.c (.flt .f32 0)))⟩] [0]) (.seq (.reg [⟨(some 3), none, (.mov (.t 0))⟩, ⟨(some 4), none, (.call (.fn 107) [(.t 3)] [])⟩, ⟨(some 5), none, (.bin .andNot false (.t 4) (.c (.int .i64 2147483648)))⟩, ⟨(some 6), none, (.call (.fn 106) [(.t 5)] [])⟩, ⟨(some 2), none, (.mov (.t 6))⟩] [2]) .ret))
def cp90 : CP := CP.mk [] [] [[0], [2]] 7 [] []
theorem s90 : ∀ vs r, g_spec_l02Size vs = some r → SaysM Try.prog .any 90 vs r := by
  intro vs r h
  unfold g_spec_l02Size at h
  split at h
  · rename_i y0
    split at h
    · rename_i hp
      cases h
      refine spec_of (m := .any) (tab := tabOf [(106, wM .any g_spec_l01From), (107, wM .any g_spec_l01Bits)]) (cp := cp90) (ic := ic90) (rvl := [(.t 2)]) hm (tabOk_cons (m := .any) s106 (tabOk_cons (m := .any) s107 tabOk_nil)) Try.func90 rfl rfl rfl (by kernel_rfl) rfl (Nat.le_of_ble_eq_true rfl) (Nat.le_of_ble_eq_true rfl) ?_
      show eA _ _ _ _
      unfold ic90
      simp only [p_spec_l02Size, Bool.and_eq_true, Bool.or_eq_true, decide_eq_true_eq, Bool.not_eq_true', decide_eq_false_iff_not] at hp
      simp only [
          hp, grpA, vsliceS, grpS, grpD, grpF, grpL, eop, vop, bop, uop, fltop, convop, endOk, newE, new1, freshL, Md.isNew, outV, pureV, pureX, pure1, AV.cells, AV.one, storable, laid, refless, refless1, vload, loadC, storeC, vnil, vfaddr, vextract, flatT, flatE, flatC, vconv, vmm, vidxA, viaddrA, vfield, vlen, elemsOf, dF32, dF64, dI64, dU8, dBool, dStr, esOk, elemsS, vsliceX, bnd, ownV, ownC, own1, ownT, isSl, nSl, endL, Md.isOwn, purge, purgeH, purgeB, purgeE, hasName, name1, List.any_cons, List.any_nil, Md.isWr, pureV.pureP, Option.map, reduceIte, Nat.reduceEqDiff, Nat.reduceAdd, Nat.reduceMul, Nat.reduceLT, Nat.reduceLeDiff, List.mapM_cons, List.mapM_nil, Option.pure_def, Option.bind_eq_bind, Option.bind_some, implies_true, forall_const, beq_self_eq_true, decide_true, decide_false, eq_self, Int.reduceEq, Int.reduceLE, Int.reduceLT, if_true, if_false, grpK, Int.reduceAdd, Int.reduceSub, Int.reduceMul, Int.reduceNeg, Int.reducePow, Nat.reducePow, Int.reduceToNat, Nat.reduceSub, List.replicate, Nat.reduceBEq, wAs, wA, wC, zipW, noDupN, grpE, beq_true, beq_false, g_spec_l01From, g_spec_l01Bits, grpC, en0, dc_en0]
      all_goals (try simp only [*, m_spec_l02Size, Bool.and_true, Bool.true_and, Bool.and_false, Bool.false_and, Bool.or_true, Bool.true_or, Bool.or_false, Bool.false_or, Bool.not_true, Bool.not_false, Bool.false_eq_true, if_true, if_false, reduceIte, decide_true, decide_false])
      all_goals (try (simp_all; done))
    · cases h
  · cases h
def v_spec_l06Pack_0 (x0 : (Nat × Nat × Nat × Nat)) (z0_0 : Int) (z0_1 : Int) : Int := (if (flt .f32 (m_spec_l02Size (atI (m_spec_l06List (m_spec_l02Mend x0)) z0_0)) (m_spec_l02Size (atI (m_spec_l06List (m_spec_l02Mend x0)) z0_1))) = true then z0_1 else z0_0)
def l_spec_l06Pack_0 (x0 : (Nat × Nat × Nat × Nat)) (x1 : Int) : Nat → Int → Int → Option Int
  | 0, _, _ => none
  | n + 1, z0_0, z0_1 => (if (decide (z0_1 < 4)) = true then (need (inB z0_1 (List.length (m_spec_l06List (m_spec_l02Mend x0)))) (need (p_spec_l02Size (atI (m_spec_l06List (m_spec_l02Mend x0)) z0_1)) (need (inB z0_0 (List.length (m_spec_l06List (m_spec_l02Mend x0)))) (need (p_spec_l02Size (atI (m_spec_l06List (m_spec_l02Mend x0)) z0_0)) (l_spec_l06Pack_0 x0 x1 n (v_spec_l06Pack_0 x0 z0_0 z0_1) (IntKind.wrap .i64 (z0_1 + 1))))))) else (some z0_0))
def v_spec_l06Pack_4 (x0 : (Nat × Nat × Nat × Nat)) (x1 : Int) (z1_1 : Int) : Nat := (if (flt .f32 (atI (m_spec_l06List (m_spec_l02Mend x0)) (Option.getD (l_spec_l06Pack_0 x0 x1 5 0 1) default)) 0) = true then (fneg .f32 (atI (m_spec_l06List (m_spec_l02Mend x0)) z1_1)) else (atI (m_spec_l06List (m_spec_l02Mend x0)) z1_1))
def v_spec_l06Pack_5 (x0 : (Nat × Nat × Nat × Nat)) (x1 : Int) (z1_0 : Int) (z1_1 : Int) : Int := (IntKind.wrap .i64 ((IntKind.wrap .i64 (z1_0 * 2 ^ (min ((IntKind.wrap .u64 x1) : Int).toNat 64))) + (m_spec_l06Code (v_spec_l06Pack_4 x0 x1 z1_1) 3208642560 1061158912 x1)))
def l_spec_l06Pack_1 (x0 : (Nat × Nat × Nat × Nat)) (x1 : Int) : Nat → Int → Int → Option Int
  | 0, _, _ => none
  | n + 1, z1_0, z1_1 => (if (decide (z1_1 < 4)) = true then (need (inB z1_1 (List.length (m_spec_l06List (m_spec_l02Mend x0)))) (need (inB (Option.getD (l_spec_l06Pack_0 x0 x1 5 0 1) default) (List.length (m_spec_l06List (m_spec_l02Mend x0)))) (need ((decide (z1_1 = (Option.getD (l_spec_l06Pack_0 x0 x1 5 0 1) default))) || ((decide (0 ≤ (IntKind.wrap .u64 x1))) && (p_spec_l06Code (v_spec_l06Pack_4 x0 x1 z1_1) 3208642560 1061158912 x1))) (l_spec_l06Pack_1 x0 x1 n (if (decide (z1_1 = (Option.getD (l_spec_l06Pack_0 x0 x1 5 0 1) default))) = true then z1_0 else (v_spec_l06Pack_5 x0 x1 z1_0 z1_1)) (IntKind.wrap .i64 (z1_1 + 1)))))) else (some z1_0))
def m_spec_l06Pack (x0 : (Nat × Nat × Nat × Nat)) (x1 : Int) : Int := (Option.getD (l_spec_l06Pack_1 x0 x1 6 (Option.getD (l_spec_l06Pack_0 x0 x1 5 0 1) default) 0) default)
def p_spec_l06Pack (x0 : (Nat × Nat × Nat × Nat)) (x1 : Int) : Bool := ((p_spec_l02Mend x0) && ((Option.isSome (l_spec_l06Pack_0 x0 x1 5 0 1)) && (Option.isSome (l_spec_l06Pack_1 x0 x1 6 (Option.getD (l_spec_l06Pack_0 x0 x1 5 0 1) default) 0))))
def g_spec_l06Pack : List AV → Option AV
  | [.agg [.flt .f32 y0, .flt .f32 y1, .flt .f32 y2, .flt .f32 y3], .int .i64 y4] => if p_spec_l06Pack (y0, y1, y2, y3) y4 = true then some (.int .i64 (m_spec_l06Pack (y0, y1, y2, y3) y4)) else none
  | _ => none
def lb57_0 : ICode := (.seq (.seq (.reg [⟨(some 14), none, (.mov (.t 7))⟩, ⟨(some 15), none, (.bin .lss false (.t 14) (.c (.int .i64 4)))⟩] [1, 5, 6, 7, 15]) (.cond (.t 15) .skip (.exit 0))) (.seq (.block 1 (.seq (.reg [⟨(some 18), none, (.mov (.t 5))⟩, ⟨(some 19), none, (.mov (.t 7))⟩, ⟨(some 20), none, (.iaddrS 1 (.t 18) (.t 19))⟩, ⟨(some 21), none, (.load none (.t 20))⟩, ⟨(some 22), none, (.call (.fn 90) [(.t 21)] [])⟩, ⟨(some 23), none, (.mov (.t 5))⟩, ⟨(some 24), none, (.mov (.t 6))⟩, ⟨(some 25), none, (.iaddrS 1 (.t 23) (.t 24))⟩, ⟨(some 26), none, (.load none (.t 25))⟩, ⟨(some 27), none, (.call (.fn 90) [(.t 26)] [])⟩, ⟨(some 28), none, (.bin .gtr false (.t 22) (.t 27))⟩] [1, 5, 6, 7, 28]) (.cond (.t 28) (.reg [⟨(some 29), none, (.mov (.t 7))⟩, ⟨(some 6), none, (.mov (.t 29))⟩] [1, 5, 6, 7]) .skip))) (.reg [⟨(some 16), none, (.mov (.t 7))⟩, ⟨(some 17), none, (.bin .add false (.t 16) (.c (.int .i64 1)))⟩, ⟨(some 7), none, (.mov (.t 17))⟩] [1, 5, 6, 7])))
def lb57_1 : ICode := (.seq (.seq (.reg [⟨(some 31), none, (.mov (.t 9))⟩, ⟨(some 32), none, (.bin .lss false (.t 31) (.c (.int .i64 4)))⟩] [1, 5, 6, 8, 9, 32]) (.cond (.t 32) .skip (.exit 2))) (.seq (.block 3 (.seq (.reg [⟨(some 35), none, (.mov (.t 5))⟩, ⟨(some 36), none, (.mov (.t 9))⟩, ⟨(some 37), none, (.iaddrS 1 (.t 35) (.t 36))⟩, ⟨(some 38), none, (.load none (.t 37))⟩, ⟨(some 10), none, (.mov (.t 38))⟩] [1, 5, 6, 8, 9, 10]) (.seq (.seq (.reg [⟨(some 39), none, (.mov (.t 5))⟩, ⟨(some 40), none, (.mov (.t 6))⟩, ⟨(some 41), none, (.iaddrS 1 (.t 39) (.t 40))⟩, ⟨(some 42), none, (.load none (.t 41))⟩, ⟨(some 43), none, (.bin .lss false (.t 42) (.c (.flt .f32 0)))⟩] [1, 5, 6, 8, 9, 10, 43]) (.cond (.t 43) (.reg [⟨(some 44), none, (.mov (.t 10))⟩, ⟨(some 45), none, (.un .neg (.t 44))⟩, ⟨(some 10), none, (.mov (.t 45))⟩] [1, 5, 6, 8, 9, 10]) .skip)) (.seq (.reg [⟨(some 46), none, (.mov (.t 9))⟩, ⟨(some 47), none, (.mov (.t 6))⟩, ⟨(some 48), none, (.bin .neq false (.t 46) (.t 47))⟩] [1, 5, 6, 8, 9, 10, 48]) (.cond (.t 48) (.reg [⟨(some 49), none, (.mov (.t 8))⟩, ⟨(some 50), none, (.mov (.t 1))⟩, ⟨(some 51), none, (.conv (.int .u64) (.t 50))⟩, ⟨(some 52), none, (.bin .shl false (.t 49) (.t 51))⟩, ⟨(some 53), none, (.mov (.t 10))⟩, ⟨(some 54), none, (.mov (.t 1))⟩, ⟨(some 55), none, (.call (.fn 91) [(.t 53), (.c (.flt .f32 3208642560)), (.c (.flt .f32 1061158912)), (.t 54)] [])⟩, ⟨(some 56), none, (.bin .add false (.t 52) (.t 55))⟩, ⟨(some 8), none, (.mov (.t 56))⟩] [1, 5, 6, 8, 9]) .skip))))) (.reg [⟨(some 33), none, (.mov (.t 9))⟩, ⟨(some 34), none, (.bin .add false (.t 33) (.c (.int .i64 1)))⟩, ⟨(some 9), none, (.mov (.t 34))⟩] [1, 5, 6, 8, 9])))
def ic57 : ICode := (.seq (.reg [⟨(some 2), none, (.box 4 (.t 0))⟩, ⟨(some 4), none, (.mov (.c (.int .i64 0)))⟩] [1, 2]) (.seq (.reg [⟨(some 11), none, (.load (some 4) (.t 2))⟩, ⟨(some 12), none, (.call (.fn 83) [(.t 11)] [])⟩, ⟨(some 13), none, (.call (.fn 89) [(.t 12)] [])⟩, ⟨(some 5), none, (.mov (.t 13))⟩] [1, 5]) (.seq (.reg [⟨(some 6), none, (.mov (.c (.int .i64 0)))⟩] [1, 5, 6]) (.seq (.seq (.reg [⟨(some 7), none, (.mov (.c (.int .i64 1)))⟩] [1, 5, 6, 7]) (.block 0 (.loop lb57_0))) (.seq (.reg [⟨(some 30), none, (.mov (.t 6))⟩, ⟨(some 8), none, (.mov (.t 30))⟩] [1, 5, 6, 8]) (.seq (.seq (.reg [⟨(some 9), none, (.mov (.c (.int .i64 0)))⟩] [1, 5, 6, 8, 9]) (.block 2 (.loop lb57_1))) (.seq (.reg [⟨(some 57), none, (.mov (.t 8))⟩, ⟨(some 4), none, (.mov (.t 57))⟩] [4]) .ret)))))))
def cp57 : CP := CP.mk [] [] [[1, 2], [1, 5], [1, 5, 6], [1, 5, 6, 7], [1, 5, 6, 7, 15], [1, 5, 6, 7], [1, 5, 6, 7, 28], [1, 5, 6, 7], [1, 5, 6, 8], [1, 5, 6, 8, 9], [1, 5, 6, 8, 9, 32], [1, 5, 6, 8, 9], [1, 5, 6, 8, 9, 10], [1, 5, 6, 8, 9, 10, 43], [1, 5, 6, 8, 9, 10], [1, 5, 6, 8, 9, 10, 48], [1, 5, 6, 8, 9], [4]] 58 [] []
theorem sl57_0 (x0 : (Nat × Nat × Nat × Nat)) (x1 : Int) : ∀ (n : Nat) (z0_0 : Int) (z0_1 : Int) (o : Int) (K : IExit → St → Prop), l_spec_l06Pack_0 x0 x1 n z0_0 z0_1 = some o → (∀ st, Wk st (⟨[(1, (.int .i64 x1)), (5, (.sl (List.map (AV.flt .f32) (m_spec_l06List (m_spec_l02Mend x0))))), (6, (.int .i64 o))], []⟩ : St) → K (.exit 0) st) → eA (tabOf [(83, wM .any g_spec_l02Mend), (89, wM (.own [1]) g_spec_l06List), (90, wM .any g_spec_l02Size), (91, wM .any g_spec_l06Code)]) (.loop lb57_0) (⟨[(1, (.int .i64 x1)), (5, (.sl (List.map (AV.flt .f32) (m_spec_l06List (m_spec_l02Mend x0))))), (6, (.int .i64 z0_0)), (7, (.int .i64 z0_1))], []⟩ : St) K := by
  intro n
  induction n with
  | zero =>
    intro z0_0 z0_1 o K h h0
    simp only [l_spec_l06Pack_0, reduceCtorEq] at h
  | succ n ih =>
    intro z0_0 z0_1 o K h h0
    refine eA_loop ?_
    unfold lb57_0
    unfold l_spec_l06Pack_0 at h
    (try simp only [need_iff, v_spec_l06Pack_0, v_spec_l06Pack_4, v_spec_l06Pack_5] at h)
    simp only [
      need_iff, h, grpA, vsliceS, grpS, grpD, grpF, grpL, eop, vop, bop, uop, fltop, convop, endOk, newE, new1, freshL, Md.isNew, outV, pureV, pureX, pure1, AV.cells, AV.one, storable, laid, refless, refless1, vload, loadC, storeC, vnil, vfaddr, vextract, flatT, flatE, flatC, vconv, vmm, vidxA, viaddrA, vfield, vlen, elemsOf, dF32, dF64, dI64, dU8, dBool, dStr, esOk, elemsS, vsliceX, bnd, ownV, ownC, own1, ownT, isSl, nSl, endL, Md.isOwn, purge, purgeH, purgeB, purgeE, hasName, name1, List.any_cons, List.any_nil, Md.isWr, pureV.pureP, Option.map, reduceIte, Nat.reduceEqDiff, Nat.reduceAdd, Nat.reduceMul, Nat.reduceLT, Nat.reduceLeDiff, List.mapM_cons, List.mapM_nil, Option.pure_def, Option.bind_eq_bind, Option.bind_some, implies_true, forall_const, beq_self_eq_true, decide_true, decide_false, eq_self, Int.reduceEq, Int.reduceLE, Int.reduceLT, if_true, if_false, grpK, Int.reduceAdd, Int.reduceSub, Int.reduceMul, Int.reduceNeg, Int.reducePow, Nat.reducePow, Int.reduceToNat, Nat.reduceSub, List.replicate, Nat.reduceBEq, wAs, wA, wC, zipW, noDupN, grpE, beq_true, beq_false, g_spec_l02Mend, g_spec_l06List, g_spec_l02Size, g_spec_l06Code, grpC, en0, dc_en0]
    repeat' (first
      | ((first | (refine eGI_of (fun hc => ?_) (fun hc => ?_)) | (refine eCc_of (fun hc => ?_) (fun hc => ?_)) | (have hc := True.intro; refine KW_refl ?_)) <;> (try simp only [Bool.not_eq_true', Bool.not_eq_false'] at hc) <;> (try simp only [hc, need_iff, reduceCtorEq, grpN, Int.reduceEq, Int.reduceLT, Int.reduceLE, if_true, if_false, reduceIte] at h) <;> (first | (have hc2 := hc; simp only [decide_eq_true_eq, decide_eq_false_iff_not] at hc2; (first | (replace hc2 := eq_false hc2) | (replace hc2 := eq_true hc2)); (try simp only [hc2, need_iff, reduceCtorEq, grpN, Int.reduceEq, Int.reduceLT, Int.reduceLE, if_true, if_false, reduceIte] at h); replace h := And.intro hc2 h) | (replace h := And.intro hc h) | skip) <;> simp only [hc,
      need_iff, h, grpA, vsliceS, grpS, grpD, grpF, grpL, eop, vop, bop, uop, fltop, convop, endOk, newE, new1, freshL, Md.isNew, outV, pureV, pureX, pure1, AV.cells, AV.one, storable, laid, refless, refless1, vload, loadC, storeC, vnil, vfaddr, vextract, flatT, flatE, flatC, vconv, vmm, vidxA, viaddrA, vfield, vlen, elemsOf, dF32, dF64, dI64, dU8, dBool, dStr, esOk, elemsS, vsliceX, bnd, ownV, ownC, own1, ownT, isSl, nSl, endL, Md.isOwn, purge, purgeH, purgeB, purgeE, hasName, name1, List.any_cons, List.any_nil, Md.isWr, pureV.pureP, Option.map, reduceIte, Nat.reduceEqDiff, Nat.reduceAdd, Nat.reduceMul, Nat.reduceLT, Nat.reduceLeDiff, List.mapM_cons, List.mapM_nil, Option.pure_def, Option.bind_eq_bind, Option.bind_some, implies_true, forall_const, beq_self_eq_true, decide_true, decide_false, eq_self, Int.reduceEq, Int.reduceLE, Int.reduceLT, if_true, if_false, grpK, Int.reduceAdd, Int.reduceSub, Int.reduceMul, Int.reduceNeg, Int.reducePow, Nat.reducePow, Int.reduceToNat, Nat.reduceSub, List.replicate, Nat.reduceBEq, wAs, wA, wC, zipW, noDupN, grpE, beq_true, beq_false, g_spec_l02Mend, g_spec_l06List, g_spec_l02Size, g_spec_l06Code, grpC, en0, dc_en0]))
    all_goals (have hf := h)
    all_goals (repeat (replace h := And.right h))
    all_goals ((first | (refine eA_wk (wk_norm (ks := [1, 5, 6, 7]) (ls := []) ?_) (eA_cast ?_ (ih _ _ _ _ h h0))) | (cases h; have h := True.intro; refine h0 _ (Wk.cast (wk_norm (ks := [1, 5, 6]) (ls := []) ?_) ?_))) <;> simp only [normOk, optIn, blkIn, nameIn, normS, List.map_append, List.length_append, List.map_set, List.length_set, List.map_replicate, List.length_replicate, List.map_nil, List.map_cons,
      need_iff, h, hf, grpA, vsliceS, grpS, grpD, grpF, grpL, eop, vop, bop, uop, fltop, convop, endOk, newE, new1, freshL, Md.isNew, outV, pureV, pureX, pure1, AV.cells, AV.one, storable, laid, refless, refless1, vload, loadC, storeC, vnil, vfaddr, vextract, flatT, flatE, flatC, vconv, vmm, vidxA, viaddrA, vfield, vlen, elemsOf, dF32, dF64, dI64, dU8, dBool, dStr, esOk, elemsS, vsliceX, bnd, ownV, ownC, own1, ownT, isSl, nSl, endL, Md.isOwn, purge, purgeH, purgeB, purgeE, hasName, name1, List.any_cons, List.any_nil, Md.isWr, pureV.pureP, Option.map, reduceIte, Nat.reduceEqDiff, Nat.reduceAdd, Nat.reduceMul, Nat.reduceLT, Nat.reduceLeDiff, List.mapM_cons, List.mapM_nil, Option.pure_def, Option.bind_eq_bind, Option.bind_some, implies_true, forall_const, beq_self_eq_true, decide_true, decide_false, eq_self, Int.reduceEq, Int.reduceLE, Int.reduceLT, if_true, if_false, grpK, Int.reduceAdd, Int.reduceSub, Int.reduceMul, Int.reduceNeg, Int.reducePow, Nat.reducePow, Int.reduceToNat, Nat.reduceSub, List.replicate, Nat.reduceBEq, wAs, wA, wC, zipW, noDupN, grpE, beq_true, beq_false, g_spec_l02Mend, g_spec_l06List, g_spec_l02Size, g_spec_l06Code, grpC, en0, dc_en0] <;> first | rfl | (simp only [Nat.add_comm]; done))
theorem sl57_1 (x0 : (Nat × Nat × Nat × Nat)) (x1 : Int) : ∀ (n : Nat) (z1_0 : Int) (z1_1 : Int) (o : Int) (K : IExit → St → Prop), l_spec_l06Pack_1 x0 x1 n z1_0 z1_1 = some o → (∀ st, Wk st (⟨[(8, (.int .i64 o))], []⟩ : St) → K (.exit 2) st) → eA (tabOf [(83, wM .any g_spec_l02Mend), (89, wM (.own [1]) g_spec_l06List), (90, wM .any g_spec_l02Size), (91, wM .any g_spec_l06Code)]) (.loop lb57_1) (⟨[(1, (.int .i64 x1)), (5, (.sl (List.map (AV.flt .f32) (m_spec_l06List (m_spec_l02Mend x0))))), (6, (.int .i64 (Option.getD (l_spec_l06Pack_0 x0 x1 5 0 1) default))), (8, (.int .i64 z1_0)), (9, (.int .i64 z1_1))], []⟩ : St) K := by
  intro n
  induction n with
  | zero =>
    intro z1_0 z1_1 o K h h0
    simp only [l_spec_l06Pack_1, reduceCtorEq] at h
  | succ n ih =>
    intro z1_0 z1_1 o K h h0
    refine eA_loop ?_
    unfold lb57_1
    unfold l_spec_l06Pack_1 at h
    (try simp only [need_iff, v_spec_l06Pack_0, v_spec_l06Pack_4, v_spec_l06Pack_5] at h)
    simp only [
      need_iff, h, grpA, vsliceS, grpS, grpD, grpF, grpL, eop, vop, bop, uop, fltop, convop, endOk, newE, new1, freshL, Md.isNew, outV, pureV, pureX, pure1, AV.cells, AV.one, storable, laid, refless, refless1, vload, loadC, storeC, vnil, vfaddr, vextract, flatT, flatE, flatC, vconv, vmm, vidxA, viaddrA, vfield, vlen, elemsOf, dF32, dF64, dI64, dU8, dBool, dStr, esOk, elemsS, vsliceX, bnd, ownV, ownC, own1, ownT, isSl, nSl, endL, Md.isOwn, purge, purgeH, purgeB, purgeE, hasName, name1, List.any_cons, List.any_nil, Md.isWr, pureV.pureP, Option.map, reduceIte, Nat.reduceEqDiff, Nat.reduceAdd, Nat.reduceMul, Nat.reduceLT, Nat.reduceLeDiff, List.mapM_cons, List.mapM_nil, Option.pure_def, Option.bind_eq_bind, Option.bind_some, implies_true, forall_const, beq_self_eq_true, decide_true, decide_false, eq_self, Int.reduceEq, Int.reduceLE, Int.reduceLT, if_true, if_false, grpK, Int.reduceAdd, Int.reduceSub, Int.reduceMul, Int.reduceNeg, Int.reducePow, Nat.reducePow, Int.reduceToNat, Nat.reduceSub, List.replicate, Nat.reduceBEq, wAs, wA, wC, zipW, noDupN, grpE, beq_true, beq_false, g_spec_l02Mend, g_spec_l06List, g_spec_l02Size, g_spec_l06Code, grpC, en0, dc_en0]
    repeat' (first
      | ((first | (refine eGI_of (fun hc => ?_) (fun hc => ?_)) | (refine eCc_of (fun hc => ?_) (fun hc => ?_)) | (have hc := True.intro; refine KW_refl ?_)) <;> (try simp only [Bool.not_eq_true', Bool.not_eq_false'] at hc) <;> (try simp only [hc, need_iff, reduceCtorEq, grpN, Int.reduceEq, Int.reduceLT, Int.reduceLE, if_true, if_false, reduceIte] at h) <;> (first | (have hc2 := hc; simp only [decide_eq_true_eq, decide_eq_false_iff_not] at hc2; (first | (replace hc2 := eq_false hc2) | (replace hc2 := eq_true hc2)); (try simp only [hc2, need_iff, reduceCtorEq, grpN, Int.reduceEq, Int.reduceLT, Int.reduceLE, if_true, if_false, reduceIte] at h); replace h := And.intro hc2 h) | (replace h := And.intro hc h) | skip) <;> simp only [hc,
      need_iff, h, grpA, vsliceS, grpS, grpD, grpF, grpL, eop, vop, bop, uop, fltop, convop, endOk, newE, new1, freshL, Md.isNew, outV, pureV, pureX, pure1, AV.cells, AV.one, storable, laid, refless, refless1, vload, loadC, storeC, vnil, vfaddr, vextract, flatT, flatE, flatC, vconv, vmm, vidxA, viaddrA, vfield, vlen, elemsOf, dF32, dF64, dI64, dU8, dBool, dStr, esOk, elemsS, vsliceX, bnd, ownV, ownC, own1, ownT, isSl, nSl, endL, Md.isOwn, purge, purgeH, purgeB, purgeE, hasName, name1, List.any_cons, List.any_nil, Md.isWr, pureV.pureP, Option.map, reduceIte, Nat.reduceEqDiff, Nat.reduceAdd, Nat.reduceMul, Nat.reduceLT, Nat.reduceLeDiff, List.mapM_cons, List.mapM_nil, Option.pure_def, Option.bind_eq_bind, Option.bind_some, implies_true, forall_const, beq_self_eq_true, decide_true, decide_false, eq_self, Int.reduceEq, Int.reduceLE, Int.reduceLT, if_true, if_false, grpK, Int.reduceAdd, Int.reduceSub, Int.reduceMul, Int.reduceNeg, Int.reducePow, Nat.reducePow, Int.reduceToNat, Nat.reduceSub, List.replicate, Nat.reduceBEq, wAs, wA, wC, zipW, noDupN, grpE, beq_true, beq_false, g_spec_l02Mend, g_spec_l06List, g_spec_l02Size, g_spec_l06Code, grpC, en0, dc_en0]))
    all_goals (have hf := h)
    all_goals (repeat (replace h := And.right h))
    all_goals ((first | (refine eA_wk (wk_norm (ks := [1, 5, 6, 8, 9]) (ls := []) ?_) (eA_cast ?_ (ih _ _ _ _ h h0))) | (cases h; have h := True.intro; refine h0 _ (Wk.cast (wk_norm (ks := [8]) (ls := []) ?_) ?_))) <;> simp only [normOk, optIn, blkIn, nameIn, normS, List.map_append, List.length_append, List.map_set, List.length_set, List.map_replicate, List.length_replicate, List.map_nil, List.map_cons,
      need_iff, h, hf, grpA, vsliceS, grpS, grpD, grpF, grpL, eop, vop, bop, uop, fltop, convop, endOk, newE, new1, freshL, Md.isNew, outV, pureV, pureX, pure1, AV.cells, AV.one, storable, laid, refless, refless1, vload, loadC, storeC, vnil, vfaddr, vextract, flatT, flatE, flatC, vconv, vmm, vidxA, viaddrA, vfield, vlen, elemsOf, dF32, dF64, dI64, dU8, dBool, dStr, esOk, elemsS, vsliceX, bnd, ownV, ownC, own1, ownT, isSl, nSl, endL, Md.isOwn, purge, purgeH, purgeB, purgeE, hasName, name1, List.any_cons, List.any_nil, Md.isWr, pureV.pureP, Option.map, reduceIte, Nat.reduceEqDiff, Nat.reduceAdd, Nat.reduceMul, Nat.reduceLT, Nat.reduceLeDiff, List.mapM_cons, List.mapM_nil, Option.pure_def, Option.bind_eq_bind, Option.bind_some, implies_true, forall_const, beq_self_eq_true, decide_true, decide_false, eq_self, Int.reduceEq, Int.reduceLE, Int.reduceLT, if_true, if_false, grpK, Int.reduceAdd, Int.reduceSub, Int.reduceMul, Int.reduceNeg, Int.reducePow, Nat.reducePow, Int.reduceToNat, Nat.reduceSub, List.replicate, Nat.reduceBEq, wAs, wA, wC, zipW, noDupN, grpE, beq_true, beq_false, g_spec_l02Mend, g_spec_l06List, g_spec_l02Size, g_spec_l06Code, grpC, en0, dc_en0] <;> first | rfl | (simp only [Nat.add_comm]; done))
theorem s57 : ∀ vs r, g_spec_l06Pack vs = some r → SaysM Try.prog .any 57 vs r := by
  intro vs r h
  unfold g_spec_l06Pack at h
  split at h
  · rename_i y0 y1 y2 y3 y4
    split at h
    · rename_i hp
      cases h
      refine spec_of (m := .any) (tab := tabOf [(83, wM .any g_spec_l02Mend), (89, wM (.own [1]) g_spec_l06List), (90, wM .any g_spec_l02Size), (91, wM .any g_spec_l06Code)]) (cp := cp57) (ic := ic57) (rvl := [(.t 4)]) hm (tabOk_cons (m := .any) s83 (tabOk_cons (m := (.own [1])) s89 (tabOk_cons (m := .any) s90 (tabOk_cons (m := .any) s91 tabOk_nil)))) Try.func57 rfl rfl rfl (by kernel_rfl) rfl (Nat.le_of_ble_eq_true rfl) (Nat.le_of_ble_eq_true rfl) ?_
      show eA _ _ _ _
      unfold ic57
      simp only [p_spec_l06Pack, v_spec_l06Pack_0, v_spec_l06Pack_4, v_spec_l06Pack_5, Bool.and_eq_true, Bool.or_eq_true, decide_eq_true_eq, Bool.not_eq_true', decide_eq_false_iff_not] at hp
      refine eS_to ?_
      repeat' (first
        | ((first | (have h := True.intro; refine eS_of ?_) | (refine eGI_of (fun h => ?_) (fun h => ?_)) | (refine eCc_of (fun h => ?_) (fun h => ?_)) | (have h := True.intro; refine KW_refl ?_)) <;> (try simp only [Bool.not_eq_true', Bool.not_eq_false'] at h) <;> (try first | exact absurd (Eq.trans (Eq.symm h) (by assumption)) Bool.false_ne_true | exact absurd (Eq.trans (Eq.symm h) (by assumption)) (Ne.symm Bool.false_ne_true)) <;> (try simp only [h, reduceCtorEq, grpN, Int.reduceEq, Int.reduceLT, Int.reduceLE, if_true, if_false, reduceIte] at hp) <;> (first | (have h2 := h; simp only [decide_eq_true_eq, decide_eq_false_iff_not] at h2; (first | (replace h2 := eq_false h2) | (replace h2 := eq_true h2)); (try simp only [h2, reduceCtorEq, grpN, Int.reduceEq, Int.reduceLT, Int.reduceLE, if_true, if_false, reduceIte] at hp); replace hp := And.intro h2 hp) | (replace hp := And.intro h hp) | skip) <;> simp only [h,
          hp, grpA, vsliceS, grpS, grpD, grpF, grpL, eop, vop, bop, uop, fltop, convop, endOk, newE, new1, freshL, Md.isNew, outV, pureV, pureX, pure1, AV.cells, AV.one, storable, laid, refless, refless1, vload, loadC, storeC, vnil, vfaddr, vextract, flatT, flatE, flatC, vconv, vmm, vidxA, viaddrA, vfield, vlen, elemsOf, dF32, dF64, dI64, dU8, dBool, dStr, esOk, elemsS, vsliceX, bnd, ownV, ownC, own1, ownT, isSl, nSl, endL, Md.isOwn, purge, purgeH, purgeB, purgeE, hasName, name1, List.any_cons, List.any_nil, Md.isWr, pureV.pureP, Option.map, reduceIte, Nat.reduceEqDiff, Nat.reduceAdd, Nat.reduceMul, Nat.reduceLT, Nat.reduceLeDiff, List.mapM_cons, List.mapM_nil, Option.pure_def, Option.bind_eq_bind, Option.bind_some, implies_true, forall_const, beq_self_eq_true, decide_true, decide_false, eq_self, Int.reduceEq, Int.reduceLE, Int.reduceLT, if_true, if_false, grpK, Int.reduceAdd, Int.reduceSub, Int.reduceMul, Int.reduceNeg, Int.reducePow, Nat.reducePow, Int.reduceToNat, Nat.reduceSub, List.replicate, Nat.reduceBEq, wAs, wA, wC, zipW, noDupN, grpE, beq_true, beq_false, g_spec_l02Mend, g_spec_l06List, g_spec_l02Size, g_spec_l06Code, grpC, en0, dc_en0])
        | (refine eA_wk (wk_norm (ks := [1, 5, 6, 7]) (ls := []) ?_) (eA_cast ?_ (sl57_0 (y0, y1, y2, y3) y4 _ _ _ _ _ (getD_some (d := default) (x := (l_spec_l06Pack_0 (y0, y1, y2, y3) y4 5 0 1)) ?_) ?_)); (iterate 2 (simp only [nilS, nilV, normOk, optIn, blkIn, nameIn, normS, List.map_append, List.length_append, List.map_set, List.length_set, List.map_replicate, List.length_replicate, List.map_nil, List.map_cons,
          hp, grpA, vsliceS, grpS, grpD, grpF, grpL, eop, vop, bop, uop, fltop, convop, endOk, newE, new1, freshL, Md.isNew, outV, pureV, pureX, pure1, AV.cells, AV.one, storable, laid, refless, refless1, vload, loadC, storeC, vnil, vfaddr, vextract, flatT, flatE, flatC, vconv, vmm, vidxA, viaddrA, vfield, vlen, elemsOf, dF32, dF64, dI64, dU8, dBool, dStr, esOk, elemsS, vsliceX, bnd, ownV, ownC, own1, ownT, isSl, nSl, endL, Md.isOwn, purge, purgeH, purgeB, purgeE, hasName, name1, List.any_cons, List.any_nil, Md.isWr, pureV.pureP, Option.map, reduceIte, Nat.reduceEqDiff, Nat.reduceAdd, Nat.reduceMul, Nat.reduceLT, Nat.reduceLeDiff, List.mapM_cons, List.mapM_nil, Option.pure_def, Option.bind_eq_bind, Option.bind_some, implies_true, forall_const, beq_self_eq_true, decide_true, decide_false, eq_self, Int.reduceEq, Int.reduceLE, Int.reduceLT, if_true, if_false, grpK, Int.reduceAdd, Int.reduceSub, Int.reduceMul, Int.reduceNeg, Int.reducePow, Nat.reducePow, Int.reduceToNat, Nat.reduceSub, List.replicate, Nat.reduceBEq, wAs, wA, wC, zipW, noDupN, grpE, beq_true, beq_false, g_spec_l02Mend, g_spec_l06List, g_spec_l02Size, g_spec_l06Code, grpC, en0, dc_en0] <;> first | rfl | (simp only [Nat.add_comm]; done))); (simp only [hp]); (
        intro st2 hw; (try simp only [reduceCtorEq, grpN, Int.reduceEq, Int.reduceLT, Int.reduceLE, if_true, if_false, reduceIte] at hp); (try replace hp := And.intro ht hp); simp only [
Kq_exit, Kq_normal, Kq_ret, Kb_exit, Kb_normal, Kb_ret, Kl_exit, Kl_normal, Kl_ret, reduceIte, Nat.reduceEqDiff, if_true, if_false, eq_self]; refine KW_of hw ?_; simp only [
          hp, grpA, vsliceS, grpS, grpD, grpF, grpL, eop, vop, bop, uop, fltop, convop, endOk, newE, new1, freshL, Md.isNew, outV, pureV, pureX, pure1, AV.cells, AV.one, storable, laid, refless, refless1, vload, loadC, storeC, vnil, vfaddr, vextract, flatT, flatE, flatC, vconv, vmm, vidxA, viaddrA, vfield, vlen, elemsOf, dF32, dF64, dI64, dU8, dBool, dStr, esOk, elemsS, vsliceX, bnd, ownV, ownC, own1, ownT, isSl, nSl, endL, Md.isOwn, purge, purgeH, purgeB, purgeE, hasName, name1, List.any_cons, List.any_nil, Md.isWr, pureV.pureP, Option.map, reduceIte, Nat.reduceEqDiff, Nat.reduceAdd, Nat.reduceMul, Nat.reduceLT, Nat.reduceLeDiff, List.mapM_cons, List.mapM_nil, Option.pure_def, Option.bind_eq_bind, Option.bind_some, implies_true, forall_const, beq_self_eq_true, decide_true, decide_false, eq_self, Int.reduceEq, Int.reduceLE, Int.reduceLT, if_true, if_false, grpK, Int.reduceAdd, Int.reduceSub, Int.reduceMul, Int.reduceNeg, Int.reducePow, Nat.reducePow, Int.reduceToNat, Nat.reduceSub, List.replicate, Nat.reduceBEq, wAs, wA, wC, zipW, noDupN, grpE, beq_true, beq_false, g_spec_l02Mend, g_spec_l06List, g_spec_l02Size, g_spec_l06Code, grpC, en0, dc_en0]))
        | (refine eA_wk (wk_norm (ks := [1, 5, 6, 8, 9]) (ls := []) ?_) (eA_cast ?_ (sl57_1 (y0, y1, y2, y3) y4 _ _ _ _ _ (getD_some (d := default) (x := (l_spec_l06Pack_1 (y0, y1, y2, y3) y4 6 (Option.getD (l_spec_l06Pack_0 (y0, y1, y2, y3) y4 5 0 1) default) 0)) ?_) ?_)); (iterate 2 (simp only [nilS, nilV, normOk, optIn, blkIn, nameIn, normS, List.map_append, List.length_append, List.map_set, List.length_set, List.map_replicate, List.length_replicate, List.map_nil, List.map_cons,
          hp, grpA, vsliceS, grpS, grpD, grpF, grpL, eop, vop, bop, uop, fltop, convop, endOk, newE, new1, freshL, Md.isNew, outV, pureV, pureX, pure1, AV.cells, AV.one, storable, laid, refless, refless1, vload, loadC, storeC, vnil, vfaddr, vextract, flatT, flatE, flatC, vconv, vmm, vidxA, viaddrA, vfield, vlen, elemsOf, dF32, dF64, dI64, dU8, dBool, dStr, esOk, elemsS, vsliceX, bnd, ownV, ownC, own1, ownT, isSl, nSl, endL, Md.isOwn, purge, purgeH, purgeB, purgeE, hasName, name1, List.any_cons, List.any_nil, Md.isWr, pureV.pureP, Option.map, reduceIte, Nat.reduceEqDiff, Nat.reduceAdd, Nat.reduceMul, Nat.reduceLT, Nat.reduceLeDiff, List.mapM_cons, List.mapM_nil, Option.pure_def, Option.bind_eq_bind, Option.bind_some, implies_true, forall_const, beq_self_eq_true, decide_true, decide_false, eq_self, Int.reduceEq, Int.reduceLE, Int.reduceLT, if_true, if_false, grpK, Int.reduceAdd, Int.reduceSub, Int.reduceMul, Int.reduceNeg, Int.reducePow, Nat.reducePow, Int.reduceToNat, Nat.reduceSub, List.replicate, Nat.reduceBEq, wAs, wA, wC, zipW, noDupN, grpE, beq_true, beq_false, g_spec_l02Mend, g_spec_l06List, g_spec_l02Size, g_spec_l06Code, grpC, en0, dc_en0] <;> first | rfl | (simp only [Nat.add_comm]; done))); (simp only [hp]); (
        intro st2 hw; (try simp only [reduceCtorEq, grpN, Int.reduceEq, Int.reduceLT, Int.reduceLE, if_true, if_false, reduceIte] at hp); (try replace hp := And.intro ht hp); simp only [
Kq_exit, Kq_normal, Kq_ret, Kb_exit, Kb_normal, Kb_ret, Kl_exit, Kl_normal, Kl_ret, reduceIte, Nat.reduceEqDiff, if_true, if_false, eq_self]; refine KW_of hw ?_; simp only [
          hp, grpA, vsliceS, grpS, grpD, grpF, grpL, eop, vop, bop, uop, fltop, convop, endOk, newE, new1, freshL, Md.isNew, outV, pureV, pureX, pure1, AV.cells, AV.one, storable, laid, refless, refless1, vload, loadC, storeC, vnil, vfaddr, vextract, flatT, flatE, flatC, vconv, vmm, vidxA, viaddrA, vfield, vlen, elemsOf, dF32, dF64, dI64, dU8, dBool, dStr, esOk, elemsS, vsliceX, bnd, ownV, ownC, own1, ownT, isSl, nSl, endL, Md.isOwn, purge, purgeH, purgeB, purgeE, hasName, name1, List.any_cons, List.any_nil, Md.isWr, pureV.pureP, Option.map, reduceIte, Nat.reduceEqDiff, Nat.reduceAdd, Nat.reduceMul, Nat.reduceLT, Nat.reduceLeDiff, List.mapM_cons, List.mapM_nil, Option.pure_def, Option.bind_eq_bind, Option.bind_some, implies_true, forall_const, beq_self_eq_true, decide_true, decide_false, eq_self, Int.reduceEq, Int.reduceLE, Int.reduceLT, if_true, if_false, grpK, Int.reduceAdd, Int.reduceSub, Int.reduceMul, Int.reduceNeg, Int.reducePow, Nat.reducePow, Int.reduceToNat, Nat.reduceSub, List.replicate, Nat.reduceBEq, wAs, wA, wC, zipW, noDupN, grpE, beq_true, beq_false, g_spec_l02Mend, g_spec_l06List, g_spec_l02Size, g_spec_l06Code, grpC, en0, dc_en0])))
      all_goals (try simp only [*, m_spec_l06Pack, v_spec_l06Pack_0, v_spec_l06Pack_4, v_spec_l06Pack_5, Bool.and_true, Bool.true_and, Bool.and_false, Bool.false_and, Bool.or_true, Bool.true_or, Bool.or_false, Bool.false_or, Bool.not_true, Bool.not_false, Bool.false_eq_true, if_true, if_false, reduceIte, decide_true, decide_false])
      all_goals (try (simp_all; done))
    · cases h
  · cases h
def l_spec_l06Parts_0 (x0 : (Int × Int × Nat)) (x1 : Int) : Nat → (List Int) → Int → Option (List Int)
  | 0, _, _ => none
  | n + 1, z0_0, z0_1 => (if (decide (z0_1 < x1)) = true then (need (decide (((List.length z0_0) + 1) * 8 ≤ 17592186044416)) (need (decide ((List.length z0_0) + 1 ≤ 17592186044416)) (l_spec_l06Parts_0 x0 x1 n (z0_0 ++ [(IntKind.wrap .i64 (2 + (IntKind.wrap .i64 (3 * x0.1))))]) (IntKind.wrap .i64 (z0_1 + 1))))) else (some z0_0))
def m_spec_l06Parts (x0 : (Int × Int × Nat)) (x1 : Int) : (List Int) := (Option.getD (l_spec_l06Parts_0 x0 x1 (Int.toNat (x1 - 0) + 2) [(IntKind.wrap .i64 (3 * x0.2.1))] 0) default)
def p_spec_l06Parts (x0 : (Int × Int × Nat)) (x1 : Int) : Bool := (Option.isSome (l_spec_l06Parts_0 x0 x1 (Int.toNat (x1 - 0) + 2) [(IntKind.wrap .i64 (3 * x0.2.1))] 0))
def g_spec_l06Parts : List AV → Option AV
  | [.ptr (.agg [.int .i64 y0, .int .i64 y1, .flt .f32 y2]) 0, .int .i64 y3] => if p_spec_l06Parts (y0, y1, y2) y3 = true then some (.sl (List.map (AV.int .i64) (m_spec_l06Parts (y0, y1, y2) y3))) else none
  | _ => none
def lb95_0 : ICode := (.seq (.seq (.reg [⟨(some 13), none, (.mov (.t 6))⟩, ⟨(some 14), none, (.mov (.t 1))⟩, ⟨(some 15), none, (.bin .lss false (.t 13) (.t 14))⟩] [0, 1, 5, 6, 15]) (.cond (.t 15) .skip (.exit 0))) (.seq (.block 1 (.reg [⟨(some 18), none, (.mov (.t 5))⟩, ⟨(some 19), none, (.mov (.t 0))⟩, ⟨(some 20), none, (.nilchk (.t 19))⟩, ⟨(some 21), none, (.faddr 0 (.t 20))⟩, ⟨(some 22), none, (.load none (.t 21))⟩, ⟨(some 23), none, (.bin .mul false (.c (.int .i64 3)) (.t 22))⟩, ⟨(some 24), none, (.bin .add false (.c (.int .i64 2)) (.t 23))⟩, ⟨(some 25), none, (.bslice 1 1 (.int .i64 0) [(0, (.t 24))])⟩, ⟨(some 26), none, (.append 1 8 (.t 18) (.t 25))⟩, ⟨(some 5), none, (.mov (.t 26))⟩] [0, 1, 5, 6])) (.reg [⟨(some 16), none, (.mov (.t 6))⟩, ⟨(some 17), none, (.bin .add false (.t 16) (.c (.int .i64 1)))⟩, ⟨(some 6), none, (.mov (.t 17))⟩] [0, 1, 5, 6])))
def ic95 : ICode := (.seq (.reg [⟨(some 4), none, (.mov (.c .snil))⟩] [0, 1]) (.seq (.reg [⟨(some 7), none, (.mov (.t 0))⟩, ⟨(some 8), none, (.nilchk (.t 7))⟩, ⟨(some 9), none, (.faddr 1 (.t 8))⟩, ⟨(some 10), none, (.load none (.t 9))⟩, ⟨(some 11), none, (.bin .mul false (.c (.int .i64 3)) (.t 10))⟩, ⟨(some 12), none, (.bslice 1 1 (.int .i64 0) [(0, (.t 11))])⟩, ⟨(some 5), none, (.mov (.t 12))⟩] [0, 1, 5]) (.seq (.seq (.reg [⟨(some 6), none, (.mov (.c (.int .i64 0)))⟩] [0, 1, 5, 6]) (.block 0 (.loop lb95_0))) (.seq (.reg [⟨(some 27), none, (.mov (.t 5))⟩, ⟨(some 4), none, (.mov (.t 27))⟩] [4]) .ret))))
def cp95 : CP := CP.mk [] [] [[0, 1], [0, 1, 5], [0, 1, 5, 6], [0, 1, 5, 6, 15], [0, 1, 5, 6], [0, 1, 5, 6], [4]] 28 [] []
theorem sl95_0 (x0 : (Int × Int × Nat)) (x1 : Int) : ∀ (n : Nat) (z0_0 : (List Int)) (z0_1 : Int) (o : (List Int)) (K : IExit → St → Prop), l_spec_l06Parts_0 x0 x1 n z0_0 z0_1 = some o → (∀ st, Wk st (⟨[(5, (.lsl 12 0 (List.length o)))], [(12, (some ⟨1, true, (List.map (AV.int .i64) o)⟩))]⟩ : St) → K (.exit 0) st) → eA (tabOf []) (.loop lb95_0) (⟨[(0, (.ptr (AV.agg [(.int .i64 x0.1), (.int .i64 x0.2.1), (.flt .f32 x0.2.2)]) 0)), (1, (.int .i64 x1)), (5, (.lsl 12 0 (List.length z0_0))), (6, (.int .i64 z0_1))], [(12, (some ⟨1, true, (List.map (AV.int .i64) z0_0)⟩))]⟩ : St) K := by
  intro n
  induction n with
  | zero =>
    intro z0_0 z0_1 o K h h0
    simp only [l_spec_l06Parts_0, reduceCtorEq] at h
  | succ n ih =>
    intro z0_0 z0_1 o K h h0
    refine eA_loop ?_
    unfold lb95_0
    unfold l_spec_l06Parts_0 at h
    (try simp only [need_iff] at h)
    simp only [
      need_iff, h, grpA, vsliceS, grpS, grpD, grpF, grpL, eop, vop, bop, uop, fltop, convop, endOk, newE, new1, freshL, Md.isNew, outV, pureV, pureX, pure1, AV.cells, AV.one, storable, laid, refless, refless1, vload, loadC, storeC, vnil, vfaddr, vextract, flatT, flatE, flatC, vconv, vmm, vidxA, viaddrA, vfield, vlen, elemsOf, dF32, dF64, dI64, dU8, dBool, dStr, esOk, elemsS, vsliceX, bnd, ownV, ownC, own1, ownT, isSl, nSl, endL, Md.isOwn, purge, purgeH, purgeB, purgeE, hasName, name1, List.any_cons, List.any_nil, Md.isWr, pureV.pureP, Option.map, reduceIte, Nat.reduceEqDiff, Nat.reduceAdd, Nat.reduceMul, Nat.reduceLT, Nat.reduceLeDiff, List.mapM_cons, List.mapM_nil, Option.pure_def, Option.bind_eq_bind, Option.bind_some, implies_true, forall_const, beq_self_eq_true, decide_true, decide_false, eq_self, Int.reduceEq, Int.reduceLE, Int.reduceLT, if_true, if_false, grpK, Int.reduceAdd, Int.reduceSub, Int.reduceMul, Int.reduceNeg, Int.reducePow, Nat.reducePow, Int.reduceToNat, Nat.reduceSub, List.replicate, Nat.reduceBEq, wAs, wA, wC, zipW, noDupN, grpE, beq_true, beq_false, grpC, en0, dc_en0]
    repeat' (first
      | ((first | (refine eGI_of (fun hc => ?_) (fun hc => ?_)) | (refine eCc_of (fun hc => ?_) (fun hc => ?_)) | (have hc := True.intro; refine KW_refl ?_)) <;> (try simp only [Bool.not_eq_true', Bool.not_eq_false'] at hc) <;> (try simp only [hc, need_iff, reduceCtorEq, grpN, Int.reduceEq, Int.reduceLT, Int.reduceLE, if_true, if_false, reduceIte] at h) <;> (first | (have hc2 := hc; simp only [decide_eq_true_eq, decide_eq_false_iff_not] at hc2; (first | (replace hc2 := eq_false hc2) | (replace hc2 := eq_true hc2)); (try simp only [hc2, need_iff, reduceCtorEq, grpN, Int.reduceEq, Int.reduceLT, Int.reduceLE, if_true, if_false, reduceIte] at h); replace h := And.intro hc2 h) | (replace h := And.intro hc h) | skip) <;> simp only [hc,
      need_iff, h, grpA, vsliceS, grpS, grpD, grpF, grpL, eop, vop, bop, uop, fltop, convop, endOk, newE, new1, freshL, Md.isNew, outV, pureV, pureX, pure1, AV.cells, AV.one, storable, laid, refless, refless1, vload, loadC, storeC, vnil, vfaddr, vextract, flatT, flatE, flatC, vconv, vmm, vidxA, viaddrA, vfield, vlen, elemsOf, dF32, dF64, dI64, dU8, dBool, dStr, esOk, elemsS, vsliceX, bnd, ownV, ownC, own1, ownT, isSl, nSl, endL, Md.isOwn, purge, purgeH, purgeB, purgeE, hasName, name1, List.any_cons, List.any_nil, Md.isWr, pureV.pureP, Option.map, reduceIte, Nat.reduceEqDiff, Nat.reduceAdd, Nat.reduceMul, Nat.reduceLT, Nat.reduceLeDiff, List.mapM_cons, List.mapM_nil, Option.pure_def, Option.bind_eq_bind, Option.bind_some, implies_true, forall_const, beq_self_eq_true, decide_true, decide_false, eq_self, Int.reduceEq, Int.reduceLE, Int.reduceLT, if_true, if_false, grpK, Int.reduceAdd, Int.reduceSub, Int.reduceMul, Int.reduceNeg, Int.reducePow, Nat.reducePow, Int.reduceToNat, Nat.reduceSub, List.replicate, Nat.reduceBEq, wAs, wA, wC, zipW, noDupN, grpE, beq_true, beq_false, grpC, en0, dc_en0]))
    all_goals (have hf := h)
    all_goals (repeat (replace h := And.right h))
    all_goals ((first | (refine eA_wk (wk_norm (ks := [0, 1, 5, 6]) (ls := [12]) ?_) (eA_cast ?_ (ih _ _ _ _ h h0))) | (cases h; have h := True.intro; refine h0 _ (Wk.cast (wk_norm (ks := [5]) (ls := [12]) ?_) ?_))) <;> simp only [normOk, optIn, blkIn, nameIn, normS, List.map_append, List.length_append, List.map_set, List.length_set, List.map_replicate, List.length_replicate, List.map_nil, List.map_cons,
      need_iff, h, hf, grpA, vsliceS, grpS, grpD, grpF, grpL, eop, vop, bop, uop, fltop, convop, endOk, newE, new1, freshL, Md.isNew, outV, pureV, pureX, pure1, AV.cells, AV.one, storable, laid, refless, refless1, vload, loadC, storeC, vnil, vfaddr, vextract, flatT, flatE, flatC, vconv, vmm, vidxA, viaddrA, vfield, vlen, elemsOf, dF32, dF64, dI64, dU8, dBool, dStr, esOk, elemsS, vsliceX, bnd, ownV, ownC, own1, ownT, isSl, nSl, endL, Md.isOwn, purge, purgeH, purgeB, purgeE, hasName, name1, List.any_cons, List.any_nil, Md.isWr, pureV.pureP, Option.map, reduceIte, Nat.reduceEqDiff, Nat.reduceAdd, Nat.reduceMul, Nat.reduceLT, Nat.reduceLeDiff, List.mapM_cons, List.mapM_nil, Option.pure_def, Option.bind_eq_bind, Option.bind_some, implies_true, forall_const, beq_self_eq_true, decide_true, decide_false, eq_self, Int.reduceEq, Int.reduceLE, Int.reduceLT, if_true, if_false, grpK, Int.reduceAdd, Int.reduceSub, Int.reduceMul, Int.reduceNeg, Int.reducePow, Nat.reducePow, Int.reduceToNat, Nat.reduceSub, List.replicate, Nat.reduceBEq, wAs, wA, wC, zipW, noDupN, grpE, beq_true, beq_false, grpC, en0, dc_en0] <;> first | rfl | (simp only [Nat.add_comm]; done))
theorem s95 : ∀ vs r, g_spec_l06Parts vs = some r → SaysM Try.prog (.own [1]) 95 vs r := by
  intro vs r h
  unfold g_spec_l06Parts at h
  split at h
  · rename_i y0 y1 y2 y3
    split at h
    · rename_i hp
      cases h
      refine spec_of (m := (.own [1])) (tab := tabOf []) (cp := cp95) (ic := ic95) (rvl := [(.t 4)]) hm tabOk_nil Try.func95 rfl rfl rfl (by kernel_rfl) rfl (Nat.le_of_ble_eq_true rfl) (Nat.le_of_ble_eq_true rfl) ?_
      show eA _ _ _ _
      unfold ic95
      simp only [p_spec_l06Parts, Bool.and_eq_true, Bool.or_eq_true, decide_eq_true_eq, Bool.not_eq_true', decide_eq_false_iff_not] at hp
      refine eS_to ?_
      repeat' (first
        | ((first | (have h := True.intro; refine eS_of ?_) | (refine eGI_of (fun h => ?_) (fun h => ?_)) | (refine eCc_of (fun h => ?_) (fun h => ?_)) | (have h := True.intro; refine KW_refl ?_)) <;> (try simp only [Bool.not_eq_true', Bool.not_eq_false'] at h) <;> (try first | exact absurd (Eq.trans (Eq.symm h) (by assumption)) Bool.false_ne_true | exact absurd (Eq.trans (Eq.symm h) (by assumption)) (Ne.symm Bool.false_ne_true)) <;> (try simp only [h, reduceCtorEq, grpN, Int.reduceEq, Int.reduceLT, Int.reduceLE, if_true, if_false, reduceIte] at hp) <;> (first | (have h2 := h; simp only [decide_eq_true_eq, decide_eq_false_iff_not] at h2; (first | (replace h2 := eq_false h2) | (replace h2 := eq_true h2)); (try simp only [h2, reduceCtorEq, grpN, Int.reduceEq, Int.reduceLT, Int.reduceLE, if_true, if_false, reduceIte] at hp); replace hp := And.intro h2 hp) | (replace hp := And.intro h hp) | skip) <;> simp only [h,
          hp, grpA, vsliceS, grpS, grpD, grpF, grpL, eop, vop, bop, uop, fltop, convop, endOk, newE, new1, freshL, Md.isNew, outV, pureV, pureX, pure1, AV.cells, AV.one, storable, laid, refless, refless1, vload, loadC, storeC, vnil, vfaddr, vextract, flatT, flatE, flatC, vconv, vmm, vidxA, viaddrA, vfield, vlen, elemsOf, dF32, dF64, dI64, dU8, dBool, dStr, esOk, elemsS, vsliceX, bnd, ownV, ownC, own1, ownT, isSl, nSl, endL, Md.isOwn, purge, purgeH, purgeB, purgeE, hasName, name1, List.any_cons, List.any_nil, Md.isWr, pureV.pureP, Option.map, reduceIte, Nat.reduceEqDiff, Nat.reduceAdd, Nat.reduceMul, Nat.reduceLT, Nat.reduceLeDiff, List.mapM_cons, List.mapM_nil, Option.pure_def, Option.bind_eq_bind, Option.bind_some, implies_true, forall_const, beq_self_eq_true, decide_true, decide_false, eq_self, Int.reduceEq, Int.reduceLE, Int.reduceLT, if_true, if_false, grpK, Int.reduceAdd, Int.reduceSub, Int.reduceMul, Int.reduceNeg, Int.reducePow, Nat.reducePow, Int.reduceToNat, Nat.reduceSub, List.replicate, Nat.reduceBEq, wAs, wA, wC, zipW, noDupN, grpE, beq_true, beq_false, grpC, en0, dc_en0])
        | (refine eA_wk (wk_norm (ks := [0, 1, 5, 6]) (ls := [12]) ?_) (eA_cast ?_ (sl95_0 (y0, y1, y2) y3 _ _ _ _ _ (getD_some (d := default) (x := (l_spec_l06Parts_0 (y0, y1, y2) y3 (Int.toNat (y3 - 0) + 2) [(IntKind.wrap .i64 (3 * (y0, y1, y2).2.1))] 0)) ?_) ?_)); (iterate 2 (simp only [nilS, nilV, normOk, optIn, blkIn, nameIn, normS, List.map_append, List.length_append, List.map_set, List.length_set, List.map_replicate, List.length_replicate, List.map_nil, List.map_cons,
          hp, grpA, vsliceS, grpS, grpD, grpF, grpL, eop, vop, bop, uop, fltop, convop, endOk, newE, new1, freshL, Md.isNew, outV, pureV, pureX, pure1, AV.cells, AV.one, storable, laid, refless, refless1, vload, loadC, storeC, vnil, vfaddr, vextract, flatT, flatE, flatC, vconv, vmm, vidxA, viaddrA, vfield, vlen, elemsOf, dF32, dF64, dI64, dU8, dBool, dStr, esOk, elemsS, vsliceX, bnd, ownV, ownC, own1, ownT, isSl, nSl, endL, Md.isOwn, purge, purgeH, purgeB, purgeE, hasName, name1, List.any_cons, List.any_nil, Md.isWr, pureV.pureP, Option.map, reduceIte, Nat.reduceEqDiff, Nat.reduceAdd, Nat.reduceMul, Nat.reduceLT, Nat.reduceLeDiff, List.mapM_cons, List.mapM_nil, Option.pure_def, Option.bind_eq_bind, Option.bind_some, implies_true, forall_const, beq_self_eq_true, decide_true, decide_false, eq_self, Int.reduceEq, Int.reduceLE, Int.reduceLT, if_true, if_false, grpK, Int.reduceAdd, Int.reduceSub, Int.reduceMul, Int.reduceNeg, Int.reducePow, Nat.reducePow, Int.reduceToNat, Nat.reduceSub, List.replicate, Nat.reduceBEq, wAs, wA, wC, zipW, noDupN, grpE, beq_true, beq_false, grpC, en0, dc_en0] <;> first | rfl | (simp only [Nat.add_comm]; done))); (simp only [hp]); (
        intro st2 hw; (try simp only [reduceCtorEq, grpN, Int.reduceEq, Int.reduceLT, Int.reduceLE, if_true, if_false, reduceIte] at hp); (try replace hp := And.intro ht hp); simp only [
Kq_exit, Kq_normal, Kq_ret, Kb_exit, Kb_normal, Kb_ret, Kl_exit, Kl_normal, Kl_ret, reduceIte, Nat.reduceEqDiff, if_true, if_false, eq_self]; refine KW_of hw ?_; simp only [
          hp, grpA, vsliceS, grpS, grpD, grpF, grpL, eop, vop, bop, uop, fltop, convop, endOk, newE, new1, freshL, Md.isNew, outV, pureV, pureX, pure1, AV.cells, AV.one, storable, laid, refless, refless1, vload, loadC, storeC, vnil, vfaddr, vextract, flatT, flatE, flatC, vconv, vmm, vidxA, viaddrA, vfield, vlen, elemsOf, dF32, dF64, dI64, dU8, dBool, dStr, esOk, elemsS, vsliceX, bnd, ownV, ownC, own1, ownT, isSl, nSl, endL, Md.isOwn, purge, purgeH, purgeB, purgeE, hasName, name1, List.any_cons, List.any_nil, Md.isWr, pureV.pureP, Option.map, reduceIte, Nat.reduceEqDiff, Nat.reduceAdd, Nat.reduceMul, Nat.reduceLT, Nat.reduceLeDiff, List.mapM_cons, List.mapM_nil, Option.pure_def, Option.bind_eq_bind, Option.bind_some, implies_true, forall_const, beq_self_eq_true, decide_true, decide_false, eq_self, Int.reduceEq, Int.reduceLE, Int.reduceLT, if_true, if_false, grpK, Int.reduceAdd, Int.reduceSub, Int.reduceMul, Int.reduceNeg, Int.reducePow, Nat.reducePow, Int.reduceToNat, Nat.reduceSub, List.replicate, Nat.reduceBEq, wAs, wA, wC, zipW, noDupN, grpE, beq_true, beq_false, grpC, en0, dc_en0])))
      all_goals (try simp only [*, m_spec_l06Parts, Bool.and_true, Bool.true_and, Bool.and_false, Bool.false_and, Bool.or_true, Bool.true_or, Bool.or_false, Bool.false_or, Bool.not_true, Bool.not_false, Bool.false_eq_true, if_true, if_false, reduceIte, decide_true, decide_false])
      all_goals (try (simp_all; done))
    · cases h
  · cases h
def v_spec_l06Bytes_12 (z0_0 : (List Int)) (z0_1 : Int) : Int := (bitop .or .u8 (atI (z0_0 ++ [0]) (IntKind.wrap .i64 (((((List.length z0_0) + 1) : Nat) : Int) - 1))) (Int.fdiv 128 (2 ^ (min ((IntKind.wrap .u64 (Int.tmod z0_1 8)) : Int).toNat 8))))
def v_spec_l06Bytes_13 (z0_0 : (List Int)) (z0_1 : Int) : Int := (bitop .or .u8 (atI z0_0 (IntKind.wrap .i64 ((((List.length z0_0) : Nat) : Int) - 1))) (Int.fdiv 128 (2 ^ (min ((IntKind.wrap .u64 (Int.tmod z0_1 8)) : Int).toNat 8))))
def l_spec_l06Bytes_0 (x0 : (List Int)) (x1 : (List Int)) (z1_2 : Int) : Nat → (List Int) → Int → Int → Option (Int × (List Int))
  | 0, _, _, _ => none
  | n + 1, z0_0, z0_1, z0_2 => (if (decide (0 ≤ z0_2)) = true then (if (decide ((Int.tmod z0_1 8) = 0)) = true then (need (decide (((List.length z0_0) + 1) * 1 ≤ 17592186044416)) (need (decide ((List.length z0_0) + 1 ≤ 17592186044416)) (need (inB z1_2 (List.length x0)) (need (decide (0 ≤ (IntKind.wrap .u64 z0_2))) (if (decide ((bitop .and .i64 (Int.fdiv (atI x0 z1_2) (2 ^ (min ((IntKind.wrap .u64 z0_2) : Int).toNat 64))) 1) = 1)) = true then (need (inB (IntKind.wrap .i64 (((((List.length z0_0) + 1) : Nat) : Int) - 1)) ((List.length z0_0) + 1)) (need (decide (0 ≤ (IntKind.wrap .u64 (Int.tmod z0_1 8)))) (l_spec_l06Bytes_0 x0 x1 z1_2 n (List.set (z0_0 ++ [0]) (Int.toNat (IntKind.wrap .i64 (((((List.length z0_0) + 1) : Nat) : Int) - 1))) (v_spec_l06Bytes_12 z0_0 z0_1)) (IntKind.wrap .i64 (z0_1 + 1)) (IntKind.wrap .i64 (z0_2 - 1))))) else (l_spec_l06Bytes_0 x0 x1 z1_2 n (z0_0 ++ [0]) (IntKind.wrap .i64 (z0_1 + 1)) (IntKind.wrap .i64 (z0_2 - 1)))))))) else (need (inB z1_2 (List.length x0)) (need (decide (0 ≤ (IntKind.wrap .u64 z0_2))) (if (decide ((bitop .and .i64 (Int.fdiv (atI x0 z1_2) (2 ^ (min ((IntKind.wrap .u64 z0_2) : Int).toNat 64))) 1) = 1)) = true then (need (inB (IntKind.wrap .i64 ((((List.length z0_0) : Nat) : Int) - 1)) (List.length z0_0)) (need (decide (0 ≤ (IntKind.wrap .u64 (Int.tmod z0_1 8)))) (l_spec_l06Bytes_0 x0 x1 z1_2 n (List.set z0_0 (Int.toNat (IntKind.wrap .i64 ((((List.length z0_0) : Nat) : Int) - 1))) (v_spec_l06Bytes_13 z0_0 z0_1)) (IntKind.wrap .i64 (z0_1 + 1)) (IntKind.wrap .i64 (z0_2 - 1))))) else (l_spec_l06Bytes_0 x0 x1 z1_2 n z0_0 (IntKind.wrap .i64 (z0_1 + 1)) (IntKind.wrap .i64 (z0_2 - 1))))))) else (some (z0_1, z0_0)))
def l_spec_l06Bytes_1 (x0 : (List Int)) (x1 : (List Int)) : Nat → (List Int) → Int → Int → Option (List Int)
  | 0, _, _, _ => none
  | n + 1, z1_0, z1_1, z1_2 => (if (decide (z1_2 < ((List.length x0 : Nat) : Int))) = true then (need (inB z1_2 (List.length x1)) (need (Option.isSome (l_spec_l06Bytes_0 x0 x1 z1_2 (Int.toNat (IntKind.wrap .i64 ((atI x1 z1_2) - 1)) + 2) z1_0 z1_1 (IntKind.wrap .i64 ((atI x1 z1_2) - 1)))) (l_spec_l06Bytes_1 x0 x1 n (Option.getD (l_spec_l06Bytes_0 x0 x1 z1_2 (Int.toNat (IntKind.wrap .i64 ((atI x1 z1_2) - 1)) + 2) z1_0 z1_1 (IntKind.wrap .i64 ((atI x1 z1_2) - 1))) default).2 (Option.getD (l_spec_l06Bytes_0 x0 x1 z1_2 (Int.toNat (IntKind.wrap .i64 ((atI x1 z1_2) - 1)) + 2) z1_0 z1_1 (IntKind.wrap .i64 ((atI x1 z1_2) - 1))) default).1 (IntKind.wrap .i64 (z1_2 + 1))))) else (some z1_0))
def m_spec_l06Bytes (x0 : (List Int)) (x1 : (List Int)) : (List UInt8) := (List.map b8 (Option.getD (l_spec_l06Bytes_1 x0 x1 (Int.toNat (((List.length x0 : Nat) : Int) - 0) + 2) [] 0 0) default))
def p_spec_l06Bytes (x0 : (List Int)) (x1 : (List Int)) : Bool := (Option.isSome (l_spec_l06Bytes_1 x0 x1 (Int.toNat (((List.length x0 : Nat) : Int) - 0) + 2) [] 0 0))
def g_spec_l06Bytes : List AV → Option AV
  | [.sl w0, .sl w1] => (match decL dI64 w0 with | some y0 => ((match decL dI64 w1 with | some y1 => (if p_spec_l06Bytes y0 y1 = true then some (.str (m_spec_l06Bytes y0 y1)) else none) | none => none)) | none => none)
  | _ => none
def lb45_0 : ICode := (.seq (.seq (.reg [⟨(some 21), none, (.mov (.t 8))⟩, ⟨(some 22), none, (.bin .geq false (.t 21) (.c (.int .i64 0)))⟩] [0, 1, 5, 6, 7, 8, 22]) (.cond (.t 22) .skip (.exit 2))) (.seq (.block 3 (.seq (.seq (.reg [⟨(some 25), none, (.mov (.t 6))⟩, ⟨(some 26), none, (.bin .rem false (.t 25) (.c (.int .i64 8)))⟩, ⟨(some 27), none, (.bin .eql false (.t 26) (.c (.int .i64 0)))⟩] [0, 1, 5, 6, 7, 8, 27]) (.cond (.t 27) (.reg [⟨(some 28), none, (.mov (.t 5))⟩, ⟨(some 29), none, (.bslice 1 1 (.int .u8 0) [(0, (.c (.int .u8 0)))])⟩, ⟨(some 30), none, (.append 1 1 (.t 28) (.t 29))⟩, ⟨(some 5), none, (.mov (.t 30))⟩] [0, 1, 5, 6, 7, 8]) .skip)) (.seq (.seq (.reg [⟨(some 31), none, (.mov (.t 0))⟩, ⟨(some 32), none, (.mov (.t 7))⟩, ⟨(some 33), none, (.iaddrS 1 (.t 31) (.t 32))⟩, ⟨(some 34), none, (.load none (.t 33))⟩, ⟨(some 35), none, (.mov (.t 8))⟩, ⟨(some 36), none, (.conv (.int .u64) (.t 35))⟩, ⟨(some 37), none, (.bin .shr false (.t 34) (.t 36))⟩, ⟨(some 38), none, (.bin .and false (.t 37) (.c (.int .i64 1)))⟩, ⟨(some 39), none, (.bin .eql false (.t 38) (.c (.int .i64 1)))⟩] [0, 1, 5, 6, 7, 8, 39]) (.cond (.t 39) (.reg [⟨(some 40), none, (.mov (.t 5))⟩, ⟨(some 41), none, (.mov (.t 5))⟩, ⟨(some 42), none, (.len false (.t 41))⟩, ⟨(some 43), none, (.bin .sub false (.t 42) (.c (.int .i64 1)))⟩, ⟨(some 44), none, (.iaddrS 1 (.t 40) (.t 43))⟩, ⟨(some 45), none, (.load none (.t 44))⟩, ⟨(some 46), none, (.mov (.t 6))⟩, ⟨(some 47), none, (.bin .rem false (.t 46) (.c (.int .i64 8)))⟩, ⟨(some 48), none, (.conv (.int .u64) (.t 47))⟩, ⟨(some 49), none, (.bin .shr false (.c (.int .u8 128)) (.t 48))⟩, ⟨(some 50), none, (.bin .or false (.t 45) (.t 49))⟩, ⟨(some 51), none, (.iaddrS 1 (.t 40) (.t 43))⟩, ⟨none, none, (.store 1 (.t 51) (.t 50))⟩] [0, 1, 5, 6, 7, 8]) .skip)) (.reg [⟨(some 52), none, (.mov (.t 6))⟩, ⟨(some 53), none, (.bin .add false (.t 52) (.c (.int .i64 1)))⟩, ⟨(some 6), none, (.mov (.t 53))⟩] [0, 1, 5, 6, 7, 8])))) (.reg [⟨(some 23), none, (.mov (.t 8))⟩, ⟨(some 24), none, (.bin .sub false (.t 23) (.c (.int .i64 1)))⟩, ⟨(some 8), none, (.mov (.t 24))⟩] [0, 1, 5, 6, 7, 8])))
def lb45_1 : ICode := (.seq (.seq (.reg [⟨(some 10), none, (.mov (.t 7))⟩, ⟨(some 11), none, (.mov (.t 0))⟩, ⟨(some 12), none, (.len false (.t 11))⟩, ⟨(some 13), none, (.bin .lss false (.t 10) (.t 12))⟩] [0, 1, 5, 6, 7, 13]) (.cond (.t 13) .skip (.exit 0))) (.seq (.block 1 (.seq (.reg [⟨(some 16), none, (.mov (.t 1))⟩, ⟨(some 17), none, (.mov (.t 7))⟩, ⟨(some 18), none, (.iaddrS 1 (.t 16) (.t 17))⟩, ⟨(some 19), none, (.load none (.t 18))⟩, ⟨(some 20), none, (.bin .sub false (.t 19) (.c (.int .i64 1)))⟩, ⟨(some 8), none, (.mov (.t 20))⟩] [0, 1, 5, 6, 7, 8]) (.block 2 (.loop lb45_0)))) (.reg [⟨(some 14), none, (.mov (.t 7))⟩, ⟨(some 15), none, (.bin .add false (.t 14) (.c (.int .i64 1)))⟩, ⟨(some 7), none, (.mov (.t 15))⟩] [0, 1, 5, 6, 7])))
def ic45 : ICode := (.seq (.reg [⟨(some 4), none, (.mov (.c (.str [])))⟩] [0, 1]) (.seq (.reg [⟨(some 9), none, (.bslice 1 0 (.int .u8 0) [])⟩, ⟨(some 5), none, (.mov (.t 9))⟩] [0, 1, 5]) (.seq (.reg [⟨(some 6), none, (.mov (.c (.int .i64 0)))⟩] [0, 1, 5, 6]) (.seq (.seq (.reg [⟨(some 7), none, (.mov (.c (.int .i64 0)))⟩] [0, 1, 5, 6, 7]) (.block 0 (.loop lb45_1))) (.seq (.reg [⟨(some 54), none, (.mov (.t 5))⟩, ⟨(some 55), none, (.conv .str (.t 54))⟩, ⟨(some 4), none, (.mov (.t 55))⟩] [4]) .ret)))))
def cp45 : CP := CP.mk [] [] [[0, 1], [0, 1, 5], [0, 1, 5, 6], [0, 1, 5, 6, 7], [0, 1, 5, 6, 7, 13], [0, 1, 5, 6, 7], [0, 1, 5, 6, 7, 8], [0, 1, 5, 6, 7, 8, 22], [0, 1, 5, 6, 7, 8], [0, 1, 5, 6, 7, 8, 27], [0, 1, 5, 6, 7, 8], [0, 1, 5, 6, 7, 8, 39], [0, 1, 5, 6, 7, 8], [0, 1, 5, 6, 7, 8], [4]] 56 [] []
theorem sl45_0 (x0 : (List Int)) (x1 : (List Int)) (z1_2 : Int) : ∀ (n : Nat) (z0_0 : (List Int)) (z0_1 : Int) (z0_2 : Int) (o : (Int × (List Int))) (K : IExit → St → Prop), l_spec_l06Bytes_0 x0 x1 z1_2 n z0_0 z0_1 z0_2 = some o → (∀ st, Wk st (⟨[(0, (.sl (List.map (AV.int .i64) x0))), (1, (.sl (List.map (AV.int .i64) x1))), (5, (.lsl 9 0 (List.length o.2))), (6, (.int .i64 o.1)), (7, (.int .i64 z1_2))], [(9, (some ⟨1, true, (List.map (AV.int .u8) o.2)⟩))]⟩ : St) → K (.exit 2) st) → eA (tabOf []) (.loop lb45_0) (⟨[(0, (.sl (List.map (AV.int .i64) x0))), (1, (.sl (List.map (AV.int .i64) x1))), (5, (.lsl 9 0 (List.length z0_0))), (6, (.int .i64 z0_1)), (7, (.int .i64 z1_2)), (8, (.int .i64 z0_2))], [(9, (some ⟨1, true, (List.map (AV.int .u8) z0_0)⟩))]⟩ : St) K := by
  intro n
  induction n with
  | zero =>
    intro z0_0 z0_1 z0_2 o K h h0
    simp only [l_spec_l06Bytes_0, reduceCtorEq] at h
  | succ n ih =>
    intro z0_0 z0_1 z0_2 o K h h0
    refine eA_loop ?_
    unfold lb45_0
    unfold l_spec_l06Bytes_0 at h
    (try simp only [need_iff, v_spec_l06Bytes_12, v_spec_l06Bytes_13] at h)
    simp only [
      need_iff, h, grpA, vsliceS, grpS, grpD, grpF, grpL, eop, vop, bop, uop, fltop, convop, endOk, newE, new1, freshL, Md.isNew, outV, pureV, pureX, pure1, AV.cells, AV.one, storable, laid, refless, refless1, vload, loadC, storeC, vnil, vfaddr, vextract, flatT, flatE, flatC, vconv, vmm, vidxA, viaddrA, vfield, vlen, elemsOf, dF32, dF64, dI64, dU8, dBool, dStr, esOk, elemsS, vsliceX, bnd, ownV, ownC, own1, ownT, isSl, nSl, endL, Md.isOwn, purge, purgeH, purgeB, purgeE, hasName, name1, List.any_cons, List.any_nil, Md.isWr, pureV.pureP, Option.map, reduceIte, Nat.reduceEqDiff, Nat.reduceAdd, Nat.reduceMul, Nat.reduceLT, Nat.reduceLeDiff, List.mapM_cons, List.mapM_nil, Option.pure_def, Option.bind_eq_bind, Option.bind_some, implies_true, forall_const, beq_self_eq_true, decide_true, decide_false, eq_self, Int.reduceEq, Int.reduceLE, Int.reduceLT, if_true, if_false, grpK, Int.reduceAdd, Int.reduceSub, Int.reduceMul, Int.reduceNeg, Int.reducePow, Nat.reducePow, Int.reduceToNat, Nat.reduceSub, List.replicate, Nat.reduceBEq, wAs, wA, wC, zipW, noDupN, grpE, beq_true, beq_false, grpC, en0, dc_en0]
    repeat' (first
      | ((first | (refine eGI_of (fun hc => ?_) (fun hc => ?_)) | (refine eCc_of (fun hc => ?_) (fun hc => ?_)) | (have hc := True.intro; refine KW_refl ?_)) <;> (try simp only [Bool.not_eq_true', Bool.not_eq_false'] at hc) <;> (try simp only [hc, need_iff, reduceCtorEq, grpN, Int.reduceEq, Int.reduceLT, Int.reduceLE, if_true, if_false, reduceIte] at h) <;> (first | (have hc2 := hc; simp only [decide_eq_true_eq, decide_eq_false_iff_not] at hc2; (first | (replace hc2 := eq_false hc2) | (replace hc2 := eq_true hc2)); (try simp only [hc2, need_iff, reduceCtorEq, grpN, Int.reduceEq, Int.reduceLT, Int.reduceLE, if_true, if_false, reduceIte] at h); replace h := And.intro hc2 h) | (replace h := And.intro hc h) | skip) <;> simp only [hc,
      need_iff, h, grpA, vsliceS, grpS, grpD, grpF, grpL, eop, vop, bop, uop, fltop, convop, endOk, newE, new1, freshL, Md.isNew, outV, pureV, pureX, pure1, AV.cells, AV.one, storable, laid, refless, refless1, vload, loadC, storeC, vnil, vfaddr, vextract, flatT, flatE, flatC, vconv, vmm, vidxA, viaddrA, vfield, vlen, elemsOf, dF32, dF64, dI64, dU8, dBool, dStr, esOk, elemsS, vsliceX, bnd, ownV, ownC, own1, ownT, isSl, nSl, endL, Md.isOwn, purge, purgeH, purgeB, purgeE, hasName, name1, List.any_cons, List.any_nil, Md.isWr, pureV.pureP, Option.map, reduceIte, Nat.reduceEqDiff, Nat.reduceAdd, Nat.reduceMul, Nat.reduceLT, Nat.reduceLeDiff, List.mapM_cons, List.mapM_nil, Option.pure_def, Option.bind_eq_bind, Option.bind_some, implies_true, forall_const, beq_self_eq_true, decide_true, decide_false, eq_self, Int.reduceEq, Int.reduceLE, Int.reduceLT, if_true, if_false, grpK, Int.reduceAdd, Int.reduceSub, Int.reduceMul, Int.reduceNeg, Int.reducePow, Nat.reducePow, Int.reduceToNat, Nat.reduceSub, List.replicate, Nat.reduceBEq, wAs, wA, wC, zipW, noDupN, grpE, beq_true, beq_false, grpC, en0, dc_en0]))
    all_goals (have hf := h)
    all_goals (repeat (replace h := And.right h))
    all_goals ((first | (refine eA_wk (wk_norm (ks := [0, 1, 5, 6, 7, 8]) (ls := [9]) ?_) (eA_cast ?_ (ih _ _ _ _ _ h h0))) | (cases h; have h := True.intro; refine h0 _ (Wk.cast (wk_norm (ks := [0, 1, 5, 6, 7]) (ls := [9]) ?_) ?_))) <;> simp only [normOk, optIn, blkIn, nameIn, normS, List.map_append, List.length_append, List.map_set, List.length_set, List.map_replicate, List.length_replicate, List.map_nil, List.map_cons,
      need_iff, h, hf, grpA, vsliceS, grpS, grpD, grpF, grpL, eop, vop, bop, uop, fltop, convop, endOk, newE, new1, freshL, Md.isNew, outV, pureV, pureX, pure1, AV.cells, AV.one, storable, laid, refless, refless1, vload, loadC, storeC, vnil, vfaddr, vextract, flatT, flatE, flatC, vconv, vmm, vidxA, viaddrA, vfield, vlen, elemsOf, dF32, dF64, dI64, dU8, dBool, dStr, esOk, elemsS, vsliceX, bnd, ownV, ownC, own1, ownT, isSl, nSl, endL, Md.isOwn, purge, purgeH, purgeB, purgeE, hasName, name1, List.any_cons, List.any_nil, Md.isWr, pureV.pureP, Option.map, reduceIte, Nat.reduceEqDiff, Nat.reduceAdd, Nat.reduceMul, Nat.reduceLT, Nat.reduceLeDiff, List.mapM_cons, List.mapM_nil, Option.pure_def, Option.bind_eq_bind, Option.bind_some, implies_true, forall_const, beq_self_eq_true, decide_true, decide_false, eq_self, Int.reduceEq, Int.reduceLE, Int.reduceLT, if_true, if_false, grpK, Int.reduceAdd, Int.reduceSub, Int.reduceMul, Int.reduceNeg, Int.reducePow, Nat.reducePow, Int.reduceToNat, Nat.reduceSub, List.replicate, Nat.reduceBEq, wAs, wA, wC, zipW, noDupN, grpE, beq_true, beq_false, grpC, en0, dc_en0] <;> first | rfl | (simp only [Nat.add_comm]; done))
theorem sl45_1 (x0 : (List Int)) (x1 : (List Int)) : ∀ (n : Nat) (z1_0 : (List Int)) (z1_1 : Int) (z1_2 : Int) (o : (List Int)) (K : IExit → St → Prop), l_spec_l06Bytes_1 x0 x1 n z1_0 z1_1 z1_2 = some o → (∀ st, Wk st (⟨[(5, (.lsl 9 0 (List.length o)))], [(9, (some ⟨1, true, (List.map (AV.int .u8) o)⟩))]⟩ : St) → K (.exit 0) st) → eA (tabOf []) (.loop lb45_1) (⟨[(0, (.sl (List.map (AV.int .i64) x0))), (1, (.sl (List.map (AV.int .i64) x1))), (5, (.lsl 9 0 (List.length z1_0))), (6, (.int .i64 z1_1)), (7, (.int .i64 z1_2))], [(9, (some ⟨1, true, (List.map (AV.int .u8) z1_0)⟩))]⟩ : St) K := by
  intro n
  induction n with
  | zero =>
    intro z1_0 z1_1 z1_2 o K h h0
    simp only [l_spec_l06Bytes_1, reduceCtorEq] at h
  | succ n ih =>
    intro z1_0 z1_1 z1_2 o K h h0
    refine eA_loop ?_
    unfold lb45_1
    unfold l_spec_l06Bytes_1 at h
    (try simp only [need_iff, v_spec_l06Bytes_12, v_spec_l06Bytes_13] at h)
    simp only [
      need_iff, h, grpA, vsliceS, grpS, grpD, grpF, grpL, eop, vop, bop, uop, fltop, convop, endOk, newE, new1, freshL, Md.isNew, outV, pureV, pureX, pure1, AV.cells, AV.one, storable, laid, refless, refless1, vload, loadC, storeC, vnil, vfaddr, vextract, flatT, flatE, flatC, vconv, vmm, vidxA, viaddrA, vfield, vlen, elemsOf, dF32, dF64, dI64, dU8, dBool, dStr, esOk, elemsS, vsliceX, bnd, ownV, ownC, own1, ownT, isSl, nSl, endL, Md.isOwn, purge, purgeH, purgeB, purgeE, hasName, name1, List.any_cons, List.any_nil, Md.isWr, pureV.pureP, Option.map, reduceIte, Nat.reduceEqDiff, Nat.reduceAdd, Nat.reduceMul, Nat.reduceLT, Nat.reduceLeDiff, List.mapM_cons, List.mapM_nil, Option.pure_def, Option.bind_eq_bind, Option.bind_some, implies_true, forall_const, beq_self_eq_true, decide_true, decide_false, eq_self, Int.reduceEq, Int.reduceLE, Int.reduceLT, if_true, if_false, grpK, Int.reduceAdd, Int.reduceSub, Int.reduceMul, Int.reduceNeg, Int.reducePow, Nat.reducePow, Int.reduceToNat, Nat.reduceSub, List.replicate, Nat.reduceBEq, wAs, wA, wC, zipW, noDupN, grpE, beq_true, beq_false, grpC, en0, dc_en0]
    repeat' (first
      | ((first | (refine eGI_of (fun hc => ?_) (fun hc => ?_)) | (refine eCc_of (fun hc => ?_) (fun hc => ?_)) | (have hc := True.intro; refine KW_refl ?_)) <;> (try simp only [Bool.not_eq_true', Bool.not_eq_false'] at hc) <;> (try simp only [hc, need_iff, reduceCtorEq, grpN, Int.reduceEq, Int.reduceLT, Int.reduceLE, if_true, if_false, reduceIte] at h) <;> (first | (have hc2 := hc; simp only [decide_eq_true_eq, decide_eq_false_iff_not] at hc2; (first | (replace hc2 := eq_false hc2) | (replace hc2 := eq_true hc2)); (try simp only [hc2, need_iff, reduceCtorEq, grpN, Int.reduceEq, Int.reduceLT, Int.reduceLE, if_true, if_false, reduceIte] at h); replace h := And.intro hc2 h) | (replace h := And.intro hc h) | skip) <;> simp only [hc,
      need_iff, h, grpA, vsliceS, grpS, grpD, grpF, grpL, eop, vop, bop, uop, fltop, convop, endOk, newE, new1, freshL, Md.isNew, outV, pureV, pureX, pure1, AV.cells, AV.one, storable, laid, refless, refless1, vload, loadC, storeC, vnil, vfaddr, vextract, flatT, flatE, flatC, vconv, vmm, vidxA, viaddrA, vfield, vlen, elemsOf, dF32, dF64, dI64, dU8, dBool, dStr, esOk, elemsS, vsliceX, bnd, ownV, ownC, own1, ownT, isSl, nSl, endL, Md.isOwn, purge, purgeH, purgeB, purgeE, hasName, name1, List.any_cons, List.any_nil, Md.isWr, pureV.pureP, Option.map, reduceIte, Nat.reduceEqDiff, Nat.reduceAdd, Nat.reduceMul, Nat.reduceLT, Nat.reduceLeDiff, List.mapM_cons, List.mapM_nil, Option.pure_def, Option.bind_eq_bind, Option.bind_some, implies_true, forall_const, beq_self_eq_true, decide_true, decide_false, eq_self, Int.reduceEq, Int.reduceLE, Int.reduceLT, if_true, if_false, grpK, Int.reduceAdd, Int.reduceSub, Int.reduceMul, Int.reduceNeg, Int.reducePow, Nat.reducePow, Int.reduceToNat, Nat.reduceSub, List.replicate, Nat.reduceBEq, wAs, wA, wC, zipW, noDupN, grpE, beq_true, beq_false, grpC, en0, dc_en0])
      | (refine eA_wk (wk_norm (ks := [0, 1, 5, 6, 7, 8]) (ls := [9]) ?_) (eA_cast ?_ (sl45_0 x0 x1 z1_2 _ _ _ _ _ _ (getD_some (d := default) (x := (l_spec_l06Bytes_0 x0 x1 z1_2 (Int.toNat (IntKind.wrap .i64 ((atI x1 z1_2) - 1)) + 2) z1_0 z1_1 (IntKind.wrap .i64 ((atI x1 z1_2) - 1)))) ?_) ?_)); (iterate 2 (simp only [nilS, nilV, normOk, optIn, blkIn, nameIn, normS, List.map_append, List.length_append, List.map_set, List.length_set, List.map_replicate, List.length_replicate, List.map_nil, List.map_cons,
      need_iff, h, grpA, vsliceS, grpS, grpD, grpF, grpL, eop, vop, bop, uop, fltop, convop, endOk, newE, new1, freshL, Md.isNew, outV, pureV, pureX, pure1, AV.cells, AV.one, storable, laid, refless, refless1, vload, loadC, storeC, vnil, vfaddr, vextract, flatT, flatE, flatC, vconv, vmm, vidxA, viaddrA, vfield, vlen, elemsOf, dF32, dF64, dI64, dU8, dBool, dStr, esOk, elemsS, vsliceX, bnd, ownV, ownC, own1, ownT, isSl, nSl, endL, Md.isOwn, purge, purgeH, purgeB, purgeE, hasName, name1, List.any_cons, List.any_nil, Md.isWr, pureV.pureP, Option.map, reduceIte, Nat.reduceEqDiff, Nat.reduceAdd, Nat.reduceMul, Nat.reduceLT, Nat.reduceLeDiff, List.mapM_cons, List.mapM_nil, Option.pure_def, Option.bind_eq_bind, Option.bind_some, implies_true, forall_const, beq_self_eq_true, decide_true, decide_false, eq_self, Int.reduceEq, Int.reduceLE, Int.reduceLT, if_true, if_false, grpK, Int.reduceAdd, Int.reduceSub, Int.reduceMul, Int.reduceNeg, Int.reducePow, Nat.reducePow, Int.reduceToNat, Nat.reduceSub, List.replicate, Nat.reduceBEq, wAs, wA, wC, zipW, noDupN, grpE, beq_true, beq_false, grpC, en0, dc_en0] <;> first | rfl | (simp only [Nat.add_comm]; done))); (simp only [h]); (
        intro st2 hw; (try simp only [reduceCtorEq, grpN, Int.reduceEq, Int.reduceLT, Int.reduceLE, if_true, if_false, reduceIte] at h); (try replace h := And.intro ht h); simp only [
Kq_exit, Kq_normal, Kq_ret, Kb_exit, Kb_normal, Kb_ret, Kl_exit, Kl_normal, Kl_ret, reduceIte, Nat.reduceEqDiff, if_true, if_false, eq_self]; refine KW_of hw ?_; simp only [
      need_iff, h, grpA, vsliceS, grpS, grpD, grpF, grpL, eop, vop, bop, uop, fltop, convop, endOk, newE, new1, freshL, Md.isNew, outV, pureV, pureX, pure1, AV.cells, AV.one, storable, laid, refless, refless1, vload, loadC, storeC, vnil, vfaddr, vextract, flatT, flatE, flatC, vconv, vmm, vidxA, viaddrA, vfield, vlen, elemsOf, dF32, dF64, dI64, dU8, dBool, dStr, esOk, elemsS, vsliceX, bnd, ownV, ownC, own1, ownT, isSl, nSl, endL, Md.isOwn, purge, purgeH, purgeB, purgeE, hasName, name1, List.any_cons, List.any_nil, Md.isWr, pureV.pureP, Option.map, reduceIte, Nat.reduceEqDiff, Nat.reduceAdd, Nat.reduceMul, Nat.reduceLT, Nat.reduceLeDiff, List.mapM_cons, List.mapM_nil, Option.pure_def, Option.bind_eq_bind, Option.bind_some, implies_true, forall_const, beq_self_eq_true, decide_true, decide_false, eq_self, Int.reduceEq, Int.reduceLE, Int.reduceLT, if_true, if_false, grpK, Int.reduceAdd, Int.reduceSub, Int.reduceMul, Int.reduceNeg, Int.reducePow, Nat.reducePow, Int.reduceToNat, Nat.reduceSub, List.replicate, Nat.reduceBEq, wAs, wA, wC, zipW, noDupN, grpE, beq_true, beq_false, grpC, en0, dc_en0])))
    all_goals (have hf := h)
    all_goals (repeat (replace h := And.right h))
    all_goals ((first | (refine eA_wk (wk_norm (ks := [0, 1, 5, 6, 7]) (ls := [9]) ?_) (eA_cast ?_ (ih _ _ _ _ _ h h0))) | (cases h; have h := True.intro; refine h0 _ (Wk.cast (wk_norm (ks := [5]) (ls := [9]) ?_) ?_))) <;> simp only [normOk, optIn, blkIn, nameIn, normS, List.map_append, List.length_append, List.map_set, List.length_set, List.map_replicate, List.length_replicate, List.map_nil, List.map_cons,
      need_iff, h, hf, grpA, vsliceS, grpS, grpD, grpF, grpL, eop, vop, bop, uop, fltop, convop, endOk, newE, new1, freshL, Md.isNew, outV, pureV, pureX, pure1, AV.cells, AV.one, storable, laid, refless, refless1, vload, loadC, storeC, vnil, vfaddr, vextract, flatT, flatE, flatC, vconv, vmm, vidxA, viaddrA, vfield, vlen, elemsOf, dF32, dF64, dI64, dU8, dBool, dStr, esOk, elemsS, vsliceX, bnd, ownV, ownC, own1, ownT, isSl, nSl, endL, Md.isOwn, purge, purgeH, purgeB, purgeE, hasName, name1, List.any_cons, List.any_nil, Md.isWr, pureV.pureP, Option.map, reduceIte, Nat.reduceEqDiff, Nat.reduceAdd, Nat.reduceMul, Nat.reduceLT, Nat.reduceLeDiff, List.mapM_cons, List.mapM_nil, Option.pure_def, Option.bind_eq_bind, Option.bind_some, implies_true, forall_const, beq_self_eq_true, decide_true, decide_false, eq_self, Int.reduceEq, Int.reduceLE, Int.reduceLT, if_true, if_false, grpK, Int.reduceAdd, Int.reduceSub, Int.reduceMul, Int.reduceNeg, Int.reducePow, Nat.reducePow, Int.reduceToNat, Nat.reduceSub, List.replicate, Nat.reduceBEq, wAs, wA, wC, zipW, noDupN, grpE, beq_true, beq_false, grpC, en0, dc_en0] <;> first | rfl | (simp only [Nat.add_comm]; done))
theorem s45 : ∀ vs r, g_spec_l06Bytes vs = some r → SaysM Try.prog .any 45 vs r := by
  intro vs r h
  unfold g_spec_l06Bytes at h
  split at h
  · rename_i w0 w1
    cases hd_y0 : decL dI64 w0 with
    | none => rw [hd_y0] at h; cases h
    | some y0 =>
    rw [hd_y0] at h
    obtain rfl := decL_inv dI64_inv hd_y0
    clear hd_y0
    dsimp only at h
    cases hd_y1 : decL dI64 w1 with
    | none => rw [hd_y1] at h; cases h
    | some y1 =>
    rw [hd_y1] at h
    obtain rfl := decL_inv dI64_inv hd_y1
    clear hd_y1
    dsimp only at h
    split at h
    · rename_i hp
      cases h
      refine spec_of (m := .any) (tab := tabOf []) (cp := cp45) (ic := ic45) (rvl := [(.t 4)]) hm tabOk_nil Try.func45 rfl rfl rfl (by kernel_rfl) rfl (Nat.le_of_ble_eq_true rfl) (Nat.le_of_ble_eq_true rfl) ?_
      show eA _ _ _ _
      unfold ic45
      simp only [p_spec_l06Bytes, v_spec_l06Bytes_12, v_spec_l06Bytes_13, Bool.and_eq_true, Bool.or_eq_true, decide_eq_true_eq, Bool.not_eq_true', decide_eq_false_iff_not] at hp
      refine eS_to ?_
      repeat' (first
        | ((first | (have h := True.intro; refine eS_of ?_) | (refine eGI_of (fun h => ?_) (fun h => ?_)) | (refine eCc_of (fun h => ?_) (fun h => ?_)) | (have h := True.intro; refine KW_refl ?_)) <;> (try simp only [Bool.not_eq_true', Bool.not_eq_false'] at h) <;> (try first | exact absurd (Eq.trans (Eq.symm h) (by assumption)) Bool.false_ne_true | exact absurd (Eq.trans (Eq.symm h) (by assumption)) (Ne.symm Bool.false_ne_true)) <;> (try simp only [h, reduceCtorEq, grpN, Int.reduceEq, Int.reduceLT, Int.reduceLE, if_true, if_false, reduceIte] at hp) <;> (first | (have h2 := h; simp only [decide_eq_true_eq, decide_eq_false_iff_not] at h2; (first | (replace h2 := eq_false h2) | (replace h2 := eq_true h2)); (try simp only [h2, reduceCtorEq, grpN, Int.reduceEq, Int.reduceLT, Int.reduceLE, if_true, if_false, reduceIte] at hp); replace hp := And.intro h2 hp) | (replace hp := And.intro h hp) | skip) <;> simp only [h,
          hp, grpA, vsliceS, grpS, grpD, grpF, grpL, eop, vop, bop, uop, fltop, convop, endOk, newE, new1, freshL, Md.isNew, outV, pureV, pureX, pure1, AV.cells, AV.one, storable, laid, refless, refless1, vload, loadC, storeC, vnil, vfaddr, vextract, flatT, flatE, flatC, vconv, vmm, vidxA, viaddrA, vfield, vlen, elemsOf, dF32, dF64, dI64, dU8, dBool, dStr, esOk, elemsS, vsliceX, bnd, ownV, ownC, own1, ownT, isSl, nSl, endL, Md.isOwn, purge, purgeH, purgeB, purgeE, hasName, name1, List.any_cons, List.any_nil, Md.isWr, pureV.pureP, Option.map, reduceIte, Nat.reduceEqDiff, Nat.reduceAdd, Nat.reduceMul, Nat.reduceLT, Nat.reduceLeDiff, List.mapM_cons, List.mapM_nil, Option.pure_def, Option.bind_eq_bind, Option.bind_some, implies_true, forall_const, beq_self_eq_true, decide_true, decide_false, eq_self, Int.reduceEq, Int.reduceLE, Int.reduceLT, if_true, if_false, grpK, Int.reduceAdd, Int.reduceSub, Int.reduceMul, Int.reduceNeg, Int.reducePow, Nat.reducePow, Int.reduceToNat, Nat.reduceSub, List.replicate, Nat.reduceBEq, wAs, wA, wC, zipW, noDupN, grpE, beq_true, beq_false, grpC, en0, dc_en0])
        | (refine eA_wk (wk_norm (ks := [0, 1, 5, 6, 7]) (ls := [9]) ?_) (eA_cast ?_ (sl45_1 y0 y1 _ _ _ _ _ _ (getD_some (d := default) (x := (l_spec_l06Bytes_1 y0 y1 (Int.toNat (((List.length y0 : Nat) : Int) - 0) + 2) [] 0 0)) ?_) ?_)); (iterate 2 (simp only [nilS, nilV, normOk, optIn, blkIn, nameIn, normS, List.map_append, List.length_append, List.map_set, List.length_set, List.map_replicate, List.length_replicate, List.map_nil, List.map_cons,
          hp, grpA, vsliceS, grpS, grpD, grpF, grpL, eop, vop, bop, uop, fltop, convop, endOk, newE, new1, freshL, Md.isNew, outV, pureV, pureX, pure1, AV.cells, AV.one, storable, laid, refless, refless1, vload, loadC, storeC, vnil, vfaddr, vextract, flatT, flatE, flatC, vconv, vmm, vidxA, viaddrA, vfield, vlen, elemsOf, dF32, dF64, dI64, dU8, dBool, dStr, esOk, elemsS, vsliceX, bnd, ownV, ownC, own1, ownT, isSl, nSl, endL, Md.isOwn, purge, purgeH, purgeB, purgeE, hasName, name1, List.any_cons, List.any_nil, Md.isWr, pureV.pureP, Option.map, reduceIte, Nat.reduceEqDiff, Nat.reduceAdd, Nat.reduceMul, Nat.reduceLT, Nat.reduceLeDiff, List.mapM_cons, List.mapM_nil, Option.pure_def, Option.bind_eq_bind, Option.bind_some, implies_true, forall_const, beq_self_eq_true, decide_true, decide_false, eq_self, Int.reduceEq, Int.reduceLE, Int.reduceLT, if_true, if_false, grpK, Int.reduceAdd, Int.reduceSub, Int.reduceMul, Int.reduceNeg, Int.reducePow, Nat.reducePow, Int.reduceToNat, Nat.reduceSub, List.replicate, Nat.reduceBEq, wAs, wA, wC, zipW, noDupN, grpE, beq_true, beq_false, grpC, en0, dc_en0] <;> first | rfl | (simp only [Nat.add_comm]; done))); (simp only [hp]); (
        intro st2 hw; (try simp only [reduceCtorEq, grpN, Int.reduceEq, Int.reduceLT, Int.reduceLE, if_true, if_false, reduceIte] at hp); (try replace hp := And.intro ht hp); simp only [
Kq_exit, Kq_normal, Kq_ret, Kb_exit, Kb_normal, Kb_ret, Kl_exit, Kl_normal, Kl_ret, reduceIte, Nat.reduceEqDiff, if_true, if_false, eq_self]; refine KW_of hw ?_; simp only [
          hp, grpA, vsliceS, grpS, grpD, grpF, grpL, eop, vop, bop, uop, fltop, convop, endOk, newE, new1, freshL, Md.isNew, outV, pureV, pureX, pure1, AV.cells, AV.one, storable, laid, refless, refless1, vload, loadC, storeC, vnil, vfaddr, vextract, flatT, flatE, flatC, vconv, vmm, vidxA, viaddrA, vfield, vlen, elemsOf, dF32, dF64, dI64, dU8, dBool, dStr, esOk, elemsS, vsliceX, bnd, ownV, ownC, own1, ownT, isSl, nSl, endL, Md.isOwn, purge, purgeH, purgeB, purgeE, hasName, name1, List.any_cons, List.any_nil, Md.isWr, pureV.pureP, Option.map, reduceIte, Nat.reduceEqDiff, Nat.reduceAdd, Nat.reduceMul, Nat.reduceLT, Nat.reduceLeDiff, List.mapM_cons, List.mapM_nil, Option.pure_def, Option.bind_eq_bind, Option.bind_some, implies_true, forall_const, beq_self_eq_true, decide_true, decide_false, eq_self, Int.reduceEq, Int.reduceLE, Int.reduceLT, if_true, if_false, grpK, Int.reduceAdd, Int.reduceSub, Int.reduceMul, Int.reduceNeg, Int.reducePow, Nat.reducePow, Int.reduceToNat, Nat.reduceSub, List.replicate, Nat.reduceBEq, wAs, wA, wC, zipW, noDupN, grpE, beq_true, beq_false, grpC, en0, dc_en0])))
      all_goals (try simp only [*, m_spec_l06Bytes, v_spec_l06Bytes_12, v_spec_l06Bytes_13, Bool.and_true, Bool.true_and, Bool.and_false, Bool.false_and, Bool.or_true, Bool.true_or, Bool.or_false, Bool.false_or, Bool.not_true, Bool.not_false, Bool.false_eq_true, if_true, if_false, reduceIte, decide_true, decide_false])
      all_goals (try (simp_all; done))
    · cases h
  · cases h
def l_spec_l06Pose_0 (x0 : (Int × Int × Nat)) (x1 : (Nat × Nat × Nat × (List (Nat × Nat × Nat × Nat)))) : Nat → (List Int) → Int → Option (Bool × ((List UInt8) × Bool) × (List Int))
  | 0, _, _ => none
  | n + 1, z0_0, z0_1 => (if (decide (z0_1 < ((List.length x1.2.2.2 : Nat) : Int))) = true then (need (inB z0_1 (List.length x1.2.2.2)) (if (m_spec_l06Turn (atI x1.2.2.2 z0_1)) = true then (need (p_spec_l06Pack (atI x1.2.2.2 z0_1) x0.1) (need (decide (((List.length z0_0) + 1) * 8 ≤ 17592186044416)) (need (decide ((List.length z0_0) + 1 ≤ 17592186044416)) (l_spec_l06Pose_0 x0 x1 n (z0_0 ++ [(m_spec_l06Pack (atI x1.2.2.2 z0_1) x0.1)]) (IntKind.wrap .i64 (z0_1 + 1)))))) else (some (true, (([] : List UInt8), false), default)))) else (some (false, default, z0_0)))
def m_spec_l06Pose (x0 : (Int × Int × Nat)) (x1 : (Nat × Nat × Nat × (List (Nat × Nat × Nat × Nat)))) : ((List UInt8) × Bool) := (if (m_spec_l03Few x1) = true then (if (m_spec_l06Vector (x1.1, x1.2.1, x1.2.2.1)) = true then (if (Option.getD (l_spec_l06Pose_0 x0 x1 (Int.toNat (((List.length x1.2.2.2 : Nat) : Int) - 0) + 2) [(m_spec_l06PackVector (x1.1, x1.2.1, x1.2.2.1) x0.2.2 x0.2.1)] 0) default).1 = true then (Option.getD (l_spec_l06Pose_0 x0 x1 (Int.toNat (((List.length x1.2.2.2 : Nat) : Int) - 0) + 2) [(m_spec_l06PackVector (x1.1, x1.2.1, x1.2.2.1) x0.2.2 x0.2.1)] 0) default).2.1 else ((m_spec_l06Bytes (Option.getD (l_spec_l06Pose_0 x0 x1 (Int.toNat (((List.length x1.2.2.2 : Nat) : Int) - 0) + 2) [(m_spec_l06PackVector (x1.1, x1.2.1, x1.2.2.1) x0.2.2 x0.2.1)] 0) default).2.2 (m_spec_l06Parts x0 ((List.length x1.2.2.2 : Nat) : Int))), true)) else (([] : List UInt8), false)) else (([] : List UInt8), false))
def p_spec_l06Pose (x0 : (Int × Int × Nat)) (x1 : (Nat × Nat × Nat × (List (Nat × Nat × Nat × Nat)))) : Bool := (!(m_spec_l03Few x1) || (!(m_spec_l06Vector (x1.1, x1.2.1, x1.2.2.1)) || ((p_spec_l06PackVector (x1.1, x1.2.1, x1.2.2.1) x0.2.2 x0.2.1) && ((Option.isSome (l_spec_l06Pose_0 x0 x1 (Int.toNat (((List.length x1.2.2.2 : Nat) : Int) - 0) + 2) [(m_spec_l06PackVector (x1.1, x1.2.1, x1.2.2.1) x0.2.2 x0.2.1)] 0)) && ((Option.getD (l_spec_l06Pose_0 x0 x1 (Int.toNat (((List.length x1.2.2.2 : Nat) : Int) - 0) + 2) [(m_spec_l06PackVector (x1.1, x1.2.1, x1.2.2.1) x0.2.2 x0.2.1)] 0) default).1 || ((p_spec_l06Parts x0 ((List.length x1.2.2.2 : Nat) : Int)) && (p_spec_l06Bytes (Option.getD (l_spec_l06Pose_0 x0 x1 (Int.toNat (((List.length x1.2.2.2 : Nat) : Int) - 0) + 2) [(m_spec_l06PackVector (x1.1, x1.2.1, x1.2.2.1) x0.2.2 x0.2.1)] 0) default).2.2 (m_spec_l06Parts x0 ((List.length x1.2.2.2 : Nat) : Int)))))))))
def g_spec_l06Pose : List AV → Option AV
  | [.ptr (.agg [.int .i64 y0, .int .i64 y1, .flt .f32 y2]) 0, .ptr (.agg [.flt .f32 y3, .flt .f32 y4, .flt .f32 y5, .sl w6]) 0] => (match decL dc_en0 w6 with | some y6 => (if p_spec_l06Pose (y0, y1, y2) (y3, y4, y5, y6) = true then some (AV.tup [(.str (m_spec_l06Pose (y0, y1, y2) (y3, y4, y5, y6)).1), (.bool (m_spec_l06Pose (y0, y1, y2) (y3, y4, y5, y6)).2)]) else none) | none => none)
  | _ => none
def lb75_0 : ICode := (.seq (.seq (.reg [⟨(some 33), none, (.mov (.t 7))⟩, ⟨(some 34), none, (.mov (.t 1))⟩, ⟨(some 35), none, (.nilchk (.t 34))⟩, ⟨(some 36), none, (.faddr 3 (.t 35))⟩, ⟨(some 37), none, (.load none (.t 36))⟩, ⟨(some 38), none, (.len false (.t 37))⟩, ⟨(some 39), none, (.bin .lss false (.t 33) (.t 38))⟩] [0, 1, 6, 7, 39]) (.cond (.t 39) .skip (.exit 0))) (.seq (.block 1 (.seq (.seq (.reg [⟨(some 42), none, (.mov (.t 1))⟩, ⟨(some 43), none, (.nilchk (.t 42))⟩, ⟨(some 44), none, (.faddr 3 (.t 43))⟩, ⟨(some 45), none, (.load none (.t 44))⟩, ⟨(some 46), none, (.mov (.t 7))⟩, ⟨(some 47), none, (.iaddrS 4 (.t 45) (.t 46))⟩, ⟨(some 48), none, (.load (some 4) (.t 47))⟩, ⟨(some 49), none, (.call (.fn 56) [(.t 48)] [])⟩, ⟨(some 50), none, (.un .not (.t 49))⟩] [0, 1, 6, 7, 50]) (.cond (.t 50) (.seq (.reg [⟨(some 4), none, (.mov (.c (.str [])))⟩, ⟨(some 5), none, (.mov (.c (.bool false)))⟩] [4, 5]) .ret) .skip)) (.reg [⟨(some 51), none, (.mov (.t 6))⟩, ⟨(some 52), none, (.mov (.t 1))⟩, ⟨(some 53), none, (.nilchk (.t 52))⟩, ⟨(some 54), none, (.faddr 3 (.t 53))⟩, ⟨(some 55), none, (.load none (.t 54))⟩, ⟨(some 56), none, (.mov (.t 7))⟩, ⟨(some 57), none, (.iaddrS 4 (.t 55) (.t 56))⟩, ⟨(some 58), none, (.load (some 4) (.t 57))⟩, ⟨(some 59), none, (.mov (.t 0))⟩, ⟨(some 60), none, (.nilchk (.t 59))⟩, ⟨(some 61), none, (.faddr 0 (.t 60))⟩, ⟨(some 62), none, (.load none (.t 61))⟩, ⟨(some 63), none, (.call (.fn 57) [(.t 58), (.t 62)] [])⟩, ⟨(some 64), none, (.bslice 1 1 (.int .i64 0) [(0, (.t 63))])⟩, ⟨(some 65), none, (.append 1 8 (.t 51) (.t 64))⟩, ⟨(some 6), none, (.mov (.t 65))⟩] [0, 1, 6, 7]))) (.reg [⟨(some 40), none, (.mov (.t 7))⟩, ⟨(some 41), none, (.bin .add false (.t 40) (.c (.int .i64 1)))⟩, ⟨(some 7), none, (.mov (.t 41))⟩] [0, 1, 6, 7])))
def ic75 : ICode := (.seq (.reg [⟨(some 4), none, (.mov (.c (.str [])))⟩, ⟨(some 5), none, (.mov (.c (.bool false)))⟩] [0, 1]) (.seq (.seq (.reg [⟨(some 8), none, (.mov (.t 1))⟩, ⟨(some 9), none, (.call (.fn 98) [(.t 8)] [])⟩, ⟨(some 10), none, (.un .not (.t 9))⟩, ⟨(some 11), none, (.mov (.t 10))⟩, ⟨(some 12), (some (11, false)), (.mov (.t 1))⟩, ⟨(some 13), (some (11, false)), (.nilchk (.t 12))⟩, ⟨(some 14), (some (11, false)), (.faddr 0 (.t 13))⟩, ⟨(some 15), (some (11, false)), (.load (some 3) (.t 14))⟩, ⟨(some 16), (some (11, false)), (.call (.fn 99) [(.t 15)] [])⟩, ⟨(some 17), (some (11, false)), (.un .not (.t 16))⟩, ⟨(some 18), none, (.pick (.t 11) (.c (.bool true)) (.t 17))⟩] [0, 1, 18]) (.cond (.t 18) (.seq (.reg [⟨(some 4), none, (.mov (.c (.str [])))⟩, ⟨(some 5), none, (.mov (.c (.bool false)))⟩] [4, 5]) .ret) .skip)) (.seq (.reg [⟨(some 19), none, (.mov (.t 1))⟩, ⟨(some 20), none, (.nilchk (.t 19))⟩, ⟨(some 21), none, (.faddr 0 (.t 20))⟩, ⟨(some 22), none, (.load (some 3) (.t 21))⟩, ⟨(some 23), none, (.mov (.t 0))⟩, ⟨(some 24), none, (.nilchk (.t 23))⟩, ⟨(some 25), none, (.faddr 2 (.t 24))⟩, ⟨(some 26), none, (.load none (.t 25))⟩, ⟨(some 27), none, (.mov (.t 0))⟩, ⟨(some 28), none, (.nilchk (.t 27))⟩, ⟨(some 29), none, (.faddr 1 (.t 28))⟩, ⟨(some 30), none, (.load none (.t 29))⟩, ⟨(some 31), none, (.call (.fn 100) [(.t 22), (.t 26), (.t 30)] [])⟩, ⟨(some 32), none, (.bslice 1 1 (.int .i64 0) [(0, (.t 31))])⟩, ⟨(some 6), none, (.mov (.t 32))⟩] [0, 1, 6]) (.seq (.seq (.reg [⟨(some 7), none, (.mov (.c (.int .i64 0)))⟩] [0, 1, 6, 7]) (.block 0 (.loop lb75_0))) (.seq (.reg [⟨(some 66), none, (.mov (.t 6))⟩, ⟨(some 67), none, (.mov (.t 0))⟩, ⟨(some 68), none, (.mov (.t 1))⟩, ⟨(some 69), none, (.nilchk (.t 68))⟩, ⟨(some 70), none, (.faddr 3 (.t 69))⟩, ⟨(some 71), none, (.load none (.t 70))⟩, ⟨(some 72), none, (.len false (.t 71))⟩, ⟨(some 73), none, (.call (.fn 95) [(.t 67), (.t 72)] [])⟩, ⟨(some 74), none, (.call (.fn 45) [(.t 66), (.t 73)] [])⟩, ⟨(some 4), none, (.mov (.t 74))⟩, ⟨(some 5), none, (.mov (.c (.bool true)))⟩] [4, 5]) .ret)))))
def cp75 : CP := CP.mk [] [] [[0, 1], [0, 1, 18], [4, 5], [0, 1, 6], [0, 1, 6, 7], [0, 1, 6, 7, 39], [0, 1, 6, 7], [0, 1, 6, 7, 50], [4, 5], [0, 1, 6, 7], [4, 5]] 75 [] []
theorem sl75_0 (x0 : (Int × Int × Nat)) (x1 : (Nat × Nat × Nat × (List (Nat × Nat × Nat × Nat)))) : ∀ (n : Nat) (z0_0 : (List Int)) (z0_1 : Int) (o : (Bool × ((List UInt8) × Bool) × (List Int))) (K : IExit → St → Prop), l_spec_l06Pose_0 x0 x1 n z0_0 z0_1 = some o → (∀ st, o.1 = true → outM .any st [(.t 4), (.t 5)] = some (AV.tup [(.str o.2.1.1), (.bool o.2.1.2)]) → K .ret st) → (∀ st, o.1 = false → Wk st (⟨[(0, (.ptr (AV.agg [(.int .i64 x0.1), (.int .i64 x0.2.1), (.flt .f32 x0.2.2)]) 0)), (1, (.ptr (AV.agg [(.flt .f32 x1.1), (.flt .f32 x1.2.1), (.flt .f32 x1.2.2.1), (.sl (List.map en0 x1.2.2.2))]) 0)), (6, (.lsl 32 0 (List.length o.2.2)))], [(32, (some ⟨1, true, (List.map (AV.int .i64) o.2.2)⟩))]⟩ : St) → K (.exit 0) st) → eA (tabOf [(45, wM .any g_spec_l06Bytes), (56, wM .any g_spec_l06Turn), (57, wM .any g_spec_l06Pack), (95, wM (.own [1]) g_spec_l06Parts), (98, wM .any g_spec_l03Few), (99, wM .any g_spec_l06Vector), (100, wM .any g_spec_l06PackVector)]) (.loop lb75_0) (⟨[(0, (.ptr (AV.agg [(.int .i64 x0.1), (.int .i64 x0.2.1), (.flt .f32 x0.2.2)]) 0)), (1, (.ptr (AV.agg [(.flt .f32 x1.1), (.flt .f32 x1.2.1), (.flt .f32 x1.2.2.1), (.sl (List.map en0 x1.2.2.2))]) 0)), (6, (.lsl 32 0 (List.length z0_0))), (7, (.int .i64 z0_1))], [(32, (some ⟨1, true, (List.map (AV.int .i64) z0_0)⟩))]⟩ : St) K := by
  intro n
  induction n with
  | zero =>
    intro z0_0 z0_1 o K h h0 h1
    simp only [l_spec_l06Pose_0, reduceCtorEq] at h
  | succ n ih =>
    intro z0_0 z0_1 o K h h0 h1
    refine eA_loop ?_
    unfold lb75_0
    unfold l_spec_l06Pose_0 at h
    (try simp only [need_iff] at h)
    simp only [
      need_iff, h, grpA, vsliceS, grpS, grpD, grpF, grpL, eop, vop, bop, uop, fltop, convop, endOk, newE, new1, freshL, Md.isNew, outV, pureV, pureX, pure1, AV.cells, AV.one, storable, laid, refless, refless1, vload, loadC, storeC, vnil, vfaddr, vextract, flatT, flatE, flatC, vconv, vmm, vidxA, viaddrA, vfield, vlen, elemsOf, dF32, dF64, dI64, dU8, dBool, dStr, esOk, elemsS, vsliceX, bnd, ownV, ownC, own1, ownT, isSl, nSl, endL, Md.isOwn, purge, purgeH, purgeB, purgeE, hasName, name1, List.any_cons, List.any_nil, Md.isWr, pureV.pureP, Option.map, reduceIte, Nat.reduceEqDiff, Nat.reduceAdd, Nat.reduceMul, Nat.reduceLT, Nat.reduceLeDiff, List.mapM_cons, List.mapM_nil, Option.pure_def, Option.bind_eq_bind, Option.bind_some, implies_true, forall_const, beq_self_eq_true, decide_true, decide_false, eq_self, Int.reduceEq, Int.reduceLE, Int.reduceLT, if_true, if_false, grpK, Int.reduceAdd, Int.reduceSub, Int.reduceMul, Int.reduceNeg, Int.reducePow, Nat.reducePow, Int.reduceToNat, Nat.reduceSub, List.replicate, Nat.reduceBEq, wAs, wA, wC, zipW, noDupN, grpE, beq_true, beq_false, g_spec_l06Bytes, g_spec_l06Turn, g_spec_l06Pack, g_spec_l06Parts, g_spec_l03Few, g_spec_l06Vector, g_spec_l06PackVector, grpC, en0, dc_en0, ↓b_pick, ePk_true, ePk_false]
    repeat' (first
      | ((first | (refine eGI_of (fun hc => ?_) (fun hc => ?_)) | (refine eCc_of (fun hc => ?_) (fun hc => ?_)) | (refine ePk_of (fun hc => ?_) (fun hc => ?_)) | (have hc := True.intro; refine KW_refl ?_)) <;> (try simp only [Bool.not_eq_true', Bool.not_eq_false'] at hc) <;> (try simp only [hc, need_iff, reduceCtorEq, grpN, Int.reduceEq, Int.reduceLT, Int.reduceLE, if_true, if_false, reduceIte] at h) <;> (first | (have hc2 := hc; simp only [decide_eq_true_eq, decide_eq_false_iff_not] at hc2; (first | (replace hc2 := eq_false hc2) | (replace hc2 := eq_true hc2)); (try simp only [hc2, need_iff, reduceCtorEq, grpN, Int.reduceEq, Int.reduceLT, Int.reduceLE, if_true, if_false, reduceIte] at h); replace h := And.intro hc2 h) | (replace h := And.intro hc h) | skip) <;> simp only [hc,
      need_iff, h, grpA, vsliceS, grpS, grpD, grpF, grpL, eop, vop, bop, uop, fltop, convop, endOk, newE, new1, freshL, Md.isNew, outV, pureV, pureX, pure1, AV.cells, AV.one, storable, laid, refless, refless1, vload, loadC, storeC, vnil, vfaddr, vextract, flatT, flatE, flatC, vconv, vmm, vidxA, viaddrA, vfield, vlen, elemsOf, dF32, dF64, dI64, dU8, dBool, dStr, esOk, elemsS, vsliceX, bnd, ownV, ownC, own1, ownT, isSl, nSl, endL, Md.isOwn, purge, purgeH, purgeB, purgeE, hasName, name1, List.any_cons, List.any_nil, Md.isWr, pureV.pureP, Option.map, reduceIte, Nat.reduceEqDiff, Nat.reduceAdd, Nat.reduceMul, Nat.reduceLT, Nat.reduceLeDiff, List.mapM_cons, List.mapM_nil, Option.pure_def, Option.bind_eq_bind, Option.bind_some, implies_true, forall_const, beq_self_eq_true, decide_true, decide_false, eq_self, Int.reduceEq, Int.reduceLE, Int.reduceLT, if_true, if_false, grpK, Int.reduceAdd, Int.reduceSub, Int.reduceMul, Int.reduceNeg, Int.reducePow, Nat.reducePow, Int.reduceToNat, Nat.reduceSub, List.replicate, Nat.reduceBEq, wAs, wA, wC, zipW, noDupN, grpE, beq_true, beq_false, g_spec_l06Bytes, g_spec_l06Turn, g_spec_l06Pack, g_spec_l06Parts, g_spec_l03Few, g_spec_l06Vector, g_spec_l06PackVector, grpC, en0, dc_en0, ↓b_pick, ePk_true, ePk_false]))
    all_goals (have hf := h)
    all_goals (repeat (replace h := And.right h))
    all_goals ((first | (refine eA_wk (wk_norm (ks := [0, 1, 6, 7]) (ls := [32]) ?_) (eA_cast ?_ (ih _ _ _ _ h h0 h1))) | (cases h; have h := True.intro; refine h0 _ rfl ?_) | (cases h; have h := True.intro; refine h1 _ rfl (Wk.cast (wk_norm (ks := [0, 1, 6]) (ls := [32]) ?_) ?_))) <;> simp only [normOk, optIn, blkIn, nameIn, normS, List.map_append, List.length_append, List.map_set, List.length_set, List.map_replicate, List.length_replicate, List.map_nil, List.map_cons,
      need_iff, h, hf, grpA, vsliceS, grpS, grpD, grpF, grpL, eop, vop, bop, uop, fltop, convop, endOk, newE, new1, freshL, Md.isNew, outV, pureV, pureX, pure1, AV.cells, AV.one, storable, laid, refless, refless1, vload, loadC, storeC, vnil, vfaddr, vextract, flatT, flatE, flatC, vconv, vmm, vidxA, viaddrA, vfield, vlen, elemsOf, dF32, dF64, dI64, dU8, dBool, dStr, esOk, elemsS, vsliceX, bnd, ownV, ownC, own1, ownT, isSl, nSl, endL, Md.isOwn, purge, purgeH, purgeB, purgeE, hasName, name1, List.any_cons, List.any_nil, Md.isWr, pureV.pureP, Option.map, reduceIte, Nat.reduceEqDiff, Nat.reduceAdd, Nat.reduceMul, Nat.reduceLT, Nat.reduceLeDiff, List.mapM_cons, List.mapM_nil, Option.pure_def, Option.bind_eq_bind, Option.bind_some, implies_true, forall_const, beq_self_eq_true, decide_true, decide_false, eq_self, Int.reduceEq, Int.reduceLE, Int.reduceLT, if_true, if_false, grpK, Int.reduceAdd, Int.reduceSub, Int.reduceMul, Int.reduceNeg, Int.reducePow, Nat.reducePow, Int.reduceToNat, Nat.reduceSub, List.replicate, Nat.reduceBEq, wAs, wA, wC, zipW, noDupN, grpE, beq_true, beq_false, g_spec_l06Bytes, g_spec_l06Turn, g_spec_l06Pack, g_spec_l06Parts, g_spec_l03Few, g_spec_l06Vector, g_spec_l06PackVector, grpC, en0, dc_en0, ↓b_pick, ePk_true, ePk_false] <;> first | rfl | (simp only [Nat.add_comm]; done))
theorem s75 : ∀ vs r, g_spec_l06Pose vs = some r → SaysM Try.prog .any 75 vs r := by
  intro vs r h
  unfold g_spec_l06Pose at h
  split at h
  · rename_i y0 y1 y2 y3 y4 y5 w6
    cases hd_y6 : decL dc_en0 w6 with
    | none => rw [hd_y6] at h; cases h
    | some y6 =>
    rw [hd_y6] at h
    obtain rfl := decL_inv dc_en0_inv hd_y6
    clear hd_y6
    dsimp only at h
    split at h
    · rename_i hp
      cases h
      refine spec_of (m := .any) (tab := tabOf [(45, wM .any g_spec_l06Bytes), (56, wM .any g_spec_l06Turn), (57, wM .any g_spec_l06Pack), (95, wM (.own [1]) g_spec_l06Parts), (98, wM .any g_spec_l03Few), (99, wM .any g_spec_l06Vector), (100, wM .any g_spec_l06PackVector)]) (cp := cp75) (ic := ic75) (rvl := [(.t 4), (.t 5)]) hm (tabOk_cons (m := .any) s45 (tabOk_cons (m := .any) s56 (tabOk_cons (m := .any) s57 (tabOk_cons (m := (.own [1])) s95 (tabOk_cons (m := .any) s98 (tabOk_cons (m := .any) s99 (tabOk_cons (m := .any) s100 tabOk_nil))))))) Try.func75 rfl rfl rfl (by kernel_rfl) rfl (Nat.le_of_ble_eq_true rfl) (Nat.le_of_ble_eq_true rfl) ?_
      show eA _ _ _ _
      unfold ic75
      simp only [p_spec_l06Pose, Bool.and_eq_true, Bool.or_eq_true, decide_eq_true_eq, Bool.not_eq_true', decide_eq_false_iff_not] at hp
      refine eS_to ?_
      repeat' (first
        | ((first | (have h := True.intro; refine eS_of ?_) | (refine eGI_of (fun h => ?_) (fun h => ?_)) | (refine eCc_of (fun h => ?_) (fun h => ?_)) | (refine ePk_of (fun h => ?_) (fun h => ?_)) | (have h := True.intro; refine KW_refl ?_)) <;> (try simp only [Bool.not_eq_true', Bool.not_eq_false'] at h) <;> (try first | exact absurd (Eq.trans (Eq.symm h) (by assumption)) Bool.false_ne_true | exact absurd (Eq.trans (Eq.symm h) (by assumption)) (Ne.symm Bool.false_ne_true)) <;> (try simp only [h, reduceCtorEq, grpN, Int.reduceEq, Int.reduceLT, Int.reduceLE, if_true, if_false, reduceIte] at hp) <;> (first | (have h2 := h; simp only [decide_eq_true_eq, decide_eq_false_iff_not] at h2; (first | (replace h2 := eq_false h2) | (replace h2 := eq_true h2)); (try simp only [h2, reduceCtorEq, grpN, Int.reduceEq, Int.reduceLT, Int.reduceLE, if_true, if_false, reduceIte] at hp); replace hp := And.intro h2 hp) | (replace hp := And.intro h hp) | skip) <;> simp only [h,
          hp, grpA, vsliceS, grpS, grpD, grpF, grpL, eop, vop, bop, uop, fltop, convop, endOk, newE, new1, freshL, Md.isNew, outV, pureV, pureX, pure1, AV.cells, AV.one, storable, laid, refless, refless1, vload, loadC, storeC, vnil, vfaddr, vextract, flatT, flatE, flatC, vconv, vmm, vidxA, viaddrA, vfield, vlen, elemsOf, dF32, dF64, dI64, dU8, dBool, dStr, esOk, elemsS, vsliceX, bnd, ownV, ownC, own1, ownT, isSl, nSl, endL, Md.isOwn, purge, purgeH, purgeB, purgeE, hasName, name1, List.any_cons, List.any_nil, Md.isWr, pureV.pureP, Option.map, reduceIte, Nat.reduceEqDiff, Nat.reduceAdd, Nat.reduceMul, Nat.reduceLT, Nat.reduceLeDiff, List.mapM_cons, List.mapM_nil, Option.pure_def, Option.bind_eq_bind, Option.bind_some, implies_true, forall_const, beq_self_eq_true, decide_true, decide_false, eq_self, Int.reduceEq, Int.reduceLE, Int.reduceLT, if_true, if_false, grpK, Int.reduceAdd, Int.reduceSub, Int.reduceMul, Int.reduceNeg, Int.reducePow, Nat.reducePow, Int.reduceToNat, Nat.reduceSub, List.replicate, Nat.reduceBEq, wAs, wA, wC, zipW, noDupN, grpE, beq_true, beq_false, g_spec_l06Bytes, g_spec_l06Turn, g_spec_l06Pack, g_spec_l06Parts, g_spec_l03Few, g_spec_l06Vector, g_spec_l06PackVector, grpC, en0, dc_en0, ↓b_pick, ePk_true, ePk_false])
        | (refine eA_wk (wk_norm (ks := [0, 1, 6, 7]) (ls := [32]) ?_) (eA_cast ?_ (sl75_0 (y0, y1, y2) (y3, y4, y5, y6) _ _ _ _ _ (getD_some (d := default) (x := (l_spec_l06Pose_0 (y0, y1, y2) (y3, y4, y5, y6) (Int.toNat (((List.length (y3, y4, y5, y6).2.2.2 : Nat) : Int) - 0) + 2) [(m_spec_l06PackVector ((y3, y4, y5, y6).1, (y3, y4, y5, y6).2.1, (y3, y4, y5, y6).2.2.1) (y0, y1, y2).2.2 (y0, y1, y2).2.1)] 0)) ?_) ?_ ?_)); (iterate 2 (simp only [nilS, nilV, normOk, optIn, blkIn, nameIn, normS, List.map_append, List.length_append, List.map_set, List.length_set, List.map_replicate, List.length_replicate, List.map_nil, List.map_cons,
          hp, grpA, vsliceS, grpS, grpD, grpF, grpL, eop, vop, bop, uop, fltop, convop, endOk, newE, new1, freshL, Md.isNew, outV, pureV, pureX, pure1, AV.cells, AV.one, storable, laid, refless, refless1, vload, loadC, storeC, vnil, vfaddr, vextract, flatT, flatE, flatC, vconv, vmm, vidxA, viaddrA, vfield, vlen, elemsOf, dF32, dF64, dI64, dU8, dBool, dStr, esOk, elemsS, vsliceX, bnd, ownV, ownC, own1, ownT, isSl, nSl, endL, Md.isOwn, purge, purgeH, purgeB, purgeE, hasName, name1, List.any_cons, List.any_nil, Md.isWr, pureV.pureP, Option.map, reduceIte, Nat.reduceEqDiff, Nat.reduceAdd, Nat.reduceMul, Nat.reduceLT, Nat.reduceLeDiff, List.mapM_cons, List.mapM_nil, Option.pure_def, Option.bind_eq_bind, Option.bind_some, implies_true, forall_const, beq_self_eq_true, decide_true, decide_false, eq_self, Int.reduceEq, Int.reduceLE, Int.reduceLT, if_true, if_false, grpK, Int.reduceAdd, Int.reduceSub, Int.reduceMul, Int.reduceNeg, Int.reducePow, Nat.reducePow, Int.reduceToNat, Nat.reduceSub, List.replicate, Nat.reduceBEq, wAs, wA, wC, zipW, noDupN, grpE, beq_true, beq_false, g_spec_l06Bytes, g_spec_l06Turn, g_spec_l06Pack, g_spec_l06Parts, g_spec_l03Few, g_spec_l06Vector, g_spec_l06PackVector, grpC, en0, dc_en0, ↓b_pick, ePk_true, ePk_false] <;> first | rfl | (simp only [Nat.add_comm]; done))); (simp only [hp]); (
        intro st2 ht hw; simp only [Kq_ret, Kb_ret, Kl_ret, ret_ok]; first | exact h0 _ hw | exact h0 _ rfl hw | exact h1 _ rfl hw | exact h0 _ ht hw | exact h1 _ ht hw | (simp only [ht, need_iff, reduceCtorEq, grpN, Int.reduceEq, Int.reduceLT, Int.reduceLE, if_true, if_false, reduceIte] at h; (repeat (replace h := And.right h)); cases h; first | exact h0 _ hw | exact h0 _ rfl hw | exact h1 _ rfl hw) | refine ⟨_, hw, ?_⟩); rotate_left; (
        intro st2 ht hw; (try simp only [ht, reduceCtorEq, grpN, Int.reduceEq, Int.reduceLT, Int.reduceLE, if_true, if_false, reduceIte] at hp); (try replace hp := And.intro ht hp); simp only [
Kq_exit, Kq_normal, Kq_ret, Kb_exit, Kb_normal, Kb_ret, Kl_exit, Kl_normal, Kl_ret, reduceIte, Nat.reduceEqDiff, if_true, if_false, eq_self]; refine KW_of hw ?_; simp only [ht, 
          hp, grpA, vsliceS, grpS, grpD, grpF, grpL, eop, vop, bop, uop, fltop, convop, endOk, newE, new1, freshL, Md.isNew, outV, pureV, pureX, pure1, AV.cells, AV.one, storable, laid, refless, refless1, vload, loadC, storeC, vnil, vfaddr, vextract, flatT, flatE, flatC, vconv, vmm, vidxA, viaddrA, vfield, vlen, elemsOf, dF32, dF64, dI64, dU8, dBool, dStr, esOk, elemsS, vsliceX, bnd, ownV, ownC, own1, ownT, isSl, nSl, endL, Md.isOwn, purge, purgeH, purgeB, purgeE, hasName, name1, List.any_cons, List.any_nil, Md.isWr, pureV.pureP, Option.map, reduceIte, Nat.reduceEqDiff, Nat.reduceAdd, Nat.reduceMul, Nat.reduceLT, Nat.reduceLeDiff, List.mapM_cons, List.mapM_nil, Option.pure_def, Option.bind_eq_bind, Option.bind_some, implies_true, forall_const, beq_self_eq_true, decide_true, decide_false, eq_self, Int.reduceEq, Int.reduceLE, Int.reduceLT, if_true, if_false, grpK, Int.reduceAdd, Int.reduceSub, Int.reduceMul, Int.reduceNeg, Int.reducePow, Nat.reducePow, Int.reduceToNat, Nat.reduceSub, List.replicate, Nat.reduceBEq, wAs, wA, wC, zipW, noDupN, grpE, beq_true, beq_false, g_spec_l06Bytes, g_spec_l06Turn, g_spec_l06Pack, g_spec_l06Parts, g_spec_l03Few, g_spec_l06Vector, g_spec_l06PackVector, grpC, en0, dc_en0, ↓b_pick, ePk_true, ePk_false])))
      all_goals (try simp only [*, m_spec_l06Pose, Bool.and_true, Bool.true_and, Bool.and_false, Bool.false_and, Bool.or_true, Bool.true_or, Bool.or_false, Bool.false_or, Bool.not_true, Bool.not_false, Bool.false_eq_true, if_true, if_false, reduceIte, decide_true, decide_false])
      all_goals (try (simp_all; done))
    · cases h
  · cases h
def m_spec_PackPose (x0 : (Int × Int × Nat)) (x1 : (Nat × Nat × Nat × (List (Nat × Nat × Nat × Nat)))) : ((List UInt8) × Bool) := (if (m_spec_l06Is x0) = true then (m_spec_l06Pose x0 x1) else (([] : List UInt8), false))
def p_spec_PackPose (x0 : (Int × Int × Nat)) (x1 : (Nat × Nat × Nat × (List (Nat × Nat × Nat × Nat)))) : Bool := (!(m_spec_l06Is x0) || (p_spec_l06Pose x0 x1))
def g_spec_PackPose : List AV → Option AV
  | [.agg [.int .i64 y0, .int .i64 y1, .flt .f32 y2], .agg [.flt .f32 y3, .flt .f32 y4, .flt .f32 y5, .sl w6]] => (match decL dc_en0 w6 with | some y6 => (if p_spec_PackPose (y0, y1, y2) (y3, y4, y5, y6) = true then some (AV.tup [(.str (m_spec_PackPose (y0, y1, y2) (y3, y4, y5, y6)).1), (.bool (m_spec_PackPose (y0, y1, y2) (y3, y4, y5, y6)).2)]) else none) | none => none)
  | _ => none
def ic34 : ICode := (.seq (.reg [⟨(some 2), none, (.box 3 (.t 0))⟩, ⟨(some 3), none, (.box 4 (.t 1))⟩, ⟨(some 4), none, (.mov (.c (.str [])))⟩, ⟨(some 5), none, (.mov (.c (.bool false)))⟩] [2, 3]) (.seq (.seq (.reg [⟨(some 6), none, (.call (.fn 63) [(.t 2)] [])⟩, ⟨(some 7), none, (.un .not (.t 6))⟩] [2, 3, 7]) (.cond (.t 7) (.seq (.reg [⟨(some 4), none, (.mov (.c (.str [])))⟩, ⟨(some 5), none, (.mov (.c (.bool false)))⟩] [4, 5]) .ret) .skip)) (.seq (.reg [⟨(some 8), none, (.call (.fn 75) [(.t 2), (.t 3)] [])⟩, ⟨(some 9), none, (.extract (.t 8) 0)⟩, ⟨(some 10), none, (.extract (.t 8) 1)⟩, ⟨(some 4), none, (.mov (.t 9))⟩, ⟨(some 5), none, (.mov (.t 10))⟩] [4, 5]) .ret)))
def cp34 : CP := CP.mk [] [] [[2, 3], [2, 3, 7], [4, 5], [4, 5]] 11 [] []
theorem s34 : ∀ vs r, g_spec_PackPose vs = some r → SaysM Try.prog .any 34 vs r := by
  intro vs r h
  unfold g_spec_PackPose at h
  split at h
  · rename_i y0 y1 y2 y3 y4 y5 w6
    cases hd_y6 : decL dc_en0 w6 with
    | none => rw [hd_y6] at h; cases h
    | some y6 =>
    rw [hd_y6] at h
    obtain rfl := decL_inv dc_en0_inv hd_y6
    clear hd_y6
    dsimp only at h
    split at h
    · rename_i hp
      cases h
      refine spec_of (m := .any) (tab := tabOf [(63, wM .any g_spec_l06Is), (75, wM .any g_spec_l06Pose)]) (cp := cp34) (ic := ic34) (rvl := [(.t 4), (.t 5)]) hm (tabOk_cons (m := .any) s63 (tabOk_cons (m := .any) s75 tabOk_nil)) Try.func34 rfl rfl rfl (by kernel_rfl) rfl (Nat.le_of_ble_eq_true rfl) (Nat.le_of_ble_eq_true rfl) ?_
      show eA _ _ _ _
      unfold ic34
      simp only [p_spec_PackPose, Bool.and_eq_true, Bool.or_eq_true, decide_eq_true_eq, Bool.not_eq_true', decide_eq_false_iff_not] at hp
      refine eS_to ?_
      repeat' (first
        | ((first | (have h := True.intro; refine eS_of ?_) | (refine eGI_of (fun h => ?_) (fun h => ?_)) | (refine eCc_of (fun h => ?_) (fun h => ?_))) <;> (try simp only [Bool.not_eq_true', Bool.not_eq_false'] at h) <;> (try first | exact absurd (Eq.trans (Eq.symm h) (by assumption)) Bool.false_ne_true | exact absurd (Eq.trans (Eq.symm h) (by assumption)) (Ne.symm Bool.false_ne_true)) <;> (try simp only [h, reduceCtorEq, grpN, Int.reduceEq, Int.reduceLT, Int.reduceLE, if_true, if_false, reduceIte] at hp) <;> (first | (have h2 := h; simp only [decide_eq_true_eq, decide_eq_false_iff_not] at h2; (first | (replace h2 := eq_false h2) | (replace h2 := eq_true h2)); (try simp only [h2, reduceCtorEq, grpN, Int.reduceEq, Int.reduceLT, Int.reduceLE, if_true, if_false, reduceIte] at hp); replace hp := And.intro h2 hp) | (replace hp := And.intro h hp) | skip) <;> simp only [h,
          hp, grpA, vsliceS, grpS, grpD, grpF, grpL, eop, vop, bop, uop, fltop, convop, endOk, newE, new1, freshL, Md.isNew, outV, pureV, pureX, pure1, AV.cells, AV.one, storable, laid, refless, refless1, vload, loadC, storeC, vnil, vfaddr, vextract, flatT, flatE, flatC, vconv, vmm, vidxA, viaddrA, vfield, vlen, elemsOf, dF32, dF64, dI64, dU8, dBool, dStr, esOk, elemsS, vsliceX, bnd, ownV, ownC, own1, ownT, isSl, nSl, endL, Md.isOwn, purge, purgeH, purgeB, purgeE, hasName, name1, List.any_cons, List.any_nil, Md.isWr, pureV.pureP, Option.map, reduceIte, Nat.reduceEqDiff, Nat.reduceAdd, Nat.reduceMul, Nat.reduceLT, Nat.reduceLeDiff, List.mapM_cons, List.mapM_nil, Option.pure_def, Option.bind_eq_bind, Option.bind_some, implies_true, forall_const, beq_self_eq_true, decide_true, decide_false, eq_self, Int.reduceEq, Int.reduceLE, Int.reduceLT, if_true, if_false, grpK, Int.reduceAdd, Int.reduceSub, Int.reduceMul, Int.reduceNeg, Int.reducePow, Nat.reducePow, Int.reduceToNat, Nat.reduceSub, List.replicate, Nat.reduceBEq, wAs, wA, wC, zipW, noDupN, grpE, beq_true, beq_false, g_spec_l06Is, g_spec_l06Pose, grpC, en0, dc_en0]))
      all_goals (try simp only [*, m_spec_PackPose, Bool.and_true, Bool.true_and, Bool.and_false, Bool.false_and, Bool.or_true, Bool.true_or, Bool.or_false, Bool.false_or, Bool.not_true, Bool.not_false, Bool.false_eq_true, if_true, if_false, reduceIte, decide_true, decide_false])
      all_goals (try (simp_all; done))
    · cases h
  · cases h
def m_impl_areBits (x0 : Int) : Bool := (if (decide (2 ≤ x0)) = true then (decide (x0 ≤ 16)) else false)
def g_impl_areBits : List AV → Option AV
  | [.int .i64 y0] => some (.bool (m_impl_areBits y0))
  | _ => none
def ic49 : ICode := (.seq (.reg [⟨(some 2), none, (.mov (.c (.bool false)))⟩] [0]) (.seq (.reg [⟨(some 3), none, (.mov (.t 0))⟩, ⟨(some 4), none, (.bin .geq false (.t 3) (.c (.int .i64 2)))⟩, ⟨(some 5), none, (.mov (.t 4))⟩, ⟨(some 6), (some (5, true)), (.mov (.t 0))⟩, ⟨(some 7), (some (5, true)), (.bin .leq false (.t 6) (.c (.int .i64 16)))⟩, ⟨(some 8), none, (.pick (.t 5) (.t 7) (.c (.bool false)))⟩, ⟨(some 2), none, (.mov (.t 8))⟩] [2]) .ret))
def cp49 : CP := CP.mk [] [] [[0], [2]] 9 [] []
theorem s49 : ∀ vs r, g_impl_areBits vs = some r → SaysM Try.prog .any 49 vs r := by
  intro vs r h
  unfold g_impl_areBits at h
  split at h
  · rename_i y0
    cases h
    refine spec_of (m := .any) (tab := tabOf []) (cp := cp49) (ic := ic49) (rvl := [(.t 2)]) hm tabOk_nil Try.func49 rfl rfl rfl (by kernel_rfl) rfl (Nat.le_of_ble_eq_true rfl) (Nat.le_of_ble_eq_true rfl) ?_
    show eA _ _ _ _
    unfold ic49
    refine eS_to ?_
    repeat' (first
      | ((first | (have h := True.intro; refine eS_of ?_) | (refine eGI_of (fun h => ?_) (fun h => ?_)) | (refine eCc_of (fun h => ?_) (fun h => ?_)) | (refine ePk_of (fun h => ?_) (fun h => ?_))) <;> (try simp only [Bool.not_eq_true', Bool.not_eq_false'] at h) <;> (try first | exact absurd (Eq.trans (Eq.symm h) (by assumption)) Bool.false_ne_true | exact absurd (Eq.trans (Eq.symm h) (by assumption)) (Ne.symm Bool.false_ne_true)) <;> simp only [h,
        grpA, vsliceS, grpS, grpD, grpF, grpL, eop, vop, bop, uop, fltop, convop, endOk, newE, new1, freshL, Md.isNew, outV, pureV, pureX, pure1, AV.cells, AV.one, storable, laid, refless, refless1, vload, loadC, storeC, vnil, vfaddr, vextract, flatT, flatE, flatC, vconv, vmm, vidxA, viaddrA, vfield, vlen, elemsOf, dF32, dF64, dI64, dU8, dBool, dStr, esOk, elemsS, vsliceX, bnd, ownV, ownC, own1, ownT, isSl, nSl, endL, Md.isOwn, purge, purgeH, purgeB, purgeE, hasName, name1, List.any_cons, List.any_nil, Md.isWr, pureV.pureP, Option.map, reduceIte, Nat.reduceEqDiff, Nat.reduceAdd, Nat.reduceMul, Nat.reduceLT, Nat.reduceLeDiff, List.mapM_cons, List.mapM_nil, Option.pure_def, Option.bind_eq_bind, Option.bind_some, implies_true, forall_const, beq_self_eq_true, decide_true, decide_false, eq_self, Int.reduceEq, Int.reduceLE, Int.reduceLT, if_true, if_false, grpK, Int.reduceAdd, Int.reduceSub, Int.reduceMul, Int.reduceNeg, Int.reducePow, Nat.reducePow, Int.reduceToNat, Nat.reduceSub, List.replicate, Nat.reduceBEq, wAs, wA, wC, zipW, noDupN, grpE, beq_true, beq_false, grpC, en0, dc_en0, ↓b_pick, ePk_true, ePk_false]))
    all_goals (try simp only [*, m_impl_areBits, Bool.and_true, Bool.true_and, Bool.and_false, Bool.false_and, Bool.or_true, Bool.true_or, Bool.or_false, Bool.false_or, Bool.not_true, Bool.not_false, Bool.false_eq_true, if_true, if_false, reduceIte, decide_true, decide_false])
    all_goals (try (simp_all; done))
  · cases h
def m_impl_IsFinite (x0 : Nat) : Bool := (feq .f32 (fsub .f32 x0 x0) 0)
def g_impl_IsFinite : List AV → Option AV
  | [.flt .f32 y0] => some (.bool (m_impl_IsFinite y0))
  | _ => none
def ic60 : ICode := (.seq (.reg [⟨(some 2), none, (.mov (.c (.bool false)))⟩] [0]) (.seq (.reg [⟨(some 3), none, (.mov (.t 0))⟩, ⟨(some 4), none, (.mov (.t 0))⟩, ⟨(some 5), none, (.bin .sub false (.t 3) (.t 4))⟩, ⟨(some 6), none, (.bin .eql false (.t 5) (.c (.flt .f32 0)))⟩, ⟨(some 2), none, (.mov (.t 6))⟩] [2]) .ret))
def cp60 : CP := CP.mk [] [] [[0], [2]] 7 [] []
theorem s60 : ∀ vs r, g_impl_IsFinite vs = some r → SaysM Try.prog .any 60 vs r := by
  intro vs r h
  unfold g_impl_IsFinite at h
  split at h
  · rename_i y0
    cases h
    refine spec_of (m := .any) (tab := tabOf []) (cp := cp60) (ic := ic60) (rvl := [(.t 2)]) hm tabOk_nil Try.func60 rfl rfl rfl (by kernel_rfl) rfl (Nat.le_of_ble_eq_true rfl) (Nat.le_of_ble_eq_true rfl) ?_
    show eA _ _ _ _
    unfold ic60
    simp only [
        grpA, vsliceS, grpS, grpD, grpF, grpL, eop, vop, bop, uop, fltop, convop, endOk, newE, new1, freshL, Md.isNew, outV, pureV, pureX, pure1, AV.cells, AV.one, storable, laid, refless, refless1, vload, loadC, storeC, vnil, vfaddr, vextract, flatT, flatE, flatC, vconv, vmm, vidxA, viaddrA, vfield, vlen, elemsOf, dF32, dF64, dI64, dU8, dBool, dStr, esOk, elemsS, vsliceX, bnd, ownV, ownC, own1, ownT, isSl, nSl, endL, Md.isOwn, purge, purgeH, purgeB, purgeE, hasName, name1, List.any_cons, List.any_nil, Md.isWr, pureV.pureP, Option.map, reduceIte, Nat.reduceEqDiff, Nat.reduceAdd, Nat.reduceMul, Nat.reduceLT, Nat.reduceLeDiff, List.mapM_cons, List.mapM_nil, Option.pure_def, Option.bind_eq_bind, Option.bind_some, implies_true, forall_const, beq_self_eq_true, decide_true, decide_false, eq_self, Int.reduceEq, Int.reduceLE, Int.reduceLT, if_true, if_false, grpK, Int.reduceAdd, Int.reduceSub, Int.reduceMul, Int.reduceNeg, Int.reducePow, Nat.reducePow, Int.reduceToNat, Nat.reduceSub, List.replicate, Nat.reduceBEq, wAs, wA, wC, zipW, noDupN, grpE, beq_true, beq_false, grpC, en0, dc_en0]
    all_goals (try simp only [*, m_impl_IsFinite, Bool.and_true, Bool.true_and, Bool.and_false, Bool.false_and, Bool.or_true, Bool.true_or, Bool.or_false, Bool.false_or, Bool.not_true, Bool.not_false, Bool.false_eq_true, if_true, if_false, reduceIte, decide_true, decide_false])
    all_goals (try (simp_all; done))
  · cases h
def m_impl_isPositive (x0 : Nat) : Bool := (if (m_impl_IsFinite x0) = true then (flt .f32 0 x0) else false)
def g_impl_isPositive : List AV → Option AV
  | [.flt .f32 y0] => some (.bool (m_impl_isPositive y0))
  | _ => none
def ic97 : ICode := (.seq (.reg [⟨(some 2), none, (.mov (.c (.bool false)))⟩] [0]) (.seq (.reg [⟨(some 3), none, (.mov (.t 0))⟩, ⟨(some 4), none, (.call (.fn 60) [(.t 3)] [])⟩, ⟨(some 5), none, (.mov (.t 4))⟩, ⟨(some 6), (some (5, true)), (.mov (.t 0))⟩, ⟨(some 7), (some (5, true)), (.bin .gtr false (.t 6) (.c (.flt .f32 0)))⟩, ⟨(some 8), none, (.pick (.t 5) (.t 7) (.c (.bool false)))⟩, ⟨(some 2), none, (.mov (.t 8))⟩] [2]) .ret))
def cp97 : CP := CP.mk [] [] [[0], [2]] 9 [] []
theorem s97 : ∀ vs r, g_impl_isPositive vs = some r → SaysM Try.prog .any 97 vs r := by
  intro vs r h
  unfold g_impl_isPositive at h
  split at h
  · rename_i y0
    cases h
    refine spec_of (m := .any) (tab := tabOf [(60, wM .any g_impl_IsFinite)]) (cp := cp97) (ic := ic97) (rvl := [(.t 2)]) hm (tabOk_cons (m := .any) s60 tabOk_nil) Try.func97 rfl rfl rfl (by kernel_rfl) rfl (Nat.le_of_ble_eq_true rfl) (Nat.le_of_ble_eq_true rfl) ?_
    show eA _ _ _ _
    unfold ic97
    refine eS_to ?_
    repeat' (first
      | ((first | (have h := True.intro; refine eS_of ?_) | (refine eGI_of (fun h => ?_) (fun h => ?_)) | (refine eCc_of (fun h => ?_) (fun h => ?_)) | (refine ePk_of (fun h => ?_) (fun h => ?_))) <;> (try simp only [Bool.not_eq_true', Bool.not_eq_false'] at h) <;> (try first | exact absurd (Eq.trans (Eq.symm h) (by assumption)) Bool.false_ne_true | exact absurd (Eq.trans (Eq.symm h) (by assumption)) (Ne.symm Bool.false_ne_true)) <;> simp only [h,
        grpA, vsliceS, grpS, grpD, grpF, grpL, eop, vop, bop, uop, fltop, convop, endOk, newE, new1, freshL, Md.isNew, outV, pureV, pureX, pure1, AV.cells, AV.one, storable, laid, refless, refless1, vload, loadC, storeC, vnil, vfaddr, vextract, flatT, flatE, flatC, vconv, vmm, vidxA, viaddrA, vfield, vlen, elemsOf, dF32, dF64, dI64, dU8, dBool, dStr, esOk, elemsS, vsliceX, bnd, ownV, ownC, own1, ownT, isSl, nSl, endL, Md.isOwn, purge, purgeH, purgeB, purgeE, hasName, name1, List.any_cons, List.any_nil, Md.isWr, pureV.pureP, Option.map, reduceIte, Nat.reduceEqDiff, Nat.reduceAdd, Nat.reduceMul, Nat.reduceLT, Nat.reduceLeDiff, List.mapM_cons, List.mapM_nil, Option.pure_def, Option.bind_eq_bind, Option.bind_some, implies_true, forall_const, beq_self_eq_true, decide_true, decide_false, eq_self, Int.reduceEq, Int.reduceLE, Int.reduceLT, if_true, if_false, grpK, Int.reduceAdd, Int.reduceSub, Int.reduceMul, Int.reduceNeg, Int.reducePow, Nat.reducePow, Int.reduceToNat, Nat.reduceSub, List.replicate, Nat.reduceBEq, wAs, wA, wC, zipW, noDupN, grpE, beq_true, beq_false, g_impl_IsFinite, grpC, en0, dc_en0, ↓b_pick, ePk_true, ePk_false]))
    all_goals (try simp only [*, m_impl_isPositive, Bool.and_true, Bool.true_and, Bool.and_false, Bool.false_and, Bool.or_true, Bool.true_or, Bool.or_false, Bool.false_or, Bool.not_true, Bool.not_false, Bool.false_eq_true, if_true, if_false, reduceIte, decide_true, decide_false])
    all_goals (try (simp_all; done))
  · cases h
def m_impl_ValidPacking (x0 : (Int × Int × Nat)) : Bool := (if (m_impl_areBits x0.1) = true then (if (m_impl_areBits x0.2.1) = true then (m_impl_isPositive x0.2.2) else false) else false)
def g_impl_ValidPacking : List AV → Option AV
  | [.agg [.int .i64 y0, .int .i64 y1, .flt .f32 y2]] => some (.bool (m_impl_ValidPacking (y0, y1, y2)))
  | _ => none
def ic66 : ICode := (.seq (.reg [⟨(some 1), none, (.box 3 (.t 0))⟩, ⟨(some 2), none, (.mov (.c (.bool false)))⟩] [1]) (.seq (.reg [⟨(some 3), none, (.faddr 0 (.t 1))⟩, ⟨(some 4), none, (.load none (.t 3))⟩, ⟨(some 5), none, (.call (.fn 49) [(.t 4)] [])⟩, ⟨(some 6), none, (.mov (.t 5))⟩, ⟨(some 7), (some (6, true)), (.faddr 1 (.t 1))⟩, ⟨(some 8), (some (6, true)), (.load none (.t 7))⟩, ⟨(some 9), (some (6, true)), (.call (.fn 49) [(.t 8)] [])⟩, ⟨(some 10), none, (.pick (.t 6) (.t 9) (.c (.bool false)))⟩, ⟨(some 11), none, (.mov (.t 10))⟩, ⟨(some 12), (some (11, true)), (.faddr 2 (.t 1))⟩, ⟨(some 13), (some (11, true)), (.load none (.t 12))⟩, ⟨(some 14), (some (11, true)), (.call (.fn 97) [(.t 13)] [])⟩, ⟨(some 15), none, (.pick (.t 11) (.t 14) (.c (.bool false)))⟩, ⟨(some 2), none, (.mov (.t 15))⟩] [2]) .ret))
def cp66 : CP := CP.mk [] [] [[1], [2]] 16 [] []
theorem s66 : ∀ vs r, g_impl_ValidPacking vs = some r → SaysM Try.prog .any 66 vs r := by
  intro vs r h
  unfold g_impl_ValidPacking at h
  split at h
  · rename_i y0 y1 y2
    cases h
    refine spec_of (m := .any) (tab := tabOf [(49, wM .any g_impl_areBits), (97, wM .any g_impl_isPositive)]) (cp := cp66) (ic := ic66) (rvl := [(.t 2)]) hm (tabOk_cons (m := .any) s49 (tabOk_cons (m := .any) s97 tabOk_nil)) Try.func66 rfl rfl rfl (by kernel_rfl) rfl (Nat.le_of_ble_eq_true rfl) (Nat.le_of_ble_eq_true rfl) ?_
    show eA _ _ _ _
    unfold ic66
    refine eS_to ?_
    repeat' (first
      | ((first | (have h := True.intro; refine eS_of ?_) | (refine eGI_of (fun h => ?_) (fun h => ?_)) | (refine eCc_of (fun h => ?_) (fun h => ?_)) | (refine ePk_of (fun h => ?_) (fun h => ?_))) <;> (try simp only [Bool.not_eq_true', Bool.not_eq_false'] at h) <;> (try first | exact absurd (Eq.trans (Eq.symm h) (by assumption)) Bool.false_ne_true | exact absurd (Eq.trans (Eq.symm h) (by assumption)) (Ne.symm Bool.false_ne_true)) <;> simp only [h,
        grpA, vsliceS, grpS, grpD, grpF, grpL, eop, vop, bop, uop, fltop, convop, endOk, newE, new1, freshL, Md.isNew, outV, pureV, pureX, pure1, AV.cells, AV.one, storable, laid, refless, refless1, vload, loadC, storeC, vnil, vfaddr, vextract, flatT, flatE, flatC, vconv, vmm, vidxA, viaddrA, vfield, vlen, elemsOf, dF32, dF64, dI64, dU8, dBool, dStr, esOk, elemsS, vsliceX, bnd, ownV, ownC, own1, ownT, isSl, nSl, endL, Md.isOwn, purge, purgeH, purgeB, purgeE, hasName, name1, List.any_cons, List.any_nil, Md.isWr, pureV.pureP, Option.map, reduceIte, Nat.reduceEqDiff, Nat.reduceAdd, Nat.reduceMul, Nat.reduceLT, Nat.reduceLeDiff, List.mapM_cons, List.mapM_nil, Option.pure_def, Option.bind_eq_bind, Option.bind_some, implies_true, forall_const, beq_self_eq_true, decide_true, decide_false, eq_self, Int.reduceEq, Int.reduceLE, Int.reduceLT, if_true, if_false, grpK, Int.reduceAdd, Int.reduceSub, Int.reduceMul, Int.reduceNeg, Int.reducePow, Nat.reducePow, Int.reduceToNat, Nat.reduceSub, List.replicate, Nat.reduceBEq, wAs, wA, wC, zipW, noDupN, grpE, beq_true, beq_false, g_impl_areBits, g_impl_isPositive, grpC, en0, dc_en0, ↓b_pick, ePk_true, ePk_false]))
    all_goals (try simp only [*, m_impl_ValidPacking, Bool.and_true, Bool.true_and, Bool.and_false, Bool.false_and, Bool.or_true, Bool.true_or, Bool.or_false, Bool.false_or, Bool.not_true, Bool.not_false, Bool.false_eq_true, if_true, if_false, reduceIte, decide_true, decide_false])
    all_goals (try (simp_all; done))
  · cases h
def m_impl_isPose (x0 : (Nat × Nat × Nat × (List (Nat × Nat × Nat × Nat)))) : Bool := (if (decide (1 ≤ ((List.length x0.2.2.2 : Nat) : Int))) = true then (decide (((List.length x0.2.2.2 : Nat) : Int) ≤ 12)) else false)
def g_impl_isPose : List AV → Option AV
  | [.agg [.flt .f32 y0, .flt .f32 y1, .flt .f32 y2, .sl w3]] => (match decL dc_en0 w3 with | some y3 => (some (.bool (m_impl_isPose (y0, y1, y2, y3)))) | none => none)
  | _ => none
def ic78 : ICode := (.seq (.reg [⟨(some 1), none, (.box 4 (.t 0))⟩, ⟨(some 2), none, (.mov (.c (.bool false)))⟩] [1]) (.seq (.reg [⟨(some 3), none, (.faddr 3 (.t 1))⟩, ⟨(some 4), none, (.load none (.t 3))⟩, ⟨(some 5), none, (.len false (.t 4))⟩, ⟨(some 6), none, (.bin .geq false (.t 5) (.c (.int .i64 1)))⟩, ⟨(some 7), none, (.mov (.t 6))⟩, ⟨(some 8), (some (7, true)), (.faddr 3 (.t 1))⟩, ⟨(some 9), (some (7, true)), (.load none (.t 8))⟩, ⟨(some 10), (some (7, true)), (.len false (.t 9))⟩, ⟨(some 11), (some (7, true)), (.bin .leq false (.t 10) (.c (.int .i64 12)))⟩, ⟨(some 12), none, (.pick (.t 7) (.t 11) (.c (.bool false)))⟩, ⟨(some 2), none, (.mov (.t 12))⟩] [2]) .ret))
def cp78 : CP := CP.mk [] [] [[1], [2]] 13 [] []
theorem s78 : ∀ vs r, g_impl_isPose vs = some r → SaysM Try.prog .any 78 vs r := by
  intro vs r h
  unfold g_impl_isPose at h
  split at h
  · rename_i y0 y1 y2 w3
    cases hd_y3 : decL dc_en0 w3 with
    | none => rw [hd_y3] at h; cases h
    | some y3 =>
    rw [hd_y3] at h
    obtain rfl := decL_inv dc_en0_inv hd_y3
    clear hd_y3
    dsimp only at h
    cases h
    refine spec_of (m := .any) (tab := tabOf []) (cp := cp78) (ic := ic78) (rvl := [(.t 2)]) hm tabOk_nil Try.func78 rfl rfl rfl (by kernel_rfl) rfl (Nat.le_of_ble_eq_true rfl) (Nat.le_of_ble_eq_true rfl) ?_
    show eA _ _ _ _
    unfold ic78
    refine eS_to ?_
    repeat' (first
      | ((first | (have h := True.intro; refine eS_of ?_) | (refine eGI_of (fun h => ?_) (fun h => ?_)) | (refine eCc_of (fun h => ?_) (fun h => ?_)) | (refine ePk_of (fun h => ?_) (fun h => ?_))) <;> (try simp only [Bool.not_eq_true', Bool.not_eq_false'] at h) <;> (try first | exact absurd (Eq.trans (Eq.symm h) (by assumption)) Bool.false_ne_true | exact absurd (Eq.trans (Eq.symm h) (by assumption)) (Ne.symm Bool.false_ne_true)) <;> simp only [h,
        grpA, vsliceS, grpS, grpD, grpF, grpL, eop, vop, bop, uop, fltop, convop, endOk, newE, new1, freshL, Md.isNew, outV, pureV, pureX, pure1, AV.cells, AV.one, storable, laid, refless, refless1, vload, loadC, storeC, vnil, vfaddr, vextract, flatT, flatE, flatC, vconv, vmm, vidxA, viaddrA, vfield, vlen, elemsOf, dF32, dF64, dI64, dU8, dBool, dStr, esOk, elemsS, vsliceX, bnd, ownV, ownC, own1, ownT, isSl, nSl, endL, Md.isOwn, purge, purgeH, purgeB, purgeE, hasName, name1, List.any_cons, List.any_nil, Md.isWr, pureV.pureP, Option.map, reduceIte, Nat.reduceEqDiff, Nat.reduceAdd, Nat.reduceMul, Nat.reduceLT, Nat.reduceLeDiff, List.mapM_cons, List.mapM_nil, Option.pure_def, Option.bind_eq_bind, Option.bind_some, implies_true, forall_const, beq_self_eq_true, decide_true, decide_false, eq_self, Int.reduceEq, Int.reduceLE, Int.reduceLT, if_true, if_false, grpK, Int.reduceAdd, Int.reduceSub, Int.reduceMul, Int.reduceNeg, Int.reducePow, Nat.reducePow, Int.reduceToNat, Nat.reduceSub, List.replicate, Nat.reduceBEq, wAs, wA, wC, zipW, noDupN, grpE, beq_true, beq_false, grpC, en0, dc_en0, ↓b_pick, ePk_true, ePk_false]))
    all_goals (try simp only [*, m_impl_isPose, Bool.and_true, Bool.true_and, Bool.and_false, Bool.false_and, Bool.or_true, Bool.true_or, Bool.or_false, Bool.false_or, Bool.not_true, Bool.not_false, Bool.false_eq_true, if_true, if_false, reduceIte, decide_true, decide_false])
    all_goals (try (simp_all; done))
  · cases h
def m_impl_codes (x0 : Int) : Int := (IntKind.wrap .i64 (1 * 2 ^ (min (x0 : Int).toNat 64)))
def p_impl_codes (x0 : Int) : Bool := (decide (0 ≤ x0))
def g_impl_codes : List AV → Option AV
  | [.int .i64 y0] => if p_impl_codes y0 = true then some (.int .i64 (m_impl_codes y0)) else none
  | _ => none
def ic50 : ICode := (.seq (.reg [⟨(some 2), none, (.mov (.c (.int .i64 0)))⟩] [0]) (.seq (.reg [⟨(some 3), none, (.mov (.t 0))⟩, ⟨(some 4), none, (.bin .shl false (.c (.int .i64 1)) (.t 3))⟩, ⟨(some 2), none, (.mov (.t 4))⟩] [2]) .ret))
def cp50 : CP := CP.mk [] [] [[0], [2]] 5 [] []
theorem s50 : ∀ vs r, g_impl_codes vs = some r → SaysM Try.prog .any 50 vs r := by
  intro vs r h
  unfold g_impl_codes at h
  split at h
  · rename_i y0
    split at h
    · rename_i hp
      cases h
      refine spec_of (m := .any) (tab := tabOf []) (cp := cp50) (ic := ic50) (rvl := [(.t 2)]) hm tabOk_nil Try.func50 rfl rfl rfl (by kernel_rfl) rfl (Nat.le_of_ble_eq_true rfl) (Nat.le_of_ble_eq_true rfl) ?_
      show eA _ _ _ _
      unfold ic50
      simp only [p_impl_codes, Bool.and_eq_true, Bool.or_eq_true, decide_eq_true_eq, Bool.not_eq_true', decide_eq_false_iff_not] at hp
      simp only [
          hp, grpA, vsliceS, grpS, grpD, grpF, grpL, eop, vop, bop, uop, fltop, convop, endOk, newE, new1, freshL, Md.isNew, outV, pureV, pureX, pure1, AV.cells, AV.one, storable, laid, refless, refless1, vload, loadC, storeC, vnil, vfaddr, vextract, flatT, flatE, flatC, vconv, vmm, vidxA, viaddrA, vfield, vlen, elemsOf, dF32, dF64, dI64, dU8, dBool, dStr, esOk, elemsS, vsliceX, bnd, ownV, ownC, own1, ownT, isSl, nSl, endL, Md.isOwn, purge, purgeH, purgeB, purgeE, hasName, name1, List.any_cons, List.any_nil, Md.isWr, pureV.pureP, Option.map, reduceIte, Nat.reduceEqDiff, Nat.reduceAdd, Nat.reduceMul, Nat.reduceLT, Nat.reduceLeDiff, List.mapM_cons, List.mapM_nil, Option.pure_def, Option.bind_eq_bind, Option.bind_some, implies_true, forall_const, beq_self_eq_true, decide_true, decide_false, eq_self, Int.reduceEq, Int.reduceLE, Int.reduceLT, if_true, if_false, grpK, Int.reduceAdd, Int.reduceSub, Int.reduceMul, Int.reduceNeg, Int.reducePow, Nat.reducePow, Int.reduceToNat, Nat.reduceSub, List.replicate, Nat.reduceBEq, wAs, wA, wC, zipW, noDupN, grpE, beq_true, beq_false, grpC, en0, dc_en0]
      all_goals (try simp only [*, m_impl_codes, Bool.and_true, Bool.true_and, Bool.and_false, Bool.false_and, Bool.or_true, Bool.true_or, Bool.or_false, Bool.false_or, Bool.not_true, Bool.not_false, Bool.false_eq_true, if_true, if_false, reduceIte, decide_true, decide_false])
      all_goals (try (simp_all; done))
    · cases h
  · cases h
def v_impl_codeOf_0 (x0 : Nat) (x1 : Nat) (x2 : Nat) (x3 : Int) : Nat := (integral .even (fmul .f64 (fdiv .f64 (fsub .f64 (widen x0) (widen x1)) (fsub .f64 (widen x2) (widen x1))) (ofInt .f64 (IntKind.wrap .i64 ((m_impl_codes x3) - 1)))))
def m_impl_codeOf (x0 : Nat) (x1 : Nat) (x2 : Nat) (x3 : Int) : Int := (f2iV .f64 (fmin .f64 (fmax .f64 (v_impl_codeOf_0 x0 x1 x2 x3) 0) (ofInt .f64 (IntKind.wrap .i64 ((m_impl_codes x3) - 1)))))
def p_impl_codeOf (x0 : Nat) (x1 : Nat) (x2 : Nat) (x3 : Int) : Bool := ((p_impl_codes x3) && (f2iOk .i64 .f64 (fmin .f64 (fmax .f64 (v_impl_codeOf_0 x0 x1 x2 x3) 0) (ofInt .f64 (IntKind.wrap .i64 ((m_impl_codes x3) - 1))))))
def g_impl_codeOf : List AV → Option AV
  | [.flt .f32 y0, .flt .f32 y1, .flt .f32 y2, .int .i64 y3] => if p_impl_codeOf y0 y1 y2 y3 = true then some (.int .i64 (m_impl_codeOf y0 y1 y2 y3)) else none
  | _ => none
def ic62 : ICode := (.seq (.reg [⟨(some 8), none, (.mov (.c (.int .i64 0)))⟩] [0, 1, 2, 3]) (.seq (.reg [⟨(some 11), none, (.mov (.t 3))⟩, ⟨(some 12), none, (.call (.fn 50) [(.t 11)] [])⟩, ⟨(some 13), none, (.bin .sub false (.t 12) (.c (.int .i64 1)))⟩, ⟨(some 14), none, (.conv (.flt .f64) (.t 13))⟩, ⟨(some 9), none, (.mov (.t 14))⟩] [0, 1, 2, 9]) (.seq (.reg [⟨(some 15), none, (.mov (.t 0))⟩, ⟨(some 16), none, (.conv (.flt .f64) (.t 15))⟩, ⟨(some 17), none, (.mov (.t 1))⟩, ⟨(some 18), none, (.conv (.flt .f64) (.t 17))⟩, ⟨(some 19), none, (.bin .sub false (.t 16) (.t 18))⟩, ⟨(some 20), none, (.mov (.t 2))⟩, ⟨(some 21), none, (.conv (.flt .f64) (.t 20))⟩, ⟨(some 22), none, (.mov (.t 1))⟩, ⟨(some 23), none, (.conv (.flt .f64) (.t 22))⟩, ⟨(some 24), none, (.bin .sub false (.t 21) (.t 23))⟩, ⟨(some 25), none, (.bin .quo false (.t 19) (.t 24))⟩, ⟨(some 26), none, (.mov (.t 9))⟩, ⟨(some 27), none, (.bin .mul false (.t 25) (.t 26))⟩, ⟨(some 10), none, (.mov (.t 27))⟩] [9, 10]) (.seq (.reg [⟨(some 28), none, (.mov (.t 10))⟩, ⟨(some 29), none, (.call (.fn 93) [(.t 28)] [])⟩, ⟨(some 30), none, (.mm true (.t 29) (.c (.flt .f64 0)))⟩, ⟨(some 31), none, (.mov (.t 9))⟩, ⟨(some 32), none, (.mm false (.t 30) (.t 31))⟩, ⟨(some 33), none, (.conv (.int .i64) (.t 32))⟩, ⟨(some 8), none, (.mov (.t 33))⟩] [8]) .ret))))
def cp62 : CP := CP.mk [] [] [[0, 1, 2, 3], [0, 1, 2, 9], [9, 10], [8]] 34 [] []
theorem s62 : ∀ vs r, g_impl_codeOf vs = some r → SaysM Try.prog .any 62 vs r := by
  intro vs r h
  unfold g_impl_codeOf at h
  split at h
  · rename_i y0 y1 y2 y3
    split at h
    · rename_i hp
      cases h
      refine spec_of (m := .any) (tab := tabOf [(50, wM .any g_impl_codes), (93, wM .any (g_integral .even))]) (cp := cp62) (ic := ic62) (rvl := [(.t 8)]) hm (tabOk_cons (m := .any) s50 (tabOk_cons (m := .any) s93 tabOk_nil)) Try.func62 rfl rfl rfl (by kernel_rfl) rfl (Nat.le_of_ble_eq_true rfl) (Nat.le_of_ble_eq_true rfl) ?_
      show eA _ _ _ _
      unfold ic62
      simp only [p_impl_codeOf, v_impl_codeOf_0, Bool.and_eq_true, Bool.or_eq_true, decide_eq_true_eq, Bool.not_eq_true', decide_eq_false_iff_not] at hp
      simp only [
          hp, grpA, vsliceS, grpS, grpD, grpF, grpL, eop, vop, bop, uop, fltop, convop, endOk, newE, new1, freshL, Md.isNew, outV, pureV, pureX, pure1, AV.cells, AV.one, storable, laid, refless, refless1, vload, loadC, storeC, vnil, vfaddr, vextract, flatT, flatE, flatC, vconv, vmm, vidxA, viaddrA, vfield, vlen, elemsOf, dF32, dF64, dI64, dU8, dBool, dStr, esOk, elemsS, vsliceX, bnd, ownV, ownC, own1, ownT, isSl, nSl, endL, Md.isOwn, purge, purgeH, purgeB, purgeE, hasName, name1, List.any_cons, List.any_nil, Md.isWr, pureV.pureP, Option.map, reduceIte, Nat.reduceEqDiff, Nat.reduceAdd, Nat.reduceMul, Nat.reduceLT, Nat.reduceLeDiff, List.mapM_cons, List.mapM_nil, Option.pure_def, Option.bind_eq_bind, Option.bind_some, implies_true, forall_const, beq_self_eq_true, decide_true, decide_false, eq_self, Int.reduceEq, Int.reduceLE, Int.reduceLT, if_true, if_false, grpK, Int.reduceAdd, Int.reduceSub, Int.reduceMul, Int.reduceNeg, Int.reducePow, Nat.reducePow, Int.reduceToNat, Nat.reduceSub, List.replicate, Nat.reduceBEq, wAs, wA, wC, zipW, noDupN, grpE, beq_true, beq_false, g_impl_codes, g_integral, grpC, en0, dc_en0]
      all_goals (try simp only [*, m_impl_codeOf, v_impl_codeOf_0, Bool.and_true, Bool.true_and, Bool.and_false, Bool.false_and, Bool.or_true, Bool.true_or, Bool.or_false, Bool.false_or, Bool.not_true, Bool.not_false, Bool.false_eq_true, if_true, if_false, reduceIte, decide_true, decide_false])
      all_goals (try (simp_all; done))
    · cases h
  · cases h
def v_impl_PackVector_0 (x0 : (Nat × Nat × Nat)) (x1 : Nat) (x2 : Int) : Int := (IntKind.wrap .i64 ((IntKind.wrap .i64 ((IntKind.wrap .i64 ((IntKind.wrap .i64 (0 * (m_impl_codes x2))) + (m_impl_codeOf x0.1 (fneg .f32 x1) x1 x2))) * (m_impl_codes x2))) + (m_impl_codeOf x0.2.1 (fneg .f32 x1) x1 x2)))
def m_impl_PackVector (x0 : (Nat × Nat × Nat)) (x1 : Nat) (x2 : Int) : (Int × Bool) := (if (m_impl_isPositive x1) = true then (if (m_impl_areBits x2) = true then (if (feq .f32 x0.1 x0.1) = true then (if (feq .f32 x0.2.1 x0.2.1) = true then (if (feq .f32 x0.2.2 x0.2.2) = true then ((IntKind.wrap .i64 ((IntKind.wrap .i64 ((v_impl_PackVector_0 x0 x1 x2) * (m_impl_codes x2))) + (m_impl_codeOf x0.2.2 (fneg .f32 x1) x1 x2))), true) else (0, false)) else (0, false)) else (0, false)) else (0, false)) else (0, false))
def p_impl_PackVector (x0 : (Nat × Nat × Nat)) (x1 : Nat) (x2 : Int) : Bool := (!(m_impl_isPositive x1) || (!(m_impl_areBits x2) || (!(feq .f32 x0.1 x0.1) || ((p_impl_codes x2) && ((p_impl_codeOf x0.1 (fneg .f32 x1) x1 x2) && (!(feq .f32 x0.2.1 x0.2.1) || ((p_impl_codeOf x0.2.1 (fneg .f32 x1) x1 x2) && (!(feq .f32 x0.2.2 x0.2.2) || (p_impl_codeOf x0.2.2 (fneg .f32 x1) x1 x2)))))))))
def g_impl_PackVector : List AV → Option AV
  | [.agg [.flt .f32 y0, .flt .f32 y1, .flt .f32 y2], .flt .f32 y3, .int .i64 y4] => if p_impl_PackVector (y0, y1, y2) y3 y4 = true then some (AV.tup [(.int .i64 (m_impl_PackVector (y0, y1, y2) y3 y4).1), (.bool (m_impl_PackVector (y0, y1, y2) y3 y4).2)]) else none
  | _ => none
def ic79 : ICode := (.seq (.reg [⟨(some 3), none, (.box 3 (.t 0))⟩, ⟨(some 6), none, (.mov (.c (.int .i64 0)))⟩, ⟨(some 7), none, (.mov (.c (.bool false)))⟩] [1, 2, 3]) (.seq (.seq (.reg [⟨(some 11), none, (.mov (.t 1))⟩, ⟨(some 12), none, (.call (.fn 97) [(.t 11)] [])⟩, ⟨(some 13), none, (.un .not (.t 12))⟩, ⟨(some 14), none, (.mov (.t 13))⟩, ⟨(some 15), (some (14, false)), (.mov (.t 2))⟩, ⟨(some 16), (some (14, false)), (.call (.fn 49) [(.t 15)] [])⟩, ⟨(some 17), (some (14, false)), (.un .not (.t 16))⟩, ⟨(some 18), none, (.pick (.t 14) (.c (.bool true)) (.t 17))⟩] [1, 2, 3, 18]) (.cond (.t 18) (.seq (.reg [⟨(some 6), none, (.mov (.c (.int .i64 0)))⟩, ⟨(some 7), none, (.mov (.c (.bool false)))⟩] [6, 7]) .ret) .skip)) (.seq (.reg [⟨(some 8), none, (.mov (.c (.int .i64 0)))⟩] [1, 2, 3, 8]) (.seq (.seq (.reg [⟨(some 19), none, (.faddr 0 (.t 3))⟩, ⟨(some 20), none, (.load none (.t 19))⟩, ⟨(some 21), none, (.faddr 1 (.t 3))⟩, ⟨(some 22), none, (.load none (.t 21))⟩, ⟨(some 23), none, (.faddr 2 (.t 3))⟩, ⟨(some 24), none, (.load none (.t 23))⟩, ⟨(some 25), none, (.bslice 1 3 (.flt .f32 0) [(0, (.t 20)), (1, (.t 22)), (2, (.t 24))])⟩, ⟨(some 26), none, (.len false (.t 25))⟩, ⟨(some 27), none, (.mov (.c (.int .i64 0)))⟩] [1, 2, 8, 25, 26, 27]) (.block 0 (.loop (.seq (.reg [⟨(some 28), none, (.bin .lss false (.t 27) (.t 26))⟩] [1, 2, 8, 25, 26, 27, 28]) (.seq (.cond (.t 28) .skip (.exit 0)) (.seq (.block 1 (.seq (.reg [⟨(some 29), none, (.iaddrS 1 (.t 25) (.t 27))⟩, ⟨(some 30), none, (.load none (.t 29))⟩, ⟨(some 10), none, (.mov (.t 30))⟩] [1, 2, 8, 10, 25, 26, 27]) (.seq (.seq (.reg [⟨(some 31), none, (.mov (.t 10))⟩, ⟨(some 32), none, (.mov (.t 10))⟩, ⟨(some 33), none, (.bin .neq false (.t 31) (.t 32))⟩] [1, 2, 8, 10, 25, 26, 27, 33]) (.cond (.t 33) (.seq (.reg [⟨(some 6), none, (.mov (.c (.int .i64 0)))⟩, ⟨(some 7), none, (.mov (.c (.bool false)))⟩] [6, 7]) .ret) .skip)) (.reg [⟨(some 34), none, (.mov (.t 8))⟩, ⟨(some 35), none, (.mov (.t 2))⟩, ⟨(some 36), none, (.call (.fn 50) [(.t 35)] [])⟩, ⟨(some 37), none, (.bin .mul false (.t 34) (.t 36))⟩, ⟨(some 38), none, (.mov (.t 10))⟩, ⟨(some 39), none, (.mov (.t 1))⟩, ⟨(some 40), none, (.un .neg (.t 39))⟩, ⟨(some 41), none, (.mov (.t 1))⟩, ⟨(some 42), none, (.mov (.t 2))⟩, ⟨(some 43), none, (.call (.fn 62) [(.t 38), (.t 40), (.t 41), (.t 42)] [])⟩, ⟨(some 44), none, (.bin .add false (.t 37) (.t 43))⟩, ⟨(some 8), none, (.mov (.t 44))⟩] [1, 2, 8, 25, 26, 27])))) (.reg [⟨(some 45), none, (.bin .add false (.t 27) (.c
      (.int .i64 1)))⟩, ⟨(some 27), none, (.mov (.t 45))⟩] [1, 2, 8, 25, 26, 27]))))))) (.seq (.reg [⟨(some 46), none, (.mov (.t 8))⟩, ⟨(some 6), none, (.mov (.t 46))⟩, ⟨(some 7), none, (.mov (.c (.bool true)))⟩] [6, 7]) .ret)))))
def cp79 : CP := CP.mk [] [] [[1, 2, 3], [1, 2, 3, 18], [6, 7], [1, 2, 3, 8], [1, 2, 8, 25, 26, 27], [1, 2, 8, 25, 26, 27, 28], [1, 2, 8, 10, 25, 26, 27], [1, 2, 8, 10, 25, 26, 27, 33], [6, 7], [1, 2, 8, 25, 26, 27], [1, 2, 8, 25, 26, 27], [6, 7]] 47 [] []
theorem s79 : ∀ vs r, g_impl_PackVector vs = some r → SaysM Try.prog .any 79 vs r := by
  intro vs r h
  unfold g_impl_PackVector at h
  split at h
  · rename_i y0 y1 y2 y3 y4
    split at h
    · rename_i hp
      cases h
      refine spec_of (m := .any) (tab := tabOf [(49, wM .any g_impl_areBits), (50, wM .any g_impl_codes), (62, wM .any g_impl_codeOf), (97, wM .any g_impl_isPositive)]) (cp := cp79) (ic := ic79) (rvl := [(.t 6), (.t 7)]) hm (tabOk_cons (m := .any) s49 (tabOk_cons (m := .any) s50 (tabOk_cons (m := .any) s62 (tabOk_cons (m := .any) s97 tabOk_nil)))) Try.func79 rfl rfl rfl (by kernel_rfl) rfl (Nat.le_of_ble_eq_true rfl) (Nat.le_of_ble_eq_true rfl) ?_
      show eA _ _ _ _
      unfold ic79
      simp only [p_impl_PackVector, v_impl_PackVector_0, Bool.and_eq_true, Bool.or_eq_true, decide_eq_true_eq, Bool.not_eq_true', decide_eq_false_iff_not] at hp
      refine eS_to ?_
      repeat' (first
        | ((first | (have h := True.intro; refine eS_of ?_) | (refine eGI_of (fun h => ?_) (fun h => ?_)) | (refine eCc_of (fun h => ?_) (fun h => ?_)) | (refine ePk_of (fun h => ?_) (fun h => ?_)) | (have h := True.intro; refine KW_refl ?_) | (have h := True.intro; refine eA_loop ?_)) <;> (try simp only [Bool.not_eq_true', Bool.not_eq_false'] at h) <;> (try first | exact absurd (Eq.trans (Eq.symm h) (by assumption)) Bool.false_ne_true | exact absurd (Eq.trans (Eq.symm h) (by assumption)) (Ne.symm Bool.false_ne_true)) <;> (try simp only [h, reduceCtorEq, grpN, Int.reduceEq, Int.reduceLT, Int.reduceLE, if_true, if_false, reduceIte] at hp) <;> (first | (have h2 := h; simp only [decide_eq_true_eq, decide_eq_false_iff_not] at h2; (first | (replace h2 := eq_false h2) | (replace h2 := eq_true h2)); (try simp only [h2, reduceCtorEq, grpN, Int.reduceEq, Int.reduceLT, Int.reduceLE, if_true, if_false, reduceIte] at hp); replace hp := And.intro h2 hp) | (replace hp := And.intro h hp) | skip) <;> simp only [h,
          hp, grpA, vsliceS, grpS, grpD, grpF, grpL, eop, vop, bop, uop, fltop, convop, endOk, newE, new1, freshL, Md.isNew, outV, pureV, pureX, pure1, AV.cells, AV.one, storable, laid, refless, refless1, vload, loadC, storeC, vnil, vfaddr, vextract, flatT, flatE, flatC, vconv, vmm, vidxA, viaddrA, vfield, vlen, elemsOf, dF32, dF64, dI64, dU8, dBool, dStr, esOk, elemsS, vsliceX, bnd, ownV, ownC, own1, ownT, isSl, nSl, endL, Md.isOwn, purge, purgeH, purgeB, purgeE, hasName, name1, List.any_cons, List.any_nil, Md.isWr, pureV.pureP, Option.map, reduceIte, Nat.reduceEqDiff, Nat.reduceAdd, Nat.reduceMul, Nat.reduceLT, Nat.reduceLeDiff, List.mapM_cons, List.mapM_nil, Option.pure_def, Option.bind_eq_bind, Option.bind_some, implies_true, forall_const, beq_self_eq_true, decide_true, decide_false, eq_self, Int.reduceEq, Int.reduceLE, Int.reduceLT, if_true, if_false, grpK, Int.reduceAdd, Int.reduceSub, Int.reduceMul, Int.reduceNeg, Int.reducePow, Nat.reducePow, Int.reduceToNat, Nat.reduceSub, List.replicate, Nat.reduceBEq, wAs, wA, wC, zipW, noDupN, grpE, beq_true, beq_false, g_impl_areBits, g_impl_codes, g_impl_codeOf, g_impl_isPositive, grpC, en0, dc_en0, ↓b_pick, ePk_true, ePk_false]))
      all_goals (try simp only [*, m_impl_PackVector, v_impl_PackVector_0, Bool.and_true, Bool.true_and, Bool.and_false, Bool.false_and, Bool.or_true, Bool.true_or, Bool.or_false, Bool.false_or, Bool.not_true, Bool.not_false, Bool.false_eq_true, if_true, if_false, reduceIte, decide_true, decide_false])
      all_goals (try (simp_all; done))
    · cases h
  · cases h
def m_impl_InnerOfTurns (x0 : (Nat × Nat × Nat × Nat)) (x1 : (Nat × Nat × Nat × Nat)) : Nat := (fadd .f32 (fadd .f32 (fadd .f32 (fmul .f32 x0.1 x1.1) (fmul .f32 x0.2.1 x1.2.1)) (fmul .f32 x0.2.2.1 x1.2.2.1)) (fmul .f32 x0.2.2.2 x1.2.2.2))
def g_impl_InnerOfTurns : List AV → Option AV
  | [.agg [.flt .f32 y0, .flt .f32 y1, .flt .f32 y2, .flt .f32 y3], .agg [.flt .f32 y4, .flt .f32 y5, .flt .f32 y6, .flt .f32 y7]] => some (.flt .f32 (m_impl_InnerOfTurns (y0, y1, y2, y3) (y4, y5, y6, y7)))
  | _ => none
def ic105 : ICode := (.seq (.reg [⟨(some 2), none, (.box 4 (.t 0))⟩, ⟨(some 3), none, (.box 4 (.t 1))⟩, ⟨(some 4), none, (.mov (.c (.flt .f32 0)))⟩] [2, 3]) (.seq (.reg [⟨(some 5), none, (.faddr 0 (.t 2))⟩, ⟨(some 6), none, (.load none (.t 5))⟩, ⟨(some 7), none, (.faddr 0 (.t 3))⟩, ⟨(some 8), none, (.load none (.t 7))⟩, ⟨(some 9), none, (.bin .mul false (.t 6) (.t 8))⟩, ⟨(some 10), none, (.faddr 1 (.t 2))⟩, ⟨(some 11), none, (.load none (.t 10))⟩, ⟨(some 12), none, (.faddr 1 (.t 3))⟩, ⟨(some 13), none, (.load none (.t 12))⟩, ⟨(some 14), none, (.bin .mul false (.t 11) (.t 13))⟩, ⟨(some 15), none, (.bin .add false (.t 9) (.t 14))⟩, ⟨(some 16), none, (.faddr 2 (.t 2))⟩, ⟨(some 17), none, (.load none (.t 16))⟩, ⟨(some 18), none, (.faddr 2 (.t 3))⟩, ⟨(some 19), none, (.load none (.t 18))⟩, ⟨(some 20), none, (.bin .mul false (.t 17) (.t 19))⟩, ⟨(some 21), none, (.bin .add false (.t 15) (.t 20))⟩, ⟨(some 22), none, (.faddr 3 (.t 2))⟩, ⟨(some 23), none, (.load none (.t 22))⟩, ⟨(some 24), none, (.faddr 3 (.t 3))⟩, ⟨(some 25), none, (.load none (.t 24))⟩, ⟨(some 26), none, (.bin .mul false (.t 23) (.t 25))⟩, ⟨(some 27), none, (.bin .add false (.t 21) (.t 26))⟩, ⟨(some 4), none, (.mov (.t 27))⟩] [4]) .ret))
def cp105 : CP := CP.mk [] [] [[2, 3], [4]] 28 [] []
theorem s105 : ∀ vs r, g_impl_InnerOfTurns vs = some r → SaysM Try.prog .any 105 vs r := by
  intro vs r h
  unfold g_impl_InnerOfTurns at h
  split at h
  · rename_i y0 y1 y2 y3 y4 y5 y6 y7
    cases h
    refine spec_of (m := .any) (tab := tabOf []) (cp := cp105) (ic := ic105) (rvl := [(.t 4)]) hm tabOk_nil Try.func105 rfl rfl rfl (by kernel_rfl) rfl (Nat.le_of_ble_eq_true rfl) (Nat.le_of_ble_eq_true rfl) ?_
    show eA _ _ _ _
    unfold ic105
    simp only [
        grpA, vsliceS, grpS, grpD, grpF, grpL, eop, vop, bop, uop, fltop, convop, endOk, newE, new1, freshL, Md.isNew, outV, pureV, pureX, pure1, AV.cells, AV.one, storable, laid, refless, refless1, vload, loadC, storeC, vnil, vfaddr, vextract, flatT, flatE, flatC, vconv, vmm, vidxA, viaddrA, vfield, vlen, elemsOf, dF32, dF64, dI64, dU8, dBool, dStr, esOk, elemsS, vsliceX, bnd, ownV, ownC, own1, ownT, isSl, nSl, endL, Md.isOwn, purge, purgeH, purgeB, purgeE, hasName, name1, List.any_cons, List.any_nil, Md.isWr, pureV.pureP, Option.map, reduceIte, Nat.reduceEqDiff, Nat.reduceAdd, Nat.reduceMul, Nat.reduceLT, Nat.reduceLeDiff, List.mapM_cons, List.mapM_nil, Option.pure_def, Option.bind_eq_bind, Option.bind_some, implies_true, forall_const, beq_self_eq_true, decide_true, decide_false, eq_self, Int.reduceEq, Int.reduceLE, Int.reduceLT, if_true, if_false, grpK, Int.reduceAdd, Int.reduceSub, Int.reduceMul, Int.reduceNeg, Int.reducePow, Nat.reducePow, Int.reduceToNat, Nat.reduceSub, List.replicate, Nat.reduceBEq, wAs, wA, wC, zipW, noDupN, grpE, beq_true, beq_false, grpC, en0, dc_en0]
    all_goals (try simp only [*, m_impl_InnerOfTurns, Bool.and_true, Bool.true_and, Bool.and_false, Bool.false_and, Bool.or_true, Bool.true_or, Bool.or_false, Bool.false_or, Bool.not_true, Bool.not_false, Bool.false_eq_true, if_true, if_false, reduceIte, decide_true, decide_false])
    all_goals (try (simp_all; done))
  · cases h
def m_impl_RootNumber (x0 : Nat) : Nat := (narrow (m_math_Sqrt (widen x0)))
def p_impl_RootNumber (x0 : Nat) : Bool := (narrowOk (m_math_Sqrt (widen x0)))
def g_impl_RootNumber : List AV → Option AV
  | [.flt .f32 y0] => if p_impl_RootNumber y0 = true then some (.flt .f32 (m_impl_RootNumber y0)) else none
  | _ => none
def ic53 : ICode := (.seq (.reg [⟨(some 2), none, (.mov (.c (.flt .f32 0)))⟩] [0]) (.seq (.reg [⟨(some 3), none, (.mov (.t 0))⟩, ⟨(some 4), none, (.conv (.flt .f64) (.t 3))⟩, ⟨(some 5), none, (.call (.fn 84) [(.t 4)] [])⟩, ⟨(some 6), none, (.conv (.flt .f32) (.t 5))⟩, ⟨(some 2), none, (.mov (.t 6))⟩] [2]) .ret))
def cp53 : CP := CP.mk [] [] [[0], [2]] 7 [] []
theorem s53 : ∀ vs r, g_impl_RootNumber vs = some r → SaysM Try.prog .any 53 vs r := by
  intro vs r h
  unfold g_impl_RootNumber at h
  split at h
  · rename_i y0
    split at h
    · rename_i hp
      cases h
      refine spec_of (m := .any) (tab := tabOf [(84, wM .any g_math_Sqrt)]) (cp := cp53) (ic := ic53) (rvl := [(.t 2)]) hm (tabOk_cons (m := .any) s84 tabOk_nil) Try.func53 rfl rfl rfl (by kernel_rfl) rfl (Nat.le_of_ble_eq_true rfl) (Nat.le_of_ble_eq_true rfl) ?_
      show eA _ _ _ _
      unfold ic53
      simp only [p_impl_RootNumber, Bool.and_eq_true, Bool.or_eq_true, decide_eq_true_eq, Bool.not_eq_true', decide_eq_false_iff_not] at hp
      simp only [
          hp, grpA, vsliceS, grpS, grpD, grpF, grpL, eop, vop, bop, uop, fltop, convop, endOk, newE, new1, freshL, Md.isNew, outV, pureV, pureX, pure1, AV.cells, AV.one, storable, laid, refless, refless1, vload, loadC, storeC, vnil, vfaddr, vextract, flatT, flatE, flatC, vconv, vmm, vidxA, viaddrA, vfield, vlen, elemsOf, dF32, dF64, dI64, dU8, dBool, dStr, esOk, elemsS, vsliceX, bnd, ownV, ownC, own1, ownT, isSl, nSl, endL, Md.isOwn, purge, purgeH, purgeB, purgeE, hasName, name1, List.any_cons, List.any_nil, Md.isWr, pureV.pureP, Option.map, reduceIte, Nat.reduceEqDiff, Nat.reduceAdd, Nat.reduceMul, Nat.reduceLT, Nat.reduceLeDiff, List.mapM_cons, List.mapM_nil, Option.pure_def, Option.bind_eq_bind, Option.bind_some, implies_true, forall_const, beq_self_eq_true, decide_true, decide_false, eq_self, Int.reduceEq, Int.reduceLE, Int.reduceLT, if_true, if_false, grpK, Int.reduceAdd, Int.reduceSub, Int.reduceMul, Int.reduceNeg, Int.reducePow, Nat.reducePow, Int.reduceToNat, Nat.reduceSub, List.replicate, Nat.reduceBEq, wAs, wA, wC, zipW, noDupN, grpE, beq_true, beq_false, g_math_Sqrt, grpC, en0, dc_en0]
      all_goals (try simp only [*, m_impl_RootNumber, Bool.and_true, Bool.true_and, Bool.and_false, Bool.false_and, Bool.or_true, Bool.true_or, Bool.or_false, Bool.false_or, Bool.not_true, Bool.not_false, Bool.false_eq_true, if_true, if_false, reduceIte, decide_true, decide_false])
      all_goals (try (simp_all; done))
    · cases h
  · cases h
def m_impl_LengthOfTurn (x0 : (Nat × Nat × Nat × Nat)) : Nat := (m_impl_RootNumber (m_impl_InnerOfTurns x0 x0))
def p_impl_LengthOfTurn (x0 : (Nat × Nat × Nat × Nat)) : Bool := (p_impl_RootNumber (m_impl_InnerOfTurns x0 x0))
def g_impl_LengthOfTurn : List AV → Option AV
  | [.agg [.flt .f32 y0, .flt .f32 y1, .flt .f32 y2, .flt .f32 y3]] => if p_impl_LengthOfTurn (y0, y1, y2, y3) = true then some (.flt .f32 (m_impl_LengthOfTurn (y0, y1, y2, y3))) else none
  | _ => none
def ic85 : ICode := (.seq (.reg [⟨(some 1), none, (.box 4 (.t 0))⟩, ⟨(some 2), none, (.mov (.c (.flt .f32 0)))⟩] [1]) (.seq (.reg [⟨(some 3), none, (.load (some 4) (.t 1))⟩, ⟨(some 4), none, (.load (some 4) (.t 1))⟩, ⟨(some 5), none, (.call (.fn 105) [(.t 3), (.t 4)] [])⟩, ⟨(some 6), none, (.call (.fn 53) [(.t 5)] [])⟩, ⟨(some 2), none, (.mov (.t 6))⟩] [2]) .ret))
def cp85 : CP := CP.mk [] [] [[1], [2]] 7 [] []
theorem s85 : ∀ vs r, g_impl_LengthOfTurn vs = some r → SaysM Try.prog .any 85 vs r := by
  intro vs r h
  unfold g_impl_LengthOfTurn at h
  split at h
  · rename_i y0 y1 y2 y3
    split at h
    · rename_i hp
      cases h
      refine spec_of (m := .any) (tab := tabOf [(53, wM .any g_impl_RootNumber), (105, wM .any g_impl_InnerOfTurns)]) (cp := cp85) (ic := ic85) (rvl := [(.t 2)]) hm (tabOk_cons (m := .any) s53 (tabOk_cons (m := .any) s105 tabOk_nil)) Try.func85 rfl rfl rfl (by kernel_rfl) rfl (Nat.le_of_ble_eq_true rfl) (Nat.le_of_ble_eq_true rfl) ?_
      show eA _ _ _ _
      unfold ic85
      simp only [p_impl_LengthOfTurn, Bool.and_eq_true, Bool.or_eq_true, decide_eq_true_eq, Bool.not_eq_true', decide_eq_false_iff_not] at hp
      simp only [
          hp, grpA, vsliceS, grpS, grpD, grpF, grpL, eop, vop, bop, uop, fltop, convop, endOk, newE, new1, freshL, Md.isNew, outV, pureV, pureX, pure1, AV.cells, AV.one, storable, laid, refless, refless1, vload, loadC, storeC, vnil, vfaddr, vextract, flatT, flatE, flatC, vconv, vmm, vidxA, viaddrA, vfield, vlen, elemsOf, dF32, dF64, dI64, dU8, dBool, dStr, esOk, elemsS, vsliceX, bnd, ownV, ownC, own1, ownT, isSl, nSl, endL, Md.isOwn, purge, purgeH, purgeB, purgeE, hasName, name1, List.any_cons, List.any_nil, Md.isWr, pureV.pureP, Option.map, reduceIte, Nat.reduceEqDiff, Nat.reduceAdd, Nat.reduceMul, Nat.reduceLT, Nat.reduceLeDiff, List.mapM_cons, List.mapM_nil, Option.pure_def, Option.bind_eq_bind, Option.bind_some, implies_true, forall_const, beq_self_eq_true, decide_true, decide_false, eq_self, Int.reduceEq, Int.reduceLE, Int.reduceLT, if_true, if_false, grpK, Int.reduceAdd, Int.reduceSub, Int.reduceMul, Int.reduceNeg, Int.reducePow, Nat.reducePow, Int.reduceToNat, Nat.reduceSub, List.replicate, Nat.reduceBEq, wAs, wA, wC, zipW, noDupN, grpE, beq_true, beq_false, g_impl_RootNumber, g_impl_InnerOfTurns, grpC, en0, dc_en0]
      all_goals (try simp only [*, m_impl_LengthOfTurn, Bool.and_true, Bool.true_and, Bool.and_false, Bool.false_and, Bool.or_true, Bool.true_or, Bool.or_false, Bool.false_or, Bool.not_true, Bool.not_false, Bool.false_eq_true, if_true, if_false, reduceIte, decide_true, decide_false])
      all_goals (try (simp_all; done))
    · cases h
  · cases h
def m_impl_isLength (x0 : Nat) : Bool := (if (m_impl_IsFinite x0) = true then (!(feq .f32 x0 0)) else false)
def g_impl_isLength : List AV → Option AV
  | [.flt .f32 y0] => some (.bool (m_impl_isLength y0))
  | _ => none
def ic86 : ICode := (.seq (.reg [⟨(some 2), none, (.mov (.c (.bool false)))⟩] [0]) (.seq (.reg [⟨(some 3), none, (.mov (.t 0))⟩, ⟨(some 4), none, (.call (.fn 60) [(.t 3)] [])⟩, ⟨(some 5), none, (.mov (.t 4))⟩, ⟨(some 6), (some (5, true)), (.mov (.t 0))⟩, ⟨(some 7), (some (5, true)), (.bin .neq false (.t 6) (.c (.flt .f32 0)))⟩, ⟨(some 8), none, (.pick (.t 5) (.t 7) (.c (.bool false)))⟩, ⟨(some 2), none, (.mov (.t 8))⟩] [2]) .ret))
def cp86 : CP := CP.mk [] [] [[0], [2]] 9 [] []
theorem s86 : ∀ vs r, g_impl_isLength vs = some r → SaysM Try.prog .any 86 vs r := by
  intro vs r h
  unfold g_impl_isLength at h
  split at h
  · rename_i y0
    cases h
    refine spec_of (m := .any) (tab := tabOf [(60, wM .any g_impl_IsFinite)]) (cp := cp86) (ic := ic86) (rvl := [(.t 2)]) hm (tabOk_cons (m := .any) s60 tabOk_nil) Try.func86 rfl rfl rfl (by kernel_rfl) rfl (Nat.le_of_ble_eq_true rfl) (Nat.le_of_ble_eq_true rfl) ?_
    show eA _ _ _ _
    unfold ic86
    refine eS_to ?_
    repeat' (first
      | ((first | (have h := True.intro; refine eS_of ?_) | (refine eGI_of (fun h => ?_) (fun h => ?_)) | (refine eCc_of (fun h => ?_) (fun h => ?_)) | (refine ePk_of (fun h => ?_) (fun h => ?_))) <;> (try simp only [Bool.not_eq_true', Bool.not_eq_false'] at h) <;> (try first | exact absurd (Eq.trans (Eq.symm h) (by assumption)) Bool.false_ne_true | exact absurd (Eq.trans (Eq.symm h) (by assumption)) (Ne.symm Bool.false_ne_true)) <;> simp only [h,
        grpA, vsliceS, grpS, grpD, grpF, grpL, eop, vop, bop, uop, fltop, convop, endOk, newE, new1, freshL, Md.isNew, outV, pureV, pureX, pure1, AV.cells, AV.one, storable, laid, refless, refless1, vload, loadC, storeC, vnil, vfaddr, vextract, flatT, flatE, flatC, vconv, vmm, vidxA, viaddrA, vfield, vlen, elemsOf, dF32, dF64, dI64, dU8, dBool, dStr, esOk, elemsS, vsliceX, bnd, ownV, ownC, own1, ownT, isSl, nSl, endL, Md.isOwn, purge, purgeH, purgeB, purgeE, hasName, name1, List.any_cons, List.any_nil, Md.isWr, pureV.pureP, Option.map, reduceIte, Nat.reduceEqDiff, Nat.reduceAdd, Nat.reduceMul, Nat.reduceLT, Nat.reduceLeDiff, List.mapM_cons, List.mapM_nil, Option.pure_def, Option.bind_eq_bind, Option.bind_some, implies_true, forall_const, beq_self_eq_true, decide_true, decide_false, eq_self, Int.reduceEq, Int.reduceLE, Int.reduceLT, if_true, if_false, grpK, Int.reduceAdd, Int.reduceSub, Int.reduceMul, Int.reduceNeg, Int.reducePow, Nat.reducePow, Int.reduceToNat, Nat.reduceSub, List.replicate, Nat.reduceBEq, wAs, wA, wC, zipW, noDupN, grpE, beq_true, beq_false, g_impl_IsFinite, grpC, en0, dc_en0, ↓b_pick, ePk_true, ePk_false]))
    all_goals (try simp only [*, m_impl_isLength, Bool.and_true, Bool.true_and, Bool.and_false, Bool.false_and, Bool.or_true, Bool.true_or, Bool.or_false, Bool.false_or, Bool.not_true, Bool.not_false, Bool.false_eq_true, if_true, if_false, reduceIte, decide_true, decide_false])
    all_goals (try (simp_all; done))
  · cases h
def m_impl_NoTurn  : (Nat × Nat × Nat × Nat) := (1065353216, 0, 0, 0)
def g_impl_NoTurn : List AV → Option AV
  | [] => some (AV.agg [(.flt .f32 (m_impl_NoTurn).1), (.flt .f32 (m_impl_NoTurn).2.1), (.flt .f32 (m_impl_NoTurn).2.2.1), (.flt .f32 (m_impl_NoTurn).2.2.2)])
  | _ => none
def ic87 : ICode := (.seq (.reg [⟨(some 0), none, (.alloc (.agg [(.flt .f32 0), (.flt .f32 0), (.flt .f32 0), (.flt .f32 0)]))⟩] [0]) (.seq (.reg [⟨(some 1), none, (.build [(.flt .f32 0), (.flt .f32 0), (.flt .f32 0), (.flt .f32 0)] [(0, 1, (.c (.flt .f32 1065353216)))])⟩, ⟨none, none, (.store 4 (.t 0) (.t 1))⟩] [0]) .ret))
def cp87 : CP := CP.mk [] [] [[0], [0]] 2 [] []
theorem s87 : ∀ vs r, g_impl_NoTurn vs = some r → SaysM Try.prog .any 87 vs r := by
  intro vs r h
  unfold g_impl_NoTurn at h
  split at h
  · cases h
    refine spec_of (m := .any) (tab := tabOf []) (cp := cp87) (ic := ic87) (rvl := [(.c 0 (some 4))]) hm tabOk_nil Try.func87 rfl rfl rfl (by kernel_rfl) rfl (Nat.le_of_ble_eq_true rfl) (Nat.le_of_ble_eq_true rfl) ?_
    show eA _ _ _ _
    unfold ic87
    simp only [
        grpA, vsliceS, grpS, grpD, grpF, grpL, eop, vop, bop, uop, fltop, convop, endOk, newE, new1, freshL, Md.isNew, outV, pureV, pureX, pure1, AV.cells, AV.one, storable, laid, refless, refless1, vload, loadC, storeC, vnil, vfaddr, vextract, flatT, flatE, flatC, vconv, vmm, vidxA, viaddrA, vfield, vlen, elemsOf, dF32, dF64, dI64, dU8, dBool, dStr, esOk, elemsS, vsliceX, bnd, ownV, ownC, own1, ownT, isSl, nSl, endL, Md.isOwn, purge, purgeH, purgeB, purgeE, hasName, name1, List.any_cons, List.any_nil, Md.isWr, pureV.pureP, Option.map, reduceIte, Nat.reduceEqDiff, Nat.reduceAdd, Nat.reduceMul, Nat.reduceLT, Nat.reduceLeDiff, List.mapM_cons, List.mapM_nil, Option.pure_def, Option.bind_eq_bind, Option.bind_some, implies_true, forall_const, beq_self_eq_true, decide_true, decide_false, eq_self, Int.reduceEq, Int.reduceLE, Int.reduceLT, if_true, if_false, grpK, Int.reduceAdd, Int.reduceSub, Int.reduceMul, Int.reduceNeg, Int.reducePow, Nat.reducePow, Int.reduceToNat, Nat.reduceSub, List.replicate, Nat.reduceBEq, wAs, wA, wC, zipW, noDupN, grpE, beq_true, beq_false, grpC, en0, dc_en0]
    all_goals (try simp only [*, m_impl_NoTurn, Bool.and_true, Bool.true_and, Bool.and_false, Bool.false_and, Bool.or_true, Bool.true_or, Bool.or_false, Bool.false_or, Bool.not_true, Bool.not_false, Bool.false_eq_true, if_true, if_false, reduceIte, decide_true, decide_false])
    all_goals (try (simp_all; done))
  · cases h
def m_impl_MendTurn (x0 : (Nat × Nat × Nat × Nat)) : (Nat × Nat × Nat × Nat) := (if (m_impl_isLength (m_impl_LengthOfTurn x0)) = true then ((fdiv .f32 x0.1 (m_impl_LengthOfTurn x0)), (fdiv .f32 x0.2.1 (m_impl_LengthOfTurn x0)), (fdiv .f32 x0.2.2.1 (m_impl_LengthOfTurn x0)), (fdiv .f32 x0.2.2.2 (m_impl_LengthOfTurn x0))) else (m_impl_NoTurn))
def p_impl_MendTurn (x0 : (Nat × Nat × Nat × Nat)) : Bool := (p_impl_LengthOfTurn x0)
def g_impl_MendTurn : List AV → Option AV
  | [.agg [.flt .f32 y0, .flt .f32 y1, .flt .f32 y2, .flt .f32 y3]] => if p_impl_MendTurn (y0, y1, y2, y3) = true then some (AV.agg [(.flt .f32 (m_impl_MendTurn (y0, y1, y2, y3)).1), (.flt .f32 (m_impl_MendTurn (y0, y1, y2, y3)).2.1), (.flt .f32 (m_impl_MendTurn (y0, y1, y2, y3)).2.2.1), (.flt .f32 (m_impl_MendTurn (y0, y1, y2, y3)).2.2.2)]) else none
  | _ => none
def ic54 : ICode := (.seq (.reg [⟨(some 1), none, (.box 4 (.t 0))⟩, ⟨(some 2), none, (.alloc (.agg [(.flt .f32 0), (.flt .f32 0), (.flt .f32 0), (.flt .f32 0)]))⟩] [1, 2]) (.seq (.reg [⟨(some 4), none, (.load (some 4) (.t 1))⟩, ⟨(some 5), none, (.call (.fn 85) [(.t 4)] [])⟩, ⟨(some 3), none, (.mov (.t 5))⟩] [1, 2, 3]) (.seq (.seq (.reg [⟨(some 6), none, (.mov (.t 3))⟩, ⟨(some 7), none, (.call (.fn 86) [(.t 6)] [])⟩, ⟨(some 8), none, (.un .not (.t 7))⟩] [1, 2, 3, 8]) (.cond (.t 8) (.seq (.reg [⟨(some 9), none, (.call (.fn 87) [] [])⟩, ⟨none, none, (.store 4 (.t 2) (.t 9))⟩] [2]) .ret) .skip)) (.seq (.reg [⟨(some 10), none, (.faddr 0 (.t 1))⟩, ⟨(some 11), none, (.load none (.t 10))⟩, ⟨(some 12), none, (.mov (.t 3))⟩, ⟨(some 13), none, (.bin .quo false (.t 11) (.t 12))⟩, ⟨(some 14), none, (.faddr 1 (.t 1))⟩, ⟨(some 15), none, (.load none (.t 14))⟩, ⟨(some 16), none, (.mov (.t 3))⟩, ⟨(some 17), none, (.bin .quo false (.t 15) (.t 16))⟩, ⟨(some 18), none, (.faddr 2 (.t 1))⟩, ⟨(some 19), none, (.load none (.t 18))⟩, ⟨(some 20), none, (.mov (.t 3))⟩, ⟨(some 21), none, (.bin .quo false (.t 19) (.t 20))⟩, ⟨(some 22), none, (.faddr 3 (.t 1))⟩, ⟨(some 23), none, (.load none (.t 22))⟩, ⟨(some 24), none, (.mov (.t 3))⟩, ⟨(some 25), none, (.bin .quo false (.t 23) (.t 24))⟩, ⟨(some 26), none, (.build [(.flt .f32 0), (.flt .f32 0), (.flt .f32 0), (.flt .f32 0)] [(0, 1, (.t 13)), (1, 1, (.t 17)), (2, 1, (.t 21)), (3, 1, (.t 25))])⟩, ⟨none, none, (.store 4 (.t 2) (.t 26))⟩] [2]) .ret))))
def cp54 : CP := CP.mk [] [] [[1, 2], [1, 2, 3], [1, 2, 3, 8], [2], [2]] 27 [] []
theorem s54 : ∀ vs r, g_impl_MendTurn vs = some r → SaysM Try.prog .any 54 vs r := by
  intro vs r h
  unfold g_impl_MendTurn at h
  split at h
  · rename_i y0 y1 y2 y3
    split at h
    · rename_i hp
      cases h
      refine spec_of (m := .any) (tab := tabOf [(85, wM .any g_impl_LengthOfTurn), (86, wM .any g_impl_isLength), (87, wM .any g_impl_NoTurn)]) (cp := cp54) (ic := ic54) (rvl := [(.c 2 (some 4))]) hm (tabOk_cons (m := .any) s85 (tabOk_cons (m := .any) s86 (tabOk_cons (m := .any) s87 tabOk_nil))) Try.func54 rfl rfl rfl (by kernel_rfl) rfl (Nat.le_of_ble_eq_true rfl) (Nat.le_of_ble_eq_true rfl) ?_
      show eA _ _ _ _
      unfold ic54
      simp only [p_impl_MendTurn, Bool.and_eq_true, Bool.or_eq_true, decide_eq_true_eq, Bool.not_eq_true', decide_eq_false_iff_not] at hp
      refine eS_to ?_
      repeat' (first
        | ((first | (have h := True.intro; refine eS_of ?_) | (refine eGI_of (fun h => ?_) (fun h => ?_)) | (refine eCc_of (fun h => ?_) (fun h => ?_))) <;> (try simp only [Bool.not_eq_true', Bool.not_eq_false'] at h) <;> (try first | exact absurd (Eq.trans (Eq.symm h) (by assumption)) Bool.false_ne_true | exact absurd (Eq.trans (Eq.symm h) (by assumption)) (Ne.symm Bool.false_ne_true)) <;> (try simp only [h, reduceCtorEq, grpN, Int.reduceEq, Int.reduceLT, Int.reduceLE, if_true, if_false, reduceIte] at hp) <;> (first | (have h2 := h; simp only [decide_eq_true_eq, decide_eq_false_iff_not] at h2; (first | (replace h2 := eq_false h2) | (replace h2 := eq_true h2)); (try simp only [h2, reduceCtorEq, grpN, Int.reduceEq, Int.reduceLT, Int.reduceLE, if_true, if_false, reduceIte] at hp); replace hp := And.intro h2 hp) | (replace hp := And.intro h hp) | skip) <;> simp only [h,
          hp, grpA, vsliceS, grpS, grpD, grpF, grpL, eop, vop, bop, uop, fltop, convop, endOk, newE, new1, freshL, Md.isNew, outV, pureV, pureX, pure1, AV.cells, AV.one, storable, laid, refless, refless1, vload, loadC, storeC, vnil, vfaddr, vextract, flatT, flatE, flatC, vconv, vmm, vidxA, viaddrA, vfield, vlen, elemsOf, dF32, dF64, dI64, dU8, dBool, dStr, esOk, elemsS, vsliceX, bnd, ownV, ownC, own1, ownT, isSl, nSl, endL, Md.isOwn, purge, purgeH, purgeB, purgeE, hasName, name1, List.any_cons, List.any_nil, Md.isWr, pureV.pureP, Option.map, reduceIte, Nat.reduceEqDiff, Nat.reduceAdd, Nat.reduceMul, Nat.reduceLT, Nat.reduceLeDiff, List.mapM_cons, List.mapM_nil, Option.pure_def, Option.bind_eq_bind, Option.bind_some, implies_true, forall_const, beq_self_eq_true, decide_true, decide_false, eq_self, Int.reduceEq, Int.reduceLE, Int.reduceLT, if_true, if_false, grpK, Int.reduceAdd, Int.reduceSub, Int.reduceMul, Int.reduceNeg, Int.reducePow, Nat.reducePow, Int.reduceToNat, Nat.reduceSub, List.replicate, Nat.reduceBEq, wAs, wA, wC, zipW, noDupN, grpE, beq_true, beq_false, g_impl_LengthOfTurn, g_impl_isLength, g_impl_NoTurn, grpC, en0, dc_en0]))
      all_goals (try simp only [*, m_impl_MendTurn, Bool.and_true, Bool.true_and, Bool.and_false, Bool.false_and, Bool.or_true, Bool.true_or, Bool.or_false, Bool.false_or, Bool.not_true, Bool.not_false, Bool.false_eq_true, if_true, if_false, reduceIte, decide_true, decide_false])
      all_goals (try (simp_all; done))
    · cases h
  · cases h
def m_impl_Turn_numbers (x0 : (Nat × Nat × Nat × Nat)) : (Nat × Nat × Nat × Nat) := x0
def g_impl_Turn_numbers : List AV → Option AV
  | [.agg [.flt .f32 y0, .flt .f32 y1, .flt .f32 y2, .flt .f32 y3]] => some (AV.agg [(.flt .f32 (m_impl_Turn_numbers (y0, y1, y2, y3)).1), (.flt .f32 (m_impl_Turn_numbers (y0, y1, y2, y3)).2.1), (.flt .f32 (m_impl_Turn_numbers (y0, y1, y2, y3)).2.2.1), (.flt .f32 (m_impl_Turn_numbers (y0, y1, y2, y3)).2.2.2)])
  | _ => none
end Go.Proofs
