/- What functions that FnExactMixTurns reaches compute, and that the program's and the reference's answers are the same. No conditions. -/
import Derived.Test.YtpoghajdcdfhbadMixTurnsY0
set_option maxRecDepth 100000
set_option maxHeartbeats 4000000
set_option linter.all false
namespace Go.Proofs
open Go.Ab
theorem s32 : ∀ vs r, g_laws_eqFloat32S vs = some r → SaysM Try.prog .any 32 vs r := by
  intro vs r h
  unfold g_laws_eqFloat32S at h
  split at h
  · rename_i w0 w1
    cases hd_y0 : decL dF32 w0 with
    | none => rw [hd_y0] at h; cases h
    | some y0 =>
    rw [hd_y0] at h
    obtain rfl := decL_inv dF32_inv hd_y0
    clear hd_y0
    dsimp only at h
    cases hd_y1 : decL dF32 w1 with
    | none => rw [hd_y1] at h; cases h
    | some y1 =>
    rw [hd_y1] at h
    obtain rfl := decL_inv dF32_inv hd_y1
    clear hd_y1
    dsimp only at h
    split at h
    · rename_i hp
      cases h
      refine spec_of (m := .any) (tab := tabOf [(61, wM .any g_laws_sameFloat)]) (cp := cp32) (ic := ic32) (rvl := [(.t 4)]) hm (tabOk_cons (m := .any) s61 tabOk_nil) Try.func32 rfl rfl rfl (by kernel_rfl) rfl (Nat.le_of_ble_eq_true rfl) (Nat.le_of_ble_eq_true rfl) ?_
      show eA _ _ _ _
      unfold ic32
      simp only [p_laws_eqFloat32S, Bool.and_eq_true, Bool.or_eq_true, decide_eq_true_eq, Bool.not_eq_true', decide_eq_false_iff_not] at hp
      simp only [
          hp, grpS, grpD, grpF, grpL, eop, vop, bop, uop, fltop, convop, endOk, newE, new1, freshL, Md.isNew, outV, pureV, pureX, pure1, AV.cells, AV.one, storable, laid, refless,
                refless1, vload, loadC, storeC, vnil, vfaddr, vextract, flatT, flatE, flatC, vconv, vmm, vidxA, viaddrA, vfield, vlen, elemsOf, dF32, dF64, dI64, dU8, dBool, dStr,
                esOk, elemsS, vsliceX, bnd, ownV, ownC, own1, ownT, isSl, nSl, endL, Md.isOwn, purge, purgeH, purgeB, purgeE, hasName, name1, List.any_cons, List.any_nil, Md.isWr,
                pureV.pureP, Option.map, reduceIte, Nat.reduceEqDiff, Nat.reduceAdd, Nat.reduceMul, Nat.reduceLT, Nat.reduceLeDiff, List.mapM_cons, List.mapM_nil, Option.pure_def,
                Option.bind_eq_bind, Option.bind_some, implies_true, forall_const, beq_self_eq_true, decide_true, decide_false, eq_self, Int.reduceEq, Int.reduceLE, Int.reduceLT,
                if_true, if_false, fc32_0, fc32_1, fc32_2, Int.reduceAdd, Int.reduceSub, Int.reduceMul, Int.reduceNeg, Int.reducePow, Nat.reducePow, Int.reduceToNat, Nat.reduceSub,
                List.replicate, Nat.reduceBEq, wAs, wA, wC, zipW, noDupN, grpE, g_laws_sameFloat, grpC, en0, dc_en0]
      repeat' (first
        | ((first | (refine eGI_of (fun h => ?_) (fun h => ?_)) | (refine eCc_of (fun h => ?_) (fun h => ?_)) | (have h := True.intro; refine KW_refl ?_)) <;> (try simp only [Bool.not_eq_true', Bool.not_eq_false'] at h) <;> (try simp only [h, reduceCtorEq, Bool.not_eq_true', decide_eq_false_iff_not, Bool.not_true, Bool.not_false, Bool.false_or, Bool.true_or, Bool.true_and, Bool.false_and, Bool.and_eq_true, Bool.or_eq_true, if_true, if_false, reduceIte, Bool.false_eq_true, and_true, true_and, false_or, or_false, decide_eq_true_eq, not_false_eq_true, not_true_eq_false] at hp) <;> (try (have h2 := h; simp only [decide_eq_true_eq, decide_eq_false_iff_not] at h2; (first | (replace h2 := eq_false h2) | (replace h2 := eq_true h2)); simp only [h2, if_true, if_false, false_or, true_or, or_true, or_false, and_true, true_and, not_false_eq_true, not_true_eq_false] at hp)) <;> simp only [h,
          hp, grpS, grpD, grpF, grpL, eop, vop, bop, uop, fltop, convop, endOk, newE, new1, freshL, Md.isNew, outV, pureV, pureX, pure1, AV.cells, AV.one, storable, laid, refless,
                refless1, vload, loadC, storeC, vnil, vfaddr, vextract, flatT, flatE, flatC, vconv, vmm, vidxA, viaddrA, vfield, vlen, elemsOf, dF32, dF64, dI64, dU8, dBool, dStr,
                esOk, elemsS, vsliceX, bnd, ownV, ownC, own1, ownT, isSl, nSl, endL, Md.isOwn, purge, purgeH, purgeB, purgeE, hasName, name1, List.any_cons, List.any_nil, Md.isWr,
                pureV.pureP, Option.map, reduceIte, Nat.reduceEqDiff, Nat.reduceAdd, Nat.reduceMul, Nat.reduceLT, Nat.reduceLeDiff, List.mapM_cons, List.mapM_nil, Option.pure_def,
                Option.bind_eq_bind, Option.bind_some, implies_true, forall_const, beq_self_eq_true, decide_true, decide_false, eq_self, Int.reduceEq, Int.reduceLE, Int.reduceLT,
                if_true, if_false, fc32_0, fc32_1, fc32_2, Int.reduceAdd, Int.reduceSub, Int.reduceMul, Int.reduceNeg, Int.reducePow, Nat.reducePow, Int.reduceToNat, Nat.reduceSub,
                List.replicate, Nat.reduceBEq, wAs, wA, wC, zipW, noDupN, grpE, g_laws_sameFloat, grpC, en0, dc_en0])
        | (refine eA_wk (wk_norm (ks := [0, 1, 5]) (ls := []) ?_) (eA_cast ?_ (sl32_0 y0 y1 _ _ _ _ (getD_some (d := default) (x := (l_laws_eqFloat32S_0 y0 y1 (Int.toNat (((List.length y0 : Nat) : Int) - 0) + 2) 0)) ?_) ?_ ?_)); (simp only [nilS, nilV, normOk, optIn, blkIn, nameIn, 
          hp, grpS, grpD, grpF, grpL, eop, vop, bop, uop, fltop, convop, endOk, newE, new1, freshL, Md.isNew, outV, pureV, pureX, pure1, AV.cells, AV.one, storable, laid, refless,
                refless1, vload, loadC, storeC, vnil, vfaddr, vextract, flatT, flatE, flatC, vconv, vmm, vidxA, viaddrA, vfield, vlen, elemsOf, dF32, dF64, dI64, dU8, dBool, dStr,
                esOk, elemsS, vsliceX, bnd, ownV, ownC, own1, ownT, isSl, nSl, endL, Md.isOwn, purge, purgeH, purgeB, purgeE, hasName, name1, List.any_cons, List.any_nil, Md.isWr,
                pureV.pureP, Option.map, reduceIte, Nat.reduceEqDiff, Nat.reduceAdd, Nat.reduceMul, Nat.reduceLT, Nat.reduceLeDiff, List.mapM_cons, List.mapM_nil, Option.pure_def,
                Option.bind_eq_bind, Option.bind_some, implies_true, forall_const, beq_self_eq_true, decide_true, decide_false, eq_self, Int.reduceEq, Int.reduceLE, Int.reduceLT,
                if_true, if_false, fc32_0, fc32_1, fc32_2, Int.reduceAdd, Int.reduceSub, Int.reduceMul, Int.reduceNeg, Int.reducePow, Nat.reducePow, Int.reduceToNat, Nat.reduceSub,
                List.replicate, Nat.reduceBEq, wAs, wA, wC, zipW, noDupN, grpE, g_laws_sameFloat, grpC, en0, dc_en0] <;> rfl); (simp only [nilS, nilV, normS,  List.map_append, List.length_append, List.map_set, List.length_set, List.map_replicate, List.length_replicate, List.map_nil, List.map_cons,
          hp, grpS, grpD, grpF, grpL, eop, vop, bop, uop, fltop, convop, endOk, newE, new1, freshL, Md.isNew, outV, pureV, pureX, pure1, AV.cells, AV.one, storable, laid, refless,
                refless1, vload, loadC, storeC, vnil, vfaddr, vextract, flatT, flatE, flatC, vconv, vmm, vidxA, viaddrA, vfield, vlen, elemsOf, dF32, dF64, dI64, dU8, dBool, dStr,
                esOk, elemsS, vsliceX, bnd, ownV, ownC, own1, ownT, isSl, nSl, endL, Md.isOwn, purge, purgeH, purgeB, purgeE, hasName, name1, List.any_cons, List.any_nil, Md.isWr,
                pureV.pureP, Option.map, reduceIte, Nat.reduceEqDiff, Nat.reduceAdd, Nat.reduceMul, Nat.reduceLT, Nat.reduceLeDiff, List.mapM_cons, List.mapM_nil, Option.pure_def,
                Option.bind_eq_bind, Option.bind_some, implies_true, forall_const, beq_self_eq_true, decide_true, decide_false, eq_self, Int.reduceEq, Int.reduceLE, Int.reduceLT,
                if_true, if_false, fc32_0, fc32_1, fc32_2, Int.reduceAdd, Int.reduceSub, Int.reduceMul, Int.reduceNeg, Int.reducePow, Nat.reducePow, Int.reduceToNat, Nat.reduceSub,
                List.replicate, Nat.reduceBEq, wAs, wA, wC, zipW, noDupN, grpE, g_laws_sameFloat, grpC, en0, dc_en0] <;> rfl); (simp only [hp]); (
        intro st2 ht hw; simp only [Kq_ret, Kb_ret, Kl_ret, ret_ok]; first | exact h0 _ hw | exact h0 _ rfl hw | exact h1 _ rfl hw | exact h0 _ ht hw | exact h1 _ ht hw | refine ⟨_, hw, ?_⟩); rotate_left; (
        intro st2 ht hw; (try simp only [ht, reduceCtorEq, Bool.not_eq_true', decide_eq_false_iff_not, Bool.not_true, Bool.not_false, Bool.false_or, Bool.true_or, Bool.true_and, Bool.false_and, Bool.and_eq_true, Bool.or_eq_true, if_true, if_false, reduceIte, Bool.false_eq_true, and_true, true_and, false_or, or_false, decide_eq_true_eq, not_false_eq_true, not_true_eq_false] at hp); simp only [
          hp, grpS, grpD, grpF, grpL, eop, vop, bop, uop, fltop, convop, endOk, newE, new1, freshL, Md.isNew, outV, pureV, pureX, pure1, AV.cells, AV.one, storable, laid, refless,
                refless1, vload, loadC, storeC, vnil, vfaddr, vextract, flatT, flatE, flatC, vconv, vmm, vidxA, viaddrA, vfield, vlen, elemsOf, dF32, dF64, dI64, dU8, dBool, dStr,
                esOk, elemsS, vsliceX, bnd, ownV, ownC, own1, ownT, isSl, nSl, endL, Md.isOwn, purge, purgeH, purgeB, purgeE, hasName, name1, List.any_cons, List.any_nil, Md.isWr,
                pureV.pureP, Option.map, reduceIte, Nat.reduceEqDiff, Nat.reduceAdd, Nat.reduceMul, Nat.reduceLT, Nat.reduceLeDiff, List.mapM_cons, List.mapM_nil, Option.pure_def,
                Option.bind_eq_bind, Option.bind_some, implies_true, forall_const, beq_self_eq_true, decide_true, decide_false, eq_self, Int.reduceEq, Int.reduceLE, Int.reduceLT,
                if_true, if_false, fc32_0, fc32_1, fc32_2, Int.reduceAdd, Int.reduceSub, Int.reduceMul, Int.reduceNeg, Int.reducePow, Nat.reducePow, Int.reduceToNat, Nat.reduceSub,
                List.replicate, Nat.reduceBEq, wAs, wA, wC, zipW, noDupN, grpE, g_laws_sameFloat, grpC, en0, dc_en0]; refine KW_of hw ?_; simp only [ht, 
          hp, grpS, grpD, grpF, grpL, eop, vop, bop, uop, fltop, convop, endOk, newE, new1, freshL, Md.isNew, outV, pureV, pureX, pure1, AV.cells, AV.one, storable, laid, refless,
                refless1, vload, loadC, storeC, vnil, vfaddr, vextract, flatT, flatE, flatC, vconv, vmm, vidxA, viaddrA, vfield, vlen, elemsOf, dF32, dF64, dI64, dU8, dBool, dStr,
                esOk, elemsS, vsliceX, bnd, ownV, ownC, own1, ownT, isSl, nSl, endL, Md.isOwn, purge, purgeH, purgeB, purgeE, hasName, name1, List.any_cons, List.any_nil, Md.isWr,
                pureV.pureP, Option.map, reduceIte, Nat.reduceEqDiff, Nat.reduceAdd, Nat.reduceMul, Nat.reduceLT, Nat.reduceLeDiff, List.mapM_cons, List.mapM_nil, Option.pure_def,
                Option.bind_eq_bind, Option.bind_some, implies_true, forall_const, beq_self_eq_true, decide_true, decide_false, eq_self, Int.reduceEq, Int.reduceLE, Int.reduceLT,
                if_true, if_false, fc32_0, fc32_1, fc32_2, Int.reduceAdd, Int.reduceSub, Int.reduceMul, Int.reduceNeg, Int.reducePow, Nat.reducePow, Int.reduceToNat, Nat.reduceSub,
                List.replicate, Nat.reduceBEq, wAs, wA, wC, zipW, noDupN, grpE, g_laws_sameFloat, grpC, en0, dc_en0])))
      all_goals (try simp only [*, m_laws_eqFloat32S, Bool.and_true, Bool.true_and, Bool.and_false, Bool.false_and, Bool.or_true, Bool.true_or, Bool.or_false, Bool.false_or, Bool.not_true, Bool.not_false, Bool.false_eq_true, if_true, if_false, reduceIte, decide_true, decide_false])
      all_goals (try (simp_all; done))
    · cases h
  · cases h
def m_laws_FnExactMixTurns (x0 : (List (Nat × Nat × Nat × Nat))) (x1 : (List Nat)) : Bool := (if (decide (1048576 < ((List.length x1 : Nat) : Int))) = true then true else (if
      (decide ((m_laws_szTurnS x0 1048576) < 0)) = true then true else (if (m_laws_eqTurn (m_impl_MixTurns (m_laws_toTurnS x0) (m_laws_toFloat32S x1)).1 (m_spec_MixTurns
      (m_laws_toTurnS x0) (m_laws_toFloat32S x1)).1) = true then (if ((m_impl_MixTurns (m_laws_toTurnS x0) (m_laws_toFloat32S x1)).2 == (m_spec_MixTurns (m_laws_toTurnS x0)
      (m_laws_toFloat32S x1)).2) = true then (if (m_laws_eqTurnS (m_laws_toTurnS x0) (m_laws_toTurnS x0)) = true then (if (m_laws_eqFloat32S (m_laws_toFloat32S x1)
      (m_laws_toFloat32S x1)) = true then true else false) else false) else false) else false)))
def p_laws_FnExactMixTurns (x0 : (List (Nat × Nat × Nat × Nat))) (x1 : (List Nat)) : Bool := ((decide (1048576 < ((List.length x1 : Nat) : Int))) || ((decide ((m_laws_szTurnS x0
      1048576) < 0)) || ((p_laws_toTurnS x0) && ((p_laws_toFloat32S x1) && ((p_spec_MixTurns (m_laws_toTurnS x0) (m_laws_toFloat32S x1)) && ((p_impl_MixTurns (m_laws_toTurnS x0)
      (m_laws_toFloat32S x1)) && (!(m_laws_eqTurn (m_impl_MixTurns (m_laws_toTurnS x0) (m_laws_toFloat32S x1)).1 (m_spec_MixTurns (m_laws_toTurnS x0) (m_laws_toFloat32S x1)).1) ||
      (!((m_impl_MixTurns (m_laws_toTurnS x0) (m_laws_toFloat32S x1)).2 == (m_spec_MixTurns (m_laws_toTurnS x0) (m_laws_toFloat32S x1)).2) || ((p_laws_eqTurnS (m_laws_toTurnS x0)
      (m_laws_toTurnS x0)) && (!(m_laws_eqTurnS (m_laws_toTurnS x0) (m_laws_toTurnS x0)) || (p_laws_eqFloat32S (m_laws_toFloat32S x1) (m_laws_toFloat32S x1))))))))))))
def g_laws_FnExactMixTurns : List AV → Option AV
  | [.sl w0, .sl w1] => (match decL dc_en0 w0 with | some y0 => ((match decL dF32 w1 with | some y1 => (if p_laws_FnExactMixTurns y0 y1 = true then some (.bool (m_laws_FnExactMixTurns y0 y1)) else none) | none => none)) | none => none)
  | _ => none
def ic4 : ICode := (.seq (.reg [⟨(some 4), none, (.mov (.c (.bool false)))⟩] [0, 1]) (.seq (.seq (.reg [⟨(some 12), none, (.mov (.t 1))⟩, ⟨(some 13), none, (.len false (.t 12))⟩,
      ⟨(some 14), none, (.bin .gtr false (.t 13) (.c (.int .i64 1048576)))⟩] [0, 1, 14]) (.cond (.t 14) (.seq (.reg [⟨(some 4), none, (.mov (.c (.bool true)))⟩] [4]) .ret) .skip))
      (.seq (.reg [⟨(some 5), none, (.mov (.c (.int .i64 1048576)))⟩] [0, 1, 5]) (.seq (.reg [⟨(some 15), none, (.mov (.t 0))⟩, ⟨(some 16), none, (.mov (.t 5))⟩, ⟨(some 17), none,
      (.call (.fn 26) [(.t 15), (.t 16)] [])⟩, ⟨(some 5), none, (.mov (.t 17))⟩] [0, 1, 5]) (.seq (.seq (.reg [⟨(some 18), none, (.mov (.t 5))⟩, ⟨(some 19), none, (.bin .lss false
      (.t 18) (.c (.int .i64 0)))⟩] [0, 1, 19]) (.cond (.t 19) (.seq (.reg [⟨(some 4), none, (.mov (.c (.bool true)))⟩] [4]) .ret) .skip)) (.seq (.reg [⟨(some 21), none, (.mov (.t
      0))⟩, ⟨(some 22), none, (.call (.fn 28) [(.t 21)] [])⟩, ⟨(some 23), none, (.mov (.t 1))⟩, ⟨(some 24), none, (.call (.fn 29) [(.t 23)] [])⟩, ⟨(some 25), none, (.call (.fn 27)
      [(.t 22), (.t 24)] [])⟩, ⟨(some 20), none, (.mov (.t 25))⟩, ⟨(some 26), none, (.extract (.t 20) 0)⟩, ⟨(some 27), none, (.extract (.t 20) 1)⟩, ⟨(some 6), none, (.alloc (.agg
      [(.flt .f32 0), (.flt .f32 0), (.flt .f32 0), (.flt .f32 0)]))⟩, ⟨none, none, (.store 4 (.t 6) (.t 26))⟩, ⟨(some 7), none, (.mov (.t 27))⟩] [0, 1, 6, 7]) (.seq (.reg [⟨(some
      28), none, (.mov (.t 0))⟩, ⟨(some 29), none, (.call (.fn 28) [(.t 28)] [])⟩, ⟨(some 8), none, (.mov (.t 29))⟩] [0, 1, 6, 7, 8]) (.seq (.reg [⟨(some 30), none, (.mov (.t 1))⟩,
      ⟨(some 31), none, (.call (.fn 29) [(.t 30)] [])⟩, ⟨(some 9), none, (.mov (.t 31))⟩] [0, 1, 6, 7, 8, 9]) (.seq (.reg [⟨(some 33), none, (.mov (.t 8))⟩, ⟨(some 34), none, (.mov
      (.t 9))⟩, ⟨(some 35), none, (.call (.fn 30) [(.t 33), (.t 34)] [])⟩, ⟨(some 32), none, (.mov (.t 35))⟩, ⟨(some 36), none, (.extract (.t 32) 0)⟩, ⟨(some 37), none, (.extract
      (.t 32) 1)⟩, ⟨(some 10), none, (.alloc (.agg [(.flt .f32 0), (.flt .f32 0), (.flt .f32 0), (.flt .f32 0)]))⟩, ⟨none, none, (.store 4 (.t 10) (.t 36))⟩, ⟨(some 11), none, (.mov
      (.t 37))⟩] [0, 1, 6, 7, 8, 9, 10, 11]) (.seq (.seq (.reg [⟨(some 38), none, (.load (some 4) (.t 10))⟩, ⟨(some 39), none, (.load (some 4) (.t 6))⟩, ⟨(some 40), none, (.call
      (.fn 31) [(.t 38), (.t 39)] [])⟩, ⟨(some 41), none, (.un .not (.t 40))⟩, ⟨(some 42), none, (.mov (.t 41))⟩, ⟨(some 43), (some (42, false)), (.mov (.t 11))⟩, ⟨(some 44), (some
      (42, false)), (.mov (.t 7))⟩, ⟨(some 45), (some (42, false)), (.bin .neq true (.t 43) (.t 44))⟩, ⟨(some 46), none, (.pick (.t 42) (.c (.bool true)) (.t 45))⟩] [0, 1, 8, 9,
      46]) (.cond (.t 46) (.seq (.reg [⟨(some 4), none, (.mov (.c (.bool false)))⟩] [4]) .ret) .skip)) (.seq (.seq (.reg [⟨(some 47), none, (.mov (.t 8))⟩, ⟨(some 48), none, (.mov
      (.t 0))⟩, ⟨(some 49), none, (.call (.fn 28) [(.t 48)] [])⟩, ⟨(some 50), none, (.call (.fn 16) [(.t 47), (.t 49)] [])⟩, ⟨(some 51), none, (.un .not (.t 50))⟩] [1, 9, 51])
      (.cond (.t 51) (.seq (.reg [⟨(some 4), none, (.mov (.c (.bool false)))⟩] [4]) .ret) .skip)) (.seq (.seq (.reg [⟨(some 52), none, (.mov (.t 9))⟩, ⟨(some 53), none, (.mov (.t
      1))⟩, ⟨(some 54), none, (.call (.fn 29) [(.t 53)] [])⟩, ⟨(some 55), none, (.call (.fn 32) [(.t 52), (.t 54)] [])⟩, ⟨(some 56), none, (.un .not (.t 55))⟩] [56]) (.cond (.t 56)
      (.seq (.reg [⟨(some 4), none, (.mov (.c (.bool false)))⟩] [4]) .ret) .skip)) (.seq (.reg [⟨(some 4), none, (.mov (.c (.bool true)))⟩] [4]) .ret)))))))))))))
def cp4 : CP := CP.mk [] [] [[0, 1], [0, 1, 14], [4], [0, 1, 5], [0, 1, 5], [0, 1, 19], [4], [0, 1, 6, 7], [0, 1, 6, 7, 8], [0, 1, 6, 7, 8, 9], [0, 1, 6, 7, 8, 9, 10, 11], [0, 1, 8,
      9, 46], [4], [1, 9, 51], [4], [56], [4], [4]] 57
theorem fc4_0 : IntKind.wrap .i64 1 = 1 := by decide
theorem fc4_1 : IntKind.wrap .i64 2 = 2 := by decide
theorem fc4_2 : IntKind.wrap .i64 3 = 3 := by decide
theorem s4 : ∀ vs r, g_laws_FnExactMixTurns vs = some r → SaysM Try.prog .any 4 vs r := by
  intro vs r h
  unfold g_laws_FnExactMixTurns at h
  split at h
  · rename_i w0 w1
    cases hd_y0 : decL dc_en0 w0 with
    | none => rw [hd_y0] at h; cases h
    | some y0 =>
    rw [hd_y0] at h
    obtain rfl := decL_inv dc_en0_inv hd_y0
    clear hd_y0
    dsimp only at h
    cases hd_y1 : decL dF32 w1 with
    | none => rw [hd_y1] at h; cases h
    | some y1 =>
    rw [hd_y1] at h
    obtain rfl := decL_inv dF32_inv hd_y1
    clear hd_y1
    dsimp only at h
    split at h
    · rename_i hp
      cases h
      refine spec_of (m := .any) (tab := tabOf [(16, wM .any g_laws_eqTurnS), (26, wM .any g_laws_szTurnS), (27, wM .any g_spec_MixTurns), (28, wM (.own [4]) g_laws_toTurnS), (29, wM (.own [1]) g_laws_toFloat32S), (30, wM .any g_impl_MixTurns), (31, wM .any g_laws_eqTurn), (32, wM .any g_laws_eqFloat32S)]) (cp := cp4) (ic := ic4) (rvl := [(.t 4)]) hm (tabOk_cons (m := .any) s16 (tabOk_cons (m := .any) s26 (tabOk_cons (m := .any) s27 (tabOk_cons (m := (.own [4])) s28 (tabOk_cons (m := (.own [1])) s29 (tabOk_cons (m := .any) s30 (tabOk_cons (m := .any) s31 (tabOk_cons (m := .any) s32 tabOk_nil)))))))) Try.func4 rfl rfl rfl (by kernel_rfl) rfl (Nat.le_of_ble_eq_true rfl) (Nat.le_of_ble_eq_true rfl) ?_
      show eA _ _ _ _
      unfold ic4
      simp only [p_laws_FnExactMixTurns, Bool.and_eq_true, Bool.or_eq_true, decide_eq_true_eq, Bool.not_eq_true', decide_eq_false_iff_not] at hp
      simp only [
          hp, grpS, grpD, grpF, grpL, eop, vop, bop, uop, fltop, convop, endOk, newE, new1, freshL, Md.isNew, outV, pureV, pureX, pure1, AV.cells, AV.one, storable, laid, refless,
                refless1, vload, loadC, storeC, vnil, vfaddr, vextract, flatT, flatE, flatC, vconv, vmm, vidxA, viaddrA, vfield, vlen, elemsOf, dF32, dF64, dI64, dU8, dBool, dStr,
                esOk, elemsS, vsliceX, bnd, ownV, ownC, own1, ownT, isSl, nSl, endL, Md.isOwn, purge, purgeH, purgeB, purgeE, hasName, name1, List.any_cons, List.any_nil, Md.isWr,
                pureV.pureP, Option.map, reduceIte, Nat.reduceEqDiff, Nat.reduceAdd, Nat.reduceMul, Nat.reduceLT, Nat.reduceLeDiff, List.mapM_cons, List.mapM_nil, Option.pure_def,
                Option.bind_eq_bind, Option.bind_some, implies_true, forall_const, beq_self_eq_true, decide_true, decide_false, eq_self, Int.reduceEq, Int.reduceLE, Int.reduceLT,
                if_true, if_false, fc4_0, fc4_1, fc4_2, Int.reduceAdd, Int.reduceSub, Int.reduceMul, Int.reduceNeg, Int.reducePow, Nat.reducePow, Int.reduceToNat, Nat.reduceSub,
                List.replicate, Nat.reduceBEq, wAs, wA, wC, zipW, noDupN, grpE, g_laws_eqTurnS, g_laws_szTurnS, g_spec_MixTurns, g_laws_toTurnS, g_laws_toFloat32S, g_impl_MixTurns,
                g_laws_eqTurn, g_laws_eqFloat32S, grpC, en0, dc_en0, ↓b_pick, ePk_true, ePk_false]
      repeat' (first
        | ((first | (refine eGI_of (fun h => ?_) (fun h => ?_)) | (refine eCc_of (fun h => ?_) (fun h => ?_)) | (refine ePk_of (fun h => ?_) (fun h => ?_))) <;> (try simp only [Bool.not_eq_true', Bool.not_eq_false'] at h) <;> (try simp only [h, reduceCtorEq, Bool.not_eq_true', decide_eq_false_iff_not, Bool.not_true, Bool.not_false, Bool.false_or, Bool.true_or, Bool.true_and, Bool.false_and, Bool.and_eq_true, Bool.or_eq_true, if_true, if_false, reduceIte, Bool.false_eq_true, and_true, true_and, false_or, or_false, decide_eq_true_eq, not_false_eq_true, not_true_eq_false] at hp) <;> (try (have h2 := h; simp only [decide_eq_true_eq, decide_eq_false_iff_not] at h2; (first | (replace h2 := eq_false h2) | (replace h2 := eq_true h2)); simp only [h2, if_true, if_false, false_or, true_or, or_true, or_false, and_true, true_and, not_false_eq_true, not_true_eq_false] at hp)) <;> simp only [h,
          hp, grpS, grpD, grpF, grpL, eop, vop, bop, uop, fltop, convop, endOk, newE, new1, freshL, Md.isNew, outV, pureV, pureX, pure1, AV.cells, AV.one, storable, laid, refless,
                refless1, vload, loadC, storeC, vnil, vfaddr, vextract, flatT, flatE, flatC, vconv, vmm, vidxA, viaddrA, vfield, vlen, elemsOf, dF32, dF64, dI64, dU8, dBool, dStr,
                esOk, elemsS, vsliceX, bnd, ownV, ownC, own1, ownT, isSl, nSl, endL, Md.isOwn, purge, purgeH, purgeB, purgeE, hasName, name1, List.any_cons, List.any_nil, Md.isWr,
                pureV.pureP, Option.map, reduceIte, Nat.reduceEqDiff, Nat.reduceAdd, Nat.reduceMul, Nat.reduceLT, Nat.reduceLeDiff, List.mapM_cons, List.mapM_nil, Option.pure_def,
                Option.bind_eq_bind, Option.bind_some, implies_true, forall_const, beq_self_eq_true, decide_true, decide_false, eq_self, Int.reduceEq, Int.reduceLE, Int.reduceLT,
                if_true, if_false, fc4_0, fc4_1, fc4_2, Int.reduceAdd, Int.reduceSub, Int.reduceMul, Int.reduceNeg, Int.reducePow, Nat.reducePow, Int.reduceToNat, Nat.reduceSub,
                List.replicate, Nat.reduceBEq, wAs, wA, wC, zipW, noDupN, grpE, g_laws_eqTurnS, g_laws_szTurnS, g_spec_MixTurns, g_laws_toTurnS, g_laws_toFloat32S, g_impl_MixTurns,
                g_laws_eqTurn, g_laws_eqFloat32S, grpC, en0, dc_en0, ↓b_pick, ePk_true, ePk_false]))
      all_goals (try simp only [*, m_laws_FnExactMixTurns, Bool.and_true, Bool.true_and, Bool.and_false, Bool.false_and, Bool.or_true, Bool.true_or, Bool.or_false, Bool.false_or, Bool.not_true, Bool.not_false, Bool.false_eq_true, if_true, if_false, reduceIte, decide_true, decide_false])
      all_goals (try (simp_all; done))
    · cases h
  · cases h
end Go.Proofs
namespace Go.Proofs
open Go.Ab
theorem sameFloat_refl (x : Nat) : m_laws_sameFloat x x = true := by
  unfold m_laws_sameFloat
  by_cases h : feq .f64 x x = true
  · simp [h]
  · simp [h]
end Go.Proofs
namespace Go.Proofs
open Go.Ab
theorem eq_Turn (a : Nat × Nat × Nat × Nat) : m_laws_eqTurn a a = true := by unfold m_laws_eqTurn; simp [sameFloat_refl]
theorem eq_TurnS (x : List (Nat × Nat × Nat × Nat)) (h : x.length ≤ 1048576) : m_laws_eqTurnS x x = true ∧ p_laws_eqTurnS x x = true := by
  unfold m_laws_eqTurnS p_laws_eqTurnS
  rw [show l_laws_eqTurnS_0 x x (Int.toNat (((List.length x : Nat) : Int) - 0) + 2) 0 = some (false, default, ()) from eq_loop _ x m_laws_eqTurn eq_Turn (by omega) fun _ _ => rfl]; simp
theorem to_TurnS (x : List (Nat × Nat × Nat × Nat)) (h : x.length ≤ 1048576) : m_laws_toTurnS x = x ∧ p_laws_toTurnS x = true := by
  unfold m_laws_toTurnS p_laws_toTurnS
  rw [show l_laws_toTurnS_0 x (Int.toNat (((List.length x : Nat) : Int) - 0) + 2) (List.replicate (Int.toNat ((List.length x : Nat) : Int)) (0, 0, 0, 0)) 0 = some x by
    rw [copy_all (l_laws_toTurnS_0 x) x m_laws_toTurn _ (by omega) fun _ _ _ => rfl]
    congr 1
    exact List.map_id x]
  refine ⟨rfl, ?_⟩
  simp; omega
theorem sz_TurnS (x : List (Nat × Nat × Nat × Nat)) (n : Int) (hx : x.length ≤ maxLen) (h0 : 0 ≤ n) (hn : n ≤ 1048576) (hs : ¬ (m_laws_szTurnS x n < 0)) : x.length ≤ 1048576 ∧ 0 ≤ m_laws_szTurnS x n ∧ m_laws_szTurnS x n ≤ 1048576 := by
  unfold m_laws_szTurnS at hs ⊢
  have hx' : x.length ≤ 9223372036854775807 := by unfold maxLen at hx; omega
  rw [wrapI (by omega) (by omega)] at hs ⊢
  by_cases h : n - ((List.length x : Nat) : Int) < 0
  · simp [h] at hs
  · rw [if_neg (by simpa using h)]; omega
end Go.Proofs
namespace Go.Proofs
open Go.Ab
theorem to_Float32S (x : List Nat) (h : x.length ≤ 1048576) : m_laws_toFloat32S x = x ∧ p_laws_toFloat32S x = true := by
  unfold m_laws_toFloat32S p_laws_toFloat32S
  rw [show l_laws_toFloat32S_0 x (Int.toNat (((List.length x : Nat) : Int) - 0) + 2) (List.replicate (Int.toNat ((List.length x : Nat) : Int)) 0) 0 = some x by
    rw [copy_all (l_laws_toFloat32S_0 x) x id _ (by omega) fun _ _ _ => rfl]
    congr 1
    exact List.map_id x]
  refine ⟨rfl, ?_⟩
  simp; omega
end Go.Proofs
namespace Go.Proofs
open Go.Ab
theorem eq_Float32S (x : List Nat) (h : x.length ≤ 1048576) : m_laws_eqFloat32S x x = true ∧ p_laws_eqFloat32S x x = true := by
  unfold m_laws_eqFloat32S p_laws_eqFloat32S
  rw [show l_laws_eqFloat32S_0 x x (Int.toNat (((List.length x : Nat) : Int) - 0) + 2) 0 = some (false, default, ()) from eq_loop _ x (fun a b => m_laws_sameFloat (widen a) (widen b)) (fun _ => sameFloat_refl _) (by omega) fun _ _ => rfl]; simp
end Go.Proofs
namespace Go.Proofs
open Go.Ab
theorem mixStep (x : List (Nat × Nat × Nat × Nat)) (y : List Nat) : ∀ (n : Nat) (s : Nat × Nat × Nat × Nat) (k : Int), l_spec_l02Mix_0 x y n s k = l_impl_mixTurns_0 x y n s k
  | 0, _, _ => rfl
  | n + 1, s, k => by
    unfold l_spec_l02Mix_0 l_impl_mixTurns_0
    rw [mixStep x y n]
    have e : ∀ t : Nat × Nat × Nat × Nat, m_spec_l02Opposite t (m_spec_l02Inner (atI x 0) t) = if flt .f32 (m_impl_InnerOfTurns (atI x 0) t) 0 = true then m_impl_Turn_opposite t else t := fun _ => rfl
    rw [e]
    rfl
theorem mix_some (x : List (Nat × Nat × Nat × Nat)) (y : List Nat) (hx : x.length ≤ 16) (hy : y.length = x.length) : ∀ (n : Nat) (s : Nat × Nat × Nat × Nat) (k : Nat), k ≤ x.length → x.length - k < n → Option.isSome (l_impl_mixTurns_0 x y n s (k : Int)) = true
  | 0, _, _, _, h => by omega
  | n + 1, s, k, hk, h => by
    unfold l_impl_mixTurns_0
    by_cases hlt : k < x.length
    · rw [if_pos (by simp; omega), inB_nat, show inB 0 x.length = true by simp [inB]; omega, inB_nat, hy]
      unfold need
      rw [if_pos (by simpa using hlt), if_pos rfl, if_pos (by simpa using hlt), wrapS (by omega)]
      exact mix_some x y hx hy n _ (k + 1) (by omega) (by omega)
    · rw [if_neg (by simp; omega)]; rfl
theorem mend_eq (t : Nat × Nat × Nat × Nat) : m_impl_MendTurn t = m_spec_l02Mend t ∧ p_impl_MendTurn t = true ∧ p_spec_l02Mend t = true := by
  refine ⟨?_, sqrt_narrow _, sqrt_narrow _⟩
  unfold m_impl_MendTurn m_spec_l02Mend m_impl_isLength
  have e : m_impl_LengthOfTurn t = m_spec_l01Sqrt (m_spec_l02Inner t t) := rfl
  rw [e]
  generalize m_spec_l01Sqrt (m_spec_l02Inner t t) = n
  have e2 : m_impl_IsFinite n = m_spec_l01Finite n := rfl
  rw [e2]
  by_cases h0 : feq .f32 n 0 = true <;> by_cases h1 : m_spec_l01Finite n = true <;> simp [h0, h1, m_impl_NoTurn, m_spec_l02No]
theorem core_MixTurns (x : List (Nat × Nat × Nat × Nat)) (y : List Nat) : p_impl_MixTurns x y = true ∧ p_spec_MixTurns x y = true ∧ m_impl_MixTurns x y = m_spec_MixTurns x y := by
  unfold p_impl_MixTurns p_spec_MixTurns m_impl_MixTurns m_spec_MixTurns m_spec_l00In
  by_cases h1 : ((List.length x : Nat) : Int) < 1
  · have h2 : ¬ (1 ≤ ((List.length x : Nat) : Int)) := by omega
    simp [h1, h2]
  · have h2 : 1 ≤ ((List.length x : Nat) : Int) := by omega
    by_cases h3 : (16 : Int) < ((List.length x : Nat) : Int)
    · have h4 : ¬ (((List.length x : Nat) : Int) ≤ 16) := by omega
      simp [h1, h2, h3, h4]
    · have h4 : ((List.length x : Nat) : Int) ≤ 16 := by omega
      by_cases h5 : ((List.length y : Nat) : Int) = ((List.length x : Nat) : Int)
      · have e : m_impl_mixTurns x y = m_spec_l02Mix x y := by
          unfold m_impl_mixTurns m_spec_l02Mix
          rw [mixStep, (mend_eq _).1]
        have hs : Option.isSome (l_impl_mixTurns_0 x y (Int.toNat (((List.length x : Nat) : Int) - 0) + 2) (0, 0, 0, 0) 0) = true := mix_some x y (by omega) (by omega) _ _ 0 (Nat.zero_le _) (by omega)
        have p1 : p_impl_mixTurns x y = true := by unfold p_impl_mixTurns; rw [hs, (mend_eq _).2.1]; rfl
        have p2 : p_spec_l02Mix x y = true := by unfold p_spec_l02Mix; rw [mixStep, hs, (mend_eq _).2.2]; rfl
        simp [h1, h2, h3, h4, h5, e, p1, p2]
      · simp [h1, h2, h3, h4, h5]
theorem law_MixTurns (x : List (Nat × Nat × Nat × Nat)) (h : x.length ≤ maxLen) (_ : ∀ q ∈ x, Canon .f32 q.1 ∧ Canon .f32 q.2.1 ∧ Canon .f32 q.2.2.1 ∧ Canon .f32 q.2.2.2)
    (y : List Nat) (h' : y.length ≤ maxLen) (_ : ∀ q ∈ y, Canon .f32 q) : g_laws_FnExactMixTurns [.sl (List.map en0 x), .sl (List.map (AV.flt .f32) y)] = some (.bool true) := by
  have key : p_laws_FnExactMixTurns x y = true ∧ m_laws_FnExactMixTurns x y = true := by
    unfold p_laws_FnExactMixTurns m_laws_FnExactMixTurns
    by_cases hy : (1048576 : Int) < ((List.length y : Nat) : Int)
    · simp [hy]
    · by_cases hs : m_laws_szTurnS x 1048576 < 0
      · simp [hy, hs]
      · obtain ⟨k1, k2, k3⟩ := sz_TurnS x 1048576 h (by omega) (by omega) hs
        have ky : y.length ≤ 1048576 := by omega
        simp [hy, hs, to_TurnS _ k1, to_Float32S _ ky, core_MixTurns, eq_Turn, eq_TurnS _ k1, eq_Float32S _ ky]
  unfold g_laws_FnExactMixTurns
  simp only [dc_en0_map, dF32_map, key.1, key.2, if_true]
end Go.Proofs
