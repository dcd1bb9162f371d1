/- What functions that FnExactPointLengths reaches compute, and that the program's and the reference's answers are the same. No conditions. -/
import Derived.Test.YtpoghajdcdfhbadPointLengthsY0
set_option maxRecDepth 100000
set_option maxHeartbeats 4000000
set_option linter.all false
namespace Go.Proofs
open Go.Ab
theorem s45 : ∀ vs r m, g_laws_markFloat32S vs = some (r, m) → SaysX Try.prog m 45 vs r := by
  intro vs r m h
  unfold g_laws_markFloat32S at h
  split at h
  · rename_i w0 y1
    cases hd_y0 : decL dF32 w0 with
    | none => rw [hd_y0] at h; cases h
    | some y0 =>
    rw [hd_y0] at h
    obtain rfl := decL_inv dF32_inv hd_y0
    clear hd_y0
    dsimp only at h
    split at h
    · rename_i hp
      cases h
      have hz : zipW [(1000000, ⟨1, true, List.map (AV.flt .f32) y0⟩)] [List.map (AV.flt .f32) (m_laws_markFloat32S y0 y1).2] = some [(1000000, ⟨1, true, List.map (AV.flt .f32) (m_laws_markFloat32S y0 y1).2⟩)] := by simp only [zipW, List.map_cons, List.map_nil, List.length_map, m_laws_markFloat32S, p_laws_markFloat32S, Bool.and_eq_true, decide_eq_true_eq] at hp ⊢; simp only [hp, if_true]
      refine spec_ofW (tab := tabOf []) (cp := cp45) (ic := ic45) (rvl := [(.t 4)]) (H := [(1000000, ⟨1, true, List.map (AV.flt .f32) y0⟩)]) (H' := [(1000000, ⟨1, true, List.map (AV.flt .f32) (m_laws_markFloat32S y0 y1).2⟩)]) hm tabOk_nil Try.func45 rfl rfl rfl (by kernel_rfl) rfl (Nat.le_of_ble_eq_true rfl) (Nat.le_of_ble_eq_true rfl) (by rfl) hz (by rfl) (by rfl) (by rfl) ?_
      show eA _ _ _ _
      unfold ic45
      simp only [p_laws_markFloat32S, Bool.and_eq_true, Bool.or_eq_true, decide_eq_true_eq, Bool.not_eq_true', decide_eq_false_iff_not] at hp
      simp only [
          hp, grpS, grpD, grpF, grpL, eop, vop, bop, uop, fltop, convop, endOk, newE, new1, freshL, Md.isNew, outV, pureV, pureX, pure1, AV.cells, AV.one, storable, laid, refless,
                refless1, vload, loadC, storeC, vnil, vfaddr, vextract, flatT, flatE, flatC, vconv, vmm, vidxA, viaddrA, vfield, vlen, elemsOf, dF32, dF64, dI64, dU8, dBool, dStr,
                esOk, elemsS, vsliceX, bnd, ownV, ownC, own1, ownT, isSl, nSl, endL, Md.isOwn, purge, purgeH, purgeB, purgeE, hasName, name1, List.any_cons, List.any_nil, Md.isWr,
                pureV.pureP, Option.map, reduceIte, Nat.reduceEqDiff, Nat.reduceAdd, Nat.reduceMul, Nat.reduceLT, Nat.reduceLeDiff, List.mapM_cons, List.mapM_nil, Option.pure_def,
                Option.bind_eq_bind, Option.bind_some, implies_true, forall_const, beq_self_eq_true, decide_true, decide_false, eq_self, Int.reduceEq, Int.reduceLE, Int.reduceLT,
                if_true, if_false, fc45_0, fc45_1, fc45_2, fc45_3, Int.reduceAdd, Int.reduceSub, Int.reduceMul, Int.reduceNeg, Int.reducePow, Nat.reducePow, Int.reduceToNat,
                Nat.reduceSub, List.replicate, Nat.reduceBEq, wAs, wA, wC, zipW, noDupN, grpE, grpC, en0, dc_en0, startW, hpIs]
      repeat' (first
        | ((first | (refine eGI_of (fun h => ?_) (fun h => ?_)) | (refine eCc_of (fun h => ?_) (fun h => ?_)) | (have h := True.intro; refine KW_refl ?_)) <;> (try simp only [Bool.not_eq_true', Bool.not_eq_false'] at h) <;> (try simp only [h, reduceCtorEq, Bool.not_eq_true', decide_eq_false_iff_not, Bool.not_true, Bool.not_false, Bool.false_or, Bool.true_or, Bool.true_and, Bool.false_and, Bool.and_eq_true, Bool.or_eq_true, if_true, if_false, reduceIte, Bool.false_eq_true, and_true, true_and, false_or, or_false, decide_eq_true_eq, not_false_eq_true, not_true_eq_false] at hp) <;> (try (have h2 := h; simp only [decide_eq_true_eq, decide_eq_false_iff_not] at h2; (first | (replace h2 := eq_false h2) | (replace h2 := eq_true h2)); simp only [h2, if_true, if_false, false_or, true_or, or_true, or_false, and_true, true_and, not_false_eq_true, not_true_eq_false] at hp)) <;> simp only [h,
          hp, grpS, grpD, grpF, grpL, eop, vop, bop, uop, fltop, convop, endOk, newE, new1, freshL, Md.isNew, outV, pureV, pureX, pure1, AV.cells, AV.one, storable, laid, refless,
                refless1, vload, loadC, storeC, vnil, vfaddr, vextract, flatT, flatE, flatC, vconv, vmm, vidxA, viaddrA, vfield, vlen, elemsOf, dF32, dF64, dI64, dU8, dBool, dStr,
                esOk, elemsS, vsliceX, bnd, ownV, ownC, own1, ownT, isSl, nSl, endL, Md.isOwn, purge, purgeH, purgeB, purgeE, hasName, name1, List.any_cons, List.any_nil, Md.isWr,
                pureV.pureP, Option.map, reduceIte, Nat.reduceEqDiff, Nat.reduceAdd, Nat.reduceMul, Nat.reduceLT, Nat.reduceLeDiff, List.mapM_cons, List.mapM_nil, Option.pure_def,
                Option.bind_eq_bind, Option.bind_some, implies_true, forall_const, beq_self_eq_true, decide_true, decide_false, eq_self, Int.reduceEq, Int.reduceLE, Int.reduceLT,
                if_true, if_false, fc45_0, fc45_1, fc45_2, fc45_3, Int.reduceAdd, Int.reduceSub, Int.reduceMul, Int.reduceNeg, Int.reducePow, Nat.reducePow, Int.reduceToNat,
                Nat.reduceSub, List.replicate, Nat.reduceBEq, wAs, wA, wC, zipW, noDupN, grpE, grpC, en0, dc_en0, startW, hpIs])
        | (refine eA_wk (wk_norm (ks := [0, 1, 5]) (ls := [1000000]) ?_) (eA_cast ?_ (sl45_0 _ _ _ _ _ _ (getD_some (d := default) (x := (l_laws_markFloat32S_0 (Int.toNat ((((List.length y0) : Nat) : Int) - 0) + 2) y0 y1 0)) ?_) ?_)); (simp only [nilS, nilV, normOk, optIn, blkIn, nameIn, 
          hp, grpS, grpD, grpF, grpL, eop, vop, bop, uop, fltop, convop, endOk, newE, new1, freshL, Md.isNew, outV, pureV, pureX, pure1, AV.cells, AV.one, storable, laid, refless,
                refless1, vload, loadC, storeC, vnil, vfaddr, vextract, flatT, flatE, flatC, vconv, vmm, vidxA, viaddrA, vfield, vlen, elemsOf, dF32, dF64, dI64, dU8, dBool, dStr,
                esOk, elemsS, vsliceX, bnd, ownV, ownC, own1, ownT, isSl, nSl, endL, Md.isOwn, purge, purgeH, purgeB, purgeE, hasName, name1, List.any_cons, List.any_nil, Md.isWr,
                pureV.pureP, Option.map, reduceIte, Nat.reduceEqDiff, Nat.reduceAdd, Nat.reduceMul, Nat.reduceLT, Nat.reduceLeDiff, List.mapM_cons, List.mapM_nil, Option.pure_def,
                Option.bind_eq_bind, Option.bind_some, implies_true, forall_const, beq_self_eq_true, decide_true, decide_false, eq_self, Int.reduceEq, Int.reduceLE, Int.reduceLT,
                if_true, if_false, fc45_0, fc45_1, fc45_2, fc45_3, Int.reduceAdd, Int.reduceSub, Int.reduceMul, Int.reduceNeg, Int.reducePow, Nat.reducePow, Int.reduceToNat,
                Nat.reduceSub, List.replicate, Nat.reduceBEq, wAs, wA, wC, zipW, noDupN, grpE, grpC, en0, dc_en0, startW, hpIs] <;> rfl); (simp only [nilS, nilV, normS,  List.map_append, List.length_append, List.map_set, List.length_set, List.map_replicate, List.length_replicate, List.map_nil, List.map_cons,
          hp, grpS, grpD, grpF, grpL, eop, vop, bop, uop, fltop, convop, endOk, newE, new1, freshL, Md.isNew, outV, pureV, pureX, pure1, AV.cells, AV.one, storable, laid, refless,
                refless1, vload, loadC, storeC, vnil, vfaddr, vextract, flatT, flatE, flatC, vconv, vmm, vidxA, viaddrA, vfield, vlen, elemsOf, dF32, dF64, dI64, dU8, dBool, dStr,
                esOk, elemsS, vsliceX, bnd, ownV, ownC, own1, ownT, isSl, nSl, endL, Md.isOwn, purge, purgeH, purgeB, purgeE, hasName, name1, List.any_cons, List.any_nil, Md.isWr,
                pureV.pureP, Option.map, reduceIte, Nat.reduceEqDiff, Nat.reduceAdd, Nat.reduceMul, Nat.reduceLT, Nat.reduceLeDiff, List.mapM_cons, List.mapM_nil, Option.pure_def,
                Option.bind_eq_bind, Option.bind_some, implies_true, forall_const, beq_self_eq_true, decide_true, decide_false, eq_self, Int.reduceEq, Int.reduceLE, Int.reduceLT,
                if_true, if_false, fc45_0, fc45_1, fc45_2, fc45_3, Int.reduceAdd, Int.reduceSub, Int.reduceMul, Int.reduceNeg, Int.reducePow, Nat.reducePow, Int.reduceToNat,
                Nat.reduceSub, List.replicate, Nat.reduceBEq, wAs, wA, wC, zipW, noDupN, grpE, grpC, en0, dc_en0, startW, hpIs] <;> rfl); (simp only [hp]); (
        intro st2 hw; (try simp only [reduceCtorEq, Bool.not_eq_true', decide_eq_false_iff_not, Bool.not_true, Bool.not_false, Bool.false_or, Bool.true_or, Bool.true_and, Bool.false_and, Bool.and_eq_true, Bool.or_eq_true, if_true, if_false, reduceIte, Bool.false_eq_true, and_true, true_and, false_or, or_false, decide_eq_true_eq, not_false_eq_true, not_true_eq_false] at hp); simp only [
          hp, grpS, grpD, grpF, grpL, eop, vop, bop, uop, fltop, convop, endOk, newE, new1, freshL, Md.isNew, outV, pureV, pureX, pure1, AV.cells, AV.one, storable, laid, refless,
                refless1, vload, loadC, storeC, vnil, vfaddr, vextract, flatT, flatE, flatC, vconv, vmm, vidxA, viaddrA, vfield, vlen, elemsOf, dF32, dF64, dI64, dU8, dBool, dStr,
                esOk, elemsS, vsliceX, bnd, ownV, ownC, own1, ownT, isSl, nSl, endL, Md.isOwn, purge, purgeH, purgeB, purgeE, hasName, name1, List.any_cons, List.any_nil, Md.isWr,
                pureV.pureP, Option.map, reduceIte, Nat.reduceEqDiff, Nat.reduceAdd, Nat.reduceMul, Nat.reduceLT, Nat.reduceLeDiff, List.mapM_cons, List.mapM_nil, Option.pure_def,
                Option.bind_eq_bind, Option.bind_some, implies_true, forall_const, beq_self_eq_true, decide_true, decide_false, eq_self, Int.reduceEq, Int.reduceLE, Int.reduceLT,
                if_true, if_false, fc45_0, fc45_1, fc45_2, fc45_3, Int.reduceAdd, Int.reduceSub, Int.reduceMul, Int.reduceNeg, Int.reducePow, Nat.reducePow, Int.reduceToNat,
                Nat.reduceSub, List.replicate, Nat.reduceBEq, wAs, wA, wC, zipW, noDupN, grpE, grpC, en0, dc_en0, startW, hpIs]; refine KW_of hw ?_; simp only [
          hp, grpS, grpD, grpF, grpL, eop, vop, bop, uop, fltop, convop, endOk, newE, new1, freshL, Md.isNew, outV, pureV, pureX, pure1, AV.cells, AV.one, storable, laid, refless,
                refless1, vload, loadC, storeC, vnil, vfaddr, vextract, flatT, flatE, flatC, vconv, vmm, vidxA, viaddrA, vfield, vlen, elemsOf, dF32, dF64, dI64, dU8, dBool, dStr,
                esOk, elemsS, vsliceX, bnd, ownV, ownC, own1, ownT, isSl, nSl, endL, Md.isOwn, purge, purgeH, purgeB, purgeE, hasName, name1, List.any_cons, List.any_nil, Md.isWr,
                pureV.pureP, Option.map, reduceIte, Nat.reduceEqDiff, Nat.reduceAdd, Nat.reduceMul, Nat.reduceLT, Nat.reduceLeDiff, List.mapM_cons, List.mapM_nil, Option.pure_def,
                Option.bind_eq_bind, Option.bind_some, implies_true, forall_const, beq_self_eq_true, decide_true, decide_false, eq_self, Int.reduceEq, Int.reduceLE, Int.reduceLT,
                if_true, if_false, fc45_0, fc45_1, fc45_2, fc45_3, Int.reduceAdd, Int.reduceSub, Int.reduceMul, Int.reduceNeg, Int.reducePow, Nat.reducePow, Int.reduceToNat,
                Nat.reduceSub, List.replicate, Nat.reduceBEq, wAs, wA, wC, zipW, noDupN, grpE, grpC, en0, dc_en0, startW, hpIs])))
      all_goals (try simp only [*, m_laws_markFloat32S, Bool.and_true, Bool.true_and, Bool.and_false, Bool.false_and, Bool.or_true, Bool.true_or, Bool.or_false, Bool.false_or, Bool.not_true, Bool.not_false, Bool.false_eq_true, if_true, if_false, reduceIte, decide_true, decide_false])
      all_goals (try (simp_all; done))
    · cases h
  · cases h
def l_laws_heldFloat32S_0 (x0 : (List Nat)) : Nat → Int → Int → Option (Bool × Int × Int)
  | 0, _, _ => none
  | n + 1, z0_0, z0_1 => (if (decide (z0_1 < ((List.length x0 : Nat) : Int))) = true then (need (inB z0_1 (List.length x0)) (if (feq .f32 (atI x0 z0_1) (ofInt .f32 z0_0)) = true
        then (l_laws_heldFloat32S_0 x0 n (IntKind.wrap .i64 (z0_0 + 1)) (IntKind.wrap .i64 (z0_1 + 1))) else (some (true, (-1), default)))) else (some (false, default, z0_0)))
def m_laws_heldFloat32S (x0 : (List Nat)) (x1 : Int) : Int := (if (Option.getD (l_laws_heldFloat32S_0 x0 (Int.toNat (((List.length x0 : Nat) : Int) - 0) + 2) x1 0) default).1 = true
      then (Option.getD (l_laws_heldFloat32S_0 x0 (Int.toNat (((List.length x0 : Nat) : Int) - 0) + 2) x1 0) default).2.1 else (Option.getD (l_laws_heldFloat32S_0 x0 (Int.toNat
      (((List.length x0 : Nat) : Int) - 0) + 2) x1 0) default).2.2)
def p_laws_heldFloat32S (x0 : (List Nat)) (x1 : Int) : Bool := (Option.isSome (l_laws_heldFloat32S_0 x0 (Int.toNat (((List.length x0 : Nat) : Int) - 0) + 2) x1 0))
def g_laws_heldFloat32S : List AV → Option AV
  | [.sl w0, .int .i64 y1] => (match decL dF32 w0 with | some y0 => (if p_laws_heldFloat32S y0 y1 = true then some (.int .i64 (m_laws_heldFloat32S y0 y1)) else none) | none => none)
  | _ => none
def lb46_0 : ICode := (.seq (.seq (.reg [⟨(some 6), none, (.mov (.t 5))⟩, ⟨(some 7), none, (.mov (.t 0))⟩, ⟨(some 8), none, (.len false (.t 7))⟩, ⟨(some 9), none, (.bin .lss false
      (.t 6) (.t 8))⟩] [0, 1, 5, 9]) (.cond (.t 9) .skip (.exit 0))) (.seq (.block 1 (.seq (.seq (.reg [⟨(some 12), none, (.mov (.t 0))⟩, ⟨(some 13), none, (.mov (.t 5))⟩, ⟨(some
      14), none, (.iaddrS 1 (.t 12) (.t 13))⟩, ⟨(some 15), none, (.load none (.t 14))⟩, ⟨(some 16), none, (.mov (.t 1))⟩, ⟨(some 17), none, (.conv (.flt .f32) (.t 16))⟩, ⟨(some 18),
      none, (.bin .neq false (.t 15) (.t 17))⟩] [0, 1, 5, 18]) (.cond (.t 18) (.seq (.reg [⟨(some 4), none, (.mov (.c (.int .i64 (-1))))⟩] [4]) .ret) .skip)) (.reg [⟨(some 19),
      none, (.mov (.t 1))⟩, ⟨(some 20), none, (.bin .add false (.t 19) (.c (.int .i64 1)))⟩, ⟨(some 1), none, (.mov (.t 20))⟩] [0, 1, 5]))) (.reg [⟨(some 10), none, (.mov (.t 5))⟩,
      ⟨(some 11), none, (.bin .add false (.t 10) (.c (.int .i64 1)))⟩, ⟨(some 5), none, (.mov (.t 11))⟩] [0, 1, 5])))
def ic46 : ICode := (.seq (.reg [⟨(some 4), none, (.mov (.c (.int .i64 0)))⟩] [0, 1]) (.seq (.seq (.reg [⟨(some 5), none, (.mov (.c (.int .i64 0)))⟩] [0, 1, 5]) (.block 0 (.loop
      lb46_0))) (.seq (.reg [⟨(some 21), none, (.mov (.t 1))⟩, ⟨(some 4), none, (.mov (.t 21))⟩] [4]) .ret)))
def cp46 : CP := CP.mk [] [] [[0, 1], [0, 1, 5], [0, 1, 5, 9], [0, 1, 5], [0, 1, 5, 18], [4], [0, 1, 5], [4]] 22
theorem fc46_0 : IntKind.wrap .i64 0 = 0 := by decide
theorem fc46_1 : IntKind.wrap .i64 1 = 1 := by decide
theorem fc46_2 : IntKind.wrap .i64 2 = 2 := by decide
theorem fc46_3 : IntKind.wrap .i64 3 = 3 := by decide
theorem sl46_0 (x0 : (List Nat)) : ∀ (n : Nat) (z0_0 : Int) (z0_1 : Int) (o : (Bool × Int × Int)) (K : IExit → St → Prop), l_laws_heldFloat32S_0 x0 n z0_0 z0_1 = some o → (∀ st, o.1
      = true → outM .any st [(.t 4)] = some (.int .i64 o.2.1) → K .ret st) → (∀ st, o.1 = false → Wk st (⟨[(1, (.int .i64 o.2.2))], []⟩ : St) → K (.exit 0) st) → eA (tabOf [])
      (.loop lb46_0) (⟨[(0, (.sl (List.map (AV.flt .f32) x0))), (1, (.int .i64 z0_0)), (5, (.int .i64 z0_1))], []⟩ : St) K := by
  intro n
  induction n with
  | zero =>
    intro z0_0 z0_1 o K h h0 h1
    simp only [l_laws_heldFloat32S_0, reduceCtorEq] at h
  | succ n ih =>
    intro z0_0 z0_1 o K h h0 h1
    refine eA_loop ?_
    unfold lb46_0
    unfold l_laws_heldFloat32S_0 at h
    (try simp only [need_iff] at h)
    simp only [
      need_iff, h, grpS, grpD, grpF, grpL, eop, vop, bop, uop, fltop, convop, endOk, newE, new1, freshL, Md.isNew, outV, pureV, pureX, pure1, AV.cells, AV.one, storable, laid,
            refless, refless1, vload, loadC, storeC, vnil, vfaddr, vextract, flatT, flatE, flatC, vconv, vmm, vidxA, viaddrA, vfield, vlen, elemsOf, dF32, dF64, dI64, dU8, dBool,
            dStr, esOk, elemsS, vsliceX, bnd, ownV, ownC, own1, ownT, isSl, nSl, endL, Md.isOwn, purge, purgeH, purgeB, purgeE, hasName, name1, List.any_cons, List.any_nil, Md.isWr,
            pureV.pureP, Option.map, reduceIte, Nat.reduceEqDiff, Nat.reduceAdd, Nat.reduceMul, Nat.reduceLT, Nat.reduceLeDiff, List.mapM_cons, List.mapM_nil, Option.pure_def,
            Option.bind_eq_bind, Option.bind_some, implies_true, forall_const, beq_self_eq_true, decide_true, decide_false, eq_self, Int.reduceEq, Int.reduceLE, Int.reduceLT,
            if_true, if_false, fc46_0, fc46_1, fc46_2, fc46_3, Int.reduceAdd, Int.reduceSub, Int.reduceMul, Int.reduceNeg, Int.reducePow, Nat.reducePow, Int.reduceToNat,
            Nat.reduceSub, List.replicate, Nat.reduceBEq, wAs, wA, wC, zipW, noDupN, grpE, grpC, en0, dc_en0]
    repeat' (first
      | ((first | (refine eGI_of (fun hc => ?_) (fun hc => ?_)) | (refine eCc_of (fun hc => ?_) (fun hc => ?_)) | (have hc := True.intro; refine KW_refl ?_)) <;> (try simp only [Bool.not_eq_true', Bool.not_eq_false'] at hc) <;> (try simp only [hc, need_iff, reduceCtorEq, Bool.not_eq_true', decide_eq_false_iff_not, Bool.not_true, Bool.not_false, Bool.false_or, Bool.true_or, Bool.true_and, Bool.false_and, Bool.and_eq_true, Bool.or_eq_true, if_true, if_false, reduceIte, Bool.false_eq_true, and_true, true_and, false_or, or_false, decide_eq_true_eq, not_false_eq_true, not_true_eq_false] at h) <;> (try (have hc2 := hc; simp only [decide_eq_true_eq, decide_eq_false_iff_not] at hc2; simp only [hc2, if_true, if_false, reduceCtorEq, Bool.not_eq_true', decide_eq_false_iff_not, Bool.not_true, Bool.not_false, Bool.false_or, Bool.true_or, Bool.true_and, Bool.false_and, Bool.and_eq_true, Bool.or_eq_true, if_true, if_false, reduceIte, Bool.false_eq_true, and_true, true_and, false_or, or_false, decide_eq_true_eq, not_false_eq_true, not_true_eq_false] at h)) <;> simp only [hc,
      need_iff, h, grpS, grpD, grpF, grpL, eop, vop, bop, uop, fltop, convop, endOk, newE, new1, freshL, Md.isNew, outV, pureV, pureX, pure1, AV.cells, AV.one, storable, laid,
            refless, refless1, vload, loadC, storeC, vnil, vfaddr, vextract, flatT, flatE, flatC, vconv, vmm, vidxA, viaddrA, vfield, vlen, elemsOf, dF32, dF64, dI64, dU8, dBool,
            dStr, esOk, elemsS, vsliceX, bnd, ownV, ownC, own1, ownT, isSl, nSl, endL, Md.isOwn, purge, purgeH, purgeB, purgeE, hasName, name1, List.any_cons, List.any_nil, Md.isWr,
            pureV.pureP, Option.map, reduceIte, Nat.reduceEqDiff, Nat.reduceAdd, Nat.reduceMul, Nat.reduceLT, Nat.reduceLeDiff, List.mapM_cons, List.mapM_nil, Option.pure_def,
            Option.bind_eq_bind, Option.bind_some, implies_true, forall_const, beq_self_eq_true, decide_true, decide_false, eq_self, Int.reduceEq, Int.reduceLE, Int.reduceLT,
            if_true, if_false, fc46_0, fc46_1, fc46_2, fc46_3, Int.reduceAdd, Int.reduceSub, Int.reduceMul, Int.reduceNeg, Int.reducePow, Nat.reducePow, Int.reduceToNat,
            Nat.reduceSub, List.replicate, Nat.reduceBEq, wAs, wA, wC, zipW, noDupN, grpE, grpC, en0, dc_en0]))
    all_goals (repeat (replace h := And.right h))
    all_goals first
      | (refine eA_wk (wk_norm (ks := [0, 1, 5]) (ls := []) ?_) (eA_cast ?_ (ih _ _ _ _ h h0 h1)); (simp only [normOk, optIn, blkIn, nameIn,
      need_iff, h, grpS, grpD, grpF, grpL, eop, vop, bop, uop, fltop, convop, endOk, newE, new1, freshL, Md.isNew, outV, pureV, pureX, pure1, AV.cells, AV.one, storable, laid,
            refless, refless1, vload, loadC, storeC, vnil, vfaddr, vextract, flatT, flatE, flatC, vconv, vmm, vidxA, viaddrA, vfield, vlen, elemsOf, dF32, dF64, dI64, dU8, dBool,
            dStr, esOk, elemsS, vsliceX, bnd, ownV, ownC, own1, ownT, isSl, nSl, endL, Md.isOwn, purge, purgeH, purgeB, purgeE, hasName, name1, List.any_cons, List.any_nil, Md.isWr,
            pureV.pureP, Option.map, reduceIte, Nat.reduceEqDiff, Nat.reduceAdd, Nat.reduceMul, Nat.reduceLT, Nat.reduceLeDiff, List.mapM_cons, List.mapM_nil, Option.pure_def,
            Option.bind_eq_bind, Option.bind_some, implies_true, forall_const, beq_self_eq_true, decide_true, decide_false, eq_self, Int.reduceEq, Int.reduceLE, Int.reduceLT,
            if_true, if_false, fc46_0, fc46_1, fc46_2, fc46_3, Int.reduceAdd, Int.reduceSub, Int.reduceMul, Int.reduceNeg, Int.reducePow, Nat.reducePow, Int.reduceToNat,
            Nat.reduceSub, List.replicate, Nat.reduceBEq, wAs, wA, wC, zipW, noDupN, grpE, grpC, en0, dc_en0] <;> rfl); (simp only [normS, List.map_append, List.length_append, List.map_set, List.length_set, List.map_replicate, List.length_replicate, List.map_nil, List.map_cons,
      need_iff, h, grpS, grpD, grpF, grpL, eop, vop, bop, uop, fltop, convop, endOk, newE, new1, freshL, Md.isNew, outV, pureV, pureX, pure1, AV.cells, AV.one, storable, laid,
            refless, refless1, vload, loadC, storeC, vnil, vfaddr, vextract, flatT, flatE, flatC, vconv, vmm, vidxA, viaddrA, vfield, vlen, elemsOf, dF32, dF64, dI64, dU8, dBool,
            dStr, esOk, elemsS, vsliceX, bnd, ownV, ownC, own1, ownT, isSl, nSl, endL, Md.isOwn, purge, purgeH, purgeB, purgeE, hasName, name1, List.any_cons, List.any_nil, Md.isWr,
            pureV.pureP, Option.map, reduceIte, Nat.reduceEqDiff, Nat.reduceAdd, Nat.reduceMul, Nat.reduceLT, Nat.reduceLeDiff, List.mapM_cons, List.mapM_nil, Option.pure_def,
            Option.bind_eq_bind, Option.bind_some, implies_true, forall_const, beq_self_eq_true, decide_true, decide_false, eq_self, Int.reduceEq, Int.reduceLE, Int.reduceLT,
            if_true, if_false, fc46_0, fc46_1, fc46_2, fc46_3, Int.reduceAdd, Int.reduceSub, Int.reduceMul, Int.reduceNeg, Int.reducePow, Nat.reducePow, Int.reduceToNat,
            Nat.reduceSub, List.replicate, Nat.reduceBEq, wAs, wA, wC, zipW, noDupN, grpE, grpC, en0, dc_en0] <;> rfl))
      | (cases h; refine h0 _ rfl ?_; simp only [
      grpS, grpD, grpF, grpL, eop, vop, bop, uop, fltop, convop, endOk, newE, new1, freshL, Md.isNew, outV, pureV, pureX, pure1, AV.cells, AV.one, storable, laid, refless, refless1,
            vload, loadC, storeC, vnil, vfaddr, vextract, flatT, flatE, flatC, vconv, vmm, vidxA, viaddrA, vfield, vlen, elemsOf, dF32, dF64, dI64, dU8, dBool, dStr, esOk, elemsS,
            vsliceX, bnd, ownV, ownC, own1, ownT, isSl, nSl, endL, Md.isOwn, purge, purgeH, purgeB, purgeE, hasName, name1, List.any_cons, List.any_nil, Md.isWr, pureV.pureP,
            Option.map, reduceIte, Nat.reduceEqDiff, Nat.reduceAdd, Nat.reduceMul, Nat.reduceLT, Nat.reduceLeDiff, List.mapM_cons, List.mapM_nil, Option.pure_def,
            Option.bind_eq_bind, Option.bind_some, implies_true, forall_const, beq_self_eq_true, decide_true, decide_false, eq_self, Int.reduceEq, Int.reduceLE, Int.reduceLT,
            if_true, if_false, fc46_0, fc46_1, fc46_2, fc46_3, Int.reduceAdd, Int.reduceSub, Int.reduceMul, Int.reduceNeg, Int.reducePow, Nat.reducePow, Int.reduceToNat,
            Nat.reduceSub, List.replicate, Nat.reduceBEq, wAs, wA, wC, zipW, noDupN, grpE, grpC, en0, dc_en0])
      | (cases h; refine h1 _ rfl (Wk.cast (wk_norm (ks := [1]) (ls := []) ?_) ?_); (simp only [normOk, optIn, blkIn, nameIn,
      grpS, grpD, grpF, grpL, eop, vop, bop, uop, fltop, convop, endOk, newE, new1, freshL, Md.isNew, outV, pureV, pureX, pure1, AV.cells, AV.one, storable, laid, refless, refless1,
            vload, loadC, storeC, vnil, vfaddr, vextract, flatT, flatE, flatC, vconv, vmm, vidxA, viaddrA, vfield, vlen, elemsOf, dF32, dF64, dI64, dU8, dBool, dStr, esOk, elemsS,
            vsliceX, bnd, ownV, ownC, own1, ownT, isSl, nSl, endL, Md.isOwn, purge, purgeH, purgeB, purgeE, hasName, name1, List.any_cons, List.any_nil, Md.isWr, pureV.pureP,
            Option.map, reduceIte, Nat.reduceEqDiff, Nat.reduceAdd, Nat.reduceMul, Nat.reduceLT, Nat.reduceLeDiff, List.mapM_cons, List.mapM_nil, Option.pure_def,
            Option.bind_eq_bind, Option.bind_some, implies_true, forall_const, beq_self_eq_true, decide_true, decide_false, eq_self, Int.reduceEq, Int.reduceLE, Int.reduceLT,
            if_true, if_false, fc46_0, fc46_1, fc46_2, fc46_3, Int.reduceAdd, Int.reduceSub, Int.reduceMul, Int.reduceNeg, Int.reducePow, Nat.reducePow, Int.reduceToNat,
            Nat.reduceSub, List.replicate, Nat.reduceBEq, wAs, wA, wC, zipW, noDupN, grpE, grpC, en0, dc_en0] <;> rfl); (simp only [normS, List.map_append, List.length_append, List.map_set, List.length_set, List.map_replicate, List.length_replicate,
      grpS, grpD, grpF, grpL, eop, vop, bop, uop, fltop, convop, endOk, newE, new1, freshL, Md.isNew, outV, pureV, pureX, pure1, AV.cells, AV.one, storable, laid, refless, refless1,
            vload, loadC, storeC, vnil, vfaddr, vextract, flatT, flatE, flatC, vconv, vmm, vidxA, viaddrA, vfield, vlen, elemsOf, dF32, dF64, dI64, dU8, dBool, dStr, esOk, elemsS,
            vsliceX, bnd, ownV, ownC, own1, ownT, isSl, nSl, endL, Md.isOwn, purge, purgeH, purgeB, purgeE, hasName, name1, List.any_cons, List.any_nil, Md.isWr, pureV.pureP,
            Option.map, reduceIte, Nat.reduceEqDiff, Nat.reduceAdd, Nat.reduceMul, Nat.reduceLT, Nat.reduceLeDiff, List.mapM_cons, List.mapM_nil, Option.pure_def,
            Option.bind_eq_bind, Option.bind_some, implies_true, forall_const, beq_self_eq_true, decide_true, decide_false, eq_self, Int.reduceEq, Int.reduceLE, Int.reduceLT,
            if_true, if_false, fc46_0, fc46_1, fc46_2, fc46_3, Int.reduceAdd, Int.reduceSub, Int.reduceMul, Int.reduceNeg, Int.reducePow, Nat.reducePow, Int.reduceToNat,
            Nat.reduceSub, List.replicate, Nat.reduceBEq, wAs, wA, wC, zipW, noDupN, grpE, grpC, en0, dc_en0] <;> rfl))
theorem s46 : ∀ vs r, g_laws_heldFloat32S vs = some r → SaysM Try.prog .any 46 vs r := by
  intro vs r h
  unfold g_laws_heldFloat32S at h
  split at h
  · rename_i w0 y1
    cases hd_y0 : decL dF32 w0 with
    | none => rw [hd_y0] at h; cases h
    | some y0 =>
    rw [hd_y0] at h
    obtain rfl := decL_inv dF32_inv hd_y0
    clear hd_y0
    dsimp only at h
    split at h
    · rename_i hp
      cases h
      refine spec_of (m := .any) (tab := tabOf []) (cp := cp46) (ic := ic46) (rvl := [(.t 4)]) hm tabOk_nil Try.func46 rfl rfl rfl (by kernel_rfl) rfl (Nat.le_of_ble_eq_true rfl) (Nat.le_of_ble_eq_true rfl) ?_
      show eA _ _ _ _
      unfold ic46
      simp only [p_laws_heldFloat32S, Bool.and_eq_true, Bool.or_eq_true, decide_eq_true_eq, Bool.not_eq_true', decide_eq_false_iff_not] at hp
      simp only [
          hp, grpS, grpD, grpF, grpL, eop, vop, bop, uop, fltop, convop, endOk, newE, new1, freshL, Md.isNew, outV, pureV, pureX, pure1, AV.cells, AV.one, storable, laid, refless,
                refless1, vload, loadC, storeC, vnil, vfaddr, vextract, flatT, flatE, flatC, vconv, vmm, vidxA, viaddrA, vfield, vlen, elemsOf, dF32, dF64, dI64, dU8, dBool, dStr,
                esOk, elemsS, vsliceX, bnd, ownV, ownC, own1, ownT, isSl, nSl, endL, Md.isOwn, purge, purgeH, purgeB, purgeE, hasName, name1, List.any_cons, List.any_nil, Md.isWr,
                pureV.pureP, Option.map, reduceIte, Nat.reduceEqDiff, Nat.reduceAdd, Nat.reduceMul, Nat.reduceLT, Nat.reduceLeDiff, List.mapM_cons, List.mapM_nil, Option.pure_def,
                Option.bind_eq_bind, Option.bind_some, implies_true, forall_const, beq_self_eq_true, decide_true, decide_false, eq_self, Int.reduceEq, Int.reduceLE, Int.reduceLT,
                if_true, if_false, fc46_0, fc46_1, fc46_2, fc46_3, Int.reduceAdd, Int.reduceSub, Int.reduceMul, Int.reduceNeg, Int.reducePow, Nat.reducePow, Int.reduceToNat,
                Nat.reduceSub, List.replicate, Nat.reduceBEq, wAs, wA, wC, zipW, noDupN, grpE, grpC, en0, dc_en0]
      repeat' (first
        | ((first | (refine eGI_of (fun h => ?_) (fun h => ?_)) | (refine eCc_of (fun h => ?_) (fun h => ?_)) | (have h := True.intro; refine KW_refl ?_)) <;> (try simp only [Bool.not_eq_true', Bool.not_eq_false'] at h) <;> (try simp only [h, reduceCtorEq, Bool.not_eq_true', decide_eq_false_iff_not, Bool.not_true, Bool.not_false, Bool.false_or, Bool.true_or, Bool.true_and, Bool.false_and, Bool.and_eq_true, Bool.or_eq_true, if_true, if_false, reduceIte, Bool.false_eq_true, and_true, true_and, false_or, or_false, decide_eq_true_eq, not_false_eq_true, not_true_eq_false] at hp) <;> (try (have h2 := h; simp only [decide_eq_true_eq, decide_eq_false_iff_not] at h2; (first | (replace h2 := eq_false h2) | (replace h2 := eq_true h2)); simp only [h2, if_true, if_false, false_or, true_or, or_true, or_false, and_true, true_and, not_false_eq_true, not_true_eq_false] at hp)) <;> simp only [h,
          hp, grpS, grpD, grpF, grpL, eop, vop, bop, uop, fltop, convop, endOk, newE, new1, freshL, Md.isNew, outV, pureV, pureX, pure1, AV.cells, AV.one, storable, laid, refless,
                refless1, vload, loadC, storeC, vnil, vfaddr, vextract, flatT, flatE, flatC, vconv, vmm, vidxA, viaddrA, vfield, vlen, elemsOf, dF32, dF64, dI64, dU8, dBool, dStr,
                esOk, elemsS, vsliceX, bnd, ownV, ownC, own1, ownT, isSl, nSl, endL, Md.isOwn, purge, purgeH, purgeB, purgeE, hasName, name1, List.any_cons, List.any_nil, Md.isWr,
                pureV.pureP, Option.map, reduceIte, Nat.reduceEqDiff, Nat.reduceAdd, Nat.reduceMul, Nat.reduceLT, Nat.reduceLeDiff, List.mapM_cons, List.mapM_nil, Option.pure_def,
                Option.bind_eq_bind, Option.bind_some, implies_true, forall_const, beq_self_eq_true, decide_true, decide_false, eq_self, Int.reduceEq, Int.reduceLE, Int.reduceLT,
                if_true, if_false, fc46_0, fc46_1, fc46_2, fc46_3, Int.reduceAdd, Int.reduceSub, Int.reduceMul, Int.reduceNeg, Int.reducePow, Nat.reducePow, Int.reduceToNat,
                Nat.reduceSub, List.replicate, Nat.reduceBEq, wAs, wA, wC, zipW, noDupN, grpE, grpC, en0, dc_en0])
        | (refine eA_wk (wk_norm (ks := [0, 1, 5]) (ls := []) ?_) (eA_cast ?_ (sl46_0 y0 _ _ _ _ _ (getD_some (d := default) (x := (l_laws_heldFloat32S_0 y0 (Int.toNat (((List.length y0 : Nat) : Int) - 0) + 2) y1 0)) ?_) ?_ ?_)); (simp only [nilS, nilV, normOk, optIn, blkIn, nameIn, 
          hp, grpS, grpD, grpF, grpL, eop, vop, bop, uop, fltop, convop, endOk, newE, new1, freshL, Md.isNew, outV, pureV, pureX, pure1, AV.cells, AV.one, storable, laid, refless,
                refless1, vload, loadC, storeC, vnil, vfaddr, vextract, flatT, flatE, flatC, vconv, vmm, vidxA, viaddrA, vfield, vlen, elemsOf, dF32, dF64, dI64, dU8, dBool, dStr,
                esOk, elemsS, vsliceX, bnd, ownV, ownC, own1, ownT, isSl, nSl, endL, Md.isOwn, purge, purgeH, purgeB, purgeE, hasName, name1, List.any_cons, List.any_nil, Md.isWr,
                pureV.pureP, Option.map, reduceIte, Nat.reduceEqDiff, Nat.reduceAdd, Nat.reduceMul, Nat.reduceLT, Nat.reduceLeDiff, List.mapM_cons, List.mapM_nil, Option.pure_def,
                Option.bind_eq_bind, Option.bind_some, implies_true, forall_const, beq_self_eq_true, decide_true, decide_false, eq_self, Int.reduceEq, Int.reduceLE, Int.reduceLT,
                if_true, if_false, fc46_0, fc46_1, fc46_2, fc46_3, Int.reduceAdd, Int.reduceSub, Int.reduceMul, Int.reduceNeg, Int.reducePow, Nat.reducePow, Int.reduceToNat,
                Nat.reduceSub, List.replicate, Nat.reduceBEq, wAs, wA, wC, zipW, noDupN, grpE, grpC, en0, dc_en0] <;> rfl); (simp only [nilS, nilV, normS,  List.map_append, List.length_append, List.map_set, List.length_set, List.map_replicate, List.length_replicate, List.map_nil, List.map_cons,
          hp, grpS, grpD, grpF, grpL, eop, vop, bop, uop, fltop, convop, endOk, newE, new1, freshL, Md.isNew, outV, pureV, pureX, pure1, AV.cells, AV.one, storable, laid, refless,
                refless1, vload, loadC, storeC, vnil, vfaddr, vextract, flatT, flatE, flatC, vconv, vmm, vidxA, viaddrA, vfield, vlen, elemsOf, dF32, dF64, dI64, dU8, dBool, dStr,
                esOk, elemsS, vsliceX, bnd, ownV, ownC, own1, ownT, isSl, nSl, endL, Md.isOwn, purge, purgeH, purgeB, purgeE, hasName, name1, List.any_cons, List.any_nil, Md.isWr,
                pureV.pureP, Option.map, reduceIte, Nat.reduceEqDiff, Nat.reduceAdd, Nat.reduceMul, Nat.reduceLT, Nat.reduceLeDiff, List.mapM_cons, List.mapM_nil, Option.pure_def,
                Option.bind_eq_bind, Option.bind_some, implies_true, forall_const, beq_self_eq_true, decide_true, decide_false, eq_self, Int.reduceEq, Int.reduceLE, Int.reduceLT,
                if_true, if_false, fc46_0, fc46_1, fc46_2, fc46_3, Int.reduceAdd, Int.reduceSub, Int.reduceMul, Int.reduceNeg, Int.reducePow, Nat.reducePow, Int.reduceToNat,
                Nat.reduceSub, List.replicate, Nat.reduceBEq, wAs, wA, wC, zipW, noDupN, grpE, grpC, en0, dc_en0] <;> rfl); (simp only [hp]); (
        intro st2 ht hw; simp only [Kq_ret, Kb_ret, Kl_ret, ret_ok]; first | exact h0 _ hw | exact h0 _ rfl hw | exact h1 _ rfl hw | exact h0 _ ht hw | exact h1 _ ht hw | refine ⟨_, hw, ?_⟩); rotate_left; (
        intro st2 ht hw; (try simp only [ht, reduceCtorEq, Bool.not_eq_true', decide_eq_false_iff_not, Bool.not_true, Bool.not_false, Bool.false_or, Bool.true_or, Bool.true_and, Bool.false_and, Bool.and_eq_true, Bool.or_eq_true, if_true, if_false, reduceIte, Bool.false_eq_true, and_true, true_and, false_or, or_false, decide_eq_true_eq, not_false_eq_true, not_true_eq_false] at hp); simp only [
          hp, grpS, grpD, grpF, grpL, eop, vop, bop, uop, fltop, convop, endOk, newE, new1, freshL, Md.isNew, outV, pureV, pureX, pure1, AV.cells, AV.one, storable, laid, refless,
                refless1, vload, loadC, storeC, vnil, vfaddr, vextract, flatT, flatE, flatC, vconv, vmm, vidxA, viaddrA, vfield, vlen, elemsOf, dF32, dF64, dI64, dU8, dBool, dStr,
                esOk, elemsS, vsliceX, bnd, ownV, ownC, own1, ownT, isSl, nSl, endL, Md.isOwn, purge, purgeH, purgeB, purgeE, hasName, name1, List.any_cons, List.any_nil, Md.isWr,
                pureV.pureP, Option.map, reduceIte, Nat.reduceEqDiff, Nat.reduceAdd, Nat.reduceMul, Nat.reduceLT, Nat.reduceLeDiff, List.mapM_cons, List.mapM_nil, Option.pure_def,
                Option.bind_eq_bind, Option.bind_some, implies_true, forall_const, beq_self_eq_true, decide_true, decide_false, eq_self, Int.reduceEq, Int.reduceLE, Int.reduceLT,
                if_true, if_false, fc46_0, fc46_1, fc46_2, fc46_3, Int.reduceAdd, Int.reduceSub, Int.reduceMul, Int.reduceNeg, Int.reducePow, Nat.reducePow, Int.reduceToNat,
                Nat.reduceSub, List.replicate, Nat.reduceBEq, wAs, wA, wC, zipW, noDupN, grpE, grpC, en0, dc_en0]; refine KW_of hw ?_; simp only [ht, 
          hp, grpS, grpD, grpF, grpL, eop, vop, bop, uop, fltop, convop, endOk, newE, new1, freshL, Md.isNew, outV, pureV, pureX, pure1, AV.cells, AV.one, storable, laid, refless,
                refless1, vload, loadC, storeC, vnil, vfaddr, vextract, flatT, flatE, flatC, vconv, vmm, vidxA, viaddrA, vfield, vlen, elemsOf, dF32, dF64, dI64, dU8, dBool, dStr,
                esOk, elemsS, vsliceX, bnd, ownV, ownC, own1, ownT, isSl, nSl, endL, Md.isOwn, purge, purgeH, purgeB, purgeE, hasName, name1, List.any_cons, List.any_nil, Md.isWr,
                pureV.pureP, Option.map, reduceIte, Nat.reduceEqDiff, Nat.reduceAdd, Nat.reduceMul, Nat.reduceLT, Nat.reduceLeDiff, List.mapM_cons, List.mapM_nil, Option.pure_def,
                Option.bind_eq_bind, Option.bind_some, implies_true, forall_const, beq_self_eq_true, decide_true, decide_false, eq_self, Int.reduceEq, Int.reduceLE, Int.reduceLT,
                if_true, if_false, fc46_0, fc46_1, fc46_2, fc46_3, Int.reduceAdd, Int.reduceSub, Int.reduceMul, Int.reduceNeg, Int.reducePow, Nat.reducePow, Int.reduceToNat,
                Nat.reduceSub, List.replicate, Nat.reduceBEq, wAs, wA, wC, zipW, noDupN, grpE, grpC, en0, dc_en0])))
      all_goals (try simp only [*, m_laws_heldFloat32S, Bool.and_true, Bool.true_and, Bool.and_false, Bool.false_and, Bool.or_true, Bool.true_or, Bool.or_false, Bool.false_or, Bool.not_true, Bool.not_false, Bool.false_eq_true, if_true, if_false, reduceIte, decide_true, decide_false])
      all_goals (try (simp_all; done))
    · cases h
  · cases h
def v_laws_FnExactPointLengths_0 (x0 : (List (Nat × Nat × Nat))) : Bool := (!(decide ((m_laws_heldFloat32S (m_laws_markFloat32S (m_impl_PointLengths (m_laws_toVectorS x0)).1 1).2 1)
      = (m_laws_markFloat32S (m_impl_PointLengths (m_laws_toVectorS x0)).1 1).1)))
def m_laws_FnExactPointLengths (x0 : (List (Nat × Nat × Nat))) : Bool := (if (decide ((m_laws_szVectorS x0 1048576) < 0)) = true then true else (if (m_laws_eqFloat32S
      (m_impl_PointLengths (m_laws_toVectorS x0)).1 (m_spec_PointLengths (m_laws_toVectorS x0)).1) = true then (if ((m_impl_PointLengths (m_laws_toVectorS x0)).2 ==
      (m_spec_PointLengths (m_laws_toVectorS x0)).2) = true then (if (m_laws_eqVectorS (m_laws_toVectorS x0) (m_laws_toVectorS x0)) = true then (if (decide ((m_laws_markVectorS
      (m_laws_toVectorS x0) 1).1 < 0)) = true then false else (if (decide ((m_laws_heldFloat32S (m_laws_markFloat32S (m_impl_PointLengths (m_laws_toVectorS x0)).1 1).2 1) < 0)) =
      true then false else (if (v_laws_FnExactPointLengths_0 x0) = true then false else true))) else false) else false) else false))
def p_laws_FnExactPointLengths (x0 : (List (Nat × Nat × Nat))) : Bool := ((decide ((m_laws_szVectorS x0 1048576) < 0)) || ((p_laws_toVectorS x0) && ((p_spec_PointLengths
      (m_laws_toVectorS x0)) && ((p_impl_PointLengths (m_laws_toVectorS x0)) && ((p_laws_eqFloat32S (m_impl_PointLengths (m_laws_toVectorS x0)).1 (m_spec_PointLengths
      (m_laws_toVectorS x0)).1) && (!(m_laws_eqFloat32S (m_impl_PointLengths (m_laws_toVectorS x0)).1 (m_spec_PointLengths (m_laws_toVectorS x0)).1) || (!((m_impl_PointLengths
      (m_laws_toVectorS x0)).2 == (m_spec_PointLengths (m_laws_toVectorS x0)).2) || ((p_laws_eqVectorS (m_laws_toVectorS x0) (m_laws_toVectorS x0)) && (!(m_laws_eqVectorS
      (m_laws_toVectorS x0) (m_laws_toVectorS x0)) || ((p_laws_markVectorS (m_laws_toVectorS x0) 1) && ((decide (List.length (m_laws_markVectorS (m_laws_toVectorS x0) 1).2 =
      (List.length (m_laws_toVectorS x0)))) && ((decide ((m_laws_markVectorS (m_laws_toVectorS x0) 1).1 < 0)) || ((p_laws_markFloat32S (m_impl_PointLengths (m_laws_toVectorS x0)).1
      1) && ((decide (List.length (m_laws_markFloat32S (m_impl_PointLengths (m_laws_toVectorS x0)).1 1).2 = (List.length (m_impl_PointLengths (m_laws_toVectorS x0)).1))) &&
      (p_laws_heldFloat32S (m_laws_markFloat32S (m_impl_PointLengths (m_laws_toVectorS x0)).1 1).2 1)))))))))))))))
def g_laws_FnExactPointLengths : List AV → Option AV
  | [.sl w0] => (match decL dc_en0 w0 with | some y0 => (if p_laws_FnExactPointLengths y0 = true then some (.bool (m_laws_FnExactPointLengths y0)) else none) | none => none)
  | _ => none
def ic8 : ICode := (.seq (.reg [⟨(some 2), none, (.mov (.c (.bool false)))⟩] [0]) (.seq (.reg [⟨(some 3), none, (.mov (.c (.int .i64 1048576)))⟩] [0, 3]) (.seq (.reg [⟨(some 14),
      none, (.mov (.t 0))⟩, ⟨(some 15), none, (.mov (.t 3))⟩, ⟨(some 16), none, (.call (.fn 33) [(.t 14), (.t 15)] [])⟩, ⟨(some 3), none, (.mov (.t 16))⟩] [0, 3]) (.seq (.seq (.reg
      [⟨(some 17), none, (.mov (.t 3))⟩, ⟨(some 18), none, (.bin .lss false (.t 17) (.c (.int .i64 0)))⟩] [0, 18]) (.cond (.t 18) (.seq (.reg [⟨(some 2), none, (.mov (.c (.bool
      true)))⟩] [2]) .ret) .skip)) (.seq (.reg [⟨(some 20), none, (.mov (.t 0))⟩, ⟨(some 21), none, (.call (.fn 35) [(.t 20)] [])⟩, ⟨(some 22), none, (.call (.fn 43) [(.t 21)] [])⟩,
      ⟨(some 19), none, (.mov (.t 22))⟩, ⟨(some 23), none, (.extract (.t 19) 0)⟩, ⟨(some 24), none, (.extract (.t 19) 1)⟩, ⟨(some 4), none, (.mov (.t 23))⟩, ⟨(some 5), none, (.mov
      (.t 24))⟩] [0, 4, 5]) (.seq (.reg [⟨(some 25), none, (.mov (.t 0))⟩, ⟨(some 26), none, (.call (.fn 35) [(.t 25)] [3])⟩, ⟨(some 6), none, (.mov (.t 26))⟩] [0, 4, 5, 6]) (.seq
      (.reg [⟨(some 28), none, (.mov (.t 6))⟩, ⟨(some 29), none, (.call (.fn 44) [(.t 28)] [1])⟩, ⟨(some 27), none, (.mov (.t 29))⟩, ⟨(some 30), none, (.extract (.t 27) 0)⟩, ⟨(some
      31), none, (.extract (.t 27) 1)⟩, ⟨(some 7), none, (.mov (.t 30))⟩, ⟨(some 8), none, (.mov (.t 31))⟩] [0, 4, 5, 6, 7, 8]) (.seq (.seq (.reg [⟨(some 32), none, (.mov (.t 7))⟩,
      ⟨(some 33), none, (.mov (.t 4))⟩, ⟨(some 34), none, (.call (.fn 32) [(.t 32), (.t 33)] [])⟩, ⟨(some 35), none, (.un .not (.t 34))⟩, ⟨(some 36), none, (.mov (.t 35))⟩, ⟨(some
      37), (some (36, false)), (.mov (.t 8))⟩, ⟨(some 38), (some (36, false)), (.mov (.t 5))⟩, ⟨(some 39), (some (36, false)), (.bin .neq true (.t 37) (.t 38))⟩, ⟨(some 40), none,
      (.pick (.t 36) (.c (.bool true)) (.t 39))⟩] [0, 4, 5, 6, 7, 8, 40]) (.cond (.t 40) (.seq (.reg [⟨(some 2), none, (.mov (.c (.bool false)))⟩] [2]) .ret) .skip)) (.seq (.seq
      (.reg [⟨(some 41), none, (.mov (.t 6))⟩, ⟨(some 42), none, (.mov (.t 0))⟩, ⟨(some 43), none, (.call (.fn 35) [(.t 42)] [])⟩, ⟨(some 44), none, (.call (.fn 17) [(.t 41), (.t
      43)] [])⟩, ⟨(some 45), none, (.un .not (.t 44))⟩] [0, 4, 5, 6, 7, 8, 45]) (.cond (.t 45) (.seq (.reg [⟨(some 2), none, (.mov (.c (.bool false)))⟩] [2]) .ret) .skip)) (.seq
      (.reg [⟨(some 9), none, (.mov (.c (.int .i64 1)))⟩] [0, 4, 5, 6, 7, 8, 9]) (.seq (.reg [⟨(some 46), none, (.mov (.t 6))⟩, ⟨(some 47), none, (.mov (.t 9))⟩, ⟨(some 48), none,
      (.callM 23 [(.t 46), (.t 47)])⟩, ⟨(some 9), none, (.mov (.t 48))⟩] [0, 4, 5, 7, 8, 9]) (.seq (.seq (.reg [⟨(some 49), none, (.mov (.t 9))⟩, ⟨(some 50), none, (.bin .lss false
      (.t 49) (.c (.int .i64 0)))⟩, ⟨(some 51), none, (.mov (.t 50))⟩, ⟨(some 52), (some (51, false)), (.mov (.t 7))⟩, ⟨(some 53), (some (51, false)), (.mov (.t 4))⟩, ⟨(some 54),
      (some (51, false)), (.call (.fn 32) [(.t 52), (.t 53)] [])⟩, ⟨(some 55), (some (51, false)), (.un .not (.t 54))⟩, ⟨(some 56), none, (.pick (.t 51) (.c (.bool true)) (.t 55))⟩,
      ⟨(some 57), none, (.mov (.t 56))⟩, ⟨(some 58), (some (57, false)), (.mov (.t 8))⟩, ⟨(some 59), (some (57, false)), (.mov (.t 5))⟩, ⟨(some 60), (some (57, false)), (.bin .neq
      true (.t 58) (.t 59))⟩, ⟨(some 61), none, (.pick (.t 57) (.c (.bool true)) (.t 60))⟩] [0, 4, 5, 7, 61]) (.cond (.t 61) (.seq (.reg [⟨(some 2), none, (.mov (.c (.bool
      false)))⟩] [2]) .ret) .skip)) (.seq (.reg [⟨(some 10), none, (.mov (.c (.int .i64 1)))⟩] [0, 4, 5, 7, 10]) (.seq (.reg [⟨(some 62), none, (.mov (.t 7))⟩, ⟨(some 63), none,
      (.mov (.t 10))⟩, ⟨(some 64), none, (.callM 45 [(.t 62), (.t 63)])⟩, ⟨(some 10), none, (.mov (.t 64))⟩] [0, 4, 5, 7, 10]) (.seq (.reg [⟨(some 11), none, (.mov (.c (.int .i64
      1)))⟩] [0, 4, 5, 7, 10, 11]) (.seq (.reg [⟨(some 65), none, (.mov (.t 7))⟩, ⟨(some 66), none, (.mov (.t 11))⟩, ⟨(some 67), none, (.call (.fn 46) [(.t 65), (.t 66)] [])⟩,
      ⟨(some 11), none, (.mov (.t 67))⟩] [0, 4, 5, 7, 10, 11]) (.seq (.seq (.reg [⟨(some 68), none, (.mov (.t 11))⟩, ⟨(some 69), none, (.bin .lss false (.t 68) (.c (.int .i64 0)))⟩]
      [0, 4, 5, 7, 10, 11, 69]) (.cond (.t 69) (.seq (.reg [⟨(some 2), none, (.mov (.c (.bool false)))⟩] [2]) .ret) .skip)) (.seq (.seq (.reg [⟨(some 70), none, (.mov (.t 11))⟩,
      ⟨(some 71), none, (.mov (.t 10))⟩, ⟨(some 72), none, (.bin .neq false (.t 70) (.t 71))⟩] [0, 4, 5, 7, 10, 72]) (.cond (.t 72) (.seq (.reg [⟨(some 2), none, (.mov (.c (.bool
      false)))⟩] [2]) .ret) .skip)) (.seq (.reg [⟨(some 74), none, (.mov (.t 0))⟩, ⟨(some 75), none, (.call (.fn 35) [(.t 74)] [])⟩, ⟨(some 76), none, (.call (.fn 44) [(.t 75)]
      [])⟩, ⟨(some 73), none, (.mov (.t 76))⟩, ⟨(some 77), none, (.extract (.t 73) 0)⟩, ⟨(some 78), none, (.extract (.t 73) 1)⟩, ⟨(some 12), none, (.mov (.t 77))⟩, ⟨(some 13), none,
      (.mov (.t 78))⟩] [4, 5, 7, 10, 12, 13]) (.seq (.seq (.reg [⟨(some 79), none, (.mov (.t 12))⟩, ⟨(some 80), none, (.mov (.t 4))⟩, ⟨(some 81), none, (.call (.fn 32) [(.t 79), (.t
      80)] [])⟩, ⟨(some 82), none, (.un .not (.t 81))⟩, ⟨(some 83), none, (.mov (.t 82))⟩, ⟨(some 84), (some (83, false)), (.mov (.t 13))⟩, ⟨(some 85), (some (83, false)), (.mov (.t
      5))⟩, ⟨(some 86), (some (83, false)), (.bin .neq true (.t 84) (.t 85))⟩, ⟨(some 87), none, (.pick (.t 83) (.c (.bool true)) (.t 86))⟩] [7, 10, 87]) (.cond (.t 87) (.seq (.reg
      [⟨(some 2), none, (.mov (.c (.bool false)))⟩] [2]) .ret) .skip)) (.seq (.reg [⟨(some 11), none, (.mov (.c (.int .i64 1)))⟩] [7, 10, 11]) (.seq (.reg [⟨(some 88), none, (.mov
      (.t 7))⟩, ⟨(some 89), none, (.mov (.t 11))⟩, ⟨(some 90), none, (.call (.fn 46) [(.t 88), (.t 89)] [])⟩, ⟨(some 11), none, (.mov (.t 90))⟩] [10, 11]) (.seq (.seq (.reg [⟨(some
      91), none, (.mov (.t 11))⟩, ⟨(some 92), none, (.bin .lss false (.t 91) (.c (.int .i64 0)))⟩] [10, 11, 92]) (.cond (.t 92) (.seq (.reg [⟨(some 2), none, (.mov (.c (.bool
      false)))⟩] [2]) .ret) .skip)) (.seq (.seq (.reg [⟨(some 93), none, (.mov (.t 11))⟩, ⟨(some 94), none, (.mov (.t 10))⟩, ⟨(some 95), none, (.bin .neq false (.t 93) (.t 94))⟩]
      [95]) (.cond (.t 95) (.seq (.reg [⟨(some 2), none, (.mov (.c (.bool false)))⟩] [2]) .ret) .skip)) (.seq (.reg [⟨(some 2), none, (.mov (.c (.bool true)))⟩] [2])
      .ret)))))))))))))))))))))))))
def cp8 : CP := CP.mk [(26, [3]), (29, [1])] [23, 45] [[0], [0, 3], [0, 3], [0, 18], [2], [0, 4, 5], [0, 4, 5, 6], [0, 4, 5, 6, 7, 8], [0, 4, 5, 6, 7, 8, 40], [2], [0, 4, 5, 6, 7,
      8, 45], [2], [0, 4, 5, 6, 7, 8, 9], [0, 4, 5, 7, 8, 9], [0, 4, 5, 7, 61], [2], [0, 4, 5, 7, 10], [0, 4, 5, 7, 10], [0, 4, 5, 7, 10, 11], [0, 4, 5, 7, 10, 11], [0, 4, 5, 7, 10,
      11, 69], [2], [0, 4, 5, 7, 10, 72], [2], [4, 5, 7, 10, 12, 13], [7, 10, 87], [2], [7, 10, 11], [10, 11], [10, 11, 92], [2], [95], [2], [2]] 96
theorem fc8_0 : IntKind.wrap .i64 0 = 0 := by decide
theorem fc8_1 : IntKind.wrap .i64 1 = 1 := by decide
theorem fc8_2 : IntKind.wrap .i64 2 = 2 := by decide
theorem fc8_3 : IntKind.wrap .i64 3 = 3 := by decide
theorem s8 : ∀ vs r, g_laws_FnExactPointLengths vs = some r → SaysM Try.prog .any 8 vs r := by
  intro vs r h
  unfold g_laws_FnExactPointLengths at h
  split at h
  · rename_i w0
    cases hd_y0 : decL dc_en0 w0 with
    | none => rw [hd_y0] at h; cases h
    | some y0 =>
    rw [hd_y0] at h
    obtain rfl := decL_inv dc_en0_inv hd_y0
    clear hd_y0
    dsimp only at h
    split at h
    · rename_i hp
      cases h
      refine spec_of (m := .any) (tab := tabOf [(17, wM .any g_laws_eqVectorS), (23, g_laws_markVectorS), (32, wM .any g_laws_eqFloat32S), (33, wM .any g_laws_szVectorS), (35, wM (.own [3]) g_laws_toVectorS), (43, wM (.own [1]) g_spec_PointLengths), (44, wM (.own [1]) g_impl_PointLengths), (45, g_laws_markFloat32S), (46, wM .any g_laws_heldFloat32S)]) (cp := cp8) (ic := ic8) (rvl := [(.t 2)]) hm (tabOk_cons (m := .any) s17 (tabOk_consW s23 (tabOk_cons (m := .any) s32 (tabOk_cons (m := .any) s33 (tabOk_cons (m := (.own [3])) s35 (tabOk_cons (m := (.own [1])) s43 (tabOk_cons (m := (.own [1])) s44 (tabOk_consW s45 (tabOk_cons (m := .any) s46 tabOk_nil))))))))) Try.func8 rfl rfl rfl (by kernel_rfl) rfl (Nat.le_of_ble_eq_true rfl) (Nat.le_of_ble_eq_true rfl) ?_
      show eA _ _ _ _
      unfold ic8
      simp only [p_laws_FnExactPointLengths, v_laws_FnExactPointLengths_0, Bool.and_eq_true, Bool.or_eq_true, decide_eq_true_eq, Bool.not_eq_true', decide_eq_false_iff_not] at hp
      simp only [
          hp, grpS, grpD, grpF, grpL, eop, vop, bop, uop, fltop, convop, endOk, newE, new1, freshL, Md.isNew, outV, pureV, pureX, pure1, AV.cells, AV.one, storable, laid, refless,
                refless1, vload, loadC, storeC, vnil, vfaddr, vextract, flatT, flatE, flatC, vconv, vmm, vidxA, viaddrA, vfield, vlen, elemsOf, dF32, dF64, dI64, dU8, dBool, dStr,
                esOk, elemsS, vsliceX, bnd, ownV, ownC, own1, ownT, isSl, nSl, endL, Md.isOwn, purge, purgeH, purgeB, purgeE, hasName, name1, List.any_cons, List.any_nil, Md.isWr,
                pureV.pureP, Option.map, reduceIte, Nat.reduceEqDiff, Nat.reduceAdd, Nat.reduceMul, Nat.reduceLT, Nat.reduceLeDiff, List.mapM_cons, List.mapM_nil, Option.pure_def,
                Option.bind_eq_bind, Option.bind_some, implies_true, forall_const, beq_self_eq_true, decide_true, decide_false, eq_self, Int.reduceEq, Int.reduceLE, Int.reduceLT,
                if_true, if_false, fc8_0, fc8_1, fc8_2, fc8_3, Int.reduceAdd, Int.reduceSub, Int.reduceMul, Int.reduceNeg, Int.reducePow, Nat.reducePow, Int.reduceToNat,
                Nat.reduceSub, List.replicate, Nat.reduceBEq, wAs, wA, wC, zipW, noDupN, grpE, g_laws_eqVectorS, g_laws_markVectorS, g_laws_eqFloat32S, g_laws_szVectorS,
                g_laws_toVectorS, g_spec_PointLengths, g_impl_PointLengths, g_laws_markFloat32S, g_laws_heldFloat32S, grpC, en0, dc_en0, ↓b_pick, ePk_true, ePk_false]
      repeat' (first
        | ((first | (refine eGI_of (fun h => ?_) (fun h => ?_)) | (refine eCc_of (fun h => ?_) (fun h => ?_)) | (refine ePk_of (fun h => ?_) (fun h => ?_))) <;> (try simp only [Bool.not_eq_true', Bool.not_eq_false'] at h) <;> (try simp only [h, reduceCtorEq, Bool.not_eq_true', decide_eq_false_iff_not, Bool.not_true, Bool.not_false, Bool.false_or, Bool.true_or, Bool.true_and, Bool.false_and, Bool.and_eq_true, Bool.or_eq_true, if_true, if_false, reduceIte, Bool.false_eq_true, and_true, true_and, false_or, or_false, decide_eq_true_eq, not_false_eq_true, not_true_eq_false] at hp) <;> (try (have h2 := h; simp only [decide_eq_true_eq, decide_eq_false_iff_not] at h2; (first | (replace h2 := eq_false h2) | (replace h2 := eq_true h2)); simp only [h2, if_true, if_false, false_or, true_or, or_true, or_false, and_true, true_and, not_false_eq_true, not_true_eq_false] at hp)) <;> simp only [h,
          hp, grpS, grpD, grpF, grpL, eop, vop, bop, uop, fltop, convop, endOk, newE, new1, freshL, Md.isNew, outV, pureV, pureX, pure1, AV.cells, AV.one, storable, laid, refless,
                refless1, vload, loadC, storeC, vnil, vfaddr, vextract, flatT, flatE, flatC, vconv, vmm, vidxA, viaddrA, vfield, vlen, elemsOf, dF32, dF64, dI64, dU8, dBool, dStr,
                esOk, elemsS, vsliceX, bnd, ownV, ownC, own1, ownT, isSl, nSl, endL, Md.isOwn, purge, purgeH, purgeB, purgeE, hasName, name1, List.any_cons, List.any_nil, Md.isWr,
                pureV.pureP, Option.map, reduceIte, Nat.reduceEqDiff, Nat.reduceAdd, Nat.reduceMul, Nat.reduceLT, Nat.reduceLeDiff, List.mapM_cons, List.mapM_nil, Option.pure_def,
                Option.bind_eq_bind, Option.bind_some, implies_true, forall_const, beq_self_eq_true, decide_true, decide_false, eq_self, Int.reduceEq, Int.reduceLE, Int.reduceLT,
                if_true, if_false, fc8_0, fc8_1, fc8_2, fc8_3, Int.reduceAdd, Int.reduceSub, Int.reduceMul, Int.reduceNeg, Int.reducePow, Nat.reducePow, Int.reduceToNat,
                Nat.reduceSub, List.replicate, Nat.reduceBEq, wAs, wA, wC, zipW, noDupN, grpE, g_laws_eqVectorS, g_laws_markVectorS, g_laws_eqFloat32S, g_laws_szVectorS,
                g_laws_toVectorS, g_spec_PointLengths, g_impl_PointLengths, g_laws_markFloat32S, g_laws_heldFloat32S, grpC, en0, dc_en0, ↓b_pick, ePk_true, ePk_false]))
      all_goals (try simp only [*, m_laws_FnExactPointLengths, v_laws_FnExactPointLengths_0, Bool.and_true, Bool.true_and, Bool.and_false, Bool.false_and, Bool.or_true, Bool.true_or, Bool.or_false, Bool.false_or, Bool.not_true, Bool.not_false, Bool.false_eq_true, if_true, if_false, reduceIte, decide_true, decide_false])
      all_goals (try (simp_all; done))
    · cases h
  · cases h
end Go.Proofs
namespace Go.Ab
/-- a list of known length is filled, an element a round -/
theorem fill_loop {β : Type} (l : Nat → List β → Int → Option (List β)) (len : Nat) (F : Nat → β) (hlen : len < 2 ^ 62)
    (H : ∀ (n : Nat) (z : List β) (k : Nat), k < len → z.length = len → l (n + 1) z (k : Int) = l n (z.set k (F k)) (IntKind.wrap .i64 ((k : Int) + 1)))
    (H' : ∀ (n : Nat) (z : List β) (k : Nat), ¬ k < len → l (n + 1) z (k : Int) = some z) :
    ∀ (n : Nat) (z : List β) (k : Nat), k ≤ len → z.length = len → len - k < n → l n z (k : Int) = some (z.take k ++ (List.range' k (len - k)).map F)
  | 0, z, k, _, _, h => by omega
  | n + 1, z, k, hk, hz, h => by
    by_cases hlt : k < len
    · rw [H n z k hlt hz, wrapS (by omega), fill_loop l len F hlen H H' n _ (k + 1) (by omega) (by rw [List.length_set]; exact hz) (by omega), show len - k = (len - (k + 1)) + 1 by omega, List.range'_succ, List.map_cons]
      congr 1
      rw [List.take_succ_eq_append_getElem (by rw [List.length_set]; omega), List.take_set_of_le (Nat.le_refl _), List.getElem_set_self, List.append_assoc, List.singleton_append]
    · rw [H' n z k hlt, show len - k = 0 by omega]
      have : k = z.length := by omega
      subst this
      simp
/-- elements are put at the end, one a round -/
theorem app_loop {β : Type} (l : Nat → List β → Int → Option (List β)) (len : Nat) (F : Nat → β) (hlen : len < 2 ^ 62) (P : Nat → Nat → Prop)
    (H : ∀ (n : Nat) (z : List β) (k : Nat), k < len → P k z.length → l (n + 1) z (k : Int) = l n (z ++ [F k]) (IntKind.wrap .i64 ((k : Int) + 1)))
    (H' : ∀ (n : Nat) (z : List β) (k : Nat), ¬ k < len → l (n + 1) z (k : Int) = some z) (hP : ∀ k j, k < len → P k j → P (k + 1) (j + 1)) :
    ∀ (n : Nat) (z : List β) (k : Nat), k ≤ len → P k z.length → len - k < n → l n z (k : Int) = some (z ++ (List.range' k (len - k)).map F)
  | 0, z, k, _, _, h => by omega
  | n + 1, z, k, hk, hp, h => by
    by_cases hlt : k < len
    · rw [H n z k hlt hp, wrapS (by omega), app_loop l len F hlen P H H' hP n _ (k + 1) (by omega) (by rw [List.length_append]; exact hP _ _ hlt hp) (by omega), show len - k = (len - (k + 1)) + 1 by omega, List.range'_succ, List.map_cons]
      simp
    · rw [H' n z k hlt, show len - k = 0 by omega]
      simp
theorem map_range_shift {β : Type} {F G : Nat → β} {k j m : Nat} (h : ∀ i, i < m → F (k + i) = G (j + i)) : (List.range' k m).map F = (List.range' j m).map G := by
  induction m generalizing k j with
  | zero => rfl
  | succ m ih =>
    have h0 := h 0 (by omega)
    rw [Nat.add_zero, Nat.add_zero] at h0
    rw [List.range'_succ, List.range'_succ, List.map_cons, List.map_cons, h0, ih fun i hi => by
      have := h (i + 1) (by omega)
      rw [show k + (i + 1) = k + 1 + i by omega, show j + (i + 1) = j + 1 + i by omega] at this
      exact this]
/-- marks -/
def marks {α : Type} (f : Int → α) (g : Int → Int) : Int → Nat → List α
  | _, 0 => []
  | m, n + 1 => f m :: marks f g (g m) n
def iter (g : Int → Int) : Nat → Int → Int
  | 0, m => m
  | n + 1, m => iter g n (g m)
theorem marks_len {α : Type} (f : Int → α) (g : Int → Int) : ∀ (n : Nat) (m : Int), (marks f g m n).length = n
  | 0, _ => rfl
  | n + 1, m => by rw [marks, List.length_cons, marks_len f g n]
theorem marks_get {α : Type} [Inhabited α] (f : Int → α) (g : Int → Int) : ∀ (n : Nat) (m : Int) (i : Nat), i < n → (marks f g m n).getD i default = f (iter g i m)
  | 0, _, _, h => by omega
  | n + 1, m, 0, _ => rfl
  | n + 1, m, i + 1, h => by
    rw [marks, List.getD_cons_succ, marks_get f g n (g m) i (by omega)]; rfl
theorem iter_succ (g : Int → Int) : ∀ (i : Nat) (m : Int), g (iter g i m) = iter g (i + 1) m
  | 0, _ => rfl
  | i + 1, m => by rw [iter, iter_succ g i (g m)]; rfl
theorem iter_add {g : Int → Int} {c : Nat} (hg : ∀ m : Int, 0 ≤ m → m ≤ 2 ^ 60 → g m = m + c) : ∀ (n : Nat) (m : Int), 0 ≤ m → m + ((c * n : Nat) : Int) ≤ 2 ^ 60 → iter g n m = m + ((c * n : Nat) : Int)
  | 0, m, _, _ => by simp [iter]
  | n + 1, m, h0, h => by
    rw [Nat.mul_succ] at h ⊢
    rw [iter, hg m h0 (by omega), iter_add hg n _ (by omega) (by omega)]
    omega
theorem mark_loop {α : Type} (l : Nat → List α → Int → Int → Option (Int × List α)) (f : Int → α) (g : Int → Int)
    (H : ∀ n z m k, l (n + 1) z m k = if (decide (k < ((z.length : Nat) : Int))) = true then need (inB k z.length) (l n (z.set k.toNat (f m)) (g m) (IntKind.wrap .i64 (k + 1))) else some (m, z)) :
    ∀ (n : Nat) (z : List α) (m : Int) (k : Nat), z.length < 2 ^ 62 → k ≤ z.length → z.length - k < n → l n z m (k : Int) = some (iter g (z.length - k) m, z.take k ++ marks f g m (z.length - k))
  | 0, z, m, k, _, _, h => by omega
  | n + 1, z, m, k, hz, hk, h => by
    rw [H]
    by_cases hlt : k < z.length
    · rw [if_pos (by simp; omega), inB_nat]
      unfold need
      rw [if_pos (by simpa using hlt), wrapS (by omega), Int.toNat_natCast, mark_loop l f g H n _ (g m) (k + 1) (by rw [List.length_set]; exact hz) (by rw [List.length_set]; omega) (by rw [List.length_set]; omega), List.length_set,
        show z.length - k = (z.length - (k + 1)) + 1 by omega]
      congr 2
      rw [List.take_succ_eq_append_getElem (by rw [List.length_set]; omega), List.take_set_of_le (Nat.le_refl _), List.getElem_set_self, List.append_assoc, List.singleton_append]
      rfl
    · rw [if_neg (by simp; omega), show z.length - k = 0 by omega]
      have : k = z.length := by omega
      subst this
      simp [iter, marks]
theorem mark_all {α : Type} (l : Nat → List α → Int → Int → Option (Int × List α)) (f : Int → α) (g : Int → Int) (x : List α) (m : Int) (hx : x.length < 2 ^ 62)
    (H : ∀ n z m k, l (n + 1) z m k = if (decide (k < ((z.length : Nat) : Int))) = true then need (inB k z.length) (l n (z.set k.toNat (f m)) (g m) (IntKind.wrap .i64 (k + 1))) else some (m, z)) :
    l (Int.toNat (((x.length : Nat) : Int) - 0) + 2) x m 0 = some (iter g x.length m, marks f g m x.length) := by
  have := mark_loop l f g H (Int.toNat (((x.length : Nat) : Int) - 0) + 2) x m 0 hx (Nat.zero_le _) (by omega)
  simpa using this
theorem held_all {α : Type} [Inhabited α] (l : Nat → Int → Int → Option (Bool × Int × Int)) (f : Int → α) (g : Int → Int) (e : α → Int → Bool) (x : List α) (m : Int) (len : Nat) (hx : x = marks f g m len) (hl : len < 2 ^ 62) (he : ∀ m, e (f m) m = true)
    (H : ∀ n m k, l (n + 1) m k = if (decide (k < ((x.length : Nat) : Int))) = true then need (inB k x.length) (if e (atI x k) m = true then l n (g m) (IntKind.wrap .i64 (k + 1)) else some (true, -1, default)) else some (false, default, m)) :
    l (Int.toNat (((x.length : Nat) : Int) - 0) + 2) m 0 = some (false, default, iter g len m) := by
  have hlen : x.length = len := by rw [hx, marks_len]
  have key : ∀ (n k : Nat), k ≤ len → len - k < n → l n (iter g k m) (k : Int) = some (false, default, iter g len m) := by
    intro n
    induction n with
    | zero => intro k _ h; omega
    | succ n ih =>
      intro k hk h
      rw [H, hlen]
      by_cases hlt : k < len
      · rw [if_pos (by simp; omega), inB_nat]
        unfold need
        rw [if_pos (by simpa using hlt), atI_nat, hx, marks_get f g len m k hlt, if_pos (he _), wrapS (by omega), iter_succ g, ih (k + 1) (by omega) (by omega)]
      · rw [if_neg (by simp; omega), show k = len by omega]
  have := key (Int.toNat (((x.length : Nat) : Int) - 0) + 2) 0 (Nat.zero_le _) (by omega)
  exact this
/-- a whole number made a float is itself -/
theorem feq_ofInt (n : Int) : feq .f32 (ofInt .f32 n) (ofInt .f32 n) = true := by
  rw [feq_self_iff]
  have h : isNaN .f32 (ofInt .f32 n) = false := by
    unfold isNaN ofInt
    show (FloatKind.f32.format.read (FloatKind.f32.nearest n)).isNaN = false
    rcases read_nearest .f32 (decide (n < 0)) n.natAbs 0 with ⟨m', e', h, _⟩ | h
    all_goals
      have h2 : FloatKind.f32.format.read (FloatKind.f32.nearest n) = _ := h
      rw [h2]; rfl
  rw [h]; rfl
end Go.Ab
namespace Go.Proofs
open Go.Ab
theorem sameFloat_refl (x : Nat) : m_laws_sameFloat x x = true := by
  unfold m_laws_sameFloat
  by_cases h : feq .f64 x x = true
  · simp [h]
  · simp [h]
end Go.Proofs
namespace Go.Proofs
open Go.Ab
theorem eq_Vector (a : Nat × Nat × Nat) : m_laws_eqVector a a = true := by unfold m_laws_eqVector; simp [sameFloat_refl]
end Go.Proofs
namespace Go.Proofs
open Go.Ab
theorem eq_Float32S (x : List Nat) (h : x.length ≤ 1048576) : m_laws_eqFloat32S x x = true ∧ p_laws_eqFloat32S x x = true := by
  unfold m_laws_eqFloat32S p_laws_eqFloat32S
  rw [show l_laws_eqFloat32S_0 x x (Int.toNat (((List.length x : Nat) : Int) - 0) + 2) 0 = some (false, default, ()) from eq_loop _ x (fun a b => m_laws_sameFloat (widen a) (widen b)) (fun _ => sameFloat_refl _) (by omega) fun _ _ => rfl]; simp
end Go.Proofs
namespace Go.Proofs
open Go.Ab
theorem eq_VectorS (x : List (Nat × Nat × Nat)) (h : x.length ≤ 1048576) : m_laws_eqVectorS x x = true ∧ p_laws_eqVectorS x x = true := by
  unfold m_laws_eqVectorS p_laws_eqVectorS
  rw [show l_laws_eqVectorS_0 x x (Int.toNat (((List.length x : Nat) : Int) - 0) + 2) 0 = some (false, default, ()) from eq_loop _ x m_laws_eqVector eq_Vector (by omega) fun _ _ => rfl]; simp
theorem to_VectorS (x : List (Nat × Nat × Nat)) (h : x.length ≤ 1048576) : m_laws_toVectorS x = x ∧ p_laws_toVectorS x = true := by
  unfold m_laws_toVectorS p_laws_toVectorS
  rw [show l_laws_toVectorS_0 x (Int.toNat (((List.length x : Nat) : Int) - 0) + 2) (List.replicate (Int.toNat ((List.length x : Nat) : Int)) (0, 0, 0)) 0 = some x by
    rw [copy_all (l_laws_toVectorS_0 x) x m_laws_toVector _ (by omega) fun _ _ _ => rfl]
    congr 1
    exact List.map_id x]
  refine ⟨rfl, ?_⟩
  simp; omega
theorem sz_VectorS (x : List (Nat × Nat × Nat)) (n : Int) (hx : x.length ≤ maxLen) (h0 : 0 ≤ n) (hn : n ≤ 1048576) (hs : ¬ (m_laws_szVectorS x n < 0)) : x.length ≤ 1048576 ∧ 0 ≤ m_laws_szVectorS x n ∧ m_laws_szVectorS x n ≤ 1048576 := by
  unfold m_laws_szVectorS at hs ⊢
  have hx' : x.length ≤ 9223372036854775807 := by unfold maxLen at hx; omega
  rw [wrapI (by omega) (by omega)] at hs ⊢
  by_cases h : n - ((List.length x : Nat) : Int) < 0
  · simp [h] at hs
  · rw [if_neg (by simpa using h)]; omega
end Go.Proofs
namespace Go.Proofs
open Go.Ab
def gV (m : Int) : Int := IntKind.wrap .i64 ((IntKind.wrap .i64 ((IntKind.wrap .i64 (m + 1)) + 1)) + 1)
theorem gV_add (m : Int) (h0 : 0 ≤ m) (h : m ≤ 2 ^ 60) : gV m = m + (3 : Nat) := by
  unfold gV
  rw [wrapI (n := m + 1) (by omega) (by omega), wrapI (n := m + 1 + 1) (by omega) (by omega), wrapI (by omega) (by omega)]
  omega
def fV (m : Int) : Nat × Nat × Nat := (ofInt .f32 m, ofInt .f32 (IntKind.wrap .i64 (m + 1)), ofInt .f32 (IntKind.wrap .i64 ((IntKind.wrap .i64 (m + 1)) + 1)))
theorem mark_VectorS (x : List (Nat × Nat × Nat)) (m : Int) (h : x.length ≤ 1048576) : m_laws_markVectorS x m = (iter gV x.length m, marks fV gV m x.length) ∧ p_laws_markVectorS x m = true := by
  unfold m_laws_markVectorS p_laws_markVectorS
  rw [show l_laws_markVectorS_0 (Int.toNat (((List.length x : Nat) : Int) - 0) + 2) x m 0 = some (iter gV x.length m, marks fV gV m x.length) from mark_all _ fV gV x m (by omega) fun _ _ _ _ => rfl]
  exact ⟨rfl, by simp [marks_len]⟩
end Go.Proofs
namespace Go.Proofs
open Go.Ab
def gF (m : Int) : Int := IntKind.wrap .i64 (m + 1)
theorem gF_add (m : Int) (h0 : 0 ≤ m) (h : m ≤ 2 ^ 60) : gF m = m + (1 : Nat) := wrapI (by omega) (by omega)
theorem mark_Float32S (x : List Nat) (m : Int) (h : x.length ≤ 1048576) : m_laws_markFloat32S x m = (iter gF x.length m, marks (ofInt .f32) gF m x.length) ∧ p_laws_markFloat32S x m = true := by
  unfold m_laws_markFloat32S p_laws_markFloat32S
  rw [show l_laws_markFloat32S_0 (Int.toNat (((List.length x : Nat) : Int) - 0) + 2) x m 0 = some (iter gF x.length m, marks (ofInt .f32) gF m x.length) from mark_all _ (ofInt .f32) gF x m (by omega) fun _ _ _ _ => rfl]
  exact ⟨rfl, by simp [marks_len]⟩
theorem held_Float32S (n : Nat) (m : Int) (h : n ≤ 1048576) : m_laws_heldFloat32S (marks (ofInt .f32) gF m n) m = iter gF n m ∧ p_laws_heldFloat32S (marks (ofInt .f32) gF m n) m = true := by
  unfold m_laws_heldFloat32S p_laws_heldFloat32S
  rw [show l_laws_heldFloat32S_0 (marks (ofInt .f32) gF m n) (Int.toNat (((List.length (marks (ofInt .f32) gF m n) : Nat) : Int) - 0) + 2) m 0 = some (false, default, iter gF n m) from
    held_all _ (ofInt .f32) gF (fun a m => feq .f32 a (ofInt .f32 m)) _ m n rfl (by omega) feq_ofInt fun _ _ _ => rfl]
  exact ⟨by simp, rfl⟩
end Go.Proofs
namespace Go.Proofs
open Go.Ab
/-- the distances of neighbours -/
def gaps (x : List (Nat × Nat × Nat)) : List Nat := (List.range' 0 (x.length - 1)).map fun k => m_spec_l01Long (m_spec_l01Less (x.getD (k + 1) default) (x.getD k default))
theorem gaps_len (x : List (Nat × Nat × Nat)) : (gaps x).length = x.length - 1 := by simp [gaps]
theorem long_ok (v : Nat × Nat × Nat) : p_spec_l01Long v = true := sqrt_narrow _
theorem spec_gaps (x : List (Nat × Nat × Nat)) (h1 : 1 ≤ x.length) (h2 : x.length ≤ 1048576) : l_spec_l04Lengths_0 x (Int.toNat (((List.length x : Nat) : Int) - 1) + 2) [] 1 = some (gaps x) := by
  have := app_loop (l_spec_l04Lengths_0 x) x.length (fun k => m_spec_l01Long (m_spec_l01Less (x.getD k default) (x.getD (k - 1) default))) (by omega) (fun k j => k = j + 1) (fun n z k hk hp => by
      show (if (decide ((k : Int) < ((List.length x : Nat) : Int))) = true then _ else _) = _
      have hw : IntKind.wrap .i64 ((k : Int) - 1) = ((k - 1 : Nat) : Int) := by rw [wrapI (by omega) (by omega)]; omega
      rw [if_pos (by simp; omega), hw, inB_nat, inB_nat, atI_nat, atI_nat]
      unfold need
      rw [if_pos (by simp; omega), if_pos (by simp; omega), if_pos (long_ok _), if_pos (by simp; omega), if_pos (by simp; omega)]) (fun n z k hk => by
      show (if (decide ((k : Int) < ((List.length x : Nat) : Int))) = true then _ else _) = _
      rw [if_neg (by simp; omega)]) (fun k j _ h => by omega) (Int.toNat (((List.length x : Nat) : Int) - 1) + 2) [] 1 h1 (by simp) (by omega)
  refine this.trans ?_
  rw [List.nil_append]
  unfold gaps
  congr 1
  refine map_range_shift fun i _ => ?_
  rw [show 1 + i - 1 = 0 + i by omega, show 1 + i = 0 + i + 1 by omega]
theorem spec_Lengths (x : List (Nat × Nat × Nat)) (h1 : 1 ≤ x.length) (h2 : x.length ≤ 1048576) : m_spec_l04Lengths x = gaps x ∧ p_spec_l04Lengths x = true := by
  unfold m_spec_l04Lengths p_spec_l04Lengths
  rw [spec_gaps x h1 h2]; exact ⟨rfl, rfl⟩
end Go.Proofs
namespace Go.Proofs
open Go.Ab
theorem impl_Lengths (x : List (Nat × Nat × Nat)) (h1 : 1 ≤ x.length) (h2 : x.length ≤ 1048576) : m_impl_distances x = gaps x ∧ p_impl_distances x = true := by
  have hw0 : IntKind.wrap .i64 (((List.length x : Nat) : Int) - 1) = ((x.length - 1 : Nat) : Int) := by rw [wrapI (by omega) (by omega)]; omega
  unfold m_impl_distances p_impl_distances
  have := fill_loop (l_impl_distances_0 x) (x.length - 1) (fun k => m_spec_l01Long (m_spec_l01Less (x.getD (k + 1) default) (x.getD k default))) (by omega) (fun n z k hk hz => by
      show (if (decide ((k : Int) < ((Int.toNat (IntKind.wrap .i64 (((List.length x : Nat) : Int) - 1)) : Nat) : Int))) = true then _ else _) = _
      have hw : IntKind.wrap .i64 ((k : Int) + 1) = ((k + 1 : Nat) : Int) := wrapS (by omega)
      rw [hw0, if_pos (by simp; omega), hw, inB_nat, inB_nat, inB_nat, atI_nat, atI_nat, Int.toNat_natCast]
      unfold need
      rw [if_pos (by simp; omega), if_pos (by simp; omega), if_pos (show p_impl_LongOf _ = true from sqrt_narrow _), if_pos (by simp; omega)]
      rfl) (fun n z k hk => by
      show (if (decide ((k : Int) < ((Int.toNat (IntKind.wrap .i64 (((List.length x : Nat) : Int) - 1)) : Nat) : Int))) = true then _ else _) = _
      rw [hw0, if_neg (by simp; omega)]) (Int.toNat (((x.length - 1 : Nat) : Int) - 0) + 2) (List.replicate (x.length - 1) 0) 0 (Nat.zero_le _) (by simp) (by omega)
  rw [hw0, Int.toNat_natCast]
  rw [show l_impl_distances_0 x (Int.toNat (((x.length - 1 : Nat) : Int) - 0) + 2) (List.replicate (x.length - 1) 0) 0 = some (gaps x) from this.trans (by simp [gaps])]
  refine ⟨rfl, ?_⟩
  simp; omega
end Go.Proofs
namespace Go.Proofs
open Go.Ab
theorem core_PointLengths (x : List (Nat × Nat × Nat)) : p_impl_PointLengths x = true ∧ p_spec_PointLengths x = true ∧ m_impl_PointLengths x = m_spec_PointLengths x ∧ (m_spec_PointLengths x).1.length ≤ 1048576 := by
  unfold p_impl_PointLengths p_spec_PointLengths m_impl_PointLengths m_spec_PointLengths m_impl_arePoints m_spec_l04Points m_spec_l00In
  by_cases h : 2 ≤ x.length ∧ x.length ≤ 16
  · have e1 : (2 : Int) ≤ ((List.length x : Nat) : Int) := by omega
    have e2 : ((List.length x : Nat) : Int) ≤ 16 := by omega
    have := gaps_len x
    simp [e1, e2, spec_Lengths x (by omega) (by omega), impl_Lengths x (by omega) (by omega), gaps_len]
    omega
  · by_cases e1 : (2 : Int) ≤ ((List.length x : Nat) : Int)
    · have e2 : ¬ ((List.length x : Nat) : Int) ≤ 16 := by omega
      simp [e1, e2]
    · simp [e1]
theorem law_PointLengths (x : List (Nat × Nat × Nat)) (h : x.length ≤ maxLen) (_ : ∀ q ∈ x, Canon .f32 q.1 ∧ Canon .f32 q.2.1 ∧ Canon .f32 q.2.2) :
    g_laws_FnExactPointLengths [.sl (List.map en0 x)] = some (.bool true) := by
  have key : p_laws_FnExactPointLengths x = true ∧ m_laws_FnExactPointLengths x = true := by
    unfold p_laws_FnExactPointLengths m_laws_FnExactPointLengths v_laws_FnExactPointLengths_0
    by_cases hs : m_laws_szVectorS x 1048576 < 0
    · simp [hs]
    · obtain ⟨k1, k2, k3⟩ := sz_VectorS x 1048576 h (by omega) (by omega) hs
      obtain ⟨c1, c2, c3, c4⟩ := core_PointLengths x
      rw [(to_VectorS x k1).1, c3]
      generalize (m_spec_PointLengths x) = r at *
      have i1 : ¬ iter gV x.length 1 < 0 := by rw [iter_add (g := gV) (c := 3) gV_add _ _ (by omega) (by omega)]; omega
      have i2 : ¬ iter gF r.1.length 1 < 0 := by rw [iter_add (g := gF) (c := 1) gF_add _ _ (by omega) (by omega)]; omega
      simp [hs, to_VectorS x k1, c1, c2, eq_VectorS x k1, eq_Float32S r.1 c4, mark_VectorS x 1 k1, mark_Float32S r.1 1 c4, held_Float32S _ 1 c4, marks_len, i1, i2]
  unfold g_laws_FnExactPointLengths
  simp only [dc_en0_map, key.1, key.2, if_true]
end Go.Proofs
