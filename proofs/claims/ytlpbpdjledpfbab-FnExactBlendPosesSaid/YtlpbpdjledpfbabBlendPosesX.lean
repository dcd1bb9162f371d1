/- What functions that FnExactBlendPoses reaches compute, and that the program's and the reference's answers are the same. No conditions. -/
import Derived.Test.YtlpbpdjledpfbabBlendPosesY1
set_option maxRecDepth 100000
set_option maxHeartbeats 4000000
set_option linter.all false
namespace Go.Proofs
open Go.Ab
def ic9 : ICode := (.seq (.reg [⟨(some 4), none, (.box 4 (.t 0))⟩, ⟨(some 5), none, (.box 4 (.t 1))⟩, ⟨(some 8), none, (.mov (.c (.bool false)))⟩] [2, 3, 4, 5]) (.seq (.seq (.reg
      [⟨(some 22), none, (.mov (.t 3))⟩, ⟨(some 23), none, (.len false (.t 22))⟩, ⟨(some 24), none, (.bin .gtr false (.t 23) (.c (.int .i64 1048576)))⟩] [2, 3, 4, 5, 24]) (.cond (.t
      24) (.seq (.reg [⟨(some 8), none, (.mov (.c (.bool true)))⟩] [8]) .ret) .skip)) (.seq (.reg [⟨(some 9), none, (.mov (.c (.int .i64 1048576)))⟩] [2, 3, 4, 5, 9]) (.seq (.reg
      [⟨(some 25), none, (.load (some 4) (.t 4))⟩, ⟨(some 26), none, (.mov (.t 9))⟩, ⟨(some 27), none, (.call (.fn 23) [(.t 25), (.t 26)] [])⟩, ⟨(some 9), none, (.mov (.t 27))⟩] [2,
      3, 4, 5, 9]) (.seq (.seq (.reg [⟨(some 28), none, (.mov (.t 9))⟩, ⟨(some 29), none, (.bin .lss false (.t 28) (.c (.int .i64 0)))⟩] [2, 3, 4, 5, 9, 29]) (.cond (.t 29) (.seq
      (.reg [⟨(some 8), none, (.mov (.c (.bool true)))⟩] [8]) .ret) .skip)) (.seq (.reg [⟨(some 30), none, (.load (some 4) (.t 5))⟩, ⟨(some 31), none, (.mov (.t 9))⟩, ⟨(some 32),
      none, (.call (.fn 23) [(.t 30), (.t 31)] [])⟩, ⟨(some 9), none, (.mov (.t 32))⟩] [2, 3, 4, 5, 9]) (.seq (.seq (.reg [⟨(some 33), none, (.mov (.t 9))⟩, ⟨(some 34), none, (.bin
      .lss false (.t 33) (.c (.int .i64 0)))⟩] [2, 3, 4, 5, 34]) (.cond (.t 34) (.seq (.reg [⟨(some 8), none, (.mov (.c (.bool true)))⟩] [8]) .ret) .skip)) (.seq (.reg [⟨(some 36),
      none, (.load (some 4) (.t 4))⟩, ⟨(some 37), none, (.call (.fn 25) [(.t 36)] [])⟩, ⟨(some 38), none, (.load (some 4) (.t 5))⟩, ⟨(some 39), none, (.call (.fn 25) [(.t 38)] [])⟩,
      ⟨(some 40), none, (.mov (.t 2))⟩, ⟨(some 41), none, (.mov (.t 3))⟩, ⟨(some 42), none, (.call (.fn 42) [(.t 41)] [])⟩, ⟨(some 43), none, (.call (.fn 41) [(.t 37), (.t 39), (.t
      40), (.t 42)] [])⟩, ⟨(some 35), none, (.mov (.t 43))⟩, ⟨(some 44), none, (.extract (.t 35) 0)⟩, ⟨(some 45), none, (.extract (.t 35) 1)⟩, ⟨(some 10), none, (.alloc (.agg [(.flt
      .f32 0), (.flt .f32 0), (.flt .f32 0), .snil]))⟩, ⟨none, none, (.store 4 (.t 10) (.t 44))⟩, ⟨(some 11), none, (.mov (.t 45))⟩] [2, 3, 4, 5, 10, 11]) (.seq (.reg [⟨(some 46),
      none, (.load (some 4) (.t 4))⟩, ⟨(some 47), none, (.call (.fn 25) [(.t 46)] [4])⟩, ⟨(some 12), none, (.alloc (.agg [(.flt .f32 0), (.flt .f32 0), (.flt .f32 0), .snil]))⟩,
      ⟨none, none, (.store 4 (.t 12) (.t 47))⟩] [2, 3, 4, 5, 10, 11, 12]) (.seq (.reg [⟨(some 48), none, (.load (some 4) (.t 5))⟩, ⟨(some 49), none, (.call (.fn 25) [(.t 48)] [4])⟩,
      ⟨(some 13), none, (.alloc (.agg [(.flt .f32 0), (.flt .f32 0), (.flt .f32 0), .snil]))⟩, ⟨none, none, (.store 4 (.t 13) (.t 49))⟩] [2, 3, 4, 5, 10, 11, 12, 13]) (.seq (.reg
      [⟨(some 50), none, (.mov (.t 3))⟩, ⟨(some 51), none, (.call (.fn 42) [(.t 50)] [1])⟩, ⟨(some 14), none, (.mov (.t 51))⟩] [2, 3, 4, 5, 10, 11, 12, 13, 14]) (.seq (.reg [⟨(some
      53), none, (.load (some 4) (.t 12))⟩, ⟨(some 54), none, (.load (some 4) (.t 13))⟩, ⟨(some 55), none, (.mov (.t 2))⟩, ⟨(some 56), none, (.mov (.t 14))⟩, ⟨(some 57), none,
      (.call (.fn 43) [(.t 53), (.t 54), (.t 55), (.t 56)] [4])⟩, ⟨(some 52), none, (.mov (.t 57))⟩, ⟨(some 58), none, (.extract (.t 52) 0)⟩, ⟨(some 59), none, (.extract (.t 52)
      1)⟩, ⟨(some 15), none, (.alloc (.agg [(.flt .f32 0), (.flt .f32 0), (.flt .f32 0), .snil]))⟩, ⟨none, none, (.store 4 (.t 15) (.t 58))⟩, ⟨(some 16), none, (.mov (.t 59))⟩] [2,
      3, 4, 5, 10, 11, 12, 13, 14, 15, 16]) (.seq (.seq (.reg [⟨(some 60), none, (.load (some 4) (.t 15))⟩, ⟨(some 61), none, (.load (some 4) (.t 10))⟩, ⟨(some 62), none, (.call
      (.fn 27) [(.t 60), (.t 61)] [])⟩, ⟨(some 63), none, (.un .not (.t 62))⟩, ⟨(some 64), none, (.mov (.t 63))⟩, ⟨(some 65), (some (64, false)), (.mov (.t 16))⟩, ⟨(some 66), (some
      (64, false)), (.mov (.t 11))⟩, ⟨(some 67), (some (64, false)), (.bin .neq true (.t 65) (.t 66))⟩, ⟨(some 68), none, (.pick (.t 64) (.c (.bool true)) (.t 67))⟩] [2, 3, 4, 5,
      10, 11, 12, 13, 14, 15, 16, 68]) (.cond (.t 68) (.seq (.reg [⟨(some 8), none, (.mov (.c (.bool false)))⟩] [8]) .ret) .skip)) (.seq (.seq (.reg [⟨(some 69), none, (.load (some
      4) (.t 12))⟩, ⟨(some 70), none, (.load (some 4) (.t 4))⟩, ⟨(some 71), none, (.call (.fn 25) [(.t 70)] [])⟩, ⟨(some 72), none, (.call (.fn 27) [(.t 69), (.t 71)] [])⟩, ⟨(some
      73), none, (.un .not (.t 72))⟩] [2, 3, 4, 5, 10, 11, 12, 13, 14, 15, 16, 73]) (.cond (.t 73) (.seq (.reg [⟨(some 8), none, (.mov (.c (.bool false)))⟩] [8]) .ret) .skip)) (.seq
      (.seq (.reg [⟨(some 74), none, (.load (some 4) (.t 13))⟩, ⟨(some 75), none, (.load (some 4) (.t 5))⟩, ⟨(some 76), none, (.call (.fn 25) [(.t 75)] [])⟩, ⟨(some 77), none,
      (.call (.fn 27) [(.t 74), (.t 76)] [])⟩, ⟨(some 78), none, (.un .not (.t 77))⟩] [2, 3, 4, 5, 10, 11, 12, 13, 14, 15, 16, 78]) (.cond (.t 78) (.seq (.reg [⟨(some 8), none,
      (.mov (.c (.bool false)))⟩] [8]) .ret) .skip)) (.seq (.seq (.reg [⟨(some 79), none, (.mov (.t 14))⟩, ⟨(some 80), none, (.mov (.t 3))⟩, ⟨(some 81), none, (.call (.fn 42) [(.t
      80)] [])⟩, ⟨(some 82), none, (.call (.fn 44) [(.t 79), (.t 81)] [])⟩, ⟨(some 83), none, (.un .not (.t 82))⟩] [2, 3, 4, 5, 10, 11, 12, 13, 14, 15, 16, 83]) (.cond (.t 83) (.seq
      (.reg [⟨(some 8), none, (.mov (.c (.bool false)))⟩] [8]) .ret) .skip)) (.seq (.reg [⟨(some 17), none, (.mov (.c (.int .i64 1)))⟩] [2, 3, 4, 5, 10, 11, 12, 13, 14, 15, 16, 17])
      (.seq (.reg [⟨(some 84), none, (.load (some 4) (.t 12))⟩, ⟨(some 85), none, (.mov (.t 17))⟩, ⟨(some 86), none, (.callM 28 [(.t 84), (.t 85)])⟩, ⟨(some 17), none, (.mov (.t
      86))⟩] [2, 3, 4, 5, 10, 11, 13, 14, 15, 16, 17]) (.seq (.reg [⟨(some 87), none, (.load (some 4) (.t 13))⟩, ⟨(some 88), none, (.mov (.t 17))⟩, ⟨(some 89), none, (.callM 28 [(.t
      87), (.t 88)])⟩, ⟨(some 17), none, (.mov (.t 89))⟩] [2, 3, 4, 5, 10, 11, 14, 15, 16, 17]) (.seq (.reg [⟨(some 90), none, (.mov (.t 14))⟩, ⟨(some 91), none, (.mov (.t 17))⟩,
      ⟨(some 92), none, (.callM 45 [(.t 90), (.t 91)])⟩, ⟨(some 17), none, (.mov (.t 92))⟩] [2, 3, 4, 5, 10, 11, 15, 16, 17]) (.seq (.seq (.reg [⟨(some 93), none, (.mov (.t 17))⟩,
      ⟨(some 94), none, (.bin .lss false (.t 93) (.c (.int .i64 0)))⟩, ⟨(some 95), none, (.mov (.t 94))⟩, ⟨(some 96), (some (95, false)), (.load (some 4) (.t 15))⟩, ⟨(some 97),
      (some (95, false)), (.load (some 4) (.t 10))⟩, ⟨(some 98), (some (95, false)), (.call (.fn 27) [(.t 96), (.t 97)] [])⟩, ⟨(some 99), (some (95, false)), (.un .not (.t 98))⟩,
      ⟨(some 100), none, (.pick (.t 95) (.c (.bool true)) (.t 99))⟩, ⟨(some 101), none, (.mov (.t 100))⟩, ⟨(some 102), (some (101, false)), (.mov (.t 16))⟩, ⟨(some 103), (some (101,
      false)), (.mov (.t 11))⟩, ⟨(some 104), (some (101, false)), (.bin .neq true (.t 102) (.t 103))⟩, ⟨(some 105), none, (.pick (.t 101) (.c (.bool true)) (.t 104))⟩] [2, 3, 4, 5,
      10, 11, 15, 105]) (.cond (.t 105) (.seq (.reg [⟨(some 8), none, (.mov (.c (.bool false)))⟩] [8]) .ret) .skip)) (.seq (.reg [⟨(some 18), none, (.mov (.c (.int .i64 1)))⟩] [2,
      3, 4, 5, 10, 11, 15, 18]) (.seq (.reg [⟨(some 106), none, (.load (some 4) (.t 15))⟩, ⟨(some 107), none, (.mov (.t 18))⟩, ⟨(some 108), none, (.callM 28 [(.t 106), (.t 107)])⟩,
      ⟨(some 18), none, (.mov (.t 108))⟩] [2, 3, 4, 5, 10, 11, 15, 18]) (.seq (.reg [⟨(some 19), none, (.mov (.c (.int .i64 1)))⟩] [2, 3, 4, 5, 10, 11, 15, 18, 19]) (.seq (.reg
      [⟨(some 109), none, (.load (some 4) (.t 15))⟩, ⟨(some 110), none, (.mov (.t 19))⟩, ⟨(some 111), none, (.call (.fn 29) [(.t 109), (.t 110)] [])⟩, ⟨(some 19), none, (.mov (.t
      111))⟩] [2, 3, 4, 5, 10, 11, 15, 18, 19]) (.seq (.seq (.reg [⟨(some 112), none, (.mov (.t 19))⟩, ⟨(some 113), none, (.bin .lss false (.t 112) (.c (.int .i64 0)))⟩] [2, 3, 4,
      5, 10, 11, 15, 18, 19, 113]) (.cond (.t 113) (.seq (.reg [⟨(some 8), none, (.mov (.c (.bool false)))⟩] [8]) .ret) .skip)) (.seq (.seq (.reg [⟨(some 114), none, (.mov (.t
      19))⟩, ⟨(some 115), none, (.mov (.t 18))⟩, ⟨(some 116), none, (.bin .neq false (.t 114) (.t 115))⟩] [2, 3, 4, 5, 10, 11, 15, 18, 116]) (.cond (.t 116) (.seq (.reg [⟨(some 8),
      none, (.mov (.c (.bool false)))⟩] [8]) .ret) .skip)) (.seq (.reg [⟨(some 118), none, (.load (some 4) (.t 4))⟩, ⟨(some 119), none, (.call (.fn 25) [(.t 118)] [])⟩, ⟨(some 120),
      none, (.load (some 4) (.t 5))⟩, ⟨(some 121), none, (.call (.fn 25) [(.t 120)] [])⟩, ⟨(some 122), none, (.mov (.t 2))⟩, ⟨(some 123), none, (.mov (.t 3))⟩, ⟨(some 124), none,
      (.call (.fn 42) [(.t 123)] [])⟩, ⟨(some 125), none, (.call (.fn 43) [(.t 119), (.t 121), (.t 122), (.t 124)] [])⟩, ⟨(some 117), none, (.mov (.t 125))⟩, ⟨(some 126), none,
      (.extract (.t 117) 0)⟩, ⟨(some 127), none, (.extract (.t 117) 1)⟩, ⟨(some 20), none, (.alloc (.agg [(.flt .f32 0), (.flt .f32 0), (.flt .f32 0), .snil]))⟩, ⟨none, none,
      (.store 4 (.t 20) (.t 126))⟩, ⟨(some 21), none, (.mov (.t 127))⟩] [10, 11, 15, 18, 20, 21]) (.seq (.seq (.reg [⟨(some 128), none, (.load (some 4) (.t 20))⟩, ⟨(some 129), none,
      (.load (some 4) (.t 10))⟩, ⟨(some 130), none, (.call (.fn 27) [(.t 128), (.t 129)] [])⟩, ⟨(some 131), none, (.un .not (.t 130))⟩, ⟨(some 132), none, (.mov (.t 131))⟩, ⟨(some
      133), (some (132, false)), (.mov (.t 21))⟩, ⟨(some 134), (some (132, false)), (.mov (.t 11))⟩, ⟨(some 135), (some (132, false)), (.bin .neq true (.t 133) (.t 134))⟩, ⟨(some
      136), none, (.pick (.t 132) (.c (.bool true)) (.t 135))⟩] [15, 18, 136]) (.cond (.t 136) (.seq (.reg [⟨(some 8), none, (.mov (.c (.bool false)))⟩] [8]) .ret) .skip)) (.seq
      (.reg [⟨(some 19), none, (.mov (.c (.int .i64 1)))⟩] [15, 18, 19]) (.seq (.reg [⟨(some 137), none, (.load (some 4) (.t 15))⟩, ⟨(some 138), none, (.mov (.t 19))⟩, ⟨(some 139),
      none, (.call (.fn 29) [(.t 137), (.t 138)] [])⟩, ⟨(some 19), none, (.mov (.t 139))⟩] [18, 19]) (.seq (.seq (.reg [⟨(some 140), none, (.mov (.t 19))⟩, ⟨(some 141), none, (.bin
      .lss false (.t 140) (.c (.int .i64 0)))⟩] [18, 19, 141]) (.cond (.t 141) (.seq (.reg [⟨(some 8), none, (.mov (.c (.bool false)))⟩] [8]) .ret) .skip)) (.seq (.seq (.reg [⟨(some
      142), none, (.mov (.t 19))⟩, ⟨(some 143), none, (.mov (.t 18))⟩, ⟨(some 144), none, (.bin .neq false (.t 142) (.t 143))⟩] [144]) (.cond (.t 144) (.seq (.reg [⟨(some 8), none,
      (.mov (.c (.bool false)))⟩] [8]) .ret) .skip)) (.seq (.reg [⟨(some 8), none, (.mov (.c (.bool true)))⟩] [8]) .ret))))))))))))))))))))))))))))))))))
def cp9 : CP := CP.mk [(47, [4]), (49, [4]), (51, [1]), (57, [4])] [28, 45] [[2, 3, 4, 5], [2, 3, 4, 5, 24], [8], [2, 3, 4, 5, 9], [2, 3, 4, 5, 9], [2, 3, 4, 5, 9, 29], [8], [2, 3,
      4, 5, 9], [2, 3, 4, 5, 34], [8], [2, 3, 4, 5, 10, 11], [2, 3, 4, 5, 10, 11, 12], [2, 3, 4, 5, 10, 11, 12, 13], [2, 3, 4, 5, 10, 11, 12, 13, 14], [2, 3, 4, 5, 10, 11, 12, 13,
      14, 15, 16], [2, 3, 4, 5, 10, 11, 12, 13, 14, 15, 16, 68], [8], [2, 3, 4, 5, 10, 11, 12, 13, 14, 15, 16, 73], [8], [2, 3, 4, 5, 10, 11, 12, 13, 14, 15, 16, 78], [8], [2, 3, 4,
      5, 10, 11, 12, 13, 14, 15, 16, 83], [8], [2, 3, 4, 5, 10, 11, 12, 13, 14, 15, 16, 17], [2, 3, 4, 5, 10, 11, 13, 14, 15, 16, 17], [2, 3, 4, 5, 10, 11, 14, 15, 16, 17], [2, 3,
      4, 5, 10, 11, 15, 16, 17], [2, 3, 4, 5, 10, 11, 15, 105], [8], [2, 3, 4, 5, 10, 11, 15, 18], [2, 3, 4, 5, 10, 11, 15, 18], [2, 3, 4, 5, 10, 11, 15, 18, 19], [2, 3, 4, 5, 10,
      11, 15, 18, 19], [2, 3, 4, 5, 10, 11, 15, 18, 19, 113], [8], [2, 3, 4, 5, 10, 11, 15, 18, 116], [8], [10, 11, 15, 18, 20, 21], [15, 18, 136], [8], [15, 18, 19], [18, 19], [18,
      19, 141], [8], [144], [8], [8]] 145 [] []
theorem fc9_0 : IntKind.wrap .i64 1 = 1 := by decide
theorem fc9_1 : IntKind.wrap .i64 2 = 2 := by decide
theorem fc9_2 : IntKind.wrap .i64 3 = 3 := by decide
theorem s9 : ∀ vs r, g_laws_FnExactBlendPoses vs = some r → SaysM Try.prog .any 9 vs r := by
  intro vs r h
  unfold g_laws_FnExactBlendPoses at h
  split at h
  · rename_i y0 y1 y2 w3 y4 y5 y6 w7 y8 w9
    cases hd_y3 : decL dc_en0 w3 with
    | none => rw [hd_y3] at h; cases h
    | some y3 =>
    rw [hd_y3] at h
    obtain rfl := decL_inv dc_en0_inv hd_y3
    clear hd_y3
    dsimp only at h
    cases hd_y7 : decL dc_en0 w7 with
    | none => rw [hd_y7] at h; cases h
    | some y7 =>
    rw [hd_y7] at h
    obtain rfl := decL_inv dc_en0_inv hd_y7
    clear hd_y7
    dsimp only at h
    cases hd_y9 : decL dBool w9 with
    | none => rw [hd_y9] at h; cases h
    | some y9 =>
    rw [hd_y9] at h
    obtain rfl := decL_inv dBool_inv hd_y9
    clear hd_y9
    dsimp only at h
    split at h
    · rename_i hp
      cases h
      refine spec_of (m := .any) (tab := tabOf [(23, wM .any g_laws_szPose), (25, wM (.own [4]) g_laws_toPose), (27, wM .any g_laws_eqPose), (28, g_laws_markPose), (29, wM .any g_laws_heldPose), (41, wM (.own [4]) g_spec_BlendPoses), (42, wM (.own [1]) g_laws_toBoolS), (43, wM (.own [4]) g_impl_BlendPoses), (44, wM .any g_laws_eqBoolS), (45, g_laws_markBoolS)]) (cp := cp9) (ic := ic9) (rvl := [(.t 8)]) hm (tabOk_cons (m := .any) s23 (tabOk_cons (m := (.own [4])) s25 (tabOk_cons (m := .any) s27 (tabOk_consW s28 (tabOk_cons (m := .any) s29 (tabOk_cons (m := (.own [4])) s41 (tabOk_cons (m := (.own [1])) s42 (tabOk_cons (m := (.own [4])) s43 (tabOk_cons (m := .any) s44 (tabOk_consW s45 tabOk_nil)))))))))) Try.func9 rfl rfl rfl (by kernel_rfl) rfl (Nat.le_of_ble_eq_true rfl) (Nat.le_of_ble_eq_true rfl) ?_
      show eA _ _ _ _
      unfold ic9
      simp only [p_laws_FnExactBlendPoses, v_laws_FnExactBlendPoses_0, v_laws_FnExactBlendPoses_1, v_laws_FnExactBlendPoses_2, v_laws_FnExactBlendPoses_3, Bool.and_eq_true, Bool.or_eq_true, decide_eq_true_eq, Bool.not_eq_true', decide_eq_false_iff_not] at hp
      simp only [
          hp, grpA, vsliceS, grpS, grpD, grpF, grpL, eop, vop, bop, uop, fltop, convop, endOk, newE, new1, freshL, Md.isNew, outV, pureV, pureX, pure1, AV.cells, AV.one, storable,
                laid, refless, refless1, vload, loadC, storeC, vnil, vfaddr, vextract, flatT, flatE, flatC, vconv, vmm, vidxA, viaddrA, vfield, vlen, elemsOf, dF32, dF64, dI64, dU8,
                dBool, dStr, esOk, elemsS, vsliceX, bnd, ownV, ownC, own1, ownT, isSl, nSl, endL, Md.isOwn, purge, purgeH, purgeB, purgeE, hasName, name1, List.any_cons,
                List.any_nil, Md.isWr, pureV.pureP, Option.map, reduceIte, Nat.reduceEqDiff, Nat.reduceAdd, Nat.reduceMul, Nat.reduceLT, Nat.reduceLeDiff, List.mapM_cons,
                List.mapM_nil, Option.pure_def, Option.bind_eq_bind, Option.bind_some, implies_true, forall_const, beq_self_eq_true, decide_true, decide_false, eq_self,
                Int.reduceEq, Int.reduceLE, Int.reduceLT, if_true, if_false, fc9_0, fc9_1, fc9_2, Int.reduceAdd, Int.reduceSub, Int.reduceMul, Int.reduceNeg, Int.reducePow,
                Nat.reducePow, Int.reduceToNat, Nat.reduceSub, List.replicate, Nat.reduceBEq, wAs, wA, wC, zipW, noDupN, grpE, beq_true, beq_false, g_laws_szPose, g_laws_toPose,
                g_laws_eqPose, g_laws_markPose, g_laws_heldPose, g_spec_BlendPoses, g_laws_toBoolS, g_impl_BlendPoses, g_laws_eqBoolS, g_laws_markBoolS, grpC, en0, dc_en0, ↓b_pick,
                ePk_true, ePk_false]
      repeat' (first
        | ((first | (refine eGI_of (fun h => ?_) (fun h => ?_)) | (refine eCc_of (fun h => ?_) (fun h => ?_)) | (refine ePk_of (fun h => ?_) (fun h => ?_))) <;> (try simp only [Bool.not_eq_true', Bool.not_eq_false'] at h) <;> (try first | exact absurd (Eq.trans (Eq.symm h) (by assumption)) Bool.false_ne_true | exact absurd (Eq.trans (Eq.symm h) (by assumption)) (Ne.symm Bool.false_ne_true)) <;> (try simp only [h, reduceCtorEq, beq_true, beq_false, Int.reduceEq, Int.reduceLT, Int.reduceLE, true_or, or_true, Bool.not_eq_true', decide_eq_false_iff_not, Bool.not_true, Bool.not_false, Bool.false_or, Bool.true_or, Bool.true_and, Bool.false_and, Bool.and_eq_true, Bool.or_eq_true, if_true, if_false, reduceIte, Bool.false_eq_true, and_true, true_and, false_or, or_false, decide_eq_true_eq, not_false_eq_true, not_true_eq_false] at hp) <;> (try (have h2 := h; simp only [decide_eq_true_eq, decide_eq_false_iff_not] at h2; (first | (replace h2 := eq_false h2) | (replace h2 := eq_true h2)); simp only [h2, reduceCtorEq, beq_true, beq_false, Int.reduceEq, Int.reduceLT, Int.reduceLE, true_or, or_true, Bool.not_eq_true', decide_eq_false_iff_not, Bool.not_true, Bool.not_false, Bool.false_or, Bool.true_or, Bool.true_and, Bool.false_and, Bool.and_eq_true, Bool.or_eq_true, if_true, if_false, reduceIte, Bool.false_eq_true, and_true, true_and, false_or, or_false, decide_eq_true_eq, not_false_eq_true, not_true_eq_false] at hp)) <;> simp only [h,
          hp, grpA, vsliceS, grpS, grpD, grpF, grpL, eop, vop, bop, uop, fltop, convop, endOk, newE, new1, freshL, Md.isNew, outV, pureV, pureX, pure1, AV.cells, AV.one, storable,
                laid, refless, refless1, vload, loadC, storeC, vnil, vfaddr, vextract, flatT, flatE, flatC, vconv, vmm, vidxA, viaddrA, vfield, vlen, elemsOf, dF32, dF64, dI64, dU8,
                dBool, dStr, esOk, elemsS, vsliceX, bnd, ownV, ownC, own1, ownT, isSl, nSl, endL, Md.isOwn, purge, purgeH, purgeB, purgeE, hasName, name1, List.any_cons,
                List.any_nil, Md.isWr, pureV.pureP, Option.map, reduceIte, Nat.reduceEqDiff, Nat.reduceAdd, Nat.reduceMul, Nat.reduceLT, Nat.reduceLeDiff, List.mapM_cons,
                List.mapM_nil, Option.pure_def, Option.bind_eq_bind, Option.bind_some, implies_true, forall_const, beq_self_eq_true, decide_true, decide_false, eq_self,
                Int.reduceEq, Int.reduceLE, Int.reduceLT, if_true, if_false, fc9_0, fc9_1, fc9_2, Int.reduceAdd, Int.reduceSub, Int.reduceMul, Int.reduceNeg, Int.reducePow,
                Nat.reducePow, Int.reduceToNat, Nat.reduceSub, List.replicate, Nat.reduceBEq, wAs, wA, wC, zipW, noDupN, grpE, beq_true, beq_false, g_laws_szPose, g_laws_toPose,
                g_laws_eqPose, g_laws_markPose, g_laws_heldPose, g_spec_BlendPoses, g_laws_toBoolS, g_impl_BlendPoses, g_laws_eqBoolS, g_laws_markBoolS, grpC, en0, dc_en0, ↓b_pick,
                ePk_true, ePk_false]))
      all_goals (try simp only [*, m_laws_FnExactBlendPoses, v_laws_FnExactBlendPoses_0, v_laws_FnExactBlendPoses_1, v_laws_FnExactBlendPoses_2, v_laws_FnExactBlendPoses_3, Bool.and_true, Bool.true_and, Bool.and_false, Bool.false_and, Bool.or_true, Bool.true_or, Bool.or_false, Bool.false_or, Bool.not_true, Bool.not_false, Bool.false_eq_true, if_true, if_false, reduceIte, decide_true, decide_false])
      all_goals (try (simp_all; done))
    · cases h
  · cases h
end Go.Proofs
namespace Go.Ab
/-- a list of known length is filled, an element a round -/
theorem fill_loop {β : Type} (l : Nat → List β → Int → Option (List β)) (len : Nat) (F : Nat → β) (hlen : len < 2 ^ 62)
    (H : ∀ (n : Nat) (z : List β) (k : Nat), k < len → z.length = len → l (n + 1) z (k : Int) = l n (z.set k (F k)) (IntKind.wrap .i64 ((k : Int) + 1)))
    (H' : ∀ (n : Nat) (z : List β) (k : Nat), ¬ k < len → l (n + 1) z (k : Int) = some z) :
    ∀ (n : Nat) (z : List β) (k : Nat), k ≤ len → z.length = len → len - k < n → l n z (k : Int) = some (z.take k ++ (List.range' k (len - k)).map F)
  | 0, z, k, _, _, h => by omega
  | n + 1, z, k, hk, hz, h => by
    by_cases hlt : k < len
    · rw [H n z k hlt hz, wrapS (by omega), fill_loop l len F hlen H H' n _ (k + 1) (by omega) (by rw [List.length_set]; exact hz) (by omega), show len - k = (len - (k + 1)) + 1 by omega, List.range'_succ, List.map_cons]
      congr 1
      rw [List.take_succ_eq_append_getElem (by rw [List.length_set]; omega), List.take_set_of_le (Nat.le_refl _), List.getElem_set_self, List.append_assoc, List.singleton_append]
    · rw [H' n z k hlt, show len - k = 0 by omega]
      have : k = z.length := by omega
      subst this
      simp
/-- elements are put at the end, one a round -/
theorem app_loop {β : Type} (l : Nat → List β → Int → Option (List β)) (len : Nat) (F : Nat → β) (hlen : len < 2 ^ 62) (P : Nat → Nat → Prop)
    (H : ∀ (n : Nat) (z : List β) (k : Nat), k < len → P k z.length → l (n + 1) z (k : Int) = l n (z ++ [F k]) (IntKind.wrap .i64 ((k : Int) + 1)))
    (H' : ∀ (n : Nat) (z : List β) (k : Nat), ¬ k < len → l (n + 1) z (k : Int) = some z) (hP : ∀ k j, k < len → P k j → P (k + 1) (j + 1)) :
    ∀ (n : Nat) (z : List β) (k : Nat), k ≤ len → P k z.length → len - k < n → l n z (k : Int) = some (z ++ (List.range' k (len - k)).map F)
  | 0, z, k, _, _, h => by omega
  | n + 1, z, k, hk, hp, h => by
    by_cases hlt : k < len
    · rw [H n z k hlt hp, wrapS (by omega), app_loop l len F hlen P H H' hP n _ (k + 1) (by omega) (by rw [List.length_append]; exact hP _ _ hlt hp) (by omega), show len - k = (len - (k + 1)) + 1 by omega, List.range'_succ, List.map_cons]
      simp
    · rw [H' n z k hlt, show len - k = 0 by omega]
      simp
theorem map_range_shift {β : Type} {F G : Nat → β} {k j m : Nat} (h : ∀ i, i < m → F (k + i) = G (j + i)) : (List.range' k m).map F = (List.range' j m).map G := by
  induction m generalizing k j with
  | zero => rfl
  | succ m ih =>
    have h0 := h 0 (by omega)
    rw [Nat.add_zero, Nat.add_zero] at h0
    rw [List.range'_succ, List.range'_succ, List.map_cons, List.map_cons, h0, ih fun i hi => by
      have := h (i + 1) (by omega)
      rw [show k + (i + 1) = k + 1 + i by omega, show j + (i + 1) = j + 1 + i by omega] at this
      exact this]
/-- marks -/
def marks {α : Type} (f : Int → α) (g : Int → Int) : Int → Nat → List α
  | _, 0 => []
  | m, n + 1 => f m :: marks f g (g m) n
def iter (g : Int → Int) : Nat → Int → Int
  | 0, m => m
  | n + 1, m => iter g n (g m)
theorem marks_len {α : Type} (f : Int → α) (g : Int → Int) : ∀ (n : Nat) (m : Int), (marks f g m n).length = n
  | 0, _ => rfl
  | n + 1, m => by rw [marks, List.length_cons, marks_len f g n]
theorem marks_get {α : Type} [Inhabited α] (f : Int → α) (g : Int → Int) : ∀ (n : Nat) (m : Int) (i : Nat), i < n → (marks f g m n).getD i default = f (iter g i m)
  | 0, _, _, h => by omega
  | n + 1, m, 0, _ => rfl
  | n + 1, m, i + 1, h => by
    rw [marks, List.getD_cons_succ, marks_get f g n (g m) i (by omega)]; rfl
theorem iter_succ (g : Int → Int) : ∀ (i : Nat) (m : Int), g (iter g i m) = iter g (i + 1) m
  | 0, _ => rfl
  | i + 1, m => by rw [iter, iter_succ g i (g m)]; rfl
theorem iter_add {g : Int → Int} {c : Nat} (hg : ∀ m : Int, 0 ≤ m → m ≤ 2 ^ 60 → g m = m + c) : ∀ (n : Nat) (m : Int), 0 ≤ m → m + ((c * n : Nat) : Int) ≤ 2 ^ 60 → iter g n m = m + ((c * n : Nat) : Int)
  | 0, m, _, _ => by simp [iter]
  | n + 1, m, h0, h => by
    rw [Nat.mul_succ] at h ⊢
    rw [iter, hg m h0 (by omega), iter_add hg n _ (by omega) (by omega)]
    omega
theorem mark_loop {α : Type} (l : Nat → List α → Int → Int → Option (Int × List α)) (f : Int → α) (g : Int → Int)
    (H : ∀ n z m k, l (n + 1) z m k = if (decide (k < ((z.length : Nat) : Int))) = true then need (inB k z.length) (l n (z.set k.toNat (f m)) (g m) (IntKind.wrap .i64 (k + 1))) else some (m, z)) :
    ∀ (n : Nat) (z : List α) (m : Int) (k : Nat), z.length < 2 ^ 62 → k ≤ z.length → z.length - k < n → l n z m (k : Int) = some (iter g (z.length - k) m, z.take k ++ marks f g m (z.length - k))
  | 0, z, m, k, _, _, h => by omega
  | n + 1, z, m, k, hz, hk, h => by
    rw [H]
    by_cases hlt : k < z.length
    · rw [if_pos (by simp; omega), inB_nat]
      unfold need
      rw [if_pos (by simpa using hlt), wrapS (by omega), Int.toNat_natCast, mark_loop l f g H n _ (g m) (k + 1) (by rw [List.length_set]; exact hz) (by rw [List.length_set]; omega) (by rw [List.length_set]; omega), List.length_set,
        show z.length - k = (z.length - (k + 1)) + 1 by omega]
      congr 2
      rw [List.take_succ_eq_append_getElem (by rw [List.length_set]; omega), List.take_set_of_le (Nat.le_refl _), List.getElem_set_self, List.append_assoc, List.singleton_append]
      rfl
    · rw [if_neg (by simp; omega), show z.length - k = 0 by omega]
      have : k = z.length := by omega
      subst this
      simp [iter, marks]
theorem mark_all {α : Type} (l : Nat → List α → Int → Int → Option (Int × List α)) (f : Int → α) (g : Int → Int) (x : List α) (m : Int) (hx : x.length < 2 ^ 62)
    (H : ∀ n z m k, l (n + 1) z m k = if (decide (k < ((z.length : Nat) : Int))) = true then need (inB k z.length) (l n (z.set k.toNat (f m)) (g m) (IntKind.wrap .i64 (k + 1))) else some (m, z)) :
    l (Int.toNat (((x.length : Nat) : Int) - 0) + 2) x m 0 = some (iter g x.length m, marks f g m x.length) := by
  have := mark_loop l f g H (Int.toNat (((x.length : Nat) : Int) - 0) + 2) x m 0 hx (Nat.zero_le _) (by omega)
  simpa using this
theorem held_all {α : Type} [Inhabited α] (l : Nat → Int → Int → Option (Bool × Int × Int)) (f : Int → α) (g : Int → Int) (e : α → Int → Bool) (x : List α) (m : Int) (len : Nat) (hx : x = marks f g m len) (hl : len < 2 ^ 62) (he : ∀ m, e (f m) m = true)
    (H : ∀ n m k, l (n + 1) m k = if (decide (k < ((x.length : Nat) : Int))) = true then need (inB k x.length) (if e (atI x k) m = true then l n (g m) (IntKind.wrap .i64 (k + 1)) else some (true, -1, default)) else some (false, default, m)) :
    l (Int.toNat (((x.length : Nat) : Int) - 0) + 2) m 0 = some (false, default, iter g len m) := by
  have hlen : x.length = len := by rw [hx, marks_len]
  have key : ∀ (n k : Nat), k ≤ len → len - k < n → l n (iter g k m) (k : Int) = some (false, default, iter g len m) := by
    intro n
    induction n with
    | zero => intro k _ h; omega
    | succ n ih =>
      intro k hk h
      rw [H, hlen]
      by_cases hlt : k < len
      · rw [if_pos (by simp; omega), inB_nat]
        unfold need
        rw [if_pos (by simpa using hlt), atI_nat, hx, marks_get f g len m k hlt, if_pos (he _), wrapS (by omega), iter_succ g, ih (k + 1) (by omega) (by omega)]
      · rw [if_neg (by simp; omega), show k = len by omega]
  have := key (Int.toNat (((x.length : Nat) : Int) - 0) + 2) 0 (Nat.zero_le _) (by omega)
  exact this
/-- a whole number made a float is itself -/
theorem feq_ofInt (n : Int) : feq .f32 (ofInt .f32 n) (ofInt .f32 n) = true := by
  rw [feq_self_iff]
  have h : isNaN .f32 (ofInt .f32 n) = false := by
    unfold isNaN ofInt
    show (FloatKind.f32.format.read (FloatKind.f32.nearest n)).isNaN = false
    rcases read_nearest .f32 (decide (n < 0)) n.natAbs 0 with ⟨m', e', h, _⟩ | h
    all_goals
      have h2 : FloatKind.f32.format.read (FloatKind.f32.nearest n) = _ := h
      rw [h2]; rfl
  rw [h]; rfl
end Go.Ab
namespace Go.Ab
theorem getD_set_ne {α : Type} [Inhabited α] (z : List α) (k i : Nat) (v : α) (h : k ≠ i) : (z.set k v).getD i default = z.getD i default := by
  simp [List.getD_eq_getElem?_getD, List.getElem?_set, h]
theorem set_self {α : Type} [Inhabited α] (z : List α) (k : Nat) (v : α) (h : z.getD k default = v) : z.set k v = z := by
  by_cases hk : k < z.length
  · apply List.ext_getElem (by simp)
    intro i h1 h2
    by_cases e : k = i
    · subst e; rw [List.getElem_set_self]; rw [← h, ← atI_nat, atI_lt z hk]
    · rw [List.getElem_set_ne e]
  · rw [List.set_eq_of_length_le (by omega)]
/-- a list is written over, an element a round, each from what stood there -/
theorem over_loop {β : Type} [Inhabited β] (l : Nat → List β → Int → Option (List β)) (x : List β) (F : Nat → β) (hlen : x.length < 2 ^ 62)
    (H : ∀ (n : Nat) (z : List β) (k : Nat), k < x.length → z.length = x.length → z.getD k default = x.getD k default → l (n + 1) z (k : Int) = l n (z.set k (F k)) (IntKind.wrap .i64 ((k : Int) + 1)))
    (H' : ∀ (n : Nat) (z : List β) (k : Nat), ¬ k < x.length → z.length = x.length → l (n + 1) z (k : Int) = some z) :
    ∀ (n : Nat) (z : List β) (k : Nat), k ≤ x.length → z.length = x.length → (∀ i, k ≤ i → z.getD i default = x.getD i default) → x.length - k < n → l n z (k : Int) = some (z.take k ++ (List.range' k (x.length - k)).map F)
  | 0, z, k, _, _, _, h => by omega
  | n + 1, z, k, hk, hz, hg, h => by
    by_cases hlt : k < x.length
    · rw [H n z k hlt hz (hg k (Nat.le_refl _)), wrapS (by omega), over_loop l x F hlen H H' n _ (k + 1) (by omega) (by rw [List.length_set]; exact hz) (fun i hi => by rw [getD_set_ne _ _ _ _ (by omega)]; exact hg i (by omega)) (by omega),
        show x.length - k = (x.length - (k + 1)) + 1 by omega, List.range'_succ, List.map_cons]
      congr 1
      rw [List.take_succ_eq_append_getElem (by rw [List.length_set]; omega), List.take_set_of_le (Nat.le_refl _), List.getElem_set_self, List.append_assoc, List.singleton_append]
    · rw [H' n z k hlt hz, show x.length - k = 0 by omega]
      have : k = z.length := by omega
      subst this
      simp
end Go.Ab
namespace Go.Ab
/-- elements are put at the end, one a round -/
theorem app_loopW {β γ : Type} (w : List β → γ) (l : Nat → List β → Int → Option γ) (len : Nat) (F : Nat → β) (hlen : len < 2 ^ 62) (P : Nat → Nat → Prop)
    (H : ∀ (n : Nat) (z : List β) (k : Nat), k < len → P k z.length → l (n + 1) z (k : Int) = l n (z ++ [F k]) (IntKind.wrap .i64 ((k : Int) + 1)))
    (H' : ∀ (n : Nat) (z : List β) (k : Nat), ¬ k < len → l (n + 1) z (k : Int) = some (w z)) (hP : ∀ k j, k < len → P k j → P (k + 1) (j + 1)) :
    ∀ (n : Nat) (z : List β) (k : Nat), k ≤ len → P k z.length → len - k < n → l n z (k : Int) = some (w (z ++ (List.range' k (len - k)).map F))
  | 0, z, k, _, _, h => by omega
  | n + 1, z, k, hk, hp, h => by
    by_cases hlt : k < len
    · rw [H n z k hlt hp, wrapS (by omega), app_loopW w l len F hlen P H H' hP n _ (k + 1) (by omega) (by rw [List.length_append]; exact hP _ _ hlt hp) (by omega), show len - k = (len - (k + 1)) + 1 by omega, List.range'_succ, List.map_cons]
      simp
    · rw [H' n z k hlt, show len - k = 0 by omega]
      simp
/-- a list is written over, an element a round, each from what stood there -/
theorem over_loopW {β γ : Type} [Inhabited β] (w : List β → γ) (l : Nat → List β → Int → Option γ) (x : List β) (F : Nat → β) (hlen : x.length < 2 ^ 62)
    (H : ∀ (n : Nat) (z : List β) (k : Nat), k < x.length → z.length = x.length → z.getD k default = x.getD k default → l (n + 1) z (k : Int) = l n (z.set k (F k)) (IntKind.wrap .i64 ((k : Int) + 1)))
    (H' : ∀ (n : Nat) (z : List β) (k : Nat), ¬ k < x.length → z.length = x.length → l (n + 1) z (k : Int) = some (w z)) :
    ∀ (n : Nat) (z : List β) (k : Nat), k ≤ x.length → z.length = x.length → (∀ i, k ≤ i → z.getD i default = x.getD i default) → x.length - k < n → l n z (k : Int) = some (w (z.take k ++ (List.range' k (x.length - k)).map F))
  | 0, z, k, _, _, _, h => by omega
  | n + 1, z, k, hk, hz, hg, h => by
    by_cases hlt : k < x.length
    · rw [H n z k hlt hz (hg k (Nat.le_refl _)), wrapS (by omega), over_loopW w l x F hlen H H' n _ (k + 1) (by omega) (by rw [List.length_set]; exact hz) (fun i hi => by rw [getD_set_ne _ _ _ _ (by omega)]; exact hg i (by omega)) (by omega),
        show x.length - k = (x.length - (k + 1)) + 1 by omega, List.range'_succ, List.map_cons]
      congr 1
      rw [List.take_succ_eq_append_getElem (by rw [List.length_set]; omega), List.take_set_of_le (Nat.le_refl _), List.getElem_set_self, List.append_assoc, List.singleton_append]
    · rw [H' n z k hlt hz, show x.length - k = 0 by omega]
      have : k = z.length := by omega
      subst this
      simp
end Go.Ab
namespace Go.Proofs
open Go.Ab
theorem sameFloat_refl (x : Nat) : m_laws_sameFloat x x = true := by
  unfold m_laws_sameFloat
  by_cases h : feq .f64 x x = true
  · simp [h]
  · simp [h]
end Go.Proofs
namespace Go.Proofs
open Go.Ab
theorem eq_Vector (a : Nat × Nat × Nat) : m_laws_eqVector a a = true := by unfold m_laws_eqVector; simp [sameFloat_refl]
end Go.Proofs
namespace Go.Proofs
open Go.Ab
theorem eq_Turn (a : Nat × Nat × Nat × Nat) : m_laws_eqTurn a a = true := by unfold m_laws_eqTurn; simp [sameFloat_refl]
theorem eq_TurnS (x : List (Nat × Nat × Nat × Nat)) (h : x.length ≤ 1048576) : m_laws_eqTurnS x x = true ∧ p_laws_eqTurnS x x = true := by
  unfold m_laws_eqTurnS p_laws_eqTurnS
  rw [show l_laws_eqTurnS_0 x x (Int.toNat (((List.length x : Nat) : Int) - 0) + 2) 0 = some (false, default, ()) from eq_loop _ x m_laws_eqTurn eq_Turn (by omega) fun _ _ => rfl]; simp
theorem to_TurnS (x : List (Nat × Nat × Nat × Nat)) (h : x.length ≤ 1048576) : m_laws_toTurnS x = x ∧ p_laws_toTurnS x = true := by
  unfold m_laws_toTurnS p_laws_toTurnS
  rw [show l_laws_toTurnS_0 x (Int.toNat (((List.length x : Nat) : Int) - 0) + 2) (List.replicate (Int.toNat ((List.length x : Nat) : Int)) (0, 0, 0, 0)) 0 = some x by
    rw [copy_all (l_laws_toTurnS_0 x) x m_laws_toTurn _ (by omega) fun _ _ _ => rfl]
    congr 1
    exact List.map_id x]
  refine ⟨rfl, ?_⟩
  simp; omega
theorem sz_TurnS (x : List (Nat × Nat × Nat × Nat)) (n : Int) (hx : x.length ≤ maxLen) (h0 : 0 ≤ n) (hn : n ≤ 1048576) (hs : ¬ (m_laws_szTurnS x n < 0)) : x.length ≤ 1048576 ∧ 0 ≤ m_laws_szTurnS x n ∧ m_laws_szTurnS x n ≤ 1048576 := by
  unfold m_laws_szTurnS at hs ⊢
  have hx' : x.length ≤ 9223372036854775807 := by unfold maxLen at hx; omega
  rw [wrapI (by omega) (by omega)] at hs ⊢
  by_cases h : n - ((List.length x : Nat) : Int) < 0
  · simp [h] at hs
  · rw [if_neg (by simpa using h)]; omega
end Go.Proofs
namespace Go.Proofs
open Go.Ab
theorem eq_Pose (x : Nat × Nat × Nat × List (Nat × Nat × Nat × Nat)) (h : x.2.2.2.length ≤ 1048576) : m_laws_eqPose x x = true ∧ p_laws_eqPose x x = true := by
  unfold m_laws_eqPose p_laws_eqPose
  simp [eq_Vector, eq_TurnS _ h]
theorem to_Pose (x : Nat × Nat × Nat × List (Nat × Nat × Nat × Nat)) (h : x.2.2.2.length ≤ 1048576) : m_laws_toPose x = x ∧ p_laws_toPose x = true := by
  unfold m_laws_toPose p_laws_toPose
  exact ⟨by simp [to_TurnS _ h, m_laws_toVector], (to_TurnS _ h).2⟩
theorem sz_Pose (x : Nat × Nat × Nat × List (Nat × Nat × Nat × Nat)) (n : Int) (hx : x.2.2.2.length ≤ maxLen) (h0 : 0 ≤ n) (hn : n ≤ 1048576) (hs : ¬ (m_laws_szPose x n < 0)) : x.2.2.2.length ≤ 1048576 ∧ 0 ≤ m_laws_szPose x n ∧ m_laws_szPose x n ≤ 1048576 := by
  unfold m_laws_szPose at hs ⊢
  by_cases h : m_laws_szTurnS x.2.2.2 n < 0
  · simp [h] at hs
  · have := sz_TurnS x.2.2.2 n hx h0 hn h
    simpa [h] using this
end Go.Proofs
namespace Go.Proofs
open Go.Ab
def gT (m : Int) : Int := IntKind.wrap .i64 ((IntKind.wrap .i64 ((IntKind.wrap .i64 ((IntKind.wrap .i64 (m + 1)) + 1)) + 1)) + 1)
theorem gT_add (m : Int) (h0 : 0 ≤ m) (h : m ≤ 2 ^ 60) : gT m = m + (4 : Nat) := by
  unfold gT
  rw [wrapI (n := m + 1) (by omega) (by omega), wrapI (n := m + 1 + 1) (by omega) (by omega), wrapI (n := m + 1 + 1 + 1) (by omega) (by omega), wrapI (by omega) (by omega)]
  omega
def fT (m : Int) : Nat × Nat × Nat × Nat := (ofInt .f32 m, ofInt .f32 (IntKind.wrap .i64 (m + 1)), ofInt .f32 (IntKind.wrap .i64 ((IntKind.wrap .i64 (m + 1)) + 1)), ofInt .f32 (IntKind.wrap .i64 ((IntKind.wrap .i64 ((IntKind.wrap .i64 (m + 1)) + 1)) + 1)))
theorem mark_TurnS (x : List (Nat × Nat × Nat × Nat)) (m : Int) (h : x.length ≤ 1048576) : m_laws_markTurnS x m = (iter gT x.length m, marks fT gT m x.length) ∧ p_laws_markTurnS x m = true := by
  unfold m_laws_markTurnS p_laws_markTurnS
  rw [show l_laws_markTurnS_0 (Int.toNat (((List.length x : Nat) : Int) - 0) + 2) x m 0 = some (iter gT x.length m, marks fT gT m x.length) from mark_all _ fT gT x m (by omega) fun _ _ _ _ => rfl]
  exact ⟨rfl, by simp [marks_len]⟩
theorem mark_Pose (x : Nat × Nat × Nat × List (Nat × Nat × Nat × Nat)) (m : Int) (h : x.2.2.2.length ≤ 1048576) : m_laws_markPose x m = (iter gT x.2.2.2.length m, marks fT gT m x.2.2.2.length) ∧ p_laws_markPose x m = true := by
  unfold m_laws_markPose p_laws_markPose
  rw [(mark_TurnS _ m h).1, (mark_TurnS _ m h).2]
  exact ⟨rfl, by simp [marks_len]⟩
end Go.Proofs
namespace Go.Proofs
open Go.Ab
theorem held_TurnS (n : Nat) (m : Int) (h : n ≤ 1048576) : m_laws_heldTurnS (marks fT gT m n) m = iter gT n m ∧ p_laws_heldTurnS (marks fT gT m n) m = true := by
  unfold m_laws_heldTurnS p_laws_heldTurnS
  rw [show l_laws_heldTurnS_0 (marks fT gT m n) (Int.toNat (((List.length (marks fT gT m n) : Nat) : Int) - 0) + 2) m 0 = some (false, default, iter gT n m) from
    held_all _ fT gT (fun a m => feq .f32 a.1 (ofInt .f32 m) && (feq .f32 a.2.1 (ofInt .f32 (IntKind.wrap .i64 (m + 1))) && (feq .f32 a.2.2.1 (ofInt .f32 (IntKind.wrap .i64 ((IntKind.wrap .i64 (m + 1)) + 1))) && feq .f32 a.2.2.2 (ofInt .f32 (IntKind.wrap .i64 ((IntKind.wrap .i64 ((IntKind.wrap .i64 (m + 1)) + 1)) + 1)))))) _ m n rfl (by omega) (fun m => by
      simp [fT, feq_ofInt]) fun n m k => by
      show (if (decide (k < _)) = true then _ else _) = _
      split
      · congr 1
        split
        · rename_i h1; rw [h1]
          split
          · rename_i h2; rw [h2]
            split
            · rename_i h3; rw [h3]
              split
              · rename_i h4; rw [h4]; rfl
              · rename_i h4; rw [(Bool.not_eq_true _).mp h4]; first | rfl | (simp; done)
            · rename_i h3; rw [(Bool.not_eq_true _).mp h3]; first | rfl | (simp; done)
          · rename_i h2; rw [(Bool.not_eq_true _).mp h2]; first | rfl | (simp; done)
        · rename_i h1; rw [(Bool.not_eq_true _).mp h1]; first | rfl | (simp; done)
      · rfl]
  exact ⟨by simp, rfl⟩
theorem held_Pose (a b c : Nat) (n : Nat) (m : Int) (h : n ≤ 1048576) (h0 : 0 ≤ m) (h1 : m ≤ 2 ^ 30) : m_laws_heldPose (a, b, c, marks fT gT m n) m = iter gT n m ∧ p_laws_heldPose (a, b, c, marks fT gT m n) m = true := by
  unfold m_laws_heldPose p_laws_heldPose
  rw [(held_TurnS n m h).1, (held_TurnS n m h).2]
  have : ¬ iter gT n m < 0 := by rw [iter_add (g := gT) (c := 4) gT_add _ _ h0 (by omega)]; omega
  exact ⟨by simp [this], rfl⟩
end Go.Proofs
namespace Go.Proofs
open Go.Ab
abbrev T4 : Type := Nat × Nat × Nat × Nat
abbrev Ps : Type := Nat × Nat × Nat × List T4
theorem mend_eq (t : T4) : m_impl_MendTurn t = m_spec_l02Mend t ∧ p_impl_MendTurn t = true ∧ p_spec_l02Mend t = true := by
  refine ⟨?_, sqrt_narrow _, sqrt_narrow _⟩
  unfold m_impl_MendTurn m_spec_l02Mend m_impl_isLength
  have e : m_impl_LengthOfTurn t = m_spec_l01Sqrt (m_spec_l02Inner t t) := rfl
  rw [e]
  generalize m_spec_l01Sqrt (m_spec_l02Inner t t) = n
  have e2 : m_impl_IsFinite n = m_spec_l01Finite n := rfl
  rw [e2]
  by_cases h0 : feq .f32 n 0 = true <;> by_cases h1 : m_spec_l01Finite n = true <;> simp [h0, h1, m_impl_NoTurn, m_spec_l02No]
theorem near_eq (a b : T4) (s : Nat) : m_impl_NearTurn a b s = m_spec_l02Near a b s ∧ p_impl_NearTurn a b s = true ∧ p_spec_l02Near a b s = true := by
  refine ⟨?_, (mend_eq _).2.1, (mend_eq _).2.2⟩
  unfold m_impl_NearTurn m_spec_l02Near
  rw [(mend_eq _).1]
  rfl
theorem eq_BoolS (x : List Bool) (h : x.length ≤ 1048576) : m_laws_eqBoolS x x = true ∧ p_laws_eqBoolS x x = true := by
  unfold m_laws_eqBoolS p_laws_eqBoolS
  rw [show l_laws_eqBoolS_0 x x (Int.toNat (((List.length x : Nat) : Int) - 0) + 2) 0 = some (false, default, ()) from eq_loop _ x (fun a b => a == b) (fun _ => by simp) (by omega) fun _ _ => rfl]; simp
theorem to_BoolS (x : List Bool) (h : x.length ≤ 1048576) : m_laws_toBoolS x = x ∧ p_laws_toBoolS x = true := by
  unfold m_laws_toBoolS p_laws_toBoolS
  rw [show l_laws_toBoolS_0 x (Int.toNat (((List.length x : Nat) : Int) - 0) + 2) (List.replicate (Int.toNat ((List.length x : Nat) : Int)) false) 0 = some x by
    rw [copy_all (l_laws_toBoolS_0 x) x id _ (by omega) fun _ _ _ => rfl]
    congr 1
    exact List.map_id x]
  refine ⟨rfl, ?_⟩
  simp; omega
def gO (m : Int) : Int := IntKind.wrap .i64 (m + 1)
theorem gO_add (m : Int) (h0 : 0 ≤ m) (h : m ≤ 2 ^ 60) : gO m = m + (1 : Nat) := wrapI (by omega) (by omega)
def fO (m : Int) : Bool := decide (Int.tmod m 3 = 0)
theorem mark_BoolS (x : List Bool) (m : Int) (h : x.length ≤ 1048576) : m_laws_markBoolS x m = (iter gO x.length m, marks fO gO m x.length) ∧ p_laws_markBoolS x m = true := by
  unfold m_laws_markBoolS p_laws_markBoolS
  rw [show l_laws_markBoolS_0 (Int.toNat (((List.length x : Nat) : Int) - 0) + 2) x m 0 = some (iter gO x.length m, marks fO gO m x.length) from mark_all _ fO gO x m (by omega) fun _ _ _ _ => rfl]
  exact ⟨rfl, by simp [marks_len]⟩
def bleT (p q : Ps) (s : Nat) (m : List Bool) (k : Nat) : T4 := if m.getD k default = true then m_spec_l02Near (p.2.2.2.getD k default) (q.2.2.2.getD k default) s else p.2.2.2.getD k default
section
variable {p q : Ps} {s : Nat} {m : List Bool} {len : Nat} (h12 : len ≤ 12) (hp : p.2.2.2.length = len) (hq : q.2.2.2.length = len) (hm : m.length = len)
include h12 hp hq hm
theorem spec_ble (a b c : Nat) : l_spec_l03Blend_0 p q s m (Int.toNat (((List.length p.2.2.2 : Nat) : Int) - 0) + 2) [] a b c 0 = some (a, b, c, (List.range' 0 len).map (bleT p q s m)) := by
  have := app_loopW (fun z => (a, b, c, z)) (fun n z k => l_spec_l03Blend_0 p q s m n z a b c k) len (bleT p q s m) (by omega) (fun k j => k = j) (fun n z k hk hj => by
      show (if (decide ((k : Int) < ((List.length p.2.2.2 : Nat) : Int))) = true then _ else _) = _
      rw [if_pos (by simp; omega), inB_nat, inB_nat, inB_nat, atI_nat, atI_nat, atI_nat, (near_eq _ _ _).2.2]
      unfold need
      rw [if_pos (by simp; omega), if_pos (by simp; omega), if_pos (by cases m.getD k default <;> simp; omega), if_pos (by simp; omega), if_pos (by simp; omega)]
      rfl) (fun n z k hk => by
      show (if (decide ((k : Int) < ((List.length p.2.2.2 : Nat) : Int))) = true then _ else _) = _
      rw [if_neg (by simp; omega)]) (fun k j _ h => by omega) (Int.toNat (((List.length p.2.2.2 : Nat) : Int) - 0) + 2) [] 0 (Nat.zero_le _) (by simp) (by omega)
  exact this
theorem impl_ble (a b c : Nat) : l_impl_BlendPoses_0 p q s m (Int.toNat (((List.length m : Nat) : Int) - 0) + 2) p.2.2.2 a b c 0 = some (a, b, c, (List.range' 0 len).map (bleT p q s m)) := by
  have := over_loopW (fun z => (a, b, c, z)) (fun n z k => l_impl_BlendPoses_0 p q s m n z a b c k) p.2.2.2 (bleT p q s m) (by omega) (fun n z k hk hz hg => by
      show (if (decide ((k : Int) < ((List.length m : Nat) : Int))) = true then _ else _) = _
      rw [if_pos (by simp; omega), inB_nat, inB_nat, inB_nat, inB_nat, atI_nat, atI_nat, atI_nat, (near_eq _ _ _).2.1, (near_eq _ _ _).1, Int.toNat_natCast]
      unfold need
      rw [if_pos (by simp; omega)]
      by_cases h0 : m.getD k default = true
      · rw [if_pos h0, if_pos (by simp; omega), if_pos (by simp; omega), if_pos rfl, if_pos (by simp; omega)]
        unfold bleT
        rw [if_pos h0]
      · rw [if_neg h0, show z.set k (bleT p q s m k) = z from set_self z k _ (by rw [hg]; unfold bleT; rw [if_neg h0])]) (fun n z k hk hz => by
      show (if (decide ((k : Int) < ((List.length m : Nat) : Int))) = true then _ else _) = _
      rw [if_neg (by simp; omega)]) (Int.toNat (((List.length m : Nat) : Int) - 0) + 2) p.2.2.2 0 (Nat.zero_le _) rfl (fun _ _ => rfl) (by omega)
  refine this.trans ?_
  simp [hp]
end
theorem core_BlendPoses (p q : Ps) (s : Nat) (m : List Bool) : p_impl_BlendPoses p q s m = true ∧ p_spec_BlendPoses p q s m = true ∧ m_impl_BlendPoses p q s m = m_spec_BlendPoses p q s m ∧ (m_spec_BlendPoses p q s m).1.2.2.2.length ≤ 1048576 := by
  have e1 : m_impl_BetweenVectors = m_spec_l01Between := rfl
  unfold p_impl_BlendPoses p_spec_BlendPoses m_impl_BlendPoses m_spec_BlendPoses m_impl_arePair m_impl_isPose m_spec_l03Few p_impl_Turn m_impl_Turn p_spec_l03Blend m_spec_l03Blend
  rw [e1]
  by_cases h1 : (1 : Int) ≤ ((List.length p.2.2.2 : Nat) : Int)
  · by_cases h2 : ((List.length p.2.2.2 : Nat) : Int) ≤ 12
    · by_cases h3 : ((List.length q.2.2.2 : Nat) : Int) = ((List.length p.2.2.2 : Nat) : Int)
      · by_cases h4 : ((List.length m : Nat) : Int) = ((List.length p.2.2.2 : Nat) : Int)
        · unfold v_spec_l03Blend_0 v_spec_l03Blend_1 v_spec_l03Blend_2 v_impl_BlendPoses_0 v_impl_BlendPoses_1 v_impl_BlendPoses_2 m_impl_Turn
          simp only [e1, fun a b c => spec_ble (p := p) (q := q) (s := s) (m := m) (len := p.2.2.2.length) (by omega) rfl (by omega) (by omega) a b c, fun a b c => impl_ble (p := p) (q := q) (s := s) (m := m) (len := p.2.2.2.length) (by omega) rfl (by omega) (by omega) a b c]
          have e0 : inB 0 m.length = true := by simp [inB]; omega
          cases atI m 0 <;> simp [h1, h2, h3, h4, e0] <;> omega
        · simp [h1, h2, h3, h4]
      · have h3' : ¬ ((List.length p.2.2.2 : Nat) : Int) = ((List.length q.2.2.2 : Nat) : Int) := fun e => h3 e.symm
        simp [h1, h2, h3, h3']
    · simp [h1, h2]
  · simp [h1]
theorem law_BlendPoses (a b c : Nat) (l : List (Nat × Nat × Nat × Nat)) (_ : Canon .f32 a) (_ : Canon .f32 b) (_ : Canon .f32 c) (hl : l.length ≤ maxLen) (_ : ∀ q ∈ l, Canon .f32 q.1 ∧ Canon .f32 q.2.1 ∧ Canon .f32 q.2.2.1 ∧ Canon .f32 q.2.2.2)
    (a' b' c' : Nat) (l' : List (Nat × Nat × Nat × Nat)) (_ : Canon .f32 a') (_ : Canon .f32 b') (_ : Canon .f32 c') (hl' : l'.length ≤ maxLen) (_ : ∀ q ∈ l', Canon .f32 q.1 ∧ Canon .f32 q.2.1 ∧ Canon .f32 q.2.2.1 ∧ Canon .f32 q.2.2.2)
    (s : Nat) (_ : Canon .f32 s) (m : List Bool) (_ : m.length ≤ maxLen) :
    g_laws_FnExactBlendPoses [.agg [.flt .f32 a, .flt .f32 b, .flt .f32 c, .sl (List.map en0 l)], .agg [.flt .f32 a', .flt .f32 b', .flt .f32 c', .sl (List.map en0 l')], .flt .f32 s, .sl (List.map AV.bool m)] = some (.bool true) := by
  have key : p_laws_FnExactBlendPoses (a, b, c, l) (a', b', c', l') s m = true ∧ m_laws_FnExactBlendPoses (a, b, c, l) (a', b', c', l') s m = true := by
    unfold p_laws_FnExactBlendPoses m_laws_FnExactBlendPoses v_laws_FnExactBlendPoses_0 v_laws_FnExactBlendPoses_1 v_laws_FnExactBlendPoses_3 v_laws_FnExactBlendPoses_2
    generalize hx : (a, b, c, l) = x at *
    generalize hy : (a', b', c', l') = y at *
    by_cases hm : (1048576 : Int) < ((List.length m : Nat) : Int)
    · simp [hm]
    · by_cases hs : m_laws_szPose x 1048576 < 0
      · simp [hs, hm]
      · obtain ⟨k1, k2, k3⟩ := sz_Pose x 1048576 (by rw [← hx]; exact hl) (by omega) (by omega) hs
        by_cases hs' : m_laws_szPose y (m_laws_szPose x 1048576) < 0
        · simp [hs, hs', hm]
        · obtain ⟨j1, j2, j3⟩ := sz_Pose y _ (by rw [← hy]; exact hl') k2 k3 hs'
          have km : m.length ≤ 1048576 := by omega
          obtain ⟨c1, c2, c3, c4⟩ := core_BlendPoses x y s m
          rw [(to_Pose x k1).1, (to_Pose y j1).1, (to_BoolS m km).1, c3]
          generalize (m_spec_BlendPoses x y s m) = r at *
          have i0 : iter gT x.2.2.2.length 1 = 1 + ((4 * x.2.2.2.length : Nat) : Int) := iter_add (g := gT) (c := 4) gT_add _ _ (by omega) (by omega)
          have i0' : iter gT y.2.2.2.length (iter gT x.2.2.2.length 1) = 1 + ((4 * x.2.2.2.length : Nat) : Int) + ((4 * y.2.2.2.length : Nat) : Int) := by rw [i0, iter_add (g := gT) (c := 4) gT_add _ _ (by omega) (by omega)]
          have i1 : ¬ iter gO m.length (iter gT y.2.2.2.length (iter gT x.2.2.2.length 1)) < 0 := by rw [i0', iter_add (g := gO) (c := 1) gO_add _ _ (by omega) (by omega)]; omega
          have i2 : ¬ iter gT r.1.2.2.2.length 1 < 0 := by rw [iter_add (g := gT) (c := 4) gT_add _ _ (by omega) (by omega)]; omega
          simp [hs, hs', hm, to_Pose x k1, to_Pose y j1, to_BoolS m km, c1, c2, eq_Pose x k1, eq_Pose y j1, eq_Pose r.1 c4, eq_BoolS m km, mark_Pose x _ k1, mark_Pose y _ j1, mark_BoolS m _ km, mark_Pose r.1 1 c4, held_Pose _ _ _ _ 1 c4, marks_len, i1, i2]
  unfold g_laws_FnExactBlendPoses
  simp only [dc_en0_map, dBool_map, key.1, key.2, if_true]
end Go.Proofs
