/-
  Actions, written.
-/
import Derived.Test.YtdmcbbeebjcagaaV4
import Derived.Test.YtdmcbbeebjcagaaV3
set_option linter.all false
set_option linter.unusedSectionVars false
namespace Go.Vab
open Go Go.Proofs

theorem sh32 (x : BitVec 32) : (x.setWidth 64) >>> (8 * 4) = 0#64 := by
  apply BitVec.eq_of_toNat_eq
  have := x.isLt
  rw [BitVec.toNat_ushiftRight, BitVec.toNat_setWidth, Nat.mod_eq_of_lt (by omega), Nat.shiftRight_eq_div_pow]
  simp <;> omega
theorem beN_len (n : BitVec 64) (k : Nat) : (beN n k).length = k := by simp [beN]

theorem flags (k : BitVec 8) : (hW k = true ∧ hE k = false ∧ hR k = true ∧ hT k = false ∧ hA k = false ∧ hP k = false) ∨ (hW k = true ∧ hE k = false ∧ hR k = false ∧ hT k = false ∧ hA k = false ∧ hP k = true) ∨ (hW k = false ∧ hE k = false ∧ hR k = false ∧ hT k = false ∧ hA k = false ∧ hP k = true) ∨ (hW k = false ∧ hE k = true ∧ hR k = true ∧ hT k = false ∧ hA k = false ∧ hP k = false) ∨ (hW k = false ∧ hE k = true ∧ hR k = false ∧ hT k = false ∧ hA k = false ∧ hP k = false) ∨ (hW k = false ∧ hE k = false ∧ hR k = false ∧ hT k = true ∧ hA k = false ∧ hP k = false) ∨ (hW k = false ∧ hE k = false ∧ hR k = false ∧ hT k = false ∧ hA k = true ∧ hP k = false) ∨ (hW k = false ∧ hE k = false ∧ hR k = false ∧ hT k = false ∧ hA k = false ∧ hP k = false) := by
  revert k
  decide

set_option maxHeartbeats 4000000 in
theorem c45 {h : Heap} {wc : Nat} {x : AV} {l : Bs} {a : Actn} {vt vp : AV} (hw : Wx h wc x l) (ra : ActR h a vt vp) (at_ : Ap h vt wc x) (ap : Ap h vp wc x) (ht : a.title.length ≤ 60000) (hp : a.pass.length ≤ 60000) (hb : l.length ≤ 1099510000000) :
    SpecQ Try.prog 45 [wq wc, eAct a vt vp] h (WrQ h wc x (l ++ actB a) (.tuple [])) := by
  have ta := ra.cells
  have f1 : (0 : Nat) = 0 := rfl
  have f2 := f1
  have f3 := f1
  have f4 := f1
  have f5 := f1
  have f6 := f1
  refine q45 fun env g0 g1 => ?_
  unfold wq at g0
  repeat' (first
    | ((with_reducible apply evs_of); (focus ((conv => lhs; simp (disch := omega) [g0, g1, ta, hasV]); done)); try dsimp only)
    | ((with_reducible apply cndW_T); (focus (simp (disch := omega) [g0, g1, ta, hasV] <;> omega)))
    | ((with_reducible apply cndW_F); (focus (simp (disch := omega) [g0, g1, ta, hasV] <;> omega)))
    | ((with_reducible apply stabP_i); (focus (simp (disch := omega) [g0, g1, ta, hasV]; done)))
    | (with_reducible apply wL_i)
    | (with_reducible refine SpecQ.step (c65) ?_; rintro _ rfl; try dsimp only)
    | (with_reducible refine stabP_i (c65) ?_)
    | ((with_reducible apply SpecA_i); (focus ((conv => lhs; simp (disch := omega) [g0, g1, ta, hasV]); done)))
    | ((with_reducible apply stabA_i); (focus ((conv => lhs; simp (disch := omega) [g0, g1, ta, hasV]); done)))
    | ((with_reducible apply stabA_fn); (focus ((conv => lhs; simp (disch := omega) [g0, g1, ta, hasV]); done)))
    | ((with_reducible apply stab_do); (focus (simp (disch := omega) [g0, g1, ta, hasV]; done)))
    | (simp (decide := true) only [sn45, sqW_nrm, sqW_exit, sqW_ret, inBlk_nrm, inBlk_ret, inBlk_same, inBlk_exit, if_true, if_false, retW_nrm, retW_ret])
    | (with_reducible refine n45_16_w _ _ _ ?_)
    | (with_reducible refine n45_21_w _ _ _ ?_)
    | (with_reducible refine n45_30_w _ _ _ ?_)
    | (with_reducible refine n45_2_w _ _ _ ?_))
  have bt := ra.t.app [⟨eAct a vt vp, 0, .own⟩, ⟨hasV a.kind, 0, .own⟩]
  have bp := ra.p.app [⟨eAct a vt vp, 0, .own⟩, ⟨hasV a.kind, 0, .own⟩]
  have cl := Cells.new hw [⟨eAct a vt vp, 0, .own⟩, ⟨hasV a.kind, 0, .own⟩]
  have kk := KeepW.ext h [⟨eAct a vt vp, 0, .own⟩, ⟨hasV a.kind, 0, .own⟩] wc x
  have at_ := at_.app [⟨eAct a vt vp, 0, .own⟩, ⟨hasV a.kind, 0, .own⟩]
  have ap := ap.app [⟨eAct a vt vp, 0, .own⟩, ⟨hasV a.kind, 0, .own⟩]
  have hw := hw.app [⟨eAct a vt vp, 0, .own⟩, ⟨hasV a.kind, 0, .own⟩]
  refine SpecQ.step (c38 (size := 4) hw (by omega) (by omega) (.inl (sh32 _)) (by omega)) ?_
  rintro ⟨v, h2⟩ ⟨rfl, x2, hw, k2⟩
  have bt := bt.keep k2 at_
  have bp := bp.keep k2 ap
  have at_ := at_.step k2
  have ap := ap.step k2
  have cl := cl.step k2
  have kk := kk.trans k2
  have b0 : blkAt h2 h.length 0 = some ⟨eAct a vt vp, 0, .own⟩ := cl.blk 0 rfl
  have b1 : blkAt h2 (h.length + 1) 0 = some ⟨hasV a.kind, 0, .own⟩ := cl.blk 1 rfl
  try unfold wp
  unfold hasV at b1
  repeat' (first
    | ((with_reducible apply evs_of); (focus ((conv => lhs; simp (disch := omega) [g0, b0, b1, ta, f1, f2, f3, f4, f5, f6]); done)); try dsimp only)
    | ((with_reducible apply cndW_T); (focus (simp (disch := omega) [g0, b0, b1, ta, f1, f2, f3, f4, f5, f6] <;> omega)))
    | ((with_reducible apply cndW_F); (focus (simp (disch := omega) [g0, b0, b1, ta, f1, f2, f3, f4, f5, f6] <;> omega)))
    | ((with_reducible apply stabP_i); (focus (simp (disch := omega) [g0, b0, b1, ta, f1, f2, f3, f4, f5, f6]; done)))
    | (with_reducible apply wL_i)
    | ((with_reducible apply SpecA_i); (focus ((conv => lhs; simp (disch := omega) [g0, b0, b1, ta, f1, f2, f3, f4, f5, f6]); done)))
    | ((with_reducible apply stabA_i); (focus ((conv => lhs; simp (disch := omega) [g0, b0, b1, ta, f1, f2, f3, f4, f5, f6]); done)))
    | ((with_reducible apply stabA_fn); (focus ((conv => lhs; simp (disch := omega) [g0, b0, b1, ta, f1, f2, f3, f4, f5, f6]); done)))
    | ((with_reducible apply stab_do); (focus (simp (disch := omega) [g0, b0, b1, ta, f1, f2, f3, f4, f5, f6]; done)))
    | (simp (decide := true) only [sn45, sqW_nrm, sqW_exit, sqW_ret, inBlk_nrm, inBlk_ret, inBlk_same, inBlk_exit, if_true, if_false, retW_nrm, retW_ret])
    | (with_reducible refine n45_16_w _ _ _ ?_)
    | (with_reducible refine n45_21_w _ _ _ ?_)
    | (with_reducible refine n45_30_w _ _ _ ?_)
    | (with_reducible refine n45_2_w _ _ _ ?_))
  refine SpecQ.step (c38 (size := 1) hw (by omega) (by omega) (.inl (sh8 _)) (by simp [beN_len, Pt.h]; omega)) ?_
  rcases flags a.kind with ⟨f1, f2, f3, f4, f5, f6⟩ | ⟨f1, f2, f3, f4, f5, f6⟩ | ⟨f1, f2, f3, f4, f5, f6⟩ | ⟨f1, f2, f3, f4, f5, f6⟩ | ⟨f1, f2, f3, f4, f5, f6⟩ | ⟨f1, f2, f3, f4, f5, f6⟩ | ⟨f1, f2, f3, f4, f5, f6⟩ | ⟨f1, f2, f3, f4, f5, f6⟩
  · as_aux_lemma =>
    rintro ⟨v, h2⟩ ⟨rfl, x2, hw, k2⟩
    have bt := bt.keep k2 at_
    have bp := bp.keep k2 ap
    have at_ := at_.step k2
    have ap := ap.step k2
    have cl := cl.step k2
    have kk := kk.trans k2
    have b0 : blkAt h2 h.length 0 = some ⟨eAct a vt vp, 0, .own⟩ := cl.blk 0 rfl
    have b1 : blkAt h2 (h.length + 1) 0 = some ⟨hasV a.kind, 0, .own⟩ := cl.blk 1 rfl
    try unfold wp
    unfold hasV at b1
    repeat' (first
      | ((with_reducible apply evs_of); (focus ((conv => lhs; simp (disch := omega) [g0, b0, b1, ta, f1, f2, f3, f4, f5, f6]); done)); try dsimp only)
      | ((with_reducible apply cndW_T); (focus (simp (disch := omega) [g0, b0, b1, ta, f1, f2, f3, f4, f5, f6] <;> omega)))
      | ((with_reducible apply cndW_F); (focus (simp (disch := omega) [g0, b0, b1, ta, f1, f2, f3, f4, f5, f6] <;> omega)))
      | ((with_reducible apply stabP_i); (focus (simp (disch := omega) [g0, b0, b1, ta, f1, f2, f3, f4, f5, f6]; done)))
      | (with_reducible apply wL_i)
      | ((with_reducible apply SpecA_i); (focus ((conv => lhs; simp (disch := omega) [g0, b0, b1, ta, f1, f2, f3, f4, f5, f6]); done)))
      | ((with_reducible apply stabA_i); (focus ((conv => lhs; simp (disch := omega) [g0, b0, b1, ta, f1, f2, f3, f4, f5, f6]); done)))
      | ((with_reducible apply stabA_fn); (focus ((conv => lhs; simp (disch := omega) [g0, b0, b1, ta, f1, f2, f3, f4, f5, f6]); done)))
      | ((with_reducible apply stab_do); (focus (simp (disch := omega) [g0, b0, b1, ta, f1, f2, f3, f4, f5, f6]; done)))
      | (simp (decide := true) only [sn45, sqW_nrm, sqW_exit, sqW_ret, inBlk_nrm, inBlk_ret, inBlk_same, inBlk_exit, if_true, if_false, retW_nrm, retW_ret])
      | (with_reducible refine n45_16_w _ _ _ ?_)
      | (with_reducible refine n45_21_w _ _ _ ?_)
      | (with_reducible refine n45_30_w _ _ _ ?_)
      | (with_reducible refine n45_2_w _ _ _ ?_))
    refine SpecQ.step (c42 hw (by simp [beN_len, Pt.h]; omega)) ?_
    as_aux_lemma =>
      rintro ⟨v, h2⟩ ⟨rfl, x2, hw, k2⟩
      have bt := bt.keep k2 at_
      have bp := bp.keep k2 ap
      have at_ := at_.step k2
      have ap := ap.step k2
      have cl := cl.step k2
      have kk := kk.trans k2
      have b0 : blkAt h2 h.length 0 = some ⟨eAct a vt vp, 0, .own⟩ := cl.blk 0 rfl
      have b1 : blkAt h2 (h.length + 1) 0 = some ⟨hasV a.kind, 0, .own⟩ := cl.blk 1 rfl
      try unfold wp
      unfold hasV at b1
      repeat' (first
        | ((with_reducible apply evs_of); (focus ((conv => lhs; simp (disch := omega) [g0, b0, b1, ta, f1, f2, f3, f4, f5, f6]); done)); try dsimp only)
        | ((with_reducible apply cndW_T); (focus (simp (disch := omega) [g0, b0, b1, ta, f1, f2, f3, f4, f5, f6] <;> omega)))
        | ((with_reducible apply cndW_F); (focus (simp (disch := omega) [g0, b0, b1, ta, f1, f2, f3, f4, f5, f6] <;> omega)))
        | ((with_reducible apply stabP_i); (focus (simp (disch := omega) [g0, b0, b1, ta, f1, f2, f3, f4, f5, f6]; done)))
        | (with_reducible apply wL_i)
        | ((with_reducible apply SpecA_i); (focus ((conv => lhs; simp (disch := omega) [g0, b0, b1, ta, f1, f2, f3, f4, f5, f6]); done)))
        | ((with_reducible apply stabA_i); (focus ((conv => lhs; simp (disch := omega) [g0, b0, b1, ta, f1, f2, f3, f4, f5, f6]); done)))
        | ((with_reducible apply stabA_fn); (focus ((conv => lhs; simp (disch := omega) [g0, b0, b1, ta, f1, f2, f3, f4, f5, f6]); done)))
        | ((with_reducible apply stab_do); (focus (simp (disch := omega) [g0, b0, b1, ta, f1, f2, f3, f4, f5, f6]; done)))
        | (simp (decide := true) only [sn45, sqW_nrm, sqW_exit, sqW_ret, inBlk_nrm, inBlk_ret, inBlk_same, inBlk_exit, if_true, if_false, retW_nrm, retW_ret])
        | (with_reducible refine n45_16_w _ _ _ ?_)
        | (with_reducible refine n45_21_w _ _ _ ?_)
        | (with_reducible refine n45_30_w _ _ _ ?_)
        | (with_reducible refine n45_2_w _ _ _ ?_))
      refine SpecQ.step (c38 (size := 1) hw (by omega) (by omega) (.inl (sh8 _)) (by simp [beN_len, Pt.h]; omega)) ?_
      as_aux_lemma =>
        rintro ⟨v, h2⟩ ⟨rfl, x2, hw, k2⟩
        have bt := bt.keep k2 at_
        have bp := bp.keep k2 ap
        have at_ := at_.step k2
        have ap := ap.step k2
        have cl := cl.step k2
        have kk := kk.trans k2
        have b0 : blkAt h2 h.length 0 = some ⟨eAct a vt vp, 0, .own⟩ := cl.blk 0 rfl
        have b1 : blkAt h2 (h.length + 1) 0 = some ⟨hasV a.kind, 0, .own⟩ := cl.blk 1 rfl
        try unfold wp
        unfold hasV at b1
        repeat' (first
          | ((with_reducible apply evs_of); (focus ((conv => lhs; simp (disch := omega) [g0, b0, b1, ta, f1, f2, f3, f4, f5, f6]); done)); try dsimp only)
          | ((with_reducible apply cndW_T); (focus (simp (disch := omega) [g0, b0, b1, ta, f1, f2, f3, f4, f5, f6] <;> omega)))
          | ((with_reducible apply cndW_F); (focus (simp (disch := omega) [g0, b0, b1, ta, f1, f2, f3, f4, f5, f6] <;> omega)))
          | ((with_reducible apply stabP_i); (focus (simp (disch := omega) [g0, b0, b1, ta, f1, f2, f3, f4, f5, f6]; done)))
          | (with_reducible apply wL_i)
          | ((with_reducible apply SpecA_i); (focus ((conv => lhs; simp (disch := omega) [g0, b0, b1, ta, f1, f2, f3, f4, f5, f6]); done)))
          | ((with_reducible apply stabA_i); (focus ((conv => lhs; simp (disch := omega) [g0, b0, b1, ta, f1, f2, f3, f4, f5, f6]); done)))
          | ((with_reducible apply stabA_fn); (focus ((conv => lhs; simp (disch := omega) [g0, b0, b1, ta, f1, f2, f3, f4, f5, f6]); done)))
          | ((with_reducible apply stab_do); (focus (simp (disch := omega) [g0, b0, b1, ta, f1, f2, f3, f4, f5, f6]; done)))
          | (simp (decide := true) only [sn45, sqW_nrm, sqW_exit, sqW_ret, inBlk_nrm, inBlk_ret, inBlk_same, inBlk_exit, if_true, if_false, retW_nrm, retW_ret])
          | (with_reducible refine n45_16_w _ _ _ ?_)
          | (with_reducible refine n45_21_w _ _ _ ?_)
          | (with_reducible refine n45_30_w _ _ _ ?_)
          | (with_reducible refine n45_2_w _ _ _ ?_))
        refine ⟨by simp [oneOrTuple], x2, ?_, kk⟩
        have e : l ++ actB a = _ := rfl
        simp only [actB, when_, f1, f2, f3, f4, f5, f6, ciB, textB, accB, if_true, if_false, Bool.false_eq_true, List.append_nil, ← List.append_assoc]
        exact hw
  · as_aux_lemma =>
    rintro ⟨v, h2⟩ ⟨rfl, x2, hw, k2⟩
    have bt := bt.keep k2 at_
    have bp := bp.keep k2 ap
    have at_ := at_.step k2
    have ap := ap.step k2
    have cl := cl.step k2
    have kk := kk.trans k2
    have b0 : blkAt h2 h.length 0 = some ⟨eAct a vt vp, 0, .own⟩ := cl.blk 0 rfl
    have b1 : blkAt h2 (h.length + 1) 0 = some ⟨hasV a.kind, 0, .own⟩ := cl.blk 1 rfl
    try unfold wp
    unfold hasV at b1
    repeat' (first
      | ((with_reducible apply evs_of); (focus ((conv => lhs; simp (disch := omega) [g0, b0, b1, ta, f1, f2, f3, f4, f5, f6]); done)); try dsimp only)
      | ((with_reducible apply cndW_T); (focus (simp (disch := omega) [g0, b0, b1, ta, f1, f2, f3, f4, f5, f6] <;> omega)))
      | ((with_reducible apply cndW_F); (focus (simp (disch := omega) [g0, b0, b1, ta, f1, f2, f3, f4, f5, f6] <;> omega)))
      | ((with_reducible apply stabP_i); (focus (simp (disch := omega) [g0, b0, b1, ta, f1, f2, f3, f4, f5, f6]; done)))
      | (with_reducible apply wL_i)
      | ((with_reducible apply SpecA_i); (focus ((conv => lhs; simp (disch := omega) [g0, b0, b1, ta, f1, f2, f3, f4, f5, f6]); done)))
      | ((with_reducible apply stabA_i); (focus ((conv => lhs; simp (disch := omega) [g0, b0, b1, ta, f1, f2, f3, f4, f5, f6]); done)))
      | ((with_reducible apply stabA_fn); (focus ((conv => lhs; simp (disch := omega) [g0, b0, b1, ta, f1, f2, f3, f4, f5, f6]); done)))
      | ((with_reducible apply stab_do); (focus (simp (disch := omega) [g0, b0, b1, ta, f1, f2, f3, f4, f5, f6]; done)))
      | (simp (decide := true) only [sn45, sqW_nrm, sqW_exit, sqW_ret, inBlk_nrm, inBlk_ret, inBlk_same, inBlk_exit, if_true, if_false, retW_nrm, retW_ret])
      | (with_reducible refine n45_16_w _ _ _ ?_)
      | (with_reducible refine n45_21_w _ _ _ ?_)
      | (with_reducible refine n45_30_w _ _ _ ?_)
      | (with_reducible refine n45_2_w _ _ _ ?_))
    refine SpecQ.step (c42 hw (by simp [beN_len, Pt.h]; omega)) ?_
    as_aux_lemma =>
      rintro ⟨v, h2⟩ ⟨rfl, x2, hw, k2⟩
      have bt := bt.keep k2 at_
      have bp := bp.keep k2 ap
      have at_ := at_.step k2
      have ap := ap.step k2
      have cl := cl.step k2
      have kk := kk.trans k2
      have b0 : blkAt h2 h.length 0 = some ⟨eAct a vt vp, 0, .own⟩ := cl.blk 0 rfl
      have b1 : blkAt h2 (h.length + 1) 0 = some ⟨hasV a.kind, 0, .own⟩ := cl.blk 1 rfl
      try unfold wp
      unfold hasV at b1
      repeat' (first
        | ((with_reducible apply evs_of); (focus ((conv => lhs; simp (disch := omega) [g0, b0, b1, ta, f1, f2, f3, f4, f5, f6]); done)); try dsimp only)
        | ((with_reducible apply cndW_T); (focus (simp (disch := omega) [g0, b0, b1, ta, f1, f2, f3, f4, f5, f6] <;> omega)))
        | ((with_reducible apply cndW_F); (focus (simp (disch := omega) [g0, b0, b1, ta, f1, f2, f3, f4, f5, f6] <;> omega)))
        | ((with_reducible apply stabP_i); (focus (simp (disch := omega) [g0, b0, b1, ta, f1, f2, f3, f4, f5, f6]; done)))
        | (with_reducible apply wL_i)
        | ((with_reducible apply SpecA_i); (focus ((conv => lhs; simp (disch := omega) [g0, b0, b1, ta, f1, f2, f3, f4, f5, f6]); done)))
        | ((with_reducible apply stabA_i); (focus ((conv => lhs; simp (disch := omega) [g0, b0, b1, ta, f1, f2, f3, f4, f5, f6]); done)))
        | ((with_reducible apply stabA_fn); (focus ((conv => lhs; simp (disch := omega) [g0, b0, b1, ta, f1, f2, f3, f4, f5, f6]); done)))
        | ((with_reducible apply stab_do); (focus (simp (disch := omega) [g0, b0, b1, ta, f1, f2, f3, f4, f5, f6]; done)))
        | (simp (decide := true) only [sn45, sqW_nrm, sqW_exit, sqW_ret, inBlk_nrm, inBlk_ret, inBlk_same, inBlk_exit, if_true, if_false, retW_nrm, retW_ret])
        | (with_reducible refine n45_16_w _ _ _ ?_)
        | (with_reducible refine n45_21_w _ _ _ ?_)
        | (with_reducible refine n45_30_w _ _ _ ?_)
        | (with_reducible refine n45_2_w _ _ _ ?_))
      refine SpecQ.step (c40 hw bp ap hp (by simp [beN_len, Pt.h]; omega)) ?_
      as_aux_lemma =>
        rintro ⟨v, h2⟩ ⟨rfl, x2, hw, k2⟩
        have bt := bt.keep k2 at_
        have bp := bp.keep k2 ap
        have at_ := at_.step k2
        have ap := ap.step k2
        have cl := cl.step k2
        have kk := kk.trans k2
        have b0 : blkAt h2 h.length 0 = some ⟨eAct a vt vp, 0, .own⟩ := cl.blk 0 rfl
        have b1 : blkAt h2 (h.length + 1) 0 = some ⟨hasV a.kind, 0, .own⟩ := cl.blk 1 rfl
        try unfold wp
        unfold hasV at b1
        repeat' (first
          | ((with_reducible apply evs_of); (focus ((conv => lhs; simp (disch := omega) [g0, b0, b1, ta, f1, f2, f3, f4, f5, f6]); done)); try dsimp only)
          | ((with_reducible apply cndW_T); (focus (simp (disch := omega) [g0, b0, b1, ta, f1, f2, f3, f4, f5, f6] <;> omega)))
          | ((with_reducible apply cndW_F); (focus (simp (disch := omega) [g0, b0, b1, ta, f1, f2, f3, f4, f5, f6] <;> omega)))
          | ((with_reducible apply stabP_i); (focus (simp (disch := omega) [g0, b0, b1, ta, f1, f2, f3, f4, f5, f6]; done)))
          | (with_reducible apply wL_i)
          | ((with_reducible apply SpecA_i); (focus ((conv => lhs; simp (disch := omega) [g0, b0, b1, ta, f1, f2, f3, f4, f5, f6]); done)))
          | ((with_reducible apply stabA_i); (focus ((conv => lhs; simp (disch := omega) [g0, b0, b1, ta, f1, f2, f3, f4, f5, f6]); done)))
          | ((with_reducible apply stabA_fn); (focus ((conv => lhs; simp (disch := omega) [g0, b0, b1, ta, f1, f2, f3, f4, f5, f6]); done)))
          | ((with_reducible apply stab_do); (focus (simp (disch := omega) [g0, b0, b1, ta, f1, f2, f3, f4, f5, f6]; done)))
          | (simp (decide := true) only [sn45, sqW_nrm, sqW_exit, sqW_ret, inBlk_nrm, inBlk_ret, inBlk_same, inBlk_exit, if_true, if_false, retW_nrm, retW_ret])
          | (with_reducible refine n45_16_w _ _ _ ?_)
          | (with_reducible refine n45_21_w _ _ _ ?_)
          | (with_reducible refine n45_30_w _ _ _ ?_)
          | (with_reducible refine n45_2_w _ _ _ ?_))
        refine ⟨by simp [oneOrTuple], x2, ?_, kk⟩
        have e : l ++ actB a = _ := rfl
        simp only [actB, when_, f1, f2, f3, f4, f5, f6, ciB, textB, accB, if_true, if_false, Bool.false_eq_true, List.append_nil, ← List.append_assoc]
        exact hw
  · as_aux_lemma =>
    rintro ⟨v, h2⟩ ⟨rfl, x2, hw, k2⟩
    have bt := bt.keep k2 at_
    have bp := bp.keep k2 ap
    have at_ := at_.step k2
    have ap := ap.step k2
    have cl := cl.step k2
    have kk := kk.trans k2
    have b0 : blkAt h2 h.length 0 = some ⟨eAct a vt vp, 0, .own⟩ := cl.blk 0 rfl
    have b1 : blkAt h2 (h.length + 1) 0 = some ⟨hasV a.kind, 0, .own⟩ := cl.blk 1 rfl
    try unfold wp
    unfold hasV at b1
    repeat' (first
      | ((with_reducible apply evs_of); (focus ((conv => lhs; simp (disch := omega) [g0, b0, b1, ta, f1, f2, f3, f4, f5, f6]); done)); try dsimp only)
      | ((with_reducible apply cndW_T); (focus (simp (disch := omega) [g0, b0, b1, ta, f1, f2, f3, f4, f5, f6] <;> omega)))
      | ((with_reducible apply cndW_F); (focus (simp (disch := omega) [g0, b0, b1, ta, f1, f2, f3, f4, f5, f6] <;> omega)))
      | ((with_reducible apply stabP_i); (focus (simp (disch := omega) [g0, b0, b1, ta, f1, f2, f3, f4, f5, f6]; done)))
      | (with_reducible apply wL_i)
      | ((with_reducible apply SpecA_i); (focus ((conv => lhs; simp (disch := omega) [g0, b0, b1, ta, f1, f2, f3, f4, f5, f6]); done)))
      | ((with_reducible apply stabA_i); (focus ((conv => lhs; simp (disch := omega) [g0, b0, b1, ta, f1, f2, f3, f4, f5, f6]); done)))
      | ((with_reducible apply stabA_fn); (focus ((conv => lhs; simp (disch := omega) [g0, b0, b1, ta, f1, f2, f3, f4, f5, f6]); done)))
      | ((with_reducible apply stab_do); (focus (simp (disch := omega) [g0, b0, b1, ta, f1, f2, f3, f4, f5, f6]; done)))
      | (simp (decide := true) only [sn45, sqW_nrm, sqW_exit, sqW_ret, inBlk_nrm, inBlk_ret, inBlk_same, inBlk_exit, if_true, if_false, retW_nrm, retW_ret])
      | (with_reducible refine n45_16_w _ _ _ ?_)
      | (with_reducible refine n45_21_w _ _ _ ?_)
      | (with_reducible refine n45_30_w _ _ _ ?_)
      | (with_reducible refine n45_2_w _ _ _ ?_))
    refine SpecQ.step (c40 hw bp ap hp (by simp [beN_len, Pt.h]; omega)) ?_
    as_aux_lemma =>
      rintro ⟨v, h2⟩ ⟨rfl, x2, hw, k2⟩
      have bt := bt.keep k2 at_
      have bp := bp.keep k2 ap
      have at_ := at_.step k2
      have ap := ap.step k2
      have cl := cl.step k2
      have kk := kk.trans k2
      have b0 : blkAt h2 h.length 0 = some ⟨eAct a vt vp, 0, .own⟩ := cl.blk 0 rfl
      have b1 : blkAt h2 (h.length + 1) 0 = some ⟨hasV a.kind, 0, .own⟩ := cl.blk 1 rfl
      try unfold wp
      unfold hasV at b1
      repeat' (first
        | ((with_reducible apply evs_of); (focus ((conv => lhs; simp (disch := omega) [g0, b0, b1, ta, f1, f2, f3, f4, f5, f6]); done)); try dsimp only)
        | ((with_reducible apply cndW_T); (focus (simp (disch := omega) [g0, b0, b1, ta, f1, f2, f3, f4, f5, f6] <;> omega)))
        | ((with_reducible apply cndW_F); (focus (simp (disch := omega) [g0, b0, b1, ta, f1, f2, f3, f4, f5, f6] <;> omega)))
        | ((with_reducible apply stabP_i); (focus (simp (disch := omega) [g0, b0, b1, ta, f1, f2, f3, f4, f5, f6]; done)))
        | (with_reducible apply wL_i)
        | ((with_reducible apply SpecA_i); (focus ((conv => lhs; simp (disch := omega) [g0, b0, b1, ta, f1, f2, f3, f4, f5, f6]); done)))
        | ((with_reducible apply stabA_i); (focus ((conv => lhs; simp (disch := omega) [g0, b0, b1, ta, f1, f2, f3, f4, f5, f6]); done)))
        | ((with_reducible apply stabA_fn); (focus ((conv => lhs; simp (disch := omega) [g0, b0, b1, ta, f1, f2, f3, f4, f5, f6]); done)))
        | ((with_reducible apply stab_do); (focus (simp (disch := omega) [g0, b0, b1, ta, f1, f2, f3, f4, f5, f6]; done)))
        | (simp (decide := true) only [sn45, sqW_nrm, sqW_exit, sqW_ret, inBlk_nrm, inBlk_ret, inBlk_same, inBlk_exit, if_true, if_false, retW_nrm, retW_ret])
        | (with_reducible refine n45_16_w _ _ _ ?_)
        | (with_reducible refine n45_21_w _ _ _ ?_)
        | (with_reducible refine n45_30_w _ _ _ ?_)
        | (with_reducible refine n45_2_w _ _ _ ?_))
      refine ⟨by simp [oneOrTuple], x2, ?_, kk⟩
      have e : l ++ actB a = _ := rfl
      simp only [actB, when_, f1, f2, f3, f4, f5, f6, ciB, textB, accB, if_true, if_false, Bool.false_eq_true, List.append_nil, ← List.append_assoc]
      exact hw
  · as_aux_lemma =>
    rintro ⟨v, h2⟩ ⟨rfl, x2, hw, k2⟩
    have bt := bt.keep k2 at_
    have bp := bp.keep k2 ap
    have at_ := at_.step k2
    have ap := ap.step k2
    have cl := cl.step k2
    have kk := kk.trans k2
    have b0 : blkAt h2 h.length 0 = some ⟨eAct a vt vp, 0, .own⟩ := cl.blk 0 rfl
    have b1 : blkAt h2 (h.length + 1) 0 = some ⟨hasV a.kind, 0, .own⟩ := cl.blk 1 rfl
    try unfold wp
    unfold hasV at b1
    repeat' (first
      | ((with_reducible apply evs_of); (focus ((conv => lhs; simp (disch := omega) [g0, b0, b1, ta, f1, f2, f3, f4, f5, f6]); done)); try dsimp only)
      | ((with_reducible apply cndW_T); (focus (simp (disch := omega) [g0, b0, b1, ta, f1, f2, f3, f4, f5, f6] <;> omega)))
      | ((with_reducible apply cndW_F); (focus (simp (disch := omega) [g0, b0, b1, ta, f1, f2, f3, f4, f5, f6] <;> omega)))
      | ((with_reducible apply stabP_i); (focus (simp (disch := omega) [g0, b0, b1, ta, f1, f2, f3, f4, f5, f6]; done)))
      | (with_reducible apply wL_i)
      | ((with_reducible apply SpecA_i); (focus ((conv => lhs; simp (disch := omega) [g0, b0, b1, ta, f1, f2, f3, f4, f5, f6]); done)))
      | ((with_reducible apply stabA_i); (focus ((conv => lhs; simp (disch := omega) [g0, b0, b1, ta, f1, f2, f3, f4, f5, f6]); done)))
      | ((with_reducible apply stabA_fn); (focus ((conv => lhs; simp (disch := omega) [g0, b0, b1, ta, f1, f2, f3, f4, f5, f6]); done)))
      | ((with_reducible apply stab_do); (focus (simp (disch := omega) [g0, b0, b1, ta, f1, f2, f3, f4, f5, f6]; done)))
      | (simp (decide := true) only [sn45, sqW_nrm, sqW_exit, sqW_ret, inBlk_nrm, inBlk_ret, inBlk_same, inBlk_exit, if_true, if_false, retW_nrm, retW_ret])
      | (with_reducible refine n45_16_w _ _ _ ?_)
      | (with_reducible refine n45_21_w _ _ _ ?_)
      | (with_reducible refine n45_30_w _ _ _ ?_)
      | (with_reducible refine n45_2_w _ _ _ ?_))
    refine SpecQ.step (c39 hw (by simp [beN_len, Pt.h]; omega)) ?_
    as_aux_lemma =>
      rintro ⟨v, h2⟩ ⟨rfl, x2, hw, k2⟩
      have bt := bt.keep k2 at_
      have bp := bp.keep k2 ap
      have at_ := at_.step k2
      have ap := ap.step k2
      have cl := cl.step k2
      have kk := kk.trans k2
      have b0 : blkAt h2 h.length 0 = some ⟨eAct a vt vp, 0, .own⟩ := cl.blk 0 rfl
      have b1 : blkAt h2 (h.length + 1) 0 = some ⟨hasV a.kind, 0, .own⟩ := cl.blk 1 rfl
      try unfold wp
      unfold hasV at b1
      repeat' (first
        | ((with_reducible apply evs_of); (focus ((conv => lhs; simp (disch := omega) [g0, b0, b1, ta, f1, f2, f3, f4, f5, f6]); done)); try dsimp only)
        | ((with_reducible apply cndW_T); (focus (simp (disch := omega) [g0, b0, b1, ta, f1, f2, f3, f4, f5, f6] <;> omega)))
        | ((with_reducible apply cndW_F); (focus (simp (disch := omega) [g0, b0, b1, ta, f1, f2, f3, f4, f5, f6] <;> omega)))
        | ((with_reducible apply stabP_i); (focus (simp (disch := omega) [g0, b0, b1, ta, f1, f2, f3, f4, f5, f6]; done)))
        | (with_reducible apply wL_i)
        | ((with_reducible apply SpecA_i); (focus ((conv => lhs; simp (disch := omega) [g0, b0, b1, ta, f1, f2, f3, f4, f5, f6]); done)))
        | ((with_reducible apply stabA_i); (focus ((conv => lhs; simp (disch := omega) [g0, b0, b1, ta, f1, f2, f3, f4, f5, f6]); done)))
        | ((with_reducible apply stabA_fn); (focus ((conv => lhs; simp (disch := omega) [g0, b0, b1, ta, f1, f2, f3, f4, f5, f6]); done)))
        | ((with_reducible apply stab_do); (focus (simp (disch := omega) [g0, b0, b1, ta, f1, f2, f3, f4, f5, f6]; done)))
        | (simp (decide := true) only [sn45, sqW_nrm, sqW_exit, sqW_ret, inBlk_nrm, inBlk_ret, inBlk_same, inBlk_exit, if_true, if_false, retW_nrm, retW_ret])
        | (with_reducible refine n45_16_w _ _ _ ?_)
        | (with_reducible refine n45_21_w _ _ _ ?_)
        | (with_reducible refine n45_30_w _ _ _ ?_)
        | (with_reducible refine n45_2_w _ _ _ ?_))
      refine SpecQ.step (c38 (size := 1) hw (by omega) (by omega) (.inl (sh8 _)) (by simp [beN_len, Pt.h]; omega)) ?_
      as_aux_lemma =>
        rintro ⟨v, h2⟩ ⟨rfl, x2, hw, k2⟩
        have bt := bt.keep k2 at_
        have bp := bp.keep k2 ap
        have at_ := at_.step k2
        have ap := ap.step k2
        have cl := cl.step k2
        have kk := kk.trans k2
        have b0 : blkAt h2 h.length 0 = some ⟨eAct a vt vp, 0, .own⟩ := cl.blk 0 rfl
        have b1 : blkAt h2 (h.length + 1) 0 = some ⟨hasV a.kind, 0, .own⟩ := cl.blk 1 rfl
        try unfold wp
        unfold hasV at b1
        repeat' (first
          | ((with_reducible apply evs_of); (focus ((conv => lhs; simp (disch := omega) [g0, b0, b1, ta, f1, f2, f3, f4, f5, f6]); done)); try dsimp only)
          | ((with_reducible apply cndW_T); (focus (simp (disch := omega) [g0, b0, b1, ta, f1, f2, f3, f4, f5, f6] <;> omega)))
          | ((with_reducible apply cndW_F); (focus (simp (disch := omega) [g0, b0, b1, ta, f1, f2, f3, f4, f5, f6] <;> omega)))
          | ((with_reducible apply stabP_i); (focus (simp (disch := omega) [g0, b0, b1, ta, f1, f2, f3, f4, f5, f6]; done)))
          | (with_reducible apply wL_i)
          | ((with_reducible apply SpecA_i); (focus ((conv => lhs; simp (disch := omega) [g0, b0, b1, ta, f1, f2, f3, f4, f5, f6]); done)))
          | ((with_reducible apply stabA_i); (focus ((conv => lhs; simp (disch := omega) [g0, b0, b1, ta, f1, f2, f3, f4, f5, f6]); done)))
          | ((with_reducible apply stabA_fn); (focus ((conv => lhs; simp (disch := omega) [g0, b0, b1, ta, f1, f2, f3, f4, f5, f6]); done)))
          | ((with_reducible apply stab_do); (focus (simp (disch := omega) [g0, b0, b1, ta, f1, f2, f3, f4, f5, f6]; done)))
          | (simp (decide := true) only [sn45, sqW_nrm, sqW_exit, sqW_ret, inBlk_nrm, inBlk_ret, inBlk_same, inBlk_exit, if_true, if_false, retW_nrm, retW_ret])
          | (with_reducible refine n45_16_w _ _ _ ?_)
          | (with_reducible refine n45_21_w _ _ _ ?_)
          | (with_reducible refine n45_30_w _ _ _ ?_)
          | (with_reducible refine n45_2_w _ _ _ ?_))
        refine ⟨by simp [oneOrTuple], x2, ?_, kk⟩
        have e : l ++ actB a = _ := rfl
        simp only [actB, when_, f1, f2, f3, f4, f5, f6, ciB, textB, accB, if_true, if_false, Bool.false_eq_true, List.append_nil, ← List.append_assoc]
        exact hw
  · as_aux_lemma =>
    rintro ⟨v, h2⟩ ⟨rfl, x2, hw, k2⟩
    have bt := bt.keep k2 at_
    have bp := bp.keep k2 ap
    have at_ := at_.step k2
    have ap := ap.step k2
    have cl := cl.step k2
    have kk := kk.trans k2
    have b0 : blkAt h2 h.length 0 = some ⟨eAct a vt vp, 0, .own⟩ := cl.blk 0 rfl
    have b1 : blkAt h2 (h.length + 1) 0 = some ⟨hasV a.kind, 0, .own⟩ := cl.blk 1 rfl
    try unfold wp
    unfold hasV at b1
    repeat' (first
      | ((with_reducible apply evs_of); (focus ((conv => lhs; simp (disch := omega) [g0, b0, b1, ta, f1, f2, f3, f4, f5, f6]); done)); try dsimp only)
      | ((with_reducible apply cndW_T); (focus (simp (disch := omega) [g0, b0, b1, ta, f1, f2, f3, f4, f5, f6] <;> omega)))
      | ((with_reducible apply cndW_F); (focus (simp (disch := omega) [g0, b0, b1, ta, f1, f2, f3, f4, f5, f6] <;> omega)))
      | ((with_reducible apply stabP_i); (focus (simp (disch := omega) [g0, b0, b1, ta, f1, f2, f3, f4, f5, f6]; done)))
      | (with_reducible apply wL_i)
      | ((with_reducible apply SpecA_i); (focus ((conv => lhs; simp (disch := omega) [g0, b0, b1, ta, f1, f2, f3, f4, f5, f6]); done)))
      | ((with_reducible apply stabA_i); (focus ((conv => lhs; simp (disch := omega) [g0, b0, b1, ta, f1, f2, f3, f4, f5, f6]); done)))
      | ((with_reducible apply stabA_fn); (focus ((conv => lhs; simp (disch := omega) [g0, b0, b1, ta, f1, f2, f3, f4, f5, f6]); done)))
      | ((with_reducible apply stab_do); (focus (simp (disch := omega) [g0, b0, b1, ta, f1, f2, f3, f4, f5, f6]; done)))
      | (simp (decide := true) only [sn45, sqW_nrm, sqW_exit, sqW_ret, inBlk_nrm, inBlk_ret, inBlk_same, inBlk_exit, if_true, if_false, retW_nrm, retW_ret])
      | (with_reducible refine n45_16_w _ _ _ ?_)
      | (with_reducible refine n45_21_w _ _ _ ?_)
      | (with_reducible refine n45_30_w _ _ _ ?_)
      | (with_reducible refine n45_2_w _ _ _ ?_))
    refine SpecQ.step (c39 hw (by simp [beN_len, Pt.h]; omega)) ?_
    as_aux_lemma =>
      rintro ⟨v, h2⟩ ⟨rfl, x2, hw, k2⟩
      have bt := bt.keep k2 at_
      have bp := bp.keep k2 ap
      have at_ := at_.step k2
      have ap := ap.step k2
      have cl := cl.step k2
      have kk := kk.trans k2
      have b0 : blkAt h2 h.length 0 = some ⟨eAct a vt vp, 0, .own⟩ := cl.blk 0 rfl
      have b1 : blkAt h2 (h.length + 1) 0 = some ⟨hasV a.kind, 0, .own⟩ := cl.blk 1 rfl
      try unfold wp
      unfold hasV at b1
      repeat' (first
        | ((with_reducible apply evs_of); (focus ((conv => lhs; simp (disch := omega) [g0, b0, b1, ta, f1, f2, f3, f4, f5, f6]); done)); try dsimp only)
        | ((with_reducible apply cndW_T); (focus (simp (disch := omega) [g0, b0, b1, ta, f1, f2, f3, f4, f5, f6] <;> omega)))
        | ((with_reducible apply cndW_F); (focus (simp (disch := omega) [g0, b0, b1, ta, f1, f2, f3, f4, f5, f6] <;> omega)))
        | ((with_reducible apply stabP_i); (focus (simp (disch := omega) [g0, b0, b1, ta, f1, f2, f3, f4, f5, f6]; done)))
        | (with_reducible apply wL_i)
        | ((with_reducible apply SpecA_i); (focus ((conv => lhs; simp (disch := omega) [g0, b0, b1, ta, f1, f2, f3, f4, f5, f6]); done)))
        | ((with_reducible apply stabA_i); (focus ((conv => lhs; simp (disch := omega) [g0, b0, b1, ta, f1, f2, f3, f4, f5, f6]); done)))
        | ((with_reducible apply stabA_fn); (focus ((conv => lhs; simp (disch := omega) [g0, b0, b1, ta, f1, f2, f3, f4, f5, f6]); done)))
        | ((with_reducible apply stab_do); (focus (simp (disch := omega) [g0, b0, b1, ta, f1, f2, f3, f4, f5, f6]; done)))
        | (simp (decide := true) only [sn45, sqW_nrm, sqW_exit, sqW_ret, inBlk_nrm, inBlk_ret, inBlk_same, inBlk_exit, if_true, if_false, retW_nrm, retW_ret])
        | (with_reducible refine n45_16_w _ _ _ ?_)
        | (with_reducible refine n45_21_w _ _ _ ?_)
        | (with_reducible refine n45_30_w _ _ _ ?_)
        | (with_reducible refine n45_2_w _ _ _ ?_))
      refine ⟨by simp [oneOrTuple], x2, ?_, kk⟩
      have e : l ++ actB a = _ := rfl
      simp only [actB, when_, f1, f2, f3, f4, f5, f6, ciB, textB, accB, if_true, if_false, Bool.false_eq_true, List.append_nil, ← List.append_assoc]
      exact hw
  · as_aux_lemma =>
    rintro ⟨v, h2⟩ ⟨rfl, x2, hw, k2⟩
    have bt := bt.keep k2 at_
    have bp := bp.keep k2 ap
    have at_ := at_.step k2
    have ap := ap.step k2
    have cl := cl.step k2
    have kk := kk.trans k2
    have b0 : blkAt h2 h.length 0 = some ⟨eAct a vt vp, 0, .own⟩ := cl.blk 0 rfl
    have b1 : blkAt h2 (h.length + 1) 0 = some ⟨hasV a.kind, 0, .own⟩ := cl.blk 1 rfl
    try unfold wp
    unfold hasV at b1
    repeat' (first
      | ((with_reducible apply evs_of); (focus ((conv => lhs; simp (disch := omega) [g0, b0, b1, ta, f1, f2, f3, f4, f5, f6]); done)); try dsimp only)
      | ((with_reducible apply cndW_T); (focus (simp (disch := omega) [g0, b0, b1, ta, f1, f2, f3, f4, f5, f6] <;> omega)))
      | ((with_reducible apply cndW_F); (focus (simp (disch := omega) [g0, b0, b1, ta, f1, f2, f3, f4, f5, f6] <;> omega)))
      | ((with_reducible apply stabP_i); (focus (simp (disch := omega) [g0, b0, b1, ta, f1, f2, f3, f4, f5, f6]; done)))
      | (with_reducible apply wL_i)
      | ((with_reducible apply SpecA_i); (focus ((conv => lhs; simp (disch := omega) [g0, b0, b1, ta, f1, f2, f3, f4, f5, f6]); done)))
      | ((with_reducible apply stabA_i); (focus ((conv => lhs; simp (disch := omega) [g0, b0, b1, ta, f1, f2, f3, f4, f5, f6]); done)))
      | ((with_reducible apply stabA_fn); (focus ((conv => lhs; simp (disch := omega) [g0, b0, b1, ta, f1, f2, f3, f4, f5, f6]); done)))
      | ((with_reducible apply stab_do); (focus (simp (disch := omega) [g0, b0, b1, ta, f1, f2, f3, f4, f5, f6]; done)))
      | (simp (decide := true) only [sn45, sqW_nrm, sqW_exit, sqW_ret, inBlk_nrm, inBlk_ret, inBlk_same, inBlk_exit, if_true, if_false, retW_nrm, retW_ret])
      | (with_reducible refine n45_16_w _ _ _ ?_)
      | (with_reducible refine n45_21_w _ _ _ ?_)
      | (with_reducible refine n45_30_w _ _ _ ?_)
      | (with_reducible refine n45_2_w _ _ _ ?_))
    refine SpecQ.step (c40 hw bt at_ ht (by simp [beN_len, Pt.h]; omega)) ?_
    as_aux_lemma =>
      rintro ⟨v, h2⟩ ⟨rfl, x2, hw, k2⟩
      have bt := bt.keep k2 at_
      have bp := bp.keep k2 ap
      have at_ := at_.step k2
      have ap := ap.step k2
      have cl := cl.step k2
      have kk := kk.trans k2
      have b0 : blkAt h2 h.length 0 = some ⟨eAct a vt vp, 0, .own⟩ := cl.blk 0 rfl
      have b1 : blkAt h2 (h.length + 1) 0 = some ⟨hasV a.kind, 0, .own⟩ := cl.blk 1 rfl
      try unfold wp
      unfold hasV at b1
      repeat' (first
        | ((with_reducible apply evs_of); (focus ((conv => lhs; simp (disch := omega) [g0, b0, b1, ta, f1, f2, f3, f4, f5, f6]); done)); try dsimp only)
        | ((with_reducible apply cndW_T); (focus (simp (disch := omega) [g0, b0, b1, ta, f1, f2, f3, f4, f5, f6] <;> omega)))
        | ((with_reducible apply cndW_F); (focus (simp (disch := omega) [g0, b0, b1, ta, f1, f2, f3, f4, f5, f6] <;> omega)))
        | ((with_reducible apply stabP_i); (focus (simp (disch := omega) [g0, b0, b1, ta, f1, f2, f3, f4, f5, f6]; done)))
        | (with_reducible apply wL_i)
        | ((with_reducible apply SpecA_i); (focus ((conv => lhs; simp (disch := omega) [g0, b0, b1, ta, f1, f2, f3, f4, f5, f6]); done)))
        | ((with_reducible apply stabA_i); (focus ((conv => lhs; simp (disch := omega) [g0, b0, b1, ta, f1, f2, f3, f4, f5, f6]); done)))
        | ((with_reducible apply stabA_fn); (focus ((conv => lhs; simp (disch := omega) [g0, b0, b1, ta, f1, f2, f3, f4, f5, f6]); done)))
        | ((with_reducible apply stab_do); (focus (simp (disch := omega) [g0, b0, b1, ta, f1, f2, f3, f4, f5, f6]; done)))
        | (simp (decide := true) only [sn45, sqW_nrm, sqW_exit, sqW_ret, inBlk_nrm, inBlk_ret, inBlk_same, inBlk_exit, if_true, if_false, retW_nrm, retW_ret])
        | (with_reducible refine n45_16_w _ _ _ ?_)
        | (with_reducible refine n45_21_w _ _ _ ?_)
        | (with_reducible refine n45_30_w _ _ _ ?_)
        | (with_reducible refine n45_2_w _ _ _ ?_))
      refine ⟨by simp [oneOrTuple], x2, ?_, kk⟩
      have e : l ++ actB a = _ := rfl
      simp only [actB, when_, f1, f2, f3, f4, f5, f6, ciB, textB, accB, if_true, if_false, Bool.false_eq_true, List.append_nil, ← List.append_assoc]
      exact hw
  · as_aux_lemma =>
    rintro ⟨v, h2⟩ ⟨rfl, x2, hw, k2⟩
    have bt := bt.keep k2 at_
    have bp := bp.keep k2 ap
    have at_ := at_.step k2
    have ap := ap.step k2
    have cl := cl.step k2
    have kk := kk.trans k2
    have b0 : blkAt h2 h.length 0 = some ⟨eAct a vt vp, 0, .own⟩ := cl.blk 0 rfl
    have b1 : blkAt h2 (h.length + 1) 0 = some ⟨hasV a.kind, 0, .own⟩ := cl.blk 1 rfl
    try unfold wp
    unfold hasV at b1
    repeat' (first
      | ((with_reducible apply evs_of); (focus ((conv => lhs; simp (disch := omega) [g0, b0, b1, ta, f1, f2, f3, f4, f5, f6]); done)); try dsimp only)
      | ((with_reducible apply cndW_T); (focus (simp (disch := omega) [g0, b0, b1, ta, f1, f2, f3, f4, f5, f6] <;> omega)))
      | ((with_reducible apply cndW_F); (focus (simp (disch := omega) [g0, b0, b1, ta, f1, f2, f3, f4, f5, f6] <;> omega)))
      | ((with_reducible apply stabP_i); (focus (simp (disch := omega) [g0, b0, b1, ta, f1, f2, f3, f4, f5, f6]; done)))
      | (with_reducible apply wL_i)
      | ((with_reducible apply SpecA_i); (focus ((conv => lhs; simp (disch := omega) [g0, b0, b1, ta, f1, f2, f3, f4, f5, f6]); done)))
      | ((with_reducible apply stabA_i); (focus ((conv => lhs; simp (disch := omega) [g0, b0, b1, ta, f1, f2, f3, f4, f5, f6]); done)))
      | ((with_reducible apply stabA_fn); (focus ((conv => lhs; simp (disch := omega) [g0, b0, b1, ta, f1, f2, f3, f4, f5, f6]); done)))
      | ((with_reducible apply stab_do); (focus (simp (disch := omega) [g0, b0, b1, ta, f1, f2, f3, f4, f5, f6]; done)))
      | (simp (decide := true) only [sn45, sqW_nrm, sqW_exit, sqW_ret, inBlk_nrm, inBlk_ret, inBlk_same, inBlk_exit, if_true, if_false, retW_nrm, retW_ret])
      | (with_reducible refine n45_16_w _ _ _ ?_)
      | (with_reducible refine n45_21_w _ _ _ ?_)
      | (with_reducible refine n45_30_w _ _ _ ?_)
      | (with_reducible refine n45_2_w _ _ _ ?_))
    refine SpecQ.step (c41 hw (by simp [beN_len, Pt.h]; omega)) ?_
    as_aux_lemma =>
      rintro ⟨v, h2⟩ ⟨rfl, x2, hw, k2⟩
      have bt := bt.keep k2 at_
      have bp := bp.keep k2 ap
      have at_ := at_.step k2
      have ap := ap.step k2
      have cl := cl.step k2
      have kk := kk.trans k2
      have b0 : blkAt h2 h.length 0 = some ⟨eAct a vt vp, 0, .own⟩ := cl.blk 0 rfl
      have b1 : blkAt h2 (h.length + 1) 0 = some ⟨hasV a.kind, 0, .own⟩ := cl.blk 1 rfl
      try unfold wp
      unfold hasV at b1
      repeat' (first
        | ((with_reducible apply evs_of); (focus ((conv => lhs; simp (disch := omega) [g0, b0, b1, ta, f1, f2, f3, f4, f5, f6]); done)); try dsimp only)
        | ((with_reducible apply cndW_T); (focus (simp (disch := omega) [g0, b0, b1, ta, f1, f2, f3, f4, f5, f6] <;> omega)))
        | ((with_reducible apply cndW_F); (focus (simp (disch := omega) [g0, b0, b1, ta, f1, f2, f3, f4, f5, f6] <;> omega)))
        | ((with_reducible apply stabP_i); (focus (simp (disch := omega) [g0, b0, b1, ta, f1, f2, f3, f4, f5, f6]; done)))
        | (with_reducible apply wL_i)
        | ((with_reducible apply SpecA_i); (focus ((conv => lhs; simp (disch := omega) [g0, b0, b1, ta, f1, f2, f3, f4, f5, f6]); done)))
        | ((with_reducible apply stabA_i); (focus ((conv => lhs; simp (disch := omega) [g0, b0, b1, ta, f1, f2, f3, f4, f5, f6]); done)))
        | ((with_reducible apply stabA_fn); (focus ((conv => lhs; simp (disch := omega) [g0, b0, b1, ta, f1, f2, f3, f4, f5, f6]); done)))
        | ((with_reducible apply stab_do); (focus (simp (disch := omega) [g0, b0, b1, ta, f1, f2, f3, f4, f5, f6]; done)))
        | (simp (decide := true) only [sn45, sqW_nrm, sqW_exit, sqW_ret, inBlk_nrm, inBlk_ret, inBlk_same, inBlk_exit, if_true, if_false, retW_nrm, retW_ret])
        | (with_reducible refine n45_16_w _ _ _ ?_)
        | (with_reducible refine n45_21_w _ _ _ ?_)
        | (with_reducible refine n45_30_w _ _ _ ?_)
        | (with_reducible refine n45_2_w _ _ _ ?_))
      refine ⟨by simp [oneOrTuple], x2, ?_, kk⟩
      have e : l ++ actB a = _ := rfl
      simp only [actB, when_, f1, f2, f3, f4, f5, f6, ciB, textB, accB, if_true, if_false, Bool.false_eq_true, List.append_nil, ← List.append_assoc]
      exact hw
  · as_aux_lemma =>
    rintro ⟨v, h2⟩ ⟨rfl, x2, hw, k2⟩
    have bt := bt.keep k2 at_
    have bp := bp.keep k2 ap
    have at_ := at_.step k2
    have ap := ap.step k2
    have cl := cl.step k2
    have kk := kk.trans k2
    have b0 : blkAt h2 h.length 0 = some ⟨eAct a vt vp, 0, .own⟩ := cl.blk 0 rfl
    have b1 : blkAt h2 (h.length + 1) 0 = some ⟨hasV a.kind, 0, .own⟩ := cl.blk 1 rfl
    try unfold wp
    unfold hasV at b1
    repeat' (first
      | ((with_reducible apply evs_of); (focus ((conv => lhs; simp (disch := omega) [g0, b0, b1, ta, f1, f2, f3, f4, f5, f6]); done)); try dsimp only)
      | ((with_reducible apply cndW_T); (focus (simp (disch := omega) [g0, b0, b1, ta, f1, f2, f3, f4, f5, f6] <;> omega)))
      | ((with_reducible apply cndW_F); (focus (simp (disch := omega) [g0, b0, b1, ta, f1, f2, f3, f4, f5, f6] <;> omega)))
      | ((with_reducible apply stabP_i); (focus (simp (disch := omega) [g0, b0, b1, ta, f1, f2, f3, f4, f5, f6]; done)))
      | (with_reducible apply wL_i)
      | ((with_reducible apply SpecA_i); (focus ((conv => lhs; simp (disch := omega) [g0, b0, b1, ta, f1, f2, f3, f4, f5, f6]); done)))
      | ((with_reducible apply stabA_i); (focus ((conv => lhs; simp (disch := omega) [g0, b0, b1, ta, f1, f2, f3, f4, f5, f6]); done)))
      | ((with_reducible apply stabA_fn); (focus ((conv => lhs; simp (disch := omega) [g0, b0, b1, ta, f1, f2, f3, f4, f5, f6]); done)))
      | ((with_reducible apply stab_do); (focus (simp (disch := omega) [g0, b0, b1, ta, f1, f2, f3, f4, f5, f6]; done)))
      | (simp (decide := true) only [sn45, sqW_nrm, sqW_exit, sqW_ret, inBlk_nrm, inBlk_ret, inBlk_same, inBlk_exit, if_true, if_false, retW_nrm, retW_ret])
      | (with_reducible refine n45_16_w _ _ _ ?_)
      | (with_reducible refine n45_21_w _ _ _ ?_)
      | (with_reducible refine n45_30_w _ _ _ ?_)
      | (with_reducible refine n45_2_w _ _ _ ?_))
    refine ⟨by simp [oneOrTuple], x2, ?_, kk⟩
    have e : l ++ actB a = _ := rfl
    simp only [actB, when_, f1, f2, f3, f4, f5, f6, ciB, textB, accB, if_true, if_false, Bool.false_eq_true, List.append_nil, ← List.append_assoc]
    exact hw

end Go.Vab

/- How the code of a function is read. Printed by wip/tools/gen2.py (own work). -/
namespace Go.Vab
open Go Go.Proofs
/-! vestry/vestrylaw18.known -/
def cx7 : Ctx := ⟨fun _ _ _ => none, TT, 15, [3, 4, 5, 6, 7, 8, 9, 10, 11, 12, 13, 14]⟩
noncomputable def n7_0 : Code := bodyOf Try.f7
noncomputable def n7_1 : Code := cR n7_0
noncomputable def n7_2 : Code := cR n7_1
noncomputable def n7_3 : Code := cR n7_2
theorem n7_3_eq (Q : Ex × St → Prop) (s : St) : wC Try.prog cx7 n7_3 Q s = Q (.ret, s) := yE
theorem n7_2_eq (Q : Ex × St → Prop) (env : Env) (h : Heap) : wC Try.prog cx7 n7_2 Q ⟨env, h⟩ = (Evs (mBin .eql (env.get 2) (nat 0)) fun v1 => Evs (gv v1 true (some (env.get 1))) fun v3 => Evs (gv v1 true (mStr v3 h)) fun v4 => Evs (gv v1 true (mBinT .eql v4 (.str { data := #[0, 0, 0, 3, 4] }))) fun v5 => Evs (mPick v1 v5 (.bool false)) fun v6 => wC Try.prog cx7 n7_3 Q ⟨(Env.put env 0 v6), h⟩) := (ySR 2 (cOps (cL n7_2)) (cR n7_2)).trans (by
  refine w0 ?_
  refine wT 8 (env.get 2) ?_
  refine wP 9 fun v1 => ?_
  refine wT 10 v1 ?_
  refine wG 11 fun v3 => ?_
  refine wG 12 fun v4 => ?_
  refine wG 13 fun v5 => ?_
  refine wP 14 fun v6 => ?_
  refine wT 0 v6 ?_
  exact wE)
theorem n7_1_eq (Q : Ex × St → Prop) (env : Env) (h : Heap) : wC Try.prog cx7 n7_1 Q ⟨env, h⟩ = (Evs (fillRow tAction (.node [(u32 0#32), (u8 0#8), (.node [(arr 32 fun _ => 0#8), (arr 32 fun _ => 0#8)]), (arr 32 fun _ => 0#8), (u8 0#8), .nilslice, (.node [(u8 0#8), (u8 0#8), (u8 0#8)]), .nilslice]) [(0, (u32 3#32)), (1, (u8 4#8))]) fun v0 => SpecA Try.prog 22 [v0] h fun r1 => Evs (mExtract r1.1 0) fun v3 => Evs (mExtract r1.1 1) fun v4 => wC Try.prog cx7 n7_2 Q ⟨(Env.put (Env.put env 1 v3) 2 v4), r1.2⟩) := (ySR 1 (cOps (cL n7_1)) (cR n7_1)).trans (by
  refine w0 ?_
  refine wP 4 fun v0 => ?_
  refine wH 5 fun r1 => ?_
  refine wT 3 r1.1 ?_
  refine wP 6 fun v3 => ?_
  refine wP 7 fun v4 => ?_
  refine wT 1 v3 ?_
  refine wT 2 v4 ?_
  exact wE)
theorem n7_0_eq (Q : Ex × St → Prop) (env : Env) (h : Heap) : wC Try.prog cx7 n7_0 Q ⟨env, h⟩ = ( wC Try.prog cx7 n7_1 Q ⟨(Env.put env 0 (.bool false)), h⟩) := (ySR 0 (cOps (cL n7_0)) (cR n7_0)).trans (by
  refine w0 ?_
  refine wT 0 (.bool false) ?_
  exact wE)
theorem fn7 : Try.prog.funcs[7]? = some Try.f7 := by kernel_rfl
theorem q7 {h : Heap} {K : AV × Heap → Prop} (H : ∀ env : Env, wC Try.prog cx7 n7_0 (retW (fun s => (bnd (some (s.env.get 0)) fun v => bnd (some []) fun vs => some (v :: vs))) K) ⟨env, h⟩) : SpecQ Try.prog 7 [] h K :=
  bodyW_sound (C := cx7) TT_ok mixed_ok fn7 (by kernel_rfl) (show _ = some n7_0 by kernel_rfl) (by kernel_rfl) (by kernel_rfl) (of_decide_eq_true (by kernel_rfl)) ((show wC Try.prog cx7 n7_0 (retW (fun s => resAll cx7 s Try.f7.results.toList) K) ⟨env0 cx7 [], h⟩ = wC Try.prog cx7 n7_0 (retW (fun s => (bnd (some (s.env.get 0)) fun v => bnd (some []) fun vs => some (v :: vs))) K) ⟨[(0, .junk), (1, .junk), (2, .junk)], h⟩ by kernel_rfl).mpr (H [(0, .junk), (1, .junk), (2, .junk)]))
def sn7 := And.intro n7_3_eq (And.intro n7_2_eq (And.intro n7_1_eq (n7_0_eq)))
-- draws: 
end Go.Vab

/-
  An action's form; the known one.
-/
namespace Go.Vab
open Go Go.Proofs

theorem BytL.rb_lt {h : Heap} {y : AV} {m : Bs} (hy : BytL h y m) : ∀ b, rb y = some b → b < h.length := by
  intro b hb
  cases y with
  | slice b' ver path t off len cap =>
    cases hb
    have h1 := hy.1.1
    simp only [mElems] at h1
    split at h1
    · obtain ⟨bb, g1, g2⟩ := bnd_eq_some.1 h1
      exact (List.getElem?_eq_some_iff.1 (blkAt_spec g1).1).1
    · cases h1
  | _ => cases hb
theorem KeepW.pre {h h' : Heap} {wc : Nat} {x x' : AV} (k : KeepW h h' wc x x') (n : Nat) (hn : n ≤ h.length) (h1 : n ≤ wc) (h2 : ∀ b, rb x = some b → n ≤ b) : ∃ t, h' = h.take n ++ t := by
  refine ⟨h'.drop n, ?_⟩
  have e : h'.take n = h.take n := by
    apply List.ext_getElem?
    intro i
    by_cases hi : i < n
    · rw [List.getElem?_take_of_lt hi, List.getElem?_take_of_lt hi]
      have hg : h[i]? = some h[i] := List.getElem?_eq_getElem (by omega)
      rw [hg]
      exact k.keep i _ hg (by omega) fun e => by have := h2 i e; omega
    · rw [List.getElem?_eq_none (by simp; omega), List.getElem?_eq_none (by simp; omega)]
  rw [← e, List.take_append_drop]

theorem mayA_len {a : Actn} (h : mayA a = true) : a.title.length ≤ 60000 ∧ a.pass.length ≤ 60000 := by
  simp only [mayA, Bool.and_eq_true, Bool.or_eq_true, Bool.not_eq_true', Bool.or_eq_false_iff, decide_eq_true_eq, decide_eq_false_iff_not] at h
  omega

theorem c22 {h : Heap} {a : Actn} {vt vp : AV} (ra : ActR h a vt vp) (hm : mayA a = true) :
    SpecQ Try.prog 22 [eAct a vt vp] h fun r => ∃ y t, r = (.tuple [y, nat 0], h ++ t) ∧ BytL (h ++ t) y (actB a) := by
  have ta := ra.cells
  refine q22 fun env g0 => ?_
  repeat' (first
    | ((with_reducible apply evs_of); (focus ((conv => lhs; simp (disch := omega) [g0, ta, hm]); done)); try dsimp only)
    | ((with_reducible apply cndW_T); (focus (simp (disch := omega) [g0, ta, hm] <;> omega)))
    | ((with_reducible apply cndW_F); (focus (simp (disch := omega) [g0, ta, hm] <;> omega)))
    | (with_reducible apply wL_i)
    | (with_reducible refine SpecQ.step (c44 (ra.app _)) ?_; rintro _ rfl; try dsimp only)
    | ((with_reducible apply SpecA_i); (focus ((conv => lhs; simp (disch := omega) [g0, ta, hm]); done)))
    | (simp (decide := true) only [sn22, sqW_nrm, sqW_exit, sqW_ret, inBlk_nrm, inBlk_ret, inBlk_same, inBlk_exit, if_true, if_false, retW_nrm, retW_ret]))
  have fw : ∀ n : Nat, n = h.length + 1 → Wx (h ++ [⟨eAct a vt vp, 0, .own⟩, ⟨wV .nilslice, 0, .own⟩]) n .nilslice [] := fun n hn => ⟨by rw [hn, List.getElem?_append_right (by omega)]; simp, by simp, .inl ⟨rfl, rfl⟩⟩
  have fa : ∀ {y : AV} {m : Bs}, BytL h y m → Ap (h ++ [⟨eAct a vt vp, 0, .own⟩, ⟨wV .nilslice, 0, .own⟩]) y (h.length + 1) .nilslice := fun hy b hb => by
    have := hy.rb_lt b hb
    exact ⟨by simp; omega, by omega, fun e => by cases e⟩
  refine SpecQ.step (c45 (fw _ rfl) (ra.app _) (fa ra.t) (fa ra.p) (mayA_len hm).1 (mayA_len hm).2 (by simp)) ?_
  rintro ⟨v, h2⟩ ⟨rfl, x2, hw, k2⟩
  have hp := k2.pre h.length (by simp) (by omega) (fun b hb => by cases hb)
  simp only [List.take_left'] at hp
  obtain ⟨t, rfl⟩ := hp
  repeat' (first
    | ((with_reducible apply evs_of); (focus ((conv => lhs; simp (disch := omega) [g0]); done)); try dsimp only)
    | ((with_reducible apply cndW_T); (focus (simp (disch := omega) [g0] <;> omega)))
    | ((with_reducible apply cndW_F); (focus (simp (disch := omega) [g0] <;> omega)))
    | (with_reducible apply wL_i)
    | ((with_reducible apply SpecA_i); (focus ((conv => lhs; simp (disch := omega) [g0]); done)))
    | (simp (decide := true) only [sn22, sqW_nrm, sqW_exit, sqW_ret, inBlk_nrm, inBlk_ret, inBlk_same, inBlk_exit, if_true, if_false, retW_nrm, retW_ret]))
  refine SpecQ.step (c43 hw) ?_
  rintro ⟨v, h2⟩ ⟨y, t2, e, hy⟩
  cases e
  repeat' (first
    | ((with_reducible apply evs_of); (focus ((conv => lhs; simp (disch := omega) [g0]); done)); try dsimp only)
    | ((with_reducible apply cndW_T); (focus (simp (disch := omega) [g0] <;> omega)))
    | ((with_reducible apply cndW_F); (focus (simp (disch := omega) [g0] <;> omega)))
    | (with_reducible apply wL_i)
    | ((with_reducible apply SpecA_i); (focus ((conv => lhs; simp (disch := omega) [g0]); done)))
    | (simp (decide := true) only [sn22, sqW_nrm, sqW_exit, sqW_ret, inBlk_nrm, inBlk_ret, inBlk_same, inBlk_exit, if_true, if_false, retW_nrm, retW_ret]))
  exact ⟨y, t ++ t2, by simp [oneOrTuple], by rw [← List.append_assoc]; exact hy⟩

theorem c22n {h : Heap} {a : Actn} {vt vp : AV} (ra : ActR h a vt vp) (hm : mayA a = false) :
    SpecQ Try.prog 22 [eAct a vt vp] h fun r => r = (.tuple [.nilslice, nat 2], h) := by
  have ta := ra.cells
  refine SpecQ.drop1 rfl (q22 fun env g0 => ?_)
  repeat' (first
    | ((with_reducible apply evs_of); (focus ((conv => lhs; simp (disch := omega) [g0, ta, hm]); done)); try dsimp only)
    | ((with_reducible apply cndW_T); (focus (simp (disch := omega) [g0, ta, hm] <;> omega)))
    | ((with_reducible apply cndW_F); (focus (simp (disch := omega) [g0, ta, hm] <;> omega)))
    | (with_reducible apply wL_i)
    | (with_reducible refine SpecQ.step (c44 (ra.app _)) ?_; rintro _ rfl; try dsimp only)
    | ((with_reducible apply SpecA_i); (focus ((conv => lhs; simp (disch := omega) [g0, ta, hm]); done)))
    | (simp (decide := true) only [sn22, sqW_nrm, sqW_exit, sqW_ret, inBlk_nrm, inBlk_ret, inBlk_same, inBlk_exit, if_true, if_false, retW_nrm, retW_ret]))
  exact ⟨_, by simp [oneOrTuple]; rfl⟩

/-- The known action. -/
def aK : Actn := ⟨3#32, 4#8, ci0, pt0, 0#8, [], acc0, []⟩
theorem aK_R (h : Heap) : ActR h aK .nilslice .nilslice := ⟨BytL.nil _, BytL.nil _⟩

theorem fillK : fillRow tAction (AV.node [u32 0#32, u8 0#8, AV.node [arr 32 fun _ => 0#8, arr 32 fun _ => 0#8], arr 32 fun _ => 0#8, u8 0#8, AV.nilslice, AV.node [u8 0#8, u8 0#8, u8 0#8], AV.nilslice]) [(0, u32 3#32), (1, u8 4#8)] = some (eAct aK .nilslice .nilslice) := by kernel_rfl
theorem mayK : mayA aK = true := by decide
theorem actK : strL (actB aK) = { data := #[0, 0, 0, 3, 4] } := by decide

theorem eqK : mBinT .eql (.str { data := #[0, 0, 0, 3, 4] }) (.str { data := #[0, 0, 0, 3, 4] }) = some (.bool true) := by kernel_rfl

theorem c7 {h : Heap} : SpecQ Try.prog 7 [] h fun r => r = (.bool true, h) := by
  refine SpecQ.drop1 rfl (q7 fun env => ?_)
  repeat' (first
    | ((with_reducible apply evs_of); (focus ((conv => lhs; simp (disch := omega) [True]); done)); try dsimp only)
    | ((with_reducible apply SpecA_i); (focus ((conv => lhs; simp (disch := omega) [True]); done)))
    | (simp (decide := true) only [sn7, sqW_nrm, sqW_exit, sqW_ret, inBlk_nrm, inBlk_ret, inBlk_same, inBlk_exit, if_true, if_false, retW_nrm, retW_ret]))
  refine evs_of fillK ?_
  repeat' (first
    | ((with_reducible apply evs_of); (focus ((conv => lhs; simp (disch := omega) [True]); done)); try dsimp only)
    | ((with_reducible apply SpecA_i); (focus ((conv => lhs; simp (disch := omega) [True]); done)))
    | (simp (decide := true) only [sn7, sqW_nrm, sqW_exit, sqW_ret, inBlk_nrm, inBlk_ret, inBlk_same, inBlk_exit, if_true, if_false, retW_nrm, retW_ret]))
  refine SpecQ.step (c22 (aK_R _) mayK) ?_
  rintro ⟨v, h2⟩ ⟨y, t, e, hy⟩
  cases e
  have sy := hy.str
  rw [actK] at sy
  repeat' (first
    | ((with_reducible apply evs_of); (focus ((conv => lhs; simp (disch := omega) [sy, eqK]); done)); try dsimp only)
    | ((with_reducible apply SpecA_i); (focus ((conv => lhs; simp (disch := omega) [sy, eqK]); done)))
    | (simp (decide := true) only [sn7, sqW_nrm, sqW_exit, sqW_ret, inBlk_nrm, inBlk_ret, inBlk_same, inBlk_exit, if_true, if_false, retW_nrm, retW_ret]))
  exact ⟨t, by simp [oneOrTuple]⟩

end Go.Vab

/- How the code of a function is read. Printed by wip/tools/gen2.py (own work). -/
namespace Go.Vab
open Go Go.Proofs
/-! slices.Equal[[]vestry/api.Scalar,vestry/api.Scalar] -/
def cx46 : Ctx := ⟨fun _ _ _ => none, TT, 26, [6, 7, 8, 9, 11, 15, 16, 17, 18, 19, 20, 21, 22, 23, 25]⟩
noncomputable def n46_0 : Code := bodyOf Try.f46
noncomputable def n46_1 : Code := cR n46_0
noncomputable def n46_2 : Code := cL n46_1
noncomputable def n46_3 : Code := cR n46_2
noncomputable def n46_4 : Code := cL n46_3
noncomputable def n46_5 : Code := cR n46_4
noncomputable def n46_6 : Code := cR n46_3
noncomputable def n46_7 : Code := cR n46_1
noncomputable def n46_8 : Code := cL n46_7
noncomputable def n46_9 : Code := cR n46_8
noncomputable def n46_10 : Code := cB n46_9
noncomputable def n46_11 : Code := cB n46_10
noncomputable def n46_12 : Code := cR n46_11
noncomputable def n46_13 : Code := cL n46_12
noncomputable def n46_14 : Code := cL n46_13
noncomputable def n46_15 : Code := cR n46_13
noncomputable def n46_16 : Code := cR n46_12
noncomputable def n46_17 : Code := cL n46_16
noncomputable def n46_18 : Code := cB n46_17
noncomputable def n46_19 : Code := cR n46_18
noncomputable def n46_20 : Code := cR n46_19
noncomputable def n46_21 : Code := cL n46_20
noncomputable def n46_22 : Code := cR n46_21
noncomputable def n46_23 : Code := cR n46_20
noncomputable def n46_24 : Code := cR n46_16
noncomputable def n46_25 : Code := cR n46_7
noncomputable def n46_26 : Code := cR n46_25
theorem n46_5_eq (Q : Ex × St → Prop) (s : St) : wC Try.prog cx46 n46_5 Q s = Q (.ret, s) := yE
theorem n46_4_eq (Q : Ex × St → Prop) (env : Env) (h : Heap) : wC Try.prog cx46 n46_4 Q ⟨env, h⟩ = ( wC Try.prog cx46 n46_5 Q ⟨(Env.put env 4 (.bool false)), h⟩) := (ySR 2 (cOps (cL n46_4)) (cR n46_4)).trans (by
  refine w0 ?_
  refine wT 4 (.bool false) ?_
  exact wE)
theorem n46_6_eq (Q : Ex × St → Prop) (s : St) : wC Try.prog cx46 n46_6 Q s = Q (.nrm, s) := yK
theorem n46_3_eq (Q : Ex × St → Prop) (s : St) : wC Try.prog cx46 n46_3 Q s = cndW (s.env.get 10) (wL Try.prog cx46 n46_4 Q s) (wL Try.prog cx46 n46_6 Q s) := yC 10 _ _
theorem n46_2_eq (Q : Ex × St → Prop) (env : Env) (h : Heap) : wC Try.prog cx46 n46_2 Q ⟨env, h⟩ = (Evs (mLenS (env.get 0)) fun v1 => Evs (mLenS (env.get 1)) fun v3 => Evs (mBin .neq v1 v3) fun v4 => wC Try.prog cx46 n46_3 Q ⟨(Env.put env 10 v4), h⟩) := (ySR 1 (cOps (cL n46_2)) (cR n46_2)).trans (by
  refine w0 ?_
  refine wT 6 (env.get 0) ?_
  refine wP 7 fun v1 => ?_
  refine wT 8 (env.get 1) ?_
  refine wP 9 fun v3 => ?_
  refine wP 10 fun v4 => ?_
  exact wE)
theorem n46_14_eq (Q : Ex × St → Prop) (s : St) : wC Try.prog cx46 n46_14 Q s = Q (.nrm, s) := yK
theorem n46_15_eq (Q : Ex × St → Prop) (s : St) : wC Try.prog cx46 n46_15 Q s = Q (.exit 0, s) := yX 0
theorem n46_13_eq (Q : Ex × St → Prop) (s : St) : wC Try.prog cx46 n46_13 Q s = cndW (s.env.get 14) (wL Try.prog cx46 n46_14 Q s) (wL Try.prog cx46 n46_15 Q s) := yC 14 _ _
theorem n46_22_eq (Q : Ex × St → Prop) (s : St) : wC Try.prog cx46 n46_22 Q s = Q (.ret, s) := yE
theorem n46_21_eq (Q : Ex × St → Prop) (env : Env) (h : Heap) : wC Try.prog cx46 n46_21 Q ⟨env, h⟩ = ( wC Try.prog cx46 n46_22 Q ⟨(Env.put env 4 (.bool false)), h⟩) := (ySR 7 (cOps (cL n46_21)) (cR n46_21)).trans (by
  refine w0 ?_
  refine wT 4 (.bool false) ?_
  exact wE)
theorem n46_23_eq (Q : Ex × St → Prop) (s : St) : wC Try.prog cx46 n46_23 Q s = Q (.nrm, s) := yK
theorem n46_20_eq (Q : Ex × St → Prop) (s : St) : wC Try.prog cx46 n46_20 Q s = cndW (s.env.get 24) (wL Try.prog cx46 n46_21 Q s) (wL Try.prog cx46 n46_23 Q s) := yC 24 _ _
theorem n46_19_ok : treeOk (cOps (cL n46_19)).toList [] [0, 0, 3, 7, 0, 0, 48, 112, 255] = true := by kernel_rfl
theorem n46_19_w (Q : Ex × St → Prop) (env : Env) (h : Heap) (H : Evs (mIdxS (.arr 32 (.int .u8)) (env.get 0) (env.get 5)) fun v2_1 => Evs (mLoad (.arr 32 (.int .u8)) v2_1 h) fun v3_2 => Evs (mIdxS (.arr 32 (.int .u8)) (env.get 1) (env.get 5)) fun v6_3 => Evs (mLoad (.arr 32 (.int .u8)) v6_3 h) fun v7_4 => Evs (mEq (.arr 32 (.int .u8)) .neq v3_2 v7_4) fun v8_5 => wC Try.prog cx46 n46_20 Q ⟨(Env.put env 24 v8_5), h⟩) : wC Try.prog cx46 n46_19 Q ⟨env, h⟩ := by
  refine ySD 6 (cOps (cL n46_19)) (cR n46_19) [] [0, 0, 3, 7, 0, 0, 48, 112, 255] [0, 1, 2, 3, 4, 5, 6, 7, 8] n46_19_ok ?_
  refine rT 16 (env.get 0) ?_
  refine rT 17 (env.get 5) ?_
  refine rP H 18 fun v2_1 H => ?_
  refine rP H 19 fun v3_2 H => ?_
  refine rT 20 (env.get 1) ?_
  refine rT 21 (env.get 5) ?_
  refine rP H 22 fun v6_3 H => ?_
  refine rP H 23 fun v7_4 H => ?_
  refine rP H 24 fun v8_5 H => ?_
  refine rE ?_
  exact tE H
theorem n46_18_eq (Q : Ex × St → Prop) (env : Env) (h : Heap) : wC Try.prog cx46 n46_18 Q ⟨env, h⟩ = ( wC Try.prog cx46 n46_19 Q ⟨(Env.put env 5 (env.get 13)), h⟩) := (ySR 5 (cOps (cL n46_18)) (cR n46_18)).trans (by
  refine w0 ?_
  refine wT 15 (env.get 13) ?_
  refine wT 5 (env.get 13) ?_
  exact wE)
theorem n46_17_eq (Q : Ex × St → Prop) (s : St) : wC Try.prog cx46 n46_17 Q s = wC Try.prog cx46 n46_18 (fun r => Q (inBlk 1 r)) s := yB 1 _
theorem n46_24_eq (Q : Ex × St → Prop) (env : Env) (h : Heap) : wC Try.prog cx46 n46_24 Q ⟨env, h⟩ = (Evs (mBin .add (env.get 13) (nat 1)) fun v0 => Q (.nrm, ⟨(Env.put env 13 v0), h⟩)) := (yR 8 (cOps n46_24)).trans (by
  refine w0 ?_
  refine wP 25 fun v0 => ?_
  refine wT 13 v0 ?_
  exact wE)
theorem n46_16_eq (Q : Ex × St → Prop) (s : St) : wC Try.prog cx46 n46_16 Q s = wC Try.prog cx46 n46_17 (sqW (wC Try.prog cx46 n46_24) Q) s := yS _ _
theorem n46_12_eq (Q : Ex × St → Prop) (s : St) : wC Try.prog cx46 n46_12 Q s = wC Try.prog cx46 n46_13 (sqW (wC Try.prog cx46 n46_16) Q) s := yS _ _
theorem n46_11_eq (Q : Ex × St → Prop) (env : Env) (h : Heap) : wC Try.prog cx46 n46_11 Q ⟨env, h⟩ = (Evs (mBin .lss (env.get 13) (env.get 12)) fun v0 => wC Try.prog cx46 n46_12 Q ⟨(Env.put env 14 v0), h⟩) := (ySR 4 (cOps (cL n46_11)) (cR n46_11)).trans (by
  refine w0 ?_
  refine wP 14 fun v0 => ?_
  exact wE)
theorem n46_10_eq (Q : Ex × St → Prop) (s : St) : wC Try.prog cx46 n46_10 Q s = loopW (wC Try.prog cx46 n46_11) Q s := yL _
theorem n46_9_eq (Q : Ex × St → Prop) (s : St) : wC Try.prog cx46 n46_9 Q s = wC Try.prog cx46 n46_10 (fun r => Q (inBlk 0 r)) s := yB 0 _
theorem n46_8_eq (Q : Ex × St → Prop) (env : Env) (h : Heap) : wC Try.prog cx46 n46_8 Q ⟨env, h⟩ = (Evs (mLenS (env.get 0)) fun v1 => wC Try.prog cx46 n46_9 Q ⟨(Env.put (Env.put env 12 v1) 13 (nat 0)), h⟩) := (ySR 3 (cOps (cL n46_8)) (cR n46_8)).trans (by
  refine w0 ?_
  refine wT 11 (env.get 0) ?_
  refine wP 12 fun v1 => ?_
  refine wT 13 (nat 0) ?_
  exact wE)
theorem n46_26_eq (Q : Ex × St → Prop) (s : St) : wC Try.prog cx46 n46_26 Q s = Q (.ret, s) := yE
theorem n46_25_eq (Q : Ex × St → Prop) (env : Env) (h : Heap) : wC Try.prog cx46 n46_25 Q ⟨env, h⟩ = ( wC Try.prog cx46 n46_26 Q ⟨(Env.put env 4 (.bool true)), h⟩) := (ySR 9 (cOps (cL n46_25)) (cR n46_25)).trans (by
  refine w0 ?_
  refine wT 4 (.bool true) ?_
  exact wE)
theorem n46_7_eq (Q : Ex × St → Prop) (s : St) : wC Try.prog cx46 n46_7 Q s = wC Try.prog cx46 n46_8 (sqW (wC Try.prog cx46 n46_25) Q) s := yS _ _
theorem n46_1_eq (Q : Ex × St → Prop) (s : St) : wC Try.prog cx46 n46_1 Q s = wC Try.prog cx46 n46_2 (sqW (wC Try.prog cx46 n46_7) Q) s := yS _ _
theorem n46_0_eq (Q : Ex × St → Prop) (env : Env) (h : Heap) : wC Try.prog cx46 n46_0 Q ⟨env, h⟩ = ( wC Try.prog cx46 n46_1 Q ⟨(Env.put env 4 (.bool false)), h⟩) := (ySR 0 (cOps (cL n46_0)) (cR n46_0)).trans (by
  refine w0 ?_
  refine wT 4 (.bool false) ?_
  exact wE)
theorem fn46 : Try.prog.funcs[46]? = some Try.f46 := by kernel_rfl
theorem q46 {a0 a1 : AV} {h : Heap} {K : AV × Heap → Prop} (H : ∀ env : Env, env.get 0 = a0 → env.get 1 = a1 → wC Try.prog cx46 n46_0 (retW (fun s => (bnd (some (s.env.get 4)) fun v => bnd (some []) fun vs => some (v :: vs))) K) ⟨env, h⟩) : SpecQ Try.prog 46 [a0, a1] h K :=
  bodyW_sound (C := cx46) TT_ok mixed_ok fn46 (by kernel_rfl) (show _ = some n46_0 by kernel_rfl) (by kernel_rfl) (by kernel_rfl) (of_decide_eq_true (by kernel_rfl)) ((show wC Try.prog cx46 n46_0 (retW (fun s => resAll cx46 s Try.f46.results.toList) K) ⟨env0 cx46 [a0, a1], h⟩ = wC Try.prog cx46 n46_0 (retW (fun s => (bnd (some (s.env.get 4)) fun v => bnd (some []) fun vs => some (v :: vs))) K) ⟨[(0, a0), (1, a1), (2, .junk), (3, .junk), (4, .junk), (5, .junk), (10, .junk), (12, .junk), (13, .junk), (14, .junk), (24, .junk)], h⟩ by kernel_rfl).mpr (H [(0, a0), (1, a1), (2, .junk), (3, .junk), (4, .junk), (5, .junk), (10, .junk), (12, .junk), (13, .junk), (14, .junk), (24, .junk)] rfl rfl))
def sn46 := And.intro n46_5_eq (And.intro n46_4_eq (And.intro n46_6_eq (And.intro n46_3_eq (And.intro n46_2_eq (And.intro n46_14_eq (And.intro n46_15_eq (And.intro n46_13_eq (And.intro n46_22_eq (And.intro n46_21_eq (And.intro n46_23_eq (And.intro n46_20_eq (And.intro n46_18_eq (And.intro n46_17_eq (And.intro n46_24_eq (And.intro n46_16_eq (And.intro n46_12_eq (And.intro n46_11_eq (And.intro n46_10_eq (And.intro n46_9_eq (And.intro n46_8_eq (And.intro n46_26_eq (And.intro n46_25_eq (And.intro n46_7_eq (And.intro n46_1_eq (n46_0_eq)))))))))))))))))))))))))
-- draws: n46_19
end Go.Vab

/-
  slices.Equal of scalars, walked.
-/
namespace Go.Vab
open Go Go.Proofs

theorem c46 {h : Heap} {x y : AV} {a b : List Pt} (hx : Row tPt h x (a.map pt)) (hy : Row tPt h y (b.map pt)) : SpecQ Try.prog 46 [x, y] h fun r => r = (.bool (decide (a = b)), h) := by
  have lx := hx.len
  have ly := hy.len
  have bx := hx.bound
  rw [List.length_map] at lx ly bx
  refine SpecQ.drop1 rfl (q46 fun env g0 g1 => ?_)
  by_cases hl : a.length = b.length
  · rw [← hl] at ly
    repeat' (first
      | ((with_reducible apply evs_of); (focus ((conv => lhs; simp (disch := omega) [g0, g1, lx, ly]); done)); try dsimp only)
      | ((with_reducible apply cndW_T); (focus (simp (disch := omega) [g0, g1, lx, ly] <;> omega)))
      | ((with_reducible apply cndW_F); (focus (simp (disch := omega) [g0, g1, lx, ly] <;> omega)))
      | (with_reducible apply wL_i)
      | (simp (decide := true) only [sn46, sqW_nrm, sqW_exit, sqW_ret, inBlk_nrm, inBlk_ret, inBlk_same, inBlk_exit, if_true, if_false, retW_nrm, retW_ret])
      | (with_reducible refine n46_19_w _ _ _ ?_))
    refine loop_up a.length (fun i st => ∃ env', st = ⟨env', h⟩ ∧ env'.get 0 = x ∧ env'.get 1 = y ∧ env'.get 12 = nat a.length ∧ env'.get 13 = nat i ∧ ∀ j, j < i → a[j]? = b[j]?) ?_ ?_ ⟨_, rfl, by simp [g0], by simp [g1], by simp, by simp, fun j hj => absurd hj (by omega)⟩
    · rintro i st hi ⟨env', rfl, e0, e1, e12, e13, hj⟩
      obtain ⟨p, p1, p2⟩ := hx.idx0 (i := i) (by simpa using hi)
      obtain ⟨q, q1, q2⟩ := hy.idx0 (i := i) (by simpa [← hl] using hi)
      rw [List.getElem?_map, List.getElem?_eq_getElem hi] at p2
      rw [List.getElem?_map, List.getElem?_eq_getElem (by omega)] at q2
      simp only [Option.map_some] at p2 q2
      by_cases hab : a[i] = b[i]
      · repeat' (first
          | ((with_reducible apply evs_of); (focus ((conv => lhs; simp (disch := omega) [e0, e1, e12, e13, p1, p2, q1, q2, hab]); done)); try dsimp only)
          | ((with_reducible apply cndW_T); (focus (simp (disch := omega) [e0, e1, e12, e13, p1, p2, q1, q2, hab] <;> omega)))
          | ((with_reducible apply cndW_F); (focus (simp (disch := omega) [e0, e1, e12, e13, p1, p2, q1, q2, hab] <;> omega)))
          | (with_reducible apply wL_i)
          | (simp (decide := true) only [sn46, sqW_nrm, sqW_exit, sqW_ret, inBlk_nrm, inBlk_ret, inBlk_same, inBlk_exit, if_true, if_false, retW_nrm, retW_ret])
          | (with_reducible refine n46_19_w _ _ _ ?_))
        refine .inl ⟨by simp, _, rfl, by simp [e0], by simp [e1], by simp [e12], by simp, fun j hj' => ?_⟩
        by_cases hji : j = i
        · subst hji
          rw [List.getElem?_eq_getElem hi, List.getElem?_eq_getElem (by omega), hab]
        · exact hj j (by omega)
      · repeat' (first
          | ((with_reducible apply evs_of); (focus ((conv => lhs; simp (disch := omega) [e0, e1, e12, e13, p1, p2, q1, q2, hab]); done)); try dsimp only)
          | ((with_reducible apply cndW_T); (focus (simp (disch := omega) [e0, e1, e12, e13, p1, p2, q1, q2, hab] <;> omega)))
          | ((with_reducible apply cndW_F); (focus (simp (disch := omega) [e0, e1, e12, e13, p1, p2, q1, q2, hab] <;> omega)))
          | (with_reducible apply wL_i)
          | (simp (decide := true) only [sn46, sqW_nrm, sqW_exit, sqW_ret, inBlk_nrm, inBlk_ret, inBlk_same, inBlk_exit, if_true, if_false, retW_nrm, retW_ret])
          | (with_reducible refine n46_19_w _ _ _ ?_))
        refine .inr ⟨by simp, ?_⟩
        repeat' (first
          | ((with_reducible apply evs_of); (focus ((conv => lhs; simp (disch := omega) [e0]); done)); try dsimp only)
          | ((with_reducible apply cndW_T); (focus (simp (disch := omega) [e0] <;> omega)))
          | ((with_reducible apply cndW_F); (focus (simp (disch := omega) [e0] <;> omega)))
          | (with_reducible apply wL_i)
          | (simp (decide := true) only [sn46, sqW_nrm, sqW_exit, sqW_ret, inBlk_nrm, inBlk_ret, inBlk_same, inBlk_exit, if_true, if_false, retW_nrm, retW_ret])
          | (with_reducible refine n46_19_w _ _ _ ?_))
        have : a ≠ b := by rintro rfl; exact hab rfl
        exact ⟨[], by simp [oneOrTuple, this]⟩
    · rintro st ⟨env', rfl, e0, e1, e12, e13, hj⟩
      repeat' (first
        | ((with_reducible apply evs_of); (focus ((conv => lhs; simp (disch := omega) [e12, e13]); done)); try dsimp only)
        | ((with_reducible apply cndW_T); (focus (simp (disch := omega) [e12, e13] <;> omega)))
        | ((with_reducible apply cndW_F); (focus (simp (disch := omega) [e12, e13] <;> omega)))
        | (with_reducible apply wL_i)
        | (simp (decide := true) only [sn46, sqW_nrm, sqW_exit, sqW_ret, inBlk_nrm, inBlk_ret, inBlk_same, inBlk_exit, if_true, if_false, retW_nrm, retW_ret])
        | (with_reducible refine n46_19_w _ _ _ ?_))
      refine ⟨by simp, ?_⟩
      repeat' (first
        | ((with_reducible apply evs_of); (focus ((conv => lhs; simp (disch := omega) [e12, e13]); done)); try dsimp only)
        | ((with_reducible apply cndW_T); (focus (simp (disch := omega) [e12, e13] <;> omega)))
        | ((with_reducible apply cndW_F); (focus (simp (disch := omega) [e12, e13] <;> omega)))
        | (with_reducible apply wL_i)
        | (simp (decide := true) only [sn46, sqW_nrm, sqW_exit, sqW_ret, inBlk_nrm, inBlk_ret, inBlk_same, inBlk_exit, if_true, if_false, retW_nrm, retW_ret])
        | (with_reducible refine n46_19_w _ _ _ ?_))
      have : a = b := List.ext_getElem? fun j => by
        by_cases hj' : j < a.length
        · exact hj j hj'
        · rw [List.getElem?_eq_none (by omega), List.getElem?_eq_none (by omega)]
      exact ⟨[], by simp [oneOrTuple, this]⟩
  · repeat' (first
      | ((with_reducible apply evs_of); (focus ((conv => lhs; simp (disch := omega) [g0, g1, lx, ly, hl]); done)); try dsimp only)
      | ((with_reducible apply cndW_T); (focus (simp (disch := omega) [g0, g1, lx, ly, hl] <;> omega)))
      | ((with_reducible apply cndW_F); (focus (simp (disch := omega) [g0, g1, lx, ly, hl] <;> omega)))
      | (with_reducible apply wL_i)
      | (simp (decide := true) only [sn46, sqW_nrm, sqW_exit, sqW_ret, inBlk_nrm, inBlk_ret, inBlk_same, inBlk_exit, if_true, if_false, retW_nrm, retW_ret])
      | (with_reducible refine n46_19_w _ _ _ ?_))
    have : a ≠ b := by rintro rfl; exact hl rfl
    exact ⟨[], by simp [oneOrTuple, this]⟩

end Go.Vab

/- How the code of a function is read. Printed by wip/tools/gen2.py (own work). -/
namespace Go.Vab
open Go Go.Proofs
/-! vestry/forms.sameProof -/
def cx28 : Ctx := ⟨fun _ _ _ => none, TT, 17, [5, 6, 7, 8, 9, 10, 11, 12, 13, 14, 15, 16]⟩
noncomputable def n28_0 : Code := bodyOf Try.f28
noncomputable def n28_1 : Code := cR n28_0
noncomputable def n28_2 : Code := cR n28_1
theorem n28_2_eq (Q : Ex × St → Prop) (s : St) : wC Try.prog cx28 n28_2 Q s = Q (.ret, s) := yE
theorem n28_1_eq (Q : Ex × St → Prop) (env : Env) (h : Heap) : wC Try.prog cx28 n28_1 Q ⟨env, h⟩ = (Evs (mFieldAddr tProof (env.get 2) 0) fun v0 => Evs (mLoad (.arr 32 (.int .u8)) v0 h) fun v1 => Evs (mFieldAddr tProof (env.get 3) 0) fun v2 => Evs (mLoad (.arr 32 (.int .u8)) v2 h) fun v3 => Evs (mEq (.arr 32 (.int .u8)) .eql v1 v3) fun v4 => Evs (gv v4 true (mFieldAddr tProof (env.get 2) 1)) fun v6 => Evs (gv v4 true (mLoad .cell v6 h)) fun v7 => Evs (gv v4 true (mFieldAddr tProof (env.get 3) 1)) fun v8 => Evs (gv v4 true (mLoad .cell v8 h)) fun v9 => gW v4 true (SpecA Try.prog 46 [v7, v9] h) h fun r10 => Evs (mPick v4 r10.1 (.bool false)) fun v11 => wC Try.prog cx28 n28_2 Q ⟨(Env.put env 4 v11), r10.2⟩) := (ySR 1 (cOps (cL n28_1)) (cR n28_1)).trans (by
  refine w0 ?_
  refine wP 5 fun v0 => ?_
  refine wP 6 fun v1 => ?_
  refine wP 7 fun v2 => ?_
  refine wP 8 fun v3 => ?_
  refine wP 9 fun v4 => ?_
  refine wT 10 v4 ?_
  refine wG 11 fun v6 => ?_
  refine wG 12 fun v7 => ?_
  refine wG 13 fun v8 => ?_
  refine wG 14 fun v9 => ?_
  refine wH 15 fun r10 => ?_
  refine wP 16 fun v11 => ?_
  refine wT 4 v11 ?_
  exact wE)
theorem n28_0_eq (Q : Ex × St → Prop) (env : Env) (h : Heap) : wC Try.prog cx28 n28_0 Q ⟨env, h⟩ = (Evs (mNew tProof (env.get 0) h) fun r0 => Evs (mNew tProof (env.get 1) r0.2) fun r1 => wC Try.prog cx28 n28_1 Q ⟨(Env.put (Env.put (Env.put env 2 r0.1) 3 r1.1) 4 (.bool false)), r1.2⟩) := (ySR 0 (cOps (cL n28_0)) (cR n28_0)).trans (by
  refine w0 ?_
  refine wH 2 fun r0 => ?_
  refine wH 3 fun r1 => ?_
  refine wT 4 (.bool false) ?_
  exact wE)
theorem fn28 : Try.prog.funcs[28]? = some Try.f28 := by kernel_rfl
theorem q28 {a0 a1 : AV} {h : Heap} {K : AV × Heap → Prop} (H : ∀ env : Env, env.get 0 = a0 → env.get 1 = a1 → wC Try.prog cx28 n28_0 (retW (fun s => (bnd (some (s.env.get 4)) fun v => bnd (some []) fun vs => some (v :: vs))) K) ⟨env, h⟩) : SpecQ Try.prog 28 [a0, a1] h K :=
  bodyW_sound (C := cx28) TT_ok mixed_ok fn28 (by kernel_rfl) (show _ = some n28_0 by kernel_rfl) (by kernel_rfl) (by kernel_rfl) (of_decide_eq_true (by kernel_rfl)) ((show wC Try.prog cx28 n28_0 (retW (fun s => resAll cx28 s Try.f28.results.toList) K) ⟨env0 cx28 [a0, a1], h⟩ = wC Try.prog cx28 n28_0 (retW (fun s => (bnd (some (s.env.get 4)) fun v => bnd (some []) fun vs => some (v :: vs))) K) ⟨[(0, a0), (1, a1), (2, .junk), (3, .junk), (4, .junk)], h⟩ by kernel_rfl).mpr (H [(0, a0), (1, a1), (2, .junk), (3, .junk), (4, .junk)] rfl rfl))
def sn28 := And.intro n28_2_eq (And.intro n28_1_eq (n28_0_eq))
-- draws: 
end Go.Vab

/- How the code of a function is read. Printed by wip/tools/gen2.py (own work). -/
namespace Go.Vab
open Go Go.Proofs
/-! vestry/vestryref14.SameProof -/
def cx34 : Ctx := ⟨fun _ _ _ => none, TT, 38, [6, 7, 8, 9, 10, 11, 12, 13, 14, 15, 16, 17, 18, 20, 21, 22, 23, 25, 26, 27, 28, 29, 30, 31, 32, 33, 34, 35, 36]⟩
noncomputable def n34_0 : Code := bodyOf Try.f34
noncomputable def n34_1 : Code := cR n34_0
noncomputable def n34_2 : Code := cL n34_1
noncomputable def n34_3 : Code := cR n34_2
noncomputable def n34_4 : Code := cL n34_3
noncomputable def n34_5 : Code := cR n34_4
noncomputable def n34_6 : Code := cR n34_3
noncomputable def n34_7 : Code := cR n34_1
noncomputable def n34_8 : Code := cL n34_7
noncomputable def n34_9 : Code := cR n34_8
noncomputable def n34_10 : Code := cB n34_9
noncomputable def n34_11 : Code := cB n34_10
noncomputable def n34_12 : Code := cL n34_11
noncomputable def n34_13 : Code := cR n34_12
noncomputable def n34_14 : Code := cL n34_13
noncomputable def n34_15 : Code := cR n34_13
noncomputable def n34_16 : Code := cR n34_11
noncomputable def n34_17 : Code := cL n34_16
noncomputable def n34_18 : Code := cB n34_17
noncomputable def n34_19 : Code := cR n34_18
noncomputable def n34_20 : Code := cL n34_19
noncomputable def n34_21 : Code := cR n34_20
noncomputable def n34_22 : Code := cR n34_19
noncomputable def n34_23 : Code := cR n34_16
noncomputable def n34_24 : Code := cR n34_7
noncomputable def n34_25 : Code := cR n34_24
theorem n34_5_eq (Q : Ex × St → Prop) (s : St) : wC Try.prog cx34 n34_5 Q s = Q (.ret, s) := yE
theorem n34_4_eq (Q : Ex × St → Prop) (env : Env) (h : Heap) : wC Try.prog cx34 n34_4 Q ⟨env, h⟩ = ( wC Try.prog cx34 n34_5 Q ⟨(Env.put env 4 (.bool false)), h⟩) := (ySR 2 (cOps (cL n34_4)) (cR n34_4)).trans (by
  refine w0 ?_
  refine wT 4 (.bool false) ?_
  exact wE)
theorem n34_6_eq (Q : Ex × St → Prop) (s : St) : wC Try.prog cx34 n34_6 Q s = Q (.nrm, s) := yK
theorem n34_3_eq (Q : Ex × St → Prop) (s : St) : wC Try.prog cx34 n34_3 Q s = cndW (s.env.get 19) (wL Try.prog cx34 n34_4 Q s) (wL Try.prog cx34 n34_6 Q s) := yC 19 _ _
theorem n34_2_eq (Q : Ex × St → Prop) (env : Env) (h : Heap) : wC Try.prog cx34 n34_2 Q ⟨env, h⟩ = (Evs (mFieldAddr tProof (env.get 2) 0) fun v0 => Evs (mLoad (.arr 32 (.int .u8)) v0 h) fun v1 => Evs (mFieldAddr tProof (env.get 3) 0) fun v2 => Evs (mLoad (.arr 32 (.int .u8)) v2 h) fun v3 => Evs (mEq (.arr 32 (.int .u8)) .neq v1 v3) fun v4 => Evs (gv v4 false (mFieldAddr tProof (env.get 2) 1)) fun v6 => Evs (gv v4 false (mLoad .cell v6 h)) fun v7 => Evs (gv v4 false (mLenS v7)) fun v8 => Evs (gv v4 false (mFieldAddr tProof (env.get 3) 1)) fun v9 => Evs (gv v4 false (mLoad .cell v9 h)) fun v10 => Evs (gv v4 false (mLenS v10)) fun v11 => Evs (gv v4 false (mBin .neq v8 v11)) fun v12 => Evs (mPick v4 (.bool true) v12) fun v13 => wC Try.prog cx34 n34_3 Q ⟨(Env.put env 19 v13), h⟩) := (ySR 1 (cOps (cL n34_2)) (cR n34_2)).trans (by
  refine w0 ?_
  refine wP 6 fun v0 => ?_
  refine wP 7 fun v1 => ?_
  refine wP 8 fun v2 => ?_
  refine wP 9 fun v3 => ?_
  refine wP 10 fun v4 => ?_
  refine wT 11 v4 ?_
  refine wG 12 fun v6 => ?_
  refine wG 13 fun v7 => ?_
  refine wG 14 fun v8 => ?_
  refine wG 15 fun v9 => ?_
  refine wG 16 fun v10 => ?_
  refine wG 17 fun v11 => ?_
  refine wG 18 fun v12 => ?_
  refine wP 19 fun v13 => ?_
  exact wE)
theorem n34_14_eq (Q : Ex × St → Prop) (s : St) : wC Try.prog cx34 n34_14 Q s = Q (.nrm, s) := yK
theorem n34_15_eq (Q : Ex × St → Prop) (s : St) : wC Try.prog cx34 n34_15 Q s = Q (.exit 0, s) := yX 0
theorem n34_13_eq (Q : Ex × St → Prop) (s : St) : wC Try.prog cx34 n34_13 Q s = cndW (s.env.get 24) (wL Try.prog cx34 n34_14 Q s) (wL Try.prog cx34 n34_15 Q s) := yC 24 _ _
theorem n34_12_eq (Q : Ex × St → Prop) (env : Env) (h : Heap) : wC Try.prog cx34 n34_12 Q ⟨env, h⟩ = (Evs (mFieldAddr tProof (env.get 2) 1) fun v1 => Evs (mLoad .cell v1 h) fun v2 => Evs (mLenS v2) fun v3 => Evs (mBin .lss (env.get 5) v3) fun v4 => wC Try.prog cx34 n34_13 Q ⟨(Env.put env 24 v4), h⟩) := (ySR 4 (cOps (cL n34_12)) (cR n34_12)).trans (by
  refine w0 ?_
  refine wT 20 (env.get 5) ?_
  refine wP 21 fun v1 => ?_
  refine wP 22 fun v2 => ?_
  refine wP 23 fun v3 => ?_
  refine wP 24 fun v4 => ?_
  exact wE)
theorem n34_21_eq (Q : Ex × St → Prop) (s : St) : wC Try.prog cx34 n34_21 Q s = Q (.ret, s) := yE
theorem n34_20_eq (Q : Ex × St → Prop) (env : Env) (h : Heap) : wC Try.prog cx34 n34_20 Q ⟨env, h⟩ = ( wC Try.prog cx34 n34_21 Q ⟨(Env.put env 4 (.bool false)), h⟩) := (ySR 7 (cOps (cL n34_20)) (cR n34_20)).trans (by
  refine w0 ?_
  refine wT 4 (.bool false) ?_
  exact wE)
theorem n34_22_eq (Q : Ex × St → Prop) (s : St) : wC Try.prog cx34 n34_22 Q s = Q (.nrm, s) := yK
theorem n34_19_eq (Q : Ex × St → Prop) (s : St) : wC Try.prog cx34 n34_19 Q s = cndW (s.env.get 37) (wL Try.prog cx34 n34_20 Q s) (wL Try.prog cx34 n34_22 Q s) := yC 37 _ _
theorem n34_18_ok : treeOk (cOps (cL n34_18)).toList [] [0, 1, 0, 7, 15, 0, 32, 0, 224, 480, 1023] = true := by kernel_rfl
theorem n34_18_w (Q : Ex × St → Prop) (env : Env) (h : Heap) (H : Evs (mFieldAddr tProof (env.get 2) 1) fun v0_1 => Evs (mLoad .cell v0_1 h) fun v1_2 => Evs (mIdxS (.arr 32 (.int .u8)) v1_2 (env.get 5)) fun v3_3 => Evs (mLoad (.arr 32 (.int .u8)) v3_3 h) fun v4_4 => Evs (mFieldAddr tProof (env.get 3) 1) fun v5_5 => Evs (mLoad .cell v5_5 h) fun v6_6 => Evs (mIdxS (.arr 32 (.int .u8)) v6_6 (env.get 5)) fun v8_7 => Evs (mLoad (.arr 32 (.int .u8)) v8_7 h) fun v9_8 => Evs (mEq (.arr 32 (.int .u8)) .neq v4_4 v9_8) fun v10_9 => wC Try.prog cx34 n34_19 Q ⟨(Env.put env 37 v10_9), h⟩) : wC Try.prog cx34 n34_18 Q ⟨env, h⟩ := by
  refine ySD 6 (cOps (cL n34_18)) (cR n34_18) [] [0, 1, 0, 7, 15, 0, 32, 0, 224, 480, 1023] [0, 1, 2, 3, 4, 5, 6, 7, 8, 9, 10] n34_18_ok ?_
  refine rP H 27 fun v0_1 H => ?_
  refine rP H 28 fun v1_2 H => ?_
  refine rT 29 (env.get 5) ?_
  refine rP H 30 fun v3_3 H => ?_
  refine rP H 31 fun v4_4 H => ?_
  refine rP H 32 fun v5_5 H => ?_
  refine rP H 33 fun v6_6 H => ?_
  refine rT 34 (env.get 5) ?_
  refine rP H 35 fun v8_7 H => ?_
  refine rP H 36 fun v9_8 H => ?_
  refine rP H 37 fun v10_9 H => ?_
  refine rE ?_
  exact tE H
theorem n34_17_eq (Q : Ex × St → Prop) (s : St) : wC Try.prog cx34 n34_17 Q s = wC Try.prog cx34 n34_18 (fun r => Q (inBlk 1 r)) s := yB 1 _
theorem n34_23_eq (Q : Ex × St → Prop) (env : Env) (h : Heap) : wC Try.prog cx34 n34_23 Q ⟨env, h⟩ = (Evs (mBin .add (env.get 5) (nat 1)) fun v1 => Q (.nrm, ⟨(Env.put env 5 v1), h⟩)) := (yR 5 (cOps n34_23)).trans (by
  refine w0 ?_
  refine wT 25 (env.get 5) ?_
  refine wP 26 fun v1 => ?_
  refine wT 5 v1 ?_
  exact wE)
theorem n34_16_eq (Q : Ex × St → Prop) (s : St) : wC Try.prog cx34 n34_16 Q s = wC Try.prog cx34 n34_17 (sqW (wC Try.prog cx34 n34_23) Q) s := yS _ _
theorem n34_11_eq (Q : Ex × St → Prop) (s : St) : wC Try.prog cx34 n34_11 Q s = wC Try.prog cx34 n34_12 (sqW (wC Try.prog cx34 n34_16) Q) s := yS _ _
theorem n34_10_eq (Q : Ex × St → Prop) (s : St) : wC Try.prog cx34 n34_10 Q s = loopW (wC Try.prog cx34 n34_11) Q s := yL _
theorem n34_9_eq (Q : Ex × St → Prop) (s : St) : wC Try.prog cx34 n34_9 Q s = wC Try.prog cx34 n34_10 (fun r => Q (inBlk 0 r)) s := yB 0 _
theorem n34_8_eq (Q : Ex × St → Prop) (env : Env) (h : Heap) : wC Try.prog cx34 n34_8 Q ⟨env, h⟩ = ( wC Try.prog cx34 n34_9 Q ⟨(Env.put env 5 (nat 0)), h⟩) := (ySR 3 (cOps (cL n34_8)) (cR n34_8)).trans (by
  refine w0 ?_
  refine wT 5 (nat 0) ?_
  exact wE)
theorem n34_25_eq (Q : Ex × St → Prop) (s : St) : wC Try.prog cx34 n34_25 Q s = Q (.ret, s) := yE
theorem n34_24_eq (Q : Ex × St → Prop) (env : Env) (h : Heap) : wC Try.prog cx34 n34_24 Q ⟨env, h⟩ = ( wC Try.prog cx34 n34_25 Q ⟨(Env.put env 4 (.bool true)), h⟩) := (ySR 8 (cOps (cL n34_24)) (cR n34_24)).trans (by
  refine w0 ?_
  refine wT 4 (.bool true) ?_
  exact wE)
theorem n34_7_eq (Q : Ex × St → Prop) (s : St) : wC Try.prog cx34 n34_7 Q s = wC Try.prog cx34 n34_8 (sqW (wC Try.prog cx34 n34_24) Q) s := yS _ _
theorem n34_1_eq (Q : Ex × St → Prop) (s : St) : wC Try.prog cx34 n34_1 Q s = wC Try.prog cx34 n34_2 (sqW (wC Try.prog cx34 n34_7) Q) s := yS _ _
theorem n34_0_eq (Q : Ex × St → Prop) (env : Env) (h : Heap) : wC Try.prog cx34 n34_0 Q ⟨env, h⟩ = (Evs (mNew tProof (env.get 0) h) fun r0 => Evs (mNew tProof (env.get 1) r0.2) fun r1 => wC Try.prog cx34 n34_1 Q ⟨(Env.put (Env.put (Env.put env 2 r0.1) 3 r1.1) 4 (.bool false)), r1.2⟩) := (ySR 0 (cOps (cL n34_0)) (cR n34_0)).trans (by
  refine w0 ?_
  refine wH 2 fun r0 => ?_
  refine wH 3 fun r1 => ?_
  refine wT 4 (.bool false) ?_
  exact wE)
theorem fn34 : Try.prog.funcs[34]? = some Try.f34 := by kernel_rfl
theorem q34 {a0 a1 : AV} {h : Heap} {K : AV × Heap → Prop} (H : ∀ env : Env, env.get 0 = a0 → env.get 1 = a1 → wC Try.prog cx34 n34_0 (retW (fun s => (bnd (some (s.env.get 4)) fun v => bnd (some []) fun vs => some (v :: vs))) K) ⟨env, h⟩) : SpecQ Try.prog 34 [a0, a1] h K :=
  bodyW_sound (C := cx34) TT_ok mixed_ok fn34 (by kernel_rfl) (show _ = some n34_0 by kernel_rfl) (by kernel_rfl) (by kernel_rfl) (of_decide_eq_true (by kernel_rfl)) ((show wC Try.prog cx34 n34_0 (retW (fun s => resAll cx34 s Try.f34.results.toList) K) ⟨env0 cx34 [a0, a1], h⟩ = wC Try.prog cx34 n34_0 (retW (fun s => (bnd (some (s.env.get 4)) fun v => bnd (some []) fun vs => some (v :: vs))) K) ⟨[(0, a0), (1, a1), (2, .junk), (3, .junk), (4, .junk), (5, .junk), (19, .junk), (24, .junk), (37, .junk)], h⟩ by kernel_rfl).mpr (H [(0, a0), (1, a1), (2, .junk), (3, .junk), (4, .junk), (5, .junk), (19, .junk), (24, .junk), (37, .junk)] rfl rfl))
def sn34 := And.intro n34_5_eq (And.intro n34_4_eq (And.intro n34_6_eq (And.intro n34_3_eq (And.intro n34_2_eq (And.intro n34_14_eq (And.intro n34_15_eq (And.intro n34_13_eq (And.intro n34_12_eq (And.intro n34_21_eq (And.intro n34_20_eq (And.intro n34_22_eq (And.intro n34_19_eq (And.intro n34_17_eq (And.intro n34_23_eq (And.intro n34_16_eq (And.intro n34_11_eq (And.intro n34_10_eq (And.intro n34_9_eq (And.intro n34_8_eq (And.intro n34_25_eq (And.intro n34_24_eq (And.intro n34_7_eq (And.intro n34_1_eq (n34_0_eq))))))))))))))))))))))))
-- draws: n34_18
end Go.Vab

/- How the code of a function is read. Printed by wip/tools/gen2.py (own work). -/
namespace Go.Vab
open Go Go.Proofs
/-! vestry/vestryref15.SamePass -/
def cx47 : Ctx := ⟨fun _ _ _ => none, TT, 31, [5, 6, 7, 8, 9, 10, 11, 12, 13, 14, 15, 16, 17, 18, 19, 20, 21, 22, 23, 24, 25, 26, 27, 28, 29, 30]⟩
noncomputable def n47_0 : Code := bodyOf Try.f47
noncomputable def n47_1 : Code := cR n47_0
noncomputable def n47_2 : Code := cR n47_1
theorem n47_2_eq (Q : Ex × St → Prop) (s : St) : wC Try.prog cx47 n47_2 Q s = Q (.ret, s) := yE
theorem n47_1_eq (Q : Ex × St → Prop) (env : Env) (h : Heap) : wC Try.prog cx47 n47_1 Q ⟨env, h⟩ = (Evs (mFieldAddr tPass (env.get 2) 0) fun v0 => Evs (mLoad (.arr 32 (.int .u8)) v0 h) fun v1 => Evs (mFieldAddr tPass (env.get 3) 0) fun v2 => Evs (mLoad (.arr 32 (.int .u8)) v2 h) fun v3 => Evs (mEq (.arr 32 (.int .u8)) .eql v1 v3) fun v4 => Evs (gv v4 true (mFieldAddr tPass (env.get 2) 1)) fun v6 => Evs (gv v4 true (mLoad (.arr 32 (.int .u8)) v6 h)) fun v7 => Evs (gv v4 true (mFieldAddr tPass (env.get 3) 1)) fun v8 => Evs (gv v4 true (mLoad (.arr 32 (.int .u8)) v8 h)) fun v9 => Evs (gv v4 true (mEq (.arr 32 (.int .u8)) .eql v7 v9)) fun v10 => Evs (mPick v4 v10 (.bool false)) fun v11 => Evs (gv v11 true (mFieldAddr tPass (env.get 2) 2)) fun v13 => Evs (gv v11 true (mLoad (.arr 32 (.int .u8)) v13 h)) fun v14 => Evs (gv v11 true (mFieldAddr tPass (env.get 3) 2)) fun v15 => Evs (gv v11 true (mLoad (.arr 32 (.int .u8)) v15 h)) fun v16 => Evs (gv v11 true (mEq (.arr 32 (.int .u8)) .eql v14 v16)) fun v17 => Evs (mPick v11 v17 (.bool false)) fun v18 => Evs (gv v18 true (mFieldAddr tPass (env.get 2) 3)) fun v20 => Evs (gv v18 true (mLoad tProof v20 h)) fun v21 => Evs (gv v18 true (mFieldAddr tPass (env.get 3) 3)) fun v22 => Evs (gv v18 true (mLoad tProof v22 h)) fun v23 => gW v18 true (SpecA Try.prog 34 [v21, v23] h) h fun r24 => Evs (mPick v18 r24.1 (.bool false)) fun v25 => wC Try.prog cx47 n47_2 Q ⟨(Env.put env 4 v25), r24.2⟩) := (ySR 1 (cOps (cL n47_1)) (cR n47_1)).trans (by
  refine w0 ?_
  refine wP 5 fun v0 => ?_
  refine wP 6 fun v1 => ?_
  refine wP 7 fun v2 => ?_
  refine wP 8 fun v3 => ?_
  refine wP 9 fun v4 => ?_
  refine wT 10 v4 ?_
  refine wG 11 fun v6 => ?_
  refine wG 12 fun v7 => ?_
  refine wG 13 fun v8 => ?_
  refine wG 14 fun v9 => ?_
  refine wG 15 fun v10 => ?_
  refine wP 16 fun v11 => ?_
  refine wT 17 v11 ?_
  refine wG 18 fun v13 => ?_
  refine wG 19 fun v14 => ?_
  refine wG 20 fun v15 => ?_
  refine wG 21 fun v16 => ?_
  refine wG 22 fun v17 => ?_
  refine wP 23 fun v18 => ?_
  refine wT 24 v18 ?_
  refine wG 25 fun v20 => ?_
  refine wG 26 fun v21 => ?_
  refine wG 27 fun v22 => ?_
  refine wG 28 fun v23 => ?_
  refine wH 29 fun r24 => ?_
  refine wP 30 fun v25 => ?_
  refine wT 4 v25 ?_
  exact wE)
theorem n47_0_eq (Q : Ex × St → Prop) (env : Env) (h : Heap) : wC Try.prog cx47 n47_0 Q ⟨env, h⟩ = (Evs (mNew tPass (env.get 0) h) fun r0 => Evs (mNew tPass (env.get 1) r0.2) fun r1 => wC Try.prog cx47 n47_1 Q ⟨(Env.put (Env.put (Env.put env 2 r0.1) 3 r1.1) 4 (.bool false)), r1.2⟩) := (ySR 0 (cOps (cL n47_0)) (cR n47_0)).trans (by
  refine w0 ?_
  refine wH 2 fun r0 => ?_
  refine wH 3 fun r1 => ?_
  refine wT 4 (.bool false) ?_
  exact wE)
theorem fn47 : Try.prog.funcs[47]? = some Try.f47 := by kernel_rfl
theorem q47 {a0 a1 : AV} {h : Heap} {K : AV × Heap → Prop} (H : ∀ env : Env, env.get 0 = a0 → env.get 1 = a1 → wC Try.prog cx47 n47_0 (retW (fun s => (bnd (some (s.env.get 4)) fun v => bnd (some []) fun vs => some (v :: vs))) K) ⟨env, h⟩) : SpecQ Try.prog 47 [a0, a1] h K :=
  bodyW_sound (C := cx47) TT_ok mixed_ok fn47 (by kernel_rfl) (show _ = some n47_0 by kernel_rfl) (by kernel_rfl) (by kernel_rfl) (of_decide_eq_true (by kernel_rfl)) ((show wC Try.prog cx47 n47_0 (retW (fun s => resAll cx47 s Try.f47.results.toList) K) ⟨env0 cx47 [a0, a1], h⟩ = wC Try.prog cx47 n47_0 (retW (fun s => (bnd (some (s.env.get 4)) fun v => bnd (some []) fun vs => some (v :: vs))) K) ⟨[(0, a0), (1, a1), (2, .junk), (3, .junk), (4, .junk)], h⟩ by kernel_rfl).mpr (H [(0, a0), (1, a1), (2, .junk), (3, .junk), (4, .junk)] rfl rfl))
def sn47 := And.intro n47_2_eq (And.intro n47_1_eq (n47_0_eq))
-- draws: 
end Go.Vab

/- How the code of a function is read. Printed by wip/tools/gen2.py (own work). -/
namespace Go.Vab
open Go Go.Proofs
/-! vestry/vestryref15.SameShown -/
def cx29 : Ctx := ⟨fun _ _ _ => none, TT, 28, [5, 6, 7, 8, 9, 10, 11, 12, 13, 14, 15, 16, 17, 18, 19, 20, 21, 22, 23, 24, 25, 26, 27]⟩
noncomputable def n29_0 : Code := bodyOf Try.f29
noncomputable def n29_1 : Code := cR n29_0
noncomputable def n29_2 : Code := cR n29_1
theorem n29_2_eq (Q : Ex × St → Prop) (s : St) : wC Try.prog cx29 n29_2 Q s = Q (.ret, s) := yE
theorem n29_1_eq (Q : Ex × St → Prop) (env : Env) (h : Heap) : wC Try.prog cx29 n29_1 Q ⟨env, h⟩ = (Evs (mFieldAddr tShown (env.get 2) 0) fun v0 => Evs (mLoad tPass v0 h) fun v1 => Evs (mFieldAddr tShown (env.get 3) 0) fun v2 => Evs (mLoad tPass v2 h) fun v3 => SpecA Try.prog 47 [v1, v3] h fun r4 => Evs (gv r4.1 true (mFieldAddr tShown (env.get 2) 1)) fun v6 => Evs (gv r4.1 true (mFieldAddr tTied v6 0)) fun v7 => Evs (gv r4.1 true (mLoad (.arr 32 (.int .u8)) v7 r4.2)) fun v8 => Evs (gv r4.1 true (mFieldAddr tShown (env.get 3) 1)) fun v9 => Evs (gv r4.1 true (mFieldAddr tTied v9 0)) fun v10 => Evs (gv r4.1 true (mLoad (.arr 32 (.int .u8)) v10 r4.2)) fun v11 => Evs (gv r4.1 true (mEq (.arr 32 (.int .u8)) .eql v8 v11)) fun v12 => Evs (mPick r4.1 v12 (.bool false)) fun v13 => Evs (gv v13 true (mFieldAddr tShown (env.get 2) 1)) fun v15 => Evs (gv v13 true (mFieldAddr tTied v15 1)) fun v16 => Evs (gv v13 true (mLoad tProof v16 r4.2)) fun v17 => Evs (gv v13 true (mFieldAddr tShown (env.get 3) 1)) fun v18 => Evs (gv v13 true (mFieldAddr tTied v18 1)) fun v19 => Evs (gv v13 true (mLoad tProof v19 r4.2)) fun v20 => gW v13 true (SpecA Try.prog 34 [v17, v20] r4.2) r4.2 fun r21 => Evs (mPick v13 r21.1 (.bool false)) fun v22 => wC Try.prog cx29 n29_2 Q ⟨(Env.put env 4 v22), r21.2⟩) := (ySR 1 (cOps (cL n29_1)) (cR n29_1)).trans (by
  refine w0 ?_
  refine wP 5 fun v0 => ?_
  refine wP 6 fun v1 => ?_
  refine wP 7 fun v2 => ?_
  refine wP 8 fun v3 => ?_
  refine wH 9 fun r4 => ?_
  refine wT 10 r4.1 ?_
  refine wG 11 fun v6 => ?_
  refine wG 12 fun v7 => ?_
  refine wG 13 fun v8 => ?_
  refine wG 14 fun v9 => ?_
  refine wG 15 fun v10 => ?_
  refine wG 16 fun v11 => ?_
  refine wG 17 fun v12 => ?_
  refine wP 18 fun v13 => ?_
  refine wT 19 v13 ?_
  refine wG 20 fun v15 => ?_
  refine wG 21 fun v16 => ?_
  refine wG 22 fun v17 => ?_
  refine wG 23 fun v18 => ?_
  refine wG 24 fun v19 => ?_
  refine wG 25 fun v20 => ?_
  refine wH 26 fun r21 => ?_
  refine wP 27 fun v22 => ?_
  refine wT 4 v22 ?_
  exact wE)
theorem n29_0_eq (Q : Ex × St → Prop) (env : Env) (h : Heap) : wC Try.prog cx29 n29_0 Q ⟨env, h⟩ = (Evs (mNew tShown (env.get 0) h) fun r0 => Evs (mNew tShown (env.get 1) r0.2) fun r1 => wC Try.prog cx29 n29_1 Q ⟨(Env.put (Env.put (Env.put env 2 r0.1) 3 r1.1) 4 (.bool false)), r1.2⟩) := (ySR 0 (cOps (cL n29_0)) (cR n29_0)).trans (by
  refine w0 ?_
  refine wH 2 fun r0 => ?_
  refine wH 3 fun r1 => ?_
  refine wT 4 (.bool false) ?_
  exact wE)
theorem fn29 : Try.prog.funcs[29]? = some Try.f29 := by kernel_rfl
theorem q29 {a0 a1 : AV} {h : Heap} {K : AV × Heap → Prop} (H : ∀ env : Env, env.get 0 = a0 → env.get 1 = a1 → wC Try.prog cx29 n29_0 (retW (fun s => (bnd (some (s.env.get 4)) fun v => bnd (some []) fun vs => some (v :: vs))) K) ⟨env, h⟩) : SpecQ Try.prog 29 [a0, a1] h K :=
  bodyW_sound (C := cx29) TT_ok mixed_ok fn29 (by kernel_rfl) (show _ = some n29_0 by kernel_rfl) (by kernel_rfl) (by kernel_rfl) (of_decide_eq_true (by kernel_rfl)) ((show wC Try.prog cx29 n29_0 (retW (fun s => resAll cx29 s Try.f29.results.toList) K) ⟨env0 cx29 [a0, a1], h⟩ = wC Try.prog cx29 n29_0 (retW (fun s => (bnd (some (s.env.get 4)) fun v => bnd (some []) fun vs => some (v :: vs))) K) ⟨[(0, a0), (1, a1), (2, .junk), (3, .junk), (4, .junk)], h⟩ by kernel_rfl).mpr (H [(0, a0), (1, a1), (2, .junk), (3, .junk), (4, .junk)] rfl rfl))
def sn29 := And.intro n29_2_eq (And.intro n29_1_eq (n29_0_eq))
-- draws: 
end Go.Vab

/- How the code of a function is read. Printed by wip/tools/gen2.py (own work). -/
namespace Go.Vab
open Go Go.Proofs
/-! vestry/vestryref15.SameVoucher -/
def cx30 : Ctx := ⟨fun _ _ _ => none, TT, 45, [5, 6, 7, 8, 9, 10, 11, 12, 13, 14, 15, 16, 17, 18, 19, 20, 21, 22, 23, 24, 25, 26, 27, 28, 29, 30, 31, 32, 33, 34, 35, 36, 37, 38, 39, 40, 41, 42, 43, 44]⟩
noncomputable def n30_0 : Code := bodyOf Try.f30
noncomputable def n30_1 : Code := cR n30_0
noncomputable def n30_2 : Code := cR n30_1
theorem n30_2_eq (Q : Ex × St → Prop) (s : St) : wC Try.prog cx30 n30_2 Q s = Q (.ret, s) := yE
theorem n30_1_eq (Q : Ex × St → Prop) (env : Env) (h : Heap) : wC Try.prog cx30 n30_1 Q ⟨env, h⟩ = (Evs (mFieldAddr tVoucher (env.get 2) 0) fun v0 => Evs (mLoad (.arr 32 (.int .u8)) v0 h) fun v1 => Evs (mFieldAddr tVoucher (env.get 3) 0) fun v2 => Evs (mLoad (.arr 32 (.int .u8)) v2 h) fun v3 => Evs (mEq (.arr 32 (.int .u8)) .eql v1 v3) fun v4 => Evs (gv v4 true (mFieldAddr tVoucher (env.get 2) 1)) fun v6 => Evs (gv v4 true (mLoad (.arr 32 (.int .u8)) v6 h)) fun v7 => Evs (gv v4 true (mFieldAddr tVoucher (env.get 3) 1)) fun v8 => Evs (gv v4 true (mLoad (.arr 32 (.int .u8)) v8 h)) fun v9 => Evs (gv v4 true (mEq (.arr 32 (.int .u8)) .eql v7 v9)) fun v10 => Evs (mPick v4 v10 (.bool false)) fun v11 => Evs (gv v11 true (mFieldAddr tVoucher (env.get 2) 2)) fun v13 => Evs (gv v11 true (mLoad (.arr 32 (.int .u8)) v13 h)) fun v14 => Evs (gv v11 true (mFieldAddr tVoucher (env.get 3) 2)) fun v15 => Evs (gv v11 true (mLoad (.arr 32 (.int .u8)) v15 h)) fun v16 => Evs (gv v11 true (mEq (.arr 32 (.int .u8)) .eql v14 v16)) fun v17 => Evs (mPick v11 v17 (.bool false)) fun v18 => Evs (gv v18 true (mFieldAddr tVoucher (env.get 2) 3)) fun v20 => Evs (gv v18 true (mLoad (.arr 32 (.int .u8)) v20 h)) fun v21 => Evs (gv v18 true (mFieldAddr tVoucher (env.get 3) 3)) fun v22 => Evs (gv v18 true (mLoad (.arr 32 (.int .u8)) v22 h)) fun v23 => Evs (gv v18 true (mEq (.arr 32 (.int .u8)) .eql v21 v23)) fun v24 => Evs (mPick v18 v24 (.bool false)) fun v25 => Evs (gv v25 true (mFieldAddr tVoucher (env.get 2) 4)) fun v27 => Evs (gv v25 true (mLoad (.arr 32 (.int .u8)) v27 h)) fun v28 => Evs (gv v25 true (mFieldAddr tVoucher (env.get 3) 4)) fun v29 => Evs (gv v25 true (mLoad (.arr 32 (.int .u8)) v29 h)) fun v30 => Evs (gv v25 true (mEq (.arr 32 (.int .u8)) .eql v28 v30)) fun v31 => Evs (mPick v25 v31 (.bool false)) fun v32 => Evs (gv v32 true (mFieldAddr tVoucher (env.get 2) 5)) fun v34 => Evs (gv v32 true (mLoad tProof v34 h)) fun v35 => Evs (gv v32 true (mFieldAddr tVoucher (env.get 3) 5)) fun v36 => Evs (gv v32 true (mLoad tProof v36 h)) fun v37 => gW v32 true (SpecA Try.prog 34 [v35, v37] h) h fun r38 => Evs (mPick v32 r38.1 (.bool false)) fun v39 => wC Try.prog cx30 n30_2 Q ⟨(Env.put env 4 v39), r38.2⟩) := (ySR 1 (cOps (cL n30_1)) (cR n30_1)).trans (by
  refine w0 ?_
  refine wP 5 fun v0 => ?_
  refine wP 6 fun v1 => ?_
  refine wP 7 fun v2 => ?_
  refine wP 8 fun v3 => ?_
  refine wP 9 fun v4 => ?_
  refine wT 10 v4 ?_
  refine wG 11 fun v6 => ?_
  refine wG 12 fun v7 => ?_
  refine wG 13 fun v8 => ?_
  refine wG 14 fun v9 => ?_
  refine wG 15 fun v10 => ?_
  refine wP 16 fun v11 => ?_
  refine wT 17 v11 ?_
  refine wG 18 fun v13 => ?_
  refine wG 19 fun v14 => ?_
  refine wG 20 fun v15 => ?_
  refine wG 21 fun v16 => ?_
  refine wG 22 fun v17 => ?_
  refine wP 23 fun v18 => ?_
  refine wT 24 v18 ?_
  refine wG 25 fun v20 => ?_
  refine wG 26 fun v21 => ?_
  refine wG 27 fun v22 => ?_
  refine wG 28 fun v23 => ?_
  refine wG 29 fun v24 => ?_
  refine wP 30 fun v25 => ?_
  refine wT 31 v25 ?_
  refine wG 32 fun v27 => ?_
  refine wG 33 fun v28 => ?_
  refine wG 34 fun v29 => ?_
  refine wG 35 fun v30 => ?_
  refine wG 36 fun v31 => ?_
  refine wP 37 fun v32 => ?_
  refine wT 38 v32 ?_
  refine wG 39 fun v34 => ?_
  refine wG 40 fun v35 => ?_
  refine wG 41 fun v36 => ?_
  refine wG 42 fun v37 => ?_
  refine wH 43 fun r38 => ?_
  refine wP 44 fun v39 => ?_
  refine wT 4 v39 ?_
  exact wE)
theorem n30_0_eq (Q : Ex × St → Prop) (env : Env) (h : Heap) : wC Try.prog cx30 n30_0 Q ⟨env, h⟩ = (Evs (mNew tVoucher (env.get 0) h) fun r0 => Evs (mNew tVoucher (env.get 1) r0.2) fun r1 => wC Try.prog cx30 n30_1 Q ⟨(Env.put (Env.put (Env.put env 2 r0.1) 3 r1.1) 4 (.bool false)), r1.2⟩) := (ySR 0 (cOps (cL n30_0)) (cR n30_0)).trans (by
  refine w0 ?_
  refine wH 2 fun r0 => ?_
  refine wH 3 fun r1 => ?_
  refine wT 4 (.bool false) ?_
  exact wE)
theorem fn30 : Try.prog.funcs[30]? = some Try.f30 := by kernel_rfl
theorem q30 {a0 a1 : AV} {h : Heap} {K : AV × Heap → Prop} (H : ∀ env : Env, env.get 0 = a0 → env.get 1 = a1 → wC Try.prog cx30 n30_0 (retW (fun s => (bnd (some (s.env.get 4)) fun v => bnd (some []) fun vs => some (v :: vs))) K) ⟨env, h⟩) : SpecQ Try.prog 30 [a0, a1] h K :=
  bodyW_sound (C := cx30) TT_ok mixed_ok fn30 (by kernel_rfl) (show _ = some n30_0 by kernel_rfl) (by kernel_rfl) (by kernel_rfl) (of_decide_eq_true (by kernel_rfl)) ((show wC Try.prog cx30 n30_0 (retW (fun s => resAll cx30 s Try.f30.results.toList) K) ⟨env0 cx30 [a0, a1], h⟩ = wC Try.prog cx30 n30_0 (retW (fun s => (bnd (some (s.env.get 4)) fun v => bnd (some []) fun vs => some (v :: vs))) K) ⟨[(0, a0), (1, a1), (2, .junk), (3, .junk), (4, .junk)], h⟩ by kernel_rfl).mpr (H [(0, a0), (1, a1), (2, .junk), (3, .junk), (4, .junk)] rfl rfl))
def sn30 := And.intro n30_2_eq (And.intro n30_1_eq (n30_0_eq))
-- draws: 
end Go.Vab

/-
  Proofs alike, walked.
-/
namespace Go.Vab
open Go Go.Proofs

theorem c28 {h : Heap} {a b : Prf} {va vb : AV} (ra : Pts h va a.s) (rb : Pts h vb b.s) :
    SpecQ Try.prog 28 [ePf a va, ePf b vb] h fun r => r = (.bool (decide (a = b)), h) := by
  have ta := ra.cell
  have tb := rb.cell
  refine SpecQ.drop1 rfl (q28 fun env g0 g1 => ?_)
  repeat' (first
    | ((with_reducible apply evs_of); (focus ((conv => lhs; simp (disch := omega) [g0, g1, ta, tb]); done)); try dsimp only)
    | ((with_reducible apply gW_do); (focus (simp (disch := omega) [g0, g1, ta, tb]; done)))
    | ((with_reducible apply gW_no); (focus (simp (disch := omega) [g0, g1, ta, tb]; done)); try dsimp only)
    | ((with_reducible apply gW_un); (focus (simp (disch := omega) [g0, g1, ta, tb]; done)); try dsimp only)
    | (with_reducible refine SpecQ.step (c46 (ra.app _) (rb.app _)) ?_; rintro _ rfl; try dsimp only)
    | ((with_reducible apply SpecA_i); (focus ((conv => lhs; simp (disch := omega) [g0, g1, ta, tb]); done)))
    | (simp (decide := true) only [sn28, sqW_nrm, sqW_exit, sqW_ret, inBlk_nrm, inBlk_ret, inBlk_same, inBlk_exit, if_true, if_false, retW_nrm, retW_ret])
    | (with_reducible refine gv_split ?_ ?_ <;> (intro hb; try simp only [Bool.not_true, Bool.not_false] at hb) <;> try simp only [hb])
    | (with_reducible refine gW_split ?_ ?_ <;> (intro hb; try simp only [Bool.not_true, Bool.not_false] at hb) <;> try simp only [hb]))
  all_goals refine fin_b ?_
  all_goals (clear ra rb ta tb; cases a; cases b; simp_all)

theorem c34 {h : Heap} {a b : Prf} {va vb : AV} (ra : Pts h va a.s) (rb : Pts h vb b.s) :
    SpecQ Try.prog 34 [ePf a va, ePf b vb] h fun r => r = (.bool (decide (a = b)), h) := by
  have ta := ra.cell
  have tb := rb.cell
  have la := ra.len
  have lb := rb.len
  have ba := ra.bound
  rw [List.length_map] at la lb ba
  refine SpecQ.drop1 rfl (q34 fun env g0 g1 => ?_)
  by_cases hc : a.c = b.c
  · have hc' : decide (a.c = b.c) = true := by simp [hc]
    by_cases hl : a.s.length = b.s.length
    · rw [← hl] at lb
      repeat' (first
        | ((with_reducible apply evs_of); (focus ((conv => lhs; simp (disch := omega) [g0, g1, ta, tb, la, lb, hc']); done)); try dsimp only)
        | ((with_reducible apply cndW_T); (focus (simp (disch := omega) [g0, g1, ta, tb, la, lb, hc'] <;> omega)))
        | ((with_reducible apply cndW_F); (focus (simp (disch := omega) [g0, g1, ta, tb, la, lb, hc'] <;> omega)))
        | (with_reducible apply wL_i)
        | (simp (decide := true) only [sn34, sqW_nrm, sqW_exit, sqW_ret, inBlk_nrm, inBlk_ret, inBlk_same, inBlk_exit, if_true, if_false, retW_nrm, retW_ret])
        | (with_reducible refine n34_18_w _ _ _ ?_))
      refine loop_up a.s.length (fun i st => ∃ env', st = ⟨env', h ++ [⟨ePf a va, 0, .own⟩, ⟨ePf b vb, 0, .own⟩]⟩ ∧ env'.get 2 = .ptr h.length 0 [] tProof ∧ env'.get 3 = .ptr (h.length + 1) 0 [] tProof ∧ env'.get 5 = nat i ∧ ∀ j, j < i → a.s[j]? = b.s[j]?) ?_ ?_ ⟨_, rfl, by simp, by simp, by simp, fun j hj => absurd hj (by omega)⟩
      · rintro i st hi ⟨env', rfl, e2, e3, e5, hj⟩
        obtain ⟨p, p1, p2⟩ := ra.idx (i := i) (by simpa using hi)
        obtain ⟨q, q1, q2⟩ := rb.idx (i := i) (by simpa [← hl] using hi)
        rw [List.getElem?_map, List.getElem?_eq_getElem hi] at p2
        rw [List.getElem?_map, List.getElem?_eq_getElem (by omega)] at q2
        simp only [Option.map_some] at p2 q2
        by_cases hab : a.s[i] = b.s[i]
        · repeat' (first
            | ((with_reducible apply evs_of); (focus ((conv => lhs; simp (disch := omega) [e2, e3, e5, ta, tb, la, lb, p1, p2, q1, q2, hab]); done)); try dsimp only)
            | ((with_reducible apply cndW_T); (focus (simp (disch := omega) [e2, e3, e5, ta, tb, la, lb, p1, p2, q1, q2, hab] <;> omega)))
            | ((with_reducible apply cndW_F); (focus (simp (disch := omega) [e2, e3, e5, ta, tb, la, lb, p1, p2, q1, q2, hab] <;> omega)))
            | (with_reducible apply wL_i)
            | (simp (decide := true) only [sn34, sqW_nrm, sqW_exit, sqW_ret, inBlk_nrm, inBlk_ret, inBlk_same, inBlk_exit, if_true, if_false, retW_nrm, retW_ret])
            | (with_reducible refine n34_18_w _ _ _ ?_))
          refine .inl ⟨by simp, _, rfl, by simp [e2], by simp [e3], by simp, fun j hj' => ?_⟩
          by_cases hji : j = i
          · subst hji
            rw [List.getElem?_eq_getElem hi, List.getElem?_eq_getElem (by omega), hab]
          · exact hj j (by omega)
        · repeat' (first
            | ((with_reducible apply evs_of); (focus ((conv => lhs; simp (disch := omega) [e2, e3, e5, ta, tb, la, lb, p1, p2, q1, q2, hab]); done)); try dsimp only)
            | ((with_reducible apply cndW_T); (focus (simp (disch := omega) [e2, e3, e5, ta, tb, la, lb, p1, p2, q1, q2, hab] <;> omega)))
            | ((with_reducible apply cndW_F); (focus (simp (disch := omega) [e2, e3, e5, ta, tb, la, lb, p1, p2, q1, q2, hab] <;> omega)))
            | (with_reducible apply wL_i)
            | (simp (decide := true) only [sn34, sqW_nrm, sqW_exit, sqW_ret, inBlk_nrm, inBlk_ret, inBlk_same, inBlk_exit, if_true, if_false, retW_nrm, retW_ret])
            | (with_reducible refine n34_18_w _ _ _ ?_))
          refine .inr ⟨by simp, ?_⟩
          repeat' (first
            | ((with_reducible apply evs_of); (focus ((conv => lhs; simp (disch := omega) [e2]); done)); try dsimp only)
            | ((with_reducible apply cndW_T); (focus (simp (disch := omega) [e2] <;> omega)))
            | ((with_reducible apply cndW_F); (focus (simp (disch := omega) [e2] <;> omega)))
            | (with_reducible apply wL_i)
            | (simp (decide := true) only [sn34, sqW_nrm, sqW_exit, sqW_ret, inBlk_nrm, inBlk_ret, inBlk_same, inBlk_exit, if_true, if_false, retW_nrm, retW_ret])
            | (with_reducible refine n34_18_w _ _ _ ?_))
          have : a ≠ b := by rintro rfl; exact hab rfl
          exact ⟨[⟨ePf a va, 0, .own⟩, ⟨ePf b vb, 0, .own⟩], by simp [oneOrTuple, this]⟩
      · rintro st ⟨env', rfl, e2, e3, e5, hj⟩
        repeat' (first
          | ((with_reducible apply evs_of); (focus ((conv => lhs; simp (disch := omega) [e2, e3, e5, ta, la]); done)); try dsimp only)
          | ((with_reducible apply cndW_T); (focus (simp (disch := omega) [e2, e3, e5, ta, la] <;> omega)))
          | ((with_reducible apply cndW_F); (focus (simp (disch := omega) [e2, e3, e5, ta, la] <;> omega)))
          | (with_reducible apply wL_i)
          | (simp (decide := true) only [sn34, sqW_nrm, sqW_exit, sqW_ret, inBlk_nrm, inBlk_ret, inBlk_same, inBlk_exit, if_true, if_false, retW_nrm, retW_ret])
          | (with_reducible refine n34_18_w _ _ _ ?_))
        refine ⟨by simp, ?_⟩
        repeat' (first
          | ((with_reducible apply evs_of); (focus ((conv => lhs; simp (disch := omega) [e2, e5]); done)); try dsimp only)
          | ((with_reducible apply cndW_T); (focus (simp (disch := omega) [e2, e5] <;> omega)))
          | ((with_reducible apply cndW_F); (focus (simp (disch := omega) [e2, e5] <;> omega)))
          | (with_reducible apply wL_i)
          | (simp (decide := true) only [sn34, sqW_nrm, sqW_exit, sqW_ret, inBlk_nrm, inBlk_ret, inBlk_same, inBlk_exit, if_true, if_false, retW_nrm, retW_ret])
          | (with_reducible refine n34_18_w _ _ _ ?_))
        have h1 : a.s = b.s := List.ext_getElem? fun j => by
          by_cases hj' : j < a.s.length
          · exact hj j hj'
          · rw [List.getElem?_eq_none (by omega), List.getElem?_eq_none (by omega)]
        have : a = b := by cases a; cases b; simp_all
        exact ⟨[⟨ePf a va, 0, .own⟩, ⟨ePf b vb, 0, .own⟩], by simp [oneOrTuple, this]⟩
    · repeat' (first
        | ((with_reducible apply evs_of); (focus ((conv => lhs; simp (disch := omega) [g0, g1, ta, tb, la, lb, hc', hl]); done)); try dsimp only)
        | ((with_reducible apply cndW_T); (focus (simp (disch := omega) [g0, g1, ta, tb, la, lb, hc', hl] <;> omega)))
        | ((with_reducible apply cndW_F); (focus (simp (disch := omega) [g0, g1, ta, tb, la, lb, hc', hl] <;> omega)))
        | (with_reducible apply wL_i)
        | (simp (decide := true) only [sn34, sqW_nrm, sqW_exit, sqW_ret, inBlk_nrm, inBlk_ret, inBlk_same, inBlk_exit, if_true, if_false, retW_nrm, retW_ret])
        | (with_reducible refine n34_18_w _ _ _ ?_))
      have : a ≠ b := by rintro rfl; exact hl rfl
      exact ⟨_, by simp [oneOrTuple, this]; rfl⟩
  · repeat' (first
      | ((with_reducible apply evs_of); (focus ((conv => lhs; simp (disch := omega) [g0, g1, ta, tb, la, lb, hc]); done)); try dsimp only)
      | ((with_reducible apply cndW_T); (focus (simp (disch := omega) [g0, g1, ta, tb, la, lb, hc] <;> omega)))
      | ((with_reducible apply cndW_F); (focus (simp (disch := omega) [g0, g1, ta, tb, la, lb, hc] <;> omega)))
      | (with_reducible apply wL_i)
      | (simp (decide := true) only [sn34, sqW_nrm, sqW_exit, sqW_ret, inBlk_nrm, inBlk_ret, inBlk_same, inBlk_exit, if_true, if_false, retW_nrm, retW_ret])
      | (with_reducible refine n34_18_w _ _ _ ?_))
    have : a ≠ b := by rintro rfl; exact hc rfl
    exact ⟨_, by simp [oneOrTuple, this]; rfl⟩

theorem c47 {h : Heap} {a b : Pas} {va vb : AV} (ra : Pts h va a.prf.s) (rb : Pts h vb b.prf.s) :
    SpecQ Try.prog 47 [ePa a va, ePa b vb] h fun r => r = (.bool (decide (a = b)), h) := by
  have ta := ra.cell
  have tb := rb.cell
  refine SpecQ.drop1 rfl (q47 fun env g0 g1 => ?_)
  repeat' (first
    | ((with_reducible apply evs_of); (focus ((conv => lhs; simp (disch := omega) [g0, g1, ta, tb]); done)); try dsimp only)
    | ((with_reducible apply gW_do); (focus (simp (disch := omega) [g0, g1, ta, tb]; done)))
    | ((with_reducible apply gW_no); (focus (simp (disch := omega) [g0, g1, ta, tb]; done)); try dsimp only)
    | ((with_reducible apply gW_un); (focus (simp (disch := omega) [g0, g1, ta, tb]; done)); try dsimp only)
    | (with_reducible refine SpecQ.step (c34 (ra.app _) (rb.app _)) ?_; rintro _ rfl; try dsimp only)
    | ((with_reducible apply SpecA_i); (focus ((conv => lhs; simp (disch := omega) [g0, g1, ta, tb]); done)))
    | (simp (decide := true) only [sn47, sqW_nrm, sqW_exit, sqW_ret, inBlk_nrm, inBlk_ret, inBlk_same, inBlk_exit, if_true, if_false, retW_nrm, retW_ret])
    | (with_reducible refine gv_split ?_ ?_ <;> (intro hb; try simp only [Bool.not_true, Bool.not_false] at hb) <;> try simp only [hb])
    | (with_reducible refine gW_split ?_ ?_ <;> (intro hb; try simp only [Bool.not_true, Bool.not_false] at hb) <;> try simp only [hb]))
  all_goals refine fin_b ?_
  all_goals (clear ra rb ta tb; cases a; cases b; simp_all)

theorem c29 {h : Heap} {a b : Shw} {va wa vb wb : AV} (ra : Pts h va a.pas.prf.s) (qa : Pts h wa a.tie.prf.s) (rb : Pts h vb b.pas.prf.s) (qb : Pts h wb b.tie.prf.s) :
    SpecQ Try.prog 29 [eSh a va wa, eSh b vb wb] h fun r => r = (.bool (decide (a = b)), h) := by
  have ta := ra.cell
  have tb := rb.cell
  have ua := qa.cell
  have ub := qb.cell
  refine SpecQ.drop1 rfl (q29 fun env g0 g1 => ?_)
  repeat' (first
    | ((with_reducible apply evs_of); (focus ((conv => lhs; simp (disch := omega) [g0, g1, ta, tb, ua, ub]); done)); try dsimp only)
    | ((with_reducible apply gW_do); (focus (simp (disch := omega) [g0, g1, ta, tb, ua, ub]; done)))
    | ((with_reducible apply gW_no); (focus (simp (disch := omega) [g0, g1, ta, tb, ua, ub]; done)); try dsimp only)
    | ((with_reducible apply gW_un); (focus (simp (disch := omega) [g0, g1, ta, tb, ua, ub]; done)); try dsimp only)
    | (with_reducible refine SpecQ.step (c47 (ra.app _) (rb.app _)) ?_; rintro _ rfl; try dsimp only)
    | (with_reducible refine SpecQ.step (c34 (qa.app _) (qb.app _)) ?_; rintro _ rfl; try dsimp only)
    | ((with_reducible apply SpecA_i); (focus ((conv => lhs; simp (disch := omega) [g0, g1, ta, tb, ua, ub]); done)))
    | (simp (decide := true) only [sn29, sqW_nrm, sqW_exit, sqW_ret, inBlk_nrm, inBlk_ret, inBlk_same, inBlk_exit, if_true, if_false, retW_nrm, retW_ret])
    | (with_reducible refine gv_split ?_ ?_ <;> (intro hb; try simp only [Bool.not_true, Bool.not_false] at hb) <;> try simp only [hb])
    | (with_reducible refine gW_split ?_ ?_ <;> (intro hb; try simp only [Bool.not_true, Bool.not_false] at hb) <;> try simp only [hb]))
  all_goals refine fin_b ?_
  all_goals (clear ra rb qa qb ta tb ua ub; rcases a with ⟨a, c, d⟩; rcases b with ⟨b, e, f⟩; simp_all)

theorem c30 {h : Heap} {a b : Vou} {va vb : AV} (ra : Pts h va a.prf.s) (rb : Pts h vb b.prf.s) :
    SpecQ Try.prog 30 [eVo a va, eVo b vb] h fun r => r = (.bool (decide (a = b)), h) := by
  have ta := ra.cell
  have tb := rb.cell
  refine SpecQ.drop1 rfl (q30 fun env g0 g1 => ?_)
  repeat' (first
    | ((with_reducible apply evs_of); (focus ((conv => lhs; simp (disch := omega) [g0, g1, ta, tb]); done)); try dsimp only)
    | ((with_reducible apply gW_do); (focus (simp (disch := omega) [g0, g1, ta, tb]; done)))
    | ((with_reducible apply gW_no); (focus (simp (disch := omega) [g0, g1, ta, tb]; done)); try dsimp only)
    | ((with_reducible apply gW_un); (focus (simp (disch := omega) [g0, g1, ta, tb]; done)); try dsimp only)
    | (with_reducible refine SpecQ.step (c34 (ra.app _) (rb.app _)) ?_; rintro _ rfl; try dsimp only)
    | ((with_reducible apply SpecA_i); (focus ((conv => lhs; simp (disch := omega) [g0, g1, ta, tb]); done)))
    | (simp (decide := true) only [sn30, sqW_nrm, sqW_exit, sqW_ret, inBlk_nrm, inBlk_ret, inBlk_same, inBlk_exit, if_true, if_false, retW_nrm, retW_ret])
    | (with_reducible refine gv_split ?_ ?_ <;> (intro hb; try simp only [Bool.not_true, Bool.not_false] at hb) <;> try simp only [hb])
    | (with_reducible refine gW_split ?_ ?_ <;> (intro hb; try simp only [Bool.not_true, Bool.not_false] at hb) <;> try simp only [hb]))
  all_goals refine fin_b ?_
  all_goals (clear ra rb ta tb; cases a; cases b; simp_all)

end Go.Vab

/- How the code of a function is read. Printed by wip/tools/gen2.py (own work). -/
namespace Go.Vab
open Go Go.Proofs
/-! bytes.Equal -/
def cx23 : Ctx := ⟨fun _ _ _ => none, TT, 10, [5, 6, 7, 8, 9]⟩
noncomputable def n23_0 : Code := bodyOf Try.f23
noncomputable def n23_1 : Code := cR n23_0
noncomputable def n23_2 : Code := cR n23_1
theorem n23_2_eq (Q : Ex × St → Prop) (s : St) : wC Try.prog cx23 n23_2 Q s = Q (.ret, s) := yE
theorem n23_1_eq (Q : Ex × St → Prop) (env : Env) (h : Heap) : wC Try.prog cx23 n23_1 Q ⟨env, h⟩ = (Evs (mStr (env.get 0) h) fun v1 => Evs (mStr (env.get 1) h) fun v3 => Evs (mBinT .eql v1 v3) fun v4 => wC Try.prog cx23 n23_2 Q ⟨(Env.put env 4 v4), h⟩) := (ySR 1 (cOps (cL n23_1)) (cR n23_1)).trans (by
  refine w0 ?_
  refine wT 5 (env.get 0) ?_
  refine wP 6 fun v1 => ?_
  refine wT 7 (env.get 1) ?_
  refine wP 8 fun v3 => ?_
  refine wP 9 fun v4 => ?_
  refine wT 4 v4 ?_
  exact wE)
theorem n23_0_eq (Q : Ex × St → Prop) (env : Env) (h : Heap) : wC Try.prog cx23 n23_0 Q ⟨env, h⟩ = ( wC Try.prog cx23 n23_1 Q ⟨(Env.put env 4 (.bool false)), h⟩) := (ySR 0 (cOps (cL n23_0)) (cR n23_0)).trans (by
  refine w0 ?_
  refine wT 4 (.bool false) ?_
  exact wE)
theorem fn23 : Try.prog.funcs[23]? = some Try.f23 := by kernel_rfl
theorem q23 {a0 a1 : AV} {h : Heap} {K : AV × Heap → Prop} (H : ∀ env : Env, env.get 0 = a0 → env.get 1 = a1 → wC Try.prog cx23 n23_0 (retW (fun s => (bnd (some (s.env.get 4)) fun v => bnd (some []) fun vs => some (v :: vs))) K) ⟨env, h⟩) : SpecQ Try.prog 23 [a0, a1] h K :=
  bodyW_sound (C := cx23) TT_ok mixed_ok fn23 (by kernel_rfl) (show _ = some n23_0 by kernel_rfl) (by kernel_rfl) (by kernel_rfl) (of_decide_eq_true (by kernel_rfl)) ((show wC Try.prog cx23 n23_0 (retW (fun s => resAll cx23 s Try.f23.results.toList) K) ⟨env0 cx23 [a0, a1], h⟩ = wC Try.prog cx23 n23_0 (retW (fun s => (bnd (some (s.env.get 4)) fun v => bnd (some []) fun vs => some (v :: vs))) K) ⟨[(0, a0), (1, a1), (2, .junk), (3, .junk), (4, .junk)], h⟩ by kernel_rfl).mpr (H [(0, a0), (1, a1), (2, .junk), (3, .junk), (4, .junk)] rfl rfl))
def sn23 := And.intro n23_2_eq (And.intro n23_1_eq (n23_0_eq))
-- draws: 
end Go.Vab

/-
  bytes.Equal, walked.
-/
namespace Go.Vab
open Go Go.Proofs

theorem c23 {h : Heap} {x y : AV} {a b : Bs} (hx : BytL h x a) (hy : BytL h y b) : SpecQ Try.prog 23 [x, y] h fun r => r = (.bool (decide (a = b)), h) := by
  have sx := hx.str
  have sy := hy.str
  refine SpecQ.drop1 rfl (q23 fun env g0 g1 => ?_)
  repeat' (first
    | ((with_reducible apply evs_of); (focus ((conv => lhs; simp (disch := omega) [g0, g1, sx, sy]); done)); try dsimp only)
    | (simp (decide := true) only [sn23, sqW_nrm, sqW_exit, sqW_ret, inBlk_nrm, inBlk_ret, inBlk_same, inBlk_exit, if_true, if_false, retW_nrm, retW_ret]))
  exact ⟨[], by simp [oneOrTuple]⟩

end Go.Vab

/- How the code of a function is read. Printed by wip/tools/gen2.py (own work). -/
namespace Go.Vab
open Go Go.Proofs
/-! vestry/forms.SameAction -/
def cx10 : Ctx := ⟨fun _ _ _ => none, TT, 59, [5, 6, 7, 8, 9, 10, 11, 12, 13, 14, 15, 16, 17, 18, 19, 20, 21, 22, 23, 24, 25, 26, 27, 28, 29, 30, 31, 32, 33, 34, 35, 36, 37, 38, 39, 40, 41, 42, 43, 44, 45, 46, 47, 48, 49, 50, 51, 52, 53, 54, 55, 56, 57, 58]⟩
noncomputable def n10_0 : Code := bodyOf Try.f10
noncomputable def n10_1 : Code := cR n10_0
noncomputable def n10_2 : Code := cR n10_1
theorem n10_2_eq (Q : Ex × St → Prop) (s : St) : wC Try.prog cx10 n10_2 Q s = Q (.ret, s) := yE
theorem n10_1_eq (Q : Ex × St → Prop) (env : Env) (h : Heap) : wC Try.prog cx10 n10_1 Q ⟨env, h⟩ = (Evs (mFieldAddr tAction (env.get 2) 0) fun v0 => Evs (mLoad (.int .u32) v0 h) fun v1 => Evs (mFieldAddr tAction (env.get 3) 0) fun v2 => Evs (mLoad (.int .u32) v2 h) fun v3 => Evs (mBin .eql v1 v3) fun v4 => Evs (gv v4 true (mFieldAddr tAction (env.get 2) 1)) fun v6 => Evs (gv v4 true (mLoad (.int .u8) v6 h)) fun v7 => Evs (gv v4 true (mFieldAddr tAction (env.get 3) 1)) fun v8 => Evs (gv v4 true (mLoad (.int .u8) v8 h)) fun v9 => Evs (gv v4 true (mBin .eql v7 v9)) fun v10 => Evs (mPick v4 v10 (.bool false)) fun v11 => Evs (gv v11 true (mFieldAddr tAction (env.get 2) 2)) fun v13 => Evs (gv v11 true (mLoad tCipher v13 h)) fun v14 => Evs (gv v11 true (mFieldAddr tAction (env.get 3) 2)) fun v15 => Evs (gv v11 true (mLoad tCipher v15 h)) fun v16 => Evs (gv v11 true (mEq tCipher .eql v14 v16)) fun v17 => Evs (mPick v11 v17 (.bool false)) fun v18 => Evs (gv v18 true (mFieldAddr tAction (env.get 2) 3)) fun v20 => Evs (gv v18 true (mLoad (.arr 32 (.int .u8)) v20 h)) fun v21 => Evs (gv v18 true (mFieldAddr tAction (env.get 3) 3)) fun v22 => Evs (gv v18 true (mLoad (.arr 32 (.int .u8)) v22 h)) fun v23 => Evs (gv v18 true (mEq (.arr 32 (.int .u8)) .eql v21 v23)) fun v24 => Evs (mPick v18 v24 (.bool false)) fun v25 => Evs (gv v25 true (mFieldAddr tAction (env.get 2) 4)) fun v27 => Evs (gv v25 true (mLoad (.int .u8) v27 h)) fun v28 => Evs (gv v25 true (mFieldAddr tAction (env.get 3) 4)) fun v29 => Evs (gv v25 true (mLoad (.int .u8) v29 h)) fun v30 => Evs (gv v25 true (mBin .eql v28 v30)) fun v31 => Evs (mPick v25 v31 (.bool false)) fun v32 => Evs (gv v32 true (mFieldAddr tAction (env.get 2) 5)) fun v34 => Evs (gv v32 true (mLoad .cell v34 h)) fun v35 => Evs (gv v32 true (mFieldAddr tAction (env.get 3) 5)) fun v36 => Evs (gv v32 true (mLoad .cell v36 h)) fun v37 => gW v32 true (SpecA Try.prog 23 [v35, v37] h) h fun r38 => Evs (mPick v32 r38.1 (.bool false)) fun v39 => Evs (gv v39 true (mFieldAddr tAction (env.get 2) 6)) fun v41 => Evs (gv v39 true (mLoad tAccess v41 r38.2)) fun v42 => Evs (gv v39 true (mFieldAddr tAction (env.get 3) 6)) fun v43 => Evs (gv v39 true (mLoad tAccess v43 r38.2)) fun v44 => Evs (gv v39 true (mEq tAccess .eql v42 v44)) fun v45 => Evs (mPick v39 v45 (.bool false)) fun v46 => Evs (gv v46 true (mFieldAddr tAction (env.get 2) 7)) fun v48 => Evs (gv v46 true (mLoad .cell v48 r38.2)) fun v49 => Evs (gv v46 true (mFieldAddr tAction (env.get 3) 7)) fun v50 => Evs (gv v46 true (mLoad .cell v50 r38.2)) fun v51 => gW v46 true (SpecA Try.prog 23 [v49, v51] r38.2) r38.2 fun r52 => Evs (mPick v46 r52.1 (.bool false)) fun v53 => wC Try.prog cx10 n10_2 Q ⟨(Env.put env 4 v53), r52.2⟩) := (ySR 1 (cOps (cL n10_1)) (cR n10_1)).trans (by
  refine w0 ?_
  refine wP 5 fun v0 => ?_
  refine wP 6 fun v1 => ?_
  refine wP 7 fun v2 => ?_
  refine wP 8 fun v3 => ?_
  refine wP 9 fun v4 => ?_
  refine wT 10 v4 ?_
  refine wG 11 fun v6 => ?_
  refine wG 12 fun v7 => ?_
  refine wG 13 fun v8 => ?_
  refine wG 14 fun v9 => ?_
  refine wG 15 fun v10 => ?_
  refine wP 16 fun v11 => ?_
  refine wT 17 v11 ?_
  refine wG 18 fun v13 => ?_
  refine wG 19 fun v14 => ?_
  refine wG 20 fun v15 => ?_
  refine wG 21 fun v16 => ?_
  refine wG 22 fun v17 => ?_
  refine wP 23 fun v18 => ?_
  refine wT 24 v18 ?_
  refine wG 25 fun v20 => ?_
  refine wG 26 fun v21 => ?_
  refine wG 27 fun v22 => ?_
  refine wG 28 fun v23 => ?_
  refine wG 29 fun v24 => ?_
  refine wP 30 fun v25 => ?_
  refine wT 31 v25 ?_
  refine wG 32 fun v27 => ?_
  refine wG 33 fun v28 => ?_
  refine wG 34 fun v29 => ?_
  refine wG 35 fun v30 => ?_
  refine wG 36 fun v31 => ?_
  refine wP 37 fun v32 => ?_
  refine wT 38 v32 ?_
  refine wG 39 fun v34 => ?_
  refine wG 40 fun v35 => ?_
  refine wG 41 fun v36 => ?_
  refine wG 42 fun v37 => ?_
  refine wH 43 fun r38 => ?_
  refine wP 44 fun v39 => ?_
  refine wT 45 v39 ?_
  refine wG 46 fun v41 => ?_
  refine wG 47 fun v42 => ?_
  refine wG 48 fun v43 => ?_
  refine wG 49 fun v44 => ?_
  refine wG 50 fun v45 => ?_
  refine wP 51 fun v46 => ?_
  refine wT 52 v46 ?_
  refine wG 53 fun v48 => ?_
  refine wG 54 fun v49 => ?_
  refine wG 55 fun v50 => ?_
  refine wG 56 fun v51 => ?_
  refine wH 57 fun r52 => ?_
  refine wP 58 fun v53 => ?_
  refine wT 4 v53 ?_
  exact wE)
theorem n10_0_eq (Q : Ex × St → Prop) (env : Env) (h : Heap) : wC Try.prog cx10 n10_0 Q ⟨env, h⟩ = (Evs (mNew tAction (env.get 0) h) fun r0 => Evs (mNew tAction (env.get 1) r0.2) fun r1 => wC Try.prog cx10 n10_1 Q ⟨(Env.put (Env.put (Env.put env 2 r0.1) 3 r1.1) 4 (.bool false)), r1.2⟩) := (ySR 0 (cOps (cL n10_0)) (cR n10_0)).trans (by
  refine w0 ?_
  refine wH 2 fun r0 => ?_
  refine wH 3 fun r1 => ?_
  refine wT 4 (.bool false) ?_
  exact wE)
theorem fn10 : Try.prog.funcs[10]? = some Try.f10 := by kernel_rfl
theorem q10 {a0 a1 : AV} {h : Heap} {K : AV × Heap → Prop} (H : ∀ env : Env, env.get 0 = a0 → env.get 1 = a1 → wC Try.prog cx10 n10_0 (retW (fun s => (bnd (some (s.env.get 4)) fun v => bnd (some []) fun vs => some (v :: vs))) K) ⟨env, h⟩) : SpecQ Try.prog 10 [a0, a1] h K :=
  bodyW_sound (C := cx10) TT_ok mixed_ok fn10 (by kernel_rfl) (show _ = some n10_0 by kernel_rfl) (by kernel_rfl) (by kernel_rfl) (of_decide_eq_true (by kernel_rfl)) ((show wC Try.prog cx10 n10_0 (retW (fun s => resAll cx10 s Try.f10.results.toList) K) ⟨env0 cx10 [a0, a1], h⟩ = wC Try.prog cx10 n10_0 (retW (fun s => (bnd (some (s.env.get 4)) fun v => bnd (some []) fun vs => some (v :: vs))) K) ⟨[(0, a0), (1, a1), (2, .junk), (3, .junk), (4, .junk)], h⟩ by kernel_rfl).mpr (H [(0, a0), (1, a1), (2, .junk), (3, .junk), (4, .junk)] rfl rfl))
def sn10 := And.intro n10_2_eq (And.intro n10_1_eq (n10_0_eq))
-- draws: 
end Go.Vab

/- How the code of a function is read. Printed by wip/tools/gen2.py (own work). -/
namespace Go.Vab
open Go Go.Proofs
/-! vestry/vestrylaw18.large -/
def cx6 : Ctx := ⟨fun _ _ _ => none, TT, 33, [4, 5, 6, 7, 8, 9, 10, 11, 12, 13, 14, 15, 16, 17, 18, 19, 20, 21, 22, 23, 24, 25, 26, 27, 28, 29, 30, 31, 32]⟩
noncomputable def n6_0 : Code := bodyOf Try.f6
noncomputable def n6_1 : Code := cR n6_0
noncomputable def n6_2 : Code := cR n6_1
noncomputable def n6_3 : Code := cR n6_2
theorem n6_3_eq (Q : Ex × St → Prop) (s : St) : wC Try.prog cx6 n6_3 Q s = Q (.ret, s) := yE
theorem n6_2_eq (Q : Ex × St → Prop) (env : Env) (h : Heap) : wC Try.prog cx6 n6_2 Q ⟨env, h⟩ = (Evs (mBin .gtr (env.get 3) (nat 400)) fun v1 => Evs (gv v1 false (mFieldAddr tState (env.get 1) 2)) fun v3 => Evs (gv v1 false (mLoad .cell v3 h)) fun v4 => Evs (gv v1 false (mLenS v4)) fun v5 => Evs (gv v1 false (mBin .gtr v5 (nat 5000))) fun v6 => Evs (mPick v1 (.bool true) v6) fun v7 => Evs (gv v7 false (mFieldAddr tState (env.get 1) 4)) fun v9 => Evs (gv v7 false (mLoad .cell v9 h)) fun v10 => Evs (gv v7 false (mLenS v10)) fun v11 => Evs (gv v7 false (mBin .gtr v11 (nat 5000))) fun v12 => Evs (mPick v7 (.bool true) v12) fun v13 => wC Try.prog cx6 n6_3 Q ⟨(Env.put env 2 v13), h⟩) := (ySR 2 (cOps (cL n6_2)) (cR n6_2)).trans (by
  refine w0 ?_
  refine wT 19 (env.get 3) ?_
  refine wP 20 fun v1 => ?_
  refine wT 21 v1 ?_
  refine wG 22 fun v3 => ?_
  refine wG 23 fun v4 => ?_
  refine wG 24 fun v5 => ?_
  refine wG 25 fun v6 => ?_
  refine wP 26 fun v7 => ?_
  refine wT 27 v7 ?_
  refine wG 28 fun v9 => ?_
  refine wG 29 fun v10 => ?_
  refine wG 30 fun v11 => ?_
  refine wG 31 fun v12 => ?_
  refine wP 32 fun v13 => ?_
  refine wT 2 v13 ?_
  exact wE)
theorem n6_1_eq (Q : Ex × St → Prop) (env : Env) (h : Heap) : wC Try.prog cx6 n6_1 Q ⟨env, h⟩ = (Evs (mFieldAddr tState (env.get 1) 5) fun v0 => Evs (mLoad .cell v0 h) fun v1 => Evs (mLenS v1) fun v2 => Evs (mFieldAddr tState (env.get 1) 6) fun v3 => Evs (mLoad .cell v3 h) fun v4 => Evs (mLenS v4) fun v5 => Evs (mBin .add v2 v5) fun v6 => Evs (mFieldAddr tState (env.get 1) 7) fun v7 => Evs (mLoad .cell v7 h) fun v8 => Evs (mLenS v8) fun v9 => Evs (mBin .add v6 v9) fun v10 => Evs (mFieldAddr tState (env.get 1) 8) fun v11 => Evs (mLoad .cell v11 h) fun v12 => Evs (mLenS v12) fun v13 => Evs (mBin .add v10 v13) fun v14 => wC Try.prog cx6 n6_2 Q ⟨(Env.put env 3 v14), h⟩) := (ySR 1 (cOps (cL n6_1)) (cR n6_1)).trans (by
  refine w0 ?_
  refine wP 4 fun v0 => ?_
  refine wP 5 fun v1 => ?_
  refine wP 6 fun v2 => ?_
  refine wP 7 fun v3 => ?_
  refine wP 8 fun v4 => ?_
  refine wP 9 fun v5 => ?_
  refine wP 10 fun v6 => ?_
  refine wP 11 fun v7 => ?_
  refine wP 12 fun v8 => ?_
  refine wP 13 fun v9 => ?_
  refine wP 14 fun v10 => ?_
  refine wP 15 fun v11 => ?_
  refine wP 16 fun v12 => ?_
  refine wP 17 fun v13 => ?_
  refine wP 18 fun v14 => ?_
  refine wT 3 v14 ?_
  exact wE)
theorem n6_0_eq (Q : Ex × St → Prop) (env : Env) (h : Heap) : wC Try.prog cx6 n6_0 Q ⟨env, h⟩ = (Evs (mNew tState (env.get 0) h) fun r0 => wC Try.prog cx6 n6_1 Q ⟨(Env.put (Env.put env 1 r0.1) 2 (.bool false)), r0.2⟩) := (ySR 0 (cOps (cL n6_0)) (cR n6_0)).trans (by
  refine w0 ?_
  refine wH 1 fun r0 => ?_
  refine wT 2 (.bool false) ?_
  exact wE)
theorem fn6 : Try.prog.funcs[6]? = some Try.f6 := by kernel_rfl
theorem q6 {a0 : AV} {h : Heap} {K : AV × Heap → Prop} (H : ∀ env : Env, env.get 0 = a0 → wC Try.prog cx6 n6_0 (retW (fun s => (bnd (some (s.env.get 2)) fun v => bnd (some []) fun vs => some (v :: vs))) K) ⟨env, h⟩) : SpecQ Try.prog 6 [a0] h K :=
  bodyW_sound (C := cx6) TT_ok mixed_ok fn6 (by kernel_rfl) (show _ = some n6_0 by kernel_rfl) (by kernel_rfl) (by kernel_rfl) (of_decide_eq_true (by kernel_rfl)) ((show wC Try.prog cx6 n6_0 (retW (fun s => resAll cx6 s Try.f6.results.toList) K) ⟨env0 cx6 [a0], h⟩ = wC Try.prog cx6 n6_0 (retW (fun s => (bnd (some (s.env.get 2)) fun v => bnd (some []) fun vs => some (v :: vs))) K) ⟨[(0, a0), (1, .junk), (2, .junk), (3, .junk)], h⟩ by kernel_rfl).mpr (H [(0, a0), (1, .junk), (2, .junk), (3, .junk)] rfl))
def sn6 := And.intro n6_3_eq (And.intro n6_2_eq (And.intro n6_1_eq (n6_0_eq)))
-- draws: 
end Go.Vab

/-
  forms.SameAction and 'large', walked.
-/
namespace Go.Vab
open Go Go.Proofs

theorem c10 {h : Heap} {a b : Actn} {at_ ap bt bp : AV} (ra : ActR h a at_ ap) (rb : ActR h b bt bp) :
    SpecQ Try.prog 10 [eAct a at_ ap, eAct b bt bp] h fun r => r = (.bool (decide (a = b)), h) := by
  have ta := ra.cells
  have tb := rb.cells
  refine SpecQ.drop1 rfl (q10 fun env g0 g1 => ?_)
  repeat' (first
    | ((with_reducible apply evs_of); (focus ((conv => lhs; simp (disch := omega) [g0, g1, ta, tb]); done)); try dsimp only)
    | ((with_reducible apply gW_do); (focus (simp (disch := omega) [g0, g1, ta, tb]; done)))
    | ((with_reducible apply gW_no); (focus (simp (disch := omega) [g0, g1, ta, tb]; done)); try dsimp only)
    | ((with_reducible apply gW_un); (focus (simp (disch := omega) [g0, g1, ta, tb]; done)); try dsimp only)
    | (with_reducible refine SpecQ.step (c23 (ra.t.app _) (rb.t.app _)) ?_; rintro _ rfl; try dsimp only)
    | (with_reducible refine SpecQ.step (c23 (ra.p.app _) (rb.p.app _)) ?_; rintro _ rfl; try dsimp only)
    | ((with_reducible apply SpecA_i); (focus ((conv => lhs; simp (disch := omega) [g0, g1, ta, tb]); done)))
    | (simp (decide := true) only [sn10, sqW_nrm, sqW_exit, sqW_ret, inBlk_nrm, inBlk_ret, inBlk_same, inBlk_exit, if_true, if_false, retW_nrm, retW_ret])
    | (with_reducible refine gv_split ?_ ?_ <;> (intro hb; try simp only [Bool.not_true, Bool.not_false] at hb) <;> try simp only [hb])
    | (with_reducible refine gW_split ?_ ?_ <;> (intro hb; try simp only [Bool.not_true, Bool.not_false] at hb) <;> try simp only [hb]))
  all_goals refine fin_b ?_
  all_goals (clear ra rb ta tb; cases a; cases b; simp_all)

def largeS (s : Stt) : Bool := decide (400 < s.seats.length + s.invites.length + s.asks.length + s.bans.length) || decide (5000 < s.title.length) || decide (5000 < s.pass.length)
theorem c6 {h : Heap} {a : Stt} {at_ ap as_ ai aa ab : AV} (ra : StR h a at_ ap as_ ai aa ab) :
    SpecQ Try.prog 6 [eSt a at_ ap as_ ai aa ab] h fun r => r = (.bool (largeS a), h) := by
  have ta := ra.cells
  have l1 := ra.ft.len
  have l2 := ra.fp.len
  have l3 := ra.fs.len
  have l4 := ra.fi.len
  have l5 := ra.fa.len
  have l6 := ra.fb.len
  have b3 := ra.fs.bound
  have b4 := ra.fi.bound
  have b5 := ra.fa.bound
  have b6 := ra.fb.bound
  simp only [List.length_map] at l3 l4 l5 l6 b3 b4 b5 b6
  refine SpecQ.drop1 rfl (q6 fun env g0 => ?_)
  repeat' (first
    | ((with_reducible apply evs_of); (focus ((conv => lhs; simp (disch := omega) [g0, ta, l1, l2, l3, l4, l5, l6]); done)); try dsimp only)
    | (simp (decide := true) only [sn6, sqW_nrm, sqW_exit, sqW_ret, inBlk_nrm, inBlk_ret, inBlk_same, inBlk_exit, if_true, if_false, retW_nrm, retW_ret])
    | (with_reducible refine gv_split ?_ ?_ <;> (intro hb; try simp only [Bool.not_true, Bool.not_false] at hb) <;> try simp only [hb]))
  all_goals refine fin_b ?_
  all_goals (clear ra ta l1 l2 l3 l4 l5 l6; unfold largeS; rw [Bool.eq_iff_iff]; simp only [Bool.or_eq_true, decide_eq_true_eq, decide_eq_false_iff_not, reduceCtorEq, false_iff, true_iff] at *; omega)

end Go.Vab

/- How the code of a function is read. Printed by wip/tools/gen2.py (own work). -/
namespace Go.Vab
open Go Go.Proofs
/-! vestry/vestrylaw18.wide -/
def cx13 : Ctx := ⟨fun _ _ _ => none, TT, 43, [3, 4, 5, 6, 7, 8, 9, 10, 11, 12, 13, 14, 15, 16, 17, 18, 19, 20, 21, 22, 23, 24, 25, 26, 27, 28, 29, 30, 31, 32, 33, 34, 35, 36, 37, 38, 39, 40, 41, 42]⟩
noncomputable def n13_0 : Code := bodyOf Try.f13
noncomputable def n13_1 : Code := cR n13_0
noncomputable def n13_2 : Code := cR n13_1
theorem n13_2_eq (Q : Ex × St → Prop) (s : St) : wC Try.prog cx13 n13_2 Q s = Q (.ret, s) := yE
theorem n13_1_eq (Q : Ex × St → Prop) (env : Env) (h : Heap) : wC Try.prog cx13 n13_1 Q ⟨env, h⟩ = (Evs (mFieldAddr tRequest (env.get 1) 4) fun v0 => Evs (mLoad .cell v0 h) fun v1 => Evs (mLenS v1) fun v2 => Evs (mFieldAddr tRequest (env.get 1) 7) fun v3 => Evs (mLoad .cell v3 h) fun v4 => Evs (mLenS v4) fun v5 => Evs (mBin .add v2 v5) fun v6 => Evs (mFieldAddr tRequest (env.get 1) 8) fun v7 => Evs (mFieldAddr tAction v7 5) fun v8 => Evs (mLoad .cell v8 h) fun v9 => Evs (mLenS v9) fun v10 => Evs (mBin .add v6 v10) fun v11 => Evs (mFieldAddr tRequest (env.get 1) 8) fun v12 => Evs (mFieldAddr tAction v12 7) fun v13 => Evs (mLoad .cell v13 h) fun v14 => Evs (mLenS v14) fun v15 => Evs (mBin .add v11 v15) fun v16 => Evs (mBin .gtr v16 (nat 20000)) fun v17 => Evs (gv v17 false (mFieldAddr tRequest (env.get 1) 10)) fun v19 => Evs (gv v17 false (mFieldAddr tShown v19 0)) fun v20 => Evs (gv v17 false (mFieldAddr tPass v20 3)) fun v21 => Evs (gv v17 false (mFieldAddr tProof v21 1)) fun v22 => Evs (gv v17 false (mLoad .cell v22 h)) fun v23 => Evs (gv v17 false (mLenS v23)) fun v24 => Evs (gv v17 false (mFieldAddr tRequest (env.get 1) 10)) fun v25 => Evs (gv v17 false (mFieldAddr tShown v25 1)) fun v26 => Evs (gv v17 false (mFieldAddr tTied v26 1)) fun v27 => Evs (gv v17 false (mFieldAddr tProof v27 1)) fun v28 => Evs (gv v17 false (mLoad .cell v28 h)) fun v29 => Evs (gv v17 false (mLenS v29)) fun v30 => Evs (gv v17 false (mBin .add v24 v30)) fun v31 => Evs (gv v17 false (mFieldAddr tRequest (env.get 1) 11)) fun v32 => Evs (gv v17 false (mFieldAddr tVoucher v32 5)) fun v33 => Evs (gv v17 false (mFieldAddr tProof v33 1)) fun v34 => Evs (gv v17 false (mLoad .cell v34 h)) fun v35 => Evs (gv v17 false (mLenS v35)) fun v36 => Evs (gv v17 false (mBin .add v31 v36)) fun v37 => Evs (gv v17 false (mBin .gtr v37 (nat 200))) fun v38 => Evs (mPick v17 (.bool true) v38) fun v39 => wC Try.prog cx13 n13_2 Q ⟨(Env.put env 2 v39), h⟩) := (ySR 1 (cOps (cL n13_1)) (cR n13_1)).trans (by
  refine w0 ?_
  refine wP 3 fun v0 => ?_
  refine wP 4 fun v1 => ?_
  refine wP 5 fun v2 => ?_
  refine wP 6 fun v3 => ?_
  refine wP 7 fun v4 => ?_
  refine wP 8 fun v5 => ?_
  refine wP 9 fun v6 => ?_
  refine wP 10 fun v7 => ?_
  refine wP 11 fun v8 => ?_
  refine wP 12 fun v9 => ?_
  refine wP 13 fun v10 => ?_
  refine wP 14 fun v11 => ?_
  refine wP 15 fun v12 => ?_
  refine wP 16 fun v13 => ?_
  refine wP 17 fun v14 => ?_
  refine wP 18 fun v15 => ?_
  refine wP 19 fun v16 => ?_
  refine wP 20 fun v17 => ?_
  refine wT 21 v17 ?_
  refine wG 22 fun v19 => ?_
  refine wG 23 fun v20 => ?_
  refine wG 24 fun v21 => ?_
  refine wG 25 fun v22 => ?_
  refine wG 26 fun v23 => ?_
  refine wG 27 fun v24 => ?_
  refine wG 28 fun v25 => ?_
  refine wG 29 fun v26 => ?_
  refine wG 30 fun v27 => ?_
  refine wG 31 fun v28 => ?_
  refine wG 32 fun v29 => ?_
  refine wG 33 fun v30 => ?_
  refine wG 34 fun v31 => ?_
  refine wG 35 fun v32 => ?_
  refine wG 36 fun v33 => ?_
  refine wG 37 fun v34 => ?_
  refine wG 38 fun v35 => ?_
  refine wG 39 fun v36 => ?_
  refine wG 40 fun v37 => ?_
  refine wG 41 fun v38 => ?_
  refine wP 42 fun v39 => ?_
  refine wT 2 v39 ?_
  exact wE)
theorem n13_0_eq (Q : Ex × St → Prop) (env : Env) (h : Heap) : wC Try.prog cx13 n13_0 Q ⟨env, h⟩ = (Evs (mNew tRequest (env.get 0) h) fun r0 => wC Try.prog cx13 n13_1 Q ⟨(Env.put (Env.put env 1 r0.1) 2 (.bool false)), r0.2⟩) := (ySR 0 (cOps (cL n13_0)) (cR n13_0)).trans (by
  refine w0 ?_
  refine wH 1 fun r0 => ?_
  refine wT 2 (.bool false) ?_
  exact wE)
theorem fn13 : Try.prog.funcs[13]? = some Try.f13 := by kernel_rfl
theorem q13 {a0 : AV} {h : Heap} {K : AV × Heap → Prop} (H : ∀ env : Env, env.get 0 = a0 → wC Try.prog cx13 n13_0 (retW (fun s => (bnd (some (s.env.get 2)) fun v => bnd (some []) fun vs => some (v :: vs))) K) ⟨env, h⟩) : SpecQ Try.prog 13 [a0] h K :=
  bodyW_sound (C := cx13) TT_ok mixed_ok fn13 (by kernel_rfl) (show _ = some n13_0 by kernel_rfl) (by kernel_rfl) (by kernel_rfl) (of_decide_eq_true (by kernel_rfl)) ((show wC Try.prog cx13 n13_0 (retW (fun s => resAll cx13 s Try.f13.results.toList) K) ⟨env0 cx13 [a0], h⟩ = wC Try.prog cx13 n13_0 (retW (fun s => (bnd (some (s.env.get 2)) fun v => bnd (some []) fun vs => some (v :: vs))) K) ⟨[(0, a0), (1, .junk), (2, .junk)], h⟩ by kernel_rfl).mpr (H [(0, a0), (1, .junk), (2, .junk)] rfl))
def sn13 := And.intro n13_2_eq (And.intro n13_1_eq (n13_0_eq))
-- draws: 
end Go.Vab

/- How the code of a function is read. Printed by wip/tools/gen2.py (own work). -/
namespace Go.Vab
open Go Go.Proofs
/-! vestry/forms.SameRequest -/
def cx15 : Ctx := ⟨fun _ _ _ => none, TT, 179, [9, 10, 11, 12, 13, 14, 15, 16, 17, 18, 19, 20, 21, 22, 23, 24, 25, 26, 27, 28, 29, 30, 31, 32, 33, 34, 35, 36, 37, 38, 39, 40, 41, 42, 43, 44, 45, 46, 47, 48, 49, 50, 51, 52, 53, 54, 55, 56, 57, 58, 59, 60, 61, 62, 63, 64, 65, 66, 67, 68, 69, 70, 71, 72, 73, 74, 75, 76, 77, 78, 79, 80, 81, 82, 83, 84, 85, 86, 87, 88, 89, 90, 91, 92, 93, 94, 95, 96, 97, 98, 99, 100, 101, 102, 103, 104, 105, 106, 107, 108, 109, 110, 111, 112, 113, 114, 115, 116, 117, 118, 119, 120, 121, 122, 123, 124, 125, 126, 127, 128, 129, 130, 131, 132, 133, 134, 135, 136, 137, 138, 139, 140, 141, 142, 143, 144, 145, 146, 147, 148, 149, 150, 151, 152, 153, 154, 155, 156, 157, 158, 159, 160, 161, 162, 163, 164, 165, 166, 167, 168, 169, 170, 171, 172, 173, 174, 175, 176, 177, 178]⟩
noncomputable def n15_0 : Code := bodyOf Try.f15
noncomputable def n15_1 : Code := cR n15_0
noncomputable def n15_2 : Code := cR n15_1
noncomputable def n15_3 : Code := cR n15_2
noncomputable def n15_4 : Code := cR n15_3
theorem n15_4_eq (Q : Ex × St → Prop) (s : St) : wC Try.prog cx15 n15_4 Q s = Q (.ret, s) := yE
theorem n15_3_eq (Q : Ex × St → Prop) (env : Env) (h : Heap) : wC Try.prog cx15 n15_3 Q ⟨env, h⟩ = (Evs (mFieldAddr tRequest (env.get 2) 0) fun v0 => Evs (mLoad (.int .u8) v0 h) fun v1 => Evs (mFieldAddr tRequest (env.get 3) 0) fun v2 => Evs (mLoad (.int .u8) v2 h) fun v3 => Evs (mBin .eql v1 v3) fun v4 => Evs (gv v4 true (mFieldAddr tRequest (env.get 2) 1)) fun v6 => Evs (gv v4 true (mLoad (.arr 16 (.int .u8)) v6 h)) fun v7 => Evs (gv v4 true (mFieldAddr tRequest (env.get 3) 1)) fun v8 => Evs (gv v4 true (mLoad (.arr 16 (.int .u8)) v8 h)) fun v9 => Evs (gv v4 true (mEq (.arr 16 (.int .u8)) .eql v7 v9)) fun v10 => Evs (mPick v4 v10 (.bool false)) fun v11 => Evs (gv v11 true (mFieldAddr tRequest (env.get 2) 2)) fun v13 => Evs (gv v11 true (mLoad (.int .u32) v13 h)) fun v14 => Evs (gv v11 true (mFieldAddr tRequest (env.get 3) 2)) fun v15 => Evs (gv v11 true (mLoad (.int .u32) v15 h)) fun v16 => Evs (gv v11 true (mBin .eql v14 v16)) fun v17 => Evs (mPick v11 v17 (.bool false)) fun v18 => Evs (gv v18 true (mFieldAddr tRequest (env.get 2) 3)) fun v20 => Evs (gv v18 true (mLoad tPublic v20 h)) fun v21 => Evs (gv v18 true (mFieldAddr tRequest (env.get 3) 3)) fun v22 => Evs (gv v18 true (mLoad tPublic v22 h)) fun v23 => Evs (gv v18 true (mEq tPublic .eql v21 v23)) fun v24 => Evs (mPick v18 v24 (.bool false)) fun v25 => Evs (gv v25 true (mFieldAddr tRequest (env.get 2) 4)) fun v27 => Evs (gv v25 true (mLoad .cell v27 h)) fun v28 => Evs (gv v25 true (mFieldAddr tRequest (env.get 3) 4)) fun v29 => Evs (gv v25 true (mLoad .cell v29 h)) fun v30 => gW v25 true (SpecA Try.prog 23 [v28, v30] h) h fun r31 => Evs (mPick v25 r31.1 (.bool false)) fun v32 => Evs (gv v32 true (mFieldAddr tRequest (env.get 2) 5)) fun v34 => Evs (gv v32 true (mLoad tAccess v34 r31.2)) fun v35 => Evs (gv v32 true (mFieldAddr tRequest (env.get 3) 5)) fun v36 => Evs (gv v32 true (mLoad tAccess v36 r31.2)) fun v37 => Evs (gv v32 true (mEq tAccess .eql v35 v37)) fun v38 => Evs (mPick v32 v38 (.bool false)) fun v39 => Evs (gv v39 true (mFieldAddr tRequest (env.get 2) 6)) fun v41 => Evs (gv v39 true (mLoad tCipher v41 r31.2)) fun v42 => Evs (gv v39 true (mFieldAddr tRequest (env.get 3) 6)) fun v43 => Evs (gv v39 true (mLoad tCipher v43 r31.2)) fun v44 => Evs (gv v39 true (mEq tCipher .eql v42 v44)) fun v45 => Evs (mPick v39 v45 (.bool false)) fun v46 => Evs (gv v46 true (mFieldAddr tRequest (env.get 2) 7)) fun v48 => Evs (gv v46 true (mLoad .cell v48 r31.2)) fun v49 => Evs (gv v46 true (mFieldAddr tRequest (env.get 3) 7)) fun v50 => Evs (gv v46 true (mLoad .cell v50 r31.2)) fun v51 => gW v46 true (SpecA Try.prog 23 [v49, v51] r31.2) r31.2 fun r52 => Evs (mPick v46 r52.1 (.bool false)) fun v53 => Evs (gv v53 true (mFieldAddr tRequest (env.get 2) 8)) fun v55 => Evs (gv v53 true (mLoad tAction v55 r52.2)) fun v56 => Evs (gv v53 true (mFieldAddr tRequest (env.get 3) 8)) fun v57 => Evs (gv v53 true (mLoad tAction v57 r52.2)) fun v58 => gW v53 true (SpecA Try.prog 10 [v56, v58] r52.2) r52.2 fun r59 => Evs (mPick v53 r59.1 (.bool false)) fun v60 => Evs (gv v60 true (mFieldAddr tRequest (env.get 2) 9)) fun v62 => Evs (gv v60 true (mLoad (.int .u32) v62 r59.2)) fun v63 => Evs (gv v60 true (mFieldAddr tRequest (env.get 3) 9)) fun v64 => Evs (gv v60 true (mLoad (.int .u32) v64 r59.2)) fun v65 => Evs (gv v60 true (mBin .eql v63 v65)) fun v66 => Evs (mPick v60 v66 (.bool false)) fun v67 => Evs (gv v67 true (mFieldAddr tPass (env.get 5) 0)) fun v69 => Evs (gv v67 true (mLoad (.arr 32 (.int .u8)) v69 r59.2)) fun v70 => Evs (gv v67 true (mFieldAddr tPass (env.get 6) 0)) fun v71 => Evs (gv v67 true (mLoad (.arr 32 (.int .u8)) v71 r59.2)) fun v72 => Evs (gv v67 true (mEq (.arr 32 (.int .u8)) .eql v70 v72)) fun v73 => Evs (mPick v67 v73 (.bool false)) fun v74 => Evs (gv v74 true (mFieldAddr tPass (env.get 5) 1)) fun v76 => Evs (gv v74 true (mLoad (.arr 32 (.int .u8)) v76 r59.2)) fun v77 => Evs (gv v74 true (mFieldAddr tPass (env.get 6) 1)) fun v78 => Evs (gv v74 true (mLoad (.arr 32 (.int .u8)) v78 r59.2)) fun v79 => Evs (gv v74 true (mEq (.arr 32 (.int .u8)) .eql v77 v79)) fun v80 => Evs (mPick v74 v80 (.bool false)) fun v81 => Evs (gv v81 true (mFieldAddr tPass (env.get 5) 2)) fun v83 => Evs (gv v81 true (mLoad (.arr 32 (.int .u8)) v83 r59.2)) fun v84 => Evs (gv v81 true (mFieldAddr tPass (env.get 6) 2)) fun v85 => Evs (gv v81 true (mLoad (.arr 32 (.int .u8)) v85 r59.2)) fun v86 => Evs (gv v81 true (mEq (.arr 32 (.int .u8)) .eql v84 v86)) fun v87 => Evs (mPick v81 v87 (.bool false)) fun v88 => Evs (gv v88 true (mFieldAddr tPass (env.get 5) 3)) fun v90 => Evs (gv v88 true (mLoad tProof v90 r59.2)) fun v91 => Evs (gv v88 true (mFieldAddr tPass (env.get 6) 3)) fun v92 => Evs (gv v88 true (mLoad tProof v92 r59.2)) fun v93 => gW v88 true (SpecA Try.prog 28 [v91, v93] r59.2) r59.2 fun r94 => Evs (mPick v88 r94.1 (.bool false)) fun v95 => Evs (gv v95 true (mFieldAddr tRequest (env.get 2) 10)) fun v97 => Evs (gv v95 true (mFieldAddr tShown v97 1)) fun v98 => Evs (gv v95 true (mFieldAddr tTied v98 0)) fun v99 => Evs (gv v95 true (mLoad (.arr 32 (.int .u8)) v99 r94.2)) fun v100 => Evs (gv v95 true (mFieldAddr tRequest (env.get 3) 10)) fun v101 => Evs (gv v95 true (mFieldAddr tShown v101 1)) fun v102 => Evs (gv v95 true (mFieldAddr tTied v102 0)) fun v103 => Evs (gv v95 true (mLoad (.arr 32 (.int .u8)) v103 r94.2)) fun v104 => Evs (gv v95 true (mEq (.arr 32 (.int .u8)) .eql v100 v104)) fun v105 => Evs (mPick v95 v105 (.bool false)) fun v106 => Evs (gv v106 true (mFieldAddr tRequest (env.get 2) 10)) fun v108 => Evs (gv v106 true (mFieldAddr tShown v108 1)) fun v109 => Evs (gv v106 true (mFieldAddr tTied v109 1)) fun v110 => Evs (gv v106 true (mLoad tProof v110 r94.2)) fun v111 => Evs (gv v106 true (mFieldAddr tRequest (env.get 3) 10)) fun v112 => Evs (gv v106 true (mFieldAddr tShown v112 1)) fun v113 => Evs (gv v106 true (mFieldAddr tTied v113 1)) fun v114 => Evs (gv v106 true (mLoad tProof v114 r94.2)) fun v115 => gW v106 true (SpecA Try.prog 28 [v111, v115] r94.2) r94.2 fun r116 => Evs (mPick v106 r116.1 (.bool false)) fun v117 => Evs (gv v117 true (mFieldAddr tVoucher (env.get 7) 0)) fun v119 => Evs (gv v117 true (mLoad (.arr 32 (.int .u8)) v119 r116.2)) fun v120 => Evs (gv v117 true (mFieldAddr tVoucher (env.get 8) 0)) fun v121 => Evs (gv v117 true (mLoad (.arr 32 (.int .u8)) v121 r116.2)) fun v122 => Evs (gv v117 true (mEq (.arr 32 (.int .u8)) .eql v120 v122)) fun v123 => Evs (mPick v117 v123 (.bool false)) fun v124 => Evs (gv v124 true (mFieldAddr tVoucher (env.get 7) 1)) fun v126 => Evs (gv v124 true (mLoad (.arr 32 (.int .u8)) v126 r116.2)) fun v127 => Evs (gv v124 true (mFieldAddr tVoucher (env.get 8) 1)) fun v128 => Evs (gv v124 true (mLoad (.arr 32 (.int .u8)) v128 r116.2)) fun v129 => Evs (gv v124 true (mEq (.arr 32 (.int .u8)) .eql v127 v129)) fun v130 => Evs (mPick v124 v130 (.bool false)) fun v131 => Evs (gv v131 true (mFieldAddr tVoucher (env.get 7) 2)) fun v133 => Evs (gv v131 true (mLoad (.arr 32 (.int .u8)) v133 r116.2)) fun v134 => Evs (gv v131 true (mFieldAddr tVoucher (env.get 8) 2)) fun v135 => Evs (gv v131 true (mLoad (.arr 32 (.int .u8)) v135 r116.2)) fun v136 => Evs (gv v131 true (mEq (.arr 32 (.int .u8)) .eql v134 v136)) fun v137 => Evs (mPick v131 v137 (.bool false)) fun v138 => Evs (gv v138 true (mFieldAddr tVoucher (env.get 7) 3)) fun v140 => Evs (gv v138 true (mLoad (.arr 32 (.int .u8)) v140 r116.2)) fun v141 => Evs (gv v138 true (mFieldAddr tVoucher (env.get 8) 3)) fun v142 => Evs (gv v138 true (mLoad (.arr 32 (.int .u8)) v142 r116.2)) fun v143 => Evs (gv v138 true (mEq (.arr 32 (.int .u8)) .eql v141 v143)) fun v144 => Evs (mPick v138 v144 (.bool false)) fun v145 => Evs (gv v145 true (mFieldAddr tVoucher (env.get 7) 4)) fun v147 => Evs (gv v145 true (mLoad (.arr 32 (.int .u8)) v147 r116.2)) fun v148 => Evs (gv v145 true (mFieldAddr tVoucher (env.get 8) 4)) fun v149 => Evs (gv v145 true (mLoad (.arr 32 (.int .u8)) v149 r116.2)) fun v150 => Evs (gv v145 true (mEq (.arr 32 (.int .u8)) .eql v148 v150)) fun v151 => Evs (mPick v145 v151 (.bool false)) fun v152 => Evs (gv v152 true (mFieldAddr tVoucher (env.get 7) 5)) fun v154 => Evs (gv v152 true (mLoad tProof v154 r116.2)) fun v155 => Evs (gv v152 true (mFieldAddr tVoucher (env.get 8) 5)) fun v156 => Evs (gv v152 true (mLoad tProof v156 r116.2)) fun v157 => gW v152 true (SpecA Try.prog 28 [v155, v157] r116.2) r116.2 fun r158 => Evs (mPick v152 r158.1 (.bool false)) fun v159 => wC Try.prog cx15 n15_4 Q ⟨(Env.put env 4 v159), r158.2⟩) := (ySR 3 (cOps (cL n15_3)) (cR n15_3)).trans (by
  refine w0 ?_
  refine wP 19 fun v0 => ?_
  refine wP 20 fun v1 => ?_
  refine wP 21 fun v2 => ?_
  refine wP 22 fun v3 => ?_
  refine wP 23 fun v4 => ?_
  refine wT 24 v4 ?_
  refine wG 25 fun v6 => ?_
  refine wG 26 fun v7 => ?_
  refine wG 27 fun v8 => ?_
  refine wG 28 fun v9 => ?_
  refine wG 29 fun v10 => ?_
  refine wP 30 fun v11 => ?_
  refine wT 31 v11 ?_
  refine wG 32 fun v13 => ?_
  refine wG 33 fun v14 => ?_
  refine wG 34 fun v15 => ?_
  refine wG 35 fun v16 => ?_
  refine wG 36 fun v17 => ?_
  refine wP 37 fun v18 => ?_
  refine wT 38 v18 ?_
  refine wG 39 fun v20 => ?_
  refine wG 40 fun v21 => ?_
  refine wG 41 fun v22 => ?_
  refine wG 42 fun v23 => ?_
  refine wG 43 fun v24 => ?_
  refine wP 44 fun v25 => ?_
  refine wT 45 v25 ?_
  refine wG 46 fun v27 => ?_
  refine wG 47 fun v28 => ?_
  refine wG 48 fun v29 => ?_
  refine wG 49 fun v30 => ?_
  refine wH 50 fun r31 => ?_
  refine wP 51 fun v32 => ?_
  refine wT 52 v32 ?_
  refine wG 53 fun v34 => ?_
  refine wG 54 fun v35 => ?_
  refine wG 55 fun v36 => ?_
  refine wG 56 fun v37 => ?_
  refine wG 57 fun v38 => ?_
  refine wP 58 fun v39 => ?_
  refine wT 59 v39 ?_
  refine wG 60 fun v41 => ?_
  refine wG 61 fun v42 => ?_
  refine wG 62 fun v43 => ?_
  refine wG 63 fun v44 => ?_
  refine wG 64 fun v45 => ?_
  refine wP 65 fun v46 => ?_
  refine wT 66 v46 ?_
  refine wG 67 fun v48 => ?_
  refine wG 68 fun v49 => ?_
  refine wG 69 fun v50 => ?_
  refine wG 70 fun v51 => ?_
  refine wH 71 fun r52 => ?_
  refine wP 72 fun v53 => ?_
  refine wT 73 v53 ?_
  refine wG 74 fun v55 => ?_
  refine wG 75 fun v56 => ?_
  refine wG 76 fun v57 => ?_
  refine wG 77 fun v58 => ?_
  refine wH 78 fun r59 => ?_
  refine wP 79 fun v60 => ?_
  refine wT 80 v60 ?_
  refine wG 81 fun v62 => ?_
  refine wG 82 fun v63 => ?_
  refine wG 83 fun v64 => ?_
  refine wG 84 fun v65 => ?_
  refine wG 85 fun v66 => ?_
  refine wP 86 fun v67 => ?_
  refine wT 87 v67 ?_
  refine wG 88 fun v69 => ?_
  refine wG 89 fun v70 => ?_
  refine wG 90 fun v71 => ?_
  refine wG 91 fun v72 => ?_
  refine wG 92 fun v73 => ?_
  refine wP 93 fun v74 => ?_
  refine wT 94 v74 ?_
  refine wG 95 fun v76 => ?_
  refine wG 96 fun v77 => ?_
  refine wG 97 fun v78 => ?_
  refine wG 98 fun v79 => ?_
  refine wG 99 fun v80 => ?_
  refine wP 100 fun v81 => ?_
  refine wT 101 v81 ?_
  refine wG 102 fun v83 => ?_
  refine wG 103 fun v84 => ?_
  refine wG 104 fun v85 => ?_
  refine wG 105 fun v86 => ?_
  refine wG 106 fun v87 => ?_
  refine wP 107 fun v88 => ?_
  refine wT 108 v88 ?_
  refine wG 109 fun v90 => ?_
  refine wG 110 fun v91 => ?_
  refine wG 111 fun v92 => ?_
  refine wG 112 fun v93 => ?_
  refine wH 113 fun r94 => ?_
  refine wP 114 fun v95 => ?_
  refine wT 115 v95 ?_
  refine wG 116 fun v97 => ?_
  refine wG 117 fun v98 => ?_
  refine wG 118 fun v99 => ?_
  refine wG 119 fun v100 => ?_
  refine wG 120 fun v101 => ?_
  refine wG 121 fun v102 => ?_
  refine wG 122 fun v103 => ?_
  refine wG 123 fun v104 => ?_
  refine wG 124 fun v105 => ?_
  refine wP 125 fun v106 => ?_
  refine wT 126 v106 ?_
  refine wG 127 fun v108 => ?_
  refine wG 128 fun v109 => ?_
  refine wG 129 fun v110 => ?_
  refine wG 130 fun v111 => ?_
  refine wG 131 fun v112 => ?_
  refine wG 132 fun v113 => ?_
  refine wG 133 fun v114 => ?_
  refine wG 134 fun v115 => ?_
  refine wH 135 fun r116 => ?_
  refine wP 136 fun v117 => ?_
  refine wT 137 v117 ?_
  refine wG 138 fun v119 => ?_
  refine wG 139 fun v120 => ?_
  refine wG 140 fun v121 => ?_
  refine wG 141 fun v122 => ?_
  refine wG 142 fun v123 => ?_
  refine wP 143 fun v124 => ?_
  refine wT 144 v124 ?_
  refine wG 145 fun v126 => ?_
  refine wG 146 fun v127 => ?_
  refine wG 147 fun v128 => ?_
  refine wG 148 fun v129 => ?_
  refine wG 149 fun v130 => ?_
  refine wP 150 fun v131 => ?_
  refine wT 151 v131 ?_
  refine wG 152 fun v133 => ?_
  refine wG 153 fun v134 => ?_
  refine wG 154 fun v135 => ?_
  refine wG 155 fun v136 => ?_
  refine wG 156 fun v137 => ?_
  refine wP 157 fun v138 => ?_
  refine wT 158 v138 ?_
  refine wG 159 fun v140 => ?_
  refine wG 160 fun v141 => ?_
  refine wG 161 fun v142 => ?_
  refine wG 162 fun v143 => ?_
  refine wG 163 fun v144 => ?_
  refine wP 164 fun v145 => ?_
  refine wT 165 v145 ?_
  refine wG 166 fun v147 => ?_
  refine wG 167 fun v148 => ?_
  refine wG 168 fun v149 => ?_
  refine wG 169 fun v150 => ?_
  refine wG 170 fun v151 => ?_
  refine wP 171 fun v152 => ?_
  refine wT 172 v152 ?_
  refine wG 173 fun v154 => ?_
  refine wG 174 fun v155 => ?_
  refine wG 175 fun v156 => ?_
  refine wG 176 fun v157 => ?_
  refine wH 177 fun r158 => ?_
  refine wP 178 fun v159 => ?_
  refine wT 4 v159 ?_
  exact wE)
theorem n15_2_ok : treeOk (cOps (cL n15_2)).toList [4, 5, 6, 7] [0, 1, 0, 4, 0, 0, 51, 127] = true := by kernel_rfl
theorem n15_2_w (Q : Ex × St → Prop) (env : Env) (h : Heap) (H : Evs (mFieldAddr tRequest (env.get 2) 11) fun v0_1 => Evs (mLoad tVoucher v0_1 h) fun v1_2 => Evs (mFieldAddr tRequest (env.get 3) 11) fun v2_3 => Evs (mLoad tVoucher v2_3 h) fun v3_4 => bothP (Evs (mNew tVoucher (.node [(arr 32 fun _ => 0#8), (arr 32 fun _ => 0#8), (arr 32 fun _ => 0#8), (arr 32 fun _ => 0#8), (arr 32 fun _ => 0#8), (.node [(arr 32 fun _ => 0#8), .nilslice])]) h) fun r4_5 => stabP (mLoad tVoucher v0_1 r4_5.2 = some v1_2) (stabP (mLoad tVoucher v2_3 r4_5.2 = some v3_4) (Evs (mNew tVoucher (.node [(arr 32 fun _ => 0#8), (arr 32 fun _ => 0#8), (arr 32 fun _ => 0#8), (arr 32 fun _ => 0#8), (arr 32 fun _ => 0#8), (.node [(arr 32 fun _ => 0#8), .nilslice])]) r4_5.2) fun r5_6 => stabP (mLoad tVoucher v0_1 r5_6.2 = some v1_2) (stabP (mLoad tVoucher v2_3 r5_6.2 = some v3_4) (Evs (stU tVoucher r4_5.1 v1_2 r5_6.2) fun r6_7 => stabP (mLoad tVoucher v2_3 r6_7.2 = some v3_4) (Evs (stU tVoucher r5_6.1 v3_4 r6_7.2) fun r7_8 => wC Try.prog cx15 n15_3 Q ⟨(Env.put (Env.put env 7 r4_5.1) 8 r5_6.1), r7_8.2⟩)))))) (Evs (mNew tVoucher (.node [(arr 32 fun _ => 0#8), (arr 32 fun _ => 0#8), (arr 32 fun _ => 0#8), (arr 32 fun _ => 0#8), (arr 32 fun _ => 0#8), (.node [(arr 32 fun _ => 0#8), .nilslice])]) h) fun r5_9 => stabP (mLoad tVoucher v0_1 r5_9.2 = some v1_2) (stabP (mLoad tVoucher v2_3 r5_9.2 = some v3_4) (Evs (mNew tVoucher (.node [(arr 32 fun _ => 0#8), (arr 32 fun _ => 0#8), (arr 32 fun _ => 0#8), (arr 32 fun _ => 0#8), (arr 32 fun _ => 0#8), (.node [(arr 32 fun _ => 0#8), .nilslice])]) r5_9.2) fun r4_10 => stabP (mLoad tVoucher v0_1 r4_10.2 = some v1_2) (stabP (mLoad tVoucher v2_3 r4_10.2 = some v3_4) (Evs (stU tVoucher r4_10.1 v1_2 r4_10.2) fun r6_11 => stabP (mLoad tVoucher v2_3 r6_11.2 = some v3_4) (Evs (stU tVoucher r5_9.1 v3_4 r6_11.2) fun r7_12 => wC Try.prog cx15 n15_3 Q ⟨(Env.put (Env.put env 8 r5_9.1) 7 r4_10.1), r7_12.2⟩))))))) : wC Try.prog cx15 n15_2 Q ⟨env, h⟩ := by
  refine ySD 2 (cOps (cL n15_2)) (cR n15_2) [4, 5, 6, 7] [0, 1, 0, 4, 0, 0, 51, 127] [0, 1, 2, 3] n15_2_ok ?_
  refine rP H 15 fun v0_1 H => ?_
  refine rP H 16 fun v1_2 H => ?_
  refine rP H 17 fun v2_3 H => ?_
  refine rP H 18 fun v3_4 H => ?_
  refine rE ?_
  refine tN 4 [5] ?_
  refine aN2 ?_ ?_
  · replace H := H.1
    refine tH H 7 [] [1, 3] (fun r4_5 H => ?_)
    refine sP v1_2 16 H (fun H => ?_) (by kernel_rfl) (by kernel_rfl) (by kernel_rfl)
    refine sP v3_4 18 H (fun H => ?_) (by kernel_rfl) (by kernel_rfl) (by kernel_rfl)
    refine ⟨sNil, ?_⟩
    refine rE ?_
    refine tN 5 [] ?_
    refine aN1 ?_
    refine tH H 8 [] [1, 3] (fun r5_6 H => ?_)
    refine sP v1_2 16 H (fun H => ?_) (by kernel_rfl) (by kernel_rfl) (by kernel_rfl)
    refine sP v3_4 18 H (fun H => ?_) (by kernel_rfl) (by kernel_rfl) (by kernel_rfl)
    refine ⟨sNil, ?_⟩
    refine rE ?_
    refine tN 6 [] ?_
    refine aN1 ?_
    refine tHn H [] [3] (fun r6_7 H => ?_)
    refine sP v3_4 18 H (fun H => ?_) (by kernel_rfl) (by kernel_rfl) (by kernel_rfl)
    refine ⟨sNil, ?_⟩
    refine rE ?_
    refine tN 7 [] ?_
    refine aN1 ?_
    refine tHn H [] [] (fun r7_8 H => ?_)
    refine ⟨sNil, ?_⟩
    refine rE ?_
    exact tE H
  replace H := H.2
  refine aN1 ?_
  refine tH H 8 [] [1, 3] (fun r5_9 H => ?_)
  refine sP v1_2 16 H (fun H => ?_) (by kernel_rfl) (by kernel_rfl) (by kernel_rfl)
  refine sP v3_4 18 H (fun H => ?_) (by kernel_rfl) (by kernel_rfl) (by kernel_rfl)
  refine ⟨sNil, ?_⟩
  refine rE ?_
  refine tN 4 [] ?_
  refine aN1 ?_
  refine tH H 7 [] [1, 3] (fun r4_10 H => ?_)
  refine sP v1_2 16 H (fun H => ?_) (by kernel_rfl) (by kernel_rfl) (by kernel_rfl)
  refine sP v3_4 18 H (fun H => ?_) (by kernel_rfl) (by kernel_rfl) (by kernel_rfl)
  refine ⟨sNil, ?_⟩
  refine rE ?_
  refine tN 6 [] ?_
  refine aN1 ?_
  refine tHn H [] [3] (fun r6_11 H => ?_)
  refine sP v3_4 18 H (fun H => ?_) (by kernel_rfl) (by kernel_rfl) (by kernel_rfl)
  refine ⟨sNil, ?_⟩
  refine rE ?_
  refine tN 7 [] ?_
  refine aN1 ?_
  refine tHn H [] [] (fun r7_12 H => ?_)
  refine ⟨sNil, ?_⟩
  refine rE ?_
  exact tE H
theorem n15_1_ok : treeOk (cOps (cL n15_1)).toList [6, 7, 8, 9] [0, 1, 3, 0, 8, 24, 0, 0, 199, 511] = true := by kernel_rfl
theorem n15_1_w (Q : Ex × St → Prop) (env : Env) (h : Heap) (H : Evs (mFieldAddr tRequest (env.get 2) 10) fun v0_1 => Evs (mFieldAddr tShown v0_1 0) fun v1_2 => Evs (mLoad tPass v1_2 h) fun v2_3 => Evs (mFieldAddr tRequest (env.get 3) 10) fun v3_4 => Evs (mFieldAddr tShown v3_4 0) fun v4_5 => Evs (mLoad tPass v4_5 h) fun v5_6 => bothP (Evs (mNew tPass (.node [(arr 32 fun _ => 0#8), (arr 32 fun _ => 0#8), (arr 32 fun _ => 0#8), (.node [(arr 32 fun _ => 0#8), .nilslice])]) h) fun r6_7 => stabP (mLoad tPass v1_2 r6_7.2 = some v2_3) (stabP (mLoad tPass v4_5 r6_7.2 = some v5_6) (Evs (mNew tPass (.node [(arr 32 fun _ => 0#8), (arr 32 fun _ => 0#8), (arr 32 fun _ => 0#8), (.node [(arr 32 fun _ => 0#8), .nilslice])]) r6_7.2) fun r7_8 => stabP (mLoad tPass v1_2 r7_8.2 = some v2_3) (stabP (mLoad tPass v4_5 r7_8.2 = some v5_6) (Evs (stU tPass r6_7.1 v2_3 r7_8.2) fun r8_9 => stabP (mLoad tPass v4_5 r8_9.2 = some v5_6) (Evs (stU tPass r7_8.1 v5_6 r8_9.2) fun r9_10 => wC Try.prog cx15 n15_2 Q ⟨(Env.put (Env.put env 5 r6_7.1) 6 r7_8.1), r9_10.2⟩)))))) (Evs (mNew tPass (.node [(arr 32 fun _ => 0#8), (arr 32 fun _ => 0#8), (arr 32 fun _ => 0#8), (.node [(arr 32 fun _ => 0#8), .nilslice])]) h) fun r7_11 => stabP (mLoad tPass v1_2 r7_11.2 = some v2_3) (stabP (mLoad tPass v4_5 r7_11.2 = some v5_6) (Evs (mNew tPass (.node [(arr 32 fun _ => 0#8), (arr 32 fun _ => 0#8), (arr 32 fun _ => 0#8), (.node [(arr 32 fun _ => 0#8), .nilslice])]) r7_11.2) fun r6_12 => stabP (mLoad tPass v1_2 r6_12.2 = some v2_3) (stabP (mLoad tPass v4_5 r6_12.2 = some v5_6) (Evs (stU tPass r6_12.1 v2_3 r6_12.2) fun r8_13 => stabP (mLoad tPass v4_5 r8_13.2 = some v5_6) (Evs (stU tPass r7_11.1 v5_6 r8_13.2) fun r9_14 => wC Try.prog cx15 n15_2 Q ⟨(Env.put (Env.put env 6 r7_11.1) 5 r6_12.1), r9_14.2⟩))))))) : wC Try.prog cx15 n15_1 Q ⟨env, h⟩ := by
  refine ySD 1 (cOps (cL n15_1)) (cR n15_1) [6, 7, 8, 9] [0, 1, 3, 0, 8, 24, 0, 0, 199, 511] [0, 1, 2, 3, 4, 5] n15_1_ok ?_
  refine rP H 9 fun v0_1 H => ?_
  refine rP H 10 fun v1_2 H => ?_
  refine rP H 11 fun v2_3 H => ?_
  refine rP H 12 fun v3_4 H => ?_
  refine rP H 13 fun v4_5 H => ?_
  refine rP H 14 fun v5_6 H => ?_
  refine rE ?_
  refine tN 6 [7] ?_
  refine aN2 ?_ ?_
  · replace H := H.1
    refine tH H 5 [] [2, 5] (fun r6_7 H => ?_)
    refine sP v2_3 11 H (fun H => ?_) (by kernel_rfl) (by kernel_rfl) (by kernel_rfl)
    refine sP v5_6 14 H (fun H => ?_) (by kernel_rfl) (by kernel_rfl) (by kernel_rfl)
    refine ⟨sNil, ?_⟩
    refine rE ?_
    refine tN 7 [] ?_
    refine aN1 ?_
    refine tH H 6 [] [2, 5] (fun r7_8 H => ?_)
    refine sP v2_3 11 H (fun H => ?_) (by kernel_rfl) (by kernel_rfl) (by kernel_rfl)
    refine sP v5_6 14 H (fun H => ?_) (by kernel_rfl) (by kernel_rfl) (by kernel_rfl)
    refine ⟨sNil, ?_⟩
    refine rE ?_
    refine tN 8 [] ?_
    refine aN1 ?_
    refine tHn H [] [5] (fun r8_9 H => ?_)
    refine sP v5_6 14 H (fun H => ?_) (by kernel_rfl) (by kernel_rfl) (by kernel_rfl)
    refine ⟨sNil, ?_⟩
    refine rE ?_
    refine tN 9 [] ?_
    refine aN1 ?_
    refine tHn H [] [] (fun r9_10 H => ?_)
    refine ⟨sNil, ?_⟩
    refine rE ?_
    exact tE H
  replace H := H.2
  refine aN1 ?_
  refine tH H 6 [] [2, 5] (fun r7_11 H => ?_)
  refine sP v2_3 11 H (fun H => ?_) (by kernel_rfl) (by kernel_rfl) (by kernel_rfl)
  refine sP v5_6 14 H (fun H => ?_) (by kernel_rfl) (by kernel_rfl) (by kernel_rfl)
  refine ⟨sNil, ?_⟩
  refine rE ?_
  refine tN 6 [] ?_
  refine aN1 ?_
  refine tH H 5 [] [2, 5] (fun r6_12 H => ?_)
  refine sP v2_3 11 H (fun H => ?_) (by kernel_rfl) (by kernel_rfl) (by kernel_rfl)
  refine sP v5_6 14 H (fun H => ?_) (by kernel_rfl) (by kernel_rfl) (by kernel_rfl)
  refine ⟨sNil, ?_⟩
  refine rE ?_
  refine tN 8 [] ?_
  refine aN1 ?_
  refine tHn H [] [5] (fun r8_13 H => ?_)
  refine sP v5_6 14 H (fun H => ?_) (by kernel_rfl) (by kernel_rfl) (by kernel_rfl)
  refine ⟨sNil, ?_⟩
  refine rE ?_
  refine tN 9 [] ?_
  refine aN1 ?_
  refine tHn H [] [] (fun r9_14 H => ?_)
  refine ⟨sNil, ?_⟩
  refine rE ?_
  exact tE H
theorem n15_0_eq (Q : Ex × St → Prop) (env : Env) (h : Heap) : wC Try.prog cx15 n15_0 Q ⟨env, h⟩ = (Evs (mNew tRequest (env.get 0) h) fun r0 => Evs (mNew tRequest (env.get 1) r0.2) fun r1 => wC Try.prog cx15 n15_1 Q ⟨(Env.put (Env.put (Env.put env 2 r0.1) 3 r1.1) 4 (.bool false)), r1.2⟩) := (ySR 0 (cOps (cL n15_0)) (cR n15_0)).trans (by
  refine w0 ?_
  refine wH 2 fun r0 => ?_
  refine wH 3 fun r1 => ?_
  refine wT 4 (.bool false) ?_
  exact wE)
theorem fn15 : Try.prog.funcs[15]? = some Try.f15 := by kernel_rfl
theorem q15 {a0 a1 : AV} {h : Heap} {K : AV × Heap → Prop} (H : ∀ env : Env, env.get 0 = a0 → env.get 1 = a1 → wC Try.prog cx15 n15_0 (retW (fun s => (bnd (some (s.env.get 4)) fun v => bnd (some []) fun vs => some (v :: vs))) K) ⟨env, h⟩) : SpecQ Try.prog 15 [a0, a1] h K :=
  bodyW_sound (C := cx15) TT_ok mixed_ok fn15 (by kernel_rfl) (show _ = some n15_0 by kernel_rfl) (by kernel_rfl) (by kernel_rfl) (of_decide_eq_true (by kernel_rfl)) ((show wC Try.prog cx15 n15_0 (retW (fun s => resAll cx15 s Try.f15.results.toList) K) ⟨env0 cx15 [a0, a1], h⟩ = wC Try.prog cx15 n15_0 (retW (fun s => (bnd (some (s.env.get 4)) fun v => bnd (some []) fun vs => some (v :: vs))) K) ⟨[(0, a0), (1, a1), (2, .junk), (3, .junk), (4, .junk), (5, .junk), (6, .junk), (7, .junk), (8, .junk)], h⟩ by kernel_rfl).mpr (H [(0, a0), (1, a1), (2, .junk), (3, .junk), (4, .junk), (5, .junk), (6, .junk), (7, .junk), (8, .junk)] rfl rfl))
def sn15 := And.intro n15_4_eq (And.intro n15_3_eq (n15_0_eq))
-- draws: n15_2 n15_1
end Go.Vab

/-
  Requests alike, walked.
-/
namespace Go.Vab
open Go Go.Proofs

def wideR (r : Req) : Bool := decide (20000 < r.title.length + r.pass.length + r.act.title.length + r.act.pass.length) || decide (200 < r.shown.pas.prf.s.length + r.shown.tie.prf.s.length + r.vou.prf.s.length)

theorem c13 {h : Heap} {r : Req} {vt vp at_ ap s1 s2 s3 : AV} (k : ReqR h r vt vp at_ ap s1 s2 s3) :
    SpecQ Try.prog 13 [eReq r vt vp at_ ap s1 s2 s3] h fun x => x = (.bool (wideR r), h) := by
  have ta := k.cells
  have l1 := k.t.len
  have l2 := k.p.len
  have l3 := k.a.t.len
  have l4 := k.a.p.len
  have l5 := k.x.len
  have l6 := k.y.len
  have l7 := k.z.len
  have b1 := k.t.bound
  have b2 := k.p.bound
  have b3 := k.a.t.bound
  have b4 := k.a.p.bound
  have b5 := k.x.bound
  have b6 := k.y.bound
  have b7 := k.z.bound
  rw [List.length_map] at l5 l6 l7 b5 b6 b7
  refine SpecQ.drop1 rfl (q13 fun env g0 => ?_)
  repeat' (first
    | ((with_reducible apply evs_of); (focus ((conv => lhs; simp (disch := omega) [g0, ta, l1, l2, l3, l4, l5, l6, l7]); done)); try dsimp only)
    | (simp (decide := true) only [sn13, sqW_nrm, sqW_exit, sqW_ret, inBlk_nrm, inBlk_ret, inBlk_same, inBlk_exit, if_true, if_false, retW_nrm, retW_ret])
    | (with_reducible refine gv_split ?_ ?_ <;> (intro hb; try simp only [Bool.not_true, Bool.not_false] at hb) <;> try simp only [hb]))
  all_goals refine fin_b ?_
  all_goals (unfold wideR; simp_all; try omega)

set_option maxRecDepth 20000 in
set_option maxHeartbeats 4000000 in
theorem c15 {h : Heap} {a b : Req} {vt vp at_ ap s1 s2 s3 wt wp_ bt bp u1 u2 u3 : AV} (ra : ReqR h a vt vp at_ ap s1 s2 s3) (rb : ReqR h b wt wp_ bt bp u1 u2 u3) :
    SpecQ Try.prog 15 [eReq a vt vp at_ ap s1 s2 s3, eReq b wt wp_ bt bp u1 u2 u3] h fun r => r = (.bool (decide (a = b)), h) := by
  have ta := ra.cells
  have tb := rb.cells
  refine SpecQ.drop1 rfl (q15 fun env g0 g1 => ?_)
  repeat' (first
    | ((with_reducible apply evs_of); (focus ((conv => lhs; simp (disch := omega) [g0, g1, ta, tb]); done)); try dsimp only)
    | ((with_reducible apply gW_do); (focus (simp (disch := omega) [g0, g1, ta, tb]; done)))
    | ((with_reducible apply gW_no); (focus (simp (disch := omega) [g0, g1, ta, tb]; done)); try dsimp only)
    | ((with_reducible apply gW_un); (focus (simp (disch := omega) [g0, g1, ta, tb]; done)); try dsimp only)
    | ((with_reducible apply stabP_i); (focus (simp (disch := omega) [g0, g1, ta, tb]; done)))
    | (with_reducible apply bothP_i)
    | (with_reducible refine SpecQ.step (c23 (ra.t.app _) (rb.t.app _)) ?_; rintro _ rfl; try dsimp only)
    | (with_reducible refine stabP_i (c23 (ra.t.app _) (rb.t.app _)) ?_)
    | (with_reducible refine SpecQ.step (c23 (ra.p.app _) (rb.p.app _)) ?_; rintro _ rfl; try dsimp only)
    | (with_reducible refine stabP_i (c23 (ra.p.app _) (rb.p.app _)) ?_)
    | (with_reducible refine SpecQ.step (c10 (ra.a.app _) (rb.a.app _)) ?_; rintro _ rfl; try dsimp only)
    | (with_reducible refine stabP_i (c10 (ra.a.app _) (rb.a.app _)) ?_)
    | (with_reducible refine SpecQ.step (c28 (ra.x.app _) (rb.x.app _)) ?_; rintro _ rfl; try dsimp only)
    | (with_reducible refine stabP_i (c28 (ra.x.app _) (rb.x.app _)) ?_)
    | (with_reducible refine SpecQ.step (c28 (ra.y.app _) (rb.y.app _)) ?_; rintro _ rfl; try dsimp only)
    | (with_reducible refine stabP_i (c28 (ra.y.app _) (rb.y.app _)) ?_)
    | (with_reducible refine SpecQ.step (c28 (ra.z.app _) (rb.z.app _)) ?_; rintro _ rfl; try dsimp only)
    | (with_reducible refine stabP_i (c28 (ra.z.app _) (rb.z.app _)) ?_)
    | ((with_reducible apply SpecA_i); (focus ((conv => lhs; simp (disch := omega) [g0, g1, ta, tb]); done)))
    | ((with_reducible apply stabA_i); (focus ((conv => lhs; simp (disch := omega) [g0, g1, ta, tb]); done)))
    | ((with_reducible apply stabA_fn); (focus ((conv => lhs; simp (disch := omega) [g0, g1, ta, tb]); done)))
    | ((with_reducible apply stab_do); (focus (simp (disch := omega) [g0, g1, ta, tb]; done)))
    | (simp (decide := true) only [sn15, sqW_nrm, sqW_exit, sqW_ret, inBlk_nrm, inBlk_ret, inBlk_same, inBlk_exit, if_true, if_false, retW_nrm, retW_ret])
    | (with_reducible refine n15_2_w _ _ _ ?_)
    | (with_reducible refine n15_1_w _ _ _ ?_)
    | (with_reducible refine gv_split ?_ ?_ <;> (intro hb; try simp only [Bool.not_true, Bool.not_false] at hb) <;> try simp only [hb])
    | (with_reducible refine gW_split ?_ ?_ <;> (intro hb; try simp only [Bool.not_true, Bool.not_false] at hb) <;> try simp only [hb]))
  all_goals refine fin_b ?_
  all_goals (clear ra rb ta tb; obtain ⟨a0, a1, a2, a3, a4, a5, a6, a7, a8, a9, ⟨⟨a10, a11, a12, a13⟩, a14, a15⟩, a16, a17, a18, a19, a20, a21⟩ := a; obtain ⟨b0, b1, b2, b3, b4, b5, b6, b7, b8, b9, ⟨⟨b10, b11, b12, b13⟩, b14, b15⟩, b16, b17, b18, b19, b20, b21⟩ := b; simp_all)

end Go.Vab

/- How the code of a function is read. Printed by wip/tools/gen2.py (own work). -/
namespace Go.Vab
open Go Go.Proofs
/-! vestry/vestryref18.SameAction -/
def cx11 : Ctx := ⟨fun _ _ _ => none, TT, 63, [5, 6, 7, 8, 9, 10, 11, 12, 13, 14, 15, 16, 17, 18, 19, 20, 21, 22, 23, 24, 25, 26, 27, 28, 29, 30, 31, 32, 33, 34, 35, 36, 37, 38, 39, 40, 41, 42, 43, 44, 45, 46, 47, 48, 49, 50, 51, 52, 53, 54, 55, 56, 57, 58, 59, 60, 61, 62]⟩
noncomputable def n11_0 : Code := bodyOf Try.f11
noncomputable def n11_1 : Code := cR n11_0
noncomputable def n11_2 : Code := cR n11_1
theorem n11_2_eq (Q : Ex × St → Prop) (s : St) : wC Try.prog cx11 n11_2 Q s = Q (.ret, s) := yE
theorem n11_1_eq (Q : Ex × St → Prop) (env : Env) (h : Heap) : wC Try.prog cx11 n11_1 Q ⟨env, h⟩ = (Evs (mFieldAddr tAction (env.get 2) 0) fun v0 => Evs (mLoad (.int .u32) v0 h) fun v1 => Evs (mFieldAddr tAction (env.get 3) 0) fun v2 => Evs (mLoad (.int .u32) v2 h) fun v3 => Evs (mBin .eql v1 v3) fun v4 => Evs (gv v4 true (mFieldAddr tAction (env.get 2) 1)) fun v6 => Evs (gv v4 true (mLoad (.int .u8) v6 h)) fun v7 => Evs (gv v4 true (mFieldAddr tAction (env.get 3) 1)) fun v8 => Evs (gv v4 true (mLoad (.int .u8) v8 h)) fun v9 => Evs (gv v4 true (mBin .eql v7 v9)) fun v10 => Evs (mPick v4 v10 (.bool false)) fun v11 => Evs (gv v11 true (mFieldAddr tAction (env.get 2) 2)) fun v13 => Evs (gv v11 true (mLoad tCipher v13 h)) fun v14 => Evs (gv v11 true (mFieldAddr tAction (env.get 3) 2)) fun v15 => Evs (gv v11 true (mLoad tCipher v15 h)) fun v16 => Evs (gv v11 true (mEq tCipher .eql v14 v16)) fun v17 => Evs (mPick v11 v17 (.bool false)) fun v18 => Evs (gv v18 true (mFieldAddr tAction (env.get 2) 3)) fun v20 => Evs (gv v18 true (mLoad (.arr 32 (.int .u8)) v20 h)) fun v21 => Evs (gv v18 true (mFieldAddr tAction (env.get 3) 3)) fun v22 => Evs (gv v18 true (mLoad (.arr 32 (.int .u8)) v22 h)) fun v23 => Evs (gv v18 true (mEq (.arr 32 (.int .u8)) .eql v21 v23)) fun v24 => Evs (mPick v18 v24 (.bool false)) fun v25 => Evs (gv v25 true (mFieldAddr tAction (env.get 2) 4)) fun v27 => Evs (gv v25 true (mLoad (.int .u8) v27 h)) fun v28 => Evs (gv v25 true (mFieldAddr tAction (env.get 3) 4)) fun v29 => Evs (gv v25 true (mLoad (.int .u8) v29 h)) fun v30 => Evs (gv v25 true (mBin .eql v28 v30)) fun v31 => Evs (mPick v25 v31 (.bool false)) fun v32 => Evs (gv v32 true (mFieldAddr tAction (env.get 2) 5)) fun v34 => Evs (gv v32 true (mLoad .cell v34 h)) fun v35 => Evs (gv v32 true (mStr v35 h)) fun v36 => Evs (gv v32 true (mFieldAddr tAction (env.get 3) 5)) fun v37 => Evs (gv v32 true (mLoad .cell v37 h)) fun v38 => Evs (gv v32 true (mStr v38 h)) fun v39 => Evs (gv v32 true (mBinT .eql v36 v39)) fun v40 => Evs (mPick v32 v40 (.bool false)) fun v41 => Evs (gv v41 true (mFieldAddr tAction (env.get 2) 6)) fun v43 => Evs (gv v41 true (mLoad tAccess v43 h)) fun v44 => Evs (gv v41 true (mFieldAddr tAction (env.get 3) 6)) fun v45 => Evs (gv v41 true (mLoad tAccess v45 h)) fun v46 => Evs (gv v41 true (mEq tAccess .eql v44 v46)) fun v47 => Evs (mPick v41 v47 (.bool false)) fun v48 => Evs (gv v48 true (mFieldAddr tAction (env.get 2) 7)) fun v50 => Evs (gv v48 true (mLoad .cell v50 h)) fun v51 => Evs (gv v48 true (mStr v51 h)) fun v52 => Evs (gv v48 true (mFieldAddr tAction (env.get 3) 7)) fun v53 => Evs (gv v48 true (mLoad .cell v53 h)) fun v54 => Evs (gv v48 true (mStr v54 h)) fun v55 => Evs (gv v48 true (mBinT .eql v52 v55)) fun v56 => Evs (mPick v48 v56 (.bool false)) fun v57 => wC Try.prog cx11 n11_2 Q ⟨(Env.put env 4 v57), h⟩) := (ySR 1 (cOps (cL n11_1)) (cR n11_1)).trans (by
  refine w0 ?_
  refine wP 5 fun v0 => ?_
  refine wP 6 fun v1 => ?_
  refine wP 7 fun v2 => ?_
  refine wP 8 fun v3 => ?_
  refine wP 9 fun v4 => ?_
  refine wT 10 v4 ?_
  refine wG 11 fun v6 => ?_
  refine wG 12 fun v7 => ?_
  refine wG 13 fun v8 => ?_
  refine wG 14 fun v9 => ?_
  refine wG 15 fun v10 => ?_
  refine wP 16 fun v11 => ?_
  refine wT 17 v11 ?_
  refine wG 18 fun v13 => ?_
  refine wG 19 fun v14 => ?_
  refine wG 20 fun v15 => ?_
  refine wG 21 fun v16 => ?_
  refine wG 22 fun v17 => ?_
  refine wP 23 fun v18 => ?_
  refine wT 24 v18 ?_
  refine wG 25 fun v20 => ?_
  refine wG 26 fun v21 => ?_
  refine wG 27 fun v22 => ?_
  refine wG 28 fun v23 => ?_
  refine wG 29 fun v24 => ?_
  refine wP 30 fun v25 => ?_
  refine wT 31 v25 ?_
  refine wG 32 fun v27 => ?_
  refine wG 33 fun v28 => ?_
  refine wG 34 fun v29 => ?_
  refine wG 35 fun v30 => ?_
  refine wG 36 fun v31 => ?_
  refine wP 37 fun v32 => ?_
  refine wT 38 v32 ?_
  refine wG 39 fun v34 => ?_
  refine wG 40 fun v35 => ?_
  refine wG 41 fun v36 => ?_
  refine wG 42 fun v37 => ?_
  refine wG 43 fun v38 => ?_
  refine wG 44 fun v39 => ?_
  refine wG 45 fun v40 => ?_
  refine wP 46 fun v41 => ?_
  refine wT 47 v41 ?_
  refine wG 48 fun v43 => ?_
  refine wG 49 fun v44 => ?_
  refine wG 50 fun v45 => ?_
  refine wG 51 fun v46 => ?_
  refine wG 52 fun v47 => ?_
  refine wP 53 fun v48 => ?_
  refine wT 54 v48 ?_
  refine wG 55 fun v50 => ?_
  refine wG 56 fun v51 => ?_
  refine wG 57 fun v52 => ?_
  refine wG 58 fun v53 => ?_
  refine wG 59 fun v54 => ?_
  refine wG 60 fun v55 => ?_
  refine wG 61 fun v56 => ?_
  refine wP 62 fun v57 => ?_
  refine wT 4 v57 ?_
  exact wE)
theorem n11_0_eq (Q : Ex × St → Prop) (env : Env) (h : Heap) : wC Try.prog cx11 n11_0 Q ⟨env, h⟩ = (Evs (mNew tAction (env.get 0) h) fun r0 => Evs (mNew tAction (env.get 1) r0.2) fun r1 => wC Try.prog cx11 n11_1 Q ⟨(Env.put (Env.put (Env.put env 2 r0.1) 3 r1.1) 4 (.bool false)), r1.2⟩) := (ySR 0 (cOps (cL n11_0)) (cR n11_0)).trans (by
  refine w0 ?_
  refine wH 2 fun r0 => ?_
  refine wH 3 fun r1 => ?_
  refine wT 4 (.bool false) ?_
  exact wE)
theorem fn11 : Try.prog.funcs[11]? = some Try.f11 := by kernel_rfl
theorem q11 {a0 a1 : AV} {h : Heap} {K : AV × Heap → Prop} (H : ∀ env : Env, env.get 0 = a0 → env.get 1 = a1 → wC Try.prog cx11 n11_0 (retW (fun s => (bnd (some (s.env.get 4)) fun v => bnd (some []) fun vs => some (v :: vs))) K) ⟨env, h⟩) : SpecQ Try.prog 11 [a0, a1] h K :=
  bodyW_sound (C := cx11) TT_ok mixed_ok fn11 (by kernel_rfl) (show _ = some n11_0 by kernel_rfl) (by kernel_rfl) (by kernel_rfl) (of_decide_eq_true (by kernel_rfl)) ((show wC Try.prog cx11 n11_0 (retW (fun s => resAll cx11 s Try.f11.results.toList) K) ⟨env0 cx11 [a0, a1], h⟩ = wC Try.prog cx11 n11_0 (retW (fun s => (bnd (some (s.env.get 4)) fun v => bnd (some []) fun vs => some (v :: vs))) K) ⟨[(0, a0), (1, a1), (2, .junk), (3, .junk), (4, .junk)], h⟩ by kernel_rfl).mpr (H [(0, a0), (1, a1), (2, .junk), (3, .junk), (4, .junk)] rfl rfl))
def sn11 := And.intro n11_2_eq (And.intro n11_1_eq (n11_0_eq))
-- draws: 
end Go.Vab

/-
  The document's SameAction, walked.
-/
namespace Go.Vab
open Go Go.Proofs

theorem c11 {h : Heap} {a b : Actn} {at_ ap bt bp : AV} (ra : ActR h a at_ ap) (rb : ActR h b bt bp) :
    SpecQ Try.prog 11 [eAct a at_ ap, eAct b bt bp] h fun r => r = (.bool (decide (a = b)), h) := by
  have ta := ra.cells
  have tb := rb.cells
  have s1 := fun l => (ra.t.app l).str
  have s2 := fun l => (ra.p.app l).str
  have s3 := fun l => (rb.t.app l).str
  have s4 := fun l => (rb.p.app l).str
  refine SpecQ.drop1 rfl (q11 fun env g0 g1 => ?_)
  repeat' (first
    | ((with_reducible apply evs_of); (focus ((conv => lhs; simp (disch := omega) [g0, g1, ta, tb, s1, s2, s3, s4]); done)); try dsimp only)
    | (simp (decide := true) only [sn11, sqW_nrm, sqW_exit, sqW_ret, inBlk_nrm, inBlk_ret, inBlk_same, inBlk_exit, if_true, if_false, retW_nrm, retW_ret])
    | (with_reducible refine gv_split ?_ ?_ <;> (intro hb; try simp only [Bool.not_true, Bool.not_false] at hb) <;> try simp only [hb]))
  all_goals refine fin_b ?_
  all_goals (clear ra rb ta tb s1 s2 s3 s4; cases a; cases b; simp_all)

end Go.Vab

/- How the code of a function is read. Printed by wip/tools/gen2.py (own work). -/
namespace Go.Vab
open Go Go.Proofs
/-! vestry/vestryref18.SameRequest -/
def cx16 : Ctx := ⟨fun _ _ _ => none, TT, 91, [5, 6, 7, 8, 9, 10, 11, 12, 13, 14, 15, 16, 17, 18, 19, 20, 21, 22, 23, 24, 25, 26, 27, 28, 29, 30, 31, 32, 33, 34, 35, 36, 37, 38, 39, 40, 41, 42, 43, 44, 45, 46, 47, 48, 49, 50, 51, 52, 53, 54, 55, 56, 57, 58, 59, 60, 61, 62, 63, 64, 65, 66, 67, 68, 69, 70, 71, 72, 73, 74, 75, 76, 77, 78, 79, 80, 81, 82, 83, 84, 85, 86, 87, 88, 89, 90]⟩
noncomputable def n16_0 : Code := bodyOf Try.f16
noncomputable def n16_1 : Code := cR n16_0
noncomputable def n16_2 : Code := cR n16_1
theorem n16_2_eq (Q : Ex × St → Prop) (s : St) : wC Try.prog cx16 n16_2 Q s = Q (.ret, s) := yE
theorem n16_1_eq (Q : Ex × St → Prop) (env : Env) (h : Heap) : wC Try.prog cx16 n16_1 Q ⟨env, h⟩ = (Evs (mFieldAddr tRequest (env.get 2) 0) fun v0 => Evs (mLoad (.int .u8) v0 h) fun v1 => Evs (mFieldAddr tRequest (env.get 3) 0) fun v2 => Evs (mLoad (.int .u8) v2 h) fun v3 => Evs (mBin .eql v1 v3) fun v4 => Evs (gv v4 true (mFieldAddr tRequest (env.get 2) 1)) fun v6 => Evs (gv v4 true (mLoad (.arr 16 (.int .u8)) v6 h)) fun v7 => Evs (gv v4 true (mFieldAddr tRequest (env.get 3) 1)) fun v8 => Evs (gv v4 true (mLoad (.arr 16 (.int .u8)) v8 h)) fun v9 => Evs (gv v4 true (mEq (.arr 16 (.int .u8)) .eql v7 v9)) fun v10 => Evs (mPick v4 v10 (.bool false)) fun v11 => Evs (gv v11 true (mFieldAddr tRequest (env.get 2) 2)) fun v13 => Evs (gv v11 true (mLoad (.int .u32) v13 h)) fun v14 => Evs (gv v11 true (mFieldAddr tRequest (env.get 3) 2)) fun v15 => Evs (gv v11 true (mLoad (.int .u32) v15 h)) fun v16 => Evs (gv v11 true (mBin .eql v14 v16)) fun v17 => Evs (mPick v11 v17 (.bool false)) fun v18 => Evs (gv v18 true (mFieldAddr tRequest (env.get 2) 3)) fun v20 => Evs (gv v18 true (mLoad tPublic v20 h)) fun v21 => Evs (gv v18 true (mFieldAddr tRequest (env.get 3) 3)) fun v22 => Evs (gv v18 true (mLoad tPublic v22 h)) fun v23 => Evs (gv v18 true (mEq tPublic .eql v21 v23)) fun v24 => Evs (mPick v18 v24 (.bool false)) fun v25 => Evs (gv v25 true (mFieldAddr tRequest (env.get 2) 4)) fun v27 => Evs (gv v25 true (mLoad .cell v27 h)) fun v28 => Evs (gv v25 true (mStr v28 h)) fun v29 => Evs (gv v25 true (mFieldAddr tRequest (env.get 3) 4)) fun v30 => Evs (gv v25 true (mLoad .cell v30 h)) fun v31 => Evs (gv v25 true (mStr v31 h)) fun v32 => Evs (gv v25 true (mBinT .eql v29 v32)) fun v33 => Evs (mPick v25 v33 (.bool false)) fun v34 => Evs (gv v34 true (mFieldAddr tRequest (env.get 2) 5)) fun v36 => Evs (gv v34 true (mLoad tAccess v36 h)) fun v37 => Evs (gv v34 true (mFieldAddr tRequest (env.get 3) 5)) fun v38 => Evs (gv v34 true (mLoad tAccess v38 h)) fun v39 => Evs (gv v34 true (mEq tAccess .eql v37 v39)) fun v40 => Evs (mPick v34 v40 (.bool false)) fun v41 => Evs (gv v41 true (mFieldAddr tRequest (env.get 2) 6)) fun v43 => Evs (gv v41 true (mLoad tCipher v43 h)) fun v44 => Evs (gv v41 true (mFieldAddr tRequest (env.get 3) 6)) fun v45 => Evs (gv v41 true (mLoad tCipher v45 h)) fun v46 => Evs (gv v41 true (mEq tCipher .eql v44 v46)) fun v47 => Evs (mPick v41 v47 (.bool false)) fun v48 => Evs (gv v48 true (mFieldAddr tRequest (env.get 2) 7)) fun v50 => Evs (gv v48 true (mLoad .cell v50 h)) fun v51 => Evs (gv v48 true (mStr v51 h)) fun v52 => Evs (gv v48 true (mFieldAddr tRequest (env.get 3) 7)) fun v53 => Evs (gv v48 true (mLoad .cell v53 h)) fun v54 => Evs (gv v48 true (mStr v54 h)) fun v55 => Evs (gv v48 true (mBinT .eql v52 v55)) fun v56 => Evs (mPick v48 v56 (.bool false)) fun v57 => Evs (gv v57 true (mFieldAddr tRequest (env.get 2) 8)) fun v59 => Evs (gv v57 true (mLoad tAction v59 h)) fun v60 => Evs (gv v57 true (mFieldAddr tRequest (env.get 3) 8)) fun v61 => Evs (gv v57 true (mLoad tAction v61 h)) fun v62 => gW v57 true (SpecA Try.prog 11 [v60, v62] h) h fun r63 => Evs (mPick v57 r63.1 (.bool false)) fun v64 => Evs (gv v64 true (mFieldAddr tRequest (env.get 2) 9)) fun v66 => Evs (gv v64 true (mLoad (.int .u32) v66 r63.2)) fun v67 => Evs (gv v64 true (mFieldAddr tRequest (env.get 3) 9)) fun v68 => Evs (gv v64 true (mLoad (.int .u32) v68 r63.2)) fun v69 => Evs (gv v64 true (mBin .eql v67 v69)) fun v70 => Evs (mPick v64 v70 (.bool false)) fun v71 => Evs (gv v71 true (mFieldAddr tRequest (env.get 2) 10)) fun v73 => Evs (gv v71 true (mLoad tShown v73 r63.2)) fun v74 => Evs (gv v71 true (mFieldAddr tRequest (env.get 3) 10)) fun v75 => Evs (gv v71 true (mLoad tShown v75 r63.2)) fun v76 => gW v71 true (SpecA Try.prog 29 [v74, v76] r63.2) r63.2 fun r77 => Evs (mPick v71 r77.1 (.bool false)) fun v78 => Evs (gv v78 true (mFieldAddr tRequest (env.get 2) 11)) fun v80 => Evs (gv v78 true (mLoad tVoucher v80 r77.2)) fun v81 => Evs (gv v78 true (mFieldAddr tRequest (env.get 3) 11)) fun v82 => Evs (gv v78 true (mLoad tVoucher v82 r77.2)) fun v83 => gW v78 true (SpecA Try.prog 30 [v81, v83] r77.2) r77.2 fun r84 => Evs (mPick v78 r84.1 (.bool false)) fun v85 => wC Try.prog cx16 n16_2 Q ⟨(Env.put env 4 v85), r84.2⟩) := (ySR 1 (cOps (cL n16_1)) (cR n16_1)).trans (by
  refine w0 ?_
  refine wP 5 fun v0 => ?_
  refine wP 6 fun v1 => ?_
  refine wP 7 fun v2 => ?_
  refine wP 8 fun v3 => ?_
  refine wP 9 fun v4 => ?_
  refine wT 10 v4 ?_
  refine wG 11 fun v6 => ?_
  refine wG 12 fun v7 => ?_
  refine wG 13 fun v8 => ?_
  refine wG 14 fun v9 => ?_
  refine wG 15 fun v10 => ?_
  refine wP 16 fun v11 => ?_
  refine wT 17 v11 ?_
  refine wG 18 fun v13 => ?_
  refine wG 19 fun v14 => ?_
  refine wG 20 fun v15 => ?_
  refine wG 21 fun v16 => ?_
  refine wG 22 fun v17 => ?_
  refine wP 23 fun v18 => ?_
  refine wT 24 v18 ?_
  refine wG 25 fun v20 => ?_
  refine wG 26 fun v21 => ?_
  refine wG 27 fun v22 => ?_
  refine wG 28 fun v23 => ?_
  refine wG 29 fun v24 => ?_
  refine wP 30 fun v25 => ?_
  refine wT 31 v25 ?_
  refine wG 32 fun v27 => ?_
  refine wG 33 fun v28 => ?_
  refine wG 34 fun v29 => ?_
  refine wG 35 fun v30 => ?_
  refine wG 36 fun v31 => ?_
  refine wG 37 fun v32 => ?_
  refine wG 38 fun v33 => ?_
  refine wP 39 fun v34 => ?_
  refine wT 40 v34 ?_
  refine wG 41 fun v36 => ?_
  refine wG 42 fun v37 => ?_
  refine wG 43 fun v38 => ?_
  refine wG 44 fun v39 => ?_
  refine wG 45 fun v40 => ?_
  refine wP 46 fun v41 => ?_
  refine wT 47 v41 ?_
  refine wG 48 fun v43 => ?_
  refine wG 49 fun v44 => ?_
  refine wG 50 fun v45 => ?_
  refine wG 51 fun v46 => ?_
  refine wG 52 fun v47 => ?_
  refine wP 53 fun v48 => ?_
  refine wT 54 v48 ?_
  refine wG 55 fun v50 => ?_
  refine wG 56 fun v51 => ?_
  refine wG 57 fun v52 => ?_
  refine wG 58 fun v53 => ?_
  refine wG 59 fun v54 => ?_
  refine wG 60 fun v55 => ?_
  refine wG 61 fun v56 => ?_
  refine wP 62 fun v57 => ?_
  refine wT 63 v57 ?_
  refine wG 64 fun v59 => ?_
  refine wG 65 fun v60 => ?_
  refine wG 66 fun v61 => ?_
  refine wG 67 fun v62 => ?_
  refine wH 68 fun r63 => ?_
  refine wP 69 fun v64 => ?_
  refine wT 70 v64 ?_
  refine wG 71 fun v66 => ?_
  refine wG 72 fun v67 => ?_
  refine wG 73 fun v68 => ?_
  refine wG 74 fun v69 => ?_
  refine wG 75 fun v70 => ?_
  refine wP 76 fun v71 => ?_
  refine wT 77 v71 ?_
  refine wG 78 fun v73 => ?_
  refine wG 79 fun v74 => ?_
  refine wG 80 fun v75 => ?_
  refine wG 81 fun v76 => ?_
  refine wH 82 fun r77 => ?_
  refine wP 83 fun v78 => ?_
  refine wT 84 v78 ?_
  refine wG 85 fun v80 => ?_
  refine wG 86 fun v81 => ?_
  refine wG 87 fun v82 => ?_
  refine wG 88 fun v83 => ?_
  refine wH 89 fun r84 => ?_
  refine wP 90 fun v85 => ?_
  refine wT 4 v85 ?_
  exact wE)
theorem n16_0_eq (Q : Ex × St → Prop) (env : Env) (h : Heap) : wC Try.prog cx16 n16_0 Q ⟨env, h⟩ = (Evs (mNew tRequest (env.get 0) h) fun r0 => Evs (mNew tRequest (env.get 1) r0.2) fun r1 => wC Try.prog cx16 n16_1 Q ⟨(Env.put (Env.put (Env.put env 2 r0.1) 3 r1.1) 4 (.bool false)), r1.2⟩) := (ySR 0 (cOps (cL n16_0)) (cR n16_0)).trans (by
  refine w0 ?_
  refine wH 2 fun r0 => ?_
  refine wH 3 fun r1 => ?_
  refine wT 4 (.bool false) ?_
  exact wE)
theorem fn16 : Try.prog.funcs[16]? = some Try.f16 := by kernel_rfl
theorem q16 {a0 a1 : AV} {h : Heap} {K : AV × Heap → Prop} (H : ∀ env : Env, env.get 0 = a0 → env.get 1 = a1 → wC Try.prog cx16 n16_0 (retW (fun s => (bnd (some (s.env.get 4)) fun v => bnd (some []) fun vs => some (v :: vs))) K) ⟨env, h⟩) : SpecQ Try.prog 16 [a0, a1] h K :=
  bodyW_sound (C := cx16) TT_ok mixed_ok fn16 (by kernel_rfl) (show _ = some n16_0 by kernel_rfl) (by kernel_rfl) (by kernel_rfl) (of_decide_eq_true (by kernel_rfl)) ((show wC Try.prog cx16 n16_0 (retW (fun s => resAll cx16 s Try.f16.results.toList) K) ⟨env0 cx16 [a0, a1], h⟩ = wC Try.prog cx16 n16_0 (retW (fun s => (bnd (some (s.env.get 4)) fun v => bnd (some []) fun vs => some (v :: vs))) K) ⟨[(0, a0), (1, a1), (2, .junk), (3, .junk), (4, .junk)], h⟩ by kernel_rfl).mpr (H [(0, a0), (1, a1), (2, .junk), (3, .junk), (4, .junk)] rfl rfl))
def sn16 := And.intro n16_2_eq (And.intro n16_1_eq (n16_0_eq))
-- draws: 
end Go.Vab

/-
  Requests alike by the document, walked.
-/
namespace Go.Vab
open Go Go.Proofs

set_option maxRecDepth 20000 in
set_option maxHeartbeats 4000000 in
theorem c16 {h : Heap} {a b : Req} {vt vp at_ ap s1 s2 s3 wt wp_ bt bp u1 u2 u3 : AV} (ra : ReqR h a vt vp at_ ap s1 s2 s3) (rb : ReqR h b wt wp_ bt bp u1 u2 u3) :
    SpecQ Try.prog 16 [eReq a vt vp at_ ap s1 s2 s3, eReq b wt wp_ bt bp u1 u2 u3] h fun r => r = (.bool (decide (a = b)), h) := by
  have ta := ra.cells
  have tb := rb.cells
  have s1' := fun l => (ra.t.app l).str
  have s2' := fun l => (ra.p.app l).str
  have s3' := fun l => (rb.t.app l).str
  have s4' := fun l => (rb.p.app l).str
  refine SpecQ.drop1 rfl (q16 fun env g0 g1 => ?_)
  repeat' (first
    | ((with_reducible apply evs_of); (focus ((conv => lhs; simp (disch := omega) [g0, g1, ta, tb, s1', s2', s3', s4']); done)); try dsimp only)
    | ((with_reducible apply gW_do); (focus (simp (disch := omega) [g0, g1, ta, tb, s1', s2', s3', s4']; done)))
    | ((with_reducible apply gW_no); (focus (simp (disch := omega) [g0, g1, ta, tb, s1', s2', s3', s4']; done)); try dsimp only)
    | ((with_reducible apply gW_un); (focus (simp (disch := omega) [g0, g1, ta, tb, s1', s2', s3', s4']; done)); try dsimp only)
    | (with_reducible refine SpecQ.step (c11 (ra.a.app _) (rb.a.app _)) ?_; rintro _ rfl; try dsimp only)
    | (with_reducible refine SpecQ.step (c29 (ra.x.app _) (ra.y.app _) (rb.x.app _) (rb.y.app _)) ?_; rintro _ rfl; try dsimp only)
    | (with_reducible refine SpecQ.step (c30 (ra.z.app _) (rb.z.app _)) ?_; rintro _ rfl; try dsimp only)
    | ((with_reducible apply SpecA_i); (focus ((conv => lhs; simp (disch := omega) [g0, g1, ta, tb, s1', s2', s3', s4']); done)))
    | (simp (decide := true) only [sn16, sqW_nrm, sqW_exit, sqW_ret, inBlk_nrm, inBlk_ret, inBlk_same, inBlk_exit, if_true, if_false, retW_nrm, retW_ret])
    | (with_reducible refine gv_split ?_ ?_ <;> (intro hb; try simp only [Bool.not_true, Bool.not_false] at hb) <;> try simp only [hb])
    | (with_reducible refine gW_split ?_ ?_ <;> (intro hb; try simp only [Bool.not_true, Bool.not_false] at hb) <;> try simp only [hb]))
  all_goals refine fin_b ?_
  all_goals (clear ra rb ta tb s1' s2' s3' s4'; cases a; cases b; simp_all)

end Go.Vab

/- How the code of a function is read. Printed by wip/tools/gen2.py (own work). -/
namespace Go.Vab
open Go Go.Proofs
/-! vestry/forms.sameDelta -/
def cx32 : Ctx := ⟨fun _ _ _ => none, TT, 17, [5, 6, 7, 8, 9, 10, 11, 12, 13, 14, 15, 16]⟩
noncomputable def n32_0 : Code := bodyOf Try.f32
noncomputable def n32_1 : Code := cR n32_0
noncomputable def n32_2 : Code := cR n32_1
theorem n32_2_eq (Q : Ex × St → Prop) (s : St) : wC Try.prog cx32 n32_2 Q s = Q (.ret, s) := yE
theorem n32_1_eq (Q : Ex × St → Prop) (env : Env) (h : Heap) : wC Try.prog cx32 n32_1 Q ⟨env, h⟩ = (Evs (mFieldAddr tDelta (env.get 2) 0) fun v0 => Evs (mLoad .cell v0 h) fun v1 => Evs (mFieldAddr tDelta (env.get 3) 0) fun v2 => Evs (mLoad .cell v2 h) fun v3 => SpecA Try.prog 23 [v1, v3] h fun r4 => Evs (gv r4.1 true (mFieldAddr tDelta (env.get 2) 1)) fun v6 => Evs (gv r4.1 true (mLoad tSignature v6 r4.2)) fun v7 => Evs (gv r4.1 true (mFieldAddr tDelta (env.get 3) 1)) fun v8 => Evs (gv r4.1 true (mLoad tSignature v8 r4.2)) fun v9 => Evs (gv r4.1 true (mEq tSignature .eql v7 v9)) fun v10 => Evs (mPick r4.1 v10 (.bool false)) fun v11 => wC Try.prog cx32 n32_2 Q ⟨(Env.put env 4 v11), r4.2⟩) := (ySR 1 (cOps (cL n32_1)) (cR n32_1)).trans (by
  refine w0 ?_
  refine wP 5 fun v0 => ?_
  refine wP 6 fun v1 => ?_
  refine wP 7 fun v2 => ?_
  refine wP 8 fun v3 => ?_
  refine wH 9 fun r4 => ?_
  refine wT 10 r4.1 ?_
  refine wG 11 fun v6 => ?_
  refine wG 12 fun v7 => ?_
  refine wG 13 fun v8 => ?_
  refine wG 14 fun v9 => ?_
  refine wG 15 fun v10 => ?_
  refine wP 16 fun v11 => ?_
  refine wT 4 v11 ?_
  exact wE)
theorem n32_0_eq (Q : Ex × St → Prop) (env : Env) (h : Heap) : wC Try.prog cx32 n32_0 Q ⟨env, h⟩ = (Evs (mNew tDelta (env.get 0) h) fun r0 => Evs (mNew tDelta (env.get 1) r0.2) fun r1 => wC Try.prog cx32 n32_1 Q ⟨(Env.put (Env.put (Env.put env 2 r0.1) 3 r1.1) 4 (.bool false)), r1.2⟩) := (ySR 0 (cOps (cL n32_0)) (cR n32_0)).trans (by
  refine w0 ?_
  refine wH 2 fun r0 => ?_
  refine wH 3 fun r1 => ?_
  refine wT 4 (.bool false) ?_
  exact wE)
theorem fn32 : Try.prog.funcs[32]? = some Try.f32 := by kernel_rfl
theorem q32 {a0 a1 : AV} {h : Heap} {K : AV × Heap → Prop} (H : ∀ env : Env, env.get 0 = a0 → env.get 1 = a1 → wC Try.prog cx32 n32_0 (retW (fun s => (bnd (some (s.env.get 4)) fun v => bnd (some []) fun vs => some (v :: vs))) K) ⟨env, h⟩) : SpecQ Try.prog 32 [a0, a1] h K :=
  bodyW_sound (C := cx32) TT_ok mixed_ok fn32 (by kernel_rfl) (show _ = some n32_0 by kernel_rfl) (by kernel_rfl) (by kernel_rfl) (of_decide_eq_true (by kernel_rfl)) ((show wC Try.prog cx32 n32_0 (retW (fun s => resAll cx32 s Try.f32.results.toList) K) ⟨env0 cx32 [a0, a1], h⟩ = wC Try.prog cx32 n32_0 (retW (fun s => (bnd (some (s.env.get 4)) fun v => bnd (some []) fun vs => some (v :: vs))) K) ⟨[(0, a0), (1, a1), (2, .junk), (3, .junk), (4, .junk)], h⟩ by kernel_rfl).mpr (H [(0, a0), (1, a1), (2, .junk), (3, .junk), (4, .junk)] rfl rfl))
def sn32 := And.intro n32_2_eq (And.intro n32_1_eq (n32_0_eq))
-- draws: 
end Go.Vab

/- How the code of a function is read. Printed by wip/tools/gen2.py (own work). -/
namespace Go.Vab
open Go Go.Proofs
/-! vestry/vestryref18.SameDelta -/
def cx48 : Ctx := ⟨fun _ _ _ => none, TT, 19, [5, 6, 7, 8, 9, 10, 11, 12, 13, 14, 15, 16, 17, 18]⟩
noncomputable def n48_0 : Code := bodyOf Try.f48
noncomputable def n48_1 : Code := cR n48_0
noncomputable def n48_2 : Code := cR n48_1
theorem n48_2_eq (Q : Ex × St → Prop) (s : St) : wC Try.prog cx48 n48_2 Q s = Q (.ret, s) := yE
theorem n48_1_eq (Q : Ex × St → Prop) (env : Env) (h : Heap) : wC Try.prog cx48 n48_1 Q ⟨env, h⟩ = (Evs (mFieldAddr tDelta (env.get 2) 0) fun v0 => Evs (mLoad .cell v0 h) fun v1 => Evs (mStr v1 h) fun v2 => Evs (mFieldAddr tDelta (env.get 3) 0) fun v3 => Evs (mLoad .cell v3 h) fun v4 => Evs (mStr v4 h) fun v5 => Evs (mBinT .eql v2 v5) fun v6 => Evs (gv v6 true (mFieldAddr tDelta (env.get 2) 1)) fun v8 => Evs (gv v6 true (mLoad tSignature v8 h)) fun v9 => Evs (gv v6 true (mFieldAddr tDelta (env.get 3) 1)) fun v10 => Evs (gv v6 true (mLoad tSignature v10 h)) fun v11 => Evs (gv v6 true (mEq tSignature .eql v9 v11)) fun v12 => Evs (mPick v6 v12 (.bool false)) fun v13 => wC Try.prog cx48 n48_2 Q ⟨(Env.put env 4 v13), h⟩) := (ySR 1 (cOps (cL n48_1)) (cR n48_1)).trans (by
  refine w0 ?_
  refine wP 5 fun v0 => ?_
  refine wP 6 fun v1 => ?_
  refine wP 7 fun v2 => ?_
  refine wP 8 fun v3 => ?_
  refine wP 9 fun v4 => ?_
  refine wP 10 fun v5 => ?_
  refine wP 11 fun v6 => ?_
  refine wT 12 v6 ?_
  refine wG 13 fun v8 => ?_
  refine wG 14 fun v9 => ?_
  refine wG 15 fun v10 => ?_
  refine wG 16 fun v11 => ?_
  refine wG 17 fun v12 => ?_
  refine wP 18 fun v13 => ?_
  refine wT 4 v13 ?_
  exact wE)
theorem n48_0_eq (Q : Ex × St → Prop) (env : Env) (h : Heap) : wC Try.prog cx48 n48_0 Q ⟨env, h⟩ = (Evs (mNew tDelta (env.get 0) h) fun r0 => Evs (mNew tDelta (env.get 1) r0.2) fun r1 => wC Try.prog cx48 n48_1 Q ⟨(Env.put (Env.put (Env.put env 2 r0.1) 3 r1.1) 4 (.bool false)), r1.2⟩) := (ySR 0 (cOps (cL n48_0)) (cR n48_0)).trans (by
  refine w0 ?_
  refine wH 2 fun r0 => ?_
  refine wH 3 fun r1 => ?_
  refine wT 4 (.bool false) ?_
  exact wE)
theorem fn48 : Try.prog.funcs[48]? = some Try.f48 := by kernel_rfl
theorem q48 {a0 a1 : AV} {h : Heap} {K : AV × Heap → Prop} (H : ∀ env : Env, env.get 0 = a0 → env.get 1 = a1 → wC Try.prog cx48 n48_0 (retW (fun s => (bnd (some (s.env.get 4)) fun v => bnd (some []) fun vs => some (v :: vs))) K) ⟨env, h⟩) : SpecQ Try.prog 48 [a0, a1] h K :=
  bodyW_sound (C := cx48) TT_ok mixed_ok fn48 (by kernel_rfl) (show _ = some n48_0 by kernel_rfl) (by kernel_rfl) (by kernel_rfl) (of_decide_eq_true (by kernel_rfl)) ((show wC Try.prog cx48 n48_0 (retW (fun s => resAll cx48 s Try.f48.results.toList) K) ⟨env0 cx48 [a0, a1], h⟩ = wC Try.prog cx48 n48_0 (retW (fun s => (bnd (some (s.env.get 4)) fun v => bnd (some []) fun vs => some (v :: vs))) K) ⟨[(0, a0), (1, a1), (2, .junk), (3, .junk), (4, .junk)], h⟩ by kernel_rfl).mpr (H [(0, a0), (1, a1), (2, .junk), (3, .junk), (4, .junk)] rfl rfl))
def sn48 := And.intro n48_2_eq (And.intro n48_1_eq (n48_0_eq))
-- draws: 
end Go.Vab

/- How the code of a function is read. Printed by wip/tools/gen2.py (own work). -/
namespace Go.Vab
open Go Go.Proofs
/-! slices.EqualFunc[[]vestry/api.Delta,[]vestry/api.Delta,vestry/api.Delta,vestry/api.Delta] -/
def cx31 : Ctx := ⟨fun _ _ _ => none, TT, 32, [10, 11, 12, 13, 19, 20, 21, 22, 23, 24, 25, 26, 27, 28, 29, 31]⟩
noncomputable def n31_0 : Code := bodyOf Try.f31
noncomputable def n31_1 : Code := cR n31_0
noncomputable def n31_2 : Code := cL n31_1
noncomputable def n31_3 : Code := cR n31_2
noncomputable def n31_4 : Code := cL n31_3
noncomputable def n31_5 : Code := cR n31_4
noncomputable def n31_6 : Code := cR n31_3
noncomputable def n31_7 : Code := cR n31_1
noncomputable def n31_8 : Code := cL n31_7
noncomputable def n31_9 : Code := cR n31_8
noncomputable def n31_10 : Code := cB n31_9
noncomputable def n31_11 : Code := cB n31_10
noncomputable def n31_12 : Code := cR n31_11
noncomputable def n31_13 : Code := cL n31_12
noncomputable def n31_14 : Code := cL n31_13
noncomputable def n31_15 : Code := cR n31_13
noncomputable def n31_16 : Code := cR n31_12
noncomputable def n31_17 : Code := cL n31_16
noncomputable def n31_18 : Code := cB n31_17
noncomputable def n31_19 : Code := cR n31_18
noncomputable def n31_20 : Code := cR n31_19
noncomputable def n31_21 : Code := cR n31_20
noncomputable def n31_22 : Code := cL n31_21
noncomputable def n31_23 : Code := cR n31_22
noncomputable def n31_24 : Code := cR n31_21
noncomputable def n31_25 : Code := cR n31_16
noncomputable def n31_26 : Code := cR n31_7
noncomputable def n31_27 : Code := cR n31_26
theorem n31_5_eq (Q : Ex × St → Prop) (s : St) : wC Try.prog cx31 n31_5 Q s = Q (.ret, s) := yE
theorem n31_4_eq (Q : Ex × St → Prop) (env : Env) (h : Heap) : wC Try.prog cx31 n31_4 Q ⟨env, h⟩ = ( wC Try.prog cx31 n31_5 Q ⟨(Env.put env 6 (.bool false)), h⟩) := (ySR 2 (cOps (cL n31_4)) (cR n31_4)).trans (by
  refine w0 ?_
  refine wT 6 (.bool false) ?_
  exact wE)
theorem n31_6_eq (Q : Ex × St → Prop) (s : St) : wC Try.prog cx31 n31_6 Q s = Q (.nrm, s) := yK
theorem n31_3_eq (Q : Ex × St → Prop) (s : St) : wC Try.prog cx31 n31_3 Q s = cndW (s.env.get 14) (wL Try.prog cx31 n31_4 Q s) (wL Try.prog cx31 n31_6 Q s) := yC 14 _ _
theorem n31_2_eq (Q : Ex × St → Prop) (env : Env) (h : Heap) : wC Try.prog cx31 n31_2 Q ⟨env, h⟩ = (Evs (mLenS (env.get 0)) fun v1 => Evs (mLenS (env.get 1)) fun v3 => Evs (mBin .neq v1 v3) fun v4 => wC Try.prog cx31 n31_3 Q ⟨(Env.put env 14 v4), h⟩) := (ySR 1 (cOps (cL n31_2)) (cR n31_2)).trans (by
  refine w0 ?_
  refine wT 10 (env.get 0) ?_
  refine wP 11 fun v1 => ?_
  refine wT 12 (env.get 1) ?_
  refine wP 13 fun v3 => ?_
  refine wP 14 fun v4 => ?_
  exact wE)
theorem n31_14_eq (Q : Ex × St → Prop) (s : St) : wC Try.prog cx31 n31_14 Q s = Q (.nrm, s) := yK
theorem n31_15_eq (Q : Ex × St → Prop) (s : St) : wC Try.prog cx31 n31_15 Q s = Q (.exit 0, s) := yX 0
theorem n31_13_eq (Q : Ex × St → Prop) (s : St) : wC Try.prog cx31 n31_13 Q s = cndW (s.env.get 18) (wL Try.prog cx31 n31_14 Q s) (wL Try.prog cx31 n31_15 Q s) := yC 18 _ _
theorem n31_23_eq (Q : Ex × St → Prop) (s : St) : wC Try.prog cx31 n31_23 Q s = Q (.ret, s) := yE
theorem n31_22_eq (Q : Ex × St → Prop) (env : Env) (h : Heap) : wC Try.prog cx31 n31_22 Q ⟨env, h⟩ = ( wC Try.prog cx31 n31_23 Q ⟨(Env.put env 6 (.bool false)), h⟩) := (ySR 8 (cOps (cL n31_22)) (cR n31_22)).trans (by
  refine w0 ?_
  refine wT 6 (.bool false) ?_
  exact wE)
theorem n31_24_eq (Q : Ex × St → Prop) (s : St) : wC Try.prog cx31 n31_24 Q s = Q (.nrm, s) := yK
theorem n31_21_eq (Q : Ex × St → Prop) (s : St) : wC Try.prog cx31 n31_21 Q s = cndW (s.env.get 30) (wL Try.prog cx31 n31_22 Q s) (wL Try.prog cx31 n31_24 Q s) := yC 30 _ _
theorem n31_20_eq (Q : Ex × St → Prop) (env : Env) (h : Heap) : wC Try.prog cx31 n31_20 Q ⟨env, h⟩ = (Evs (mLoad tDelta (env.get 8) h) fun v1 => Evs (mLoad tDelta (env.get 9) h) fun v2 => fnA Try.prog (env.get 2) [v1, v2] h fun r3 => Evs (mUn .not r3.1) fun v4 => wC Try.prog cx31 n31_21 Q ⟨(Env.put env 30 v4), r3.2⟩) := (ySR 7 (cOps (cL n31_20)) (cR n31_20)).trans (by
  refine w0 ?_
  refine wT 26 (env.get 2) ?_
  refine wP 27 fun v1 => ?_
  refine wP 28 fun v2 => ?_
  refine wH 29 fun r3 => ?_
  refine wP 30 fun v4 => ?_
  exact wE)
theorem n31_19_eq (Q : Ex × St → Prop) (env : Env) (h : Heap) : wC Try.prog cx31 n31_19 Q ⟨env, h⟩ = (Evs (mIdxS tDelta (env.get 1) (env.get 7)) fun v2 => Evs (mLoad tDelta v2 h) fun v3 => Evs (mNew tDelta (.node [.nilslice, (.node [(arr 32 fun _ => 0#8), (arr 32 fun _ => 0#8)])]) h) fun r4 => Evs (stU tDelta r4.1 v3 r4.2) fun r5 => wC Try.prog cx31 n31_20 Q ⟨(Env.put env 9 r4.1), r5.2⟩) := (ySR 6 (cOps (cL n31_19)) (cR n31_19)).trans (by
  refine w0 ?_
  refine wT 22 (env.get 1) ?_
  refine wT 23 (env.get 7) ?_
  refine wP 24 fun v2 => ?_
  refine wP 25 fun v3 => ?_
  refine wH 9 fun r4 => ?_
  refine wHn fun r5 => ?_
  exact wE)
theorem n31_18_eq (Q : Ex × St → Prop) (env : Env) (h : Heap) : wC Try.prog cx31 n31_18 Q ⟨env, h⟩ = (Evs (mIdxS tDelta (env.get 15) (env.get 17)) fun v1 => Evs (mLoad tDelta v1 h) fun v2 => Evs (mNew tDelta (.node [.nilslice, (.node [(arr 32 fun _ => 0#8), (arr 32 fun _ => 0#8)])]) h) fun r3 => Evs (stU tDelta r3.1 v2 r3.2) fun r5 => wC Try.prog cx31 n31_19 Q ⟨(Env.put (Env.put env 8 r3.1) 7 (env.get 17)), r5.2⟩) := (ySR 5 (cOps (cL n31_18)) (cR n31_18)).trans (by
  refine w0 ?_
  refine wT 19 (env.get 17) ?_
  refine wP 20 fun v1 => ?_
  refine wP 21 fun v2 => ?_
  refine wH 8 fun r3 => ?_
  refine wT 7 (env.get 17) ?_
  refine wHn fun r5 => ?_
  exact wE)
theorem n31_17_eq (Q : Ex × St → Prop) (s : St) : wC Try.prog cx31 n31_17 Q s = wC Try.prog cx31 n31_18 (fun r => Q (inBlk 1 r)) s := yB 1 _
theorem n31_25_eq (Q : Ex × St → Prop) (env : Env) (h : Heap) : wC Try.prog cx31 n31_25 Q ⟨env, h⟩ = (Evs (mBin .add (env.get 17) (nat 1)) fun v0 => Q (.nrm, ⟨(Env.put env 17 v0), h⟩)) := (yR 9 (cOps n31_25)).trans (by
  refine w0 ?_
  refine wP 31 fun v0 => ?_
  refine wT 17 v0 ?_
  exact wE)
theorem n31_16_eq (Q : Ex × St → Prop) (s : St) : wC Try.prog cx31 n31_16 Q s = wC Try.prog cx31 n31_17 (sqW (wC Try.prog cx31 n31_25) Q) s := yS _ _
theorem n31_12_eq (Q : Ex × St → Prop) (s : St) : wC Try.prog cx31 n31_12 Q s = wC Try.prog cx31 n31_13 (sqW (wC Try.prog cx31 n31_16) Q) s := yS _ _
theorem n31_11_eq (Q : Ex × St → Prop) (env : Env) (h : Heap) : wC Try.prog cx31 n31_11 Q ⟨env, h⟩ = (Evs (mBin .lss (env.get 17) (env.get 16)) fun v0 => wC Try.prog cx31 n31_12 Q ⟨(Env.put env 18 v0), h⟩) := (ySR 4 (cOps (cL n31_11)) (cR n31_11)).trans (by
  refine w0 ?_
  refine wP 18 fun v0 => ?_
  exact wE)
theorem n31_10_eq (Q : Ex × St → Prop) (s : St) : wC Try.prog cx31 n31_10 Q s = loopW (wC Try.prog cx31 n31_11) Q s := yL _
theorem n31_9_eq (Q : Ex × St → Prop) (s : St) : wC Try.prog cx31 n31_9 Q s = wC Try.prog cx31 n31_10 (fun r => Q (inBlk 0 r)) s := yB 0 _
theorem n31_8_eq (Q : Ex × St → Prop) (env : Env) (h : Heap) : wC Try.prog cx31 n31_8 Q ⟨env, h⟩ = (Evs (mLenS (env.get 0)) fun v1 => wC Try.prog cx31 n31_9 Q ⟨(Env.put (Env.put (Env.put env 15 (env.get 0)) 16 v1) 17 (nat 0)), h⟩) := (ySR 3 (cOps (cL n31_8)) (cR n31_8)).trans (by
  refine w0 ?_
  refine wT 15 (env.get 0) ?_
  refine wP 16 fun v1 => ?_
  refine wT 17 (nat 0) ?_
  exact wE)
theorem n31_27_eq (Q : Ex × St → Prop) (s : St) : wC Try.prog cx31 n31_27 Q s = Q (.ret, s) := yE
theorem n31_26_eq (Q : Ex × St → Prop) (env : Env) (h : Heap) : wC Try.prog cx31 n31_26 Q ⟨env, h⟩ = ( wC Try.prog cx31 n31_27 Q ⟨(Env.put env 6 (.bool true)), h⟩) := (ySR 10 (cOps (cL n31_26)) (cR n31_26)).trans (by
  refine w0 ?_
  refine wT 6 (.bool true) ?_
  exact wE)
theorem n31_7_eq (Q : Ex × St → Prop) (s : St) : wC Try.prog cx31 n31_7 Q s = wC Try.prog cx31 n31_8 (sqW (wC Try.prog cx31 n31_26) Q) s := yS _ _
theorem n31_1_eq (Q : Ex × St → Prop) (s : St) : wC Try.prog cx31 n31_1 Q s = wC Try.prog cx31 n31_2 (sqW (wC Try.prog cx31 n31_7) Q) s := yS _ _
theorem n31_0_eq (Q : Ex × St → Prop) (env : Env) (h : Heap) : wC Try.prog cx31 n31_0 Q ⟨env, h⟩ = ( wC Try.prog cx31 n31_1 Q ⟨(Env.put env 6 (.bool false)), h⟩) := (ySR 0 (cOps (cL n31_0)) (cR n31_0)).trans (by
  refine w0 ?_
  refine wT 6 (.bool false) ?_
  exact wE)
theorem fn31 : Try.prog.funcs[31]? = some Try.f31 := by kernel_rfl
theorem q31 {a0 a1 a2 : AV} {h : Heap} {K : AV × Heap → Prop} (H : ∀ env : Env, env.get 0 = a0 → env.get 1 = a1 → env.get 2 = a2 → wC Try.prog cx31 n31_0 (retW (fun s => (bnd (some (s.env.get 6)) fun v => bnd (some []) fun vs => some (v :: vs))) K) ⟨env, h⟩) : SpecQ Try.prog 31 [a0, a1, a2] h K :=
  bodyW_sound (C := cx31) TT_ok mixed_ok fn31 (by kernel_rfl) (show _ = some n31_0 by kernel_rfl) (by kernel_rfl) (by kernel_rfl) (of_decide_eq_true (by kernel_rfl)) ((show wC Try.prog cx31 n31_0 (retW (fun s => resAll cx31 s Try.f31.results.toList) K) ⟨env0 cx31 [a0, a1, a2], h⟩ = wC Try.prog cx31 n31_0 (retW (fun s => (bnd (some (s.env.get 6)) fun v => bnd (some []) fun vs => some (v :: vs))) K) ⟨[(0, a0), (1, a1), (2, a2), (3, .junk), (4, .junk), (5, .junk), (6, .junk), (7, .junk), (8, .junk), (9, .junk), (14, .junk), (15, .junk), (16, .junk), (17, .junk), (18, .junk), (30, .junk)], h⟩ by kernel_rfl).mpr (H [(0, a0), (1, a1), (2, a2), (3, .junk), (4, .junk), (5, .junk), (6, .junk), (7, .junk), (8, .junk), (9, .junk), (14, .junk), (15, .junk), (16, .junk), (17, .junk), (18, .junk), (30, .junk)] rfl rfl rfl))
def sn31 := And.intro n31_5_eq (And.intro n31_4_eq (And.intro n31_6_eq (And.intro n31_3_eq (And.intro n31_2_eq (And.intro n31_14_eq (And.intro n31_15_eq (And.intro n31_13_eq (And.intro n31_23_eq (And.intro n31_22_eq (And.intro n31_24_eq (And.intro n31_21_eq (And.intro n31_20_eq (And.intro n31_19_eq (And.intro n31_18_eq (And.intro n31_17_eq (And.intro n31_25_eq (And.intro n31_16_eq (And.intro n31_12_eq (And.intro n31_11_eq (And.intro n31_10_eq (And.intro n31_9_eq (And.intro n31_8_eq (And.intro n31_27_eq (And.intro n31_26_eq (And.intro n31_7_eq (And.intro n31_1_eq (n31_0_eq)))))))))))))))))))))))))))
-- draws: 
end Go.Vab
