/-
  Actions, written.
-/
import Derived.Test.YtdmcbbeebjcagaaV4
import Derived.Test.YtdmcbbeebjcagaaV3
set_option linter.all false
set_option linter.unusedSectionVars false
namespace Go.Vab
open Go Go.Proofs

theorem sh32 (x : BitVec 32) : (x.setWidth 64) >>> (8 * 4) = 0#64 := by
  apply BitVec.eq_of_toNat_eq
  have := x.isLt
  rw [BitVec.toNat_ushiftRight, BitVec.toNat_setWidth, Nat.mod_eq_of_lt (by omega), Nat.shiftRight_eq_div_pow]
  simp <;> omega
theorem beN_len (n : BitVec 64) (k : Nat) : (beN n k).length = k := by simp [beN]

theorem flags (k : BitVec 8) : (hW k = true ∧ hE k = false ∧ hR k = true ∧ hT k = false ∧ hA k = false ∧ hP k = false) ∨ (hW k = true ∧ hE k = false ∧ hR k = false ∧ hT k = false ∧ hA k = false ∧ hP k = true) ∨ (hW k = false ∧ hE k = false ∧ hR k = false ∧ hT k = false ∧ hA k = false ∧ hP k = true) ∨ (hW k = false ∧ hE k = true ∧ hR k = true ∧ hT k = false ∧ hA k = false ∧ hP k = false) ∨ (hW k = false ∧ hE k = true ∧ hR k = false ∧ hT k = false ∧ hA k = false ∧ hP k = false) ∨ (hW k = false ∧ hE k = false ∧ hR k = false ∧ hT k = true ∧ hA k = false ∧ hP k = false) ∨ (hW k = false ∧ hE k = false ∧ hR k = false ∧ hT k = false ∧ hA k = true ∧ hP k = false) ∨ (hW k = false ∧ hE k = false ∧ hR k = false ∧ hT k = false ∧ hA k = false ∧ hP k = false) := by
  revert k
  decide

set_option maxHeartbeats 4000000 in
theorem c45 {h : Heap} {wc : Nat} {x : AV} {l : Bs} {a : Actn} {vt vp : AV} (hw : Wx h wc x l) (ra : ActR h a vt vp) (at_ : Ap h vt wc x) (ap : Ap h vp wc x) (ht : a.title.length ≤ 60000) (hp : a.pass.length ≤ 60000) (hb : l.length ≤ 1099510000000) :
    SpecQ Try.prog 45 [wq wc, eAct a vt vp] h (WrQ h wc x (l ++ actB a) (.tuple [])) := by
  have ta := ra.cells
  have f1 : (0 : Nat) = 0 := rfl
  have f2 := f1
  have f3 := f1
  have f4 := f1
  have f5 := f1
  have f6 := f1
  refine q45 fun env g0 g1 => ?_
  unfold wq at g0
  repeat' (first
    | ((with_reducible apply evs_of); (focus ((conv => lhs; simp (disch := omega) [g0, g1, ta, hasV]); done)); try dsimp only)
    | ((with_reducible apply gW_do); (focus (simp (disch := omega) [g0, g1, ta, hasV]; done)))
    | ((with_reducible apply gW_no); (focus (simp (disch := omega) [g0, g1, ta, hasV]; done)); try dsimp only)
    | ((with_reducible apply gW_un); (focus (simp (disch := omega) [g0, g1, ta, hasV]; done)); try dsimp only)
    | ((with_reducible apply cndW_T); (focus (simp (disch := omega) [g0, g1, ta, hasV] <;> omega)))
    | ((with_reducible apply cndW_F); (focus (simp (disch := omega) [g0, g1, ta, hasV] <;> omega)))
    | ((with_reducible apply stabP_i); (focus (simp (disch := omega) [g0, g1, ta, hasV]; done)))
    | (with_reducible apply bothP_i)
    | (with_reducible apply wL_i)
    | ((with_reducible apply ValW_do); (focus (simp (disch := omega) [g0, g1, ta, hasV]; done)); try dsimp only)
    | ((with_reducible apply ValW_no); (focus (simp (disch := omega) [g0, g1, ta, hasV]; done)); try dsimp only)
    | ((with_reducible apply ValW_un); (focus (simp (disch := omega) [g0, g1, ta, hasV]; done)); try dsimp only)
    | (with_reducible refine ValW_i (c65) ?_; try dsimp only)
    | (with_reducible refine SpecQ.step (c65) ?_; rintro _ rfl; try dsimp only)
    | (with_reducible refine stabP_i (c65) ?_)
    | ((with_reducible apply SpecA_i); (focus ((conv => lhs; simp (disch := omega) [g0, g1, ta, hasV]); done)))
    | ((with_reducible apply ValA_i); (focus ((conv => lhs; simp (disch := omega) [g0, g1, ta, hasV]); done)))
    | ((with_reducible apply stabA_i); (focus ((conv => lhs; simp (disch := omega) [g0, g1, ta, hasV]); done)))
    | ((with_reducible apply fnA_i); (focus ((conv => lhs; simp (disch := omega) [g0, g1, ta, hasV]); done)))
    | ((with_reducible apply ValA_fn); (focus ((conv => lhs; simp (disch := omega) [g0, g1, ta, hasV]); done)))
    | ((with_reducible apply stabA_fn); (focus ((conv => lhs; simp (disch := omega) [g0, g1, ta, hasV]); done)))
    | ((with_reducible apply appA_i); (focus ((conv => lhs; simp (disch := omega) [g0, g1, ta, hasV]); done)); (focus ((conv => lhs; simp (disch := omega) [g0, g1, ta, hasV]); done)))
    | ((with_reducible apply stab_do); (focus (simp (disch := omega) [g0, g1, ta, hasV]; done)))
    | (simp (decide := true) only [sn45, sqW_nrm, sqW_exit, sqW_ret, inBlk_nrm, inBlk_ret, inBlk_same, inBlk_exit, if_true, if_false, retW_nrm, retW_ret])
    | (with_reducible refine n45_16_w _ _ _ ?_)
    | (with_reducible refine n45_21_w _ _ _ ?_)
    | (with_reducible refine n45_30_w _ _ _ ?_)
    | (with_reducible refine n45_2_w _ _ _ ?_))
  have bt := ra.t.app [⟨eAct a vt vp, 0, .own⟩, ⟨hasV a.kind, 0, .own⟩]
  have bp := ra.p.app [⟨eAct a vt vp, 0, .own⟩, ⟨hasV a.kind, 0, .own⟩]
  have cl := Cells.new hw [⟨eAct a vt vp, 0, .own⟩, ⟨hasV a.kind, 0, .own⟩]
  have kk := KeepW.ext h [⟨eAct a vt vp, 0, .own⟩, ⟨hasV a.kind, 0, .own⟩] wc x
  have at_ := at_.app [⟨eAct a vt vp, 0, .own⟩, ⟨hasV a.kind, 0, .own⟩]
  have ap := ap.app [⟨eAct a vt vp, 0, .own⟩, ⟨hasV a.kind, 0, .own⟩]
  have hw := hw.app [⟨eAct a vt vp, 0, .own⟩, ⟨hasV a.kind, 0, .own⟩]
  refine SpecQ.step (c38 (size := 4) hw (by omega) (by omega) (.inl (sh32 _)) (by omega)) ?_
  rintro ⟨v, h2⟩ ⟨rfl, x2, hw, k2⟩
  have bt := bt.keep k2 at_
  have bp := bp.keep k2 ap
  have at_ := at_.step k2
  have ap := ap.step k2
  have cl := cl.step k2
  have kk := kk.trans k2
  have b0 : blkAt h2 h.length 0 = some ⟨eAct a vt vp, 0, .own⟩ := cl.blk 0 rfl
  have b1 : blkAt h2 (h.length + 1) 0 = some ⟨hasV a.kind, 0, .own⟩ := cl.blk 1 rfl
  try unfold wp
  unfold hasV at b1
  repeat' (first
    | ((with_reducible apply evs_of); (focus ((conv => lhs; simp (disch := omega) [g0, b0, b1, ta, f1, f2, f3, f4, f5, f6]); done)); try dsimp only)
    | ((with_reducible apply gW_do); (focus (simp (disch := omega) [g0, b0, b1, ta, f1, f2, f3, f4, f5, f6]; done)))
    | ((with_reducible apply gW_no); (focus (simp (disch := omega) [g0, b0, b1, ta, f1, f2, f3, f4, f5, f6]; done)); try dsimp only)
    | ((with_reducible apply gW_un); (focus (simp (disch := omega) [g0, b0, b1, ta, f1, f2, f3, f4, f5, f6]; done)); try dsimp only)
    | ((with_reducible apply cndW_T); (focus (simp (disch := omega) [g0, b0, b1, ta, f1, f2, f3, f4, f5, f6] <;> omega)))
    | ((with_reducible apply cndW_F); (focus (simp (disch := omega) [g0, b0, b1, ta, f1, f2, f3, f4, f5, f6] <;> omega)))
    | ((with_reducible apply stabP_i); (focus (simp (disch := omega) [g0, b0, b1, ta, f1, f2, f3, f4, f5, f6]; done)))
    | (with_reducible apply bothP_i)
    | (with_reducible apply wL_i)
    | ((with_reducible apply ValW_do); (focus (simp (disch := omega) [g0, b0, b1, ta, f1, f2, f3, f4, f5, f6]; done)); try dsimp only)
    | ((with_reducible apply ValW_no); (focus (simp (disch := omega) [g0, b0, b1, ta, f1, f2, f3, f4, f5, f6]; done)); try dsimp only)
    | ((with_reducible apply ValW_un); (focus (simp (disch := omega) [g0, b0, b1, ta, f1, f2, f3, f4, f5, f6]; done)); try dsimp only)
    | ((with_reducible apply SpecA_i); (focus ((conv => lhs; simp (disch := omega) [g0, b0, b1, ta, f1, f2, f3, f4, f5, f6]); done)))
    | ((with_reducible apply ValA_i); (focus ((conv => lhs; simp (disch := omega) [g0, b0, b1, ta, f1, f2, f3, f4, f5, f6]); done)))
    | ((with_reducible apply stabA_i); (focus ((conv => lhs; simp (disch := omega) [g0, b0, b1, ta, f1, f2, f3, f4, f5, f6]); done)))
    | ((with_reducible apply fnA_i); (focus ((conv => lhs; simp (disch := omega) [g0, b0, b1, ta, f1, f2, f3, f4, f5, f6]); done)))
    | ((with_reducible apply ValA_fn); (focus ((conv => lhs; simp (disch := omega) [g0, b0, b1, ta, f1, f2, f3, f4, f5, f6]); done)))
    | ((with_reducible apply stabA_fn); (focus ((conv => lhs; simp (disch := omega) [g0, b0, b1, ta, f1, f2, f3, f4, f5, f6]); done)))
    | ((with_reducible apply appA_i); (focus ((conv => lhs; simp (disch := omega) [g0, b0, b1, ta, f1, f2, f3, f4, f5, f6]); done)); (focus ((conv => lhs; simp (disch := omega) [g0, b0, b1, ta, f1, f2, f3, f4, f5, f6]); done)))
    | ((with_reducible apply stab_do); (focus (simp (disch := omega) [g0, b0, b1, ta, f1, f2, f3, f4, f5, f6]; done)))
    | (simp (decide := true) only [sn45, sqW_nrm, sqW_exit, sqW_ret, inBlk_nrm, inBlk_ret, inBlk_same, inBlk_exit, if_true, if_false, retW_nrm, retW_ret])
    | (with_reducible refine n45_16_w _ _ _ ?_)
    | (with_reducible refine n45_21_w _ _ _ ?_)
    | (with_reducible refine n45_30_w _ _ _ ?_)
    | (with_reducible refine n45_2_w _ _ _ ?_))
  refine SpecQ.step (c38 (size := 1) hw (by omega) (by omega) (.inl (sh8 _)) (by simp [beN_len, Pt.h]; omega)) ?_
  rcases flags a.kind with ⟨f1, f2, f3, f4, f5, f6⟩ | ⟨f1, f2, f3, f4, f5, f6⟩ | ⟨f1, f2, f3, f4, f5, f6⟩ | ⟨f1, f2, f3, f4, f5, f6⟩ | ⟨f1, f2, f3, f4, f5, f6⟩ | ⟨f1, f2, f3, f4, f5, f6⟩ | ⟨f1, f2, f3, f4, f5, f6⟩ | ⟨f1, f2, f3, f4, f5, f6⟩
  · as_aux_lemma =>
    rintro ⟨v, h2⟩ ⟨rfl, x2, hw, k2⟩
    have bt := bt.keep k2 at_
    have bp := bp.keep k2 ap
    have at_ := at_.step k2
    have ap := ap.step k2
    have cl := cl.step k2
    have kk := kk.trans k2
    have b0 : blkAt h2 h.length 0 = some ⟨eAct a vt vp, 0, .own⟩ := cl.blk 0 rfl
    have b1 : blkAt h2 (h.length + 1) 0 = some ⟨hasV a.kind, 0, .own⟩ := cl.blk 1 rfl
    try unfold wp
    unfold hasV at b1
    repeat' (first
      | ((with_reducible apply evs_of); (focus ((conv => lhs; simp (disch := omega) [g0, b0, b1, ta, f1, f2, f3, f4, f5, f6]); done)); try dsimp only)
      | ((with_reducible apply gW_do); (focus (simp (disch := omega) [g0, b0, b1, ta, f1, f2, f3, f4, f5, f6]; done)))
      | ((with_reducible apply gW_no); (focus (simp (disch := omega) [g0, b0, b1, ta, f1, f2, f3, f4, f5, f6]; done)); try dsimp only)
      | ((with_reducible apply gW_un); (focus (simp (disch := omega) [g0, b0, b1, ta, f1, f2, f3, f4, f5, f6]; done)); try dsimp only)
      | ((with_reducible apply cndW_T); (focus (simp (disch := omega) [g0, b0, b1, ta, f1, f2, f3, f4, f5, f6] <;> omega)))
      | ((with_reducible apply cndW_F); (focus (simp (disch := omega) [g0, b0, b1, ta, f1, f2, f3, f4, f5, f6] <;> omega)))
      | ((with_reducible apply stabP_i); (focus (simp (disch := omega) [g0, b0, b1, ta, f1, f2, f3, f4, f5, f6]; done)))
      | (with_reducible apply bothP_i)
      | (with_reducible apply wL_i)
      | ((with_reducible apply ValW_do); (focus (simp (disch := omega) [g0, b0, b1, ta, f1, f2, f3, f4, f5, f6]; done)); try dsimp only)
      | ((with_reducible apply ValW_no); (focus (simp (disch := omega) [g0, b0, b1, ta, f1, f2, f3, f4, f5, f6]; done)); try dsimp only)
      | ((with_reducible apply ValW_un); (focus (simp (disch := omega) [g0, b0, b1, ta, f1, f2, f3, f4, f5, f6]; done)); try dsimp only)
      | ((with_reducible apply SpecA_i); (focus ((conv => lhs; simp (disch := omega) [g0, b0, b1, ta, f1, f2, f3, f4, f5, f6]); done)))
      | ((with_reducible apply ValA_i); (focus ((conv => lhs; simp (disch := omega) [g0, b0, b1, ta, f1, f2, f3, f4, f5, f6]); done)))
      | ((with_reducible apply stabA_i); (focus ((conv => lhs; simp (disch := omega) [g0, b0, b1, ta, f1, f2, f3, f4, f5, f6]); done)))
      | ((with_reducible apply fnA_i); (focus ((conv => lhs; simp (disch := omega) [g0, b0, b1, ta, f1, f2, f3, f4, f5, f6]); done)))
      | ((with_reducible apply ValA_fn); (focus ((conv => lhs; simp (disch := omega) [g0, b0, b1, ta, f1, f2, f3, f4, f5, f6]); done)))
      | ((with_reducible apply stabA_fn); (focus ((conv => lhs; simp (disch := omega) [g0, b0, b1, ta, f1, f2, f3, f4, f5, f6]); done)))
      | ((with_reducible apply appA_i); (focus ((conv => lhs; simp (disch := omega) [g0, b0, b1, ta, f1, f2, f3, f4, f5, f6]); done)); (focus ((conv => lhs; simp (disch := omega) [g0, b0, b1, ta, f1, f2, f3, f4, f5, f6]); done)))
      | ((with_reducible apply stab_do); (focus (simp (disch := omega) [g0, b0, b1, ta, f1, f2, f3, f4, f5, f6]; done)))
      | (simp (decide := true) only [sn45, sqW_nrm, sqW_exit, sqW_ret, inBlk_nrm, inBlk_ret, inBlk_same, inBlk_exit, if_true, if_false, retW_nrm, retW_ret])
      | (with_reducible refine n45_16_w _ _ _ ?_)
      | (with_reducible refine n45_21_w _ _ _ ?_)
      | (with_reducible refine n45_30_w _ _ _ ?_)
      | (with_reducible refine n45_2_w _ _ _ ?_))
    refine SpecQ.step (c42 hw (by simp [beN_len, Pt.h]; omega)) ?_
    as_aux_lemma =>
      rintro ⟨v, h2⟩ ⟨rfl, x2, hw, k2⟩
      have bt := bt.keep k2 at_
      have bp := bp.keep k2 ap
      have at_ := at_.step k2
      have ap := ap.step k2
      have cl := cl.step k2
      have kk := kk.trans k2
      have b0 : blkAt h2 h.length 0 = some ⟨eAct a vt vp, 0, .own⟩ := cl.blk 0 rfl
      have b1 : blkAt h2 (h.length + 1) 0 = some ⟨hasV a.kind, 0, .own⟩ := cl.blk 1 rfl
      try unfold wp
      unfold hasV at b1
      repeat' (first
        | ((with_reducible apply evs_of); (focus ((conv => lhs; simp (disch := omega) [g0, b0, b1, ta, f1, f2, f3, f4, f5, f6]); done)); try dsimp only)
        | ((with_reducible apply gW_do); (focus (simp (disch := omega) [g0, b0, b1, ta, f1, f2, f3, f4, f5, f6]; done)))
        | ((with_reducible apply gW_no); (focus (simp (disch := omega) [g0, b0, b1, ta, f1, f2, f3, f4, f5, f6]; done)); try dsimp only)
        | ((with_reducible apply gW_un); (focus (simp (disch := omega) [g0, b0, b1, ta, f1, f2, f3, f4, f5, f6]; done)); try dsimp only)
        | ((with_reducible apply cndW_T); (focus (simp (disch := omega) [g0, b0, b1, ta, f1, f2, f3, f4, f5, f6] <;> omega)))
        | ((with_reducible apply cndW_F); (focus (simp (disch := omega) [g0, b0, b1, ta, f1, f2, f3, f4, f5, f6] <;> omega)))
        | ((with_reducible apply stabP_i); (focus (simp (disch := omega) [g0, b0, b1, ta, f1, f2, f3, f4, f5, f6]; done)))
        | (with_reducible apply bothP_i)
        | (with_reducible apply wL_i)
        | ((with_reducible apply ValW_do); (focus (simp (disch := omega) [g0, b0, b1, ta, f1, f2, f3, f4, f5, f6]; done)); try dsimp only)
        | ((with_reducible apply ValW_no); (focus (simp (disch := omega) [g0, b0, b1, ta, f1, f2, f3, f4, f5, f6]; done)); try dsimp only)
        | ((with_reducible apply ValW_un); (focus (simp (disch := omega) [g0, b0, b1, ta, f1, f2, f3, f4, f5, f6]; done)); try dsimp only)
        | ((with_reducible apply SpecA_i); (focus ((conv => lhs; simp (disch := omega) [g0, b0, b1, ta, f1, f2, f3, f4, f5, f6]); done)))
        | ((with_reducible apply ValA_i); (focus ((conv => lhs; simp (disch := omega) [g0, b0, b1, ta, f1, f2, f3, f4, f5, f6]); done)))
        | ((with_reducible apply stabA_i); (focus ((conv => lhs; simp (disch := omega) [g0, b0, b1, ta, f1, f2, f3, f4, f5, f6]); done)))
        | ((with_reducible apply fnA_i); (focus ((conv => lhs; simp (disch := omega) [g0, b0, b1, ta, f1, f2, f3, f4, f5, f6]); done)))
        | ((with_reducible apply ValA_fn); (focus ((conv => lhs; simp (disch := omega) [g0, b0, b1, ta, f1, f2, f3, f4, f5, f6]); done)))
        | ((with_reducible apply stabA_fn); (focus ((conv => lhs; simp (disch := omega) [g0, b0, b1, ta, f1, f2, f3, f4, f5, f6]); done)))
        | ((with_reducible apply appA_i); (focus ((conv => lhs; simp (disch := omega) [g0, b0, b1, ta, f1, f2, f3, f4, f5, f6]); done)); (focus ((conv => lhs; simp (disch := omega) [g0, b0, b1, ta, f1, f2, f3, f4, f5, f6]); done)))
        | ((with_reducible apply stab_do); (focus (simp (disch := omega) [g0, b0, b1, ta, f1, f2, f3, f4, f5, f6]; done)))
        | (simp (decide := true) only [sn45, sqW_nrm, sqW_exit, sqW_ret, inBlk_nrm, inBlk_ret, inBlk_same, inBlk_exit, if_true, if_false, retW_nrm, retW_ret])
        | (with_reducible refine n45_16_w _ _ _ ?_)
        | (with_reducible refine n45_21_w _ _ _ ?_)
        | (with_reducible refine n45_30_w _ _ _ ?_)
        | (with_reducible refine n45_2_w _ _ _ ?_))
      refine SpecQ.step (c38 (size := 1) hw (by omega) (by omega) (.inl (sh8 _)) (by simp [beN_len, Pt.h]; omega)) ?_
      as_aux_lemma =>
        rintro ⟨v, h2⟩ ⟨rfl, x2, hw, k2⟩
        have bt := bt.keep k2 at_
        have bp := bp.keep k2 ap
        have at_ := at_.step k2
        have ap := ap.step k2
        have cl := cl.step k2
        have kk := kk.trans k2
        have b0 : blkAt h2 h.length 0 = some ⟨eAct a vt vp, 0, .own⟩ := cl.blk 0 rfl
        have b1 : blkAt h2 (h.length + 1) 0 = some ⟨hasV a.kind, 0, .own⟩ := cl.blk 1 rfl
        try unfold wp
        unfold hasV at b1
        repeat' (first
          | ((with_reducible apply evs_of); (focus ((conv => lhs; simp (disch := omega) [g0, b0, b1, ta, f1, f2, f3, f4, f5, f6]); done)); try dsimp only)
          | ((with_reducible apply gW_do); (focus (simp (disch := omega) [g0, b0, b1, ta, f1, f2, f3, f4, f5, f6]; done)))
          | ((with_reducible apply gW_no); (focus (simp (disch := omega) [g0, b0, b1, ta, f1, f2, f3, f4, f5, f6]; done)); try dsimp only)
          | ((with_reducible apply gW_un); (focus (simp (disch := omega) [g0, b0, b1, ta, f1, f2, f3, f4, f5, f6]; done)); try dsimp only)
          | ((with_reducible apply cndW_T); (focus (simp (disch := omega) [g0, b0, b1, ta, f1, f2, f3, f4, f5, f6] <;> omega)))
          | ((with_reducible apply cndW_F); (focus (simp (disch := omega) [g0, b0, b1, ta, f1, f2, f3, f4, f5, f6] <;> omega)))
          | ((with_reducible apply stabP_i); (focus (simp (disch := omega) [g0, b0, b1, ta, f1, f2, f3, f4, f5, f6]; done)))
          | (with_reducible apply bothP_i)
          | (with_reducible apply wL_i)
          | ((with_reducible apply ValW_do); (focus (simp (disch := omega) [g0, b0, b1, ta, f1, f2, f3, f4, f5, f6]; done)); try dsimp only)
          | ((with_reducible apply ValW_no); (focus (simp (disch := omega) [g0, b0, b1, ta, f1, f2, f3, f4, f5, f6]; done)); try dsimp only)
          | ((with_reducible apply ValW_un); (focus (simp (disch := omega) [g0, b0, b1, ta, f1, f2, f3, f4, f5, f6]; done)); try dsimp only)
          | ((with_reducible apply SpecA_i); (focus ((conv => lhs; simp (disch := omega) [g0, b0, b1, ta, f1, f2, f3, f4, f5, f6]); done)))
          | ((with_reducible apply ValA_i); (focus ((conv => lhs; simp (disch := omega) [g0, b0, b1, ta, f1, f2, f3, f4, f5, f6]); done)))
          | ((with_reducible apply stabA_i); (focus ((conv => lhs; simp (disch := omega) [g0, b0, b1, ta, f1, f2, f3, f4, f5, f6]); done)))
          | ((with_reducible apply fnA_i); (focus ((conv => lhs; simp (disch := omega) [g0, b0, b1, ta, f1, f2, f3, f4, f5, f6]); done)))
          | ((with_reducible apply ValA_fn); (focus ((conv => lhs; simp (disch := omega) [g0, b0, b1, ta, f1, f2, f3, f4, f5, f6]); done)))
          | ((with_reducible apply stabA_fn); (focus ((conv => lhs; simp (disch := omega) [g0, b0, b1, ta, f1, f2, f3, f4, f5, f6]); done)))
          | ((with_reducible apply appA_i); (focus ((conv => lhs; simp (disch := omega) [g0, b0, b1, ta, f1, f2, f3, f4, f5, f6]); done)); (focus ((conv => lhs; simp (disch := omega) [g0, b0, b1, ta, f1, f2, f3, f4, f5, f6]); done)))
          | ((with_reducible apply stab_do); (focus (simp (disch := omega) [g0, b0, b1, ta, f1, f2, f3, f4, f5, f6]; done)))
          | (simp (decide := true) only [sn45, sqW_nrm, sqW_exit, sqW_ret, inBlk_nrm, inBlk_ret, inBlk_same, inBlk_exit, if_true, if_false, retW_nrm, retW_ret])
          | (with_reducible refine n45_16_w _ _ _ ?_)
          | (with_reducible refine n45_21_w _ _ _ ?_)
          | (with_reducible refine n45_30_w _ _ _ ?_)
          | (with_reducible refine n45_2_w _ _ _ ?_))
        refine ⟨by simp [oneOrTuple], x2, ?_, kk⟩
        have e : l ++ actB a = _ := rfl
        simp only [actB, when_, f1, f2, f3, f4, f5, f6, ciB, textB, accB, if_true, if_false, Bool.false_eq_true, List.append_nil, ← List.append_assoc]
        exact hw
  · as_aux_lemma =>
    rintro ⟨v, h2⟩ ⟨rfl, x2, hw, k2⟩
    have bt := bt.keep k2 at_
    have bp := bp.keep k2 ap
    have at_ := at_.step k2
    have ap := ap.step k2
    have cl := cl.step k2
    have kk := kk.trans k2
    have b0 : blkAt h2 h.length 0 = some ⟨eAct a vt vp, 0, .own⟩ := cl.blk 0 rfl
    have b1 : blkAt h2 (h.length + 1) 0 = some ⟨hasV a.kind, 0, .own⟩ := cl.blk 1 rfl
    try unfold wp
    unfold hasV at b1
    repeat' (first
      | ((with_reducible apply evs_of); (focus ((conv => lhs; simp (disch := omega) [g0, b0, b1, ta, f1, f2, f3, f4, f5, f6]); done)); try dsimp only)
      | ((with_reducible apply gW_do); (focus (simp (disch := omega) [g0, b0, b1, ta, f1, f2, f3, f4, f5, f6]; done)))
      | ((with_reducible apply gW_no); (focus (simp (disch := omega) [g0, b0, b1, ta, f1, f2, f3, f4, f5, f6]; done)); try dsimp only)
      | ((with_reducible apply gW_un); (focus (simp (disch := omega) [g0, b0, b1, ta, f1, f2, f3, f4, f5, f6]; done)); try dsimp only)
      | ((with_reducible apply cndW_T); (focus (simp (disch := omega) [g0, b0, b1, ta, f1, f2, f3, f4, f5, f6] <;> omega)))
      | ((with_reducible apply cndW_F); (focus (simp (disch := omega) [g0, b0, b1, ta, f1, f2, f3, f4, f5, f6] <;> omega)))
      | ((with_reducible apply stabP_i); (focus (simp (disch := omega) [g0, b0, b1, ta, f1, f2, f3, f4, f5, f6]; done)))
      | (with_reducible apply bothP_i)
      | (with_reducible apply wL_i)
      | ((with_reducible apply ValW_do); (focus (simp (disch := omega) [g0, b0, b1, ta, f1, f2, f3, f4, f5, f6]; done)); try dsimp only)
      | ((with_reducible apply ValW_no); (focus (simp (disch := omega) [g0, b0, b1, ta, f1, f2, f3, f4, f5, f6]; done)); try dsimp only)
      | ((with_reducible apply ValW_un); (focus (simp (disch := omega) [g0, b0, b1, ta, f1, f2, f3, f4, f5, f6]; done)); try dsimp only)
      | ((with_reducible apply SpecA_i); (focus ((conv => lhs; simp (disch := omega) [g0, b0, b1, ta, f1, f2, f3, f4, f5, f6]); done)))
      | ((with_reducible apply ValA_i); (focus ((conv => lhs; simp (disch := omega) [g0, b0, b1, ta, f1, f2, f3, f4, f5, f6]); done)))
      | ((with_reducible apply stabA_i); (focus ((conv => lhs; simp (disch := omega) [g0, b0, b1, ta, f1, f2, f3, f4, f5, f6]); done)))
      | ((with_reducible apply fnA_i); (focus ((conv => lhs; simp (disch := omega) [g0, b0, b1, ta, f1, f2, f3, f4, f5, f6]); done)))
      | ((with_reducible apply ValA_fn); (focus ((conv => lhs; simp (disch := omega) [g0, b0, b1, ta, f1, f2, f3, f4, f5, f6]); done)))
      | ((with_reducible apply stabA_fn); (focus ((conv => lhs; simp (disch := omega) [g0, b0, b1, ta, f1, f2, f3, f4, f5, f6]); done)))
      | ((with_reducible apply appA_i); (focus ((conv => lhs; simp (disch := omega) [g0, b0, b1, ta, f1, f2, f3, f4, f5, f6]); done)); (focus ((conv => lhs; simp (disch := omega) [g0, b0, b1, ta, f1, f2, f3, f4, f5, f6]); done)))
      | ((with_reducible apply stab_do); (focus (simp (disch := omega) [g0, b0, b1, ta, f1, f2, f3, f4, f5, f6]; done)))
      | (simp (decide := true) only [sn45, sqW_nrm, sqW_exit, sqW_ret, inBlk_nrm, inBlk_ret, inBlk_same, inBlk_exit, if_true, if_false, retW_nrm, retW_ret])
      | (with_reducible refine n45_16_w _ _ _ ?_)
      | (with_reducible refine n45_21_w _ _ _ ?_)
      | (with_reducible refine n45_30_w _ _ _ ?_)
      | (with_reducible refine n45_2_w _ _ _ ?_))
    refine SpecQ.step (c42 hw (by simp [beN_len, Pt.h]; omega)) ?_
    as_aux_lemma =>
      rintro ⟨v, h2⟩ ⟨rfl, x2, hw, k2⟩
      have bt := bt.keep k2 at_
      have bp := bp.keep k2 ap
      have at_ := at_.step k2
      have ap := ap.step k2
      have cl := cl.step k2
      have kk := kk.trans k2
      have b0 : blkAt h2 h.length 0 = some ⟨eAct a vt vp, 0, .own⟩ := cl.blk 0 rfl
      have b1 : blkAt h2 (h.length + 1) 0 = some ⟨hasV a.kind, 0, .own⟩ := cl.blk 1 rfl
      try unfold wp
      unfold hasV at b1
      repeat' (first
        | ((with_reducible apply evs_of); (focus ((conv => lhs; simp (disch := omega) [g0, b0, b1, ta, f1, f2, f3, f4, f5, f6]); done)); try dsimp only)
        | ((with_reducible apply gW_do); (focus (simp (disch := omega) [g0, b0, b1, ta, f1, f2, f3, f4, f5, f6]; done)))
        | ((with_reducible apply gW_no); (focus (simp (disch := omega) [g0, b0, b1, ta, f1, f2, f3, f4, f5, f6]; done)); try dsimp only)
        | ((with_reducible apply gW_un); (focus (simp (disch := omega) [g0, b0, b1, ta, f1, f2, f3, f4, f5, f6]; done)); try dsimp only)
        | ((with_reducible apply cndW_T); (focus (simp (disch := omega) [g0, b0, b1, ta, f1, f2, f3, f4, f5, f6] <;> omega)))
        | ((with_reducible apply cndW_F); (focus (simp (disch := omega) [g0, b0, b1, ta, f1, f2, f3, f4, f5, f6] <;> omega)))
        | ((with_reducible apply stabP_i); (focus (simp (disch := omega) [g0, b0, b1, ta, f1, f2, f3, f4, f5, f6]; done)))
        | (with_reducible apply bothP_i)
        | (with_reducible apply wL_i)
        | ((with_reducible apply ValW_do); (focus (simp (disch := omega) [g0, b0, b1, ta, f1, f2, f3, f4, f5, f6]; done)); try dsimp only)
        | ((with_reducible apply ValW_no); (focus (simp (disch := omega) [g0, b0, b1, ta, f1, f2, f3, f4, f5, f6]; done)); try dsimp only)
        | ((with_reducible apply ValW_un); (focus (simp (disch := omega) [g0, b0, b1, ta, f1, f2, f3, f4, f5, f6]; done)); try dsimp only)
        | ((with_reducible apply SpecA_i); (focus ((conv => lhs; simp (disch := omega) [g0, b0, b1, ta, f1, f2, f3, f4, f5, f6]); done)))
        | ((with_reducible apply ValA_i); (focus ((conv => lhs; simp (disch := omega) [g0, b0, b1, ta, f1, f2, f3, f4, f5, f6]); done)))
        | ((with_reducible apply stabA_i); (focus ((conv => lhs; simp (disch := omega) [g0, b0, b1, ta, f1, f2, f3, f4, f5, f6]); done)))
        | ((with_reducible apply fnA_i); (focus ((conv => lhs; simp (disch := omega) [g0, b0, b1, ta, f1, f2, f3, f4, f5, f6]); done)))
        | ((with_reducible apply ValA_fn); (focus ((conv => lhs; simp (disch := omega) [g0, b0, b1, ta, f1, f2, f3, f4, f5, f6]); done)))
        | ((with_reducible apply stabA_fn); (focus ((conv => lhs; simp (disch := omega) [g0, b0, b1, ta, f1, f2, f3, f4, f5, f6]); done)))
        | ((with_reducible apply appA_i); (focus ((conv => lhs; simp (disch := omega) [g0, b0, b1, ta, f1, f2, f3, f4, f5, f6]); done)); (focus ((conv => lhs; simp (disch := omega) [g0, b0, b1, ta, f1, f2, f3, f4, f5, f6]); done)))
        | ((with_reducible apply stab_do); (focus (simp (disch := omega) [g0, b0, b1, ta, f1, f2, f3, f4, f5, f6]; done)))
        | (simp (decide := true) only [sn45, sqW_nrm, sqW_exit, sqW_ret, inBlk_nrm, inBlk_ret, inBlk_same, inBlk_exit, if_true, if_false, retW_nrm, retW_ret])
        | (with_reducible refine n45_16_w _ _ _ ?_)
        | (with_reducible refine n45_21_w _ _ _ ?_)
        | (with_reducible refine n45_30_w _ _ _ ?_)
        | (with_reducible refine n45_2_w _ _ _ ?_))
      refine SpecQ.step (c40 hw bp ap hp (by simp [beN_len, Pt.h]; omega)) ?_
      as_aux_lemma =>
        rintro ⟨v, h2⟩ ⟨rfl, x2, hw, k2⟩
        have bt := bt.keep k2 at_
        have bp := bp.keep k2 ap
        have at_ := at_.step k2
        have ap := ap.step k2
        have cl := cl.step k2
        have kk := kk.trans k2
        have b0 : blkAt h2 h.length 0 = some ⟨eAct a vt vp, 0, .own⟩ := cl.blk 0 rfl
        have b1 : blkAt h2 (h.length + 1) 0 = some ⟨hasV a.kind, 0, .own⟩ := cl.blk 1 rfl
        try unfold wp
        unfold hasV at b1
        repeat' (first
          | ((with_reducible apply evs_of); (focus ((conv => lhs; simp (disch := omega) [g0, b0, b1, ta, f1, f2, f3, f4, f5, f6]); done)); try dsimp only)
          | ((with_reducible apply gW_do); (focus (simp (disch := omega) [g0, b0, b1, ta, f1, f2, f3, f4, f5, f6]; done)))
          | ((with_reducible apply gW_no); (focus (simp (disch := omega) [g0, b0, b1, ta, f1, f2, f3, f4, f5, f6]; done)); try dsimp only)
          | ((with_reducible apply gW_un); (focus (simp (disch := omega) [g0, b0, b1, ta, f1, f2, f3, f4, f5, f6]; done)); try dsimp only)
          | ((with_reducible apply cndW_T); (focus (simp (disch := omega) [g0, b0, b1, ta, f1, f2, f3, f4, f5, f6] <;> omega)))
          | ((with_reducible apply cndW_F); (focus (simp (disch := omega) [g0, b0, b1, ta, f1, f2, f3, f4, f5, f6] <;> omega)))
          | ((with_reducible apply stabP_i); (focus (simp (disch := omega) [g0, b0, b1, ta, f1, f2, f3, f4, f5, f6]; done)))
          | (with_reducible apply bothP_i)
          | (with_reducible apply wL_i)
          | ((with_reducible apply ValW_do); (focus (simp (disch := omega) [g0, b0, b1, ta, f1, f2, f3, f4, f5, f6]; done)); try dsimp only)
          | ((with_reducible apply ValW_no); (focus (simp (disch := omega) [g0, b0, b1, ta, f1, f2, f3, f4, f5, f6]; done)); try dsimp only)
          | ((with_reducible apply ValW_un); (focus (simp (disch := omega) [g0, b0, b1, ta, f1, f2, f3, f4, f5, f6]; done)); try dsimp only)
          | ((with_reducible apply SpecA_i); (focus ((conv => lhs; simp (disch := omega) [g0, b0, b1, ta, f1, f2, f3, f4, f5, f6]); done)))
          | ((with_reducible apply ValA_i); (focus ((conv => lhs; simp (disch := omega) [g0, b0, b1, ta, f1, f2, f3, f4, f5, f6]); done)))
          | ((with_reducible apply stabA_i); (focus ((conv => lhs; simp (disch := omega) [g0, b0, b1, ta, f1, f2, f3, f4, f5, f6]); done)))
          | ((with_reducible apply fnA_i); (focus ((conv => lhs; simp (disch := omega) [g0, b0, b1, ta, f1, f2, f3, f4, f5, f6]); done)))
          | ((with_reducible apply ValA_fn); (focus ((conv => lhs; simp (disch := omega) [g0, b0, b1, ta, f1, f2, f3, f4, f5, f6]); done)))
          | ((with_reducible apply stabA_fn); (focus ((conv => lhs; simp (disch := omega) [g0, b0, b1, ta, f1, f2, f3, f4, f5, f6]); done)))
          | ((with_reducible apply appA_i); (focus ((conv => lhs; simp (disch := omega) [g0, b0, b1, ta, f1, f2, f3, f4, f5, f6]); done)); (focus ((conv => lhs; simp (disch := omega) [g0, b0, b1, ta, f1, f2, f3, f4, f5, f6]); done)))
          | ((with_reducible apply stab_do); (focus (simp (disch := omega) [g0, b0, b1, ta, f1, f2, f3, f4, f5, f6]; done)))
          | (simp (decide := true) only [sn45, sqW_nrm, sqW_exit, sqW_ret, inBlk_nrm, inBlk_ret, inBlk_same, inBlk_exit, if_true, if_false, retW_nrm, retW_ret])
          | (with_reducible refine n45_16_w _ _ _ ?_)
          | (with_reducible refine n45_21_w _ _ _ ?_)
          | (with_reducible refine n45_30_w _ _ _ ?_)
          | (with_reducible refine n45_2_w _ _ _ ?_))
        refine ⟨by simp [oneOrTuple], x2, ?_, kk⟩
        have e : l ++ actB a = _ := rfl
        simp only [actB, when_, f1, f2, f3, f4, f5, f6, ciB, textB, accB, if_true, if_false, Bool.false_eq_true, List.append_nil, ← List.append_assoc]
        exact hw
  · as_aux_lemma =>
    rintro ⟨v, h2⟩ ⟨rfl, x2, hw, k2⟩
    have bt := bt.keep k2 at_
    have bp := bp.keep k2 ap
    have at_ := at_.step k2
    have ap := ap.step k2
    have cl := cl.step k2
    have kk := kk.trans k2
    have b0 : blkAt h2 h.length 0 = some ⟨eAct a vt vp, 0, .own⟩ := cl.blk 0 rfl
    have b1 : blkAt h2 (h.length + 1) 0 = some ⟨hasV a.kind, 0, .own⟩ := cl.blk 1 rfl
    try unfold wp
    unfold hasV at b1
    repeat' (first
      | ((with_reducible apply evs_of); (focus ((conv => lhs; simp (disch := omega) [g0, b0, b1, ta, f1, f2, f3, f4, f5, f6]); done)); try dsimp only)
      | ((with_reducible apply gW_do); (focus (simp (disch := omega) [g0, b0, b1, ta, f1, f2, f3, f4, f5, f6]; done)))
      | ((with_reducible apply gW_no); (focus (simp (disch := omega) [g0, b0, b1, ta, f1, f2, f3, f4, f5, f6]; done)); try dsimp only)
      | ((with_reducible apply gW_un); (focus (simp (disch := omega) [g0, b0, b1, ta, f1, f2, f3, f4, f5, f6]; done)); try dsimp only)
      | ((with_reducible apply cndW_T); (focus (simp (disch := omega) [g0, b0, b1, ta, f1, f2, f3, f4, f5, f6] <;> omega)))
      | ((with_reducible apply cndW_F); (focus (simp (disch := omega) [g0, b0, b1, ta, f1, f2, f3, f4, f5, f6] <;> omega)))
      | ((with_reducible apply stabP_i); (focus (simp (disch := omega) [g0, b0, b1, ta, f1, f2, f3, f4, f5, f6]; done)))
      | (with_reducible apply bothP_i)
      | (with_reducible apply wL_i)
      | ((with_reducible apply ValW_do); (focus (simp (disch := omega) [g0, b0, b1, ta, f1, f2, f3, f4, f5, f6]; done)); try dsimp only)
      | ((with_reducible apply ValW_no); (focus (simp (disch := omega) [g0, b0, b1, ta, f1, f2, f3, f4, f5, f6]; done)); try dsimp only)
      | ((with_reducible apply ValW_un); (focus (simp (disch := omega) [g0, b0, b1, ta, f1, f2, f3, f4, f5, f6]; done)); try dsimp only)
      | ((with_reducible apply SpecA_i); (focus ((conv => lhs; simp (disch := omega) [g0, b0, b1, ta, f1, f2, f3, f4, f5, f6]); done)))
      | ((with_reducible apply ValA_i); (focus ((conv => lhs; simp (disch := omega) [g0, b0, b1, ta, f1, f2, f3, f4, f5, f6]); done)))
      | ((with_reducible apply stabA_i); (focus ((conv => lhs; simp (disch := omega) [g0, b0, b1, ta, f1, f2, f3, f4, f5, f6]); done)))
      | ((with_reducible apply fnA_i); (focus ((conv => lhs; simp (disch := omega) [g0, b0, b1, ta, f1, f2, f3, f4, f5, f6]); done)))
      | ((with_reducible apply ValA_fn); (focus ((conv => lhs; simp (disch := omega) [g0, b0, b1, ta, f1, f2, f3, f4, f5, f6]); done)))
      | ((with_reducible apply stabA_fn); (focus ((conv => lhs; simp (disch := omega) [g0, b0, b1, ta, f1, f2, f3, f4, f5, f6]); done)))
      | ((with_reducible apply appA_i); (focus ((conv => lhs; simp (disch := omega) [g0, b0, b1, ta, f1, f2, f3, f4, f5, f6]); done)); (focus ((conv => lhs; simp (disch := omega) [g0, b0, b1, ta, f1, f2, f3, f4, f5, f6]); done)))
      | ((with_reducible apply stab_do); (focus (simp (disch := omega) [g0, b0, b1, ta, f1, f2, f3, f4, f5, f6]; done)))
      | (simp (decide := true) only [sn45, sqW_nrm, sqW_exit, sqW_ret, inBlk_nrm, inBlk_ret, inBlk_same, inBlk_exit, if_true, if_false, retW_nrm, retW_ret])
      | (with_reducible refine n45_16_w _ _ _ ?_)
      | (with_reducible refine n45_21_w _ _ _ ?_)
      | (with_reducible refine n45_30_w _ _ _ ?_)
      | (with_reducible refine n45_2_w _ _ _ ?_))
    refine SpecQ.step (c40 hw bp ap hp (by simp [beN_len, Pt.h]; omega)) ?_
    as_aux_lemma =>
      rintro ⟨v, h2⟩ ⟨rfl, x2, hw, k2⟩
      have bt := bt.keep k2 at_
      have bp := bp.keep k2 ap
      have at_ := at_.step k2
      have ap := ap.step k2
      have cl := cl.step k2
      have kk := kk.trans k2
      have b0 : blkAt h2 h.length 0 = some ⟨eAct a vt vp, 0, .own⟩ := cl.blk 0 rfl
      have b1 : blkAt h2 (h.length + 1) 0 = some ⟨hasV a.kind, 0, .own⟩ := cl.blk 1 rfl
      try unfold wp
      unfold hasV at b1
      repeat' (first
        | ((with_reducible apply evs_of); (focus ((conv => lhs; simp (disch := omega) [g0, b0, b1, ta, f1, f2, f3, f4, f5, f6]); done)); try dsimp only)
        | ((with_reducible apply gW_do); (focus (simp (disch := omega) [g0, b0, b1, ta, f1, f2, f3, f4, f5, f6]; done)))
        | ((with_reducible apply gW_no); (focus (simp (disch := omega) [g0, b0, b1, ta, f1, f2, f3, f4, f5, f6]; done)); try dsimp only)
        | ((with_reducible apply gW_un); (focus (simp (disch := omega) [g0, b0, b1, ta, f1, f2, f3, f4, f5, f6]; done)); try dsimp only)
        | ((with_reducible apply cndW_T); (focus (simp (disch := omega) [g0, b0, b1, ta, f1, f2, f3, f4, f5, f6] <;> omega)))
        | ((with_reducible apply cndW_F); (focus (simp (disch := omega) [g0, b0, b1, ta, f1, f2, f3, f4, f5, f6] <;> omega)))
        | ((with_reducible apply stabP_i); (focus (simp (disch := omega) [g0, b0, b1, ta, f1, f2, f3, f4, f5, f6]; done)))
        | (with_reducible apply bothP_i)
        | (with_reducible apply wL_i)
        | ((with_reducible apply ValW_do); (focus (simp (disch := omega) [g0, b0, b1, ta, f1, f2, f3, f4, f5, f6]; done)); try dsimp only)
        | ((with_reducible apply ValW_no); (focus (simp (disch := omega) [g0, b0, b1, ta, f1, f2, f3, f4, f5, f6]; done)); try dsimp only)
        | ((with_reducible apply ValW_un); (focus (simp (disch := omega) [g0, b0, b1, ta, f1, f2, f3, f4, f5, f6]; done)); try dsimp only)
        | ((with_reducible apply SpecA_i); (focus ((conv => lhs; simp (disch := omega) [g0, b0, b1, ta, f1, f2, f3, f4, f5, f6]); done)))
        | ((with_reducible apply ValA_i); (focus ((conv => lhs; simp (disch := omega) [g0, b0, b1, ta, f1, f2, f3, f4, f5, f6]); done)))
        | ((with_reducible apply stabA_i); (focus ((conv => lhs; simp (disch := omega) [g0, b0, b1, ta, f1, f2, f3, f4, f5, f6]); done)))
        | ((with_reducible apply fnA_i); (focus ((conv => lhs; simp (disch := omega) [g0, b0, b1, ta, f1, f2, f3, f4, f5, f6]); done)))
        | ((with_reducible apply ValA_fn); (focus ((conv => lhs; simp (disch := omega) [g0, b0, b1, ta, f1, f2, f3, f4, f5, f6]); done)))
        | ((with_reducible apply stabA_fn); (focus ((conv => lhs; simp (disch := omega) [g0, b0, b1, ta, f1, f2, f3, f4, f5, f6]); done)))
        | ((with_reducible apply appA_i); (focus ((conv => lhs; simp (disch := omega) [g0, b0, b1, ta, f1, f2, f3, f4, f5, f6]); done)); (focus ((conv => lhs; simp (disch := omega) [g0, b0, b1, ta, f1, f2, f3, f4, f5, f6]); done)))
        | ((with_reducible apply stab_do); (focus (simp (disch := omega) [g0, b0, b1, ta, f1, f2, f3, f4, f5, f6]; done)))
        | (simp (decide := true) only [sn45, sqW_nrm, sqW_exit, sqW_ret, inBlk_nrm, inBlk_ret, inBlk_same, inBlk_exit, if_true, if_false, retW_nrm, retW_ret])
        | (with_reducible refine n45_16_w _ _ _ ?_)
        | (with_reducible refine n45_21_w _ _ _ ?_)
        | (with_reducible refine n45_30_w _ _ _ ?_)
        | (with_reducible refine n45_2_w _ _ _ ?_))
      refine ⟨by simp [oneOrTuple], x2, ?_, kk⟩
      have e : l ++ actB a = _ := rfl
      simp only [actB, when_, f1, f2, f3, f4, f5, f6, ciB, textB, accB, if_true, if_false, Bool.false_eq_true, List.append_nil, ← List.append_assoc]
      exact hw
  · as_aux_lemma =>
    rintro ⟨v, h2⟩ ⟨rfl, x2, hw, k2⟩
    have bt := bt.keep k2 at_
    have bp := bp.keep k2 ap
    have at_ := at_.step k2
    have ap := ap.step k2
    have cl := cl.step k2
    have kk := kk.trans k2
    have b0 : blkAt h2 h.length 0 = some ⟨eAct a vt vp, 0, .own⟩ := cl.blk 0 rfl
    have b1 : blkAt h2 (h.length + 1) 0 = some ⟨hasV a.kind, 0, .own⟩ := cl.blk 1 rfl
    try unfold wp
    unfold hasV at b1
    repeat' (first
      | ((with_reducible apply evs_of); (focus ((conv => lhs; simp (disch := omega) [g0, b0, b1, ta, f1, f2, f3, f4, f5, f6]); done)); try dsimp only)
      | ((with_reducible apply gW_do); (focus (simp (disch := omega) [g0, b0, b1, ta, f1, f2, f3, f4, f5, f6]; done)))
      | ((with_reducible apply gW_no); (focus (simp (disch := omega) [g0, b0, b1, ta, f1, f2, f3, f4, f5, f6]; done)); try dsimp only)
      | ((with_reducible apply gW_un); (focus (simp (disch := omega) [g0, b0, b1, ta, f1, f2, f3, f4, f5, f6]; done)); try dsimp only)
      | ((with_reducible apply cndW_T); (focus (simp (disch := omega) [g0, b0, b1, ta, f1, f2, f3, f4, f5, f6] <;> omega)))
      | ((with_reducible apply cndW_F); (focus (simp (disch := omega) [g0, b0, b1, ta, f1, f2, f3, f4, f5, f6] <;> omega)))
      | ((with_reducible apply stabP_i); (focus (simp (disch := omega) [g0, b0, b1, ta, f1, f2, f3, f4, f5, f6]; done)))
      | (with_reducible apply bothP_i)
      | (with_reducible apply wL_i)
      | ((with_reducible apply ValW_do); (focus (simp (disch := omega) [g0, b0, b1, ta, f1, f2, f3, f4, f5, f6]; done)); try dsimp only)
      | ((with_reducible apply ValW_no); (focus (simp (disch := omega) [g0, b0, b1, ta, f1, f2, f3, f4, f5, f6]; done)); try dsimp only)
      | ((with_reducible apply ValW_un); (focus (simp (disch := omega) [g0, b0, b1, ta, f1, f2, f3, f4, f5, f6]; done)); try dsimp only)
      | ((with_reducible apply SpecA_i); (focus ((conv => lhs; simp (disch := omega) [g0, b0, b1, ta, f1, f2, f3, f4, f5, f6]); done)))
      | ((with_reducible apply ValA_i); (focus ((conv => lhs; simp (disch := omega) [g0, b0, b1, ta, f1, f2, f3, f4, f5, f6]); done)))
      | ((with_reducible apply stabA_i); (focus ((conv => lhs; simp (disch := omega) [g0, b0, b1, ta, f1, f2, f3, f4, f5, f6]); done)))
      | ((with_reducible apply fnA_i); (focus ((conv => lhs; simp (disch := omega) [g0, b0, b1, ta, f1, f2, f3, f4, f5, f6]); done)))
      | ((with_reducible apply ValA_fn); (focus ((conv => lhs; simp (disch := omega) [g0, b0, b1, ta, f1, f2, f3, f4, f5, f6]); done)))
      | ((with_reducible apply stabA_fn); (focus ((conv => lhs; simp (disch := omega) [g0, b0, b1, ta, f1, f2, f3, f4, f5, f6]); done)))
      | ((with_reducible apply appA_i); (focus ((conv => lhs; simp (disch := omega) [g0, b0, b1, ta, f1, f2, f3, f4, f5, f6]); done)); (focus ((conv => lhs; simp (disch := omega) [g0, b0, b1, ta, f1, f2, f3, f4, f5, f6]); done)))
      | ((with_reducible apply stab_do); (focus (simp (disch := omega) [g0, b0, b1, ta, f1, f2, f3, f4, f5, f6]; done)))
      | (simp (decide := true) only [sn45, sqW_nrm, sqW_exit, sqW_ret, inBlk_nrm, inBlk_ret, inBlk_same, inBlk_exit, if_true, if_false, retW_nrm, retW_ret])
      | (with_reducible refine n45_16_w _ _ _ ?_)
      | (with_reducible refine n45_21_w _ _ _ ?_)
      | (with_reducible refine n45_30_w _ _ _ ?_)
      | (with_reducible refine n45_2_w _ _ _ ?_))
    refine SpecQ.step (c39 hw (by simp [beN_len, Pt.h]; omega)) ?_
    as_aux_lemma =>
      rintro ⟨v, h2⟩ ⟨rfl, x2, hw, k2⟩
      have bt := bt.keep k2 at_
      have bp := bp.keep k2 ap
      have at_ := at_.step k2
      have ap := ap.step k2
      have cl := cl.step k2
      have kk := kk.trans k2
      have b0 : blkAt h2 h.length 0 = some ⟨eAct a vt vp, 0, .own⟩ := cl.blk 0 rfl
      have b1 : blkAt h2 (h.length + 1) 0 = some ⟨hasV a.kind, 0, .own⟩ := cl.blk 1 rfl
      try unfold wp
      unfold hasV at b1
      repeat' (first
        | ((with_reducible apply evs_of); (focus ((conv => lhs; simp (disch := omega) [g0, b0, b1, ta, f1, f2, f3, f4, f5, f6]); done)); try dsimp only)
        | ((with_reducible apply gW_do); (focus (simp (disch := omega) [g0, b0, b1, ta, f1, f2, f3, f4, f5, f6]; done)))
        | ((with_reducible apply gW_no); (focus (simp (disch := omega) [g0, b0, b1, ta, f1, f2, f3, f4, f5, f6]; done)); try dsimp only)
        | ((with_reducible apply gW_un); (focus (simp (disch := omega) [g0, b0, b1, ta, f1, f2, f3, f4, f5, f6]; done)); try dsimp only)
        | ((with_reducible apply cndW_T); (focus (simp (disch := omega) [g0, b0, b1, ta, f1, f2, f3, f4, f5, f6] <;> omega)))
        | ((with_reducible apply cndW_F); (focus (simp (disch := omega) [g0, b0, b1, ta, f1, f2, f3, f4, f5, f6] <;> omega)))
        | ((with_reducible apply stabP_i); (focus (simp (disch := omega) [g0, b0, b1, ta, f1, f2, f3, f4, f5, f6]; done)))
        | (with_reducible apply bothP_i)
        | (with_reducible apply wL_i)
        | ((with_reducible apply ValW_do); (focus (simp (disch := omega) [g0, b0, b1, ta, f1, f2, f3, f4, f5, f6]; done)); try dsimp only)
        | ((with_reducible apply ValW_no); (focus (simp (disch := omega) [g0, b0, b1, ta, f1, f2, f3, f4, f5, f6]; done)); try dsimp only)
        | ((with_reducible apply ValW_un); (focus (simp (disch := omega) [g0, b0, b1, ta, f1, f2, f3, f4, f5, f6]; done)); try dsimp only)
        | ((with_reducible apply SpecA_i); (focus ((conv => lhs; simp (disch := omega) [g0, b0, b1, ta, f1, f2, f3, f4, f5, f6]); done)))
        | ((with_reducible apply ValA_i); (focus ((conv => lhs; simp (disch := omega) [g0, b0, b1, ta, f1, f2, f3, f4, f5, f6]); done)))
        | ((with_reducible apply stabA_i); (focus ((conv => lhs; simp (disch := omega) [g0, b0, b1, ta, f1, f2, f3, f4, f5, f6]); done)))
        | ((with_reducible apply fnA_i); (focus ((conv => lhs; simp (disch := omega) [g0, b0, b1, ta, f1, f2, f3, f4, f5, f6]); done)))
        | ((with_reducible apply ValA_fn); (focus ((conv => lhs; simp (disch := omega) [g0, b0, b1, ta, f1, f2, f3, f4, f5, f6]); done)))
        | ((with_reducible apply stabA_fn); (focus ((conv => lhs; simp (disch := omega) [g0, b0, b1, ta, f1, f2, f3, f4, f5, f6]); done)))
        | ((with_reducible apply appA_i); (focus ((conv => lhs; simp (disch := omega) [g0, b0, b1, ta, f1, f2, f3, f4, f5, f6]); done)); (focus ((conv => lhs; simp (disch := omega) [g0, b0, b1, ta, f1, f2, f3, f4, f5, f6]); done)))
        | ((with_reducible apply stab_do); (focus (simp (disch := omega) [g0, b0, b1, ta, f1, f2, f3, f4, f5, f6]; done)))
        | (simp (decide := true) only [sn45, sqW_nrm, sqW_exit, sqW_ret, inBlk_nrm, inBlk_ret, inBlk_same, inBlk_exit, if_true, if_false, retW_nrm, retW_ret])
        | (with_reducible refine n45_16_w _ _ _ ?_)
        | (with_reducible refine n45_21_w _ _ _ ?_)
        | (with_reducible refine n45_30_w _ _ _ ?_)
        | (with_reducible refine n45_2_w _ _ _ ?_))
      refine SpecQ.step (c38 (size := 1) hw (by omega) (by omega) (.inl (sh8 _)) (by simp [beN_len, Pt.h]; omega)) ?_
      as_aux_lemma =>
        rintro ⟨v, h2⟩ ⟨rfl, x2, hw, k2⟩
        have bt := bt.keep k2 at_
        have bp := bp.keep k2 ap
        have at_ := at_.step k2
        have ap := ap.step k2
        have cl := cl.step k2
        have kk := kk.trans k2
        have b0 : blkAt h2 h.length 0 = some ⟨eAct a vt vp, 0, .own⟩ := cl.blk 0 rfl
        have b1 : blkAt h2 (h.length + 1) 0 = some ⟨hasV a.kind, 0, .own⟩ := cl.blk 1 rfl
        try unfold wp
        unfold hasV at b1
        repeat' (first
          | ((with_reducible apply evs_of); (focus ((conv => lhs; simp (disch := omega) [g0, b0, b1, ta, f1, f2, f3, f4, f5, f6]); done)); try dsimp only)
          | ((with_reducible apply gW_do); (focus (simp (disch := omega) [g0, b0, b1, ta, f1, f2, f3, f4, f5, f6]; done)))
          | ((with_reducible apply gW_no); (focus (simp (disch := omega) [g0, b0, b1, ta, f1, f2, f3, f4, f5, f6]; done)); try dsimp only)
          | ((with_reducible apply gW_un); (focus (simp (disch := omega) [g0, b0, b1, ta, f1, f2, f3, f4, f5, f6]; done)); try dsimp only)
          | ((with_reducible apply cndW_T); (focus (simp (disch := omega) [g0, b0, b1, ta, f1, f2, f3, f4, f5, f6] <;> omega)))
          | ((with_reducible apply cndW_F); (focus (simp (disch := omega) [g0, b0, b1, ta, f1, f2, f3, f4, f5, f6] <;> omega)))
          | ((with_reducible apply stabP_i); (focus (simp (disch := omega) [g0, b0, b1, ta, f1, f2, f3, f4, f5, f6]; done)))
          | (with_reducible apply bothP_i)
          | (with_reducible apply wL_i)
          | ((with_reducible apply ValW_do); (focus (simp (disch := omega) [g0, b0, b1, ta, f1, f2, f3, f4, f5, f6]; done)); try dsimp only)
          | ((with_reducible apply ValW_no); (focus (simp (disch := omega) [g0, b0, b1, ta, f1, f2, f3, f4, f5, f6]; done)); try dsimp only)
          | ((with_reducible apply ValW_un); (focus (simp (disch := omega) [g0, b0, b1, ta, f1, f2, f3, f4, f5, f6]; done)); try dsimp only)
          | ((with_reducible apply SpecA_i); (focus ((conv => lhs; simp (disch := omega) [g0, b0, b1, ta, f1, f2, f3, f4, f5, f6]); done)))
          | ((with_reducible apply ValA_i); (focus ((conv => lhs; simp (disch := omega) [g0, b0, b1, ta, f1, f2, f3, f4, f5, f6]); done)))
          | ((with_reducible apply stabA_i); (focus ((conv => lhs; simp (disch := omega) [g0, b0, b1, ta, f1, f2, f3, f4, f5, f6]); done)))
          | ((with_reducible apply fnA_i); (focus ((conv => lhs; simp (disch := omega) [g0, b0, b1, ta, f1, f2, f3, f4, f5, f6]); done)))
          | ((with_reducible apply ValA_fn); (focus ((conv => lhs; simp (disch := omega) [g0, b0, b1, ta, f1, f2, f3, f4, f5, f6]); done)))
          | ((with_reducible apply stabA_fn); (focus ((conv => lhs; simp (disch := omega) [g0, b0, b1, ta, f1, f2, f3, f4, f5, f6]); done)))
          | ((with_reducible apply appA_i); (focus ((conv => lhs; simp (disch := omega) [g0, b0, b1, ta, f1, f2, f3, f4, f5, f6]); done)); (focus ((conv => lhs; simp (disch := omega) [g0, b0, b1, ta, f1, f2, f3, f4, f5, f6]); done)))
          | ((with_reducible apply stab_do); (focus (simp (disch := omega) [g0, b0, b1, ta, f1, f2, f3, f4, f5, f6]; done)))
          | (simp (decide := true) only [sn45, sqW_nrm, sqW_exit, sqW_ret, inBlk_nrm, inBlk_ret, inBlk_same, inBlk_exit, if_true, if_false, retW_nrm, retW_ret])
          | (with_reducible refine n45_16_w _ _ _ ?_)
          | (with_reducible refine n45_21_w _ _ _ ?_)
          | (with_reducible refine n45_30_w _ _ _ ?_)
          | (with_reducible refine n45_2_w _ _ _ ?_))
        refine ⟨by simp [oneOrTuple], x2, ?_, kk⟩
        have e : l ++ actB a = _ := rfl
        simp only [actB, when_, f1, f2, f3, f4, f5, f6, ciB, textB, accB, if_true, if_false, Bool.false_eq_true, List.append_nil, ← List.append_assoc]
        exact hw
  · as_aux_lemma =>
    rintro ⟨v, h2⟩ ⟨rfl, x2, hw, k2⟩
    have bt := bt.keep k2 at_
    have bp := bp.keep k2 ap
    have at_ := at_.step k2
    have ap := ap.step k2
    have cl := cl.step k2
    have kk := kk.trans k2
    have b0 : blkAt h2 h.length 0 = some ⟨eAct a vt vp, 0, .own⟩ := cl.blk 0 rfl
    have b1 : blkAt h2 (h.length + 1) 0 = some ⟨hasV a.kind, 0, .own⟩ := cl.blk 1 rfl
    try unfold wp
    unfold hasV at b1
    repeat' (first
      | ((with_reducible apply evs_of); (focus ((conv => lhs; simp (disch := omega) [g0, b0, b1, ta, f1, f2, f3, f4, f5, f6]); done)); try dsimp only)
      | ((with_reducible apply gW_do); (focus (simp (disch := omega) [g0, b0, b1, ta, f1, f2, f3, f4, f5, f6]; done)))
      | ((with_reducible apply gW_no); (focus (simp (disch := omega) [g0, b0, b1, ta, f1, f2, f3, f4, f5, f6]; done)); try dsimp only)
      | ((with_reducible apply gW_un); (focus (simp (disch := omega) [g0, b0, b1, ta, f1, f2, f3, f4, f5, f6]; done)); try dsimp only)
      | ((with_reducible apply cndW_T); (focus (simp (disch := omega) [g0, b0, b1, ta, f1, f2, f3, f4, f5, f6] <;> omega)))
      | ((with_reducible apply cndW_F); (focus (simp (disch := omega) [g0, b0, b1, ta, f1, f2, f3, f4, f5, f6] <;> omega)))
      | ((with_reducible apply stabP_i); (focus (simp (disch := omega) [g0, b0, b1, ta, f1, f2, f3, f4, f5, f6]; done)))
      | (with_reducible apply bothP_i)
      | (with_reducible apply wL_i)
      | ((with_reducible apply ValW_do); (focus (simp (disch := omega) [g0, b0, b1, ta, f1, f2, f3, f4, f5, f6]; done)); try dsimp only)
      | ((with_reducible apply ValW_no); (focus (simp (disch := omega) [g0, b0, b1, ta, f1, f2, f3, f4, f5, f6]; done)); try dsimp only)
      | ((with_reducible apply ValW_un); (focus (simp (disch := omega) [g0, b0, b1, ta, f1, f2, f3, f4, f5, f6]; done)); try dsimp only)
      | ((with_reducible apply SpecA_i); (focus ((conv => lhs; simp (disch := omega) [g0, b0, b1, ta, f1, f2, f3, f4, f5, f6]); done)))
      | ((with_reducible apply ValA_i); (focus ((conv => lhs; simp (disch := omega) [g0, b0, b1, ta, f1, f2, f3, f4, f5, f6]); done)))
      | ((with_reducible apply stabA_i); (focus ((conv => lhs; simp (disch := omega) [g0, b0, b1, ta, f1, f2, f3, f4, f5, f6]); done)))
      | ((with_reducible apply fnA_i); (focus ((conv => lhs; simp (disch := omega) [g0, b0, b1, ta, f1, f2, f3, f4, f5, f6]); done)))
      | ((with_reducible apply ValA_fn); (focus ((conv => lhs; simp (disch := omega) [g0, b0, b1, ta, f1, f2, f3, f4, f5, f6]); done)))
      | ((with_reducible apply stabA_fn); (focus ((conv => lhs; simp (disch := omega) [g0, b0, b1, ta, f1, f2, f3, f4, f5, f6]); done)))
      | ((with_reducible apply appA_i); (focus ((conv => lhs; simp (disch := omega) [g0, b0, b1, ta, f1, f2, f3, f4, f5, f6]); done)); (focus ((conv => lhs; simp (disch := omega) [g0, b0, b1, ta, f1, f2, f3, f4, f5, f6]); done)))
      | ((with_reducible apply stab_do); (focus (simp (disch := omega) [g0, b0, b1, ta, f1, f2, f3, f4, f5, f6]; done)))
      | (simp (decide := true) only [sn45, sqW_nrm, sqW_exit, sqW_ret, inBlk_nrm, inBlk_ret, inBlk_same, inBlk_exit, if_true, if_false, retW_nrm, retW_ret])
      | (with_reducible refine n45_16_w _ _ _ ?_)
      | (with_reducible refine n45_21_w _ _ _ ?_)
      | (with_reducible refine n45_30_w _ _ _ ?_)
      | (with_reducible refine n45_2_w _ _ _ ?_))
    refine SpecQ.step (c39 hw (by simp [beN_len, Pt.h]; omega)) ?_
    as_aux_lemma =>
      rintro ⟨v, h2⟩ ⟨rfl, x2, hw, k2⟩
      have bt := bt.keep k2 at_
      have bp := bp.keep k2 ap
      have at_ := at_.step k2
      have ap := ap.step k2
      have cl := cl.step k2
      have kk := kk.trans k2
      have b0 : blkAt h2 h.length 0 = some ⟨eAct a vt vp, 0, .own⟩ := cl.blk 0 rfl
      have b1 : blkAt h2 (h.length + 1) 0 = some ⟨hasV a.kind, 0, .own⟩ := cl.blk 1 rfl
      try unfold wp
      unfold hasV at b1
      repeat' (first
        | ((with_reducible apply evs_of); (focus ((conv => lhs; simp (disch := omega) [g0, b0, b1, ta, f1, f2, f3, f4, f5, f6]); done)); try dsimp only)
        | ((with_reducible apply gW_do); (focus (simp (disch := omega) [g0, b0, b1, ta, f1, f2, f3, f4, f5, f6]; done)))
        | ((with_reducible apply gW_no); (focus (simp (disch := omega) [g0, b0, b1, ta, f1, f2, f3, f4, f5, f6]; done)); try dsimp only)
        | ((with_reducible apply gW_un); (focus (simp (disch := omega) [g0, b0, b1, ta, f1, f2, f3, f4, f5, f6]; done)); try dsimp only)
        | ((with_reducible apply cndW_T); (focus (simp (disch := omega) [g0, b0, b1, ta, f1, f2, f3, f4, f5, f6] <;> omega)))
        | ((with_reducible apply cndW_F); (focus (simp (disch := omega) [g0, b0, b1, ta, f1, f2, f3, f4, f5, f6] <;> omega)))
        | ((with_reducible apply stabP_i); (focus (simp (disch := omega) [g0, b0, b1, ta, f1, f2, f3, f4, f5, f6]; done)))
        | (with_reducible apply bothP_i)
        | (with_reducible apply wL_i)
        | ((with_reducible apply ValW_do); (focus (simp (disch := omega) [g0, b0, b1, ta, f1, f2, f3, f4, f5, f6]; done)); try dsimp only)
        | ((with_reducible apply ValW_no); (focus (simp (disch := omega) [g0, b0, b1, ta, f1, f2, f3, f4, f5, f6]; done)); try dsimp only)
        | ((with_reducible apply ValW_un); (focus (simp (disch := omega) [g0, b0, b1, ta, f1, f2, f3, f4, f5, f6]; done)); try dsimp only)
        | ((with_reducible apply SpecA_i); (focus ((conv => lhs; simp (disch := omega) [g0, b0, b1, ta, f1, f2, f3, f4, f5, f6]); done)))
        | ((with_reducible apply ValA_i); (focus ((conv => lhs; simp (disch := omega) [g0, b0, b1, ta, f1, f2, f3, f4, f5, f6]); done)))
        | ((with_reducible apply stabA_i); (focus ((conv => lhs; simp (disch := omega) [g0, b0, b1, ta, f1, f2, f3, f4, f5, f6]); done)))
        | ((with_reducible apply fnA_i); (focus ((conv => lhs; simp (disch := omega) [g0, b0, b1, ta, f1, f2, f3, f4, f5, f6]); done)))
        | ((with_reducible apply ValA_fn); (focus ((conv => lhs; simp (disch := omega) [g0, b0, b1, ta, f1, f2, f3, f4, f5, f6]); done)))
        | ((with_reducible apply stabA_fn); (focus ((conv => lhs; simp (disch := omega) [g0, b0, b1, ta, f1, f2, f3, f4, f5, f6]); done)))
        | ((with_reducible apply appA_i); (focus ((conv => lhs; simp (disch := omega) [g0, b0, b1, ta, f1, f2, f3, f4, f5, f6]); done)); (focus ((conv => lhs; simp (disch := omega) [g0, b0, b1, ta, f1, f2, f3, f4, f5, f6]); done)))
        | ((with_reducible apply stab_do); (focus (simp (disch := omega) [g0, b0, b1, ta, f1, f2, f3, f4, f5, f6]; done)))
        | (simp (decide := true) only [sn45, sqW_nrm, sqW_exit, sqW_ret, inBlk_nrm, inBlk_ret, inBlk_same, inBlk_exit, if_true, if_false, retW_nrm, retW_ret])
        | (with_reducible refine n45_16_w _ _ _ ?_)
        | (with_reducible refine n45_21_w _ _ _ ?_)
        | (with_reducible refine n45_30_w _ _ _ ?_)
        | (with_reducible refine n45_2_w _ _ _ ?_))
      refine ⟨by simp [oneOrTuple], x2, ?_, kk⟩
      have e : l ++ actB a = _ := rfl
      simp only [actB, when_, f1, f2, f3, f4, f5, f6, ciB, textB, accB, if_true, if_false, Bool.false_eq_true, List.append_nil, ← List.append_assoc]
      exact hw
  · as_aux_lemma =>
    rintro ⟨v, h2⟩ ⟨rfl, x2, hw, k2⟩
    have bt := bt.keep k2 at_
    have bp := bp.keep k2 ap
    have at_ := at_.step k2
    have ap := ap.step k2
    have cl := cl.step k2
    have kk := kk.trans k2
    have b0 : blkAt h2 h.length 0 = some ⟨eAct a vt vp, 0, .own⟩ := cl.blk 0 rfl
    have b1 : blkAt h2 (h.length + 1) 0 = some ⟨hasV a.kind, 0, .own⟩ := cl.blk 1 rfl
    try unfold wp
    unfold hasV at b1
    repeat' (first
      | ((with_reducible apply evs_of); (focus ((conv => lhs; simp (disch := omega) [g0, b0, b1, ta, f1, f2, f3, f4, f5, f6]); done)); try dsimp only)
      | ((with_reducible apply gW_do); (focus (simp (disch := omega) [g0, b0, b1, ta, f1, f2, f3, f4, f5, f6]; done)))
      | ((with_reducible apply gW_no); (focus (simp (disch := omega) [g0, b0, b1, ta, f1, f2, f3, f4, f5, f6]; done)); try dsimp only)
      | ((with_reducible apply gW_un); (focus (simp (disch := omega) [g0, b0, b1, ta, f1, f2, f3, f4, f5, f6]; done)); try dsimp only)
      | ((with_reducible apply cndW_T); (focus (simp (disch := omega) [g0, b0, b1, ta, f1, f2, f3, f4, f5, f6] <;> omega)))
      | ((with_reducible apply cndW_F); (focus (simp (disch := omega) [g0, b0, b1, ta, f1, f2, f3, f4, f5, f6] <;> omega)))
      | ((with_reducible apply stabP_i); (focus (simp (disch := omega) [g0, b0, b1, ta, f1, f2, f3, f4, f5, f6]; done)))
      | (with_reducible apply bothP_i)
      | (with_reducible apply wL_i)
      | ((with_reducible apply ValW_do); (focus (simp (disch := omega) [g0, b0, b1, ta, f1, f2, f3, f4, f5, f6]; done)); try dsimp only)
      | ((with_reducible apply ValW_no); (focus (simp (disch := omega) [g0, b0, b1, ta, f1, f2, f3, f4, f5, f6]; done)); try dsimp only)
      | ((with_reducible apply ValW_un); (focus (simp (disch := omega) [g0, b0, b1, ta, f1, f2, f3, f4, f5, f6]; done)); try dsimp only)
      | ((with_reducible apply SpecA_i); (focus ((conv => lhs; simp (disch := omega) [g0, b0, b1, ta, f1, f2, f3, f4, f5, f6]); done)))
      | ((with_reducible apply ValA_i); (focus ((conv => lhs; simp (disch := omega) [g0, b0, b1, ta, f1, f2, f3, f4, f5, f6]); done)))
      | ((with_reducible apply stabA_i); (focus ((conv => lhs; simp (disch := omega) [g0, b0, b1, ta, f1, f2, f3, f4, f5, f6]); done)))
      | ((with_reducible apply fnA_i); (focus ((conv => lhs; simp (disch := omega) [g0, b0, b1, ta, f1, f2, f3, f4, f5, f6]); done)))
      | ((with_reducible apply ValA_fn); (focus ((conv => lhs; simp (disch := omega) [g0, b0, b1, ta, f1, f2, f3, f4, f5, f6]); done)))
      | ((with_reducible apply stabA_fn); (focus ((conv => lhs; simp (disch := omega) [g0, b0, b1, ta, f1, f2, f3, f4, f5, f6]); done)))
      | ((with_reducible apply appA_i); (focus ((conv => lhs; simp (disch := omega) [g0, b0, b1, ta, f1, f2, f3, f4, f5, f6]); done)); (focus ((conv => lhs; simp (disch := omega) [g0, b0, b1, ta, f1, f2, f3, f4, f5, f6]); done)))
      | ((with_reducible apply stab_do); (focus (simp (disch := omega) [g0, b0, b1, ta, f1, f2, f3, f4, f5, f6]; done)))
      | (simp (decide := true) only [sn45, sqW_nrm, sqW_exit, sqW_ret, inBlk_nrm, inBlk_ret, inBlk_same, inBlk_exit, if_true, if_false, retW_nrm, retW_ret])
      | (with_reducible refine n45_16_w _ _ _ ?_)
      | (with_reducible refine n45_21_w _ _ _ ?_)
      | (with_reducible refine n45_30_w _ _ _ ?_)
      | (with_reducible refine n45_2_w _ _ _ ?_))
    refine SpecQ.step (c40 hw bt at_ ht (by simp [beN_len, Pt.h]; omega)) ?_
    as_aux_lemma =>
      rintro ⟨v, h2⟩ ⟨rfl, x2, hw, k2⟩
      have bt := bt.keep k2 at_
      have bp := bp.keep k2 ap
      have at_ := at_.step k2
      have ap := ap.step k2
      have cl := cl.step k2
      have kk := kk.trans k2
      have b0 : blkAt h2 h.length 0 = some ⟨eAct a vt vp, 0, .own⟩ := cl.blk 0 rfl
      have b1 : blkAt h2 (h.length + 1) 0 = some ⟨hasV a.kind, 0, .own⟩ := cl.blk 1 rfl
      try unfold wp
      unfold hasV at b1
      repeat' (first
        | ((with_reducible apply evs_of); (focus ((conv => lhs; simp (disch := omega) [g0, b0, b1, ta, f1, f2, f3, f4, f5, f6]); done)); try dsimp only)
        | ((with_reducible apply gW_do); (focus (simp (disch := omega) [g0, b0, b1, ta, f1, f2, f3, f4, f5, f6]; done)))
        | ((with_reducible apply gW_no); (focus (simp (disch := omega) [g0, b0, b1, ta, f1, f2, f3, f4, f5, f6]; done)); try dsimp only)
        | ((with_reducible apply gW_un); (focus (simp (disch := omega) [g0, b0, b1, ta, f1, f2, f3, f4, f5, f6]; done)); try dsimp only)
        | ((with_reducible apply cndW_T); (focus (simp (disch := omega) [g0, b0, b1, ta, f1, f2, f3, f4, f5, f6] <;> omega)))
        | ((with_reducible apply cndW_F); (focus (simp (disch := omega) [g0, b0, b1, ta, f1, f2, f3, f4, f5, f6] <;> omega)))
        | ((with_reducible apply stabP_i); (focus (simp (disch := omega) [g0, b0, b1, ta, f1, f2, f3, f4, f5, f6]; done)))
        | (with_reducible apply bothP_i)
        | (with_reducible apply wL_i)
        | ((with_reducible apply ValW_do); (focus (simp (disch := omega) [g0, b0, b1, ta, f1, f2, f3, f4, f5, f6]; done)); try dsimp only)
        | ((with_reducible apply ValW_no); (focus (simp (disch := omega) [g0, b0, b1, ta, f1, f2, f3, f4, f5, f6]; done)); try dsimp only)
        | ((with_reducible apply ValW_un); (focus (simp (disch := omega) [g0, b0, b1, ta, f1, f2, f3, f4, f5, f6]; done)); try dsimp only)
        | ((with_reducible apply SpecA_i); (focus ((conv => lhs; simp (disch := omega) [g0, b0, b1, ta, f1, f2, f3, f4, f5, f6]); done)))
        | ((with_reducible apply ValA_i); (focus ((conv => lhs; simp (disch := omega) [g0, b0, b1, ta, f1, f2, f3, f4, f5, f6]); done)))
        | ((with_reducible apply stabA_i); (focus ((conv => lhs; simp (disch := omega) [g0, b0, b1, ta, f1, f2, f3, f4, f5, f6]); done)))
        | ((with_reducible apply fnA_i); (focus ((conv => lhs; simp (disch := omega) [g0, b0, b1, ta, f1, f2, f3, f4, f5, f6]); done)))
        | ((with_reducible apply ValA_fn); (focus ((conv => lhs; simp (disch := omega) [g0, b0, b1, ta, f1, f2, f3, f4, f5, f6]); done)))
        | ((with_reducible apply stabA_fn); (focus ((conv => lhs; simp (disch := omega) [g0, b0, b1, ta, f1, f2, f3, f4, f5, f6]); done)))
        | ((with_reducible apply appA_i); (focus ((conv => lhs; simp (disch := omega) [g0, b0, b1, ta, f1, f2, f3, f4, f5, f6]); done)); (focus ((conv => lhs; simp (disch := omega) [g0, b0, b1, ta, f1, f2, f3, f4, f5, f6]); done)))
        | ((with_reducible apply stab_do); (focus (simp (disch := omega) [g0, b0, b1, ta, f1, f2, f3, f4, f5, f6]; done)))
        | (simp (decide := true) only [sn45, sqW_nrm, sqW_exit, sqW_ret, inBlk_nrm, inBlk_ret, inBlk_same, inBlk_exit, if_true, if_false, retW_nrm, retW_ret])
        | (with_reducible refine n45_16_w _ _ _ ?_)
        | (with_reducible refine n45_21_w _ _ _ ?_)
        | (with_reducible refine n45_30_w _ _ _ ?_)
        | (with_reducible refine n45_2_w _ _ _ ?_))
      refine ⟨by simp [oneOrTuple], x2, ?_, kk⟩
      have e : l ++ actB a = _ := rfl
      simp only [actB, when_, f1, f2, f3, f4, f5, f6, ciB, textB, accB, if_true, if_false, Bool.false_eq_true, List.append_nil, ← List.append_assoc]
      exact hw
  · as_aux_lemma =>
    rintro ⟨v, h2⟩ ⟨rfl, x2, hw, k2⟩
    have bt := bt.keep k2 at_
    have bp := bp.keep k2 ap
    have at_ := at_.step k2
    have ap := ap.step k2
    have cl := cl.step k2
    have kk := kk.trans k2
    have b0 : blkAt h2 h.length 0 = some ⟨eAct a vt vp, 0, .own⟩ := cl.blk 0 rfl
    have b1 : blkAt h2 (h.length + 1) 0 = some ⟨hasV a.kind, 0, .own⟩ := cl.blk 1 rfl
    try unfold wp
    unfold hasV at b1
    repeat' (first
      | ((with_reducible apply evs_of); (focus ((conv => lhs; simp (disch := omega) [g0, b0, b1, ta, f1, f2, f3, f4, f5, f6]); done)); try dsimp only)
      | ((with_reducible apply gW_do); (focus (simp (disch := omega) [g0, b0, b1, ta, f1, f2, f3, f4, f5, f6]; done)))
      | ((with_reducible apply gW_no); (focus (simp (disch := omega) [g0, b0, b1, ta, f1, f2, f3, f4, f5, f6]; done)); try dsimp only)
      | ((with_reducible apply gW_un); (focus (simp (disch := omega) [g0, b0, b1, ta, f1, f2, f3, f4, f5, f6]; done)); try dsimp only)
      | ((with_reducible apply cndW_T); (focus (simp (disch := omega) [g0, b0, b1, ta, f1, f2, f3, f4, f5, f6] <;> omega)))
      | ((with_reducible apply cndW_F); (focus (simp (disch := omega) [g0, b0, b1, ta, f1, f2, f3, f4, f5, f6] <;> omega)))
      | ((with_reducible apply stabP_i); (focus (simp (disch := omega) [g0, b0, b1, ta, f1, f2, f3, f4, f5, f6]; done)))
      | (with_reducible apply bothP_i)
      | (with_reducible apply wL_i)
      | ((with_reducible apply ValW_do); (focus (simp (disch := omega) [g0, b0, b1, ta, f1, f2, f3, f4, f5, f6]; done)); try dsimp only)
      | ((with_reducible apply ValW_no); (focus (simp (disch := omega) [g0, b0, b1, ta, f1, f2, f3, f4, f5, f6]; done)); try dsimp only)
      | ((with_reducible apply ValW_un); (focus (simp (disch := omega) [g0, b0, b1, ta, f1, f2, f3, f4, f5, f6]; done)); try dsimp only)
      | ((with_reducible apply SpecA_i); (focus ((conv => lhs; simp (disch := omega) [g0, b0, b1, ta, f1, f2, f3, f4, f5, f6]); done)))
      | ((with_reducible apply ValA_i); (focus ((conv => lhs; simp (disch := omega) [g0, b0, b1, ta, f1, f2, f3, f4, f5, f6]); done)))
      | ((with_reducible apply stabA_i); (focus ((conv => lhs; simp (disch := omega) [g0, b0, b1, ta, f1, f2, f3, f4, f5, f6]); done)))
      | ((with_reducible apply fnA_i); (focus ((conv => lhs; simp (disch := omega) [g0, b0, b1, ta, f1, f2, f3, f4, f5, f6]); done)))
      | ((with_reducible apply ValA_fn); (focus ((conv => lhs; simp (disch := omega) [g0, b0, b1, ta, f1, f2, f3, f4, f5, f6]); done)))
      | ((with_reducible apply stabA_fn); (focus ((conv => lhs; simp (disch := omega) [g0, b0, b1, ta, f1, f2, f3, f4, f5, f6]); done)))
      | ((with_reducible apply appA_i); (focus ((conv => lhs; simp (disch := omega) [g0, b0, b1, ta, f1, f2, f3, f4, f5, f6]); done)); (focus ((conv => lhs; simp (disch := omega) [g0, b0, b1, ta, f1, f2, f3, f4, f5, f6]); done)))
      | ((with_reducible apply stab_do); (focus (simp (disch := omega) [g0, b0, b1, ta, f1, f2, f3, f4, f5, f6]; done)))
      | (simp (decide := true) only [sn45, sqW_nrm, sqW_exit, sqW_ret, inBlk_nrm, inBlk_ret, inBlk_same, inBlk_exit, if_true, if_false, retW_nrm, retW_ret])
      | (with_reducible refine n45_16_w _ _ _ ?_)
      | (with_reducible refine n45_21_w _ _ _ ?_)
      | (with_reducible refine n45_30_w _ _ _ ?_)
      | (with_reducible refine n45_2_w _ _ _ ?_))
    refine SpecQ.step (c41 hw (by simp [beN_len, Pt.h]; omega)) ?_
    as_aux_lemma =>
      rintro ⟨v, h2⟩ ⟨rfl, x2, hw, k2⟩
      have bt := bt.keep k2 at_
      have bp := bp.keep k2 ap
      have at_ := at_.step k2
      have ap := ap.step k2
      have cl := cl.step k2
      have kk := kk.trans k2
      have b0 : blkAt h2 h.length 0 = some ⟨eAct a vt vp, 0, .own⟩ := cl.blk 0 rfl
      have b1 : blkAt h2 (h.length + 1) 0 = some ⟨hasV a.kind, 0, .own⟩ := cl.blk 1 rfl
      try unfold wp
      unfold hasV at b1
      repeat' (first
        | ((with_reducible apply evs_of); (focus ((conv => lhs; simp (disch := omega) [g0, b0, b1, ta, f1, f2, f3, f4, f5, f6]); done)); try dsimp only)
        | ((with_reducible apply gW_do); (focus (simp (disch := omega) [g0, b0, b1, ta, f1, f2, f3, f4, f5, f6]; done)))
        | ((with_reducible apply gW_no); (focus (simp (disch := omega) [g0, b0, b1, ta, f1, f2, f3, f4, f5, f6]; done)); try dsimp only)
        | ((with_reducible apply gW_un); (focus (simp (disch := omega) [g0, b0, b1, ta, f1, f2, f3, f4, f5, f6]; done)); try dsimp only)
        | ((with_reducible apply cndW_T); (focus (simp (disch := omega) [g0, b0, b1, ta, f1, f2, f3, f4, f5, f6] <;> omega)))
        | ((with_reducible apply cndW_F); (focus (simp (disch := omega) [g0, b0, b1, ta, f1, f2, f3, f4, f5, f6] <;> omega)))
        | ((with_reducible apply stabP_i); (focus (simp (disch := omega) [g0, b0, b1, ta, f1, f2, f3, f4, f5, f6]; done)))
        | (with_reducible apply bothP_i)
        | (with_reducible apply wL_i)
        | ((with_reducible apply ValW_do); (focus (simp (disch := omega) [g0, b0, b1, ta, f1, f2, f3, f4, f5, f6]; done)); try dsimp only)
        | ((with_reducible apply ValW_no); (focus (simp (disch := omega) [g0, b0, b1, ta, f1, f2, f3, f4, f5, f6]; done)); try dsimp only)
        | ((with_reducible apply ValW_un); (focus (simp (disch := omega) [g0, b0, b1, ta, f1, f2, f3, f4, f5, f6]; done)); try dsimp only)
        | ((with_reducible apply SpecA_i); (focus ((conv => lhs; simp (disch := omega) [g0, b0, b1, ta, f1, f2, f3, f4, f5, f6]); done)))
        | ((with_reducible apply ValA_i); (focus ((conv => lhs; simp (disch := omega) [g0, b0, b1, ta, f1, f2, f3, f4, f5, f6]); done)))
        | ((with_reducible apply stabA_i); (focus ((conv => lhs; simp (disch := omega) [g0, b0, b1, ta, f1, f2, f3, f4, f5, f6]); done)))
        | ((with_reducible apply fnA_i); (focus ((conv => lhs; simp (disch := omega) [g0, b0, b1, ta, f1, f2, f3, f4, f5, f6]); done)))
        | ((with_reducible apply ValA_fn); (focus ((conv => lhs; simp (disch := omega) [g0, b0, b1, ta, f1, f2, f3, f4, f5, f6]); done)))
        | ((with_reducible apply stabA_fn); (focus ((conv => lhs; simp (disch := omega) [g0, b0, b1, ta, f1, f2, f3, f4, f5, f6]); done)))
        | ((with_reducible apply appA_i); (focus ((conv => lhs; simp (disch := omega) [g0, b0, b1, ta, f1, f2, f3, f4, f5, f6]); done)); (focus ((conv => lhs; simp (disch := omega) [g0, b0, b1, ta, f1, f2, f3, f4, f5, f6]); done)))
        | ((with_reducible apply stab_do); (focus (simp (disch := omega) [g0, b0, b1, ta, f1, f2, f3, f4, f5, f6]; done)))
        | (simp (decide := true) only [sn45, sqW_nrm, sqW_exit, sqW_ret, inBlk_nrm, inBlk_ret, inBlk_same, inBlk_exit, if_true, if_false, retW_nrm, retW_ret])
        | (with_reducible refine n45_16_w _ _ _ ?_)
        | (with_reducible refine n45_21_w _ _ _ ?_)
        | (with_reducible refine n45_30_w _ _ _ ?_)
        | (with_reducible refine n45_2_w _ _ _ ?_))
      refine ⟨by simp [oneOrTuple], x2, ?_, kk⟩
      have e : l ++ actB a = _ := rfl
      simp only [actB, when_, f1, f2, f3, f4, f5, f6, ciB, textB, accB, if_true, if_false, Bool.false_eq_true, List.append_nil, ← List.append_assoc]
      exact hw
  · as_aux_lemma =>
    rintro ⟨v, h2⟩ ⟨rfl, x2, hw, k2⟩
    have bt := bt.keep k2 at_
    have bp := bp.keep k2 ap
    have at_ := at_.step k2
    have ap := ap.step k2
    have cl := cl.step k2
    have kk := kk.trans k2
    have b0 : blkAt h2 h.length 0 = some ⟨eAct a vt vp, 0, .own⟩ := cl.blk 0 rfl
    have b1 : blkAt h2 (h.length + 1) 0 = some ⟨hasV a.kind, 0, .own⟩ := cl.blk 1 rfl
    try unfold wp
    unfold hasV at b1
    repeat' (first
      | ((with_reducible apply evs_of); (focus ((conv => lhs; simp (disch := omega) [g0, b0, b1, ta, f1, f2, f3, f4, f5, f6]); done)); try dsimp only)
      | ((with_reducible apply gW_do); (focus (simp (disch := omega) [g0, b0, b1, ta, f1, f2, f3, f4, f5, f6]; done)))
      | ((with_reducible apply gW_no); (focus (simp (disch := omega) [g0, b0, b1, ta, f1, f2, f3, f4, f5, f6]; done)); try dsimp only)
      | ((with_reducible apply gW_un); (focus (simp (disch := omega) [g0, b0, b1, ta, f1, f2, f3, f4, f5, f6]; done)); try dsimp only)
      | ((with_reducible apply cndW_T); (focus (simp (disch := omega) [g0, b0, b1, ta, f1, f2, f3, f4, f5, f6] <;> omega)))
      | ((with_reducible apply cndW_F); (focus (simp (disch := omega) [g0, b0, b1, ta, f1, f2, f3, f4, f5, f6] <;> omega)))
      | ((with_reducible apply stabP_i); (focus (simp (disch := omega) [g0, b0, b1, ta, f1, f2, f3, f4, f5, f6]; done)))
      | (with_reducible apply bothP_i)
      | (with_reducible apply wL_i)
      | ((with_reducible apply ValW_do); (focus (simp (disch := omega) [g0, b0, b1, ta, f1, f2, f3, f4, f5, f6]; done)); try dsimp only)
      | ((with_reducible apply ValW_no); (focus (simp (disch := omega) [g0, b0, b1, ta, f1, f2, f3, f4, f5, f6]; done)); try dsimp only)
      | ((with_reducible apply ValW_un); (focus (simp (disch := omega) [g0, b0, b1, ta, f1, f2, f3, f4, f5, f6]; done)); try dsimp only)
      | ((with_reducible apply SpecA_i); (focus ((conv => lhs; simp (disch := omega) [g0, b0, b1, ta, f1, f2, f3, f4, f5, f6]); done)))
      | ((with_reducible apply ValA_i); (focus ((conv => lhs; simp (disch := omega) [g0, b0, b1, ta, f1, f2, f3, f4, f5, f6]); done)))
      | ((with_reducible apply stabA_i); (focus ((conv => lhs; simp (disch := omega) [g0, b0, b1, ta, f1, f2, f3, f4, f5, f6]); done)))
      | ((with_reducible apply fnA_i); (focus ((conv => lhs; simp (disch := omega) [g0, b0, b1, ta, f1, f2, f3, f4, f5, f6]); done)))
      | ((with_reducible apply ValA_fn); (focus ((conv => lhs; simp (disch := omega) [g0, b0, b1, ta, f1, f2, f3, f4, f5, f6]); done)))
      | ((with_reducible apply stabA_fn); (focus ((conv => lhs; simp (disch := omega) [g0, b0, b1, ta, f1, f2, f3, f4, f5, f6]); done)))
      | ((with_reducible apply appA_i); (focus ((conv => lhs; simp (disch := omega) [g0, b0, b1, ta, f1, f2, f3, f4, f5, f6]); done)); (focus ((conv => lhs; simp (disch := omega) [g0, b0, b1, ta, f1, f2, f3, f4, f5, f6]); done)))
      | ((with_reducible apply stab_do); (focus (simp (disch := omega) [g0, b0, b1, ta, f1, f2, f3, f4, f5, f6]; done)))
      | (simp (decide := true) only [sn45, sqW_nrm, sqW_exit, sqW_ret, inBlk_nrm, inBlk_ret, inBlk_same, inBlk_exit, if_true, if_false, retW_nrm, retW_ret])
      | (with_reducible refine n45_16_w _ _ _ ?_)
      | (with_reducible refine n45_21_w _ _ _ ?_)
      | (with_reducible refine n45_30_w _ _ _ ?_)
      | (with_reducible refine n45_2_w _ _ _ ?_))
    refine ⟨by simp [oneOrTuple], x2, ?_, kk⟩
    have e : l ++ actB a = _ := rfl
    simp only [actB, when_, f1, f2, f3, f4, f5, f6, ciB, textB, accB, if_true, if_false, Bool.false_eq_true, List.append_nil, ← List.append_assoc]
    exact hw

end Go.Vab

/- How the code of a function is read. Printed by wip/tools/gen2.py (own work). -/
namespace Go.Vab
open Go Go.Proofs
/-! vestry/vestrylaw18.known -/
def cx7 : Ctx := ⟨fun _ _ _ => none, TT, 15, [3, 4, 5, 6, 7, 8, 9, 10, 11, 12, 13, 14]⟩
noncomputable def n7_0 : Code := bodyOf Try.f7
noncomputable def n7_1 : Code := cR n7_0
noncomputable def n7_2 : Code := cR n7_1
noncomputable def n7_3 : Code := cR n7_2
theorem n7_3_eq (Q : Ex × St → Prop) (s : St) : wC Try.prog cx7 n7_3 Q s = Q (.ret, s) := yE
theorem n7_2_eq (Q : Ex × St → Prop) (env : Env) (h : Heap) : wC Try.prog cx7 n7_2 Q ⟨env, h⟩ = (Evs (mBin .eql (env.get 2) (nat 0)) fun v1 => Evs (gv v1 true (some (env.get 1))) fun v3 => Evs (gv v1 true (mStr v3 h)) fun v4 => Evs (gv v1 true (mBinT .eql v4 (.str { data := #[0, 0, 0, 3, 4] }))) fun v5 => Evs (mPick v1 v5 (.bool false)) fun v6 => wC Try.prog cx7 n7_3 Q ⟨(Env.put env 0 v6), h⟩) := (ySR 2 (cOps (cL n7_2)) (cR n7_2)).trans (by
  refine w0 ?_
  refine wT 8 (env.get 2) ?_
  refine wP 9 fun v1 => ?_
  refine wT 10 v1 ?_
  refine wG 11 fun v3 => ?_
  refine wG 12 fun v4 => ?_
  refine wG 13 fun v5 => ?_
  refine wP 14 fun v6 => ?_
  refine wT 0 v6 ?_
  exact wE)
theorem n7_1_eq (Q : Ex × St → Prop) (env : Env) (h : Heap) : wC Try.prog cx7 n7_1 Q ⟨env, h⟩ = (Evs (fillRow tAction (.node [(u32 0#32), (u8 0#8), (.node [(arr 32 fun _ => 0#8), (arr 32 fun _ => 0#8)]), (arr 32 fun _ => 0#8), (u8 0#8), .nilslice, (.node [(u8 0#8), (u8 0#8), (u8 0#8)]), .nilslice]) [(0, (u32 3#32)), (1, (u8 4#8))]) fun v0 => SpecA Try.prog 22 [v0] h fun r1 => Evs (mExtract r1.1 0) fun v3 => Evs (mExtract r1.1 1) fun v4 => wC Try.prog cx7 n7_2 Q ⟨(Env.put (Env.put env 1 v3) 2 v4), r1.2⟩) := (ySR 1 (cOps (cL n7_1)) (cR n7_1)).trans (by
  refine w0 ?_
  refine wP 4 fun v0 => ?_
  refine wH 5 fun r1 => ?_
  refine wT 3 r1.1 ?_
  refine wP 6 fun v3 => ?_
  refine wP 7 fun v4 => ?_
  refine wT 1 v3 ?_
  refine wT 2 v4 ?_
  exact wE)
theorem n7_0_eq (Q : Ex × St → Prop) (env : Env) (h : Heap) : wC Try.prog cx7 n7_0 Q ⟨env, h⟩ = ( wC Try.prog cx7 n7_1 Q ⟨(Env.put env 0 (.bool false)), h⟩) := (ySR 0 (cOps (cL n7_0)) (cR n7_0)).trans (by
  refine w0 ?_
  refine wT 0 (.bool false) ?_
  exact wE)
theorem fn7 : Try.prog.funcs[7]? = some Try.f7 := by kernel_rfl
theorem q7 {h : Heap} {K : AV × Heap → Prop} (H : ∀ env : Env, wC Try.prog cx7 n7_0 (retW (fun s => (bnd (some (s.env.get 0)) fun v => bnd (some []) fun vs => some (v :: vs))) K) ⟨env, h⟩) : SpecQ Try.prog 7 [] h K :=
  bodyW_sound (C := cx7) TT_ok mixed_ok fn7 (by kernel_rfl) (show _ = some n7_0 by kernel_rfl) (by kernel_rfl) (by kernel_rfl) (of_decide_eq_true (by kernel_rfl)) ((show wC Try.prog cx7 n7_0 (retW (fun s => resAll cx7 s Try.f7.results.toList) K) ⟨env0 cx7 [], h⟩ = wC Try.prog cx7 n7_0 (retW (fun s => (bnd (some (s.env.get 0)) fun v => bnd (some []) fun vs => some (v :: vs))) K) ⟨[(0, .junk), (1, .junk), (2, .junk)], h⟩ by kernel_rfl).mpr (H [(0, .junk), (1, .junk), (2, .junk)]))
def sn7 := And.intro n7_3_eq (And.intro n7_2_eq (And.intro n7_1_eq (n7_0_eq)))
-- draws: 
end Go.Vab

/-
  An action's form; the known one.
-/
namespace Go.Vab
open Go Go.Proofs

theorem BytL.rb_lt {h : Heap} {y : AV} {m : Bs} (hy : BytL h y m) : ∀ b, rb y = some b → b < h.length := by
  intro b hb
  cases y with
  | slice b' ver path t off len cap =>
    cases hb
    have h1 := hy.1.1
    simp only [mElems] at h1
    split at h1
    · obtain ⟨bb, g1, g2⟩ := bnd_eq_some.1 h1
      exact (List.getElem?_eq_some_iff.1 (blkAt_spec g1).1).1
    · cases h1
  | _ => cases hb
theorem KeepW.pre {h h' : Heap} {wc : Nat} {x x' : AV} (k : KeepW h h' wc x x') (n : Nat) (hn : n ≤ h.length) (h1 : n ≤ wc) (h2 : ∀ b, rb x = some b → n ≤ b) : ∃ t, h' = h.take n ++ t := by
  refine ⟨h'.drop n, ?_⟩
  have e : h'.take n = h.take n := by
    apply List.ext_getElem?
    intro i
    by_cases hi : i < n
    · rw [List.getElem?_take_of_lt hi, List.getElem?_take_of_lt hi]
      have hg : h[i]? = some h[i] := List.getElem?_eq_getElem (by omega)
      rw [hg]
      exact k.keep i _ hg (by omega) fun e => by have := h2 i e; omega
    · rw [List.getElem?_eq_none (by simp; omega), List.getElem?_eq_none (by simp; omega)]
  rw [← e, List.take_append_drop]

theorem mayA_len {a : Actn} (h : mayA a = true) : a.title.length ≤ 60000 ∧ a.pass.length ≤ 60000 := by
  simp only [mayA, Bool.and_eq_true, Bool.or_eq_true, Bool.not_eq_true', Bool.or_eq_false_iff, decide_eq_true_eq, decide_eq_false_iff_not] at h
  omega

theorem c22 {h : Heap} {a : Actn} {vt vp : AV} (ra : ActR h a vt vp) (hm : mayA a = true) :
    SpecQ Try.prog 22 [eAct a vt vp] h fun r => ∃ y t, r = (.tuple [y, nat 0], h ++ t) ∧ BytL (h ++ t) y (actB a) := by
  have ta := ra.cells
  refine q22 fun env g0 => ?_
  repeat' (first
    | ((with_reducible apply evs_of); (focus ((conv => lhs; simp (disch := omega) [g0, ta, hm]); done)); try dsimp only)
    | ((with_reducible apply gW_do); (focus (simp (disch := omega) [g0, ta, hm]; done)))
    | ((with_reducible apply gW_no); (focus (simp (disch := omega) [g0, ta, hm]; done)); try dsimp only)
    | ((with_reducible apply gW_un); (focus (simp (disch := omega) [g0, ta, hm]; done)); try dsimp only)
    | ((with_reducible apply cndW_T); (focus (simp (disch := omega) [g0, ta, hm] <;> omega)))
    | ((with_reducible apply cndW_F); (focus (simp (disch := omega) [g0, ta, hm] <;> omega)))
    | ((with_reducible apply stabP_i); (focus (simp (disch := omega) [g0, ta, hm]; done)))
    | (with_reducible apply bothP_i)
    | (with_reducible apply wL_i)
    | ((with_reducible apply ValW_do); (focus (simp (disch := omega) [g0, ta, hm]; done)); try dsimp only)
    | ((with_reducible apply ValW_no); (focus (simp (disch := omega) [g0, ta, hm]; done)); try dsimp only)
    | ((with_reducible apply ValW_un); (focus (simp (disch := omega) [g0, ta, hm]; done)); try dsimp only)
    | (with_reducible refine ValW_i (c44 (ra.app _)) ?_; try dsimp only)
    | (with_reducible refine SpecQ.step (c44 (ra.app _)) ?_; rintro _ rfl; try dsimp only)
    | (with_reducible refine stabP_i (c44 (ra.app _)) ?_)
    | ((with_reducible apply SpecA_i); (focus ((conv => lhs; simp (disch := omega) [g0, ta, hm]); done)))
    | ((with_reducible apply ValA_i); (focus ((conv => lhs; simp (disch := omega) [g0, ta, hm]); done)))
    | ((with_reducible apply stabA_i); (focus ((conv => lhs; simp (disch := omega) [g0, ta, hm]); done)))
    | ((with_reducible apply fnA_i); (focus ((conv => lhs; simp (disch := omega) [g0, ta, hm]); done)))
    | ((with_reducible apply ValA_fn); (focus ((conv => lhs; simp (disch := omega) [g0, ta, hm]); done)))
    | ((with_reducible apply stabA_fn); (focus ((conv => lhs; simp (disch := omega) [g0, ta, hm]); done)))
    | ((with_reducible apply appA_i); (focus ((conv => lhs; simp (disch := omega) [g0, ta, hm]); done)); (focus ((conv => lhs; simp (disch := omega) [g0, ta, hm]); done)))
    | ((with_reducible apply stab_do); (focus (simp (disch := omega) [g0, ta, hm]; done)))
    | (simp (decide := true) only [sn22, sqW_nrm, sqW_exit, sqW_ret, inBlk_nrm, inBlk_ret, inBlk_same, inBlk_exit, if_true, if_false, retW_nrm, retW_ret]))
  have fw : ∀ n : Nat, n = h.length + 1 → Wx (h ++ [⟨eAct a vt vp, 0, .own⟩, ⟨wV .nilslice, 0, .own⟩]) n .nilslice [] := fun n hn => ⟨by rw [hn, List.getElem?_append_right (by omega)]; simp, by simp, .inl ⟨rfl, rfl⟩⟩
  have fa : ∀ {y : AV} {m : Bs}, BytL h y m → Ap (h ++ [⟨eAct a vt vp, 0, .own⟩, ⟨wV .nilslice, 0, .own⟩]) y (h.length + 1) .nilslice := fun hy b hb => by
    have := hy.rb_lt b hb
    exact ⟨by simp; omega, by omega, fun e => by cases e⟩
  refine SpecQ.step (c45 (fw _ rfl) (ra.app _) (fa ra.t) (fa ra.p) (mayA_len hm).1 (mayA_len hm).2 (by simp)) ?_
  rintro ⟨v, h2⟩ ⟨rfl, x2, hw, k2⟩
  have hp := k2.pre h.length (by simp) (by omega) (fun b hb => by cases hb)
  simp only [List.take_left'] at hp
  obtain ⟨t, rfl⟩ := hp
  repeat' (first
    | ((with_reducible apply evs_of); (focus ((conv => lhs; simp (disch := omega) [g0]); done)); try dsimp only)
    | ((with_reducible apply gW_do); (focus (simp (disch := omega) [g0]; done)))
    | ((with_reducible apply gW_no); (focus (simp (disch := omega) [g0]; done)); try dsimp only)
    | ((with_reducible apply gW_un); (focus (simp (disch := omega) [g0]; done)); try dsimp only)
    | ((with_reducible apply cndW_T); (focus (simp (disch := omega) [g0] <;> omega)))
    | ((with_reducible apply cndW_F); (focus (simp (disch := omega) [g0] <;> omega)))
    | ((with_reducible apply stabP_i); (focus (simp (disch := omega) [g0]; done)))
    | (with_reducible apply bothP_i)
    | (with_reducible apply wL_i)
    | ((with_reducible apply ValW_do); (focus (simp (disch := omega) [g0]; done)); try dsimp only)
    | ((with_reducible apply ValW_no); (focus (simp (disch := omega) [g0]; done)); try dsimp only)
    | ((with_reducible apply ValW_un); (focus (simp (disch := omega) [g0]; done)); try dsimp only)
    | ((with_reducible apply SpecA_i); (focus ((conv => lhs; simp (disch := omega) [g0]); done)))
    | ((with_reducible apply ValA_i); (focus ((conv => lhs; simp (disch := omega) [g0]); done)))
    | ((with_reducible apply stabA_i); (focus ((conv => lhs; simp (disch := omega) [g0]); done)))
    | ((with_reducible apply fnA_i); (focus ((conv => lhs; simp (disch := omega) [g0]); done)))
    | ((with_reducible apply ValA_fn); (focus ((conv => lhs; simp (disch := omega) [g0]); done)))
    | ((with_reducible apply stabA_fn); (focus ((conv => lhs; simp (disch := omega) [g0]); done)))
    | ((with_reducible apply appA_i); (focus ((conv => lhs; simp (disch := omega) [g0]); done)); (focus ((conv => lhs; simp (disch := omega) [g0]); done)))
    | ((with_reducible apply stab_do); (focus (simp (disch := omega) [g0]; done)))
    | (simp (decide := true) only [sn22, sqW_nrm, sqW_exit, sqW_ret, inBlk_nrm, inBlk_ret, inBlk_same, inBlk_exit, if_true, if_false, retW_nrm, retW_ret]))
  refine SpecQ.step (c43 hw) ?_
  rintro ⟨v, h2⟩ ⟨y, t2, e, hy⟩
  cases e
  repeat' (first
    | ((with_reducible apply evs_of); (focus ((conv => lhs; simp (disch := omega) [g0]); done)); try dsimp only)
    | ((with_reducible apply gW_do); (focus (simp (disch := omega) [g0]; done)))
    | ((with_reducible apply gW_no); (focus (simp (disch := omega) [g0]; done)); try dsimp only)
    | ((with_reducible apply gW_un); (focus (simp (disch := omega) [g0]; done)); try dsimp only)
    | ((with_reducible apply cndW_T); (focus (simp (disch := omega) [g0] <;> omega)))
    | ((with_reducible apply cndW_F); (focus (simp (disch := omega) [g0] <;> omega)))
    | ((with_reducible apply stabP_i); (focus (simp (disch := omega) [g0]; done)))
    | (with_reducible apply bothP_i)
    | (with_reducible apply wL_i)
    | ((with_reducible apply ValW_do); (focus (simp (disch := omega) [g0]; done)); try dsimp only)
    | ((with_reducible apply ValW_no); (focus (simp (disch := omega) [g0]; done)); try dsimp only)
    | ((with_reducible apply ValW_un); (focus (simp (disch := omega) [g0]; done)); try dsimp only)
    | ((with_reducible apply SpecA_i); (focus ((conv => lhs; simp (disch := omega) [g0]); done)))
    | ((with_reducible apply ValA_i); (focus ((conv => lhs; simp (disch := omega) [g0]); done)))
    | ((with_reducible apply stabA_i); (focus ((conv => lhs; simp (disch := omega) [g0]); done)))
    | ((with_reducible apply fnA_i); (focus ((conv => lhs; simp (disch := omega) [g0]); done)))
    | ((with_reducible apply ValA_fn); (focus ((conv => lhs; simp (disch := omega) [g0]); done)))
    | ((with_reducible apply stabA_fn); (focus ((conv => lhs; simp (disch := omega) [g0]); done)))
    | ((with_reducible apply appA_i); (focus ((conv => lhs; simp (disch := omega) [g0]); done)); (focus ((conv => lhs; simp (disch := omega) [g0]); done)))
    | ((with_reducible apply stab_do); (focus (simp (disch := omega) [g0]; done)))
    | (simp (decide := true) only [sn22, sqW_nrm, sqW_exit, sqW_ret, inBlk_nrm, inBlk_ret, inBlk_same, inBlk_exit, if_true, if_false, retW_nrm, retW_ret]))
  exact ⟨y, t ++ t2, by simp [oneOrTuple], by rw [← List.append_assoc]; exact hy⟩

theorem c22n {h : Heap} {a : Actn} {vt vp : AV} (ra : ActR h a vt vp) (hm : mayA a = false) :
    SpecQ Try.prog 22 [eAct a vt vp] h fun r => r = (.tuple [.nilslice, nat 2], h) := by
  have ta := ra.cells
  refine SpecQ.drop1 rfl (q22 fun env g0 => ?_)
  repeat' (first
    | ((with_reducible apply evs_of); (focus ((conv => lhs; simp (disch := omega) [g0, ta, hm]); done)); try dsimp only)
    | ((with_reducible apply gW_do); (focus (simp (disch := omega) [g0, ta, hm]; done)))
    | ((with_reducible apply gW_no); (focus (simp (disch := omega) [g0, ta, hm]; done)); try dsimp only)
    | ((with_reducible apply gW_un); (focus (simp (disch := omega) [g0, ta, hm]; done)); try dsimp only)
    | ((with_reducible apply cndW_T); (focus (simp (disch := omega) [g0, ta, hm] <;> omega)))
    | ((with_reducible apply cndW_F); (focus (simp (disch := omega) [g0, ta, hm] <;> omega)))
    | ((with_reducible apply stabP_i); (focus (simp (disch := omega) [g0, ta, hm]; done)))
    | (with_reducible apply bothP_i)
    | (with_reducible apply wL_i)
    | ((with_reducible apply ValW_do); (focus (simp (disch := omega) [g0, ta, hm]; done)); try dsimp only)
    | ((with_reducible apply ValW_no); (focus (simp (disch := omega) [g0, ta, hm]; done)); try dsimp only)
    | ((with_reducible apply ValW_un); (focus (simp (disch := omega) [g0, ta, hm]; done)); try dsimp only)
    | (with_reducible refine ValW_i (c44 (ra.app _)) ?_; try dsimp only)
    | (with_reducible refine SpecQ.step (c44 (ra.app _)) ?_; rintro _ rfl; try dsimp only)
    | (with_reducible refine stabP_i (c44 (ra.app _)) ?_)
    | ((with_reducible apply SpecA_i); (focus ((conv => lhs; simp (disch := omega) [g0, ta, hm]); done)))
    | ((with_reducible apply ValA_i); (focus ((conv => lhs; simp (disch := omega) [g0, ta, hm]); done)))
    | ((with_reducible apply stabA_i); (focus ((conv => lhs; simp (disch := omega) [g0, ta, hm]); done)))
    | ((with_reducible apply fnA_i); (focus ((conv => lhs; simp (disch := omega) [g0, ta, hm]); done)))
    | ((with_reducible apply ValA_fn); (focus ((conv => lhs; simp (disch := omega) [g0, ta, hm]); done)))
    | ((with_reducible apply stabA_fn); (focus ((conv => lhs; simp (disch := omega) [g0, ta, hm]); done)))
    | ((with_reducible apply appA_i); (focus ((conv => lhs; simp (disch := omega) [g0, ta, hm]); done)); (focus ((conv => lhs; simp (disch := omega) [g0, ta, hm]); done)))
    | ((with_reducible apply stab_do); (focus (simp (disch := omega) [g0, ta, hm]; done)))
    | (simp (decide := true) only [sn22, sqW_nrm, sqW_exit, sqW_ret, inBlk_nrm, inBlk_ret, inBlk_same, inBlk_exit, if_true, if_false, retW_nrm, retW_ret]))
  exact ⟨_, by simp [oneOrTuple]; rfl⟩

/-- The known action. -/
def aK : Actn := ⟨3#32, 4#8, ci0, pt0, 0#8, [], acc0, []⟩
theorem aK_R (h : Heap) : ActR h aK .nilslice .nilslice := ⟨BytL.nil _, BytL.nil _⟩

theorem fillK : fillRow tAction (AV.node [u32 0#32, u8 0#8, AV.node [arr 32 fun _ => 0#8, arr 32 fun _ => 0#8], arr 32 fun _ => 0#8, u8 0#8, AV.nilslice, AV.node [u8 0#8, u8 0#8, u8 0#8], AV.nilslice]) [(0, u32 3#32), (1, u8 4#8)] = some (eAct aK .nilslice .nilslice) := by kernel_rfl
theorem mayK : mayA aK = true := by decide
theorem actK : strL (actB aK) = { data := #[0, 0, 0, 3, 4] } := by decide

theorem eqK : mBinT .eql (.str { data := #[0, 0, 0, 3, 4] }) (.str { data := #[0, 0, 0, 3, 4] }) = some (.bool true) := by kernel_rfl

theorem c7 {h : Heap} : SpecQ Try.prog 7 [] h fun r => r = (.bool true, h) := by
  refine SpecQ.drop1 rfl (q7 fun env => ?_)
  repeat' (first
    | ((with_reducible apply evs_of); (focus ((conv => lhs; simp (disch := omega) [True]); done)); try dsimp only)
    | ((with_reducible apply gW_do); (focus (simp (disch := omega) [True]; done)))
    | ((with_reducible apply gW_no); (focus (simp (disch := omega) [True]; done)); try dsimp only)
    | ((with_reducible apply gW_un); (focus (simp (disch := omega) [True]; done)); try dsimp only)
    | ((with_reducible apply cndW_T); (focus (simp (disch := omega) [True] <;> omega)))
    | ((with_reducible apply cndW_F); (focus (simp (disch := omega) [True] <;> omega)))
    | ((with_reducible apply stabP_i); (focus (simp (disch := omega) [True]; done)))
    | (with_reducible apply bothP_i)
    | (with_reducible apply wL_i)
    | ((with_reducible apply ValW_do); (focus (simp (disch := omega) [True]; done)); try dsimp only)
    | ((with_reducible apply ValW_no); (focus (simp (disch := omega) [True]; done)); try dsimp only)
    | ((with_reducible apply ValW_un); (focus (simp (disch := omega) [True]; done)); try dsimp only)
    | ((with_reducible apply SpecA_i); (focus ((conv => lhs; simp (disch := omega) [True]); done)))
    | ((with_reducible apply ValA_i); (focus ((conv => lhs; simp (disch := omega) [True]); done)))
    | ((with_reducible apply stabA_i); (focus ((conv => lhs; simp (disch := omega) [True]); done)))
    | ((with_reducible apply fnA_i); (focus ((conv => lhs; simp (disch := omega) [True]); done)))
    | ((with_reducible apply ValA_fn); (focus ((conv => lhs; simp (disch := omega) [True]); done)))
    | ((with_reducible apply stabA_fn); (focus ((conv => lhs; simp (disch := omega) [True]); done)))
    | ((with_reducible apply appA_i); (focus ((conv => lhs; simp (disch := omega) [True]); done)); (focus ((conv => lhs; simp (disch := omega) [True]); done)))
    | ((with_reducible apply stab_do); (focus (simp (disch := omega) [True]; done)))
    | (simp (decide := true) only [sn7, sqW_nrm, sqW_exit, sqW_ret, inBlk_nrm, inBlk_ret, inBlk_same, inBlk_exit, if_true, if_false, retW_nrm, retW_ret]))
  refine evs_of fillK ?_
  repeat' (first
    | ((with_reducible apply evs_of); (focus ((conv => lhs; simp (disch := omega) [True]); done)); try dsimp only)
    | ((with_reducible apply gW_do); (focus (simp (disch := omega) [True]; done)))
    | ((with_reducible apply gW_no); (focus (simp (disch := omega) [True]; done)); try dsimp only)
    | ((with_reducible apply gW_un); (focus (simp (disch := omega) [True]; done)); try dsimp only)
    | ((with_reducible apply cndW_T); (focus (simp (disch := omega) [True] <;> omega)))
    | ((with_reducible apply cndW_F); (focus (simp (disch := omega) [True] <;> omega)))
    | ((with_reducible apply stabP_i); (focus (simp (disch := omega) [True]; done)))
    | (with_reducible apply bothP_i)
    | (with_reducible apply wL_i)
    | ((with_reducible apply ValW_do); (focus (simp (disch := omega) [True]; done)); try dsimp only)
    | ((with_reducible apply ValW_no); (focus (simp (disch := omega) [True]; done)); try dsimp only)
    | ((with_reducible apply ValW_un); (focus (simp (disch := omega) [True]; done)); try dsimp only)
    | ((with_reducible apply SpecA_i); (focus ((conv => lhs; simp (disch := omega) [True]); done)))
    | ((with_reducible apply ValA_i); (focus ((conv => lhs; simp (disch := omega) [True]); done)))
    | ((with_reducible apply stabA_i); (focus ((conv => lhs; simp (disch := omega) [True]); done)))
    | ((with_reducible apply fnA_i); (focus ((conv => lhs; simp (disch := omega) [True]); done)))
    | ((with_reducible apply ValA_fn); (focus ((conv => lhs; simp (disch := omega) [True]); done)))
    | ((with_reducible apply stabA_fn); (focus ((conv => lhs; simp (disch := omega) [True]); done)))
    | ((with_reducible apply appA_i); (focus ((conv => lhs; simp (disch := omega) [True]); done)); (focus ((conv => lhs; simp (disch := omega) [True]); done)))
    | ((with_reducible apply stab_do); (focus (simp (disch := omega) [True]; done)))
    | (simp (decide := true) only [sn7, sqW_nrm, sqW_exit, sqW_ret, inBlk_nrm, inBlk_ret, inBlk_same, inBlk_exit, if_true, if_false, retW_nrm, retW_ret]))
  refine SpecQ.step (c22 (aK_R _) mayK) ?_
  rintro ⟨v, h2⟩ ⟨y, t, e, hy⟩
  cases e
  have sy := hy.str
  rw [actK] at sy
  repeat' (first
    | ((with_reducible apply evs_of); (focus ((conv => lhs; simp (disch := omega) [sy, eqK]); done)); try dsimp only)
    | ((with_reducible apply gW_do); (focus (simp (disch := omega) [sy, eqK]; done)))
    | ((with_reducible apply gW_no); (focus (simp (disch := omega) [sy, eqK]; done)); try dsimp only)
    | ((with_reducible apply gW_un); (focus (simp (disch := omega) [sy, eqK]; done)); try dsimp only)
    | ((with_reducible apply cndW_T); (focus (simp (disch := omega) [sy, eqK] <;> omega)))
    | ((with_reducible apply cndW_F); (focus (simp (disch := omega) [sy, eqK] <;> omega)))
    | ((with_reducible apply stabP_i); (focus (simp (disch := omega) [sy, eqK]; done)))
    | (with_reducible apply bothP_i)
    | (with_reducible apply wL_i)
    | ((with_reducible apply ValW_do); (focus (simp (disch := omega) [sy, eqK]; done)); try dsimp only)
    | ((with_reducible apply ValW_no); (focus (simp (disch := omega) [sy, eqK]; done)); try dsimp only)
    | ((with_reducible apply ValW_un); (focus (simp (disch := omega) [sy, eqK]; done)); try dsimp only)
    | ((with_reducible apply SpecA_i); (focus ((conv => lhs; simp (disch := omega) [sy, eqK]); done)))
    | ((with_reducible apply ValA_i); (focus ((conv => lhs; simp (disch := omega) [sy, eqK]); done)))
    | ((with_reducible apply stabA_i); (focus ((conv => lhs; simp (disch := omega) [sy, eqK]); done)))
    | ((with_reducible apply fnA_i); (focus ((conv => lhs; simp (disch := omega) [sy, eqK]); done)))
    | ((with_reducible apply ValA_fn); (focus ((conv => lhs; simp (disch := omega) [sy, eqK]); done)))
    | ((with_reducible apply stabA_fn); (focus ((conv => lhs; simp (disch := omega) [sy, eqK]); done)))
    | ((with_reducible apply appA_i); (focus ((conv => lhs; simp (disch := omega) [sy, eqK]); done)); (focus ((conv => lhs; simp (disch := omega) [sy, eqK]); done)))
    | ((with_reducible apply stab_do); (focus (simp (disch := omega) [sy, eqK]; done)))
    | (simp (decide := true) only [sn7, sqW_nrm, sqW_exit, sqW_ret, inBlk_nrm, inBlk_ret, inBlk_same, inBlk_exit, if_true, if_false, retW_nrm, retW_ret]))
  exact ⟨t, by simp [oneOrTuple]⟩

end Go.Vab

/- How the code of a function is read. Printed by wip/tools/gen2.py (own work). -/
namespace Go.Vab
open Go Go.Proofs
/-! vestry/vestryref18.CopyState -/
def cx12 : Ctx := ⟨fun _ _ _ => none, TT, 36, [4, 5, 6, 7, 8, 9, 10, 11, 12, 13, 14, 15, 16, 17, 18, 19, 20, 21, 22, 23, 24, 25, 26, 27, 28, 29, 30, 31, 32, 33, 34, 35]⟩
noncomputable def n12_0 : Code := bodyOf Try.f12
noncomputable def n12_1 : Code := cR n12_0
noncomputable def n12_2 : Code := cR n12_1
noncomputable def n12_3 : Code := cR n12_2
noncomputable def n12_4 : Code := cR n12_3
noncomputable def n12_5 : Code := cR n12_4
noncomputable def n12_6 : Code := cR n12_5
noncomputable def n12_7 : Code := cR n12_6
noncomputable def n12_8 : Code := cR n12_7
noncomputable def n12_9 : Code := cR n12_8
theorem n12_9_eq (Q : Ex × St → Prop) (s : St) : wC Try.prog cx12 n12_9 Q s = Q (.ret, s) := yE
theorem n12_8_eq (Q : Ex × St → Prop) (env : Env) (h : Heap) : wC Try.prog cx12 n12_8 Q ⟨env, h⟩ = (Evs (mLoad tState (env.get 3) h) fun v0 => Evs (stU tState (env.get 2) v0 h) fun r1 => wC Try.prog cx12 n12_9 Q ⟨env, r1.2⟩) := (ySR 8 (cOps (cL n12_8)) (cR n12_8)).trans (by
  refine w0 ?_
  refine wP 35 fun v0 => ?_
  refine wHn fun r1 => ?_
  exact wE)
theorem n12_7_eq (Q : Ex × St → Prop) (env : Env) (h : Heap) : wC Try.prog cx12 n12_7 Q ⟨env, h⟩ = (Evs (mBuildSlice tBan (.node [(.node [(arr 32 fun _ => 0#8), (arr 32 fun _ => 0#8)]), (.node [(arr 32 fun _ => 0#8), (arr 32 fun _ => 0#8)])]) 0 [] h) fun r0 => Evs (mFieldAddr tState (env.get 1) 8) fun v1 => Evs (mLoad .cell v1 r0.2) fun v2 => appA tBan 128 (.node [(.node [(arr 32 fun _ => 0#8), (arr 32 fun _ => 0#8)]), (.node [(arr 32 fun _ => 0#8), (arr 32 fun _ => 0#8)])]) r0.1 v2 r0.2 fun r3 => Evs (mFieldAddr tState (env.get 3) 8) fun v4 => Evs (stU .cell v4 r3.1 r3.2) fun r5 => wC Try.prog cx12 n12_8 Q ⟨env, r5.2⟩) := (ySR 7 (cOps (cL n12_7)) (cR n12_7)).trans (by
  refine w0 ?_
  refine wH 30 fun r0 => ?_
  refine wP 31 fun v1 => ?_
  refine wP 32 fun v2 => ?_
  refine wH 33 fun r3 => ?_
  refine wP 34 fun v4 => ?_
  refine wHn fun r5 => ?_
  exact wE)
theorem n12_6_eq (Q : Ex × St → Prop) (env : Env) (h : Heap) : wC Try.prog cx12 n12_6 Q ⟨env, h⟩ = (Evs (mBuildSlice tAsk (.node [(.node [(arr 32 fun _ => 0#8), (arr 32 fun _ => 0#8)]), (u32 0#32)]) 0 [] h) fun r0 => Evs (mFieldAddr tState (env.get 1) 7) fun v1 => Evs (mLoad .cell v1 r0.2) fun v2 => appA tAsk 68 (.node [(.node [(arr 32 fun _ => 0#8), (arr 32 fun _ => 0#8)]), (u32 0#32)]) r0.1 v2 r0.2 fun r3 => Evs (mFieldAddr tState (env.get 3) 7) fun v4 => Evs (stU .cell v4 r3.1 r3.2) fun r5 => wC Try.prog cx12 n12_7 Q ⟨env, r5.2⟩) := (ySR 6 (cOps (cL n12_6)) (cR n12_6)).trans (by
  refine w0 ?_
  refine wH 25 fun r0 => ?_
  refine wP 26 fun v1 => ?_
  refine wP 27 fun v2 => ?_
  refine wH 28 fun r3 => ?_
  refine wP 29 fun v4 => ?_
  refine wHn fun r5 => ?_
  exact wE)
theorem n12_5_eq (Q : Ex × St → Prop) (env : Env) (h : Heap) : wC Try.prog cx12 n12_5 Q ⟨env, h⟩ = (Evs (mBuildSlice tInvite (.node [(.node [(arr 32 fun _ => 0#8), (arr 32 fun _ => 0#8)]), (u8 0#8), (.node [(arr 32 fun _ => 0#8), (arr 32 fun _ => 0#8)])]) 0 [] h) fun r0 => Evs (mFieldAddr tState (env.get 1) 6) fun v1 => Evs (mLoad .cell v1 r0.2) fun v2 => appA tInvite 129 (.node [(.node [(arr 32 fun _ => 0#8), (arr 32 fun _ => 0#8)]), (u8 0#8), (.node [(arr 32 fun _ => 0#8), (arr 32 fun _ => 0#8)])]) r0.1 v2 r0.2 fun r3 => Evs (mFieldAddr tState (env.get 3) 6) fun v4 => Evs (stU .cell v4 r3.1 r3.2) fun r5 => wC Try.prog cx12 n12_6 Q ⟨env, r5.2⟩) := (ySR 5 (cOps (cL n12_5)) (cR n12_5)).trans (by
  refine w0 ?_
  refine wH 20 fun r0 => ?_
  refine wP 21 fun v1 => ?_
  refine wP 22 fun v2 => ?_
  refine wH 23 fun r3 => ?_
  refine wP 24 fun v4 => ?_
  refine wHn fun r5 => ?_
  exact wE)
theorem n12_4_eq (Q : Ex × St → Prop) (env : Env) (h : Heap) : wC Try.prog cx12 n12_4 Q ⟨env, h⟩ = (Evs (mBuildSlice tSeat (.node [(.node [(arr 32 fun _ => 0#8), (arr 32 fun _ => 0#8)]), (u8 0#8), (u32 0#32)]) 0 [] h) fun r0 => Evs (mFieldAddr tState (env.get 1) 5) fun v1 => Evs (mLoad .cell v1 r0.2) fun v2 => appA tSeat 72 (.node [(.node [(arr 32 fun _ => 0#8), (arr 32 fun _ => 0#8)]), (u8 0#8), (u32 0#32)]) r0.1 v2 r0.2 fun r3 => Evs (mFieldAddr tState (env.get 3) 5) fun v4 => Evs (stU .cell v4 r3.1 r3.2) fun r5 => wC Try.prog cx12 n12_5 Q ⟨env, r5.2⟩) := (ySR 4 (cOps (cL n12_4)) (cR n12_4)).trans (by
  refine w0 ?_
  refine wH 15 fun r0 => ?_
  refine wP 16 fun v1 => ?_
  refine wP 17 fun v2 => ?_
  refine wH 18 fun r3 => ?_
  refine wP 19 fun v4 => ?_
  refine wHn fun r5 => ?_
  exact wE)
theorem n12_3_eq (Q : Ex × St → Prop) (env : Env) (h : Heap) : wC Try.prog cx12 n12_3 Q ⟨env, h⟩ = (Evs (mBuildSlice (.int .u8) (u8 0#8) 0 [] h) fun r0 => Evs (mFieldAddr tState (env.get 1) 4) fun v1 => Evs (mLoad .cell v1 r0.2) fun v2 => appA (.int .u8) 1 (u8 0#8) r0.1 v2 r0.2 fun r3 => Evs (mFieldAddr tState (env.get 3) 4) fun v4 => Evs (stU .cell v4 r3.1 r3.2) fun r5 => wC Try.prog cx12 n12_4 Q ⟨env, r5.2⟩) := (ySR 3 (cOps (cL n12_3)) (cR n12_3)).trans (by
  refine w0 ?_
  refine wH 10 fun r0 => ?_
  refine wP 11 fun v1 => ?_
  refine wP 12 fun v2 => ?_
  refine wH 13 fun r3 => ?_
  refine wP 14 fun v4 => ?_
  refine wHn fun r5 => ?_
  exact wE)
theorem n12_2_eq (Q : Ex × St → Prop) (env : Env) (h : Heap) : wC Try.prog cx12 n12_2 Q ⟨env, h⟩ = (Evs (mBuildSlice (.int .u8) (u8 0#8) 0 [] h) fun r0 => Evs (mFieldAddr tState (env.get 1) 2) fun v1 => Evs (mLoad .cell v1 r0.2) fun v2 => appA (.int .u8) 1 (u8 0#8) r0.1 v2 r0.2 fun r3 => Evs (mFieldAddr tState (env.get 3) 2) fun v4 => Evs (stU .cell v4 r3.1 r3.2) fun r5 => wC Try.prog cx12 n12_3 Q ⟨env, r5.2⟩) := (ySR 2 (cOps (cL n12_2)) (cR n12_2)).trans (by
  refine w0 ?_
  refine wH 5 fun r0 => ?_
  refine wP 6 fun v1 => ?_
  refine wP 7 fun v2 => ?_
  refine wH 8 fun r3 => ?_
  refine wP 9 fun v4 => ?_
  refine wHn fun r5 => ?_
  exact wE)
theorem n12_1_eq (Q : Ex × St → Prop) (env : Env) (h : Heap) : wC Try.prog cx12 n12_1 Q ⟨env, h⟩ = (Evs (mLoad tState (env.get 1) h) fun v0 => Evs (mNew tState (.node [(u32 0#32), (.node [(arr 32 fun _ => 0#8), (arr 32 fun _ => 0#8)]), .nilslice, (.node [(u8 0#8), (u8 0#8), (u8 0#8)]), .nilslice, .nilslice, .nilslice, .nilslice, .nilslice]) h) fun r1 => Evs (stU tState r1.1 v0 r1.2) fun r2 => wC Try.prog cx12 n12_2 Q ⟨(Env.put env 3 r1.1), r2.2⟩) := (ySR 1 (cOps (cL n12_1)) (cR n12_1)).trans (by
  refine w0 ?_
  refine wP 4 fun v0 => ?_
  refine wH 3 fun r1 => ?_
  refine wHn fun r2 => ?_
  exact wE)
theorem n12_0_eq (Q : Ex × St → Prop) (env : Env) (h : Heap) : wC Try.prog cx12 n12_0 Q ⟨env, h⟩ = (Evs (mNew tState (env.get 0) h) fun r0 => Evs (mNew tState (.node [(u32 0#32), (.node [(arr 32 fun _ => 0#8), (arr 32 fun _ => 0#8)]), .nilslice, (.node [(u8 0#8), (u8 0#8), (u8 0#8)]), .nilslice, .nilslice, .nilslice, .nilslice, .nilslice]) r0.2) fun r1 => wC Try.prog cx12 n12_1 Q ⟨(Env.put (Env.put env 1 r0.1) 2 r1.1), r1.2⟩) := (ySR 0 (cOps (cL n12_0)) (cR n12_0)).trans (by
  refine w0 ?_
  refine wH 1 fun r0 => ?_
  refine wH 2 fun r1 => ?_
  exact wE)
theorem fn12 : Try.prog.funcs[12]? = some Try.f12 := by kernel_rfl
theorem q12 {a0 : AV} {h : Heap} {K : AV × Heap → Prop} (H : ∀ env : Env, env.get 0 = a0 → wC Try.prog cx12 n12_0 (retW (fun s => (bnd (mLoad tState (s.env.get 2) s.heap) fun v => bnd (some []) fun vs => some (v :: vs))) K) ⟨env, h⟩) : SpecQ Try.prog 12 [a0] h K :=
  bodyW_sound (C := cx12) TT_ok mixed_ok fn12 (by kernel_rfl) (show _ = some n12_0 by kernel_rfl) (by kernel_rfl) (by kernel_rfl) (of_decide_eq_true (by kernel_rfl)) ((show wC Try.prog cx12 n12_0 (retW (fun s => resAll cx12 s Try.f12.results.toList) K) ⟨env0 cx12 [a0], h⟩ = wC Try.prog cx12 n12_0 (retW (fun s => (bnd (mLoad tState (s.env.get 2) s.heap) fun v => bnd (some []) fun vs => some (v :: vs))) K) ⟨[(0, a0), (1, .junk), (2, .junk), (3, .junk)], h⟩ by kernel_rfl).mpr (H [(0, a0), (1, .junk), (2, .junk), (3, .junk)] rfl))
def sn12 := And.intro n12_9_eq (And.intro n12_8_eq (And.intro n12_7_eq (And.intro n12_6_eq (And.intro n12_5_eq (And.intro n12_4_eq (And.intro n12_3_eq (And.intro n12_2_eq (And.intro n12_1_eq (n12_0_eq)))))))))
-- draws: 
end Go.Vab

/- How the code of a function is read. Printed by wip/tools/gen2.py (own work). -/
namespace Go.Vab
open Go Go.Proofs
/-! vestry/vestryref18.CopyAction -/
def cx35 : Ctx := ⟨fun _ _ _ => none, TT, 16, [4, 5, 6, 7, 8, 9, 10, 11, 12, 13, 14, 15]⟩
noncomputable def n35_0 : Code := bodyOf Try.f35
noncomputable def n35_1 : Code := cR n35_0
noncomputable def n35_2 : Code := cR n35_1
noncomputable def n35_3 : Code := cR n35_2
noncomputable def n35_4 : Code := cR n35_3
noncomputable def n35_5 : Code := cR n35_4
theorem n35_5_eq (Q : Ex × St → Prop) (s : St) : wC Try.prog cx35 n35_5 Q s = Q (.ret, s) := yE
theorem n35_4_eq (Q : Ex × St → Prop) (env : Env) (h : Heap) : wC Try.prog cx35 n35_4 Q ⟨env, h⟩ = (Evs (mLoad tAction (env.get 3) h) fun v0 => Evs (stU tAction (env.get 2) v0 h) fun r1 => wC Try.prog cx35 n35_5 Q ⟨env, r1.2⟩) := (ySR 4 (cOps (cL n35_4)) (cR n35_4)).trans (by
  refine w0 ?_
  refine wP 15 fun v0 => ?_
  refine wHn fun r1 => ?_
  exact wE)
theorem n35_3_eq (Q : Ex × St → Prop) (env : Env) (h : Heap) : wC Try.prog cx35 n35_3 Q ⟨env, h⟩ = (Evs (mBuildSlice (.int .u8) (u8 0#8) 0 [] h) fun r0 => Evs (mFieldAddr tAction (env.get 1) 7) fun v1 => Evs (mLoad .cell v1 r0.2) fun v2 => appA (.int .u8) 1 (u8 0#8) r0.1 v2 r0.2 fun r3 => Evs (mFieldAddr tAction (env.get 3) 7) fun v4 => Evs (stU .cell v4 r3.1 r3.2) fun r5 => wC Try.prog cx35 n35_4 Q ⟨env, r5.2⟩) := (ySR 3 (cOps (cL n35_3)) (cR n35_3)).trans (by
  refine w0 ?_
  refine wH 10 fun r0 => ?_
  refine wP 11 fun v1 => ?_
  refine wP 12 fun v2 => ?_
  refine wH 13 fun r3 => ?_
  refine wP 14 fun v4 => ?_
  refine wHn fun r5 => ?_
  exact wE)
theorem n35_2_eq (Q : Ex × St → Prop) (env : Env) (h : Heap) : wC Try.prog cx35 n35_2 Q ⟨env, h⟩ = (Evs (mBuildSlice (.int .u8) (u8 0#8) 0 [] h) fun r0 => Evs (mFieldAddr tAction (env.get 1) 5) fun v1 => Evs (mLoad .cell v1 r0.2) fun v2 => appA (.int .u8) 1 (u8 0#8) r0.1 v2 r0.2 fun r3 => Evs (mFieldAddr tAction (env.get 3) 5) fun v4 => Evs (stU .cell v4 r3.1 r3.2) fun r5 => wC Try.prog cx35 n35_3 Q ⟨env, r5.2⟩) := (ySR 2 (cOps (cL n35_2)) (cR n35_2)).trans (by
  refine w0 ?_
  refine wH 5 fun r0 => ?_
  refine wP 6 fun v1 => ?_
  refine wP 7 fun v2 => ?_
  refine wH 8 fun r3 => ?_
  refine wP 9 fun v4 => ?_
  refine wHn fun r5 => ?_
  exact wE)
theorem n35_1_eq (Q : Ex × St → Prop) (env : Env) (h : Heap) : wC Try.prog cx35 n35_1 Q ⟨env, h⟩ = (Evs (mLoad tAction (env.get 1) h) fun v0 => Evs (mNew tAction (.node [(u32 0#32), (u8 0#8), (.node [(arr 32 fun _ => 0#8), (arr 32 fun _ => 0#8)]), (arr 32 fun _ => 0#8), (u8 0#8), .nilslice, (.node [(u8 0#8), (u8 0#8), (u8 0#8)]), .nilslice]) h) fun r1 => Evs (stU tAction r1.1 v0 r1.2) fun r2 => wC Try.prog cx35 n35_2 Q ⟨(Env.put env 3 r1.1), r2.2⟩) := (ySR 1 (cOps (cL n35_1)) (cR n35_1)).trans (by
  refine w0 ?_
  refine wP 4 fun v0 => ?_
  refine wH 3 fun r1 => ?_
  refine wHn fun r2 => ?_
  exact wE)
theorem n35_0_eq (Q : Ex × St → Prop) (env : Env) (h : Heap) : wC Try.prog cx35 n35_0 Q ⟨env, h⟩ = (Evs (mNew tAction (env.get 0) h) fun r0 => Evs (mNew tAction (.node [(u32 0#32), (u8 0#8), (.node [(arr 32 fun _ => 0#8), (arr 32 fun _ => 0#8)]), (arr 32 fun _ => 0#8), (u8 0#8), .nilslice, (.node [(u8 0#8), (u8 0#8), (u8 0#8)]), .nilslice]) r0.2) fun r1 => wC Try.prog cx35 n35_1 Q ⟨(Env.put (Env.put env 1 r0.1) 2 r1.1), r1.2⟩) := (ySR 0 (cOps (cL n35_0)) (cR n35_0)).trans (by
  refine w0 ?_
  refine wH 1 fun r0 => ?_
  refine wH 2 fun r1 => ?_
  exact wE)
theorem fn35 : Try.prog.funcs[35]? = some Try.f35 := by kernel_rfl
theorem q35 {a0 : AV} {h : Heap} {K : AV × Heap → Prop} (H : ∀ env : Env, env.get 0 = a0 → wC Try.prog cx35 n35_0 (retW (fun s => (bnd (mLoad tAction (s.env.get 2) s.heap) fun v => bnd (some []) fun vs => some (v :: vs))) K) ⟨env, h⟩) : SpecQ Try.prog 35 [a0] h K :=
  bodyW_sound (C := cx35) TT_ok mixed_ok fn35 (by kernel_rfl) (show _ = some n35_0 by kernel_rfl) (by kernel_rfl) (by kernel_rfl) (of_decide_eq_true (by kernel_rfl)) ((show wC Try.prog cx35 n35_0 (retW (fun s => resAll cx35 s Try.f35.results.toList) K) ⟨env0 cx35 [a0], h⟩ = wC Try.prog cx35 n35_0 (retW (fun s => (bnd (mLoad tAction (s.env.get 2) s.heap) fun v => bnd (some []) fun vs => some (v :: vs))) K) ⟨[(0, a0), (1, .junk), (2, .junk), (3, .junk)], h⟩ by kernel_rfl).mpr (H [(0, a0), (1, .junk), (2, .junk), (3, .junk)] rfl))
def sn35 := And.intro n35_5_eq (And.intro n35_4_eq (And.intro n35_3_eq (And.intro n35_2_eq (And.intro n35_1_eq (n35_0_eq)))))
-- draws: 
end Go.Vab

/-
  CopyState and CopyAction, walked.
-/
namespace Go.Vab
open Go Go.Proofs

/-- Lists that are short enough to be copied. -/
def short (s : Stt) : Prop := s.title.length ≤ 100000 ∧ s.pass.length ≤ 100000 ∧ s.seats.length ≤ 100000 ∧ s.invites.length ≤ 100000 ∧ s.asks.length ≤ 100000 ∧ s.bans.length ≤ 100000

theorem c12 {h : Heap} {a : Stt} {vt vp vs vi va vb : AV} (ra : StR h a vt vp vs vi va vb) (hs : short a) :
    SpecQ Try.prog 12 [eSt a vt vp vs vi va vb] h fun r => ∃ vt' vp' vs' vi' va' vb' t, r = (eSt a vt' vp' vs' vi' va' vb', h ++ t) ∧ StR (h ++ t) a vt' vp' vs' vi' va' vb' := by
  obtain ⟨b1, b2, b3, b4, b5, b6⟩ := hs
  have ta := ra.cells
  refine q12 fun env g0 => ?_
  repeat' (first
    | ((with_reducible apply evs_of); (focus ((conv => lhs; simp (disch := omega) [g0, ta]); done)); try dsimp only)
    | ((with_reducible apply gW_do); (focus (simp (disch := omega) [g0, ta]; done)))
    | ((with_reducible apply gW_no); (focus (simp (disch := omega) [g0, ta]; done)); try dsimp only)
    | ((with_reducible apply gW_un); (focus (simp (disch := omega) [g0, ta]; done)); try dsimp only)
    | ((with_reducible apply cndW_T); (focus (simp (disch := omega) [g0, ta] <;> omega)))
    | ((with_reducible apply cndW_F); (focus (simp (disch := omega) [g0, ta] <;> omega)))
    | ((with_reducible apply stabP_i); (focus (simp (disch := omega) [g0, ta]; done)))
    | (with_reducible apply bothP_i)
    | (with_reducible apply wL_i)
    | ((with_reducible apply ValW_do); (focus (simp (disch := omega) [g0, ta]; done)); try dsimp only)
    | ((with_reducible apply ValW_no); (focus (simp (disch := omega) [g0, ta]; done)); try dsimp only)
    | ((with_reducible apply ValW_un); (focus (simp (disch := omega) [g0, ta]; done)); try dsimp only)
    | ((with_reducible apply SpecA_i); (focus ((conv => lhs; simp (disch := omega) [g0, ta]); done)))
    | ((with_reducible apply ValA_i); (focus ((conv => lhs; simp (disch := omega) [g0, ta]); done)))
    | ((with_reducible apply stabA_i); (focus ((conv => lhs; simp (disch := omega) [g0, ta]); done)))
    | ((with_reducible apply fnA_i); (focus ((conv => lhs; simp (disch := omega) [g0, ta]); done)))
    | ((with_reducible apply ValA_fn); (focus ((conv => lhs; simp (disch := omega) [g0, ta]); done)))
    | ((with_reducible apply stabA_fn); (focus ((conv => lhs; simp (disch := omega) [g0, ta]); done)))
    | ((with_reducible apply appA_i); (focus ((conv => lhs; simp (disch := omega) [g0, ta]); done)); (focus ((conv => lhs; simp (disch := omega) [g0, ta]); done)))
    | ((with_reducible apply stab_do); (focus (simp (disch := omega) [g0, ta]; done)))
    | (simp (decide := true) only [sn12, sqW_nrm, sqW_exit, sqW_ret, inBlk_nrm, inBlk_ret, inBlk_same, inBlk_exit, if_true, if_false, retW_nrm, retW_ret]))
  refine copyB3 (by simp [mElems_slc]) (ra.ft.app _) (by simp) fun y1 e1 f1 => ?_
  have c1 := f1.cell
  repeat' (first
    | ((with_reducible apply evs_of); (focus ((conv => lhs; simp (disch := omega) [g0, ta, c1]); done)); try dsimp only)
    | ((with_reducible apply gW_do); (focus (simp (disch := omega) [g0, ta, c1]; done)))
    | ((with_reducible apply gW_no); (focus (simp (disch := omega) [g0, ta, c1]; done)); try dsimp only)
    | ((with_reducible apply gW_un); (focus (simp (disch := omega) [g0, ta, c1]; done)); try dsimp only)
    | ((with_reducible apply cndW_T); (focus (simp (disch := omega) [g0, ta, c1] <;> omega)))
    | ((with_reducible apply cndW_F); (focus (simp (disch := omega) [g0, ta, c1] <;> omega)))
    | ((with_reducible apply stabP_i); (focus (simp (disch := omega) [g0, ta, c1]; done)))
    | (with_reducible apply bothP_i)
    | (with_reducible apply wL_i)
    | ((with_reducible apply ValW_do); (focus (simp (disch := omega) [g0, ta, c1]; done)); try dsimp only)
    | ((with_reducible apply ValW_no); (focus (simp (disch := omega) [g0, ta, c1]; done)); try dsimp only)
    | ((with_reducible apply ValW_un); (focus (simp (disch := omega) [g0, ta, c1]; done)); try dsimp only)
    | ((with_reducible apply SpecA_i); (focus ((conv => lhs; simp (disch := omega) [g0, ta, c1]); done)))
    | ((with_reducible apply ValA_i); (focus ((conv => lhs; simp (disch := omega) [g0, ta, c1]); done)))
    | ((with_reducible apply stabA_i); (focus ((conv => lhs; simp (disch := omega) [g0, ta, c1]); done)))
    | ((with_reducible apply fnA_i); (focus ((conv => lhs; simp (disch := omega) [g0, ta, c1]); done)))
    | ((with_reducible apply ValA_fn); (focus ((conv => lhs; simp (disch := omega) [g0, ta, c1]); done)))
    | ((with_reducible apply stabA_fn); (focus ((conv => lhs; simp (disch := omega) [g0, ta, c1]); done)))
    | ((with_reducible apply appA_i); (focus ((conv => lhs; simp (disch := omega) [g0, ta, c1]); done)); (focus ((conv => lhs; simp (disch := omega) [g0, ta, c1]); done)))
    | ((with_reducible apply stab_do); (focus (simp (disch := omega) [g0, ta, c1]; done)))
    | (simp (decide := true) only [sn12, sqW_nrm, sqW_exit, sqW_ret, inBlk_nrm, inBlk_ret, inBlk_same, inBlk_exit, if_true, if_false, retW_nrm, retW_ret]))
  refine copyB3 (by simp [mElems_slc]) (ra.fp.app _) (by simp) fun y2 e2 f2 => ?_
  have c2 := f2.cell
  repeat' (first
    | ((with_reducible apply evs_of); (focus ((conv => lhs; simp (disch := omega) [g0, ta, c1, c2]); done)); try dsimp only)
    | ((with_reducible apply gW_do); (focus (simp (disch := omega) [g0, ta, c1, c2]; done)))
    | ((with_reducible apply gW_no); (focus (simp (disch := omega) [g0, ta, c1, c2]; done)); try dsimp only)
    | ((with_reducible apply gW_un); (focus (simp (disch := omega) [g0, ta, c1, c2]; done)); try dsimp only)
    | ((with_reducible apply cndW_T); (focus (simp (disch := omega) [g0, ta, c1, c2] <;> omega)))
    | ((with_reducible apply cndW_F); (focus (simp (disch := omega) [g0, ta, c1, c2] <;> omega)))
    | ((with_reducible apply stabP_i); (focus (simp (disch := omega) [g0, ta, c1, c2]; done)))
    | (with_reducible apply bothP_i)
    | (with_reducible apply wL_i)
    | ((with_reducible apply ValW_do); (focus (simp (disch := omega) [g0, ta, c1, c2]; done)); try dsimp only)
    | ((with_reducible apply ValW_no); (focus (simp (disch := omega) [g0, ta, c1, c2]; done)); try dsimp only)
    | ((with_reducible apply ValW_un); (focus (simp (disch := omega) [g0, ta, c1, c2]; done)); try dsimp only)
    | ((with_reducible apply SpecA_i); (focus ((conv => lhs; simp (disch := omega) [g0, ta, c1, c2]); done)))
    | ((with_reducible apply ValA_i); (focus ((conv => lhs; simp (disch := omega) [g0, ta, c1, c2]); done)))
    | ((with_reducible apply stabA_i); (focus ((conv => lhs; simp (disch := omega) [g0, ta, c1, c2]); done)))
    | ((with_reducible apply fnA_i); (focus ((conv => lhs; simp (disch := omega) [g0, ta, c1, c2]); done)))
    | ((with_reducible apply ValA_fn); (focus ((conv => lhs; simp (disch := omega) [g0, ta, c1, c2]); done)))
    | ((with_reducible apply stabA_fn); (focus ((conv => lhs; simp (disch := omega) [g0, ta, c1, c2]); done)))
    | ((with_reducible apply appA_i); (focus ((conv => lhs; simp (disch := omega) [g0, ta, c1, c2]); done)); (focus ((conv => lhs; simp (disch := omega) [g0, ta, c1, c2]); done)))
    | ((with_reducible apply stab_do); (focus (simp (disch := omega) [g0, ta, c1, c2]; done)))
    | (simp (decide := true) only [sn12, sqW_nrm, sqW_exit, sqW_ret, inBlk_nrm, inBlk_ret, inBlk_same, inBlk_exit, if_true, if_false, retW_nrm, retW_ret]))
  refine copyR3 (fun _ => rfl) (by simp [mElems_row]) (ra.fs.app _) (by simp [roomBound]; omega) (by omega) (by simp) fun y3 e3 f3 => ?_
  have c3 := f3.cell
  repeat' (first
    | ((with_reducible apply evs_of); (focus ((conv => lhs; simp (disch := omega) [g0, ta, c1, c2, c3]); done)); try dsimp only)
    | ((with_reducible apply gW_do); (focus (simp (disch := omega) [g0, ta, c1, c2, c3]; done)))
    | ((with_reducible apply gW_no); (focus (simp (disch := omega) [g0, ta, c1, c2, c3]; done)); try dsimp only)
    | ((with_reducible apply gW_un); (focus (simp (disch := omega) [g0, ta, c1, c2, c3]; done)); try dsimp only)
    | ((with_reducible apply cndW_T); (focus (simp (disch := omega) [g0, ta, c1, c2, c3] <;> omega)))
    | ((with_reducible apply cndW_F); (focus (simp (disch := omega) [g0, ta, c1, c2, c3] <;> omega)))
    | ((with_reducible apply stabP_i); (focus (simp (disch := omega) [g0, ta, c1, c2, c3]; done)))
    | (with_reducible apply bothP_i)
    | (with_reducible apply wL_i)
    | ((with_reducible apply ValW_do); (focus (simp (disch := omega) [g0, ta, c1, c2, c3]; done)); try dsimp only)
    | ((with_reducible apply ValW_no); (focus (simp (disch := omega) [g0, ta, c1, c2, c3]; done)); try dsimp only)
    | ((with_reducible apply ValW_un); (focus (simp (disch := omega) [g0, ta, c1, c2, c3]; done)); try dsimp only)
    | ((with_reducible apply SpecA_i); (focus ((conv => lhs; simp (disch := omega) [g0, ta, c1, c2, c3]); done)))
    | ((with_reducible apply ValA_i); (focus ((conv => lhs; simp (disch := omega) [g0, ta, c1, c2, c3]); done)))
    | ((with_reducible apply stabA_i); (focus ((conv => lhs; simp (disch := omega) [g0, ta, c1, c2, c3]); done)))
    | ((with_reducible apply fnA_i); (focus ((conv => lhs; simp (disch := omega) [g0, ta, c1, c2, c3]); done)))
    | ((with_reducible apply ValA_fn); (focus ((conv => lhs; simp (disch := omega) [g0, ta, c1, c2, c3]); done)))
    | ((with_reducible apply stabA_fn); (focus ((conv => lhs; simp (disch := omega) [g0, ta, c1, c2, c3]); done)))
    | ((with_reducible apply appA_i); (focus ((conv => lhs; simp (disch := omega) [g0, ta, c1, c2, c3]); done)); (focus ((conv => lhs; simp (disch := omega) [g0, ta, c1, c2, c3]); done)))
    | ((with_reducible apply stab_do); (focus (simp (disch := omega) [g0, ta, c1, c2, c3]; done)))
    | (simp (decide := true) only [sn12, sqW_nrm, sqW_exit, sqW_ret, inBlk_nrm, inBlk_ret, inBlk_same, inBlk_exit, if_true, if_false, retW_nrm, retW_ret]))
  refine copyR3 (fun _ => rfl) (by simp [mElems_row]) (ra.fi.app _) (by simp [roomBound]; omega) (by omega) (by simp) fun y4 e4 f4 => ?_
  have c4 := f4.cell
  repeat' (first
    | ((with_reducible apply evs_of); (focus ((conv => lhs; simp (disch := omega) [g0, ta, c1, c2, c3, c4]); done)); try dsimp only)
    | ((with_reducible apply gW_do); (focus (simp (disch := omega) [g0, ta, c1, c2, c3, c4]; done)))
    | ((with_reducible apply gW_no); (focus (simp (disch := omega) [g0, ta, c1, c2, c3, c4]; done)); try dsimp only)
    | ((with_reducible apply gW_un); (focus (simp (disch := omega) [g0, ta, c1, c2, c3, c4]; done)); try dsimp only)
    | ((with_reducible apply cndW_T); (focus (simp (disch := omega) [g0, ta, c1, c2, c3, c4] <;> omega)))
    | ((with_reducible apply cndW_F); (focus (simp (disch := omega) [g0, ta, c1, c2, c3, c4] <;> omega)))
    | ((with_reducible apply stabP_i); (focus (simp (disch := omega) [g0, ta, c1, c2, c3, c4]; done)))
    | (with_reducible apply bothP_i)
    | (with_reducible apply wL_i)
    | ((with_reducible apply ValW_do); (focus (simp (disch := omega) [g0, ta, c1, c2, c3, c4]; done)); try dsimp only)
    | ((with_reducible apply ValW_no); (focus (simp (disch := omega) [g0, ta, c1, c2, c3, c4]; done)); try dsimp only)
    | ((with_reducible apply ValW_un); (focus (simp (disch := omega) [g0, ta, c1, c2, c3, c4]; done)); try dsimp only)
    | ((with_reducible apply SpecA_i); (focus ((conv => lhs; simp (disch := omega) [g0, ta, c1, c2, c3, c4]); done)))
    | ((with_reducible apply ValA_i); (focus ((conv => lhs; simp (disch := omega) [g0, ta, c1, c2, c3, c4]); done)))
    | ((with_reducible apply stabA_i); (focus ((conv => lhs; simp (disch := omega) [g0, ta, c1, c2, c3, c4]); done)))
    | ((with_reducible apply fnA_i); (focus ((conv => lhs; simp (disch := omega) [g0, ta, c1, c2, c3, c4]); done)))
    | ((with_reducible apply ValA_fn); (focus ((conv => lhs; simp (disch := omega) [g0, ta, c1, c2, c3, c4]); done)))
    | ((with_reducible apply stabA_fn); (focus ((conv => lhs; simp (disch := omega) [g0, ta, c1, c2, c3, c4]); done)))
    | ((with_reducible apply appA_i); (focus ((conv => lhs; simp (disch := omega) [g0, ta, c1, c2, c3, c4]); done)); (focus ((conv => lhs; simp (disch := omega) [g0, ta, c1, c2, c3, c4]); done)))
    | ((with_reducible apply stab_do); (focus (simp (disch := omega) [g0, ta, c1, c2, c3, c4]; done)))
    | (simp (decide := true) only [sn12, sqW_nrm, sqW_exit, sqW_ret, inBlk_nrm, inBlk_ret, inBlk_same, inBlk_exit, if_true, if_false, retW_nrm, retW_ret]))
  refine copyR3 (fun _ => rfl) (by simp [mElems_row]) (ra.fa.app _) (by simp [roomBound]; omega) (by omega) (by simp) fun y5 e5 f5 => ?_
  have c5 := f5.cell
  repeat' (first
    | ((with_reducible apply evs_of); (focus ((conv => lhs; simp (disch := omega) [g0, ta, c1, c2, c3, c4, c5]); done)); try dsimp only)
    | ((with_reducible apply gW_do); (focus (simp (disch := omega) [g0, ta, c1, c2, c3, c4, c5]; done)))
    | ((with_reducible apply gW_no); (focus (simp (disch := omega) [g0, ta, c1, c2, c3, c4, c5]; done)); try dsimp only)
    | ((with_reducible apply gW_un); (focus (simp (disch := omega) [g0, ta, c1, c2, c3, c4, c5]; done)); try dsimp only)
    | ((with_reducible apply cndW_T); (focus (simp (disch := omega) [g0, ta, c1, c2, c3, c4, c5] <;> omega)))
    | ((with_reducible apply cndW_F); (focus (simp (disch := omega) [g0, ta, c1, c2, c3, c4, c5] <;> omega)))
    | ((with_reducible apply stabP_i); (focus (simp (disch := omega) [g0, ta, c1, c2, c3, c4, c5]; done)))
    | (with_reducible apply bothP_i)
    | (with_reducible apply wL_i)
    | ((with_reducible apply ValW_do); (focus (simp (disch := omega) [g0, ta, c1, c2, c3, c4, c5]; done)); try dsimp only)
    | ((with_reducible apply ValW_no); (focus (simp (disch := omega) [g0, ta, c1, c2, c3, c4, c5]; done)); try dsimp only)
    | ((with_reducible apply ValW_un); (focus (simp (disch := omega) [g0, ta, c1, c2, c3, c4, c5]; done)); try dsimp only)
    | ((with_reducible apply SpecA_i); (focus ((conv => lhs; simp (disch := omega) [g0, ta, c1, c2, c3, c4, c5]); done)))
    | ((with_reducible apply ValA_i); (focus ((conv => lhs; simp (disch := omega) [g0, ta, c1, c2, c3, c4, c5]); done)))
    | ((with_reducible apply stabA_i); (focus ((conv => lhs; simp (disch := omega) [g0, ta, c1, c2, c3, c4, c5]); done)))
    | ((with_reducible apply fnA_i); (focus ((conv => lhs; simp (disch := omega) [g0, ta, c1, c2, c3, c4, c5]); done)))
    | ((with_reducible apply ValA_fn); (focus ((conv => lhs; simp (disch := omega) [g0, ta, c1, c2, c3, c4, c5]); done)))
    | ((with_reducible apply stabA_fn); (focus ((conv => lhs; simp (disch := omega) [g0, ta, c1, c2, c3, c4, c5]); done)))
    | ((with_reducible apply appA_i); (focus ((conv => lhs; simp (disch := omega) [g0, ta, c1, c2, c3, c4, c5]); done)); (focus ((conv => lhs; simp (disch := omega) [g0, ta, c1, c2, c3, c4, c5]); done)))
    | ((with_reducible apply stab_do); (focus (simp (disch := omega) [g0, ta, c1, c2, c3, c4, c5]; done)))
    | (simp (decide := true) only [sn12, sqW_nrm, sqW_exit, sqW_ret, inBlk_nrm, inBlk_ret, inBlk_same, inBlk_exit, if_true, if_false, retW_nrm, retW_ret]))
  refine copyR3 (fun _ => rfl) (by simp [mElems_row]) (ra.fb.app _) (by simp [roomBound]; omega) (by omega) (by simp) fun y6 e6 f6 => ?_
  have c6 := f6.cell
  repeat' (first
    | ((with_reducible apply evs_of); (focus ((conv => lhs; simp (disch := omega) [g0, ta, c1, c2, c3, c4, c5, c6]); done)); try dsimp only)
    | ((with_reducible apply gW_do); (focus (simp (disch := omega) [g0, ta, c1, c2, c3, c4, c5, c6]; done)))
    | ((with_reducible apply gW_no); (focus (simp (disch := omega) [g0, ta, c1, c2, c3, c4, c5, c6]; done)); try dsimp only)
    | ((with_reducible apply gW_un); (focus (simp (disch := omega) [g0, ta, c1, c2, c3, c4, c5, c6]; done)); try dsimp only)
    | ((with_reducible apply cndW_T); (focus (simp (disch := omega) [g0, ta, c1, c2, c3, c4, c5, c6] <;> omega)))
    | ((with_reducible apply cndW_F); (focus (simp (disch := omega) [g0, ta, c1, c2, c3, c4, c5, c6] <;> omega)))
    | ((with_reducible apply stabP_i); (focus (simp (disch := omega) [g0, ta, c1, c2, c3, c4, c5, c6]; done)))
    | (with_reducible apply bothP_i)
    | (with_reducible apply wL_i)
    | ((with_reducible apply ValW_do); (focus (simp (disch := omega) [g0, ta, c1, c2, c3, c4, c5, c6]; done)); try dsimp only)
    | ((with_reducible apply ValW_no); (focus (simp (disch := omega) [g0, ta, c1, c2, c3, c4, c5, c6]; done)); try dsimp only)
    | ((with_reducible apply ValW_un); (focus (simp (disch := omega) [g0, ta, c1, c2, c3, c4, c5, c6]; done)); try dsimp only)
    | ((with_reducible apply SpecA_i); (focus ((conv => lhs; simp (disch := omega) [g0, ta, c1, c2, c3, c4, c5, c6]); done)))
    | ((with_reducible apply ValA_i); (focus ((conv => lhs; simp (disch := omega) [g0, ta, c1, c2, c3, c4, c5, c6]); done)))
    | ((with_reducible apply stabA_i); (focus ((conv => lhs; simp (disch := omega) [g0, ta, c1, c2, c3, c4, c5, c6]); done)))
    | ((with_reducible apply fnA_i); (focus ((conv => lhs; simp (disch := omega) [g0, ta, c1, c2, c3, c4, c5, c6]); done)))
    | ((with_reducible apply ValA_fn); (focus ((conv => lhs; simp (disch := omega) [g0, ta, c1, c2, c3, c4, c5, c6]); done)))
    | ((with_reducible apply stabA_fn); (focus ((conv => lhs; simp (disch := omega) [g0, ta, c1, c2, c3, c4, c5, c6]); done)))
    | ((with_reducible apply appA_i); (focus ((conv => lhs; simp (disch := omega) [g0, ta, c1, c2, c3, c4, c5, c6]); done)); (focus ((conv => lhs; simp (disch := omega) [g0, ta, c1, c2, c3, c4, c5, c6]); done)))
    | ((with_reducible apply stab_do); (focus (simp (disch := omega) [g0, ta, c1, c2, c3, c4, c5, c6]; done)))
    | (simp (decide := true) only [sn12, sqW_nrm, sqW_exit, sqW_ret, inBlk_nrm, inBlk_ret, inBlk_same, inBlk_exit, if_true, if_false, retW_nrm, retW_ret]))
  exact ⟨y1, y2, y3, y4, y5, y6, _, rfl, ⟨f1.to3 (by simp only [List.append_assoc, List.cons_append, List.nil_append]; rfl), f2.to3 (by simp only [List.append_assoc, List.cons_append, List.nil_append]; rfl), f3.to3 (by simp only [List.append_assoc, List.cons_append, List.nil_append]; rfl), f4.to3 (by simp only [List.append_assoc, List.cons_append, List.nil_append]; rfl), f5.to3 (by simp only [List.append_assoc, List.cons_append, List.nil_append]; rfl), f6.to3 (e := []) (by simp only [List.append_assoc, List.cons_append, List.nil_append, List.append_nil]; rfl)⟩⟩

def shortA (a : Actn) : Prop := a.title.length ≤ 100000 ∧ a.pass.length ≤ 100000

theorem c35 {h : Heap} {a : Actn} {vt vp : AV} (ra : ActR h a vt vp) (hs : shortA a) :
    SpecQ Try.prog 35 [eAct a vt vp] h fun r => ∃ vt' vp' t, r = (eAct a vt' vp', h ++ t) ∧ ActR (h ++ t) a vt' vp' := by
  obtain ⟨b1, b2⟩ := hs
  have ta := ra.cells
  refine q35 fun env g0 => ?_
  repeat' (first
    | ((with_reducible apply evs_of); (focus ((conv => lhs; simp (disch := omega) [g0, ta]); done)); try dsimp only)
    | ((with_reducible apply gW_do); (focus (simp (disch := omega) [g0, ta]; done)))
    | ((with_reducible apply gW_no); (focus (simp (disch := omega) [g0, ta]; done)); try dsimp only)
    | ((with_reducible apply gW_un); (focus (simp (disch := omega) [g0, ta]; done)); try dsimp only)
    | ((with_reducible apply cndW_T); (focus (simp (disch := omega) [g0, ta] <;> omega)))
    | ((with_reducible apply cndW_F); (focus (simp (disch := omega) [g0, ta] <;> omega)))
    | ((with_reducible apply stabP_i); (focus (simp (disch := omega) [g0, ta]; done)))
    | (with_reducible apply bothP_i)
    | (with_reducible apply wL_i)
    | ((with_reducible apply ValW_do); (focus (simp (disch := omega) [g0, ta]; done)); try dsimp only)
    | ((with_reducible apply ValW_no); (focus (simp (disch := omega) [g0, ta]; done)); try dsimp only)
    | ((with_reducible apply ValW_un); (focus (simp (disch := omega) [g0, ta]; done)); try dsimp only)
    | ((with_reducible apply SpecA_i); (focus ((conv => lhs; simp (disch := omega) [g0, ta]); done)))
    | ((with_reducible apply ValA_i); (focus ((conv => lhs; simp (disch := omega) [g0, ta]); done)))
    | ((with_reducible apply stabA_i); (focus ((conv => lhs; simp (disch := omega) [g0, ta]); done)))
    | ((with_reducible apply fnA_i); (focus ((conv => lhs; simp (disch := omega) [g0, ta]); done)))
    | ((with_reducible apply ValA_fn); (focus ((conv => lhs; simp (disch := omega) [g0, ta]); done)))
    | ((with_reducible apply stabA_fn); (focus ((conv => lhs; simp (disch := omega) [g0, ta]); done)))
    | ((with_reducible apply appA_i); (focus ((conv => lhs; simp (disch := omega) [g0, ta]); done)); (focus ((conv => lhs; simp (disch := omega) [g0, ta]); done)))
    | ((with_reducible apply stab_do); (focus (simp (disch := omega) [g0, ta]; done)))
    | (simp (decide := true) only [sn35, sqW_nrm, sqW_exit, sqW_ret, inBlk_nrm, inBlk_ret, inBlk_same, inBlk_exit, if_true, if_false, retW_nrm, retW_ret]))
  refine copyB3 (by simp [mElems_slc]) (ra.t.app _) (by simp) fun y1 e1 f1 => ?_
  have c1 := f1.cell
  repeat' (first
    | ((with_reducible apply evs_of); (focus ((conv => lhs; simp (disch := omega) [g0, ta, c1]); done)); try dsimp only)
    | ((with_reducible apply gW_do); (focus (simp (disch := omega) [g0, ta, c1]; done)))
    | ((with_reducible apply gW_no); (focus (simp (disch := omega) [g0, ta, c1]; done)); try dsimp only)
    | ((with_reducible apply gW_un); (focus (simp (disch := omega) [g0, ta, c1]; done)); try dsimp only)
    | ((with_reducible apply cndW_T); (focus (simp (disch := omega) [g0, ta, c1] <;> omega)))
    | ((with_reducible apply cndW_F); (focus (simp (disch := omega) [g0, ta, c1] <;> omega)))
    | ((with_reducible apply stabP_i); (focus (simp (disch := omega) [g0, ta, c1]; done)))
    | (with_reducible apply bothP_i)
    | (with_reducible apply wL_i)
    | ((with_reducible apply ValW_do); (focus (simp (disch := omega) [g0, ta, c1]; done)); try dsimp only)
    | ((with_reducible apply ValW_no); (focus (simp (disch := omega) [g0, ta, c1]; done)); try dsimp only)
    | ((with_reducible apply ValW_un); (focus (simp (disch := omega) [g0, ta, c1]; done)); try dsimp only)
    | ((with_reducible apply SpecA_i); (focus ((conv => lhs; simp (disch := omega) [g0, ta, c1]); done)))
    | ((with_reducible apply ValA_i); (focus ((conv => lhs; simp (disch := omega) [g0, ta, c1]); done)))
    | ((with_reducible apply stabA_i); (focus ((conv => lhs; simp (disch := omega) [g0, ta, c1]); done)))
    | ((with_reducible apply fnA_i); (focus ((conv => lhs; simp (disch := omega) [g0, ta, c1]); done)))
    | ((with_reducible apply ValA_fn); (focus ((conv => lhs; simp (disch := omega) [g0, ta, c1]); done)))
    | ((with_reducible apply stabA_fn); (focus ((conv => lhs; simp (disch := omega) [g0, ta, c1]); done)))
    | ((with_reducible apply appA_i); (focus ((conv => lhs; simp (disch := omega) [g0, ta, c1]); done)); (focus ((conv => lhs; simp (disch := omega) [g0, ta, c1]); done)))
    | ((with_reducible apply stab_do); (focus (simp (disch := omega) [g0, ta, c1]; done)))
    | (simp (decide := true) only [sn35, sqW_nrm, sqW_exit, sqW_ret, inBlk_nrm, inBlk_ret, inBlk_same, inBlk_exit, if_true, if_false, retW_nrm, retW_ret]))
  refine copyB3 (by simp [mElems_slc]) (ra.p.app _) (by simp) fun y2 e2 f2 => ?_
  have c2 := f2.cell
  repeat' (first
    | ((with_reducible apply evs_of); (focus ((conv => lhs; simp (disch := omega) [g0, ta, c1, c2]); done)); try dsimp only)
    | ((with_reducible apply gW_do); (focus (simp (disch := omega) [g0, ta, c1, c2]; done)))
    | ((with_reducible apply gW_no); (focus (simp (disch := omega) [g0, ta, c1, c2]; done)); try dsimp only)
    | ((with_reducible apply gW_un); (focus (simp (disch := omega) [g0, ta, c1, c2]; done)); try dsimp only)
    | ((with_reducible apply cndW_T); (focus (simp (disch := omega) [g0, ta, c1, c2] <;> omega)))
    | ((with_reducible apply cndW_F); (focus (simp (disch := omega) [g0, ta, c1, c2] <;> omega)))
    | ((with_reducible apply stabP_i); (focus (simp (disch := omega) [g0, ta, c1, c2]; done)))
    | (with_reducible apply bothP_i)
    | (with_reducible apply wL_i)
    | ((with_reducible apply ValW_do); (focus (simp (disch := omega) [g0, ta, c1, c2]; done)); try dsimp only)
    | ((with_reducible apply ValW_no); (focus (simp (disch := omega) [g0, ta, c1, c2]; done)); try dsimp only)
    | ((with_reducible apply ValW_un); (focus (simp (disch := omega) [g0, ta, c1, c2]; done)); try dsimp only)
    | ((with_reducible apply SpecA_i); (focus ((conv => lhs; simp (disch := omega) [g0, ta, c1, c2]); done)))
    | ((with_reducible apply ValA_i); (focus ((conv => lhs; simp (disch := omega) [g0, ta, c1, c2]); done)))
    | ((with_reducible apply stabA_i); (focus ((conv => lhs; simp (disch := omega) [g0, ta, c1, c2]); done)))
    | ((with_reducible apply fnA_i); (focus ((conv => lhs; simp (disch := omega) [g0, ta, c1, c2]); done)))
    | ((with_reducible apply ValA_fn); (focus ((conv => lhs; simp (disch := omega) [g0, ta, c1, c2]); done)))
    | ((with_reducible apply stabA_fn); (focus ((conv => lhs; simp (disch := omega) [g0, ta, c1, c2]); done)))
    | ((with_reducible apply appA_i); (focus ((conv => lhs; simp (disch := omega) [g0, ta, c1, c2]); done)); (focus ((conv => lhs; simp (disch := omega) [g0, ta, c1, c2]); done)))
    | ((with_reducible apply stab_do); (focus (simp (disch := omega) [g0, ta, c1, c2]; done)))
    | (simp (decide := true) only [sn35, sqW_nrm, sqW_exit, sqW_ret, inBlk_nrm, inBlk_ret, inBlk_same, inBlk_exit, if_true, if_false, retW_nrm, retW_ret]))
  exact ⟨y1, y2, _, rfl, ⟨f1.to3 (by simp only [List.append_assoc, List.cons_append, List.nil_append]; rfl), f2.to3 (e := []) (by simp only [List.append_assoc, List.cons_append, List.nil_append, List.append_nil]; rfl)⟩⟩

end Go.Vab

/- How the code of a function is read. Printed by wip/tools/gen2.py (own work). -/
namespace Go.Vab
open Go Go.Proofs
/-! vestry/vestryref18.SameState -/
def cx9 : Ctx := ⟨fun _ _ _ => none, TT, 162, [13, 14, 15, 16, 17, 18, 19, 20, 21, 22, 23, 24, 25, 26, 27, 28, 29, 30, 31, 32, 33, 34, 35, 36, 37, 38, 39, 40, 41, 42, 43, 44, 45, 46, 47, 48, 49, 50, 51, 52, 53, 54, 55, 56, 57, 58, 59, 60, 61, 62, 63, 64, 65, 66, 67, 68, 69, 70, 71, 72, 73, 74, 75, 76, 77, 78, 79, 80, 81, 82, 83, 84, 86, 87, 88, 89, 91, 92, 93, 94, 95, 96, 97, 98, 99, 100, 101, 102, 103, 104, 106, 107, 108, 109, 111, 112, 113, 114, 115, 116, 117, 118, 119, 120, 121, 122, 123, 124, 126, 127, 128, 129, 131, 132, 133, 134, 135, 136, 137, 138, 139, 140, 141, 142, 144, 145, 146, 147, 149, 150, 151, 152, 153, 154, 155, 156, 157, 158, 159, 160]⟩
noncomputable def n9_0 : Code := bodyOf Try.f9
noncomputable def n9_1 : Code := cR n9_0
noncomputable def n9_2 : Code := cL n9_1
noncomputable def n9_3 : Code := cR n9_2
noncomputable def n9_4 : Code := cL n9_3
noncomputable def n9_5 : Code := cR n9_4
noncomputable def n9_6 : Code := cR n9_3
noncomputable def n9_7 : Code := cR n9_1
noncomputable def n9_8 : Code := cL n9_7
noncomputable def n9_9 : Code := cR n9_8
noncomputable def n9_10 : Code := cB n9_9
noncomputable def n9_11 : Code := cB n9_10
noncomputable def n9_12 : Code := cL n9_11
noncomputable def n9_13 : Code := cR n9_12
noncomputable def n9_14 : Code := cL n9_13
noncomputable def n9_15 : Code := cR n9_13
noncomputable def n9_16 : Code := cR n9_11
noncomputable def n9_17 : Code := cL n9_16
noncomputable def n9_18 : Code := cB n9_17
noncomputable def n9_19 : Code := cR n9_18
noncomputable def n9_20 : Code := cR n9_19
noncomputable def n9_21 : Code := cL n9_20
noncomputable def n9_22 : Code := cR n9_21
noncomputable def n9_23 : Code := cR n9_20
noncomputable def n9_24 : Code := cR n9_16
noncomputable def n9_25 : Code := cR n9_7
noncomputable def n9_26 : Code := cL n9_25
noncomputable def n9_27 : Code := cR n9_26
noncomputable def n9_28 : Code := cB n9_27
noncomputable def n9_29 : Code := cB n9_28
noncomputable def n9_30 : Code := cL n9_29
noncomputable def n9_31 : Code := cR n9_30
noncomputable def n9_32 : Code := cL n9_31
noncomputable def n9_33 : Code := cR n9_31
noncomputable def n9_34 : Code := cR n9_29
noncomputable def n9_35 : Code := cL n9_34
noncomputable def n9_36 : Code := cB n9_35
noncomputable def n9_37 : Code := cR n9_36
noncomputable def n9_38 : Code := cR n9_37
noncomputable def n9_39 : Code := cL n9_38
noncomputable def n9_40 : Code := cR n9_39
noncomputable def n9_41 : Code := cR n9_38
noncomputable def n9_42 : Code := cR n9_34
noncomputable def n9_43 : Code := cR n9_25
noncomputable def n9_44 : Code := cL n9_43
noncomputable def n9_45 : Code := cR n9_44
noncomputable def n9_46 : Code := cB n9_45
noncomputable def n9_47 : Code := cB n9_46
noncomputable def n9_48 : Code := cL n9_47
noncomputable def n9_49 : Code := cR n9_48
noncomputable def n9_50 : Code := cL n9_49
noncomputable def n9_51 : Code := cR n9_49
noncomputable def n9_52 : Code := cR n9_47
noncomputable def n9_53 : Code := cL n9_52
noncomputable def n9_54 : Code := cB n9_53
noncomputable def n9_55 : Code := cR n9_54
noncomputable def n9_56 : Code := cL n9_55
noncomputable def n9_57 : Code := cR n9_56
noncomputable def n9_58 : Code := cR n9_55
noncomputable def n9_59 : Code := cR n9_52
noncomputable def n9_60 : Code := cR n9_43
noncomputable def n9_61 : Code := cL n9_60
noncomputable def n9_62 : Code := cR n9_61
noncomputable def n9_63 : Code := cB n9_62
noncomputable def n9_64 : Code := cB n9_63
noncomputable def n9_65 : Code := cL n9_64
noncomputable def n9_66 : Code := cR n9_65
noncomputable def n9_67 : Code := cL n9_66
noncomputable def n9_68 : Code := cR n9_66
noncomputable def n9_69 : Code := cR n9_64
noncomputable def n9_70 : Code := cL n9_69
noncomputable def n9_71 : Code := cB n9_70
noncomputable def n9_72 : Code := cR n9_71
noncomputable def n9_73 : Code := cL n9_72
noncomputable def n9_74 : Code := cR n9_73
noncomputable def n9_75 : Code := cR n9_72
noncomputable def n9_76 : Code := cR n9_69
noncomputable def n9_77 : Code := cR n9_60
noncomputable def n9_78 : Code := cR n9_77
theorem n9_5_eq (Q : Ex × St → Prop) (s : St) : wC Try.prog cx9 n9_5 Q s = Q (.ret, s) := yE
theorem n9_4_eq (Q : Ex × St → Prop) (env : Env) (h : Heap) : wC Try.prog cx9 n9_4 Q ⟨env, h⟩ = ( wC Try.prog cx9 n9_5 Q ⟨(Env.put env 4 (.bool false)), h⟩) := (ySR 2 (cOps (cL n9_4)) (cR n9_4)).trans (by
  refine w0 ?_
  refine wT 4 (.bool false) ?_
  exact wE)
theorem n9_6_eq (Q : Ex × St → Prop) (s : St) : wC Try.prog cx9 n9_6 Q s = Q (.nrm, s) := yK
theorem n9_3_eq (Q : Ex × St → Prop) (s : St) : wC Try.prog cx9 n9_3 Q s = cndW (s.env.get 85) (wL Try.prog cx9 n9_4 Q s) (wL Try.prog cx9 n9_6 Q s) := yC 85 _ _
theorem n9_2_eq (Q : Ex × St → Prop) (env : Env) (h : Heap) : wC Try.prog cx9 n9_2 Q ⟨env, h⟩ = (Evs (mFieldAddr tState (env.get 2) 0) fun v0 => Evs (mLoad (.int .u32) v0 h) fun v1 => Evs (mFieldAddr tState (env.get 3) 0) fun v2 => Evs (mLoad (.int .u32) v2 h) fun v3 => Evs (mBin .neq v1 v3) fun v4 => Evs (gv v4 false (mFieldAddr tState (env.get 2) 1)) fun v6 => Evs (gv v4 false (mLoad tPublic v6 h)) fun v7 => Evs (gv v4 false (mFieldAddr tState (env.get 3) 1)) fun v8 => Evs (gv v4 false (mLoad tPublic v8 h)) fun v9 => Evs (gv v4 false (mEq tPublic .neq v7 v9)) fun v10 => Evs (mPick v4 (.bool true) v10) fun v11 => Evs (gv v11 false (mFieldAddr tState (env.get 2) 2)) fun v13 => Evs (gv v11 false (mLoad .cell v13 h)) fun v14 => Evs (gv v11 false (mStr v14 h)) fun v15 => Evs (gv v11 false (mFieldAddr tState (env.get 3) 2)) fun v16 => Evs (gv v11 false (mLoad .cell v16 h)) fun v17 => Evs (gv v11 false (mStr v17 h)) fun v18 => Evs (gv v11 false (mBinT .neq v15 v18)) fun v19 => Evs (mPick v11 (.bool true) v19) fun v20 => Evs (gv v20 false (mFieldAddr tState (env.get 2) 3)) fun v22 => Evs (gv v20 false (mLoad tAccess v22 h)) fun v23 => Evs (gv v20 false (mFieldAddr tState (env.get 3) 3)) fun v24 => Evs (gv v20 false (mLoad tAccess v24 h)) fun v25 => Evs (gv v20 false (mEq tAccess .neq v23 v25)) fun v26 => Evs (mPick v20 (.bool true) v26) fun v27 => Evs (gv v27 false (mFieldAddr tState (env.get 2) 4)) fun v29 => Evs (gv v27 false (mLoad .cell v29 h)) fun v30 => Evs (gv v27 false (mStr v30 h)) fun v31 => Evs (gv v27 false (mFieldAddr tState (env.get 3) 4)) fun v32 => Evs (gv v27 false (mLoad .cell v32 h)) fun v33 => Evs (gv v27 false (mStr v33 h)) fun v34 => Evs (gv v27 false (mBinT .neq v31 v34)) fun v35 => Evs (mPick v27 (.bool true) v35) fun v36 => Evs (gv v36 false (mFieldAddr tState (env.get 2) 5)) fun v38 => Evs (gv v36 false (mLoad .cell v38 h)) fun v39 => Evs (gv v36 false (mLenS v39)) fun v40 => Evs (gv v36 false (mFieldAddr tState (env.get 3) 5)) fun v41 => Evs (gv v36 false (mLoad .cell v41 h)) fun v42 => Evs (gv v36 false (mLenS v42)) fun v43 => Evs (gv v36 false (mBin .neq v40 v43)) fun v44 => Evs (mPick v36 (.bool true) v44) fun v45 => Evs (gv v45 false (mFieldAddr tState (env.get 2) 6)) fun v47 => Evs (gv v45 false (mLoad .cell v47 h)) fun v48 => Evs (gv v45 false (mLenS v48)) fun v49 => Evs (gv v45 false (mFieldAddr tState (env.get 3) 6)) fun v50 => Evs (gv v45 false (mLoad .cell v50 h)) fun v51 => Evs (gv v45 false (mLenS v51)) fun v52 => Evs (gv v45 false (mBin .neq v49 v52)) fun v53 => Evs (mPick v45 (.bool true) v53) fun v54 => Evs (gv v54 false (mFieldAddr tState (env.get 2) 7)) fun v56 => Evs (gv v54 false (mLoad .cell v56 h)) fun v57 => Evs (gv v54 false (mLenS v57)) fun v58 => Evs (gv v54 false (mFieldAddr tState (env.get 3) 7)) fun v59 => Evs (gv v54 false (mLoad .cell v59 h)) fun v60 => Evs (gv v54 false (mLenS v60)) fun v61 => Evs (gv v54 false (mBin .neq v58 v61)) fun v62 => Evs (mPick v54 (.bool true) v62) fun v63 => Evs (gv v63 false (mFieldAddr tState (env.get 2) 8)) fun v65 => Evs (gv v63 false (mLoad .cell v65 h)) fun v66 => Evs (gv v63 false (mLenS v66)) fun v67 => Evs (gv v63 false (mFieldAddr tState (env.get 3) 8)) fun v68 => Evs (gv v63 false (mLoad .cell v68 h)) fun v69 => Evs (gv v63 false (mLenS v69)) fun v70 => Evs (gv v63 false (mBin .neq v67 v70)) fun v71 => Evs (mPick v63 (.bool true) v71) fun v72 => wC Try.prog cx9 n9_3 Q ⟨(Env.put env 85 v72), h⟩) := (ySR 1 (cOps (cL n9_2)) (cR n9_2)).trans (by
  refine w0 ?_
  refine wP 13 fun v0 => ?_
  refine wP 14 fun v1 => ?_
  refine wP 15 fun v2 => ?_
  refine wP 16 fun v3 => ?_
  refine wP 17 fun v4 => ?_
  refine wT 18 v4 ?_
  refine wG 19 fun v6 => ?_
  refine wG 20 fun v7 => ?_
  refine wG 21 fun v8 => ?_
  refine wG 22 fun v9 => ?_
  refine wG 23 fun v10 => ?_
  refine wP 24 fun v11 => ?_
  refine wT 25 v11 ?_
  refine wG 26 fun v13 => ?_
  refine wG 27 fun v14 => ?_
  refine wG 28 fun v15 => ?_
  refine wG 29 fun v16 => ?_
  refine wG 30 fun v17 => ?_
  refine wG 31 fun v18 => ?_
  refine wG 32 fun v19 => ?_
  refine wP 33 fun v20 => ?_
  refine wT 34 v20 ?_
  refine wG 35 fun v22 => ?_
  refine wG 36 fun v23 => ?_
  refine wG 37 fun v24 => ?_
  refine wG 38 fun v25 => ?_
  refine wG 39 fun v26 => ?_
  refine wP 40 fun v27 => ?_
  refine wT 41 v27 ?_
  refine wG 42 fun v29 => ?_
  refine wG 43 fun v30 => ?_
  refine wG 44 fun v31 => ?_
  refine wG 45 fun v32 => ?_
  refine wG 46 fun v33 => ?_
  refine wG 47 fun v34 => ?_
  refine wG 48 fun v35 => ?_
  refine wP 49 fun v36 => ?_
  refine wT 50 v36 ?_
  refine wG 51 fun v38 => ?_
  refine wG 52 fun v39 => ?_
  refine wG 53 fun v40 => ?_
  refine wG 54 fun v41 => ?_
  refine wG 55 fun v42 => ?_
  refine wG 56 fun v43 => ?_
  refine wG 57 fun v44 => ?_
  refine wP 58 fun v45 => ?_
  refine wT 59 v45 ?_
  refine wG 60 fun v47 => ?_
  refine wG 61 fun v48 => ?_
  refine wG 62 fun v49 => ?_
  refine wG 63 fun v50 => ?_
  refine wG 64 fun v51 => ?_
  refine wG 65 fun v52 => ?_
  refine wG 66 fun v53 => ?_
  refine wP 67 fun v54 => ?_
  refine wT 68 v54 ?_
  refine wG 69 fun v56 => ?_
  refine wG 70 fun v57 => ?_
  refine wG 71 fun v58 => ?_
  refine wG 72 fun v59 => ?_
  refine wG 73 fun v60 => ?_
  refine wG 74 fun v61 => ?_
  refine wG 75 fun v62 => ?_
  refine wP 76 fun v63 => ?_
  refine wT 77 v63 ?_
  refine wG 78 fun v65 => ?_
  refine wG 79 fun v66 => ?_
  refine wG 80 fun v67 => ?_
  refine wG 81 fun v68 => ?_
  refine wG 82 fun v69 => ?_
  refine wG 83 fun v70 => ?_
  refine wG 84 fun v71 => ?_
  refine wP 85 fun v72 => ?_
  exact wE)
theorem n9_14_eq (Q : Ex × St → Prop) (s : St) : wC Try.prog cx9 n9_14 Q s = Q (.nrm, s) := yK
theorem n9_15_eq (Q : Ex × St → Prop) (s : St) : wC Try.prog cx9 n9_15 Q s = Q (.exit 0, s) := yX 0
theorem n9_13_eq (Q : Ex × St → Prop) (s : St) : wC Try.prog cx9 n9_13 Q s = cndW (s.env.get 90) (wL Try.prog cx9 n9_14 Q s) (wL Try.prog cx9 n9_15 Q s) := yC 90 _ _
theorem n9_12_eq (Q : Ex × St → Prop) (env : Env) (h : Heap) : wC Try.prog cx9 n9_12 Q ⟨env, h⟩ = (Evs (mFieldAddr tState (env.get 2) 5) fun v1 => Evs (mLoad .cell v1 h) fun v2 => Evs (mLenS v2) fun v3 => Evs (mBin .lss (env.get 5) v3) fun v4 => wC Try.prog cx9 n9_13 Q ⟨(Env.put env 90 v4), h⟩) := (ySR 4 (cOps (cL n9_12)) (cR n9_12)).trans (by
  refine w0 ?_
  refine wT 86 (env.get 5) ?_
  refine wP 87 fun v1 => ?_
  refine wP 88 fun v2 => ?_
  refine wP 89 fun v3 => ?_
  refine wP 90 fun v4 => ?_
  exact wE)
theorem n9_22_eq (Q : Ex × St → Prop) (s : St) : wC Try.prog cx9 n9_22 Q s = Q (.ret, s) := yE
theorem n9_21_eq (Q : Ex × St → Prop) (env : Env) (h : Heap) : wC Try.prog cx9 n9_21 Q ⟨env, h⟩ = ( wC Try.prog cx9 n9_22 Q ⟨(Env.put env 4 (.bool false)), h⟩) := (ySR 8 (cOps (cL n9_21)) (cR n9_21)).trans (by
  refine w0 ?_
  refine wT 4 (.bool false) ?_
  exact wE)
theorem n9_23_eq (Q : Ex × St → Prop) (s : St) : wC Try.prog cx9 n9_23 Q s = Q (.nrm, s) := yK
theorem n9_20_eq (Q : Ex × St → Prop) (s : St) : wC Try.prog cx9 n9_20 Q s = cndW (s.env.get 105) (wL Try.prog cx9 n9_21 Q s) (wL Try.prog cx9 n9_23 Q s) := yC 105 _ _
theorem n9_19_eq (Q : Ex × St → Prop) (env : Env) (h : Heap) : wC Try.prog cx9 n9_19 Q ⟨env, h⟩ = (Evs (mLoad tSeat (env.get 6) h) fun v0 => Evs (mLoad tSeat (env.get 7) h) fun v1 => Evs (mEq tSeat .neq v0 v1) fun v2 => wC Try.prog cx9 n9_20 Q ⟨(Env.put env 105 v2), h⟩) := (ySR 7 (cOps (cL n9_19)) (cR n9_19)).trans (by
  refine w0 ?_
  refine wP 103 fun v0 => ?_
  refine wP 104 fun v1 => ?_
  refine wP 105 fun v2 => ?_
  exact wE)
theorem n9_18_ok : treeOk (cOps (cL n9_18)).toList [10, 11, 12, 13] [0, 1, 0, 7, 15, 0, 32, 0, 224, 480, 0, 0, 3103, 8191] = true := by kernel_rfl
theorem n9_18_w (Q : Ex × St → Prop) (env : Env) (h : Heap) (H : Evs (mFieldAddr tState (env.get 2) 5) fun v0_1 => Evs (mLoad .cell v0_1 h) fun v1_2 => Evs (mIdxS tSeat v1_2 (env.get 5)) fun v3_3 => Evs (mLoad tSeat v3_3 h) fun v4_4 => Evs (mFieldAddr tState (env.get 3) 5) fun v5_5 => Evs (mLoad .cell v5_5 h) fun v6_6 => Evs (mIdxS tSeat v6_6 (env.get 5)) fun v8_7 => Evs (mLoad tSeat v8_7 h) fun v9_8 => bothP (Evs (mNew tSeat (.node [(.node [(arr 32 fun _ => 0#8), (arr 32 fun _ => 0#8)]), (u8 0#8), (u32 0#32)]) h) fun r10_9 => stabP (mLoad .cell v0_1 r10_9.2 = some v1_2) (stabP (mLoad tSeat v3_3 r10_9.2 = some v4_4) (stabP (mLoad .cell v5_5 r10_9.2 = some v6_6) (stabP (mLoad tSeat v8_7 r10_9.2 = some v9_8) (Evs (mNew tSeat (.node [(.node [(arr 32 fun _ => 0#8), (arr 32 fun _ => 0#8)]), (u8 0#8), (u32 0#32)]) r10_9.2) fun r11_10 => stabP (mLoad .cell v0_1 r11_10.2 = some v1_2) (stabP (mLoad tSeat v3_3 r11_10.2 = some v4_4) (stabP (mLoad .cell v5_5 r11_10.2 = some v6_6) (stabP (mLoad tSeat v8_7 r11_10.2 = some v9_8) (Evs (stU tSeat r10_9.1 v4_4 r11_10.2) fun r12_11 => stabP (mLoad .cell v5_5 r12_11.2 = some v6_6) (stabP (mLoad tSeat v8_7 r12_11.2 = some v9_8) (Evs (stU tSeat r11_10.1 v9_8 r12_11.2) fun r13_12 => wC Try.prog cx9 n9_19 Q ⟨(Env.put (Env.put env 6 r10_9.1) 7 r11_10.1), r13_12.2⟩))))))))))) (Evs (mNew tSeat (.node [(.node [(arr 32 fun _ => 0#8), (arr 32 fun _ => 0#8)]), (u8 0#8), (u32 0#32)]) h) fun r11_13 => stabP (mLoad .cell v0_1 r11_13.2 = some v1_2) (stabP (mLoad tSeat v3_3 r11_13.2 = some v4_4) (stabP (mLoad .cell v5_5 r11_13.2 = some v6_6) (stabP (mLoad tSeat v8_7 r11_13.2 = some v9_8) (Evs (mNew tSeat (.node [(.node [(arr 32 fun _ => 0#8), (arr 32 fun _ => 0#8)]), (u8 0#8), (u32 0#32)]) r11_13.2) fun r10_14 => stabP (mLoad .cell v0_1 r10_14.2 = some v1_2) (stabP (mLoad tSeat v3_3 r10_14.2 = some v4_4) (stabP (mLoad .cell v5_5 r10_14.2 = some v6_6) (stabP (mLoad tSeat v8_7 r10_14.2 = some v9_8) (Evs (stU tSeat r10_14.1 v4_4 r10_14.2) fun r12_15 => stabP (mLoad .cell v5_5 r12_15.2 = some v6_6) (stabP (mLoad tSeat v8_7 r12_15.2 = some v9_8) (Evs (stU tSeat r11_13.1 v9_8 r12_15.2) fun r13_16 => wC Try.prog cx9 n9_19 Q ⟨(Env.put (Env.put env 7 r11_13.1) 6 r10_14.1), r13_16.2⟩)))))))))))) : wC Try.prog cx9 n9_18 Q ⟨env, h⟩ := by
  refine ySD 6 (cOps (cL n9_18)) (cR n9_18) [10, 11, 12, 13] [0, 1, 0, 7, 15, 0, 32, 0, 224, 480, 0, 0, 3103, 8191] [0, 1, 2, 3, 4, 5, 6, 7, 8, 9] n9_18_ok ?_
  refine rP H 93 fun v0_1 H => ?_
  refine rP H 94 fun v1_2 H => ?_
  refine rT 95 (env.get 5) ?_
  refine rP H 96 fun v3_3 H => ?_
  refine rP H 97 fun v4_4 H => ?_
  refine rP H 98 fun v5_5 H => ?_
  refine rP H 99 fun v6_6 H => ?_
  refine rT 100 (env.get 5) ?_
  refine rP H 101 fun v8_7 H => ?_
  refine rP H 102 fun v9_8 H => ?_
  refine rE ?_
  refine tN 10 [11] ?_
  refine aN2 ?_ ?_
  · replace H := H.1
    refine tH H 6 [] [1, 4, 6, 9] (fun r10_9 H => ?_)
    refine sP v1_2 94 H (fun H => ?_) (by kernel_rfl) (by kernel_rfl) (by kernel_rfl)
    refine sP v4_4 97 H (fun H => ?_) (by kernel_rfl) (by kernel_rfl) (by kernel_rfl)
    refine sP v6_6 99 H (fun H => ?_) (by kernel_rfl) (by kernel_rfl) (by kernel_rfl)
    refine sP v9_8 102 H (fun H => ?_) (by kernel_rfl) (by kernel_rfl) (by kernel_rfl)
    refine ⟨sNil, ?_⟩
    refine rE ?_
    refine tN 11 [] ?_
    refine aN1 ?_
    refine tH H 7 [] [1, 4, 6, 9] (fun r11_10 H => ?_)
    refine sP v1_2 94 H (fun H => ?_) (by kernel_rfl) (by kernel_rfl) (by kernel_rfl)
    refine sP v4_4 97 H (fun H => ?_) (by kernel_rfl) (by kernel_rfl) (by kernel_rfl)
    refine sP v6_6 99 H (fun H => ?_) (by kernel_rfl) (by kernel_rfl) (by kernel_rfl)
    refine sP v9_8 102 H (fun H => ?_) (by kernel_rfl) (by kernel_rfl) (by kernel_rfl)
    refine ⟨sNil, ?_⟩
    refine rE ?_
    refine tN 12 [] ?_
    refine aN1 ?_
    refine tHn H [] [6, 9] (fun r12_11 H => ?_)
    refine sP v6_6 99 H (fun H => ?_) (by kernel_rfl) (by kernel_rfl) (by kernel_rfl)
    refine sP v9_8 102 H (fun H => ?_) (by kernel_rfl) (by kernel_rfl) (by kernel_rfl)
    refine ⟨sNil, ?_⟩
    refine rE ?_
    refine tN 13 [] ?_
    refine aN1 ?_
    refine tHn H [] [] (fun r13_12 H => ?_)
    refine ⟨sNil, ?_⟩
    refine rE ?_
    exact tE H
  replace H := H.2
  refine aN1 ?_
  refine tH H 7 [] [1, 4, 6, 9] (fun r11_13 H => ?_)
  refine sP v1_2 94 H (fun H => ?_) (by kernel_rfl) (by kernel_rfl) (by kernel_rfl)
  refine sP v4_4 97 H (fun H => ?_) (by kernel_rfl) (by kernel_rfl) (by kernel_rfl)
  refine sP v6_6 99 H (fun H => ?_) (by kernel_rfl) (by kernel_rfl) (by kernel_rfl)
  refine sP v9_8 102 H (fun H => ?_) (by kernel_rfl) (by kernel_rfl) (by kernel_rfl)
  refine ⟨sNil, ?_⟩
  refine rE ?_
  refine tN 10 [] ?_
  refine aN1 ?_
  refine tH H 6 [] [1, 4, 6, 9] (fun r10_14 H => ?_)
  refine sP v1_2 94 H (fun H => ?_) (by kernel_rfl) (by kernel_rfl) (by kernel_rfl)
  refine sP v4_4 97 H (fun H => ?_) (by kernel_rfl) (by kernel_rfl) (by kernel_rfl)
  refine sP v6_6 99 H (fun H => ?_) (by kernel_rfl) (by kernel_rfl) (by kernel_rfl)
  refine sP v9_8 102 H (fun H => ?_) (by kernel_rfl) (by kernel_rfl) (by kernel_rfl)
  refine ⟨sNil, ?_⟩
  refine rE ?_
  refine tN 12 [] ?_
  refine aN1 ?_
  refine tHn H [] [6, 9] (fun r12_15 H => ?_)
  refine sP v6_6 99 H (fun H => ?_) (by kernel_rfl) (by kernel_rfl) (by kernel_rfl)
  refine sP v9_8 102 H (fun H => ?_) (by kernel_rfl) (by kernel_rfl) (by kernel_rfl)
  refine ⟨sNil, ?_⟩
  refine rE ?_
  refine tN 13 [] ?_
  refine aN1 ?_
  refine tHn H [] [] (fun r13_16 H => ?_)
  refine ⟨sNil, ?_⟩
  refine rE ?_
  exact tE H
theorem n9_17_eq (Q : Ex × St → Prop) (s : St) : wC Try.prog cx9 n9_17 Q s = wC Try.prog cx9 n9_18 (fun r => Q (inBlk 1 r)) s := yB 1 _
theorem n9_24_eq (Q : Ex × St → Prop) (env : Env) (h : Heap) : wC Try.prog cx9 n9_24 Q ⟨env, h⟩ = (Evs (mBin .add (env.get 5) (nat 1)) fun v1 => Q (.nrm, ⟨(Env.put env 5 v1), h⟩)) := (yR 5 (cOps n9_24)).trans (by
  refine w0 ?_
  refine wT 91 (env.get 5) ?_
  refine wP 92 fun v1 => ?_
  refine wT 5 v1 ?_
  exact wE)
theorem n9_16_eq (Q : Ex × St → Prop) (s : St) : wC Try.prog cx9 n9_16 Q s = wC Try.prog cx9 n9_17 (sqW (wC Try.prog cx9 n9_24) Q) s := yS _ _
theorem n9_11_eq (Q : Ex × St → Prop) (s : St) : wC Try.prog cx9 n9_11 Q s = wC Try.prog cx9 n9_12 (sqW (wC Try.prog cx9 n9_16) Q) s := yS _ _
theorem n9_10_eq (Q : Ex × St → Prop) (s : St) : wC Try.prog cx9 n9_10 Q s = loopW (wC Try.prog cx9 n9_11) Q s := yL _
theorem n9_9_eq (Q : Ex × St → Prop) (s : St) : wC Try.prog cx9 n9_9 Q s = wC Try.prog cx9 n9_10 (fun r => Q (inBlk 0 r)) s := yB 0 _
theorem n9_8_eq (Q : Ex × St → Prop) (env : Env) (h : Heap) : wC Try.prog cx9 n9_8 Q ⟨env, h⟩ = ( wC Try.prog cx9 n9_9 Q ⟨(Env.put env 5 (nat 0)), h⟩) := (ySR 3 (cOps (cL n9_8)) (cR n9_8)).trans (by
  refine w0 ?_
  refine wT 5 (nat 0) ?_
  exact wE)
theorem n9_32_eq (Q : Ex × St → Prop) (s : St) : wC Try.prog cx9 n9_32 Q s = Q (.nrm, s) := yK
theorem n9_33_eq (Q : Ex × St → Prop) (s : St) : wC Try.prog cx9 n9_33 Q s = Q (.exit 2, s) := yX 2
theorem n9_31_eq (Q : Ex × St → Prop) (s : St) : wC Try.prog cx9 n9_31 Q s = cndW (s.env.get 110) (wL Try.prog cx9 n9_32 Q s) (wL Try.prog cx9 n9_33 Q s) := yC 110 _ _
theorem n9_30_eq (Q : Ex × St → Prop) (env : Env) (h : Heap) : wC Try.prog cx9 n9_30 Q ⟨env, h⟩ = (Evs (mFieldAddr tState (env.get 2) 6) fun v1 => Evs (mLoad .cell v1 h) fun v2 => Evs (mLenS v2) fun v3 => Evs (mBin .lss (env.get 8) v3) fun v4 => wC Try.prog cx9 n9_31 Q ⟨(Env.put env 110 v4), h⟩) := (ySR 10 (cOps (cL n9_30)) (cR n9_30)).trans (by
  refine w0 ?_
  refine wT 106 (env.get 8) ?_
  refine wP 107 fun v1 => ?_
  refine wP 108 fun v2 => ?_
  refine wP 109 fun v3 => ?_
  refine wP 110 fun v4 => ?_
  exact wE)
theorem n9_40_eq (Q : Ex × St → Prop) (s : St) : wC Try.prog cx9 n9_40 Q s = Q (.ret, s) := yE
theorem n9_39_eq (Q : Ex × St → Prop) (env : Env) (h : Heap) : wC Try.prog cx9 n9_39 Q ⟨env, h⟩ = ( wC Try.prog cx9 n9_40 Q ⟨(Env.put env 4 (.bool false)), h⟩) := (ySR 14 (cOps (cL n9_39)) (cR n9_39)).trans (by
  refine w0 ?_
  refine wT 4 (.bool false) ?_
  exact wE)
theorem n9_41_eq (Q : Ex × St → Prop) (s : St) : wC Try.prog cx9 n9_41 Q s = Q (.nrm, s) := yK
theorem n9_38_eq (Q : Ex × St → Prop) (s : St) : wC Try.prog cx9 n9_38 Q s = cndW (s.env.get 125) (wL Try.prog cx9 n9_39 Q s) (wL Try.prog cx9 n9_41 Q s) := yC 125 _ _
theorem n9_37_eq (Q : Ex × St → Prop) (env : Env) (h : Heap) : wC Try.prog cx9 n9_37 Q ⟨env, h⟩ = (Evs (mLoad tInvite (env.get 9) h) fun v0 => Evs (mLoad tInvite (env.get 10) h) fun v1 => Evs (mEq tInvite .neq v0 v1) fun v2 => wC Try.prog cx9 n9_38 Q ⟨(Env.put env 125 v2), h⟩) := (ySR 13 (cOps (cL n9_37)) (cR n9_37)).trans (by
  refine w0 ?_
  refine wP 123 fun v0 => ?_
  refine wP 124 fun v1 => ?_
  refine wP 125 fun v2 => ?_
  exact wE)
theorem n9_36_ok : treeOk (cOps (cL n9_36)).toList [10, 11, 12, 13] [0, 1, 0, 7, 15, 0, 32, 0, 224, 480, 0, 0, 3103, 8191] = true := by kernel_rfl
theorem n9_36_w (Q : Ex × St → Prop) (env : Env) (h : Heap) (H : Evs (mFieldAddr tState (env.get 2) 6) fun v0_1 => Evs (mLoad .cell v0_1 h) fun v1_2 => Evs (mIdxS tInvite v1_2 (env.get 8)) fun v3_3 => Evs (mLoad tInvite v3_3 h) fun v4_4 => Evs (mFieldAddr tState (env.get 3) 6) fun v5_5 => Evs (mLoad .cell v5_5 h) fun v6_6 => Evs (mIdxS tInvite v6_6 (env.get 8)) fun v8_7 => Evs (mLoad tInvite v8_7 h) fun v9_8 => bothP (Evs (mNew tInvite (.node [(.node [(arr 32 fun _ => 0#8), (arr 32 fun _ => 0#8)]), (u8 0#8), (.node [(arr 32 fun _ => 0#8), (arr 32 fun _ => 0#8)])]) h) fun r10_9 => stabP (mLoad .cell v0_1 r10_9.2 = some v1_2) (stabP (mLoad tInvite v3_3 r10_9.2 = some v4_4) (stabP (mLoad .cell v5_5 r10_9.2 = some v6_6) (stabP (mLoad tInvite v8_7 r10_9.2 = some v9_8) (Evs (mNew tInvite (.node [(.node [(arr 32 fun _ => 0#8), (arr 32 fun _ => 0#8)]), (u8 0#8), (.node [(arr 32 fun _ => 0#8), (arr 32 fun _ => 0#8)])]) r10_9.2) fun r11_10 => stabP (mLoad .cell v0_1 r11_10.2 = some v1_2) (stabP (mLoad tInvite v3_3 r11_10.2 = some v4_4) (stabP (mLoad .cell v5_5 r11_10.2 = some v6_6) (stabP (mLoad tInvite v8_7 r11_10.2 = some v9_8) (Evs (stU tInvite r10_9.1 v4_4 r11_10.2) fun r12_11 => stabP (mLoad .cell v5_5 r12_11.2 = some v6_6) (stabP (mLoad tInvite v8_7 r12_11.2 = some v9_8) (Evs (stU tInvite r11_10.1 v9_8 r12_11.2) fun r13_12 => wC Try.prog cx9 n9_37 Q ⟨(Env.put (Env.put env 9 r10_9.1) 10 r11_10.1), r13_12.2⟩))))))))))) (Evs (mNew tInvite (.node [(.node [(arr 32 fun _ => 0#8), (arr 32 fun _ => 0#8)]), (u8 0#8), (.node [(arr 32 fun _ => 0#8), (arr 32 fun _ => 0#8)])]) h) fun r11_13 => stabP (mLoad .cell v0_1 r11_13.2 = some v1_2) (stabP (mLoad tInvite v3_3 r11_13.2 = some v4_4) (stabP (mLoad .cell v5_5 r11_13.2 = some v6_6) (stabP (mLoad tInvite v8_7 r11_13.2 = some v9_8) (Evs (mNew tInvite (.node [(.node [(arr 32 fun _ => 0#8), (arr 32 fun _ => 0#8)]), (u8 0#8), (.node [(arr 32 fun _ => 0#8), (arr 32 fun _ => 0#8)])]) r11_13.2) fun r10_14 => stabP (mLoad .cell v0_1 r10_14.2 = some v1_2) (stabP (mLoad tInvite v3_3 r10_14.2 = some v4_4) (stabP (mLoad .cell v5_5 r10_14.2 = some v6_6) (stabP (mLoad tInvite v8_7 r10_14.2 = some v9_8) (Evs (stU tInvite r10_14.1 v4_4 r10_14.2) fun r12_15 => stabP (mLoad .cell v5_5 r12_15.2 = some v6_6) (stabP (mLoad tInvite v8_7 r12_15.2 = some v9_8) (Evs (stU tInvite r11_13.1 v9_8 r12_15.2) fun r13_16 => wC Try.prog cx9 n9_37 Q ⟨(Env.put (Env.put env 10 r11_13.1) 9 r10_14.1), r13_16.2⟩)))))))))))) : wC Try.prog cx9 n9_36 Q ⟨env, h⟩ := by
  refine ySD 12 (cOps (cL n9_36)) (cR n9_36) [10, 11, 12, 13] [0, 1, 0, 7, 15, 0, 32, 0, 224, 480, 0, 0, 3103, 8191] [0, 1, 2, 3, 4, 5, 6, 7, 8, 9] n9_36_ok ?_
  refine rP H 113 fun v0_1 H => ?_
  refine rP H 114 fun v1_2 H => ?_
  refine rT 115 (env.get 8) ?_
  refine rP H 116 fun v3_3 H => ?_
  refine rP H 117 fun v4_4 H => ?_
  refine rP H 118 fun v5_5 H => ?_
  refine rP H 119 fun v6_6 H => ?_
  refine rT 120 (env.get 8) ?_
  refine rP H 121 fun v8_7 H => ?_
  refine rP H 122 fun v9_8 H => ?_
  refine rE ?_
  refine tN 10 [11] ?_
  refine aN2 ?_ ?_
  · replace H := H.1
    refine tH H 9 [] [1, 4, 6, 9] (fun r10_9 H => ?_)
    refine sP v1_2 114 H (fun H => ?_) (by kernel_rfl) (by kernel_rfl) (by kernel_rfl)
    refine sP v4_4 117 H (fun H => ?_) (by kernel_rfl) (by kernel_rfl) (by kernel_rfl)
    refine sP v6_6 119 H (fun H => ?_) (by kernel_rfl) (by kernel_rfl) (by kernel_rfl)
    refine sP v9_8 122 H (fun H => ?_) (by kernel_rfl) (by kernel_rfl) (by kernel_rfl)
    refine ⟨sNil, ?_⟩
    refine rE ?_
    refine tN 11 [] ?_
    refine aN1 ?_
    refine tH H 10 [] [1, 4, 6, 9] (fun r11_10 H => ?_)
    refine sP v1_2 114 H (fun H => ?_) (by kernel_rfl) (by kernel_rfl) (by kernel_rfl)
    refine sP v4_4 117 H (fun H => ?_) (by kernel_rfl) (by kernel_rfl) (by kernel_rfl)
    refine sP v6_6 119 H (fun H => ?_) (by kernel_rfl) (by kernel_rfl) (by kernel_rfl)
    refine sP v9_8 122 H (fun H => ?_) (by kernel_rfl) (by kernel_rfl) (by kernel_rfl)
    refine ⟨sNil, ?_⟩
    refine rE ?_
    refine tN 12 [] ?_
    refine aN1 ?_
    refine tHn H [] [6, 9] (fun r12_11 H => ?_)
    refine sP v6_6 119 H (fun H => ?_) (by kernel_rfl) (by kernel_rfl) (by kernel_rfl)
    refine sP v9_8 122 H (fun H => ?_) (by kernel_rfl) (by kernel_rfl) (by kernel_rfl)
    refine ⟨sNil, ?_⟩
    refine rE ?_
    refine tN 13 [] ?_
    refine aN1 ?_
    refine tHn H [] [] (fun r13_12 H => ?_)
    refine ⟨sNil, ?_⟩
    refine rE ?_
    exact tE H
  replace H := H.2
  refine aN1 ?_
  refine tH H 10 [] [1, 4, 6, 9] (fun r11_13 H => ?_)
  refine sP v1_2 114 H (fun H => ?_) (by kernel_rfl) (by kernel_rfl) (by kernel_rfl)
  refine sP v4_4 117 H (fun H => ?_) (by kernel_rfl) (by kernel_rfl) (by kernel_rfl)
  refine sP v6_6 119 H (fun H => ?_) (by kernel_rfl) (by kernel_rfl) (by kernel_rfl)
  refine sP v9_8 122 H (fun H => ?_) (by kernel_rfl) (by kernel_rfl) (by kernel_rfl)
  refine ⟨sNil, ?_⟩
  refine rE ?_
  refine tN 10 [] ?_
  refine aN1 ?_
  refine tH H 9 [] [1, 4, 6, 9] (fun r10_14 H => ?_)
  refine sP v1_2 114 H (fun H => ?_) (by kernel_rfl) (by kernel_rfl) (by kernel_rfl)
  refine sP v4_4 117 H (fun H => ?_) (by kernel_rfl) (by kernel_rfl) (by kernel_rfl)
  refine sP v6_6 119 H (fun H => ?_) (by kernel_rfl) (by kernel_rfl) (by kernel_rfl)
  refine sP v9_8 122 H (fun H => ?_) (by kernel_rfl) (by kernel_rfl) (by kernel_rfl)
  refine ⟨sNil, ?_⟩
  refine rE ?_
  refine tN 12 [] ?_
  refine aN1 ?_
  refine tHn H [] [6, 9] (fun r12_15 H => ?_)
  refine sP v6_6 119 H (fun H => ?_) (by kernel_rfl) (by kernel_rfl) (by kernel_rfl)
  refine sP v9_8 122 H (fun H => ?_) (by kernel_rfl) (by kernel_rfl) (by kernel_rfl)
  refine ⟨sNil, ?_⟩
  refine rE ?_
  refine tN 13 [] ?_
  refine aN1 ?_
  refine tHn H [] [] (fun r13_16 H => ?_)
  refine ⟨sNil, ?_⟩
  refine rE ?_
  exact tE H
theorem n9_35_eq (Q : Ex × St → Prop) (s : St) : wC Try.prog cx9 n9_35 Q s = wC Try.prog cx9 n9_36 (fun r => Q (inBlk 3 r)) s := yB 3 _
theorem n9_42_eq (Q : Ex × St → Prop) (env : Env) (h : Heap) : wC Try.prog cx9 n9_42 Q ⟨env, h⟩ = (Evs (mBin .add (env.get 8) (nat 1)) fun v1 => Q (.nrm, ⟨(Env.put env 8 v1), h⟩)) := (yR 11 (cOps n9_42)).trans (by
  refine w0 ?_
  refine wT 111 (env.get 8) ?_
  refine wP 112 fun v1 => ?_
  refine wT 8 v1 ?_
  exact wE)
theorem n9_34_eq (Q : Ex × St → Prop) (s : St) : wC Try.prog cx9 n9_34 Q s = wC Try.prog cx9 n9_35 (sqW (wC Try.prog cx9 n9_42) Q) s := yS _ _
theorem n9_29_eq (Q : Ex × St → Prop) (s : St) : wC Try.prog cx9 n9_29 Q s = wC Try.prog cx9 n9_30 (sqW (wC Try.prog cx9 n9_34) Q) s := yS _ _
theorem n9_28_eq (Q : Ex × St → Prop) (s : St) : wC Try.prog cx9 n9_28 Q s = loopW (wC Try.prog cx9 n9_29) Q s := yL _
theorem n9_27_eq (Q : Ex × St → Prop) (s : St) : wC Try.prog cx9 n9_27 Q s = wC Try.prog cx9 n9_28 (fun r => Q (inBlk 2 r)) s := yB 2 _
theorem n9_26_eq (Q : Ex × St → Prop) (env : Env) (h : Heap) : wC Try.prog cx9 n9_26 Q ⟨env, h⟩ = ( wC Try.prog cx9 n9_27 Q ⟨(Env.put env 8 (nat 0)), h⟩) := (ySR 9 (cOps (cL n9_26)) (cR n9_26)).trans (by
  refine w0 ?_
  refine wT 8 (nat 0) ?_
  exact wE)
theorem n9_50_eq (Q : Ex × St → Prop) (s : St) : wC Try.prog cx9 n9_50 Q s = Q (.nrm, s) := yK
theorem n9_51_eq (Q : Ex × St → Prop) (s : St) : wC Try.prog cx9 n9_51 Q s = Q (.exit 4, s) := yX 4
theorem n9_49_eq (Q : Ex × St → Prop) (s : St) : wC Try.prog cx9 n9_49 Q s = cndW (s.env.get 130) (wL Try.prog cx9 n9_50 Q s) (wL Try.prog cx9 n9_51 Q s) := yC 130 _ _
theorem n9_48_eq (Q : Ex × St → Prop) (env : Env) (h : Heap) : wC Try.prog cx9 n9_48 Q ⟨env, h⟩ = (Evs (mFieldAddr tState (env.get 2) 7) fun v1 => Evs (mLoad .cell v1 h) fun v2 => Evs (mLenS v2) fun v3 => Evs (mBin .lss (env.get 11) v3) fun v4 => wC Try.prog cx9 n9_49 Q ⟨(Env.put env 130 v4), h⟩) := (ySR 16 (cOps (cL n9_48)) (cR n9_48)).trans (by
  refine w0 ?_
  refine wT 126 (env.get 11) ?_
  refine wP 127 fun v1 => ?_
  refine wP 128 fun v2 => ?_
  refine wP 129 fun v3 => ?_
  refine wP 130 fun v4 => ?_
  exact wE)
theorem n9_57_eq (Q : Ex × St → Prop) (s : St) : wC Try.prog cx9 n9_57 Q s = Q (.ret, s) := yE
theorem n9_56_eq (Q : Ex × St → Prop) (env : Env) (h : Heap) : wC Try.prog cx9 n9_56 Q ⟨env, h⟩ = ( wC Try.prog cx9 n9_57 Q ⟨(Env.put env 4 (.bool false)), h⟩) := (ySR 19 (cOps (cL n9_56)) (cR n9_56)).trans (by
  refine w0 ?_
  refine wT 4 (.bool false) ?_
  exact wE)
theorem n9_58_eq (Q : Ex × St → Prop) (s : St) : wC Try.prog cx9 n9_58 Q s = Q (.nrm, s) := yK
theorem n9_55_eq (Q : Ex × St → Prop) (s : St) : wC Try.prog cx9 n9_55 Q s = cndW (s.env.get 143) (wL Try.prog cx9 n9_56 Q s) (wL Try.prog cx9 n9_58 Q s) := yC 143 _ _
theorem n9_54_ok : treeOk (cOps (cL n9_54)).toList [] [0, 1, 0, 7, 15, 0, 32, 0, 224, 480, 1023] = true := by kernel_rfl
theorem n9_54_w (Q : Ex × St → Prop) (env : Env) (h : Heap) (H : Evs (mFieldAddr tState (env.get 2) 7) fun v0_1 => Evs (mLoad .cell v0_1 h) fun v1_2 => Evs (mIdxS tAsk v1_2 (env.get 11)) fun v3_3 => Evs (mLoad tAsk v3_3 h) fun v4_4 => Evs (mFieldAddr tState (env.get 3) 7) fun v5_5 => Evs (mLoad .cell v5_5 h) fun v6_6 => Evs (mIdxS tAsk v6_6 (env.get 11)) fun v8_7 => Evs (mLoad tAsk v8_7 h) fun v9_8 => Evs (mEq tAsk .neq v4_4 v9_8) fun v10_9 => wC Try.prog cx9 n9_55 Q ⟨(Env.put env 143 v10_9), h⟩) : wC Try.prog cx9 n9_54 Q ⟨env, h⟩ := by
  refine ySD 18 (cOps (cL n9_54)) (cR n9_54) [] [0, 1, 0, 7, 15, 0, 32, 0, 224, 480, 1023] [0, 1, 2, 3, 4, 5, 6, 7, 8, 9, 10] n9_54_ok ?_
  refine rP H 133 fun v0_1 H => ?_
  refine rP H 134 fun v1_2 H => ?_
  refine rT 135 (env.get 11) ?_
  refine rP H 136 fun v3_3 H => ?_
  refine rP H 137 fun v4_4 H => ?_
  refine rP H 138 fun v5_5 H => ?_
  refine rP H 139 fun v6_6 H => ?_
  refine rT 140 (env.get 11) ?_
  refine rP H 141 fun v8_7 H => ?_
  refine rP H 142 fun v9_8 H => ?_
  refine rP H 143 fun v10_9 H => ?_
  refine rE ?_
  exact tE H
theorem n9_53_eq (Q : Ex × St → Prop) (s : St) : wC Try.prog cx9 n9_53 Q s = wC Try.prog cx9 n9_54 (fun r => Q (inBlk 5 r)) s := yB 5 _
theorem n9_59_eq (Q : Ex × St → Prop) (env : Env) (h : Heap) : wC Try.prog cx9 n9_59 Q ⟨env, h⟩ = (Evs (mBin .add (env.get 11) (nat 1)) fun v1 => Q (.nrm, ⟨(Env.put env 11 v1), h⟩)) := (yR 17 (cOps n9_59)).trans (by
  refine w0 ?_
  refine wT 131 (env.get 11) ?_
  refine wP 132 fun v1 => ?_
  refine wT 11 v1 ?_
  exact wE)
theorem n9_52_eq (Q : Ex × St → Prop) (s : St) : wC Try.prog cx9 n9_52 Q s = wC Try.prog cx9 n9_53 (sqW (wC Try.prog cx9 n9_59) Q) s := yS _ _
theorem n9_47_eq (Q : Ex × St → Prop) (s : St) : wC Try.prog cx9 n9_47 Q s = wC Try.prog cx9 n9_48 (sqW (wC Try.prog cx9 n9_52) Q) s := yS _ _
theorem n9_46_eq (Q : Ex × St → Prop) (s : St) : wC Try.prog cx9 n9_46 Q s = loopW (wC Try.prog cx9 n9_47) Q s := yL _
theorem n9_45_eq (Q : Ex × St → Prop) (s : St) : wC Try.prog cx9 n9_45 Q s = wC Try.prog cx9 n9_46 (fun r => Q (inBlk 4 r)) s := yB 4 _
theorem n9_44_eq (Q : Ex × St → Prop) (env : Env) (h : Heap) : wC Try.prog cx9 n9_44 Q ⟨env, h⟩ = ( wC Try.prog cx9 n9_45 Q ⟨(Env.put env 11 (nat 0)), h⟩) := (ySR 15 (cOps (cL n9_44)) (cR n9_44)).trans (by
  refine w0 ?_
  refine wT 11 (nat 0) ?_
  exact wE)
theorem n9_67_eq (Q : Ex × St → Prop) (s : St) : wC Try.prog cx9 n9_67 Q s = Q (.nrm, s) := yK
theorem n9_68_eq (Q : Ex × St → Prop) (s : St) : wC Try.prog cx9 n9_68 Q s = Q (.exit 6, s) := yX 6
theorem n9_66_eq (Q : Ex × St → Prop) (s : St) : wC Try.prog cx9 n9_66 Q s = cndW (s.env.get 148) (wL Try.prog cx9 n9_67 Q s) (wL Try.prog cx9 n9_68 Q s) := yC 148 _ _
theorem n9_65_eq (Q : Ex × St → Prop) (env : Env) (h : Heap) : wC Try.prog cx9 n9_65 Q ⟨env, h⟩ = (Evs (mFieldAddr tState (env.get 2) 8) fun v1 => Evs (mLoad .cell v1 h) fun v2 => Evs (mLenS v2) fun v3 => Evs (mBin .lss (env.get 12) v3) fun v4 => wC Try.prog cx9 n9_66 Q ⟨(Env.put env 148 v4), h⟩) := (ySR 21 (cOps (cL n9_65)) (cR n9_65)).trans (by
  refine w0 ?_
  refine wT 144 (env.get 12) ?_
  refine wP 145 fun v1 => ?_
  refine wP 146 fun v2 => ?_
  refine wP 147 fun v3 => ?_
  refine wP 148 fun v4 => ?_
  exact wE)
theorem n9_74_eq (Q : Ex × St → Prop) (s : St) : wC Try.prog cx9 n9_74 Q s = Q (.ret, s) := yE
theorem n9_73_eq (Q : Ex × St → Prop) (env : Env) (h : Heap) : wC Try.prog cx9 n9_73 Q ⟨env, h⟩ = ( wC Try.prog cx9 n9_74 Q ⟨(Env.put env 4 (.bool false)), h⟩) := (ySR 24 (cOps (cL n9_73)) (cR n9_73)).trans (by
  refine w0 ?_
  refine wT 4 (.bool false) ?_
  exact wE)
theorem n9_75_eq (Q : Ex × St → Prop) (s : St) : wC Try.prog cx9 n9_75 Q s = Q (.nrm, s) := yK
theorem n9_72_eq (Q : Ex × St → Prop) (s : St) : wC Try.prog cx9 n9_72 Q s = cndW (s.env.get 161) (wL Try.prog cx9 n9_73 Q s) (wL Try.prog cx9 n9_75 Q s) := yC 161 _ _
theorem n9_71_ok : treeOk (cOps (cL n9_71)).toList [] [0, 1, 0, 7, 15, 0, 32, 0, 224, 480, 1023] = true := by kernel_rfl
theorem n9_71_w (Q : Ex × St → Prop) (env : Env) (h : Heap) (H : Evs (mFieldAddr tState (env.get 2) 8) fun v0_1 => Evs (mLoad .cell v0_1 h) fun v1_2 => Evs (mIdxS tBan v1_2 (env.get 12)) fun v3_3 => Evs (mLoad tBan v3_3 h) fun v4_4 => Evs (mFieldAddr tState (env.get 3) 8) fun v5_5 => Evs (mLoad .cell v5_5 h) fun v6_6 => Evs (mIdxS tBan v6_6 (env.get 12)) fun v8_7 => Evs (mLoad tBan v8_7 h) fun v9_8 => Evs (mEq tBan .neq v4_4 v9_8) fun v10_9 => wC Try.prog cx9 n9_72 Q ⟨(Env.put env 161 v10_9), h⟩) : wC Try.prog cx9 n9_71 Q ⟨env, h⟩ := by
  refine ySD 23 (cOps (cL n9_71)) (cR n9_71) [] [0, 1, 0, 7, 15, 0, 32, 0, 224, 480, 1023] [0, 1, 2, 3, 4, 5, 6, 7, 8, 9, 10] n9_71_ok ?_
  refine rP H 151 fun v0_1 H => ?_
  refine rP H 152 fun v1_2 H => ?_
  refine rT 153 (env.get 12) ?_
  refine rP H 154 fun v3_3 H => ?_
  refine rP H 155 fun v4_4 H => ?_
  refine rP H 156 fun v5_5 H => ?_
  refine rP H 157 fun v6_6 H => ?_
  refine rT 158 (env.get 12) ?_
  refine rP H 159 fun v8_7 H => ?_
  refine rP H 160 fun v9_8 H => ?_
  refine rP H 161 fun v10_9 H => ?_
  refine rE ?_
  exact tE H
theorem n9_70_eq (Q : Ex × St → Prop) (s : St) : wC Try.prog cx9 n9_70 Q s = wC Try.prog cx9 n9_71 (fun r => Q (inBlk 7 r)) s := yB 7 _
theorem n9_76_eq (Q : Ex × St → Prop) (env : Env) (h : Heap) : wC Try.prog cx9 n9_76 Q ⟨env, h⟩ = (Evs (mBin .add (env.get 12) (nat 1)) fun v1 => Q (.nrm, ⟨(Env.put env 12 v1), h⟩)) := (yR 22 (cOps n9_76)).trans (by
  refine w0 ?_
  refine wT 149 (env.get 12) ?_
  refine wP 150 fun v1 => ?_
  refine wT 12 v1 ?_
  exact wE)
theorem n9_69_eq (Q : Ex × St → Prop) (s : St) : wC Try.prog cx9 n9_69 Q s = wC Try.prog cx9 n9_70 (sqW (wC Try.prog cx9 n9_76) Q) s := yS _ _
theorem n9_64_eq (Q : Ex × St → Prop) (s : St) : wC Try.prog cx9 n9_64 Q s = wC Try.prog cx9 n9_65 (sqW (wC Try.prog cx9 n9_69) Q) s := yS _ _
theorem n9_63_eq (Q : Ex × St → Prop) (s : St) : wC Try.prog cx9 n9_63 Q s = loopW (wC Try.prog cx9 n9_64) Q s := yL _
theorem n9_62_eq (Q : Ex × St → Prop) (s : St) : wC Try.prog cx9 n9_62 Q s = wC Try.prog cx9 n9_63 (fun r => Q (inBlk 6 r)) s := yB 6 _
theorem n9_61_eq (Q : Ex × St → Prop) (env : Env) (h : Heap) : wC Try.prog cx9 n9_61 Q ⟨env, h⟩ = ( wC Try.prog cx9 n9_62 Q ⟨(Env.put env 12 (nat 0)), h⟩) := (ySR 20 (cOps (cL n9_61)) (cR n9_61)).trans (by
  refine w0 ?_
  refine wT 12 (nat 0) ?_
  exact wE)
theorem n9_78_eq (Q : Ex × St → Prop) (s : St) : wC Try.prog cx9 n9_78 Q s = Q (.ret, s) := yE
theorem n9_77_eq (Q : Ex × St → Prop) (env : Env) (h : Heap) : wC Try.prog cx9 n9_77 Q ⟨env, h⟩ = ( wC Try.prog cx9 n9_78 Q ⟨(Env.put env 4 (.bool true)), h⟩) := (ySR 25 (cOps (cL n9_77)) (cR n9_77)).trans (by
  refine w0 ?_
  refine wT 4 (.bool true) ?_
  exact wE)
theorem n9_60_eq (Q : Ex × St → Prop) (s : St) : wC Try.prog cx9 n9_60 Q s = wC Try.prog cx9 n9_61 (sqW (wC Try.prog cx9 n9_77) Q) s := yS _ _
theorem n9_43_eq (Q : Ex × St → Prop) (s : St) : wC Try.prog cx9 n9_43 Q s = wC Try.prog cx9 n9_44 (sqW (wC Try.prog cx9 n9_60) Q) s := yS _ _
theorem n9_25_eq (Q : Ex × St → Prop) (s : St) : wC Try.prog cx9 n9_25 Q s = wC Try.prog cx9 n9_26 (sqW (wC Try.prog cx9 n9_43) Q) s := yS _ _
theorem n9_7_eq (Q : Ex × St → Prop) (s : St) : wC Try.prog cx9 n9_7 Q s = wC Try.prog cx9 n9_8 (sqW (wC Try.prog cx9 n9_25) Q) s := yS _ _
theorem n9_1_eq (Q : Ex × St → Prop) (s : St) : wC Try.prog cx9 n9_1 Q s = wC Try.prog cx9 n9_2 (sqW (wC Try.prog cx9 n9_7) Q) s := yS _ _
theorem n9_0_eq (Q : Ex × St → Prop) (env : Env) (h : Heap) : wC Try.prog cx9 n9_0 Q ⟨env, h⟩ = (Evs (mNew tState (env.get 0) h) fun r0 => Evs (mNew tState (env.get 1) r0.2) fun r1 => wC Try.prog cx9 n9_1 Q ⟨(Env.put (Env.put (Env.put env 2 r0.1) 3 r1.1) 4 (.bool false)), r1.2⟩) := (ySR 0 (cOps (cL n9_0)) (cR n9_0)).trans (by
  refine w0 ?_
  refine wH 2 fun r0 => ?_
  refine wH 3 fun r1 => ?_
  refine wT 4 (.bool false) ?_
  exact wE)
theorem fn9 : Try.prog.funcs[9]? = some Try.f9 := by kernel_rfl
set_option maxHeartbeats 4000000 in
theorem q9 {a0 a1 : AV} {h : Heap} {K : AV × Heap → Prop} (H : ∀ env : Env, env.get 0 = a0 → env.get 1 = a1 → wC Try.prog cx9 n9_0 (retW (fun s => (bnd (some (s.env.get 4)) fun v => bnd (some []) fun vs => some (v :: vs))) K) ⟨env, h⟩) : SpecQ Try.prog 9 [a0, a1] h K :=
  bodyW_sound (C := cx9) TT_ok mixed_ok fn9 (by kernel_rfl) (show _ = some n9_0 by kernel_rfl) (by kernel_rfl) (by kernel_rfl) (of_decide_eq_true (by kernel_rfl)) ((show wC Try.prog cx9 n9_0 (retW (fun s => resAll cx9 s Try.f9.results.toList) K) ⟨env0 cx9 [a0, a1], h⟩ = wC Try.prog cx9 n9_0 (retW (fun s => (bnd (some (s.env.get 4)) fun v => bnd (some []) fun vs => some (v :: vs))) K) ⟨[(0, a0), (1, a1), (2, .junk), (3, .junk), (4, .junk), (5, .junk), (6, .junk), (7, .junk), (8, .junk), (9, .junk), (10, .junk), (11, .junk), (12, .junk), (85, .junk), (90, .junk), (105, .junk), (110, .junk), (125, .junk), (130, .junk), (143, .junk), (148, .junk), (161, .junk)], h⟩ by kernel_rfl).mpr (H [(0, a0), (1, a1), (2, .junk), (3, .junk), (4, .junk), (5, .junk), (6, .junk), (7, .junk), (8, .junk), (9, .junk), (10, .junk), (11, .junk), (12, .junk), (85, .junk), (90, .junk), (105, .junk), (110, .junk), (125, .junk), (130, .junk), (143, .junk), (148, .junk), (161, .junk)] rfl rfl))
set_option maxHeartbeats 4000000 in
def sn9 := And.intro n9_5_eq (And.intro n9_4_eq (And.intro n9_6_eq (And.intro n9_3_eq (And.intro n9_2_eq (And.intro n9_14_eq (And.intro n9_15_eq (And.intro n9_13_eq (And.intro n9_12_eq (And.intro n9_22_eq (And.intro n9_21_eq (And.intro n9_23_eq (And.intro n9_20_eq (And.intro n9_19_eq (And.intro n9_17_eq (And.intro n9_24_eq (And.intro n9_16_eq (And.intro n9_11_eq (And.intro n9_10_eq (And.intro n9_9_eq (And.intro n9_8_eq (And.intro n9_32_eq (And.intro n9_33_eq (And.intro n9_31_eq (And.intro n9_30_eq (And.intro n9_40_eq (And.intro n9_39_eq (And.intro n9_41_eq (And.intro n9_38_eq (And.intro n9_37_eq (And.intro n9_35_eq (And.intro n9_42_eq (And.intro n9_34_eq (And.intro n9_29_eq (And.intro n9_28_eq (And.intro n9_27_eq (And.intro n9_26_eq (And.intro n9_50_eq (And.intro n9_51_eq (And.intro n9_49_eq (And.intro n9_48_eq (And.intro n9_57_eq (And.intro n9_56_eq (And.intro n9_58_eq (And.intro n9_55_eq (And.intro n9_53_eq (And.intro n9_59_eq (And.intro n9_52_eq (And.intro n9_47_eq (And.intro n9_46_eq (And.intro n9_45_eq (And.intro n9_44_eq (And.intro n9_67_eq (And.intro n9_68_eq (And.intro n9_66_eq (And.intro n9_65_eq (And.intro n9_74_eq (And.intro n9_73_eq (And.intro n9_75_eq (And.intro n9_72_eq (And.intro n9_70_eq (And.intro n9_76_eq (And.intro n9_69_eq (And.intro n9_64_eq (And.intro n9_63_eq (And.intro n9_62_eq (And.intro n9_61_eq (And.intro n9_78_eq (And.intro n9_77_eq (And.intro n9_60_eq (And.intro n9_43_eq (And.intro n9_25_eq (And.intro n9_7_eq (And.intro n9_1_eq (n9_0_eq))))))))))))))))))))))))))))))))))))))))))))))))))))))))))))))))))))))))))
-- draws: n9_18 n9_36 n9_54 n9_71
end Go.Vab
