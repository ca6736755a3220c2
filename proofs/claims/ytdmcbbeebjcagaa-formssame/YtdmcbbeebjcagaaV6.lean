/-
  The document's SameState, walked.
-/
import Derived.Test.YtdmcbbeebjcagaaV3
import Derived.Test.YtdmcbbeebjcagaaV5
set_option linter.all false
set_option linter.unusedSectionVars false
namespace Go.Vab
open Go Go.Proofs

theorem c9 {h : Heap} {a b : Stt} {at_ ap as_ ai aa ab bt bp bs bi ba bb : AV} (ra : StR h a at_ ap as_ ai aa ab) (rb : StR h b bt bp bs bi ba bb) :
    SpecQ Try.prog 9 [eSt a at_ ap as_ ai aa ab, eSt b bt bp bs bi ba bb] h fun r => r = (.bool (decide (a = b)), h) := by
  have ta := ra.cells
  have tb := rb.cells
  obtain ⟨A, hA⟩ : ∃ A, A = eSt a at_ ap as_ ai aa ab := ⟨_, rfl⟩
  obtain ⟨B, hB⟩ : ∃ B, B = eSt b bt bp bs bi ba bb := ⟨_, rfl⟩
  have sat := fun l => (ra.ft.app l).str
  have sap := fun l => (ra.fp.app l).str
  have sbt := fun l => (rb.ft.app l).str
  have sbp := fun l => (rb.fp.app l).str
  have las := ra.fs.len
  have lai := ra.fi.len
  have laa := ra.fa.len
  have lab := ra.fb.len
  have lbs := rb.fs.len
  have lbi := rb.fi.len
  have lba := rb.fa.len
  have lbb := rb.fb.len
  have bas := ra.fs.bound
  have bai := ra.fi.bound
  have baa := ra.fa.bound
  have bab := ra.fb.bound
  simp only [List.length_map] at las lai laa lab lbs lbi lba lbb bas bai baa bab
  refine SpecQ.drop1 rfl (q9 fun env g0 g1 => ?_)
  repeat' (first
    | ((with_reducible apply evs_of); (focus ((conv => lhs; simp (disch := omega) [g0, g1, ta, tb, sat, sap, sbt, sbp, las, lai, laa, lab, lbs, lbi, lba, lbb]); done)); try dsimp only)
    | ((with_reducible apply gW_do); (focus (simp (disch := omega) [g0, g1, ta, tb, sat, sap, sbt, sbp, las, lai, laa, lab, lbs, lbi, lba, lbb]; done)))
    | ((with_reducible apply gW_no); (focus (simp (disch := omega) [g0, g1, ta, tb, sat, sap, sbt, sbp, las, lai, laa, lab, lbs, lbi, lba, lbb]; done)); try dsimp only)
    | ((with_reducible apply gW_un); (focus (simp (disch := omega) [g0, g1, ta, tb, sat, sap, sbt, sbp, las, lai, laa, lab, lbs, lbi, lba, lbb]; done)); try dsimp only)
    | ((with_reducible apply cndW_T); (focus (simp (disch := omega) [g0, g1, ta, tb, sat, sap, sbt, sbp, las, lai, laa, lab, lbs, lbi, lba, lbb] <;> omega)))
    | ((with_reducible apply cndW_F); (focus (simp (disch := omega) [g0, g1, ta, tb, sat, sap, sbt, sbp, las, lai, laa, lab, lbs, lbi, lba, lbb] <;> omega)))
    | ((with_reducible apply stabP_i); (focus (simp (disch := omega) [g0, g1, ta, tb, sat, sap, sbt, sbp, las, lai, laa, lab, lbs, lbi, lba, lbb]; done)))
    | (with_reducible apply bothP_i)
    | (with_reducible apply wL_i)
    | ((with_reducible apply ValW_do); (focus (simp (disch := omega) [g0, g1, ta, tb, sat, sap, sbt, sbp, las, lai, laa, lab, lbs, lbi, lba, lbb]; done)); try dsimp only)
    | ((with_reducible apply ValW_no); (focus (simp (disch := omega) [g0, g1, ta, tb, sat, sap, sbt, sbp, las, lai, laa, lab, lbs, lbi, lba, lbb]; done)); try dsimp only)
    | ((with_reducible apply ValW_un); (focus (simp (disch := omega) [g0, g1, ta, tb, sat, sap, sbt, sbp, las, lai, laa, lab, lbs, lbi, lba, lbb]; done)); try dsimp only)
    | ((with_reducible apply SpecA_i); (focus ((conv => lhs; simp (disch := omega) [g0, g1, ta, tb, sat, sap, sbt, sbp, las, lai, laa, lab, lbs, lbi, lba, lbb]); done)))
    | ((with_reducible apply ValA_i); (focus ((conv => lhs; simp (disch := omega) [g0, g1, ta, tb, sat, sap, sbt, sbp, las, lai, laa, lab, lbs, lbi, lba, lbb]); done)))
    | ((with_reducible apply stabA_i); (focus ((conv => lhs; simp (disch := omega) [g0, g1, ta, tb, sat, sap, sbt, sbp, las, lai, laa, lab, lbs, lbi, lba, lbb]); done)))
    | ((with_reducible apply fnA_i); (focus ((conv => lhs; simp (disch := omega) [g0, g1, ta, tb, sat, sap, sbt, sbp, las, lai, laa, lab, lbs, lbi, lba, lbb]); done)))
    | ((with_reducible apply ValA_fn); (focus ((conv => lhs; simp (disch := omega) [g0, g1, ta, tb, sat, sap, sbt, sbp, las, lai, laa, lab, lbs, lbi, lba, lbb]); done)))
    | ((with_reducible apply stabA_fn); (focus ((conv => lhs; simp (disch := omega) [g0, g1, ta, tb, sat, sap, sbt, sbp, las, lai, laa, lab, lbs, lbi, lba, lbb]); done)))
    | ((with_reducible apply appA_i); (focus ((conv => lhs; simp (disch := omega) [g0, g1, ta, tb, sat, sap, sbt, sbp, las, lai, laa, lab, lbs, lbi, lba, lbb]); done)); (focus ((conv => lhs; simp (disch := omega) [g0, g1, ta, tb, sat, sap, sbt, sbp, las, lai, laa, lab, lbs, lbi, lba, lbb]); done)))
    | ((with_reducible apply stab_do); (focus (simp (disch := omega) [g0, g1, ta, tb, sat, sap, sbt, sbp, las, lai, laa, lab, lbs, lbi, lba, lbb]; done)))
    | (simp (decide := true) only [sn9, sqW_nrm, sqW_exit, sqW_ret, inBlk_nrm, inBlk_ret, inBlk_same, inBlk_exit, if_true, if_false, retW_nrm, retW_ret])
    | (with_reducible refine n9_18_w _ _ _ ?_)
    | (with_reducible refine n9_36_w _ _ _ ?_)
    | (with_reducible refine n9_54_w _ _ _ ?_)
    | (with_reducible refine n9_71_w _ _ _ ?_)
    | ((with_reducible apply cndW_splitE); (focus ((conv => lhs; simp (disch := omega) [g0, g1, ta, tb, sat, sap, sbt, sbp, las, lai, laa, lab, lbs, lbi, lba, lbb]); done)); all_goals ((intro hb; try simp only [Bool.not_true, Bool.not_false] at hb); try simp only [hb]))
    | (with_reducible refine gv_split ?_ ?_ <;> (intro hb; try simp only [Bool.not_true, Bool.not_false] at hb) <;> try simp only [hb])
    | (with_reducible refine gW_split ?_ ?_ <;> (intro hb; try simp only [Bool.not_true, Bool.not_false] at hb) <;> try simp only [hb])
    | (with_reducible refine cndW_split ?_ ?_ <;> (intro hb; try simp only [Bool.not_true, Bool.not_false] at hb) <;> try simp only [hb])
    | (with_reducible refine ValW_split ?_ ?_ <;> (intro hb; try simp only [Bool.not_true, Bool.not_false] at hb) <;> try simp only [hb]))
  rotate_left
  all_goals try (refine fin_b (decide_eq_false ?_).symm; rintro rfl; simp_all; done)
  rename_i u1 u2 u3 u4 u5 u6 u7 u8
  simp only [Bool.not_eq_false', decide_eq_true_eq, Bool.or_eq_false_iff] at u1 u2 u3 u4 u5 u6 u7 u8 hb
  -- seats
  refine loop_up a.seats.length (fun i st => ∃ env' t, st = ⟨env', h ++ (⟨eSt a at_ ap as_ ai aa ab, 0, .own⟩ :: ⟨eSt b bt bp bs bi ba bb, 0, .own⟩ :: t)⟩ ∧ env'.get 2 = .ptr h.length 0 [] tState ∧ env'.get 3 = .ptr (h.length + 1) 0 [] tState ∧ env'.get 5 = nat i ∧ ∀ j, j < i → a.seats[j]? = b.seats[j]?) ?_ ?_ ⟨_, _, rfl, by simp [*], by simp [*], by simp, fun j hj => absurd hj (by omega)⟩
  · rintro i st hi ⟨env', t, rfl, e2, e3, ei, hj⟩
    obtain ⟨p, p1, p2⟩ := ra.fs.idx (i := i) (by simpa using hi)
    obtain ⟨q, q1, q2⟩ := rb.fs.idx (i := i) (by simpa [← u6] using hi)
    simp only [List.getElem?_map, List.getElem?_eq_getElem hi, Option.map_some] at p2
    simp only [List.getElem?_map, List.getElem?_eq_getElem (show i < b.seats.length by omega), Option.map_some] at q2
    by_cases hab : a.seats[i] = b.seats[i]
    · repeat' (first
        | ((with_reducible apply evs_of); (focus ((conv => lhs; simp (disch := omega) [e2, e3, ei, p1, p2, q1, q2, hab, las]); done)); try dsimp only)
        | ((with_reducible apply gW_do); (focus (simp (disch := omega) [e2, e3, ei, p1, p2, q1, q2, hab, las]; done)))
        | ((with_reducible apply gW_no); (focus (simp (disch := omega) [e2, e3, ei, p1, p2, q1, q2, hab, las]; done)); try dsimp only)
        | ((with_reducible apply gW_un); (focus (simp (disch := omega) [e2, e3, ei, p1, p2, q1, q2, hab, las]; done)); try dsimp only)
        | ((with_reducible apply cndW_T); (focus (simp (disch := omega) [e2, e3, ei, p1, p2, q1, q2, hab, las] <;> omega)))
        | ((with_reducible apply cndW_F); (focus (simp (disch := omega) [e2, e3, ei, p1, p2, q1, q2, hab, las] <;> omega)))
        | ((with_reducible apply stabP_i); (focus (simp (disch := omega) [e2, e3, ei, p1, p2, q1, q2, hab, las]; done)))
        | (with_reducible apply bothP_i)
        | (with_reducible apply wL_i)
        | ((with_reducible apply ValW_do); (focus (simp (disch := omega) [e2, e3, ei, p1, p2, q1, q2, hab, las]; done)); try dsimp only)
        | ((with_reducible apply ValW_no); (focus (simp (disch := omega) [e2, e3, ei, p1, p2, q1, q2, hab, las]; done)); try dsimp only)
        | ((with_reducible apply ValW_un); (focus (simp (disch := omega) [e2, e3, ei, p1, p2, q1, q2, hab, las]; done)); try dsimp only)
        | ((with_reducible apply SpecA_i); (focus ((conv => lhs; simp (disch := omega) [e2, e3, ei, p1, p2, q1, q2, hab, las]); done)))
        | ((with_reducible apply ValA_i); (focus ((conv => lhs; simp (disch := omega) [e2, e3, ei, p1, p2, q1, q2, hab, las]); done)))
        | ((with_reducible apply stabA_i); (focus ((conv => lhs; simp (disch := omega) [e2, e3, ei, p1, p2, q1, q2, hab, las]); done)))
        | ((with_reducible apply fnA_i); (focus ((conv => lhs; simp (disch := omega) [e2, e3, ei, p1, p2, q1, q2, hab, las]); done)))
        | ((with_reducible apply ValA_fn); (focus ((conv => lhs; simp (disch := omega) [e2, e3, ei, p1, p2, q1, q2, hab, las]); done)))
        | ((with_reducible apply stabA_fn); (focus ((conv => lhs; simp (disch := omega) [e2, e3, ei, p1, p2, q1, q2, hab, las]); done)))
        | ((with_reducible apply appA_i); (focus ((conv => lhs; simp (disch := omega) [e2, e3, ei, p1, p2, q1, q2, hab, las]); done)); (focus ((conv => lhs; simp (disch := omega) [e2, e3, ei, p1, p2, q1, q2, hab, las]); done)))
        | ((with_reducible apply stab_do); (focus (simp (disch := omega) [e2, e3, ei, p1, p2, q1, q2, hab, las]; done)))
        | (simp (decide := true) only [sn9, sqW_nrm, sqW_exit, sqW_ret, inBlk_nrm, inBlk_ret, inBlk_same, inBlk_exit, if_true, if_false, retW_nrm, retW_ret])
        | (with_reducible refine n9_18_w _ _ _ ?_)
        | (with_reducible refine n9_36_w _ _ _ ?_)
        | (with_reducible refine n9_54_w _ _ _ ?_)
        | (with_reducible refine n9_71_w _ _ _ ?_))
      all_goals
        refine .inl ⟨by simp, _, _, rfl, by simp [e2], by simp [e3], by simp, fun j hj' => ?_⟩
        by_cases hji : j = i
        · subst hji
          rw [List.getElem?_eq_getElem hi, List.getElem?_eq_getElem (by omega), hab]
        · exact hj j (by omega)
    · repeat' (first
        | ((with_reducible apply evs_of); (focus ((conv => lhs; simp (disch := omega) [e2, e3, ei, p1, p2, q1, q2, hab, las]); done)); try dsimp only)
        | ((with_reducible apply gW_do); (focus (simp (disch := omega) [e2, e3, ei, p1, p2, q1, q2, hab, las]; done)))
        | ((with_reducible apply gW_no); (focus (simp (disch := omega) [e2, e3, ei, p1, p2, q1, q2, hab, las]; done)); try dsimp only)
        | ((with_reducible apply gW_un); (focus (simp (disch := omega) [e2, e3, ei, p1, p2, q1, q2, hab, las]; done)); try dsimp only)
        | ((with_reducible apply cndW_T); (focus (simp (disch := omega) [e2, e3, ei, p1, p2, q1, q2, hab, las] <;> omega)))
        | ((with_reducible apply cndW_F); (focus (simp (disch := omega) [e2, e3, ei, p1, p2, q1, q2, hab, las] <;> omega)))
        | ((with_reducible apply stabP_i); (focus (simp (disch := omega) [e2, e3, ei, p1, p2, q1, q2, hab, las]; done)))
        | (with_reducible apply bothP_i)
        | (with_reducible apply wL_i)
        | ((with_reducible apply ValW_do); (focus (simp (disch := omega) [e2, e3, ei, p1, p2, q1, q2, hab, las]; done)); try dsimp only)
        | ((with_reducible apply ValW_no); (focus (simp (disch := omega) [e2, e3, ei, p1, p2, q1, q2, hab, las]; done)); try dsimp only)
        | ((with_reducible apply ValW_un); (focus (simp (disch := omega) [e2, e3, ei, p1, p2, q1, q2, hab, las]; done)); try dsimp only)
        | ((with_reducible apply SpecA_i); (focus ((conv => lhs; simp (disch := omega) [e2, e3, ei, p1, p2, q1, q2, hab, las]); done)))
        | ((with_reducible apply ValA_i); (focus ((conv => lhs; simp (disch := omega) [e2, e3, ei, p1, p2, q1, q2, hab, las]); done)))
        | ((with_reducible apply stabA_i); (focus ((conv => lhs; simp (disch := omega) [e2, e3, ei, p1, p2, q1, q2, hab, las]); done)))
        | ((with_reducible apply fnA_i); (focus ((conv => lhs; simp (disch := omega) [e2, e3, ei, p1, p2, q1, q2, hab, las]); done)))
        | ((with_reducible apply ValA_fn); (focus ((conv => lhs; simp (disch := omega) [e2, e3, ei, p1, p2, q1, q2, hab, las]); done)))
        | ((with_reducible apply stabA_fn); (focus ((conv => lhs; simp (disch := omega) [e2, e3, ei, p1, p2, q1, q2, hab, las]); done)))
        | ((with_reducible apply appA_i); (focus ((conv => lhs; simp (disch := omega) [e2, e3, ei, p1, p2, q1, q2, hab, las]); done)); (focus ((conv => lhs; simp (disch := omega) [e2, e3, ei, p1, p2, q1, q2, hab, las]); done)))
        | ((with_reducible apply stab_do); (focus (simp (disch := omega) [e2, e3, ei, p1, p2, q1, q2, hab, las]; done)))
        | (simp (decide := true) only [sn9, sqW_nrm, sqW_exit, sqW_ret, inBlk_nrm, inBlk_ret, inBlk_same, inBlk_exit, if_true, if_false, retW_nrm, retW_ret])
        | (with_reducible refine n9_18_w _ _ _ ?_)
        | (with_reducible refine n9_36_w _ _ _ ?_)
        | (with_reducible refine n9_54_w _ _ _ ?_)
        | (with_reducible refine n9_71_w _ _ _ ?_))
      all_goals
        refine .inr ⟨by simp, ?_⟩
        repeat' (first
          | ((with_reducible apply evs_of); (focus ((conv => lhs; simp (disch := omega) [e2, e3, ei]); done)); try dsimp only)
          | ((with_reducible apply gW_do); (focus (simp (disch := omega) [e2, e3, ei]; done)))
          | ((with_reducible apply gW_no); (focus (simp (disch := omega) [e2, e3, ei]; done)); try dsimp only)
          | ((with_reducible apply gW_un); (focus (simp (disch := omega) [e2, e3, ei]; done)); try dsimp only)
          | ((with_reducible apply cndW_T); (focus (simp (disch := omega) [e2, e3, ei] <;> omega)))
          | ((with_reducible apply cndW_F); (focus (simp (disch := omega) [e2, e3, ei] <;> omega)))
          | ((with_reducible apply stabP_i); (focus (simp (disch := omega) [e2, e3, ei]; done)))
          | (with_reducible apply bothP_i)
          | (with_reducible apply wL_i)
          | ((with_reducible apply ValW_do); (focus (simp (disch := omega) [e2, e3, ei]; done)); try dsimp only)
          | ((with_reducible apply ValW_no); (focus (simp (disch := omega) [e2, e3, ei]; done)); try dsimp only)
          | ((with_reducible apply ValW_un); (focus (simp (disch := omega) [e2, e3, ei]; done)); try dsimp only)
          | ((with_reducible apply SpecA_i); (focus ((conv => lhs; simp (disch := omega) [e2, e3, ei]); done)))
          | ((with_reducible apply ValA_i); (focus ((conv => lhs; simp (disch := omega) [e2, e3, ei]); done)))
          | ((with_reducible apply stabA_i); (focus ((conv => lhs; simp (disch := omega) [e2, e3, ei]); done)))
          | ((with_reducible apply fnA_i); (focus ((conv => lhs; simp (disch := omega) [e2, e3, ei]); done)))
          | ((with_reducible apply ValA_fn); (focus ((conv => lhs; simp (disch := omega) [e2, e3, ei]); done)))
          | ((with_reducible apply stabA_fn); (focus ((conv => lhs; simp (disch := omega) [e2, e3, ei]); done)))
          | ((with_reducible apply appA_i); (focus ((conv => lhs; simp (disch := omega) [e2, e3, ei]); done)); (focus ((conv => lhs; simp (disch := omega) [e2, e3, ei]); done)))
          | ((with_reducible apply stab_do); (focus (simp (disch := omega) [e2, e3, ei]; done)))
          | (simp (decide := true) only [sn9, sqW_nrm, sqW_exit, sqW_ret, inBlk_nrm, inBlk_ret, inBlk_same, inBlk_exit, if_true, if_false, retW_nrm, retW_ret])
          | (with_reducible refine n9_18_w _ _ _ ?_)
          | (with_reducible refine n9_36_w _ _ _ ?_)
          | (with_reducible refine n9_54_w _ _ _ ?_)
          | (with_reducible refine n9_71_w _ _ _ ?_))
        refine fin_b (decide_eq_false ?_).symm
        rintro rfl
        exact hab rfl
  rintro st ⟨env', t, rfl, e2, e3, ei, hj⟩
  repeat' (first
    | ((with_reducible apply evs_of); (focus ((conv => lhs; simp (disch := omega) [e2, e3, ei, las]); done)); try dsimp only)
    | ((with_reducible apply gW_do); (focus (simp (disch := omega) [e2, e3, ei, las]; done)))
    | ((with_reducible apply gW_no); (focus (simp (disch := omega) [e2, e3, ei, las]; done)); try dsimp only)
    | ((with_reducible apply gW_un); (focus (simp (disch := omega) [e2, e3, ei, las]; done)); try dsimp only)
    | ((with_reducible apply cndW_T); (focus (simp (disch := omega) [e2, e3, ei, las] <;> omega)))
    | ((with_reducible apply cndW_F); (focus (simp (disch := omega) [e2, e3, ei, las] <;> omega)))
    | ((with_reducible apply stabP_i); (focus (simp (disch := omega) [e2, e3, ei, las]; done)))
    | (with_reducible apply bothP_i)
    | (with_reducible apply wL_i)
    | ((with_reducible apply ValW_do); (focus (simp (disch := omega) [e2, e3, ei, las]; done)); try dsimp only)
    | ((with_reducible apply ValW_no); (focus (simp (disch := omega) [e2, e3, ei, las]; done)); try dsimp only)
    | ((with_reducible apply ValW_un); (focus (simp (disch := omega) [e2, e3, ei, las]; done)); try dsimp only)
    | ((with_reducible apply SpecA_i); (focus ((conv => lhs; simp (disch := omega) [e2, e3, ei, las]); done)))
    | ((with_reducible apply ValA_i); (focus ((conv => lhs; simp (disch := omega) [e2, e3, ei, las]); done)))
    | ((with_reducible apply stabA_i); (focus ((conv => lhs; simp (disch := omega) [e2, e3, ei, las]); done)))
    | ((with_reducible apply fnA_i); (focus ((conv => lhs; simp (disch := omega) [e2, e3, ei, las]); done)))
    | ((with_reducible apply ValA_fn); (focus ((conv => lhs; simp (disch := omega) [e2, e3, ei, las]); done)))
    | ((with_reducible apply stabA_fn); (focus ((conv => lhs; simp (disch := omega) [e2, e3, ei, las]); done)))
    | ((with_reducible apply appA_i); (focus ((conv => lhs; simp (disch := omega) [e2, e3, ei, las]); done)); (focus ((conv => lhs; simp (disch := omega) [e2, e3, ei, las]); done)))
    | ((with_reducible apply stab_do); (focus (simp (disch := omega) [e2, e3, ei, las]; done)))
    | (simp (decide := true) only [sn9, sqW_nrm, sqW_exit, sqW_ret, inBlk_nrm, inBlk_ret, inBlk_same, inBlk_exit, if_true, if_false, retW_nrm, retW_ret])
    | (with_reducible refine n9_18_w _ _ _ ?_)
    | (with_reducible refine n9_36_w _ _ _ ?_)
    | (with_reducible refine n9_54_w _ _ _ ?_)
    | (with_reducible refine n9_71_w _ _ _ ?_))
  refine ⟨by simp, ?_⟩
  repeat' (first
    | ((with_reducible apply evs_of); (focus ((conv => lhs; simp (disch := omega) [e2, e3, ei, las]); done)); try dsimp only)
    | ((with_reducible apply gW_do); (focus (simp (disch := omega) [e2, e3, ei, las]; done)))
    | ((with_reducible apply gW_no); (focus (simp (disch := omega) [e2, e3, ei, las]; done)); try dsimp only)
    | ((with_reducible apply gW_un); (focus (simp (disch := omega) [e2, e3, ei, las]; done)); try dsimp only)
    | ((with_reducible apply cndW_T); (focus (simp (disch := omega) [e2, e3, ei, las] <;> omega)))
    | ((with_reducible apply cndW_F); (focus (simp (disch := omega) [e2, e3, ei, las] <;> omega)))
    | ((with_reducible apply stabP_i); (focus (simp (disch := omega) [e2, e3, ei, las]; done)))
    | (with_reducible apply bothP_i)
    | (with_reducible apply wL_i)
    | ((with_reducible apply ValW_do); (focus (simp (disch := omega) [e2, e3, ei, las]; done)); try dsimp only)
    | ((with_reducible apply ValW_no); (focus (simp (disch := omega) [e2, e3, ei, las]; done)); try dsimp only)
    | ((with_reducible apply ValW_un); (focus (simp (disch := omega) [e2, e3, ei, las]; done)); try dsimp only)
    | ((with_reducible apply SpecA_i); (focus ((conv => lhs; simp (disch := omega) [e2, e3, ei, las]); done)))
    | ((with_reducible apply ValA_i); (focus ((conv => lhs; simp (disch := omega) [e2, e3, ei, las]); done)))
    | ((with_reducible apply stabA_i); (focus ((conv => lhs; simp (disch := omega) [e2, e3, ei, las]); done)))
    | ((with_reducible apply fnA_i); (focus ((conv => lhs; simp (disch := omega) [e2, e3, ei, las]); done)))
    | ((with_reducible apply ValA_fn); (focus ((conv => lhs; simp (disch := omega) [e2, e3, ei, las]); done)))
    | ((with_reducible apply stabA_fn); (focus ((conv => lhs; simp (disch := omega) [e2, e3, ei, las]); done)))
    | ((with_reducible apply appA_i); (focus ((conv => lhs; simp (disch := omega) [e2, e3, ei, las]); done)); (focus ((conv => lhs; simp (disch := omega) [e2, e3, ei, las]); done)))
    | ((with_reducible apply stab_do); (focus (simp (disch := omega) [e2, e3, ei, las]; done)))
    | (simp (decide := true) only [sn9, sqW_nrm, sqW_exit, sqW_ret, inBlk_nrm, inBlk_ret, inBlk_same, inBlk_exit, if_true, if_false, retW_nrm, retW_ret])
    | (with_reducible refine n9_18_w _ _ _ ?_)
    | (with_reducible refine n9_36_w _ _ _ ?_)
    | (with_reducible refine n9_54_w _ _ _ ?_)
    | (with_reducible refine n9_71_w _ _ _ ?_))
  have w_seats : a.seats = b.seats := List.ext_getElem? fun j => by
    by_cases hj' : j < a.seats.length
    · exact hj j hj'
    · rw [List.getElem?_eq_none (by omega), List.getElem?_eq_none (by omega)]
  clear hj
  -- invites
  refine loop_up a.invites.length (fun i st => ∃ env' t, st = ⟨env', h ++ (⟨eSt a at_ ap as_ ai aa ab, 0, .own⟩ :: ⟨eSt b bt bp bs bi ba bb, 0, .own⟩ :: t)⟩ ∧ env'.get 2 = .ptr h.length 0 [] tState ∧ env'.get 3 = .ptr (h.length + 1) 0 [] tState ∧ env'.get 8 = nat i ∧ ∀ j, j < i → a.invites[j]? = b.invites[j]?) ?_ ?_ ⟨_, _, rfl, by simp [*], by simp [*], by simp, fun j hj => absurd hj (by omega)⟩
  · rintro i st hi ⟨env', t, rfl, e2, e3, ei, hj⟩
    obtain ⟨p, p1, p2⟩ := ra.fi.idx (i := i) (by simpa using hi)
    obtain ⟨q, q1, q2⟩ := rb.fi.idx (i := i) (by simpa [← u7] using hi)
    simp only [List.getElem?_map, List.getElem?_eq_getElem hi, Option.map_some] at p2
    simp only [List.getElem?_map, List.getElem?_eq_getElem (show i < b.invites.length by omega), Option.map_some] at q2
    by_cases hab : a.invites[i] = b.invites[i]
    · repeat' (first
        | ((with_reducible apply evs_of); (focus ((conv => lhs; simp (disch := omega) [e2, e3, ei, p1, p2, q1, q2, hab, lai]); done)); try dsimp only)
        | ((with_reducible apply gW_do); (focus (simp (disch := omega) [e2, e3, ei, p1, p2, q1, q2, hab, lai]; done)))
        | ((with_reducible apply gW_no); (focus (simp (disch := omega) [e2, e3, ei, p1, p2, q1, q2, hab, lai]; done)); try dsimp only)
        | ((with_reducible apply gW_un); (focus (simp (disch := omega) [e2, e3, ei, p1, p2, q1, q2, hab, lai]; done)); try dsimp only)
        | ((with_reducible apply cndW_T); (focus (simp (disch := omega) [e2, e3, ei, p1, p2, q1, q2, hab, lai] <;> omega)))
        | ((with_reducible apply cndW_F); (focus (simp (disch := omega) [e2, e3, ei, p1, p2, q1, q2, hab, lai] <;> omega)))
        | ((with_reducible apply stabP_i); (focus (simp (disch := omega) [e2, e3, ei, p1, p2, q1, q2, hab, lai]; done)))
        | (with_reducible apply bothP_i)
        | (with_reducible apply wL_i)
        | ((with_reducible apply ValW_do); (focus (simp (disch := omega) [e2, e3, ei, p1, p2, q1, q2, hab, lai]; done)); try dsimp only)
        | ((with_reducible apply ValW_no); (focus (simp (disch := omega) [e2, e3, ei, p1, p2, q1, q2, hab, lai]; done)); try dsimp only)
        | ((with_reducible apply ValW_un); (focus (simp (disch := omega) [e2, e3, ei, p1, p2, q1, q2, hab, lai]; done)); try dsimp only)
        | ((with_reducible apply SpecA_i); (focus ((conv => lhs; simp (disch := omega) [e2, e3, ei, p1, p2, q1, q2, hab, lai]); done)))
        | ((with_reducible apply ValA_i); (focus ((conv => lhs; simp (disch := omega) [e2, e3, ei, p1, p2, q1, q2, hab, lai]); done)))
        | ((with_reducible apply stabA_i); (focus ((conv => lhs; simp (disch := omega) [e2, e3, ei, p1, p2, q1, q2, hab, lai]); done)))
        | ((with_reducible apply fnA_i); (focus ((conv => lhs; simp (disch := omega) [e2, e3, ei, p1, p2, q1, q2, hab, lai]); done)))
        | ((with_reducible apply ValA_fn); (focus ((conv => lhs; simp (disch := omega) [e2, e3, ei, p1, p2, q1, q2, hab, lai]); done)))
        | ((with_reducible apply stabA_fn); (focus ((conv => lhs; simp (disch := omega) [e2, e3, ei, p1, p2, q1, q2, hab, lai]); done)))
        | ((with_reducible apply appA_i); (focus ((conv => lhs; simp (disch := omega) [e2, e3, ei, p1, p2, q1, q2, hab, lai]); done)); (focus ((conv => lhs; simp (disch := omega) [e2, e3, ei, p1, p2, q1, q2, hab, lai]); done)))
        | ((with_reducible apply stab_do); (focus (simp (disch := omega) [e2, e3, ei, p1, p2, q1, q2, hab, lai]; done)))
        | (simp (decide := true) only [sn9, sqW_nrm, sqW_exit, sqW_ret, inBlk_nrm, inBlk_ret, inBlk_same, inBlk_exit, if_true, if_false, retW_nrm, retW_ret])
        | (with_reducible refine n9_18_w _ _ _ ?_)
        | (with_reducible refine n9_36_w _ _ _ ?_)
        | (with_reducible refine n9_54_w _ _ _ ?_)
        | (with_reducible refine n9_71_w _ _ _ ?_))
      all_goals
        refine .inl ⟨by simp, _, _, rfl, by simp [e2], by simp [e3], by simp, fun j hj' => ?_⟩
        by_cases hji : j = i
        · subst hji
          rw [List.getElem?_eq_getElem hi, List.getElem?_eq_getElem (by omega), hab]
        · exact hj j (by omega)
    · repeat' (first
        | ((with_reducible apply evs_of); (focus ((conv => lhs; simp (disch := omega) [e2, e3, ei, p1, p2, q1, q2, hab, lai]); done)); try dsimp only)
        | ((with_reducible apply gW_do); (focus (simp (disch := omega) [e2, e3, ei, p1, p2, q1, q2, hab, lai]; done)))
        | ((with_reducible apply gW_no); (focus (simp (disch := omega) [e2, e3, ei, p1, p2, q1, q2, hab, lai]; done)); try dsimp only)
        | ((with_reducible apply gW_un); (focus (simp (disch := omega) [e2, e3, ei, p1, p2, q1, q2, hab, lai]; done)); try dsimp only)
        | ((with_reducible apply cndW_T); (focus (simp (disch := omega) [e2, e3, ei, p1, p2, q1, q2, hab, lai] <;> omega)))
        | ((with_reducible apply cndW_F); (focus (simp (disch := omega) [e2, e3, ei, p1, p2, q1, q2, hab, lai] <;> omega)))
        | ((with_reducible apply stabP_i); (focus (simp (disch := omega) [e2, e3, ei, p1, p2, q1, q2, hab, lai]; done)))
        | (with_reducible apply bothP_i)
        | (with_reducible apply wL_i)
        | ((with_reducible apply ValW_do); (focus (simp (disch := omega) [e2, e3, ei, p1, p2, q1, q2, hab, lai]; done)); try dsimp only)
        | ((with_reducible apply ValW_no); (focus (simp (disch := omega) [e2, e3, ei, p1, p2, q1, q2, hab, lai]; done)); try dsimp only)
        | ((with_reducible apply ValW_un); (focus (simp (disch := omega) [e2, e3, ei, p1, p2, q1, q2, hab, lai]; done)); try dsimp only)
        | ((with_reducible apply SpecA_i); (focus ((conv => lhs; simp (disch := omega) [e2, e3, ei, p1, p2, q1, q2, hab, lai]); done)))
        | ((with_reducible apply ValA_i); (focus ((conv => lhs; simp (disch := omega) [e2, e3, ei, p1, p2, q1, q2, hab, lai]); done)))
        | ((with_reducible apply stabA_i); (focus ((conv => lhs; simp (disch := omega) [e2, e3, ei, p1, p2, q1, q2, hab, lai]); done)))
        | ((with_reducible apply fnA_i); (focus ((conv => lhs; simp (disch := omega) [e2, e3, ei, p1, p2, q1, q2, hab, lai]); done)))
        | ((with_reducible apply ValA_fn); (focus ((conv => lhs; simp (disch := omega) [e2, e3, ei, p1, p2, q1, q2, hab, lai]); done)))
        | ((with_reducible apply stabA_fn); (focus ((conv => lhs; simp (disch := omega) [e2, e3, ei, p1, p2, q1, q2, hab, lai]); done)))
        | ((with_reducible apply appA_i); (focus ((conv => lhs; simp (disch := omega) [e2, e3, ei, p1, p2, q1, q2, hab, lai]); done)); (focus ((conv => lhs; simp (disch := omega) [e2, e3, ei, p1, p2, q1, q2, hab, lai]); done)))
        | ((with_reducible apply stab_do); (focus (simp (disch := omega) [e2, e3, ei, p1, p2, q1, q2, hab, lai]; done)))
        | (simp (decide := true) only [sn9, sqW_nrm, sqW_exit, sqW_ret, inBlk_nrm, inBlk_ret, inBlk_same, inBlk_exit, if_true, if_false, retW_nrm, retW_ret])
        | (with_reducible refine n9_18_w _ _ _ ?_)
        | (with_reducible refine n9_36_w _ _ _ ?_)
        | (with_reducible refine n9_54_w _ _ _ ?_)
        | (with_reducible refine n9_71_w _ _ _ ?_))
      all_goals
        refine .inr ⟨by simp, ?_⟩
        repeat' (first
          | ((with_reducible apply evs_of); (focus ((conv => lhs; simp (disch := omega) [e2, e3, ei]); done)); try dsimp only)
          | ((with_reducible apply gW_do); (focus (simp (disch := omega) [e2, e3, ei]; done)))
          | ((with_reducible apply gW_no); (focus (simp (disch := omega) [e2, e3, ei]; done)); try dsimp only)
          | ((with_reducible apply gW_un); (focus (simp (disch := omega) [e2, e3, ei]; done)); try dsimp only)
          | ((with_reducible apply cndW_T); (focus (simp (disch := omega) [e2, e3, ei] <;> omega)))
          | ((with_reducible apply cndW_F); (focus (simp (disch := omega) [e2, e3, ei] <;> omega)))
          | ((with_reducible apply stabP_i); (focus (simp (disch := omega) [e2, e3, ei]; done)))
          | (with_reducible apply bothP_i)
          | (with_reducible apply wL_i)
          | ((with_reducible apply ValW_do); (focus (simp (disch := omega) [e2, e3, ei]; done)); try dsimp only)
          | ((with_reducible apply ValW_no); (focus (simp (disch := omega) [e2, e3, ei]; done)); try dsimp only)
          | ((with_reducible apply ValW_un); (focus (simp (disch := omega) [e2, e3, ei]; done)); try dsimp only)
          | ((with_reducible apply SpecA_i); (focus ((conv => lhs; simp (disch := omega) [e2, e3, ei]); done)))
          | ((with_reducible apply ValA_i); (focus ((conv => lhs; simp (disch := omega) [e2, e3, ei]); done)))
          | ((with_reducible apply stabA_i); (focus ((conv => lhs; simp (disch := omega) [e2, e3, ei]); done)))
          | ((with_reducible apply fnA_i); (focus ((conv => lhs; simp (disch := omega) [e2, e3, ei]); done)))
          | ((with_reducible apply ValA_fn); (focus ((conv => lhs; simp (disch := omega) [e2, e3, ei]); done)))
          | ((with_reducible apply stabA_fn); (focus ((conv => lhs; simp (disch := omega) [e2, e3, ei]); done)))
          | ((with_reducible apply appA_i); (focus ((conv => lhs; simp (disch := omega) [e2, e3, ei]); done)); (focus ((conv => lhs; simp (disch := omega) [e2, e3, ei]); done)))
          | ((with_reducible apply stab_do); (focus (simp (disch := omega) [e2, e3, ei]; done)))
          | (simp (decide := true) only [sn9, sqW_nrm, sqW_exit, sqW_ret, inBlk_nrm, inBlk_ret, inBlk_same, inBlk_exit, if_true, if_false, retW_nrm, retW_ret])
          | (with_reducible refine n9_18_w _ _ _ ?_)
          | (with_reducible refine n9_36_w _ _ _ ?_)
          | (with_reducible refine n9_54_w _ _ _ ?_)
          | (with_reducible refine n9_71_w _ _ _ ?_))
        refine fin_b (decide_eq_false ?_).symm
        rintro rfl
        exact hab rfl
  rintro st ⟨env', t, rfl, e2, e3, ei, hj⟩
  repeat' (first
    | ((with_reducible apply evs_of); (focus ((conv => lhs; simp (disch := omega) [e2, e3, ei, lai]); done)); try dsimp only)
    | ((with_reducible apply gW_do); (focus (simp (disch := omega) [e2, e3, ei, lai]; done)))
    | ((with_reducible apply gW_no); (focus (simp (disch := omega) [e2, e3, ei, lai]; done)); try dsimp only)
    | ((with_reducible apply gW_un); (focus (simp (disch := omega) [e2, e3, ei, lai]; done)); try dsimp only)
    | ((with_reducible apply cndW_T); (focus (simp (disch := omega) [e2, e3, ei, lai] <;> omega)))
    | ((with_reducible apply cndW_F); (focus (simp (disch := omega) [e2, e3, ei, lai] <;> omega)))
    | ((with_reducible apply stabP_i); (focus (simp (disch := omega) [e2, e3, ei, lai]; done)))
    | (with_reducible apply bothP_i)
    | (with_reducible apply wL_i)
    | ((with_reducible apply ValW_do); (focus (simp (disch := omega) [e2, e3, ei, lai]; done)); try dsimp only)
    | ((with_reducible apply ValW_no); (focus (simp (disch := omega) [e2, e3, ei, lai]; done)); try dsimp only)
    | ((with_reducible apply ValW_un); (focus (simp (disch := omega) [e2, e3, ei, lai]; done)); try dsimp only)
    | ((with_reducible apply SpecA_i); (focus ((conv => lhs; simp (disch := omega) [e2, e3, ei, lai]); done)))
    | ((with_reducible apply ValA_i); (focus ((conv => lhs; simp (disch := omega) [e2, e3, ei, lai]); done)))
    | ((with_reducible apply stabA_i); (focus ((conv => lhs; simp (disch := omega) [e2, e3, ei, lai]); done)))
    | ((with_reducible apply fnA_i); (focus ((conv => lhs; simp (disch := omega) [e2, e3, ei, lai]); done)))
    | ((with_reducible apply ValA_fn); (focus ((conv => lhs; simp (disch := omega) [e2, e3, ei, lai]); done)))
    | ((with_reducible apply stabA_fn); (focus ((conv => lhs; simp (disch := omega) [e2, e3, ei, lai]); done)))
    | ((with_reducible apply appA_i); (focus ((conv => lhs; simp (disch := omega) [e2, e3, ei, lai]); done)); (focus ((conv => lhs; simp (disch := omega) [e2, e3, ei, lai]); done)))
    | ((with_reducible apply stab_do); (focus (simp (disch := omega) [e2, e3, ei, lai]; done)))
    | (simp (decide := true) only [sn9, sqW_nrm, sqW_exit, sqW_ret, inBlk_nrm, inBlk_ret, inBlk_same, inBlk_exit, if_true, if_false, retW_nrm, retW_ret])
    | (with_reducible refine n9_18_w _ _ _ ?_)
    | (with_reducible refine n9_36_w _ _ _ ?_)
    | (with_reducible refine n9_54_w _ _ _ ?_)
    | (with_reducible refine n9_71_w _ _ _ ?_))
  refine ⟨by simp, ?_⟩
  repeat' (first
    | ((with_reducible apply evs_of); (focus ((conv => lhs; simp (disch := omega) [e2, e3, ei, lai]); done)); try dsimp only)
    | ((with_reducible apply gW_do); (focus (simp (disch := omega) [e2, e3, ei, lai]; done)))
    | ((with_reducible apply gW_no); (focus (simp (disch := omega) [e2, e3, ei, lai]; done)); try dsimp only)
    | ((with_reducible apply gW_un); (focus (simp (disch := omega) [e2, e3, ei, lai]; done)); try dsimp only)
    | ((with_reducible apply cndW_T); (focus (simp (disch := omega) [e2, e3, ei, lai] <;> omega)))
    | ((with_reducible apply cndW_F); (focus (simp (disch := omega) [e2, e3, ei, lai] <;> omega)))
    | ((with_reducible apply stabP_i); (focus (simp (disch := omega) [e2, e3, ei, lai]; done)))
    | (with_reducible apply bothP_i)
    | (with_reducible apply wL_i)
    | ((with_reducible apply ValW_do); (focus (simp (disch := omega) [e2, e3, ei, lai]; done)); try dsimp only)
    | ((with_reducible apply ValW_no); (focus (simp (disch := omega) [e2, e3, ei, lai]; done)); try dsimp only)
    | ((with_reducible apply ValW_un); (focus (simp (disch := omega) [e2, e3, ei, lai]; done)); try dsimp only)
    | ((with_reducible apply SpecA_i); (focus ((conv => lhs; simp (disch := omega) [e2, e3, ei, lai]); done)))
    | ((with_reducible apply ValA_i); (focus ((conv => lhs; simp (disch := omega) [e2, e3, ei, lai]); done)))
    | ((with_reducible apply stabA_i); (focus ((conv => lhs; simp (disch := omega) [e2, e3, ei, lai]); done)))
    | ((with_reducible apply fnA_i); (focus ((conv => lhs; simp (disch := omega) [e2, e3, ei, lai]); done)))
    | ((with_reducible apply ValA_fn); (focus ((conv => lhs; simp (disch := omega) [e2, e3, ei, lai]); done)))
    | ((with_reducible apply stabA_fn); (focus ((conv => lhs; simp (disch := omega) [e2, e3, ei, lai]); done)))
    | ((with_reducible apply appA_i); (focus ((conv => lhs; simp (disch := omega) [e2, e3, ei, lai]); done)); (focus ((conv => lhs; simp (disch := omega) [e2, e3, ei, lai]); done)))
    | ((with_reducible apply stab_do); (focus (simp (disch := omega) [e2, e3, ei, lai]; done)))
    | (simp (decide := true) only [sn9, sqW_nrm, sqW_exit, sqW_ret, inBlk_nrm, inBlk_ret, inBlk_same, inBlk_exit, if_true, if_false, retW_nrm, retW_ret])
    | (with_reducible refine n9_18_w _ _ _ ?_)
    | (with_reducible refine n9_36_w _ _ _ ?_)
    | (with_reducible refine n9_54_w _ _ _ ?_)
    | (with_reducible refine n9_71_w _ _ _ ?_))
  have w_invites : a.invites = b.invites := List.ext_getElem? fun j => by
    by_cases hj' : j < a.invites.length
    · exact hj j hj'
    · rw [List.getElem?_eq_none (by omega), List.getElem?_eq_none (by omega)]
  clear hj
  -- asks
  refine loop_up a.asks.length (fun i st => ∃ env' t, st = ⟨env', h ++ (⟨eSt a at_ ap as_ ai aa ab, 0, .own⟩ :: ⟨eSt b bt bp bs bi ba bb, 0, .own⟩ :: t)⟩ ∧ env'.get 2 = .ptr h.length 0 [] tState ∧ env'.get 3 = .ptr (h.length + 1) 0 [] tState ∧ env'.get 11 = nat i ∧ ∀ j, j < i → a.asks[j]? = b.asks[j]?) ?_ ?_ ⟨_, _, rfl, by simp [*], by simp [*], by simp, fun j hj => absurd hj (by omega)⟩
  · rintro i st hi ⟨env', t, rfl, e2, e3, ei, hj⟩
    obtain ⟨p, p1, p2⟩ := ra.fa.idx (i := i) (by simpa using hi)
    obtain ⟨q, q1, q2⟩ := rb.fa.idx (i := i) (by simpa [← u8] using hi)
    simp only [List.getElem?_map, List.getElem?_eq_getElem hi, Option.map_some] at p2
    simp only [List.getElem?_map, List.getElem?_eq_getElem (show i < b.asks.length by omega), Option.map_some] at q2
    by_cases hab : a.asks[i] = b.asks[i]
    · repeat' (first
        | ((with_reducible apply evs_of); (focus ((conv => lhs; simp (disch := omega) [e2, e3, ei, p1, p2, q1, q2, hab, laa]); done)); try dsimp only)
        | ((with_reducible apply gW_do); (focus (simp (disch := omega) [e2, e3, ei, p1, p2, q1, q2, hab, laa]; done)))
        | ((with_reducible apply gW_no); (focus (simp (disch := omega) [e2, e3, ei, p1, p2, q1, q2, hab, laa]; done)); try dsimp only)
        | ((with_reducible apply gW_un); (focus (simp (disch := omega) [e2, e3, ei, p1, p2, q1, q2, hab, laa]; done)); try dsimp only)
        | ((with_reducible apply cndW_T); (focus (simp (disch := omega) [e2, e3, ei, p1, p2, q1, q2, hab, laa] <;> omega)))
        | ((with_reducible apply cndW_F); (focus (simp (disch := omega) [e2, e3, ei, p1, p2, q1, q2, hab, laa] <;> omega)))
        | ((with_reducible apply stabP_i); (focus (simp (disch := omega) [e2, e3, ei, p1, p2, q1, q2, hab, laa]; done)))
        | (with_reducible apply bothP_i)
        | (with_reducible apply wL_i)
        | ((with_reducible apply ValW_do); (focus (simp (disch := omega) [e2, e3, ei, p1, p2, q1, q2, hab, laa]; done)); try dsimp only)
        | ((with_reducible apply ValW_no); (focus (simp (disch := omega) [e2, e3, ei, p1, p2, q1, q2, hab, laa]; done)); try dsimp only)
        | ((with_reducible apply ValW_un); (focus (simp (disch := omega) [e2, e3, ei, p1, p2, q1, q2, hab, laa]; done)); try dsimp only)
        | ((with_reducible apply SpecA_i); (focus ((conv => lhs; simp (disch := omega) [e2, e3, ei, p1, p2, q1, q2, hab, laa]); done)))
        | ((with_reducible apply ValA_i); (focus ((conv => lhs; simp (disch := omega) [e2, e3, ei, p1, p2, q1, q2, hab, laa]); done)))
        | ((with_reducible apply stabA_i); (focus ((conv => lhs; simp (disch := omega) [e2, e3, ei, p1, p2, q1, q2, hab, laa]); done)))
        | ((with_reducible apply fnA_i); (focus ((conv => lhs; simp (disch := omega) [e2, e3, ei, p1, p2, q1, q2, hab, laa]); done)))
        | ((with_reducible apply ValA_fn); (focus ((conv => lhs; simp (disch := omega) [e2, e3, ei, p1, p2, q1, q2, hab, laa]); done)))
        | ((with_reducible apply stabA_fn); (focus ((conv => lhs; simp (disch := omega) [e2, e3, ei, p1, p2, q1, q2, hab, laa]); done)))
        | ((with_reducible apply appA_i); (focus ((conv => lhs; simp (disch := omega) [e2, e3, ei, p1, p2, q1, q2, hab, laa]); done)); (focus ((conv => lhs; simp (disch := omega) [e2, e3, ei, p1, p2, q1, q2, hab, laa]); done)))
        | ((with_reducible apply stab_do); (focus (simp (disch := omega) [e2, e3, ei, p1, p2, q1, q2, hab, laa]; done)))
        | (simp (decide := true) only [sn9, sqW_nrm, sqW_exit, sqW_ret, inBlk_nrm, inBlk_ret, inBlk_same, inBlk_exit, if_true, if_false, retW_nrm, retW_ret])
        | (with_reducible refine n9_18_w _ _ _ ?_)
        | (with_reducible refine n9_36_w _ _ _ ?_)
        | (with_reducible refine n9_54_w _ _ _ ?_)
        | (with_reducible refine n9_71_w _ _ _ ?_))
      all_goals
        refine .inl ⟨by simp, _, _, rfl, by simp [e2], by simp [e3], by simp, fun j hj' => ?_⟩
        by_cases hji : j = i
        · subst hji
          rw [List.getElem?_eq_getElem hi, List.getElem?_eq_getElem (by omega), hab]
        · exact hj j (by omega)
    · repeat' (first
        | ((with_reducible apply evs_of); (focus ((conv => lhs; simp (disch := omega) [e2, e3, ei, p1, p2, q1, q2, hab, laa]); done)); try dsimp only)
        | ((with_reducible apply gW_do); (focus (simp (disch := omega) [e2, e3, ei, p1, p2, q1, q2, hab, laa]; done)))
        | ((with_reducible apply gW_no); (focus (simp (disch := omega) [e2, e3, ei, p1, p2, q1, q2, hab, laa]; done)); try dsimp only)
        | ((with_reducible apply gW_un); (focus (simp (disch := omega) [e2, e3, ei, p1, p2, q1, q2, hab, laa]; done)); try dsimp only)
        | ((with_reducible apply cndW_T); (focus (simp (disch := omega) [e2, e3, ei, p1, p2, q1, q2, hab, laa] <;> omega)))
        | ((with_reducible apply cndW_F); (focus (simp (disch := omega) [e2, e3, ei, p1, p2, q1, q2, hab, laa] <;> omega)))
        | ((with_reducible apply stabP_i); (focus (simp (disch := omega) [e2, e3, ei, p1, p2, q1, q2, hab, laa]; done)))
        | (with_reducible apply bothP_i)
        | (with_reducible apply wL_i)
        | ((with_reducible apply ValW_do); (focus (simp (disch := omega) [e2, e3, ei, p1, p2, q1, q2, hab, laa]; done)); try dsimp only)
        | ((with_reducible apply ValW_no); (focus (simp (disch := omega) [e2, e3, ei, p1, p2, q1, q2, hab, laa]; done)); try dsimp only)
        | ((with_reducible apply ValW_un); (focus (simp (disch := omega) [e2, e3, ei, p1, p2, q1, q2, hab, laa]; done)); try dsimp only)
        | ((with_reducible apply SpecA_i); (focus ((conv => lhs; simp (disch := omega) [e2, e3, ei, p1, p2, q1, q2, hab, laa]); done)))
        | ((with_reducible apply ValA_i); (focus ((conv => lhs; simp (disch := omega) [e2, e3, ei, p1, p2, q1, q2, hab, laa]); done)))
        | ((with_reducible apply stabA_i); (focus ((conv => lhs; simp (disch := omega) [e2, e3, ei, p1, p2, q1, q2, hab, laa]); done)))
        | ((with_reducible apply fnA_i); (focus ((conv => lhs; simp (disch := omega) [e2, e3, ei, p1, p2, q1, q2, hab, laa]); done)))
        | ((with_reducible apply ValA_fn); (focus ((conv => lhs; simp (disch := omega) [e2, e3, ei, p1, p2, q1, q2, hab, laa]); done)))
        | ((with_reducible apply stabA_fn); (focus ((conv => lhs; simp (disch := omega) [e2, e3, ei, p1, p2, q1, q2, hab, laa]); done)))
        | ((with_reducible apply appA_i); (focus ((conv => lhs; simp (disch := omega) [e2, e3, ei, p1, p2, q1, q2, hab, laa]); done)); (focus ((conv => lhs; simp (disch := omega) [e2, e3, ei, p1, p2, q1, q2, hab, laa]); done)))
        | ((with_reducible apply stab_do); (focus (simp (disch := omega) [e2, e3, ei, p1, p2, q1, q2, hab, laa]; done)))
        | (simp (decide := true) only [sn9, sqW_nrm, sqW_exit, sqW_ret, inBlk_nrm, inBlk_ret, inBlk_same, inBlk_exit, if_true, if_false, retW_nrm, retW_ret])
        | (with_reducible refine n9_18_w _ _ _ ?_)
        | (with_reducible refine n9_36_w _ _ _ ?_)
        | (with_reducible refine n9_54_w _ _ _ ?_)
        | (with_reducible refine n9_71_w _ _ _ ?_))
      all_goals
        refine .inr ⟨by simp, ?_⟩
        repeat' (first
          | ((with_reducible apply evs_of); (focus ((conv => lhs; simp (disch := omega) [e2, e3, ei]); done)); try dsimp only)
          | ((with_reducible apply gW_do); (focus (simp (disch := omega) [e2, e3, ei]; done)))
          | ((with_reducible apply gW_no); (focus (simp (disch := omega) [e2, e3, ei]; done)); try dsimp only)
          | ((with_reducible apply gW_un); (focus (simp (disch := omega) [e2, e3, ei]; done)); try dsimp only)
          | ((with_reducible apply cndW_T); (focus (simp (disch := omega) [e2, e3, ei] <;> omega)))
          | ((with_reducible apply cndW_F); (focus (simp (disch := omega) [e2, e3, ei] <;> omega)))
          | ((with_reducible apply stabP_i); (focus (simp (disch := omega) [e2, e3, ei]; done)))
          | (with_reducible apply bothP_i)
          | (with_reducible apply wL_i)
          | ((with_reducible apply ValW_do); (focus (simp (disch := omega) [e2, e3, ei]; done)); try dsimp only)
          | ((with_reducible apply ValW_no); (focus (simp (disch := omega) [e2, e3, ei]; done)); try dsimp only)
          | ((with_reducible apply ValW_un); (focus (simp (disch := omega) [e2, e3, ei]; done)); try dsimp only)
          | ((with_reducible apply SpecA_i); (focus ((conv => lhs; simp (disch := omega) [e2, e3, ei]); done)))
          | ((with_reducible apply ValA_i); (focus ((conv => lhs; simp (disch := omega) [e2, e3, ei]); done)))
          | ((with_reducible apply stabA_i); (focus ((conv => lhs; simp (disch := omega) [e2, e3, ei]); done)))
          | ((with_reducible apply fnA_i); (focus ((conv => lhs; simp (disch := omega) [e2, e3, ei]); done)))
          | ((with_reducible apply ValA_fn); (focus ((conv => lhs; simp (disch := omega) [e2, e3, ei]); done)))
          | ((with_reducible apply stabA_fn); (focus ((conv => lhs; simp (disch := omega) [e2, e3, ei]); done)))
          | ((with_reducible apply appA_i); (focus ((conv => lhs; simp (disch := omega) [e2, e3, ei]); done)); (focus ((conv => lhs; simp (disch := omega) [e2, e3, ei]); done)))
          | ((with_reducible apply stab_do); (focus (simp (disch := omega) [e2, e3, ei]; done)))
          | (simp (decide := true) only [sn9, sqW_nrm, sqW_exit, sqW_ret, inBlk_nrm, inBlk_ret, inBlk_same, inBlk_exit, if_true, if_false, retW_nrm, retW_ret])
          | (with_reducible refine n9_18_w _ _ _ ?_)
          | (with_reducible refine n9_36_w _ _ _ ?_)
          | (with_reducible refine n9_54_w _ _ _ ?_)
          | (with_reducible refine n9_71_w _ _ _ ?_))
        refine fin_b (decide_eq_false ?_).symm
        rintro rfl
        exact hab rfl
  rintro st ⟨env', t, rfl, e2, e3, ei, hj⟩
  repeat' (first
    | ((with_reducible apply evs_of); (focus ((conv => lhs; simp (disch := omega) [e2, e3, ei, laa]); done)); try dsimp only)
    | ((with_reducible apply gW_do); (focus (simp (disch := omega) [e2, e3, ei, laa]; done)))
    | ((with_reducible apply gW_no); (focus (simp (disch := omega) [e2, e3, ei, laa]; done)); try dsimp only)
    | ((with_reducible apply gW_un); (focus (simp (disch := omega) [e2, e3, ei, laa]; done)); try dsimp only)
    | ((with_reducible apply cndW_T); (focus (simp (disch := omega) [e2, e3, ei, laa] <;> omega)))
    | ((with_reducible apply cndW_F); (focus (simp (disch := omega) [e2, e3, ei, laa] <;> omega)))
    | ((with_reducible apply stabP_i); (focus (simp (disch := omega) [e2, e3, ei, laa]; done)))
    | (with_reducible apply bothP_i)
    | (with_reducible apply wL_i)
    | ((with_reducible apply ValW_do); (focus (simp (disch := omega) [e2, e3, ei, laa]; done)); try dsimp only)
    | ((with_reducible apply ValW_no); (focus (simp (disch := omega) [e2, e3, ei, laa]; done)); try dsimp only)
    | ((with_reducible apply ValW_un); (focus (simp (disch := omega) [e2, e3, ei, laa]; done)); try dsimp only)
    | ((with_reducible apply SpecA_i); (focus ((conv => lhs; simp (disch := omega) [e2, e3, ei, laa]); done)))
    | ((with_reducible apply ValA_i); (focus ((conv => lhs; simp (disch := omega) [e2, e3, ei, laa]); done)))
    | ((with_reducible apply stabA_i); (focus ((conv => lhs; simp (disch := omega) [e2, e3, ei, laa]); done)))
    | ((with_reducible apply fnA_i); (focus ((conv => lhs; simp (disch := omega) [e2, e3, ei, laa]); done)))
    | ((with_reducible apply ValA_fn); (focus ((conv => lhs; simp (disch := omega) [e2, e3, ei, laa]); done)))
    | ((with_reducible apply stabA_fn); (focus ((conv => lhs; simp (disch := omega) [e2, e3, ei, laa]); done)))
    | ((with_reducible apply appA_i); (focus ((conv => lhs; simp (disch := omega) [e2, e3, ei, laa]); done)); (focus ((conv => lhs; simp (disch := omega) [e2, e3, ei, laa]); done)))
    | ((with_reducible apply stab_do); (focus (simp (disch := omega) [e2, e3, ei, laa]; done)))
    | (simp (decide := true) only [sn9, sqW_nrm, sqW_exit, sqW_ret, inBlk_nrm, inBlk_ret, inBlk_same, inBlk_exit, if_true, if_false, retW_nrm, retW_ret])
    | (with_reducible refine n9_18_w _ _ _ ?_)
    | (with_reducible refine n9_36_w _ _ _ ?_)
    | (with_reducible refine n9_54_w _ _ _ ?_)
    | (with_reducible refine n9_71_w _ _ _ ?_))
  refine ⟨by simp, ?_⟩
  repeat' (first
    | ((with_reducible apply evs_of); (focus ((conv => lhs; simp (disch := omega) [e2, e3, ei, laa]); done)); try dsimp only)
    | ((with_reducible apply gW_do); (focus (simp (disch := omega) [e2, e3, ei, laa]; done)))
    | ((with_reducible apply gW_no); (focus (simp (disch := omega) [e2, e3, ei, laa]; done)); try dsimp only)
    | ((with_reducible apply gW_un); (focus (simp (disch := omega) [e2, e3, ei, laa]; done)); try dsimp only)
    | ((with_reducible apply cndW_T); (focus (simp (disch := omega) [e2, e3, ei, laa] <;> omega)))
    | ((with_reducible apply cndW_F); (focus (simp (disch := omega) [e2, e3, ei, laa] <;> omega)))
    | ((with_reducible apply stabP_i); (focus (simp (disch := omega) [e2, e3, ei, laa]; done)))
    | (with_reducible apply bothP_i)
    | (with_reducible apply wL_i)
    | ((with_reducible apply ValW_do); (focus (simp (disch := omega) [e2, e3, ei, laa]; done)); try dsimp only)
    | ((with_reducible apply ValW_no); (focus (simp (disch := omega) [e2, e3, ei, laa]; done)); try dsimp only)
    | ((with_reducible apply ValW_un); (focus (simp (disch := omega) [e2, e3, ei, laa]; done)); try dsimp only)
    | ((with_reducible apply SpecA_i); (focus ((conv => lhs; simp (disch := omega) [e2, e3, ei, laa]); done)))
    | ((with_reducible apply ValA_i); (focus ((conv => lhs; simp (disch := omega) [e2, e3, ei, laa]); done)))
    | ((with_reducible apply stabA_i); (focus ((conv => lhs; simp (disch := omega) [e2, e3, ei, laa]); done)))
    | ((with_reducible apply fnA_i); (focus ((conv => lhs; simp (disch := omega) [e2, e3, ei, laa]); done)))
    | ((with_reducible apply ValA_fn); (focus ((conv => lhs; simp (disch := omega) [e2, e3, ei, laa]); done)))
    | ((with_reducible apply stabA_fn); (focus ((conv => lhs; simp (disch := omega) [e2, e3, ei, laa]); done)))
    | ((with_reducible apply appA_i); (focus ((conv => lhs; simp (disch := omega) [e2, e3, ei, laa]); done)); (focus ((conv => lhs; simp (disch := omega) [e2, e3, ei, laa]); done)))
    | ((with_reducible apply stab_do); (focus (simp (disch := omega) [e2, e3, ei, laa]; done)))
    | (simp (decide := true) only [sn9, sqW_nrm, sqW_exit, sqW_ret, inBlk_nrm, inBlk_ret, inBlk_same, inBlk_exit, if_true, if_false, retW_nrm, retW_ret])
    | (with_reducible refine n9_18_w _ _ _ ?_)
    | (with_reducible refine n9_36_w _ _ _ ?_)
    | (with_reducible refine n9_54_w _ _ _ ?_)
    | (with_reducible refine n9_71_w _ _ _ ?_))
  have w_asks : a.asks = b.asks := List.ext_getElem? fun j => by
    by_cases hj' : j < a.asks.length
    · exact hj j hj'
    · rw [List.getElem?_eq_none (by omega), List.getElem?_eq_none (by omega)]
  clear hj
  -- bans
  refine loop_up a.bans.length (fun i st => ∃ env' t, st = ⟨env', h ++ (⟨eSt a at_ ap as_ ai aa ab, 0, .own⟩ :: ⟨eSt b bt bp bs bi ba bb, 0, .own⟩ :: t)⟩ ∧ env'.get 2 = .ptr h.length 0 [] tState ∧ env'.get 3 = .ptr (h.length + 1) 0 [] tState ∧ env'.get 12 = nat i ∧ ∀ j, j < i → a.bans[j]? = b.bans[j]?) ?_ ?_ ⟨_, _, rfl, by simp [*], by simp [*], by simp, fun j hj => absurd hj (by omega)⟩
  · rintro i st hi ⟨env', t, rfl, e2, e3, ei, hj⟩
    obtain ⟨p, p1, p2⟩ := ra.fb.idx (i := i) (by simpa using hi)
    obtain ⟨q, q1, q2⟩ := rb.fb.idx (i := i) (by simpa [← hb] using hi)
    simp only [List.getElem?_map, List.getElem?_eq_getElem hi, Option.map_some] at p2
    simp only [List.getElem?_map, List.getElem?_eq_getElem (show i < b.bans.length by omega), Option.map_some] at q2
    by_cases hab : a.bans[i] = b.bans[i]
    · repeat' (first
        | ((with_reducible apply evs_of); (focus ((conv => lhs; simp (disch := omega) [e2, e3, ei, p1, p2, q1, q2, hab, lab]); done)); try dsimp only)
        | ((with_reducible apply gW_do); (focus (simp (disch := omega) [e2, e3, ei, p1, p2, q1, q2, hab, lab]; done)))
        | ((with_reducible apply gW_no); (focus (simp (disch := omega) [e2, e3, ei, p1, p2, q1, q2, hab, lab]; done)); try dsimp only)
        | ((with_reducible apply gW_un); (focus (simp (disch := omega) [e2, e3, ei, p1, p2, q1, q2, hab, lab]; done)); try dsimp only)
        | ((with_reducible apply cndW_T); (focus (simp (disch := omega) [e2, e3, ei, p1, p2, q1, q2, hab, lab] <;> omega)))
        | ((with_reducible apply cndW_F); (focus (simp (disch := omega) [e2, e3, ei, p1, p2, q1, q2, hab, lab] <;> omega)))
        | ((with_reducible apply stabP_i); (focus (simp (disch := omega) [e2, e3, ei, p1, p2, q1, q2, hab, lab]; done)))
        | (with_reducible apply bothP_i)
        | (with_reducible apply wL_i)
        | ((with_reducible apply ValW_do); (focus (simp (disch := omega) [e2, e3, ei, p1, p2, q1, q2, hab, lab]; done)); try dsimp only)
        | ((with_reducible apply ValW_no); (focus (simp (disch := omega) [e2, e3, ei, p1, p2, q1, q2, hab, lab]; done)); try dsimp only)
        | ((with_reducible apply ValW_un); (focus (simp (disch := omega) [e2, e3, ei, p1, p2, q1, q2, hab, lab]; done)); try dsimp only)
        | ((with_reducible apply SpecA_i); (focus ((conv => lhs; simp (disch := omega) [e2, e3, ei, p1, p2, q1, q2, hab, lab]); done)))
        | ((with_reducible apply ValA_i); (focus ((conv => lhs; simp (disch := omega) [e2, e3, ei, p1, p2, q1, q2, hab, lab]); done)))
        | ((with_reducible apply stabA_i); (focus ((conv => lhs; simp (disch := omega) [e2, e3, ei, p1, p2, q1, q2, hab, lab]); done)))
        | ((with_reducible apply fnA_i); (focus ((conv => lhs; simp (disch := omega) [e2, e3, ei, p1, p2, q1, q2, hab, lab]); done)))
        | ((with_reducible apply ValA_fn); (focus ((conv => lhs; simp (disch := omega) [e2, e3, ei, p1, p2, q1, q2, hab, lab]); done)))
        | ((with_reducible apply stabA_fn); (focus ((conv => lhs; simp (disch := omega) [e2, e3, ei, p1, p2, q1, q2, hab, lab]); done)))
        | ((with_reducible apply appA_i); (focus ((conv => lhs; simp (disch := omega) [e2, e3, ei, p1, p2, q1, q2, hab, lab]); done)); (focus ((conv => lhs; simp (disch := omega) [e2, e3, ei, p1, p2, q1, q2, hab, lab]); done)))
        | ((with_reducible apply stab_do); (focus (simp (disch := omega) [e2, e3, ei, p1, p2, q1, q2, hab, lab]; done)))
        | (simp (decide := true) only [sn9, sqW_nrm, sqW_exit, sqW_ret, inBlk_nrm, inBlk_ret, inBlk_same, inBlk_exit, if_true, if_false, retW_nrm, retW_ret])
        | (with_reducible refine n9_18_w _ _ _ ?_)
        | (with_reducible refine n9_36_w _ _ _ ?_)
        | (with_reducible refine n9_54_w _ _ _ ?_)
        | (with_reducible refine n9_71_w _ _ _ ?_))
      all_goals
        refine .inl ⟨by simp, _, _, rfl, by simp [e2], by simp [e3], by simp, fun j hj' => ?_⟩
        by_cases hji : j = i
        · subst hji
          rw [List.getElem?_eq_getElem hi, List.getElem?_eq_getElem (by omega), hab]
        · exact hj j (by omega)
    · repeat' (first
        | ((with_reducible apply evs_of); (focus ((conv => lhs; simp (disch := omega) [e2, e3, ei, p1, p2, q1, q2, hab, lab]); done)); try dsimp only)
        | ((with_reducible apply gW_do); (focus (simp (disch := omega) [e2, e3, ei, p1, p2, q1, q2, hab, lab]; done)))
        | ((with_reducible apply gW_no); (focus (simp (disch := omega) [e2, e3, ei, p1, p2, q1, q2, hab, lab]; done)); try dsimp only)
        | ((with_reducible apply gW_un); (focus (simp (disch := omega) [e2, e3, ei, p1, p2, q1, q2, hab, lab]; done)); try dsimp only)
        | ((with_reducible apply cndW_T); (focus (simp (disch := omega) [e2, e3, ei, p1, p2, q1, q2, hab, lab] <;> omega)))
        | ((with_reducible apply cndW_F); (focus (simp (disch := omega) [e2, e3, ei, p1, p2, q1, q2, hab, lab] <;> omega)))
        | ((with_reducible apply stabP_i); (focus (simp (disch := omega) [e2, e3, ei, p1, p2, q1, q2, hab, lab]; done)))
        | (with_reducible apply bothP_i)
        | (with_reducible apply wL_i)
        | ((with_reducible apply ValW_do); (focus (simp (disch := omega) [e2, e3, ei, p1, p2, q1, q2, hab, lab]; done)); try dsimp only)
        | ((with_reducible apply ValW_no); (focus (simp (disch := omega) [e2, e3, ei, p1, p2, q1, q2, hab, lab]; done)); try dsimp only)
        | ((with_reducible apply ValW_un); (focus (simp (disch := omega) [e2, e3, ei, p1, p2, q1, q2, hab, lab]; done)); try dsimp only)
        | ((with_reducible apply SpecA_i); (focus ((conv => lhs; simp (disch := omega) [e2, e3, ei, p1, p2, q1, q2, hab, lab]); done)))
        | ((with_reducible apply ValA_i); (focus ((conv => lhs; simp (disch := omega) [e2, e3, ei, p1, p2, q1, q2, hab, lab]); done)))
        | ((with_reducible apply stabA_i); (focus ((conv => lhs; simp (disch := omega) [e2, e3, ei, p1, p2, q1, q2, hab, lab]); done)))
        | ((with_reducible apply fnA_i); (focus ((conv => lhs; simp (disch := omega) [e2, e3, ei, p1, p2, q1, q2, hab, lab]); done)))
        | ((with_reducible apply ValA_fn); (focus ((conv => lhs; simp (disch := omega) [e2, e3, ei, p1, p2, q1, q2, hab, lab]); done)))
        | ((with_reducible apply stabA_fn); (focus ((conv => lhs; simp (disch := omega) [e2, e3, ei, p1, p2, q1, q2, hab, lab]); done)))
        | ((with_reducible apply appA_i); (focus ((conv => lhs; simp (disch := omega) [e2, e3, ei, p1, p2, q1, q2, hab, lab]); done)); (focus ((conv => lhs; simp (disch := omega) [e2, e3, ei, p1, p2, q1, q2, hab, lab]); done)))
        | ((with_reducible apply stab_do); (focus (simp (disch := omega) [e2, e3, ei, p1, p2, q1, q2, hab, lab]; done)))
        | (simp (decide := true) only [sn9, sqW_nrm, sqW_exit, sqW_ret, inBlk_nrm, inBlk_ret, inBlk_same, inBlk_exit, if_true, if_false, retW_nrm, retW_ret])
        | (with_reducible refine n9_18_w _ _ _ ?_)
        | (with_reducible refine n9_36_w _ _ _ ?_)
        | (with_reducible refine n9_54_w _ _ _ ?_)
        | (with_reducible refine n9_71_w _ _ _ ?_))
      all_goals
        refine .inr ⟨by simp, ?_⟩
        repeat' (first
          | ((with_reducible apply evs_of); (focus ((conv => lhs; simp (disch := omega) [e2, e3, ei]); done)); try dsimp only)
          | ((with_reducible apply gW_do); (focus (simp (disch := omega) [e2, e3, ei]; done)))
          | ((with_reducible apply gW_no); (focus (simp (disch := omega) [e2, e3, ei]; done)); try dsimp only)
          | ((with_reducible apply gW_un); (focus (simp (disch := omega) [e2, e3, ei]; done)); try dsimp only)
          | ((with_reducible apply cndW_T); (focus (simp (disch := omega) [e2, e3, ei] <;> omega)))
          | ((with_reducible apply cndW_F); (focus (simp (disch := omega) [e2, e3, ei] <;> omega)))
          | ((with_reducible apply stabP_i); (focus (simp (disch := omega) [e2, e3, ei]; done)))
          | (with_reducible apply bothP_i)
          | (with_reducible apply wL_i)
          | ((with_reducible apply ValW_do); (focus (simp (disch := omega) [e2, e3, ei]; done)); try dsimp only)
          | ((with_reducible apply ValW_no); (focus (simp (disch := omega) [e2, e3, ei]; done)); try dsimp only)
          | ((with_reducible apply ValW_un); (focus (simp (disch := omega) [e2, e3, ei]; done)); try dsimp only)
          | ((with_reducible apply SpecA_i); (focus ((conv => lhs; simp (disch := omega) [e2, e3, ei]); done)))
          | ((with_reducible apply ValA_i); (focus ((conv => lhs; simp (disch := omega) [e2, e3, ei]); done)))
          | ((with_reducible apply stabA_i); (focus ((conv => lhs; simp (disch := omega) [e2, e3, ei]); done)))
          | ((with_reducible apply fnA_i); (focus ((conv => lhs; simp (disch := omega) [e2, e3, ei]); done)))
          | ((with_reducible apply ValA_fn); (focus ((conv => lhs; simp (disch := omega) [e2, e3, ei]); done)))
          | ((with_reducible apply stabA_fn); (focus ((conv => lhs; simp (disch := omega) [e2, e3, ei]); done)))
          | ((with_reducible apply appA_i); (focus ((conv => lhs; simp (disch := omega) [e2, e3, ei]); done)); (focus ((conv => lhs; simp (disch := omega) [e2, e3, ei]); done)))
          | ((with_reducible apply stab_do); (focus (simp (disch := omega) [e2, e3, ei]; done)))
          | (simp (decide := true) only [sn9, sqW_nrm, sqW_exit, sqW_ret, inBlk_nrm, inBlk_ret, inBlk_same, inBlk_exit, if_true, if_false, retW_nrm, retW_ret])
          | (with_reducible refine n9_18_w _ _ _ ?_)
          | (with_reducible refine n9_36_w _ _ _ ?_)
          | (with_reducible refine n9_54_w _ _ _ ?_)
          | (with_reducible refine n9_71_w _ _ _ ?_))
        refine fin_b (decide_eq_false ?_).symm
        rintro rfl
        exact hab rfl
  rintro st ⟨env', t, rfl, e2, e3, ei, hj⟩
  repeat' (first
    | ((with_reducible apply evs_of); (focus ((conv => lhs; simp (disch := omega) [e2, e3, ei, lab]); done)); try dsimp only)
    | ((with_reducible apply gW_do); (focus (simp (disch := omega) [e2, e3, ei, lab]; done)))
    | ((with_reducible apply gW_no); (focus (simp (disch := omega) [e2, e3, ei, lab]; done)); try dsimp only)
    | ((with_reducible apply gW_un); (focus (simp (disch := omega) [e2, e3, ei, lab]; done)); try dsimp only)
    | ((with_reducible apply cndW_T); (focus (simp (disch := omega) [e2, e3, ei, lab] <;> omega)))
    | ((with_reducible apply cndW_F); (focus (simp (disch := omega) [e2, e3, ei, lab] <;> omega)))
    | ((with_reducible apply stabP_i); (focus (simp (disch := omega) [e2, e3, ei, lab]; done)))
    | (with_reducible apply bothP_i)
    | (with_reducible apply wL_i)
    | ((with_reducible apply ValW_do); (focus (simp (disch := omega) [e2, e3, ei, lab]; done)); try dsimp only)
    | ((with_reducible apply ValW_no); (focus (simp (disch := omega) [e2, e3, ei, lab]; done)); try dsimp only)
    | ((with_reducible apply ValW_un); (focus (simp (disch := omega) [e2, e3, ei, lab]; done)); try dsimp only)
    | ((with_reducible apply SpecA_i); (focus ((conv => lhs; simp (disch := omega) [e2, e3, ei, lab]); done)))
    | ((with_reducible apply ValA_i); (focus ((conv => lhs; simp (disch := omega) [e2, e3, ei, lab]); done)))
    | ((with_reducible apply stabA_i); (focus ((conv => lhs; simp (disch := omega) [e2, e3, ei, lab]); done)))
    | ((with_reducible apply fnA_i); (focus ((conv => lhs; simp (disch := omega) [e2, e3, ei, lab]); done)))
    | ((with_reducible apply ValA_fn); (focus ((conv => lhs; simp (disch := omega) [e2, e3, ei, lab]); done)))
    | ((with_reducible apply stabA_fn); (focus ((conv => lhs; simp (disch := omega) [e2, e3, ei, lab]); done)))
    | ((with_reducible apply appA_i); (focus ((conv => lhs; simp (disch := omega) [e2, e3, ei, lab]); done)); (focus ((conv => lhs; simp (disch := omega) [e2, e3, ei, lab]); done)))
    | ((with_reducible apply stab_do); (focus (simp (disch := omega) [e2, e3, ei, lab]; done)))
    | (simp (decide := true) only [sn9, sqW_nrm, sqW_exit, sqW_ret, inBlk_nrm, inBlk_ret, inBlk_same, inBlk_exit, if_true, if_false, retW_nrm, retW_ret])
    | (with_reducible refine n9_18_w _ _ _ ?_)
    | (with_reducible refine n9_36_w _ _ _ ?_)
    | (with_reducible refine n9_54_w _ _ _ ?_)
    | (with_reducible refine n9_71_w _ _ _ ?_))
  refine ⟨by simp, ?_⟩
  repeat' (first
    | ((with_reducible apply evs_of); (focus ((conv => lhs; simp (disch := omega) [e2, e3, ei, lab]); done)); try dsimp only)
    | ((with_reducible apply gW_do); (focus (simp (disch := omega) [e2, e3, ei, lab]; done)))
    | ((with_reducible apply gW_no); (focus (simp (disch := omega) [e2, e3, ei, lab]; done)); try dsimp only)
    | ((with_reducible apply gW_un); (focus (simp (disch := omega) [e2, e3, ei, lab]; done)); try dsimp only)
    | ((with_reducible apply cndW_T); (focus (simp (disch := omega) [e2, e3, ei, lab] <;> omega)))
    | ((with_reducible apply cndW_F); (focus (simp (disch := omega) [e2, e3, ei, lab] <;> omega)))
    | ((with_reducible apply stabP_i); (focus (simp (disch := omega) [e2, e3, ei, lab]; done)))
    | (with_reducible apply bothP_i)
    | (with_reducible apply wL_i)
    | ((with_reducible apply ValW_do); (focus (simp (disch := omega) [e2, e3, ei, lab]; done)); try dsimp only)
    | ((with_reducible apply ValW_no); (focus (simp (disch := omega) [e2, e3, ei, lab]; done)); try dsimp only)
    | ((with_reducible apply ValW_un); (focus (simp (disch := omega) [e2, e3, ei, lab]; done)); try dsimp only)
    | ((with_reducible apply SpecA_i); (focus ((conv => lhs; simp (disch := omega) [e2, e3, ei, lab]); done)))
    | ((with_reducible apply ValA_i); (focus ((conv => lhs; simp (disch := omega) [e2, e3, ei, lab]); done)))
    | ((with_reducible apply stabA_i); (focus ((conv => lhs; simp (disch := omega) [e2, e3, ei, lab]); done)))
    | ((with_reducible apply fnA_i); (focus ((conv => lhs; simp (disch := omega) [e2, e3, ei, lab]); done)))
    | ((with_reducible apply ValA_fn); (focus ((conv => lhs; simp (disch := omega) [e2, e3, ei, lab]); done)))
    | ((with_reducible apply stabA_fn); (focus ((conv => lhs; simp (disch := omega) [e2, e3, ei, lab]); done)))
    | ((with_reducible apply appA_i); (focus ((conv => lhs; simp (disch := omega) [e2, e3, ei, lab]); done)); (focus ((conv => lhs; simp (disch := omega) [e2, e3, ei, lab]); done)))
    | ((with_reducible apply stab_do); (focus (simp (disch := omega) [e2, e3, ei, lab]; done)))
    | (simp (decide := true) only [sn9, sqW_nrm, sqW_exit, sqW_ret, inBlk_nrm, inBlk_ret, inBlk_same, inBlk_exit, if_true, if_false, retW_nrm, retW_ret])
    | (with_reducible refine n9_18_w _ _ _ ?_)
    | (with_reducible refine n9_36_w _ _ _ ?_)
    | (with_reducible refine n9_54_w _ _ _ ?_)
    | (with_reducible refine n9_71_w _ _ _ ?_))
  have w_bans : a.bans = b.bans := List.ext_getElem? fun j => by
    by_cases hj' : j < a.bans.length
    · exact hj j hj'
    · rw [List.getElem?_eq_none (by omega), List.getElem?_eq_none (by omega)]
  clear hj
  refine fin_b (decide_eq_true ?_).symm
  cases a
  cases b
  simp_all

end Go.Vab

/- How the code of a function is read. Printed by wip/tools/gen2.py (own work). -/
namespace Go.Vab
open Go Go.Proofs
/-! vestry/vestryref18.SameAction -/
def cx11 : Ctx := ⟨fun _ _ _ => none, TT, 63, [5, 6, 7, 8, 9, 10, 11, 12, 13, 14, 15, 16, 17, 18, 19, 20, 21, 22, 23, 24, 25, 26, 27, 28, 29, 30, 31, 32, 33, 34, 35, 36, 37, 38, 39, 40, 41, 42, 43, 44, 45, 46, 47, 48, 49, 50, 51, 52, 53, 54, 55, 56, 57, 58, 59, 60, 61, 62]⟩
noncomputable def n11_0 : Code := bodyOf Try.f11
noncomputable def n11_1 : Code := cR n11_0
noncomputable def n11_2 : Code := cR n11_1
theorem n11_2_eq (Q : Ex × St → Prop) (s : St) : wC Try.prog cx11 n11_2 Q s = Q (.ret, s) := yE
theorem n11_1_eq (Q : Ex × St → Prop) (env : Env) (h : Heap) : wC Try.prog cx11 n11_1 Q ⟨env, h⟩ = (Evs (mFieldAddr tAction (env.get 2) 0) fun v0 => Evs (mLoad (.int .u32) v0 h) fun v1 => Evs (mFieldAddr tAction (env.get 3) 0) fun v2 => Evs (mLoad (.int .u32) v2 h) fun v3 => Evs (mBin .eql v1 v3) fun v4 => Evs (gv v4 true (mFieldAddr tAction (env.get 2) 1)) fun v6 => Evs (gv v4 true (mLoad (.int .u8) v6 h)) fun v7 => Evs (gv v4 true (mFieldAddr tAction (env.get 3) 1)) fun v8 => Evs (gv v4 true (mLoad (.int .u8) v8 h)) fun v9 => Evs (gv v4 true (mBin .eql v7 v9)) fun v10 => Evs (mPick v4 v10 (.bool false)) fun v11 => Evs (gv v11 true (mFieldAddr tAction (env.get 2) 2)) fun v13 => Evs (gv v11 true (mLoad tCipher v13 h)) fun v14 => Evs (gv v11 true (mFieldAddr tAction (env.get 3) 2)) fun v15 => Evs (gv v11 true (mLoad tCipher v15 h)) fun v16 => Evs (gv v11 true (mEq tCipher .eql v14 v16)) fun v17 => Evs (mPick v11 v17 (.bool false)) fun v18 => Evs (gv v18 true (mFieldAddr tAction (env.get 2) 3)) fun v20 => Evs (gv v18 true (mLoad (.arr 32 (.int .u8)) v20 h)) fun v21 => Evs (gv v18 true (mFieldAddr tAction (env.get 3) 3)) fun v22 => Evs (gv v18 true (mLoad (.arr 32 (.int .u8)) v22 h)) fun v23 => Evs (gv v18 true (mEq (.arr 32 (.int .u8)) .eql v21 v23)) fun v24 => Evs (mPick v18 v24 (.bool false)) fun v25 => Evs (gv v25 true (mFieldAddr tAction (env.get 2) 4)) fun v27 => Evs (gv v25 true (mLoad (.int .u8) v27 h)) fun v28 => Evs (gv v25 true (mFieldAddr tAction (env.get 3) 4)) fun v29 => Evs (gv v25 true (mLoad (.int .u8) v29 h)) fun v30 => Evs (gv v25 true (mBin .eql v28 v30)) fun v31 => Evs (mPick v25 v31 (.bool false)) fun v32 => Evs (gv v32 true (mFieldAddr tAction (env.get 2) 5)) fun v34 => Evs (gv v32 true (mLoad .cell v34 h)) fun v35 => Evs (gv v32 true (mStr v35 h)) fun v36 => Evs (gv v32 true (mFieldAddr tAction (env.get 3) 5)) fun v37 => Evs (gv v32 true (mLoad .cell v37 h)) fun v38 => Evs (gv v32 true (mStr v38 h)) fun v39 => Evs (gv v32 true (mBinT .eql v36 v39)) fun v40 => Evs (mPick v32 v40 (.bool false)) fun v41 => Evs (gv v41 true (mFieldAddr tAction (env.get 2) 6)) fun v43 => Evs (gv v41 true (mLoad tAccess v43 h)) fun v44 => Evs (gv v41 true (mFieldAddr tAction (env.get 3) 6)) fun v45 => Evs (gv v41 true (mLoad tAccess v45 h)) fun v46 => Evs (gv v41 true (mEq tAccess .eql v44 v46)) fun v47 => Evs (mPick v41 v47 (.bool false)) fun v48 => Evs (gv v48 true (mFieldAddr tAction (env.get 2) 7)) fun v50 => Evs (gv v48 true (mLoad .cell v50 h)) fun v51 => Evs (gv v48 true (mStr v51 h)) fun v52 => Evs (gv v48 true (mFieldAddr tAction (env.get 3) 7)) fun v53 => Evs (gv v48 true (mLoad .cell v53 h)) fun v54 => Evs (gv v48 true (mStr v54 h)) fun v55 => Evs (gv v48 true (mBinT .eql v52 v55)) fun v56 => Evs (mPick v48 v56 (.bool false)) fun v57 => wC Try.prog cx11 n11_2 Q ⟨(Env.put env 4 v57), h⟩) := (ySR 1 (cOps (cL n11_1)) (cR n11_1)).trans (by
  refine w0 ?_
  refine wP 5 fun v0 => ?_
  refine wP 6 fun v1 => ?_
  refine wP 7 fun v2 => ?_
  refine wP 8 fun v3 => ?_
  refine wP 9 fun v4 => ?_
  refine wT 10 v4 ?_
  refine wG 11 fun v6 => ?_
  refine wG 12 fun v7 => ?_
  refine wG 13 fun v8 => ?_
  refine wG 14 fun v9 => ?_
  refine wG 15 fun v10 => ?_
  refine wP 16 fun v11 => ?_
  refine wT 17 v11 ?_
  refine wG 18 fun v13 => ?_
  refine wG 19 fun v14 => ?_
  refine wG 20 fun v15 => ?_
  refine wG 21 fun v16 => ?_
  refine wG 22 fun v17 => ?_
  refine wP 23 fun v18 => ?_
  refine wT 24 v18 ?_
  refine wG 25 fun v20 => ?_
  refine wG 26 fun v21 => ?_
  refine wG 27 fun v22 => ?_
  refine wG 28 fun v23 => ?_
  refine wG 29 fun v24 => ?_
  refine wP 30 fun v25 => ?_
  refine wT 31 v25 ?_
  refine wG 32 fun v27 => ?_
  refine wG 33 fun v28 => ?_
  refine wG 34 fun v29 => ?_
  refine wG 35 fun v30 => ?_
  refine wG 36 fun v31 => ?_
  refine wP 37 fun v32 => ?_
  refine wT 38 v32 ?_
  refine wG 39 fun v34 => ?_
  refine wG 40 fun v35 => ?_
  refine wG 41 fun v36 => ?_
  refine wG 42 fun v37 => ?_
  refine wG 43 fun v38 => ?_
  refine wG 44 fun v39 => ?_
  refine wG 45 fun v40 => ?_
  refine wP 46 fun v41 => ?_
  refine wT 47 v41 ?_
  refine wG 48 fun v43 => ?_
  refine wG 49 fun v44 => ?_
  refine wG 50 fun v45 => ?_
  refine wG 51 fun v46 => ?_
  refine wG 52 fun v47 => ?_
  refine wP 53 fun v48 => ?_
  refine wT 54 v48 ?_
  refine wG 55 fun v50 => ?_
  refine wG 56 fun v51 => ?_
  refine wG 57 fun v52 => ?_
  refine wG 58 fun v53 => ?_
  refine wG 59 fun v54 => ?_
  refine wG 60 fun v55 => ?_
  refine wG 61 fun v56 => ?_
  refine wP 62 fun v57 => ?_
  refine wT 4 v57 ?_
  exact wE)
theorem n11_0_eq (Q : Ex × St → Prop) (env : Env) (h : Heap) : wC Try.prog cx11 n11_0 Q ⟨env, h⟩ = (Evs (mNew tAction (env.get 0) h) fun r0 => Evs (mNew tAction (env.get 1) r0.2) fun r1 => wC Try.prog cx11 n11_1 Q ⟨(Env.put (Env.put (Env.put env 2 r0.1) 3 r1.1) 4 (.bool false)), r1.2⟩) := (ySR 0 (cOps (cL n11_0)) (cR n11_0)).trans (by
  refine w0 ?_
  refine wH 2 fun r0 => ?_
  refine wH 3 fun r1 => ?_
  refine wT 4 (.bool false) ?_
  exact wE)
theorem fn11 : Try.prog.funcs[11]? = some Try.f11 := by kernel_rfl
theorem q11 {a0 a1 : AV} {h : Heap} {K : AV × Heap → Prop} (H : ∀ env : Env, env.get 0 = a0 → env.get 1 = a1 → wC Try.prog cx11 n11_0 (retW (fun s => (bnd (some (s.env.get 4)) fun v => bnd (some []) fun vs => some (v :: vs))) K) ⟨env, h⟩) : SpecQ Try.prog 11 [a0, a1] h K :=
  bodyW_sound (C := cx11) TT_ok mixed_ok fn11 (by kernel_rfl) (show _ = some n11_0 by kernel_rfl) (by kernel_rfl) (by kernel_rfl) (of_decide_eq_true (by kernel_rfl)) ((show wC Try.prog cx11 n11_0 (retW (fun s => resAll cx11 s Try.f11.results.toList) K) ⟨env0 cx11 [a0, a1], h⟩ = wC Try.prog cx11 n11_0 (retW (fun s => (bnd (some (s.env.get 4)) fun v => bnd (some []) fun vs => some (v :: vs))) K) ⟨[(0, a0), (1, a1), (2, .junk), (3, .junk), (4, .junk)], h⟩ by kernel_rfl).mpr (H [(0, a0), (1, a1), (2, .junk), (3, .junk), (4, .junk)] rfl rfl))
def sn11 := And.intro n11_2_eq (And.intro n11_1_eq (n11_0_eq))
-- draws: 
end Go.Vab

/-
  The document's SameAction, walked.
-/
namespace Go.Vab
open Go Go.Proofs

theorem c11 {h : Heap} {a b : Actn} {at_ ap bt bp : AV} (ra : ActR h a at_ ap) (rb : ActR h b bt bp) :
    SpecQ Try.prog 11 [eAct a at_ ap, eAct b bt bp] h fun r => r = (.bool (decide (a = b)), h) := by
  have ta := ra.cells
  have tb := rb.cells
  have s1 := fun l => (ra.t.app l).str
  have s2 := fun l => (ra.p.app l).str
  have s3 := fun l => (rb.t.app l).str
  have s4 := fun l => (rb.p.app l).str
  refine SpecQ.drop1 rfl (q11 fun env g0 g1 => ?_)
  repeat' (first
    | ((with_reducible apply evs_of); (focus ((conv => lhs; simp (disch := omega) [g0, g1, ta, tb, s1, s2, s3, s4]); done)); try dsimp only)
    | ((with_reducible apply gW_do); (focus (simp (disch := omega) [g0, g1, ta, tb, s1, s2, s3, s4]; done)))
    | ((with_reducible apply gW_no); (focus (simp (disch := omega) [g0, g1, ta, tb, s1, s2, s3, s4]; done)); try dsimp only)
    | ((with_reducible apply gW_un); (focus (simp (disch := omega) [g0, g1, ta, tb, s1, s2, s3, s4]; done)); try dsimp only)
    | ((with_reducible apply cndW_T); (focus (simp (disch := omega) [g0, g1, ta, tb, s1, s2, s3, s4] <;> omega)))
    | ((with_reducible apply cndW_F); (focus (simp (disch := omega) [g0, g1, ta, tb, s1, s2, s3, s4] <;> omega)))
    | ((with_reducible apply stabP_i); (focus (simp (disch := omega) [g0, g1, ta, tb, s1, s2, s3, s4]; done)))
    | (with_reducible apply bothP_i)
    | (with_reducible apply wL_i)
    | ((with_reducible apply ValW_do); (focus (simp (disch := omega) [g0, g1, ta, tb, s1, s2, s3, s4]; done)); try dsimp only)
    | ((with_reducible apply ValW_no); (focus (simp (disch := omega) [g0, g1, ta, tb, s1, s2, s3, s4]; done)); try dsimp only)
    | ((with_reducible apply ValW_un); (focus (simp (disch := omega) [g0, g1, ta, tb, s1, s2, s3, s4]; done)); try dsimp only)
    | ((with_reducible apply SpecA_i); (focus ((conv => lhs; simp (disch := omega) [g0, g1, ta, tb, s1, s2, s3, s4]); done)))
    | ((with_reducible apply ValA_i); (focus ((conv => lhs; simp (disch := omega) [g0, g1, ta, tb, s1, s2, s3, s4]); done)))
    | ((with_reducible apply stabA_i); (focus ((conv => lhs; simp (disch := omega) [g0, g1, ta, tb, s1, s2, s3, s4]); done)))
    | ((with_reducible apply fnA_i); (focus ((conv => lhs; simp (disch := omega) [g0, g1, ta, tb, s1, s2, s3, s4]); done)))
    | ((with_reducible apply ValA_fn); (focus ((conv => lhs; simp (disch := omega) [g0, g1, ta, tb, s1, s2, s3, s4]); done)))
    | ((with_reducible apply stabA_fn); (focus ((conv => lhs; simp (disch := omega) [g0, g1, ta, tb, s1, s2, s3, s4]); done)))
    | ((with_reducible apply appA_i); (focus ((conv => lhs; simp (disch := omega) [g0, g1, ta, tb, s1, s2, s3, s4]); done)); (focus ((conv => lhs; simp (disch := omega) [g0, g1, ta, tb, s1, s2, s3, s4]); done)))
    | ((with_reducible apply stab_do); (focus (simp (disch := omega) [g0, g1, ta, tb, s1, s2, s3, s4]; done)))
    | (simp (decide := true) only [sn11, sqW_nrm, sqW_exit, sqW_ret, inBlk_nrm, inBlk_ret, inBlk_same, inBlk_exit, if_true, if_false, retW_nrm, retW_ret])
    | ((with_reducible apply cndW_splitE); (focus ((conv => lhs; simp (disch := omega) [g0, g1, ta, tb, s1, s2, s3, s4]); done)); all_goals ((intro hb; try simp only [Bool.not_true, Bool.not_false] at hb); try simp only [hb]))
    | (with_reducible refine gv_split ?_ ?_ <;> (intro hb; try simp only [Bool.not_true, Bool.not_false] at hb) <;> try simp only [hb])
    | (with_reducible refine gW_split ?_ ?_ <;> (intro hb; try simp only [Bool.not_true, Bool.not_false] at hb) <;> try simp only [hb])
    | (with_reducible refine cndW_split ?_ ?_ <;> (intro hb; try simp only [Bool.not_true, Bool.not_false] at hb) <;> try simp only [hb])
    | (with_reducible refine ValW_split ?_ ?_ <;> (intro hb; try simp only [Bool.not_true, Bool.not_false] at hb) <;> try simp only [hb]))
  all_goals refine fin_b ?_
  all_goals (clear ra rb ta tb s1 s2 s3 s4; cases a; cases b; simp_all)

end Go.Vab

/- How the code of a function is read. Printed by wip/tools/gen2.py (own work). -/
namespace Go.Vab
open Go Go.Proofs
/-! bytes.Equal -/
def cx23 : Ctx := ⟨fun _ _ _ => none, TT, 10, [5, 6, 7, 8, 9]⟩
noncomputable def n23_0 : Code := bodyOf Try.f23
noncomputable def n23_1 : Code := cR n23_0
noncomputable def n23_2 : Code := cR n23_1
theorem n23_2_eq (Q : Ex × St → Prop) (s : St) : wC Try.prog cx23 n23_2 Q s = Q (.ret, s) := yE
theorem n23_1_eq (Q : Ex × St → Prop) (env : Env) (h : Heap) : wC Try.prog cx23 n23_1 Q ⟨env, h⟩ = (Evs (mStr (env.get 0) h) fun v1 => Evs (mStr (env.get 1) h) fun v3 => Evs (mBinT .eql v1 v3) fun v4 => wC Try.prog cx23 n23_2 Q ⟨(Env.put env 4 v4), h⟩) := (ySR 1 (cOps (cL n23_1)) (cR n23_1)).trans (by
  refine w0 ?_
  refine wT 5 (env.get 0) ?_
  refine wP 6 fun v1 => ?_
  refine wT 7 (env.get 1) ?_
  refine wP 8 fun v3 => ?_
  refine wP 9 fun v4 => ?_
  refine wT 4 v4 ?_
  exact wE)
theorem n23_0_eq (Q : Ex × St → Prop) (env : Env) (h : Heap) : wC Try.prog cx23 n23_0 Q ⟨env, h⟩ = ( wC Try.prog cx23 n23_1 Q ⟨(Env.put env 4 (.bool false)), h⟩) := (ySR 0 (cOps (cL n23_0)) (cR n23_0)).trans (by
  refine w0 ?_
  refine wT 4 (.bool false) ?_
  exact wE)
theorem fn23 : Try.prog.funcs[23]? = some Try.f23 := by kernel_rfl
theorem q23 {a0 a1 : AV} {h : Heap} {K : AV × Heap → Prop} (H : ∀ env : Env, env.get 0 = a0 → env.get 1 = a1 → wC Try.prog cx23 n23_0 (retW (fun s => (bnd (some (s.env.get 4)) fun v => bnd (some []) fun vs => some (v :: vs))) K) ⟨env, h⟩) : SpecQ Try.prog 23 [a0, a1] h K :=
  bodyW_sound (C := cx23) TT_ok mixed_ok fn23 (by kernel_rfl) (show _ = some n23_0 by kernel_rfl) (by kernel_rfl) (by kernel_rfl) (of_decide_eq_true (by kernel_rfl)) ((show wC Try.prog cx23 n23_0 (retW (fun s => resAll cx23 s Try.f23.results.toList) K) ⟨env0 cx23 [a0, a1], h⟩ = wC Try.prog cx23 n23_0 (retW (fun s => (bnd (some (s.env.get 4)) fun v => bnd (some []) fun vs => some (v :: vs))) K) ⟨[(0, a0), (1, a1), (2, .junk), (3, .junk), (4, .junk)], h⟩ by kernel_rfl).mpr (H [(0, a0), (1, a1), (2, .junk), (3, .junk), (4, .junk)] rfl rfl))
def sn23 := And.intro n23_2_eq (And.intro n23_1_eq (n23_0_eq))
-- draws: 
end Go.Vab

/-
  bytes.Equal, walked.
-/
namespace Go.Vab
open Go Go.Proofs

theorem c23 {h : Heap} {x y : AV} {a b : Bs} (hx : BytL h x a) (hy : BytL h y b) : SpecQ Try.prog 23 [x, y] h fun r => r = (.bool (decide (a = b)), h) := by
  have sx := hx.str
  have sy := hy.str
  refine SpecQ.drop1 rfl (q23 fun env g0 g1 => ?_)
  repeat' (first
    | ((with_reducible apply evs_of); (focus ((conv => lhs; simp (disch := omega) [g0, g1, sx, sy]); done)); try dsimp only)
    | ((with_reducible apply gW_do); (focus (simp (disch := omega) [g0, g1, sx, sy]; done)))
    | ((with_reducible apply gW_no); (focus (simp (disch := omega) [g0, g1, sx, sy]; done)); try dsimp only)
    | ((with_reducible apply gW_un); (focus (simp (disch := omega) [g0, g1, sx, sy]; done)); try dsimp only)
    | ((with_reducible apply cndW_T); (focus (simp (disch := omega) [g0, g1, sx, sy] <;> omega)))
    | ((with_reducible apply cndW_F); (focus (simp (disch := omega) [g0, g1, sx, sy] <;> omega)))
    | ((with_reducible apply stabP_i); (focus (simp (disch := omega) [g0, g1, sx, sy]; done)))
    | (with_reducible apply bothP_i)
    | (with_reducible apply wL_i)
    | ((with_reducible apply ValW_do); (focus (simp (disch := omega) [g0, g1, sx, sy]; done)); try dsimp only)
    | ((with_reducible apply ValW_no); (focus (simp (disch := omega) [g0, g1, sx, sy]; done)); try dsimp only)
    | ((with_reducible apply ValW_un); (focus (simp (disch := omega) [g0, g1, sx, sy]; done)); try dsimp only)
    | ((with_reducible apply SpecA_i); (focus ((conv => lhs; simp (disch := omega) [g0, g1, sx, sy]); done)))
    | ((with_reducible apply ValA_i); (focus ((conv => lhs; simp (disch := omega) [g0, g1, sx, sy]); done)))
    | ((with_reducible apply stabA_i); (focus ((conv => lhs; simp (disch := omega) [g0, g1, sx, sy]); done)))
    | ((with_reducible apply fnA_i); (focus ((conv => lhs; simp (disch := omega) [g0, g1, sx, sy]); done)))
    | ((with_reducible apply ValA_fn); (focus ((conv => lhs; simp (disch := omega) [g0, g1, sx, sy]); done)))
    | ((with_reducible apply stabA_fn); (focus ((conv => lhs; simp (disch := omega) [g0, g1, sx, sy]); done)))
    | ((with_reducible apply appA_i); (focus ((conv => lhs; simp (disch := omega) [g0, g1, sx, sy]); done)); (focus ((conv => lhs; simp (disch := omega) [g0, g1, sx, sy]); done)))
    | ((with_reducible apply stab_do); (focus (simp (disch := omega) [g0, g1, sx, sy]; done)))
    | (simp (decide := true) only [sn23, sqW_nrm, sqW_exit, sqW_ret, inBlk_nrm, inBlk_ret, inBlk_same, inBlk_exit, if_true, if_false, retW_nrm, retW_ret]))
  exact ⟨[], by simp [oneOrTuple]⟩

end Go.Vab

/- How the code of a function is read. Printed by wip/tools/gen2.py (own work). -/
namespace Go.Vab
open Go Go.Proofs
/-! vestry/forms.SameAction -/
def cx10 : Ctx := ⟨fun _ _ _ => none, TT, 59, [5, 6, 7, 8, 9, 10, 11, 12, 13, 14, 15, 16, 17, 18, 19, 20, 21, 22, 23, 24, 25, 26, 27, 28, 29, 30, 31, 32, 33, 34, 35, 36, 37, 38, 39, 40, 41, 42, 43, 44, 45, 46, 47, 48, 49, 50, 51, 52, 53, 54, 55, 56, 57, 58]⟩
noncomputable def n10_0 : Code := bodyOf Try.f10
noncomputable def n10_1 : Code := cR n10_0
noncomputable def n10_2 : Code := cR n10_1
theorem n10_2_eq (Q : Ex × St → Prop) (s : St) : wC Try.prog cx10 n10_2 Q s = Q (.ret, s) := yE
theorem n10_1_eq (Q : Ex × St → Prop) (env : Env) (h : Heap) : wC Try.prog cx10 n10_1 Q ⟨env, h⟩ = (Evs (mFieldAddr tAction (env.get 2) 0) fun v0 => Evs (mLoad (.int .u32) v0 h) fun v1 => Evs (mFieldAddr tAction (env.get 3) 0) fun v2 => Evs (mLoad (.int .u32) v2 h) fun v3 => Evs (mBin .eql v1 v3) fun v4 => Evs (gv v4 true (mFieldAddr tAction (env.get 2) 1)) fun v6 => Evs (gv v4 true (mLoad (.int .u8) v6 h)) fun v7 => Evs (gv v4 true (mFieldAddr tAction (env.get 3) 1)) fun v8 => Evs (gv v4 true (mLoad (.int .u8) v8 h)) fun v9 => Evs (gv v4 true (mBin .eql v7 v9)) fun v10 => Evs (mPick v4 v10 (.bool false)) fun v11 => Evs (gv v11 true (mFieldAddr tAction (env.get 2) 2)) fun v13 => Evs (gv v11 true (mLoad tCipher v13 h)) fun v14 => Evs (gv v11 true (mFieldAddr tAction (env.get 3) 2)) fun v15 => Evs (gv v11 true (mLoad tCipher v15 h)) fun v16 => Evs (gv v11 true (mEq tCipher .eql v14 v16)) fun v17 => Evs (mPick v11 v17 (.bool false)) fun v18 => Evs (gv v18 true (mFieldAddr tAction (env.get 2) 3)) fun v20 => Evs (gv v18 true (mLoad (.arr 32 (.int .u8)) v20 h)) fun v21 => Evs (gv v18 true (mFieldAddr tAction (env.get 3) 3)) fun v22 => Evs (gv v18 true (mLoad (.arr 32 (.int .u8)) v22 h)) fun v23 => Evs (gv v18 true (mEq (.arr 32 (.int .u8)) .eql v21 v23)) fun v24 => Evs (mPick v18 v24 (.bool false)) fun v25 => Evs (gv v25 true (mFieldAddr tAction (env.get 2) 4)) fun v27 => Evs (gv v25 true (mLoad (.int .u8) v27 h)) fun v28 => Evs (gv v25 true (mFieldAddr tAction (env.get 3) 4)) fun v29 => Evs (gv v25 true (mLoad (.int .u8) v29 h)) fun v30 => Evs (gv v25 true (mBin .eql v28 v30)) fun v31 => Evs (mPick v25 v31 (.bool false)) fun v32 => Evs (gv v32 true (mFieldAddr tAction (env.get 2) 5)) fun v34 => Evs (gv v32 true (mLoad .cell v34 h)) fun v35 => Evs (gv v32 true (mFieldAddr tAction (env.get 3) 5)) fun v36 => Evs (gv v32 true (mLoad .cell v36 h)) fun v37 => gW v32 true (SpecA Try.prog 23 [v35, v37] h) h fun r38 => Evs (mPick v32 r38.1 (.bool false)) fun v39 => Evs (gv v39 true (mFieldAddr tAction (env.get 2) 6)) fun v41 => Evs (gv v39 true (mLoad tAccess v41 r38.2)) fun v42 => Evs (gv v39 true (mFieldAddr tAction (env.get 3) 6)) fun v43 => Evs (gv v39 true (mLoad tAccess v43 r38.2)) fun v44 => Evs (gv v39 true (mEq tAccess .eql v42 v44)) fun v45 => Evs (mPick v39 v45 (.bool false)) fun v46 => Evs (gv v46 true (mFieldAddr tAction (env.get 2) 7)) fun v48 => Evs (gv v46 true (mLoad .cell v48 r38.2)) fun v49 => Evs (gv v46 true (mFieldAddr tAction (env.get 3) 7)) fun v50 => Evs (gv v46 true (mLoad .cell v50 r38.2)) fun v51 => gW v46 true (SpecA Try.prog 23 [v49, v51] r38.2) r38.2 fun r52 => Evs (mPick v46 r52.1 (.bool false)) fun v53 => wC Try.prog cx10 n10_2 Q ⟨(Env.put env 4 v53), r52.2⟩) := (ySR 1 (cOps (cL n10_1)) (cR n10_1)).trans (by
  refine w0 ?_
  refine wP 5 fun v0 => ?_
  refine wP 6 fun v1 => ?_
  refine wP 7 fun v2 => ?_
  refine wP 8 fun v3 => ?_
  refine wP 9 fun v4 => ?_
  refine wT 10 v4 ?_
  refine wG 11 fun v6 => ?_
  refine wG 12 fun v7 => ?_
  refine wG 13 fun v8 => ?_
  refine wG 14 fun v9 => ?_
  refine wG 15 fun v10 => ?_
  refine wP 16 fun v11 => ?_
  refine wT 17 v11 ?_
  refine wG 18 fun v13 => ?_
  refine wG 19 fun v14 => ?_
  refine wG 20 fun v15 => ?_
  refine wG 21 fun v16 => ?_
  refine wG 22 fun v17 => ?_
  refine wP 23 fun v18 => ?_
  refine wT 24 v18 ?_
  refine wG 25 fun v20 => ?_
  refine wG 26 fun v21 => ?_
  refine wG 27 fun v22 => ?_
  refine wG 28 fun v23 => ?_
  refine wG 29 fun v24 => ?_
  refine wP 30 fun v25 => ?_
  refine wT 31 v25 ?_
  refine wG 32 fun v27 => ?_
  refine wG 33 fun v28 => ?_
  refine wG 34 fun v29 => ?_
  refine wG 35 fun v30 => ?_
  refine wG 36 fun v31 => ?_
  refine wP 37 fun v32 => ?_
  refine wT 38 v32 ?_
  refine wG 39 fun v34 => ?_
  refine wG 40 fun v35 => ?_
  refine wG 41 fun v36 => ?_
  refine wG 42 fun v37 => ?_
  refine wH 43 fun r38 => ?_
  refine wP 44 fun v39 => ?_
  refine wT 45 v39 ?_
  refine wG 46 fun v41 => ?_
  refine wG 47 fun v42 => ?_
  refine wG 48 fun v43 => ?_
  refine wG 49 fun v44 => ?_
  refine wG 50 fun v45 => ?_
  refine wP 51 fun v46 => ?_
  refine wT 52 v46 ?_
  refine wG 53 fun v48 => ?_
  refine wG 54 fun v49 => ?_
  refine wG 55 fun v50 => ?_
  refine wG 56 fun v51 => ?_
  refine wH 57 fun r52 => ?_
  refine wP 58 fun v53 => ?_
  refine wT 4 v53 ?_
  exact wE)
theorem n10_0_eq (Q : Ex × St → Prop) (env : Env) (h : Heap) : wC Try.prog cx10 n10_0 Q ⟨env, h⟩ = (Evs (mNew tAction (env.get 0) h) fun r0 => Evs (mNew tAction (env.get 1) r0.2) fun r1 => wC Try.prog cx10 n10_1 Q ⟨(Env.put (Env.put (Env.put env 2 r0.1) 3 r1.1) 4 (.bool false)), r1.2⟩) := (ySR 0 (cOps (cL n10_0)) (cR n10_0)).trans (by
  refine w0 ?_
  refine wH 2 fun r0 => ?_
  refine wH 3 fun r1 => ?_
  refine wT 4 (.bool false) ?_
  exact wE)
theorem fn10 : Try.prog.funcs[10]? = some Try.f10 := by kernel_rfl
theorem q10 {a0 a1 : AV} {h : Heap} {K : AV × Heap → Prop} (H : ∀ env : Env, env.get 0 = a0 → env.get 1 = a1 → wC Try.prog cx10 n10_0 (retW (fun s => (bnd (some (s.env.get 4)) fun v => bnd (some []) fun vs => some (v :: vs))) K) ⟨env, h⟩) : SpecQ Try.prog 10 [a0, a1] h K :=
  bodyW_sound (C := cx10) TT_ok mixed_ok fn10 (by kernel_rfl) (show _ = some n10_0 by kernel_rfl) (by kernel_rfl) (by kernel_rfl) (of_decide_eq_true (by kernel_rfl)) ((show wC Try.prog cx10 n10_0 (retW (fun s => resAll cx10 s Try.f10.results.toList) K) ⟨env0 cx10 [a0, a1], h⟩ = wC Try.prog cx10 n10_0 (retW (fun s => (bnd (some (s.env.get 4)) fun v => bnd (some []) fun vs => some (v :: vs))) K) ⟨[(0, a0), (1, a1), (2, .junk), (3, .junk), (4, .junk)], h⟩ by kernel_rfl).mpr (H [(0, a0), (1, a1), (2, .junk), (3, .junk), (4, .junk)] rfl rfl))
def sn10 := And.intro n10_2_eq (And.intro n10_1_eq (n10_0_eq))
-- draws: 
end Go.Vab

/- How the code of a function is read. Printed by wip/tools/gen2.py (own work). -/
namespace Go.Vab
open Go Go.Proofs
/-! vestry/vestrylaw18.large -/
def cx6 : Ctx := ⟨fun _ _ _ => none, TT, 33, [4, 5, 6, 7, 8, 9, 10, 11, 12, 13, 14, 15, 16, 17, 18, 19, 20, 21, 22, 23, 24, 25, 26, 27, 28, 29, 30, 31, 32]⟩
noncomputable def n6_0 : Code := bodyOf Try.f6
noncomputable def n6_1 : Code := cR n6_0
noncomputable def n6_2 : Code := cR n6_1
noncomputable def n6_3 : Code := cR n6_2
theorem n6_3_eq (Q : Ex × St → Prop) (s : St) : wC Try.prog cx6 n6_3 Q s = Q (.ret, s) := yE
theorem n6_2_eq (Q : Ex × St → Prop) (env : Env) (h : Heap) : wC Try.prog cx6 n6_2 Q ⟨env, h⟩ = (Evs (mBin .gtr (env.get 3) (nat 400)) fun v1 => Evs (gv v1 false (mFieldAddr tState (env.get 1) 2)) fun v3 => Evs (gv v1 false (mLoad .cell v3 h)) fun v4 => Evs (gv v1 false (mLenS v4)) fun v5 => Evs (gv v1 false (mBin .gtr v5 (nat 5000))) fun v6 => Evs (mPick v1 (.bool true) v6) fun v7 => Evs (gv v7 false (mFieldAddr tState (env.get 1) 4)) fun v9 => Evs (gv v7 false (mLoad .cell v9 h)) fun v10 => Evs (gv v7 false (mLenS v10)) fun v11 => Evs (gv v7 false (mBin .gtr v11 (nat 5000))) fun v12 => Evs (mPick v7 (.bool true) v12) fun v13 => wC Try.prog cx6 n6_3 Q ⟨(Env.put env 2 v13), h⟩) := (ySR 2 (cOps (cL n6_2)) (cR n6_2)).trans (by
  refine w0 ?_
  refine wT 19 (env.get 3) ?_
  refine wP 20 fun v1 => ?_
  refine wT 21 v1 ?_
  refine wG 22 fun v3 => ?_
  refine wG 23 fun v4 => ?_
  refine wG 24 fun v5 => ?_
  refine wG 25 fun v6 => ?_
  refine wP 26 fun v7 => ?_
  refine wT 27 v7 ?_
  refine wG 28 fun v9 => ?_
  refine wG 29 fun v10 => ?_
  refine wG 30 fun v11 => ?_
  refine wG 31 fun v12 => ?_
  refine wP 32 fun v13 => ?_
  refine wT 2 v13 ?_
  exact wE)
theorem n6_1_eq (Q : Ex × St → Prop) (env : Env) (h : Heap) : wC Try.prog cx6 n6_1 Q ⟨env, h⟩ = (Evs (mFieldAddr tState (env.get 1) 5) fun v0 => Evs (mLoad .cell v0 h) fun v1 => Evs (mLenS v1) fun v2 => Evs (mFieldAddr tState (env.get 1) 6) fun v3 => Evs (mLoad .cell v3 h) fun v4 => Evs (mLenS v4) fun v5 => Evs (mBin .add v2 v5) fun v6 => Evs (mFieldAddr tState (env.get 1) 7) fun v7 => Evs (mLoad .cell v7 h) fun v8 => Evs (mLenS v8) fun v9 => Evs (mBin .add v6 v9) fun v10 => Evs (mFieldAddr tState (env.get 1) 8) fun v11 => Evs (mLoad .cell v11 h) fun v12 => Evs (mLenS v12) fun v13 => Evs (mBin .add v10 v13) fun v14 => wC Try.prog cx6 n6_2 Q ⟨(Env.put env 3 v14), h⟩) := (ySR 1 (cOps (cL n6_1)) (cR n6_1)).trans (by
  refine w0 ?_
  refine wP 4 fun v0 => ?_
  refine wP 5 fun v1 => ?_
  refine wP 6 fun v2 => ?_
  refine wP 7 fun v3 => ?_
  refine wP 8 fun v4 => ?_
  refine wP 9 fun v5 => ?_
  refine wP 10 fun v6 => ?_
  refine wP 11 fun v7 => ?_
  refine wP 12 fun v8 => ?_
  refine wP 13 fun v9 => ?_
  refine wP 14 fun v10 => ?_
  refine wP 15 fun v11 => ?_
  refine wP 16 fun v12 => ?_
  refine wP 17 fun v13 => ?_
  refine wP 18 fun v14 => ?_
  refine wT 3 v14 ?_
  exact wE)
theorem n6_0_eq (Q : Ex × St → Prop) (env : Env) (h : Heap) : wC Try.prog cx6 n6_0 Q ⟨env, h⟩ = (Evs (mNew tState (env.get 0) h) fun r0 => wC Try.prog cx6 n6_1 Q ⟨(Env.put (Env.put env 1 r0.1) 2 (.bool false)), r0.2⟩) := (ySR 0 (cOps (cL n6_0)) (cR n6_0)).trans (by
  refine w0 ?_
  refine wH 1 fun r0 => ?_
  refine wT 2 (.bool false) ?_
  exact wE)
theorem fn6 : Try.prog.funcs[6]? = some Try.f6 := by kernel_rfl
theorem q6 {a0 : AV} {h : Heap} {K : AV × Heap → Prop} (H : ∀ env : Env, env.get 0 = a0 → wC Try.prog cx6 n6_0 (retW (fun s => (bnd (some (s.env.get 2)) fun v => bnd (some []) fun vs => some (v :: vs))) K) ⟨env, h⟩) : SpecQ Try.prog 6 [a0] h K :=
  bodyW_sound (C := cx6) TT_ok mixed_ok fn6 (by kernel_rfl) (show _ = some n6_0 by kernel_rfl) (by kernel_rfl) (by kernel_rfl) (of_decide_eq_true (by kernel_rfl)) ((show wC Try.prog cx6 n6_0 (retW (fun s => resAll cx6 s Try.f6.results.toList) K) ⟨env0 cx6 [a0], h⟩ = wC Try.prog cx6 n6_0 (retW (fun s => (bnd (some (s.env.get 2)) fun v => bnd (some []) fun vs => some (v :: vs))) K) ⟨[(0, a0), (1, .junk), (2, .junk), (3, .junk)], h⟩ by kernel_rfl).mpr (H [(0, a0), (1, .junk), (2, .junk), (3, .junk)] rfl))
def sn6 := And.intro n6_3_eq (And.intro n6_2_eq (And.intro n6_1_eq (n6_0_eq)))
-- draws: 
end Go.Vab

/-
  forms.SameAction and 'large', walked.
-/
namespace Go.Vab
open Go Go.Proofs

theorem c10 {h : Heap} {a b : Actn} {at_ ap bt bp : AV} (ra : ActR h a at_ ap) (rb : ActR h b bt bp) :
    SpecQ Try.prog 10 [eAct a at_ ap, eAct b bt bp] h fun r => r = (.bool (decide (a = b)), h) := by
  have ta := ra.cells
  have tb := rb.cells
  refine SpecQ.drop1 rfl (q10 fun env g0 g1 => ?_)
  repeat' (first
    | ((with_reducible apply evs_of); (focus ((conv => lhs; simp (disch := omega) [g0, g1, ta, tb]); done)); try dsimp only)
    | ((with_reducible apply gW_do); (focus (simp (disch := omega) [g0, g1, ta, tb]; done)))
    | ((with_reducible apply gW_no); (focus (simp (disch := omega) [g0, g1, ta, tb]; done)); try dsimp only)
    | ((with_reducible apply gW_un); (focus (simp (disch := omega) [g0, g1, ta, tb]; done)); try dsimp only)
    | ((with_reducible apply cndW_T); (focus (simp (disch := omega) [g0, g1, ta, tb] <;> omega)))
    | ((with_reducible apply cndW_F); (focus (simp (disch := omega) [g0, g1, ta, tb] <;> omega)))
    | ((with_reducible apply stabP_i); (focus (simp (disch := omega) [g0, g1, ta, tb]; done)))
    | (with_reducible apply bothP_i)
    | (with_reducible apply wL_i)
    | ((with_reducible apply ValW_do); (focus (simp (disch := omega) [g0, g1, ta, tb]; done)); try dsimp only)
    | ((with_reducible apply ValW_no); (focus (simp (disch := omega) [g0, g1, ta, tb]; done)); try dsimp only)
    | ((with_reducible apply ValW_un); (focus (simp (disch := omega) [g0, g1, ta, tb]; done)); try dsimp only)
    | (with_reducible refine ValW_i (c23 (ra.t.app _) (rb.t.app _)) ?_; try dsimp only)
    | (with_reducible refine SpecQ.step (c23 (ra.t.app _) (rb.t.app _)) ?_; rintro _ rfl; try dsimp only)
    | (with_reducible refine stabP_i (c23 (ra.t.app _) (rb.t.app _)) ?_)
    | (with_reducible refine ValW_i (c23 (ra.p.app _) (rb.p.app _)) ?_; try dsimp only)
    | (with_reducible refine SpecQ.step (c23 (ra.p.app _) (rb.p.app _)) ?_; rintro _ rfl; try dsimp only)
    | (with_reducible refine stabP_i (c23 (ra.p.app _) (rb.p.app _)) ?_)
    | ((with_reducible apply SpecA_i); (focus ((conv => lhs; simp (disch := omega) [g0, g1, ta, tb]); done)))
    | ((with_reducible apply ValA_i); (focus ((conv => lhs; simp (disch := omega) [g0, g1, ta, tb]); done)))
    | ((with_reducible apply stabA_i); (focus ((conv => lhs; simp (disch := omega) [g0, g1, ta, tb]); done)))
    | ((with_reducible apply fnA_i); (focus ((conv => lhs; simp (disch := omega) [g0, g1, ta, tb]); done)))
    | ((with_reducible apply ValA_fn); (focus ((conv => lhs; simp (disch := omega) [g0, g1, ta, tb]); done)))
    | ((with_reducible apply stabA_fn); (focus ((conv => lhs; simp (disch := omega) [g0, g1, ta, tb]); done)))
    | ((with_reducible apply appA_i); (focus ((conv => lhs; simp (disch := omega) [g0, g1, ta, tb]); done)); (focus ((conv => lhs; simp (disch := omega) [g0, g1, ta, tb]); done)))
    | ((with_reducible apply stab_do); (focus (simp (disch := omega) [g0, g1, ta, tb]; done)))
    | (simp (decide := true) only [sn10, sqW_nrm, sqW_exit, sqW_ret, inBlk_nrm, inBlk_ret, inBlk_same, inBlk_exit, if_true, if_false, retW_nrm, retW_ret])
    | ((with_reducible apply cndW_splitE); (focus ((conv => lhs; simp (disch := omega) [g0, g1, ta, tb]); done)); all_goals ((intro hb; try simp only [Bool.not_true, Bool.not_false] at hb); try simp only [hb]))
    | (with_reducible refine gv_split ?_ ?_ <;> (intro hb; try simp only [Bool.not_true, Bool.not_false] at hb) <;> try simp only [hb])
    | (with_reducible refine gW_split ?_ ?_ <;> (intro hb; try simp only [Bool.not_true, Bool.not_false] at hb) <;> try simp only [hb])
    | (with_reducible refine cndW_split ?_ ?_ <;> (intro hb; try simp only [Bool.not_true, Bool.not_false] at hb) <;> try simp only [hb])
    | (with_reducible refine ValW_split ?_ ?_ <;> (intro hb; try simp only [Bool.not_true, Bool.not_false] at hb) <;> try simp only [hb]))
  all_goals refine fin_b ?_
  all_goals (clear ra rb ta tb; cases a; cases b; simp_all)

def largeS (s : Stt) : Bool := decide (400 < s.seats.length + s.invites.length + s.asks.length + s.bans.length) || decide (5000 < s.title.length) || decide (5000 < s.pass.length)
theorem c6 {h : Heap} {a : Stt} {at_ ap as_ ai aa ab : AV} (ra : StR h a at_ ap as_ ai aa ab) :
    SpecQ Try.prog 6 [eSt a at_ ap as_ ai aa ab] h fun r => r = (.bool (largeS a), h) := by
  have ta := ra.cells
  have l1 := ra.ft.len
  have l2 := ra.fp.len
  have l3 := ra.fs.len
  have l4 := ra.fi.len
  have l5 := ra.fa.len
  have l6 := ra.fb.len
  have b3 := ra.fs.bound
  have b4 := ra.fi.bound
  have b5 := ra.fa.bound
  have b6 := ra.fb.bound
  simp only [List.length_map] at l3 l4 l5 l6 b3 b4 b5 b6
  refine SpecQ.drop1 rfl (q6 fun env g0 => ?_)
  repeat' (first
    | ((with_reducible apply evs_of); (focus ((conv => lhs; simp (disch := omega) [g0, ta, l1, l2, l3, l4, l5, l6]); done)); try dsimp only)
    | ((with_reducible apply gW_do); (focus (simp (disch := omega) [g0, ta, l1, l2, l3, l4, l5, l6]; done)))
    | ((with_reducible apply gW_no); (focus (simp (disch := omega) [g0, ta, l1, l2, l3, l4, l5, l6]; done)); try dsimp only)
    | ((with_reducible apply gW_un); (focus (simp (disch := omega) [g0, ta, l1, l2, l3, l4, l5, l6]; done)); try dsimp only)
    | ((with_reducible apply cndW_T); (focus (simp (disch := omega) [g0, ta, l1, l2, l3, l4, l5, l6] <;> omega)))
    | ((with_reducible apply cndW_F); (focus (simp (disch := omega) [g0, ta, l1, l2, l3, l4, l5, l6] <;> omega)))
    | ((with_reducible apply stabP_i); (focus (simp (disch := omega) [g0, ta, l1, l2, l3, l4, l5, l6]; done)))
    | (with_reducible apply bothP_i)
    | (with_reducible apply wL_i)
    | ((with_reducible apply ValW_do); (focus (simp (disch := omega) [g0, ta, l1, l2, l3, l4, l5, l6]; done)); try dsimp only)
    | ((with_reducible apply ValW_no); (focus (simp (disch := omega) [g0, ta, l1, l2, l3, l4, l5, l6]; done)); try dsimp only)
    | ((with_reducible apply ValW_un); (focus (simp (disch := omega) [g0, ta, l1, l2, l3, l4, l5, l6]; done)); try dsimp only)
    | ((with_reducible apply SpecA_i); (focus ((conv => lhs; simp (disch := omega) [g0, ta, l1, l2, l3, l4, l5, l6]); done)))
    | ((with_reducible apply ValA_i); (focus ((conv => lhs; simp (disch := omega) [g0, ta, l1, l2, l3, l4, l5, l6]); done)))
    | ((with_reducible apply stabA_i); (focus ((conv => lhs; simp (disch := omega) [g0, ta, l1, l2, l3, l4, l5, l6]); done)))
    | ((with_reducible apply fnA_i); (focus ((conv => lhs; simp (disch := omega) [g0, ta, l1, l2, l3, l4, l5, l6]); done)))
    | ((with_reducible apply ValA_fn); (focus ((conv => lhs; simp (disch := omega) [g0, ta, l1, l2, l3, l4, l5, l6]); done)))
    | ((with_reducible apply stabA_fn); (focus ((conv => lhs; simp (disch := omega) [g0, ta, l1, l2, l3, l4, l5, l6]); done)))
    | ((with_reducible apply appA_i); (focus ((conv => lhs; simp (disch := omega) [g0, ta, l1, l2, l3, l4, l5, l6]); done)); (focus ((conv => lhs; simp (disch := omega) [g0, ta, l1, l2, l3, l4, l5, l6]); done)))
    | ((with_reducible apply stab_do); (focus (simp (disch := omega) [g0, ta, l1, l2, l3, l4, l5, l6]; done)))
    | (simp (decide := true) only [sn6, sqW_nrm, sqW_exit, sqW_ret, inBlk_nrm, inBlk_ret, inBlk_same, inBlk_exit, if_true, if_false, retW_nrm, retW_ret])
    | ((with_reducible apply cndW_splitE); (focus ((conv => lhs; simp (disch := omega) [g0, ta, l1, l2, l3, l4, l5, l6]); done)); all_goals ((intro hb; try simp only [Bool.not_true, Bool.not_false] at hb); try simp only [hb]))
    | (with_reducible refine gv_split ?_ ?_ <;> (intro hb; try simp only [Bool.not_true, Bool.not_false] at hb) <;> try simp only [hb])
    | (with_reducible refine gW_split ?_ ?_ <;> (intro hb; try simp only [Bool.not_true, Bool.not_false] at hb) <;> try simp only [hb])
    | (with_reducible refine cndW_split ?_ ?_ <;> (intro hb; try simp only [Bool.not_true, Bool.not_false] at hb) <;> try simp only [hb])
    | (with_reducible refine ValW_split ?_ ?_ <;> (intro hb; try simp only [Bool.not_true, Bool.not_false] at hb) <;> try simp only [hb]))
  all_goals refine fin_b ?_
  all_goals (clear ra ta l1 l2 l3 l4 l5 l6; unfold largeS; rw [Bool.eq_iff_iff]; simp only [Bool.or_eq_true, decide_eq_true_eq, decide_eq_false_iff_not, reduceCtorEq, false_iff, true_iff] at *; omega)

end Go.Vab

/- How the code of a function is read. Printed by wip/tools/gen2.py (own work). -/
namespace Go.Vab
open Go Go.Proofs
/-! slices.Equal[[]vestry/api.Seat,vestry/api.Seat] -/
def cx24 : Ctx := ⟨fun _ _ _ => none, TT, 26, [6, 7, 8, 9, 11, 15, 16, 17, 18, 19, 20, 21, 22, 23, 25]⟩
noncomputable def n24_0 : Code := bodyOf Try.f24
noncomputable def n24_1 : Code := cR n24_0
noncomputable def n24_2 : Code := cL n24_1
noncomputable def n24_3 : Code := cR n24_2
noncomputable def n24_4 : Code := cL n24_3
noncomputable def n24_5 : Code := cR n24_4
noncomputable def n24_6 : Code := cR n24_3
noncomputable def n24_7 : Code := cR n24_1
noncomputable def n24_8 : Code := cL n24_7
noncomputable def n24_9 : Code := cR n24_8
noncomputable def n24_10 : Code := cB n24_9
noncomputable def n24_11 : Code := cB n24_10
noncomputable def n24_12 : Code := cR n24_11
noncomputable def n24_13 : Code := cL n24_12
noncomputable def n24_14 : Code := cL n24_13
noncomputable def n24_15 : Code := cR n24_13
noncomputable def n24_16 : Code := cR n24_12
noncomputable def n24_17 : Code := cL n24_16
noncomputable def n24_18 : Code := cB n24_17
noncomputable def n24_19 : Code := cR n24_18
noncomputable def n24_20 : Code := cR n24_19
noncomputable def n24_21 : Code := cL n24_20
noncomputable def n24_22 : Code := cR n24_21
noncomputable def n24_23 : Code := cR n24_20
noncomputable def n24_24 : Code := cR n24_16
noncomputable def n24_25 : Code := cR n24_7
noncomputable def n24_26 : Code := cR n24_25
theorem n24_5_eq (Q : Ex × St → Prop) (s : St) : wC Try.prog cx24 n24_5 Q s = Q (.ret, s) := yE
theorem n24_4_eq (Q : Ex × St → Prop) (env : Env) (h : Heap) : wC Try.prog cx24 n24_4 Q ⟨env, h⟩ = ( wC Try.prog cx24 n24_5 Q ⟨(Env.put env 4 (.bool false)), h⟩) := (ySR 2 (cOps (cL n24_4)) (cR n24_4)).trans (by
  refine w0 ?_
  refine wT 4 (.bool false) ?_
  exact wE)
theorem n24_6_eq (Q : Ex × St → Prop) (s : St) : wC Try.prog cx24 n24_6 Q s = Q (.nrm, s) := yK
theorem n24_3_eq (Q : Ex × St → Prop) (s : St) : wC Try.prog cx24 n24_3 Q s = cndW (s.env.get 10) (wL Try.prog cx24 n24_4 Q s) (wL Try.prog cx24 n24_6 Q s) := yC 10 _ _
theorem n24_2_eq (Q : Ex × St → Prop) (env : Env) (h : Heap) : wC Try.prog cx24 n24_2 Q ⟨env, h⟩ = (Evs (mLenS (env.get 0)) fun v1 => Evs (mLenS (env.get 1)) fun v3 => Evs (mBin .neq v1 v3) fun v4 => wC Try.prog cx24 n24_3 Q ⟨(Env.put env 10 v4), h⟩) := (ySR 1 (cOps (cL n24_2)) (cR n24_2)).trans (by
  refine w0 ?_
  refine wT 6 (env.get 0) ?_
  refine wP 7 fun v1 => ?_
  refine wT 8 (env.get 1) ?_
  refine wP 9 fun v3 => ?_
  refine wP 10 fun v4 => ?_
  exact wE)
theorem n24_14_eq (Q : Ex × St → Prop) (s : St) : wC Try.prog cx24 n24_14 Q s = Q (.nrm, s) := yK
theorem n24_15_eq (Q : Ex × St → Prop) (s : St) : wC Try.prog cx24 n24_15 Q s = Q (.exit 0, s) := yX 0
theorem n24_13_eq (Q : Ex × St → Prop) (s : St) : wC Try.prog cx24 n24_13 Q s = cndW (s.env.get 14) (wL Try.prog cx24 n24_14 Q s) (wL Try.prog cx24 n24_15 Q s) := yC 14 _ _
theorem n24_22_eq (Q : Ex × St → Prop) (s : St) : wC Try.prog cx24 n24_22 Q s = Q (.ret, s) := yE
theorem n24_21_eq (Q : Ex × St → Prop) (env : Env) (h : Heap) : wC Try.prog cx24 n24_21 Q ⟨env, h⟩ = ( wC Try.prog cx24 n24_22 Q ⟨(Env.put env 4 (.bool false)), h⟩) := (ySR 7 (cOps (cL n24_21)) (cR n24_21)).trans (by
  refine w0 ?_
  refine wT 4 (.bool false) ?_
  exact wE)
theorem n24_23_eq (Q : Ex × St → Prop) (s : St) : wC Try.prog cx24 n24_23 Q s = Q (.nrm, s) := yK
theorem n24_20_eq (Q : Ex × St → Prop) (s : St) : wC Try.prog cx24 n24_20 Q s = cndW (s.env.get 24) (wL Try.prog cx24 n24_21 Q s) (wL Try.prog cx24 n24_23 Q s) := yC 24 _ _
theorem n24_19_ok : treeOk (cOps (cL n24_19)).toList [] [0, 0, 3, 7, 0, 0, 48, 112, 255] = true := by kernel_rfl
theorem n24_19_w (Q : Ex × St → Prop) (env : Env) (h : Heap) (H : Evs (mIdxS tSeat (env.get 0) (env.get 5)) fun v2_1 => Evs (mLoad tSeat v2_1 h) fun v3_2 => Evs (mIdxS tSeat (env.get 1) (env.get 5)) fun v6_3 => Evs (mLoad tSeat v6_3 h) fun v7_4 => Evs (mEq tSeat .neq v3_2 v7_4) fun v8_5 => wC Try.prog cx24 n24_20 Q ⟨(Env.put env 24 v8_5), h⟩) : wC Try.prog cx24 n24_19 Q ⟨env, h⟩ := by
  refine ySD 6 (cOps (cL n24_19)) (cR n24_19) [] [0, 0, 3, 7, 0, 0, 48, 112, 255] [0, 1, 2, 3, 4, 5, 6, 7, 8] n24_19_ok ?_
  refine rT 16 (env.get 0) ?_
  refine rT 17 (env.get 5) ?_
  refine rP H 18 fun v2_1 H => ?_
  refine rP H 19 fun v3_2 H => ?_
  refine rT 20 (env.get 1) ?_
  refine rT 21 (env.get 5) ?_
  refine rP H 22 fun v6_3 H => ?_
  refine rP H 23 fun v7_4 H => ?_
  refine rP H 24 fun v8_5 H => ?_
  refine rE ?_
  exact tE H
theorem n24_18_eq (Q : Ex × St → Prop) (env : Env) (h : Heap) : wC Try.prog cx24 n24_18 Q ⟨env, h⟩ = ( wC Try.prog cx24 n24_19 Q ⟨(Env.put env 5 (env.get 13)), h⟩) := (ySR 5 (cOps (cL n24_18)) (cR n24_18)).trans (by
  refine w0 ?_
  refine wT 15 (env.get 13) ?_
  refine wT 5 (env.get 13) ?_
  exact wE)
theorem n24_17_eq (Q : Ex × St → Prop) (s : St) : wC Try.prog cx24 n24_17 Q s = wC Try.prog cx24 n24_18 (fun r => Q (inBlk 1 r)) s := yB 1 _
theorem n24_24_eq (Q : Ex × St → Prop) (env : Env) (h : Heap) : wC Try.prog cx24 n24_24 Q ⟨env, h⟩ = (Evs (mBin .add (env.get 13) (nat 1)) fun v0 => Q (.nrm, ⟨(Env.put env 13 v0), h⟩)) := (yR 8 (cOps n24_24)).trans (by
  refine w0 ?_
  refine wP 25 fun v0 => ?_
  refine wT 13 v0 ?_
  exact wE)
theorem n24_16_eq (Q : Ex × St → Prop) (s : St) : wC Try.prog cx24 n24_16 Q s = wC Try.prog cx24 n24_17 (sqW (wC Try.prog cx24 n24_24) Q) s := yS _ _
theorem n24_12_eq (Q : Ex × St → Prop) (s : St) : wC Try.prog cx24 n24_12 Q s = wC Try.prog cx24 n24_13 (sqW (wC Try.prog cx24 n24_16) Q) s := yS _ _
theorem n24_11_eq (Q : Ex × St → Prop) (env : Env) (h : Heap) : wC Try.prog cx24 n24_11 Q ⟨env, h⟩ = (Evs (mBin .lss (env.get 13) (env.get 12)) fun v0 => wC Try.prog cx24 n24_12 Q ⟨(Env.put env 14 v0), h⟩) := (ySR 4 (cOps (cL n24_11)) (cR n24_11)).trans (by
  refine w0 ?_
  refine wP 14 fun v0 => ?_
  exact wE)
theorem n24_10_eq (Q : Ex × St → Prop) (s : St) : wC Try.prog cx24 n24_10 Q s = loopW (wC Try.prog cx24 n24_11) Q s := yL _
theorem n24_9_eq (Q : Ex × St → Prop) (s : St) : wC Try.prog cx24 n24_9 Q s = wC Try.prog cx24 n24_10 (fun r => Q (inBlk 0 r)) s := yB 0 _
theorem n24_8_eq (Q : Ex × St → Prop) (env : Env) (h : Heap) : wC Try.prog cx24 n24_8 Q ⟨env, h⟩ = (Evs (mLenS (env.get 0)) fun v1 => wC Try.prog cx24 n24_9 Q ⟨(Env.put (Env.put env 12 v1) 13 (nat 0)), h⟩) := (ySR 3 (cOps (cL n24_8)) (cR n24_8)).trans (by
  refine w0 ?_
  refine wT 11 (env.get 0) ?_
  refine wP 12 fun v1 => ?_
  refine wT 13 (nat 0) ?_
  exact wE)
theorem n24_26_eq (Q : Ex × St → Prop) (s : St) : wC Try.prog cx24 n24_26 Q s = Q (.ret, s) := yE
theorem n24_25_eq (Q : Ex × St → Prop) (env : Env) (h : Heap) : wC Try.prog cx24 n24_25 Q ⟨env, h⟩ = ( wC Try.prog cx24 n24_26 Q ⟨(Env.put env 4 (.bool true)), h⟩) := (ySR 9 (cOps (cL n24_25)) (cR n24_25)).trans (by
  refine w0 ?_
  refine wT 4 (.bool true) ?_
  exact wE)
theorem n24_7_eq (Q : Ex × St → Prop) (s : St) : wC Try.prog cx24 n24_7 Q s = wC Try.prog cx24 n24_8 (sqW (wC Try.prog cx24 n24_25) Q) s := yS _ _
theorem n24_1_eq (Q : Ex × St → Prop) (s : St) : wC Try.prog cx24 n24_1 Q s = wC Try.prog cx24 n24_2 (sqW (wC Try.prog cx24 n24_7) Q) s := yS _ _
theorem n24_0_eq (Q : Ex × St → Prop) (env : Env) (h : Heap) : wC Try.prog cx24 n24_0 Q ⟨env, h⟩ = ( wC Try.prog cx24 n24_1 Q ⟨(Env.put env 4 (.bool false)), h⟩) := (ySR 0 (cOps (cL n24_0)) (cR n24_0)).trans (by
  refine w0 ?_
  refine wT 4 (.bool false) ?_
  exact wE)
theorem fn24 : Try.prog.funcs[24]? = some Try.f24 := by kernel_rfl
theorem q24 {a0 a1 : AV} {h : Heap} {K : AV × Heap → Prop} (H : ∀ env : Env, env.get 0 = a0 → env.get 1 = a1 → wC Try.prog cx24 n24_0 (retW (fun s => (bnd (some (s.env.get 4)) fun v => bnd (some []) fun vs => some (v :: vs))) K) ⟨env, h⟩) : SpecQ Try.prog 24 [a0, a1] h K :=
  bodyW_sound (C := cx24) TT_ok mixed_ok fn24 (by kernel_rfl) (show _ = some n24_0 by kernel_rfl) (by kernel_rfl) (by kernel_rfl) (of_decide_eq_true (by kernel_rfl)) ((show wC Try.prog cx24 n24_0 (retW (fun s => resAll cx24 s Try.f24.results.toList) K) ⟨env0 cx24 [a0, a1], h⟩ = wC Try.prog cx24 n24_0 (retW (fun s => (bnd (some (s.env.get 4)) fun v => bnd (some []) fun vs => some (v :: vs))) K) ⟨[(0, a0), (1, a1), (2, .junk), (3, .junk), (4, .junk), (5, .junk), (10, .junk), (12, .junk), (13, .junk), (14, .junk), (24, .junk)], h⟩ by kernel_rfl).mpr (H [(0, a0), (1, a1), (2, .junk), (3, .junk), (4, .junk), (5, .junk), (10, .junk), (12, .junk), (13, .junk), (14, .junk), (24, .junk)] rfl rfl))
def sn24 := And.intro n24_5_eq (And.intro n24_4_eq (And.intro n24_6_eq (And.intro n24_3_eq (And.intro n24_2_eq (And.intro n24_14_eq (And.intro n24_15_eq (And.intro n24_13_eq (And.intro n24_22_eq (And.intro n24_21_eq (And.intro n24_23_eq (And.intro n24_20_eq (And.intro n24_18_eq (And.intro n24_17_eq (And.intro n24_24_eq (And.intro n24_16_eq (And.intro n24_12_eq (And.intro n24_11_eq (And.intro n24_10_eq (And.intro n24_9_eq (And.intro n24_8_eq (And.intro n24_26_eq (And.intro n24_25_eq (And.intro n24_7_eq (And.intro n24_1_eq (n24_0_eq)))))))))))))))))))))))))
-- draws: n24_19
end Go.Vab

/- How the code of a function is read. Printed by wip/tools/gen2.py (own work). -/
namespace Go.Vab
open Go Go.Proofs
/-! slices.Equal[[]vestry/api.Invite,vestry/api.Invite] -/
def cx25 : Ctx := ⟨fun _ _ _ => none, TT, 26, [6, 7, 8, 9, 11, 15, 16, 17, 18, 19, 20, 21, 22, 23, 25]⟩
noncomputable def n25_0 : Code := bodyOf Try.f25
noncomputable def n25_1 : Code := cR n25_0
noncomputable def n25_2 : Code := cL n25_1
noncomputable def n25_3 : Code := cR n25_2
noncomputable def n25_4 : Code := cL n25_3
noncomputable def n25_5 : Code := cR n25_4
noncomputable def n25_6 : Code := cR n25_3
noncomputable def n25_7 : Code := cR n25_1
noncomputable def n25_8 : Code := cL n25_7
noncomputable def n25_9 : Code := cR n25_8
noncomputable def n25_10 : Code := cB n25_9
noncomputable def n25_11 : Code := cB n25_10
noncomputable def n25_12 : Code := cR n25_11
noncomputable def n25_13 : Code := cL n25_12
noncomputable def n25_14 : Code := cL n25_13
noncomputable def n25_15 : Code := cR n25_13
noncomputable def n25_16 : Code := cR n25_12
noncomputable def n25_17 : Code := cL n25_16
noncomputable def n25_18 : Code := cB n25_17
noncomputable def n25_19 : Code := cR n25_18
noncomputable def n25_20 : Code := cR n25_19
noncomputable def n25_21 : Code := cL n25_20
noncomputable def n25_22 : Code := cR n25_21
noncomputable def n25_23 : Code := cR n25_20
noncomputable def n25_24 : Code := cR n25_16
noncomputable def n25_25 : Code := cR n25_7
noncomputable def n25_26 : Code := cR n25_25
theorem n25_5_eq (Q : Ex × St → Prop) (s : St) : wC Try.prog cx25 n25_5 Q s = Q (.ret, s) := yE
theorem n25_4_eq (Q : Ex × St → Prop) (env : Env) (h : Heap) : wC Try.prog cx25 n25_4 Q ⟨env, h⟩ = ( wC Try.prog cx25 n25_5 Q ⟨(Env.put env 4 (.bool false)), h⟩) := (ySR 2 (cOps (cL n25_4)) (cR n25_4)).trans (by
  refine w0 ?_
  refine wT 4 (.bool false) ?_
  exact wE)
theorem n25_6_eq (Q : Ex × St → Prop) (s : St) : wC Try.prog cx25 n25_6 Q s = Q (.nrm, s) := yK
theorem n25_3_eq (Q : Ex × St → Prop) (s : St) : wC Try.prog cx25 n25_3 Q s = cndW (s.env.get 10) (wL Try.prog cx25 n25_4 Q s) (wL Try.prog cx25 n25_6 Q s) := yC 10 _ _
theorem n25_2_eq (Q : Ex × St → Prop) (env : Env) (h : Heap) : wC Try.prog cx25 n25_2 Q ⟨env, h⟩ = (Evs (mLenS (env.get 0)) fun v1 => Evs (mLenS (env.get 1)) fun v3 => Evs (mBin .neq v1 v3) fun v4 => wC Try.prog cx25 n25_3 Q ⟨(Env.put env 10 v4), h⟩) := (ySR 1 (cOps (cL n25_2)) (cR n25_2)).trans (by
  refine w0 ?_
  refine wT 6 (env.get 0) ?_
  refine wP 7 fun v1 => ?_
  refine wT 8 (env.get 1) ?_
  refine wP 9 fun v3 => ?_
  refine wP 10 fun v4 => ?_
  exact wE)
theorem n25_14_eq (Q : Ex × St → Prop) (s : St) : wC Try.prog cx25 n25_14 Q s = Q (.nrm, s) := yK
theorem n25_15_eq (Q : Ex × St → Prop) (s : St) : wC Try.prog cx25 n25_15 Q s = Q (.exit 0, s) := yX 0
theorem n25_13_eq (Q : Ex × St → Prop) (s : St) : wC Try.prog cx25 n25_13 Q s = cndW (s.env.get 14) (wL Try.prog cx25 n25_14 Q s) (wL Try.prog cx25 n25_15 Q s) := yC 14 _ _
theorem n25_22_eq (Q : Ex × St → Prop) (s : St) : wC Try.prog cx25 n25_22 Q s = Q (.ret, s) := yE
theorem n25_21_eq (Q : Ex × St → Prop) (env : Env) (h : Heap) : wC Try.prog cx25 n25_21 Q ⟨env, h⟩ = ( wC Try.prog cx25 n25_22 Q ⟨(Env.put env 4 (.bool false)), h⟩) := (ySR 7 (cOps (cL n25_21)) (cR n25_21)).trans (by
  refine w0 ?_
  refine wT 4 (.bool false) ?_
  exact wE)
theorem n25_23_eq (Q : Ex × St → Prop) (s : St) : wC Try.prog cx25 n25_23 Q s = Q (.nrm, s) := yK
theorem n25_20_eq (Q : Ex × St → Prop) (s : St) : wC Try.prog cx25 n25_20 Q s = cndW (s.env.get 24) (wL Try.prog cx25 n25_21 Q s) (wL Try.prog cx25 n25_23 Q s) := yC 24 _ _
theorem n25_19_ok : treeOk (cOps (cL n25_19)).toList [] [0, 0, 3, 7, 0, 0, 48, 112, 255] = true := by kernel_rfl
theorem n25_19_w (Q : Ex × St → Prop) (env : Env) (h : Heap) (H : Evs (mIdxS tInvite (env.get 0) (env.get 5)) fun v2_1 => Evs (mLoad tInvite v2_1 h) fun v3_2 => Evs (mIdxS tInvite (env.get 1) (env.get 5)) fun v6_3 => Evs (mLoad tInvite v6_3 h) fun v7_4 => Evs (mEq tInvite .neq v3_2 v7_4) fun v8_5 => wC Try.prog cx25 n25_20 Q ⟨(Env.put env 24 v8_5), h⟩) : wC Try.prog cx25 n25_19 Q ⟨env, h⟩ := by
  refine ySD 6 (cOps (cL n25_19)) (cR n25_19) [] [0, 0, 3, 7, 0, 0, 48, 112, 255] [0, 1, 2, 3, 4, 5, 6, 7, 8] n25_19_ok ?_
  refine rT 16 (env.get 0) ?_
  refine rT 17 (env.get 5) ?_
  refine rP H 18 fun v2_1 H => ?_
  refine rP H 19 fun v3_2 H => ?_
  refine rT 20 (env.get 1) ?_
  refine rT 21 (env.get 5) ?_
  refine rP H 22 fun v6_3 H => ?_
  refine rP H 23 fun v7_4 H => ?_
  refine rP H 24 fun v8_5 H => ?_
  refine rE ?_
  exact tE H
theorem n25_18_eq (Q : Ex × St → Prop) (env : Env) (h : Heap) : wC Try.prog cx25 n25_18 Q ⟨env, h⟩ = ( wC Try.prog cx25 n25_19 Q ⟨(Env.put env 5 (env.get 13)), h⟩) := (ySR 5 (cOps (cL n25_18)) (cR n25_18)).trans (by
  refine w0 ?_
  refine wT 15 (env.get 13) ?_
  refine wT 5 (env.get 13) ?_
  exact wE)
theorem n25_17_eq (Q : Ex × St → Prop) (s : St) : wC Try.prog cx25 n25_17 Q s = wC Try.prog cx25 n25_18 (fun r => Q (inBlk 1 r)) s := yB 1 _
theorem n25_24_eq (Q : Ex × St → Prop) (env : Env) (h : Heap) : wC Try.prog cx25 n25_24 Q ⟨env, h⟩ = (Evs (mBin .add (env.get 13) (nat 1)) fun v0 => Q (.nrm, ⟨(Env.put env 13 v0), h⟩)) := (yR 8 (cOps n25_24)).trans (by
  refine w0 ?_
  refine wP 25 fun v0 => ?_
  refine wT 13 v0 ?_
  exact wE)
theorem n25_16_eq (Q : Ex × St → Prop) (s : St) : wC Try.prog cx25 n25_16 Q s = wC Try.prog cx25 n25_17 (sqW (wC Try.prog cx25 n25_24) Q) s := yS _ _
theorem n25_12_eq (Q : Ex × St → Prop) (s : St) : wC Try.prog cx25 n25_12 Q s = wC Try.prog cx25 n25_13 (sqW (wC Try.prog cx25 n25_16) Q) s := yS _ _
theorem n25_11_eq (Q : Ex × St → Prop) (env : Env) (h : Heap) : wC Try.prog cx25 n25_11 Q ⟨env, h⟩ = (Evs (mBin .lss (env.get 13) (env.get 12)) fun v0 => wC Try.prog cx25 n25_12 Q ⟨(Env.put env 14 v0), h⟩) := (ySR 4 (cOps (cL n25_11)) (cR n25_11)).trans (by
  refine w0 ?_
  refine wP 14 fun v0 => ?_
  exact wE)
theorem n25_10_eq (Q : Ex × St → Prop) (s : St) : wC Try.prog cx25 n25_10 Q s = loopW (wC Try.prog cx25 n25_11) Q s := yL _
theorem n25_9_eq (Q : Ex × St → Prop) (s : St) : wC Try.prog cx25 n25_9 Q s = wC Try.prog cx25 n25_10 (fun r => Q (inBlk 0 r)) s := yB 0 _
theorem n25_8_eq (Q : Ex × St → Prop) (env : Env) (h : Heap) : wC Try.prog cx25 n25_8 Q ⟨env, h⟩ = (Evs (mLenS (env.get 0)) fun v1 => wC Try.prog cx25 n25_9 Q ⟨(Env.put (Env.put env 12 v1) 13 (nat 0)), h⟩) := (ySR 3 (cOps (cL n25_8)) (cR n25_8)).trans (by
  refine w0 ?_
  refine wT 11 (env.get 0) ?_
  refine wP 12 fun v1 => ?_
  refine wT 13 (nat 0) ?_
  exact wE)
theorem n25_26_eq (Q : Ex × St → Prop) (s : St) : wC Try.prog cx25 n25_26 Q s = Q (.ret, s) := yE
theorem n25_25_eq (Q : Ex × St → Prop) (env : Env) (h : Heap) : wC Try.prog cx25 n25_25 Q ⟨env, h⟩ = ( wC Try.prog cx25 n25_26 Q ⟨(Env.put env 4 (.bool true)), h⟩) := (ySR 9 (cOps (cL n25_25)) (cR n25_25)).trans (by
  refine w0 ?_
  refine wT 4 (.bool true) ?_
  exact wE)
theorem n25_7_eq (Q : Ex × St → Prop) (s : St) : wC Try.prog cx25 n25_7 Q s = wC Try.prog cx25 n25_8 (sqW (wC Try.prog cx25 n25_25) Q) s := yS _ _
theorem n25_1_eq (Q : Ex × St → Prop) (s : St) : wC Try.prog cx25 n25_1 Q s = wC Try.prog cx25 n25_2 (sqW (wC Try.prog cx25 n25_7) Q) s := yS _ _
theorem n25_0_eq (Q : Ex × St → Prop) (env : Env) (h : Heap) : wC Try.prog cx25 n25_0 Q ⟨env, h⟩ = ( wC Try.prog cx25 n25_1 Q ⟨(Env.put env 4 (.bool false)), h⟩) := (ySR 0 (cOps (cL n25_0)) (cR n25_0)).trans (by
  refine w0 ?_
  refine wT 4 (.bool false) ?_
  exact wE)
theorem fn25 : Try.prog.funcs[25]? = some Try.f25 := by kernel_rfl
theorem q25 {a0 a1 : AV} {h : Heap} {K : AV × Heap → Prop} (H : ∀ env : Env, env.get 0 = a0 → env.get 1 = a1 → wC Try.prog cx25 n25_0 (retW (fun s => (bnd (some (s.env.get 4)) fun v => bnd (some []) fun vs => some (v :: vs))) K) ⟨env, h⟩) : SpecQ Try.prog 25 [a0, a1] h K :=
  bodyW_sound (C := cx25) TT_ok mixed_ok fn25 (by kernel_rfl) (show _ = some n25_0 by kernel_rfl) (by kernel_rfl) (by kernel_rfl) (of_decide_eq_true (by kernel_rfl)) ((show wC Try.prog cx25 n25_0 (retW (fun s => resAll cx25 s Try.f25.results.toList) K) ⟨env0 cx25 [a0, a1], h⟩ = wC Try.prog cx25 n25_0 (retW (fun s => (bnd (some (s.env.get 4)) fun v => bnd (some []) fun vs => some (v :: vs))) K) ⟨[(0, a0), (1, a1), (2, .junk), (3, .junk), (4, .junk), (5, .junk), (10, .junk), (12, .junk), (13, .junk), (14, .junk), (24, .junk)], h⟩ by kernel_rfl).mpr (H [(0, a0), (1, a1), (2, .junk), (3, .junk), (4, .junk), (5, .junk), (10, .junk), (12, .junk), (13, .junk), (14, .junk), (24, .junk)] rfl rfl))
def sn25 := And.intro n25_5_eq (And.intro n25_4_eq (And.intro n25_6_eq (And.intro n25_3_eq (And.intro n25_2_eq (And.intro n25_14_eq (And.intro n25_15_eq (And.intro n25_13_eq (And.intro n25_22_eq (And.intro n25_21_eq (And.intro n25_23_eq (And.intro n25_20_eq (And.intro n25_18_eq (And.intro n25_17_eq (And.intro n25_24_eq (And.intro n25_16_eq (And.intro n25_12_eq (And.intro n25_11_eq (And.intro n25_10_eq (And.intro n25_9_eq (And.intro n25_8_eq (And.intro n25_26_eq (And.intro n25_25_eq (And.intro n25_7_eq (And.intro n25_1_eq (n25_0_eq)))))))))))))))))))))))))
-- draws: n25_19
end Go.Vab

/- How the code of a function is read. Printed by wip/tools/gen2.py (own work). -/
namespace Go.Vab
open Go Go.Proofs
/-! slices.Equal[[]vestry/api.Ask,vestry/api.Ask] -/
def cx26 : Ctx := ⟨fun _ _ _ => none, TT, 26, [6, 7, 8, 9, 11, 15, 16, 17, 18, 19, 20, 21, 22, 23, 25]⟩
noncomputable def n26_0 : Code := bodyOf Try.f26
noncomputable def n26_1 : Code := cR n26_0
noncomputable def n26_2 : Code := cL n26_1
noncomputable def n26_3 : Code := cR n26_2
noncomputable def n26_4 : Code := cL n26_3
noncomputable def n26_5 : Code := cR n26_4
noncomputable def n26_6 : Code := cR n26_3
noncomputable def n26_7 : Code := cR n26_1
noncomputable def n26_8 : Code := cL n26_7
noncomputable def n26_9 : Code := cR n26_8
noncomputable def n26_10 : Code := cB n26_9
noncomputable def n26_11 : Code := cB n26_10
noncomputable def n26_12 : Code := cR n26_11
noncomputable def n26_13 : Code := cL n26_12
noncomputable def n26_14 : Code := cL n26_13
noncomputable def n26_15 : Code := cR n26_13
noncomputable def n26_16 : Code := cR n26_12
noncomputable def n26_17 : Code := cL n26_16
noncomputable def n26_18 : Code := cB n26_17
noncomputable def n26_19 : Code := cR n26_18
noncomputable def n26_20 : Code := cR n26_19
noncomputable def n26_21 : Code := cL n26_20
noncomputable def n26_22 : Code := cR n26_21
noncomputable def n26_23 : Code := cR n26_20
noncomputable def n26_24 : Code := cR n26_16
noncomputable def n26_25 : Code := cR n26_7
noncomputable def n26_26 : Code := cR n26_25
theorem n26_5_eq (Q : Ex × St → Prop) (s : St) : wC Try.prog cx26 n26_5 Q s = Q (.ret, s) := yE
theorem n26_4_eq (Q : Ex × St → Prop) (env : Env) (h : Heap) : wC Try.prog cx26 n26_4 Q ⟨env, h⟩ = ( wC Try.prog cx26 n26_5 Q ⟨(Env.put env 4 (.bool false)), h⟩) := (ySR 2 (cOps (cL n26_4)) (cR n26_4)).trans (by
  refine w0 ?_
  refine wT 4 (.bool false) ?_
  exact wE)
theorem n26_6_eq (Q : Ex × St → Prop) (s : St) : wC Try.prog cx26 n26_6 Q s = Q (.nrm, s) := yK
theorem n26_3_eq (Q : Ex × St → Prop) (s : St) : wC Try.prog cx26 n26_3 Q s = cndW (s.env.get 10) (wL Try.prog cx26 n26_4 Q s) (wL Try.prog cx26 n26_6 Q s) := yC 10 _ _
theorem n26_2_eq (Q : Ex × St → Prop) (env : Env) (h : Heap) : wC Try.prog cx26 n26_2 Q ⟨env, h⟩ = (Evs (mLenS (env.get 0)) fun v1 => Evs (mLenS (env.get 1)) fun v3 => Evs (mBin .neq v1 v3) fun v4 => wC Try.prog cx26 n26_3 Q ⟨(Env.put env 10 v4), h⟩) := (ySR 1 (cOps (cL n26_2)) (cR n26_2)).trans (by
  refine w0 ?_
  refine wT 6 (env.get 0) ?_
  refine wP 7 fun v1 => ?_
  refine wT 8 (env.get 1) ?_
  refine wP 9 fun v3 => ?_
  refine wP 10 fun v4 => ?_
  exact wE)
theorem n26_14_eq (Q : Ex × St → Prop) (s : St) : wC Try.prog cx26 n26_14 Q s = Q (.nrm, s) := yK
theorem n26_15_eq (Q : Ex × St → Prop) (s : St) : wC Try.prog cx26 n26_15 Q s = Q (.exit 0, s) := yX 0
theorem n26_13_eq (Q : Ex × St → Prop) (s : St) : wC Try.prog cx26 n26_13 Q s = cndW (s.env.get 14) (wL Try.prog cx26 n26_14 Q s) (wL Try.prog cx26 n26_15 Q s) := yC 14 _ _
theorem n26_22_eq (Q : Ex × St → Prop) (s : St) : wC Try.prog cx26 n26_22 Q s = Q (.ret, s) := yE
theorem n26_21_eq (Q : Ex × St → Prop) (env : Env) (h : Heap) : wC Try.prog cx26 n26_21 Q ⟨env, h⟩ = ( wC Try.prog cx26 n26_22 Q ⟨(Env.put env 4 (.bool false)), h⟩) := (ySR 7 (cOps (cL n26_21)) (cR n26_21)).trans (by
  refine w0 ?_
  refine wT 4 (.bool false) ?_
  exact wE)
theorem n26_23_eq (Q : Ex × St → Prop) (s : St) : wC Try.prog cx26 n26_23 Q s = Q (.nrm, s) := yK
theorem n26_20_eq (Q : Ex × St → Prop) (s : St) : wC Try.prog cx26 n26_20 Q s = cndW (s.env.get 24) (wL Try.prog cx26 n26_21 Q s) (wL Try.prog cx26 n26_23 Q s) := yC 24 _ _
theorem n26_19_ok : treeOk (cOps (cL n26_19)).toList [] [0, 0, 3, 7, 0, 0, 48, 112, 255] = true := by kernel_rfl
theorem n26_19_w (Q : Ex × St → Prop) (env : Env) (h : Heap) (H : Evs (mIdxS tAsk (env.get 0) (env.get 5)) fun v2_1 => Evs (mLoad tAsk v2_1 h) fun v3_2 => Evs (mIdxS tAsk (env.get 1) (env.get 5)) fun v6_3 => Evs (mLoad tAsk v6_3 h) fun v7_4 => Evs (mEq tAsk .neq v3_2 v7_4) fun v8_5 => wC Try.prog cx26 n26_20 Q ⟨(Env.put env 24 v8_5), h⟩) : wC Try.prog cx26 n26_19 Q ⟨env, h⟩ := by
  refine ySD 6 (cOps (cL n26_19)) (cR n26_19) [] [0, 0, 3, 7, 0, 0, 48, 112, 255] [0, 1, 2, 3, 4, 5, 6, 7, 8] n26_19_ok ?_
  refine rT 16 (env.get 0) ?_
  refine rT 17 (env.get 5) ?_
  refine rP H 18 fun v2_1 H => ?_
  refine rP H 19 fun v3_2 H => ?_
  refine rT 20 (env.get 1) ?_
  refine rT 21 (env.get 5) ?_
  refine rP H 22 fun v6_3 H => ?_
  refine rP H 23 fun v7_4 H => ?_
  refine rP H 24 fun v8_5 H => ?_
  refine rE ?_
  exact tE H
theorem n26_18_eq (Q : Ex × St → Prop) (env : Env) (h : Heap) : wC Try.prog cx26 n26_18 Q ⟨env, h⟩ = ( wC Try.prog cx26 n26_19 Q ⟨(Env.put env 5 (env.get 13)), h⟩) := (ySR 5 (cOps (cL n26_18)) (cR n26_18)).trans (by
  refine w0 ?_
  refine wT 15 (env.get 13) ?_
  refine wT 5 (env.get 13) ?_
  exact wE)
theorem n26_17_eq (Q : Ex × St → Prop) (s : St) : wC Try.prog cx26 n26_17 Q s = wC Try.prog cx26 n26_18 (fun r => Q (inBlk 1 r)) s := yB 1 _
theorem n26_24_eq (Q : Ex × St → Prop) (env : Env) (h : Heap) : wC Try.prog cx26 n26_24 Q ⟨env, h⟩ = (Evs (mBin .add (env.get 13) (nat 1)) fun v0 => Q (.nrm, ⟨(Env.put env 13 v0), h⟩)) := (yR 8 (cOps n26_24)).trans (by
  refine w0 ?_
  refine wP 25 fun v0 => ?_
  refine wT 13 v0 ?_
  exact wE)
theorem n26_16_eq (Q : Ex × St → Prop) (s : St) : wC Try.prog cx26 n26_16 Q s = wC Try.prog cx26 n26_17 (sqW (wC Try.prog cx26 n26_24) Q) s := yS _ _
theorem n26_12_eq (Q : Ex × St → Prop) (s : St) : wC Try.prog cx26 n26_12 Q s = wC Try.prog cx26 n26_13 (sqW (wC Try.prog cx26 n26_16) Q) s := yS _ _
theorem n26_11_eq (Q : Ex × St → Prop) (env : Env) (h : Heap) : wC Try.prog cx26 n26_11 Q ⟨env, h⟩ = (Evs (mBin .lss (env.get 13) (env.get 12)) fun v0 => wC Try.prog cx26 n26_12 Q ⟨(Env.put env 14 v0), h⟩) := (ySR 4 (cOps (cL n26_11)) (cR n26_11)).trans (by
  refine w0 ?_
  refine wP 14 fun v0 => ?_
  exact wE)
theorem n26_10_eq (Q : Ex × St → Prop) (s : St) : wC Try.prog cx26 n26_10 Q s = loopW (wC Try.prog cx26 n26_11) Q s := yL _
theorem n26_9_eq (Q : Ex × St → Prop) (s : St) : wC Try.prog cx26 n26_9 Q s = wC Try.prog cx26 n26_10 (fun r => Q (inBlk 0 r)) s := yB 0 _
theorem n26_8_eq (Q : Ex × St → Prop) (env : Env) (h : Heap) : wC Try.prog cx26 n26_8 Q ⟨env, h⟩ = (Evs (mLenS (env.get 0)) fun v1 => wC Try.prog cx26 n26_9 Q ⟨(Env.put (Env.put env 12 v1) 13 (nat 0)), h⟩) := (ySR 3 (cOps (cL n26_8)) (cR n26_8)).trans (by
  refine w0 ?_
  refine wT 11 (env.get 0) ?_
  refine wP 12 fun v1 => ?_
  refine wT 13 (nat 0) ?_
  exact wE)
theorem n26_26_eq (Q : Ex × St → Prop) (s : St) : wC Try.prog cx26 n26_26 Q s = Q (.ret, s) := yE
theorem n26_25_eq (Q : Ex × St → Prop) (env : Env) (h : Heap) : wC Try.prog cx26 n26_25 Q ⟨env, h⟩ = ( wC Try.prog cx26 n26_26 Q ⟨(Env.put env 4 (.bool true)), h⟩) := (ySR 9 (cOps (cL n26_25)) (cR n26_25)).trans (by
  refine w0 ?_
  refine wT 4 (.bool true) ?_
  exact wE)
theorem n26_7_eq (Q : Ex × St → Prop) (s : St) : wC Try.prog cx26 n26_7 Q s = wC Try.prog cx26 n26_8 (sqW (wC Try.prog cx26 n26_25) Q) s := yS _ _
theorem n26_1_eq (Q : Ex × St → Prop) (s : St) : wC Try.prog cx26 n26_1 Q s = wC Try.prog cx26 n26_2 (sqW (wC Try.prog cx26 n26_7) Q) s := yS _ _
theorem n26_0_eq (Q : Ex × St → Prop) (env : Env) (h : Heap) : wC Try.prog cx26 n26_0 Q ⟨env, h⟩ = ( wC Try.prog cx26 n26_1 Q ⟨(Env.put env 4 (.bool false)), h⟩) := (ySR 0 (cOps (cL n26_0)) (cR n26_0)).trans (by
  refine w0 ?_
  refine wT 4 (.bool false) ?_
  exact wE)
theorem fn26 : Try.prog.funcs[26]? = some Try.f26 := by kernel_rfl
theorem q26 {a0 a1 : AV} {h : Heap} {K : AV × Heap → Prop} (H : ∀ env : Env, env.get 0 = a0 → env.get 1 = a1 → wC Try.prog cx26 n26_0 (retW (fun s => (bnd (some (s.env.get 4)) fun v => bnd (some []) fun vs => some (v :: vs))) K) ⟨env, h⟩) : SpecQ Try.prog 26 [a0, a1] h K :=
  bodyW_sound (C := cx26) TT_ok mixed_ok fn26 (by kernel_rfl) (show _ = some n26_0 by kernel_rfl) (by kernel_rfl) (by kernel_rfl) (of_decide_eq_true (by kernel_rfl)) ((show wC Try.prog cx26 n26_0 (retW (fun s => resAll cx26 s Try.f26.results.toList) K) ⟨env0 cx26 [a0, a1], h⟩ = wC Try.prog cx26 n26_0 (retW (fun s => (bnd (some (s.env.get 4)) fun v => bnd (some []) fun vs => some (v :: vs))) K) ⟨[(0, a0), (1, a1), (2, .junk), (3, .junk), (4, .junk), (5, .junk), (10, .junk), (12, .junk), (13, .junk), (14, .junk), (24, .junk)], h⟩ by kernel_rfl).mpr (H [(0, a0), (1, a1), (2, .junk), (3, .junk), (4, .junk), (5, .junk), (10, .junk), (12, .junk), (13, .junk), (14, .junk), (24, .junk)] rfl rfl))
def sn26 := And.intro n26_5_eq (And.intro n26_4_eq (And.intro n26_6_eq (And.intro n26_3_eq (And.intro n26_2_eq (And.intro n26_14_eq (And.intro n26_15_eq (And.intro n26_13_eq (And.intro n26_22_eq (And.intro n26_21_eq (And.intro n26_23_eq (And.intro n26_20_eq (And.intro n26_18_eq (And.intro n26_17_eq (And.intro n26_24_eq (And.intro n26_16_eq (And.intro n26_12_eq (And.intro n26_11_eq (And.intro n26_10_eq (And.intro n26_9_eq (And.intro n26_8_eq (And.intro n26_26_eq (And.intro n26_25_eq (And.intro n26_7_eq (And.intro n26_1_eq (n26_0_eq)))))))))))))))))))))))))
-- draws: n26_19
end Go.Vab

/- How the code of a function is read. Printed by wip/tools/gen2.py (own work). -/
namespace Go.Vab
open Go Go.Proofs
/-! slices.Equal[[]vestry/api.Ban,vestry/api.Ban] -/
def cx27 : Ctx := ⟨fun _ _ _ => none, TT, 26, [6, 7, 8, 9, 11, 15, 16, 17, 18, 19, 20, 21, 22, 23, 25]⟩
noncomputable def n27_0 : Code := bodyOf Try.f27
noncomputable def n27_1 : Code := cR n27_0
noncomputable def n27_2 : Code := cL n27_1
noncomputable def n27_3 : Code := cR n27_2
noncomputable def n27_4 : Code := cL n27_3
noncomputable def n27_5 : Code := cR n27_4
noncomputable def n27_6 : Code := cR n27_3
noncomputable def n27_7 : Code := cR n27_1
noncomputable def n27_8 : Code := cL n27_7
noncomputable def n27_9 : Code := cR n27_8
noncomputable def n27_10 : Code := cB n27_9
noncomputable def n27_11 : Code := cB n27_10
noncomputable def n27_12 : Code := cR n27_11
noncomputable def n27_13 : Code := cL n27_12
noncomputable def n27_14 : Code := cL n27_13
noncomputable def n27_15 : Code := cR n27_13
noncomputable def n27_16 : Code := cR n27_12
noncomputable def n27_17 : Code := cL n27_16
noncomputable def n27_18 : Code := cB n27_17
noncomputable def n27_19 : Code := cR n27_18
noncomputable def n27_20 : Code := cR n27_19
noncomputable def n27_21 : Code := cL n27_20
noncomputable def n27_22 : Code := cR n27_21
noncomputable def n27_23 : Code := cR n27_20
noncomputable def n27_24 : Code := cR n27_16
noncomputable def n27_25 : Code := cR n27_7
noncomputable def n27_26 : Code := cR n27_25
theorem n27_5_eq (Q : Ex × St → Prop) (s : St) : wC Try.prog cx27 n27_5 Q s = Q (.ret, s) := yE
theorem n27_4_eq (Q : Ex × St → Prop) (env : Env) (h : Heap) : wC Try.prog cx27 n27_4 Q ⟨env, h⟩ = ( wC Try.prog cx27 n27_5 Q ⟨(Env.put env 4 (.bool false)), h⟩) := (ySR 2 (cOps (cL n27_4)) (cR n27_4)).trans (by
  refine w0 ?_
  refine wT 4 (.bool false) ?_
  exact wE)
theorem n27_6_eq (Q : Ex × St → Prop) (s : St) : wC Try.prog cx27 n27_6 Q s = Q (.nrm, s) := yK
theorem n27_3_eq (Q : Ex × St → Prop) (s : St) : wC Try.prog cx27 n27_3 Q s = cndW (s.env.get 10) (wL Try.prog cx27 n27_4 Q s) (wL Try.prog cx27 n27_6 Q s) := yC 10 _ _
theorem n27_2_eq (Q : Ex × St → Prop) (env : Env) (h : Heap) : wC Try.prog cx27 n27_2 Q ⟨env, h⟩ = (Evs (mLenS (env.get 0)) fun v1 => Evs (mLenS (env.get 1)) fun v3 => Evs (mBin .neq v1 v3) fun v4 => wC Try.prog cx27 n27_3 Q ⟨(Env.put env 10 v4), h⟩) := (ySR 1 (cOps (cL n27_2)) (cR n27_2)).trans (by
  refine w0 ?_
  refine wT 6 (env.get 0) ?_
  refine wP 7 fun v1 => ?_
  refine wT 8 (env.get 1) ?_
  refine wP 9 fun v3 => ?_
  refine wP 10 fun v4 => ?_
  exact wE)
theorem n27_14_eq (Q : Ex × St → Prop) (s : St) : wC Try.prog cx27 n27_14 Q s = Q (.nrm, s) := yK
theorem n27_15_eq (Q : Ex × St → Prop) (s : St) : wC Try.prog cx27 n27_15 Q s = Q (.exit 0, s) := yX 0
theorem n27_13_eq (Q : Ex × St → Prop) (s : St) : wC Try.prog cx27 n27_13 Q s = cndW (s.env.get 14) (wL Try.prog cx27 n27_14 Q s) (wL Try.prog cx27 n27_15 Q s) := yC 14 _ _
theorem n27_22_eq (Q : Ex × St → Prop) (s : St) : wC Try.prog cx27 n27_22 Q s = Q (.ret, s) := yE
theorem n27_21_eq (Q : Ex × St → Prop) (env : Env) (h : Heap) : wC Try.prog cx27 n27_21 Q ⟨env, h⟩ = ( wC Try.prog cx27 n27_22 Q ⟨(Env.put env 4 (.bool false)), h⟩) := (ySR 7 (cOps (cL n27_21)) (cR n27_21)).trans (by
  refine w0 ?_
  refine wT 4 (.bool false) ?_
  exact wE)
theorem n27_23_eq (Q : Ex × St → Prop) (s : St) : wC Try.prog cx27 n27_23 Q s = Q (.nrm, s) := yK
theorem n27_20_eq (Q : Ex × St → Prop) (s : St) : wC Try.prog cx27 n27_20 Q s = cndW (s.env.get 24) (wL Try.prog cx27 n27_21 Q s) (wL Try.prog cx27 n27_23 Q s) := yC 24 _ _
theorem n27_19_ok : treeOk (cOps (cL n27_19)).toList [] [0, 0, 3, 7, 0, 0, 48, 112, 255] = true := by kernel_rfl
theorem n27_19_w (Q : Ex × St → Prop) (env : Env) (h : Heap) (H : Evs (mIdxS tBan (env.get 0) (env.get 5)) fun v2_1 => Evs (mLoad tBan v2_1 h) fun v3_2 => Evs (mIdxS tBan (env.get 1) (env.get 5)) fun v6_3 => Evs (mLoad tBan v6_3 h) fun v7_4 => Evs (mEq tBan .neq v3_2 v7_4) fun v8_5 => wC Try.prog cx27 n27_20 Q ⟨(Env.put env 24 v8_5), h⟩) : wC Try.prog cx27 n27_19 Q ⟨env, h⟩ := by
  refine ySD 6 (cOps (cL n27_19)) (cR n27_19) [] [0, 0, 3, 7, 0, 0, 48, 112, 255] [0, 1, 2, 3, 4, 5, 6, 7, 8] n27_19_ok ?_
  refine rT 16 (env.get 0) ?_
  refine rT 17 (env.get 5) ?_
  refine rP H 18 fun v2_1 H => ?_
  refine rP H 19 fun v3_2 H => ?_
  refine rT 20 (env.get 1) ?_
  refine rT 21 (env.get 5) ?_
  refine rP H 22 fun v6_3 H => ?_
  refine rP H 23 fun v7_4 H => ?_
  refine rP H 24 fun v8_5 H => ?_
  refine rE ?_
  exact tE H
theorem n27_18_eq (Q : Ex × St → Prop) (env : Env) (h : Heap) : wC Try.prog cx27 n27_18 Q ⟨env, h⟩ = ( wC Try.prog cx27 n27_19 Q ⟨(Env.put env 5 (env.get 13)), h⟩) := (ySR 5 (cOps (cL n27_18)) (cR n27_18)).trans (by
  refine w0 ?_
  refine wT 15 (env.get 13) ?_
  refine wT 5 (env.get 13) ?_
  exact wE)
theorem n27_17_eq (Q : Ex × St → Prop) (s : St) : wC Try.prog cx27 n27_17 Q s = wC Try.prog cx27 n27_18 (fun r => Q (inBlk 1 r)) s := yB 1 _
theorem n27_24_eq (Q : Ex × St → Prop) (env : Env) (h : Heap) : wC Try.prog cx27 n27_24 Q ⟨env, h⟩ = (Evs (mBin .add (env.get 13) (nat 1)) fun v0 => Q (.nrm, ⟨(Env.put env 13 v0), h⟩)) := (yR 8 (cOps n27_24)).trans (by
  refine w0 ?_
  refine wP 25 fun v0 => ?_
  refine wT 13 v0 ?_
  exact wE)
theorem n27_16_eq (Q : Ex × St → Prop) (s : St) : wC Try.prog cx27 n27_16 Q s = wC Try.prog cx27 n27_17 (sqW (wC Try.prog cx27 n27_24) Q) s := yS _ _
theorem n27_12_eq (Q : Ex × St → Prop) (s : St) : wC Try.prog cx27 n27_12 Q s = wC Try.prog cx27 n27_13 (sqW (wC Try.prog cx27 n27_16) Q) s := yS _ _
theorem n27_11_eq (Q : Ex × St → Prop) (env : Env) (h : Heap) : wC Try.prog cx27 n27_11 Q ⟨env, h⟩ = (Evs (mBin .lss (env.get 13) (env.get 12)) fun v0 => wC Try.prog cx27 n27_12 Q ⟨(Env.put env 14 v0), h⟩) := (ySR 4 (cOps (cL n27_11)) (cR n27_11)).trans (by
  refine w0 ?_
  refine wP 14 fun v0 => ?_
  exact wE)
theorem n27_10_eq (Q : Ex × St → Prop) (s : St) : wC Try.prog cx27 n27_10 Q s = loopW (wC Try.prog cx27 n27_11) Q s := yL _
theorem n27_9_eq (Q : Ex × St → Prop) (s : St) : wC Try.prog cx27 n27_9 Q s = wC Try.prog cx27 n27_10 (fun r => Q (inBlk 0 r)) s := yB 0 _
theorem n27_8_eq (Q : Ex × St → Prop) (env : Env) (h : Heap) : wC Try.prog cx27 n27_8 Q ⟨env, h⟩ = (Evs (mLenS (env.get 0)) fun v1 => wC Try.prog cx27 n27_9 Q ⟨(Env.put (Env.put env 12 v1) 13 (nat 0)), h⟩) := (ySR 3 (cOps (cL n27_8)) (cR n27_8)).trans (by
  refine w0 ?_
  refine wT 11 (env.get 0) ?_
  refine wP 12 fun v1 => ?_
  refine wT 13 (nat 0) ?_
  exact wE)
theorem n27_26_eq (Q : Ex × St → Prop) (s : St) : wC Try.prog cx27 n27_26 Q s = Q (.ret, s) := yE
theorem n27_25_eq (Q : Ex × St → Prop) (env : Env) (h : Heap) : wC Try.prog cx27 n27_25 Q ⟨env, h⟩ = ( wC Try.prog cx27 n27_26 Q ⟨(Env.put env 4 (.bool true)), h⟩) := (ySR 9 (cOps (cL n27_25)) (cR n27_25)).trans (by
  refine w0 ?_
  refine wT 4 (.bool true) ?_
  exact wE)
theorem n27_7_eq (Q : Ex × St → Prop) (s : St) : wC Try.prog cx27 n27_7 Q s = wC Try.prog cx27 n27_8 (sqW (wC Try.prog cx27 n27_25) Q) s := yS _ _
theorem n27_1_eq (Q : Ex × St → Prop) (s : St) : wC Try.prog cx27 n27_1 Q s = wC Try.prog cx27 n27_2 (sqW (wC Try.prog cx27 n27_7) Q) s := yS _ _
theorem n27_0_eq (Q : Ex × St → Prop) (env : Env) (h : Heap) : wC Try.prog cx27 n27_0 Q ⟨env, h⟩ = ( wC Try.prog cx27 n27_1 Q ⟨(Env.put env 4 (.bool false)), h⟩) := (ySR 0 (cOps (cL n27_0)) (cR n27_0)).trans (by
  refine w0 ?_
  refine wT 4 (.bool false) ?_
  exact wE)
theorem fn27 : Try.prog.funcs[27]? = some Try.f27 := by kernel_rfl
theorem q27 {a0 a1 : AV} {h : Heap} {K : AV × Heap → Prop} (H : ∀ env : Env, env.get 0 = a0 → env.get 1 = a1 → wC Try.prog cx27 n27_0 (retW (fun s => (bnd (some (s.env.get 4)) fun v => bnd (some []) fun vs => some (v :: vs))) K) ⟨env, h⟩) : SpecQ Try.prog 27 [a0, a1] h K :=
  bodyW_sound (C := cx27) TT_ok mixed_ok fn27 (by kernel_rfl) (show _ = some n27_0 by kernel_rfl) (by kernel_rfl) (by kernel_rfl) (of_decide_eq_true (by kernel_rfl)) ((show wC Try.prog cx27 n27_0 (retW (fun s => resAll cx27 s Try.f27.results.toList) K) ⟨env0 cx27 [a0, a1], h⟩ = wC Try.prog cx27 n27_0 (retW (fun s => (bnd (some (s.env.get 4)) fun v => bnd (some []) fun vs => some (v :: vs))) K) ⟨[(0, a0), (1, a1), (2, .junk), (3, .junk), (4, .junk), (5, .junk), (10, .junk), (12, .junk), (13, .junk), (14, .junk), (24, .junk)], h⟩ by kernel_rfl).mpr (H [(0, a0), (1, a1), (2, .junk), (3, .junk), (4, .junk), (5, .junk), (10, .junk), (12, .junk), (13, .junk), (14, .junk), (24, .junk)] rfl rfl))
def sn27 := And.intro n27_5_eq (And.intro n27_4_eq (And.intro n27_6_eq (And.intro n27_3_eq (And.intro n27_2_eq (And.intro n27_14_eq (And.intro n27_15_eq (And.intro n27_13_eq (And.intro n27_22_eq (And.intro n27_21_eq (And.intro n27_23_eq (And.intro n27_20_eq (And.intro n27_18_eq (And.intro n27_17_eq (And.intro n27_24_eq (And.intro n27_16_eq (And.intro n27_12_eq (And.intro n27_11_eq (And.intro n27_10_eq (And.intro n27_9_eq (And.intro n27_8_eq (And.intro n27_26_eq (And.intro n27_25_eq (And.intro n27_7_eq (And.intro n27_1_eq (n27_0_eq)))))))))))))))))))))))))
-- draws: n27_19
end Go.Vab
