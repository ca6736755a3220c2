/-
  slices.Equal, walked.
-/
import Derived.Test.YtdmcbbeebjcagaaV3
import Derived.Test.YtdmcbbeebjcagaaV6
import Derived.Test.YtdmcbbeebjcagaaV5
set_option linter.all false
set_option linter.unusedSectionVars false
namespace Go.Vab
open Go Go.Proofs

theorem c24 {h : Heap} {x y : AV} {a b : List Seat} (hx : Row tSeat h x (a.map eSeat)) (hy : Row tSeat h y (b.map eSeat)) : SpecQ Try.prog 24 [x, y] h fun r => r = (.bool (decide (a = b)), h) := by
  have lx := hx.len
  have ly := hy.len
  have bx := hx.bound
  rw [List.length_map] at lx ly bx
  refine SpecQ.drop1 rfl (q24 fun env g0 g1 => ?_)
  by_cases hl : a.length = b.length
  · rw [← hl] at ly
    repeat' (first
      | ((with_reducible apply evs_of); (focus ((conv => lhs; simp (disch := omega) [g0, g1, lx, ly]); done)); try dsimp only)
      | ((with_reducible apply gW_do); (focus (simp (disch := omega) [g0, g1, lx, ly]; done)))
      | ((with_reducible apply gW_no); (focus (simp (disch := omega) [g0, g1, lx, ly]; done)); try dsimp only)
      | ((with_reducible apply gW_un); (focus (simp (disch := omega) [g0, g1, lx, ly]; done)); try dsimp only)
      | ((with_reducible apply cndW_T); (focus (simp (disch := omega) [g0, g1, lx, ly] <;> omega)))
      | ((with_reducible apply cndW_F); (focus (simp (disch := omega) [g0, g1, lx, ly] <;> omega)))
      | ((with_reducible apply stabP_i); (focus (simp (disch := omega) [g0, g1, lx, ly]; done)))
      | (with_reducible apply bothP_i)
      | (with_reducible apply wL_i)
      | ((with_reducible apply ValW_do); (focus (simp (disch := omega) [g0, g1, lx, ly]; done)); try dsimp only)
      | ((with_reducible apply ValW_no); (focus (simp (disch := omega) [g0, g1, lx, ly]; done)); try dsimp only)
      | ((with_reducible apply ValW_un); (focus (simp (disch := omega) [g0, g1, lx, ly]; done)); try dsimp only)
      | ((with_reducible apply SpecA_i); (focus ((conv => lhs; simp (disch := omega) [g0, g1, lx, ly]); done)))
      | ((with_reducible apply ValA_i); (focus ((conv => lhs; simp (disch := omega) [g0, g1, lx, ly]); done)))
      | ((with_reducible apply stabA_i); (focus ((conv => lhs; simp (disch := omega) [g0, g1, lx, ly]); done)))
      | ((with_reducible apply fnA_i); (focus ((conv => lhs; simp (disch := omega) [g0, g1, lx, ly]); done)))
      | ((with_reducible apply ValA_fn); (focus ((conv => lhs; simp (disch := omega) [g0, g1, lx, ly]); done)))
      | ((with_reducible apply stabA_fn); (focus ((conv => lhs; simp (disch := omega) [g0, g1, lx, ly]); done)))
      | ((with_reducible apply appA_i); (focus ((conv => lhs; simp (disch := omega) [g0, g1, lx, ly]); done)); (focus ((conv => lhs; simp (disch := omega) [g0, g1, lx, ly]); done)))
      | ((with_reducible apply stab_do); (focus (simp (disch := omega) [g0, g1, lx, ly]; done)))
      | (simp (decide := true) only [sn24, sqW_nrm, sqW_exit, sqW_ret, inBlk_nrm, inBlk_ret, inBlk_same, inBlk_exit, if_true, if_false, retW_nrm, retW_ret])
      | (with_reducible refine n24_19_w _ _ _ ?_))
    refine loop_up a.length (fun i st => ∃ env', st = ⟨env', h⟩ ∧ env'.get 0 = x ∧ env'.get 1 = y ∧ env'.get 12 = nat a.length ∧ env'.get 13 = nat i ∧ ∀ j, j < i → a[j]? = b[j]?) ?_ ?_ ⟨_, rfl, by simp [g0], by simp [g1], by simp, by simp, fun j hj => absurd hj (by omega)⟩
    · rintro i st hi ⟨env', rfl, e0, e1, e12, e13, hj⟩
      obtain ⟨p, p1, p2⟩ := hx.idx0 (i := i) (by simpa using hi)
      obtain ⟨q, q1, q2⟩ := hy.idx0 (i := i) (by simpa [← hl] using hi)
      rw [List.getElem?_map, List.getElem?_eq_getElem hi] at p2
      rw [List.getElem?_map, List.getElem?_eq_getElem (by omega)] at q2
      simp only [Option.map_some] at p2 q2
      by_cases hab : a[i] = b[i]
      · repeat' (first
          | ((with_reducible apply evs_of); (focus ((conv => lhs; simp (disch := omega) [e0, e1, e12, e13, p1, p2, q1, q2, hab]); done)); try dsimp only)
          | ((with_reducible apply gW_do); (focus (simp (disch := omega) [e0, e1, e12, e13, p1, p2, q1, q2, hab]; done)))
          | ((with_reducible apply gW_no); (focus (simp (disch := omega) [e0, e1, e12, e13, p1, p2, q1, q2, hab]; done)); try dsimp only)
          | ((with_reducible apply gW_un); (focus (simp (disch := omega) [e0, e1, e12, e13, p1, p2, q1, q2, hab]; done)); try dsimp only)
          | ((with_reducible apply cndW_T); (focus (simp (disch := omega) [e0, e1, e12, e13, p1, p2, q1, q2, hab] <;> omega)))
          | ((with_reducible apply cndW_F); (focus (simp (disch := omega) [e0, e1, e12, e13, p1, p2, q1, q2, hab] <;> omega)))
          | ((with_reducible apply stabP_i); (focus (simp (disch := omega) [e0, e1, e12, e13, p1, p2, q1, q2, hab]; done)))
          | (with_reducible apply bothP_i)
          | (with_reducible apply wL_i)
          | ((with_reducible apply ValW_do); (focus (simp (disch := omega) [e0, e1, e12, e13, p1, p2, q1, q2, hab]; done)); try dsimp only)
          | ((with_reducible apply ValW_no); (focus (simp (disch := omega) [e0, e1, e12, e13, p1, p2, q1, q2, hab]; done)); try dsimp only)
          | ((with_reducible apply ValW_un); (focus (simp (disch := omega) [e0, e1, e12, e13, p1, p2, q1, q2, hab]; done)); try dsimp only)
          | ((with_reducible apply SpecA_i); (focus ((conv => lhs; simp (disch := omega) [e0, e1, e12, e13, p1, p2, q1, q2, hab]); done)))
          | ((with_reducible apply ValA_i); (focus ((conv => lhs; simp (disch := omega) [e0, e1, e12, e13, p1, p2, q1, q2, hab]); done)))
          | ((with_reducible apply stabA_i); (focus ((conv => lhs; simp (disch := omega) [e0, e1, e12, e13, p1, p2, q1, q2, hab]); done)))
          | ((with_reducible apply fnA_i); (focus ((conv => lhs; simp (disch := omega) [e0, e1, e12, e13, p1, p2, q1, q2, hab]); done)))
          | ((with_reducible apply ValA_fn); (focus ((conv => lhs; simp (disch := omega) [e0, e1, e12, e13, p1, p2, q1, q2, hab]); done)))
          | ((with_reducible apply stabA_fn); (focus ((conv => lhs; simp (disch := omega) [e0, e1, e12, e13, p1, p2, q1, q2, hab]); done)))
          | ((with_reducible apply appA_i); (focus ((conv => lhs; simp (disch := omega) [e0, e1, e12, e13, p1, p2, q1, q2, hab]); done)); (focus ((conv => lhs; simp (disch := omega) [e0, e1, e12, e13, p1, p2, q1, q2, hab]); done)))
          | ((with_reducible apply stab_do); (focus (simp (disch := omega) [e0, e1, e12, e13, p1, p2, q1, q2, hab]; done)))
          | (simp (decide := true) only [sn24, sqW_nrm, sqW_exit, sqW_ret, inBlk_nrm, inBlk_ret, inBlk_same, inBlk_exit, if_true, if_false, retW_nrm, retW_ret])
          | (with_reducible refine n24_19_w _ _ _ ?_))
        refine .inl ⟨by simp, _, rfl, by simp [e0], by simp [e1], by simp [e12], by simp, fun j hj' => ?_⟩
        by_cases hji : j = i
        · subst hji
          rw [List.getElem?_eq_getElem hi, List.getElem?_eq_getElem (by omega), hab]
        · exact hj j (by omega)
      · repeat' (first
          | ((with_reducible apply evs_of); (focus ((conv => lhs; simp (disch := omega) [e0, e1, e12, e13, p1, p2, q1, q2, hab]); done)); try dsimp only)
          | ((with_reducible apply gW_do); (focus (simp (disch := omega) [e0, e1, e12, e13, p1, p2, q1, q2, hab]; done)))
          | ((with_reducible apply gW_no); (focus (simp (disch := omega) [e0, e1, e12, e13, p1, p2, q1, q2, hab]; done)); try dsimp only)
          | ((with_reducible apply gW_un); (focus (simp (disch := omega) [e0, e1, e12, e13, p1, p2, q1, q2, hab]; done)); try dsimp only)
          | ((with_reducible apply cndW_T); (focus (simp (disch := omega) [e0, e1, e12, e13, p1, p2, q1, q2, hab] <;> omega)))
          | ((with_reducible apply cndW_F); (focus (simp (disch := omega) [e0, e1, e12, e13, p1, p2, q1, q2, hab] <;> omega)))
          | ((with_reducible apply stabP_i); (focus (simp (disch := omega) [e0, e1, e12, e13, p1, p2, q1, q2, hab]; done)))
          | (with_reducible apply bothP_i)
          | (with_reducible apply wL_i)
          | ((with_reducible apply ValW_do); (focus (simp (disch := omega) [e0, e1, e12, e13, p1, p2, q1, q2, hab]; done)); try dsimp only)
          | ((with_reducible apply ValW_no); (focus (simp (disch := omega) [e0, e1, e12, e13, p1, p2, q1, q2, hab]; done)); try dsimp only)
          | ((with_reducible apply ValW_un); (focus (simp (disch := omega) [e0, e1, e12, e13, p1, p2, q1, q2, hab]; done)); try dsimp only)
          | ((with_reducible apply SpecA_i); (focus ((conv => lhs; simp (disch := omega) [e0, e1, e12, e13, p1, p2, q1, q2, hab]); done)))
          | ((with_reducible apply ValA_i); (focus ((conv => lhs; simp (disch := omega) [e0, e1, e12, e13, p1, p2, q1, q2, hab]); done)))
          | ((with_reducible apply stabA_i); (focus ((conv => lhs; simp (disch := omega) [e0, e1, e12, e13, p1, p2, q1, q2, hab]); done)))
          | ((with_reducible apply fnA_i); (focus ((conv => lhs; simp (disch := omega) [e0, e1, e12, e13, p1, p2, q1, q2, hab]); done)))
          | ((with_reducible apply ValA_fn); (focus ((conv => lhs; simp (disch := omega) [e0, e1, e12, e13, p1, p2, q1, q2, hab]); done)))
          | ((with_reducible apply stabA_fn); (focus ((conv => lhs; simp (disch := omega) [e0, e1, e12, e13, p1, p2, q1, q2, hab]); done)))
          | ((with_reducible apply appA_i); (focus ((conv => lhs; simp (disch := omega) [e0, e1, e12, e13, p1, p2, q1, q2, hab]); done)); (focus ((conv => lhs; simp (disch := omega) [e0, e1, e12, e13, p1, p2, q1, q2, hab]); done)))
          | ((with_reducible apply stab_do); (focus (simp (disch := omega) [e0, e1, e12, e13, p1, p2, q1, q2, hab]; done)))
          | (simp (decide := true) only [sn24, sqW_nrm, sqW_exit, sqW_ret, inBlk_nrm, inBlk_ret, inBlk_same, inBlk_exit, if_true, if_false, retW_nrm, retW_ret])
          | (with_reducible refine n24_19_w _ _ _ ?_))
        refine .inr ⟨by simp, ?_⟩
        repeat' (first
          | ((with_reducible apply evs_of); (focus ((conv => lhs; simp (disch := omega) [e0]); done)); try dsimp only)
          | ((with_reducible apply gW_do); (focus (simp (disch := omega) [e0]; done)))
          | ((with_reducible apply gW_no); (focus (simp (disch := omega) [e0]; done)); try dsimp only)
          | ((with_reducible apply gW_un); (focus (simp (disch := omega) [e0]; done)); try dsimp only)
          | ((with_reducible apply cndW_T); (focus (simp (disch := omega) [e0] <;> omega)))
          | ((with_reducible apply cndW_F); (focus (simp (disch := omega) [e0] <;> omega)))
          | ((with_reducible apply stabP_i); (focus (simp (disch := omega) [e0]; done)))
          | (with_reducible apply bothP_i)
          | (with_reducible apply wL_i)
          | ((with_reducible apply ValW_do); (focus (simp (disch := omega) [e0]; done)); try dsimp only)
          | ((with_reducible apply ValW_no); (focus (simp (disch := omega) [e0]; done)); try dsimp only)
          | ((with_reducible apply ValW_un); (focus (simp (disch := omega) [e0]; done)); try dsimp only)
          | ((with_reducible apply SpecA_i); (focus ((conv => lhs; simp (disch := omega) [e0]); done)))
          | ((with_reducible apply ValA_i); (focus ((conv => lhs; simp (disch := omega) [e0]); done)))
          | ((with_reducible apply stabA_i); (focus ((conv => lhs; simp (disch := omega) [e0]); done)))
          | ((with_reducible apply fnA_i); (focus ((conv => lhs; simp (disch := omega) [e0]); done)))
          | ((with_reducible apply ValA_fn); (focus ((conv => lhs; simp (disch := omega) [e0]); done)))
          | ((with_reducible apply stabA_fn); (focus ((conv => lhs; simp (disch := omega) [e0]); done)))
          | ((with_reducible apply appA_i); (focus ((conv => lhs; simp (disch := omega) [e0]); done)); (focus ((conv => lhs; simp (disch := omega) [e0]); done)))
          | ((with_reducible apply stab_do); (focus (simp (disch := omega) [e0]; done)))
          | (simp (decide := true) only [sn24, sqW_nrm, sqW_exit, sqW_ret, inBlk_nrm, inBlk_ret, inBlk_same, inBlk_exit, if_true, if_false, retW_nrm, retW_ret])
          | (with_reducible refine n24_19_w _ _ _ ?_))
        have : a ≠ b := by rintro rfl; exact hab rfl
        exact ⟨[], by simp [oneOrTuple, this]⟩
    · rintro st ⟨env', rfl, e0, e1, e12, e13, hj⟩
      repeat' (first
        | ((with_reducible apply evs_of); (focus ((conv => lhs; simp (disch := omega) [e12, e13]); done)); try dsimp only)
        | ((with_reducible apply gW_do); (focus (simp (disch := omega) [e12, e13]; done)))
        | ((with_reducible apply gW_no); (focus (simp (disch := omega) [e12, e13]; done)); try dsimp only)
        | ((with_reducible apply gW_un); (focus (simp (disch := omega) [e12, e13]; done)); try dsimp only)
        | ((with_reducible apply cndW_T); (focus (simp (disch := omega) [e12, e13] <;> omega)))
        | ((with_reducible apply cndW_F); (focus (simp (disch := omega) [e12, e13] <;> omega)))
        | ((with_reducible apply stabP_i); (focus (simp (disch := omega) [e12, e13]; done)))
        | (with_reducible apply bothP_i)
        | (with_reducible apply wL_i)
        | ((with_reducible apply ValW_do); (focus (simp (disch := omega) [e12, e13]; done)); try dsimp only)
        | ((with_reducible apply ValW_no); (focus (simp (disch := omega) [e12, e13]; done)); try dsimp only)
        | ((with_reducible apply ValW_un); (focus (simp (disch := omega) [e12, e13]; done)); try dsimp only)
        | ((with_reducible apply SpecA_i); (focus ((conv => lhs; simp (disch := omega) [e12, e13]); done)))
        | ((with_reducible apply ValA_i); (focus ((conv => lhs; simp (disch := omega) [e12, e13]); done)))
        | ((with_reducible apply stabA_i); (focus ((conv => lhs; simp (disch := omega) [e12, e13]); done)))
        | ((with_reducible apply fnA_i); (focus ((conv => lhs; simp (disch := omega) [e12, e13]); done)))
        | ((with_reducible apply ValA_fn); (focus ((conv => lhs; simp (disch := omega) [e12, e13]); done)))
        | ((with_reducible apply stabA_fn); (focus ((conv => lhs; simp (disch := omega) [e12, e13]); done)))
        | ((with_reducible apply appA_i); (focus ((conv => lhs; simp (disch := omega) [e12, e13]); done)); (focus ((conv => lhs; simp (disch := omega) [e12, e13]); done)))
        | ((with_reducible apply stab_do); (focus (simp (disch := omega) [e12, e13]; done)))
        | (simp (decide := true) only [sn24, sqW_nrm, sqW_exit, sqW_ret, inBlk_nrm, inBlk_ret, inBlk_same, inBlk_exit, if_true, if_false, retW_nrm, retW_ret])
        | (with_reducible refine n24_19_w _ _ _ ?_))
      refine ⟨by simp, ?_⟩
      repeat' (first
        | ((with_reducible apply evs_of); (focus ((conv => lhs; simp (disch := omega) [e12, e13]); done)); try dsimp only)
        | ((with_reducible apply gW_do); (focus (simp (disch := omega) [e12, e13]; done)))
        | ((with_reducible apply gW_no); (focus (simp (disch := omega) [e12, e13]; done)); try dsimp only)
        | ((with_reducible apply gW_un); (focus (simp (disch := omega) [e12, e13]; done)); try dsimp only)
        | ((with_reducible apply cndW_T); (focus (simp (disch := omega) [e12, e13] <;> omega)))
        | ((with_reducible apply cndW_F); (focus (simp (disch := omega) [e12, e13] <;> omega)))
        | ((with_reducible apply stabP_i); (focus (simp (disch := omega) [e12, e13]; done)))
        | (with_reducible apply bothP_i)
        | (with_reducible apply wL_i)
        | ((with_reducible apply ValW_do); (focus (simp (disch := omega) [e12, e13]; done)); try dsimp only)
        | ((with_reducible apply ValW_no); (focus (simp (disch := omega) [e12, e13]; done)); try dsimp only)
        | ((with_reducible apply ValW_un); (focus (simp (disch := omega) [e12, e13]; done)); try dsimp only)
        | ((with_reducible apply SpecA_i); (focus ((conv => lhs; simp (disch := omega) [e12, e13]); done)))
        | ((with_reducible apply ValA_i); (focus ((conv => lhs; simp (disch := omega) [e12, e13]); done)))
        | ((with_reducible apply stabA_i); (focus ((conv => lhs; simp (disch := omega) [e12, e13]); done)))
        | ((with_reducible apply fnA_i); (focus ((conv => lhs; simp (disch := omega) [e12, e13]); done)))
        | ((with_reducible apply ValA_fn); (focus ((conv => lhs; simp (disch := omega) [e12, e13]); done)))
        | ((with_reducible apply stabA_fn); (focus ((conv => lhs; simp (disch := omega) [e12, e13]); done)))
        | ((with_reducible apply appA_i); (focus ((conv => lhs; simp (disch := omega) [e12, e13]); done)); (focus ((conv => lhs; simp (disch := omega) [e12, e13]); done)))
        | ((with_reducible apply stab_do); (focus (simp (disch := omega) [e12, e13]; done)))
        | (simp (decide := true) only [sn24, sqW_nrm, sqW_exit, sqW_ret, inBlk_nrm, inBlk_ret, inBlk_same, inBlk_exit, if_true, if_false, retW_nrm, retW_ret])
        | (with_reducible refine n24_19_w _ _ _ ?_))
      have : a = b := List.ext_getElem? fun j => by
        by_cases hj' : j < a.length
        · exact hj j hj'
        · rw [List.getElem?_eq_none (by omega), List.getElem?_eq_none (by omega)]
      exact ⟨[], by simp [oneOrTuple, this]⟩
  · repeat' (first
      | ((with_reducible apply evs_of); (focus ((conv => lhs; simp (disch := omega) [g0, g1, lx, ly, hl]); done)); try dsimp only)
      | ((with_reducible apply gW_do); (focus (simp (disch := omega) [g0, g1, lx, ly, hl]; done)))
      | ((with_reducible apply gW_no); (focus (simp (disch := omega) [g0, g1, lx, ly, hl]; done)); try dsimp only)
      | ((with_reducible apply gW_un); (focus (simp (disch := omega) [g0, g1, lx, ly, hl]; done)); try dsimp only)
      | ((with_reducible apply cndW_T); (focus (simp (disch := omega) [g0, g1, lx, ly, hl] <;> omega)))
      | ((with_reducible apply cndW_F); (focus (simp (disch := omega) [g0, g1, lx, ly, hl] <;> omega)))
      | ((with_reducible apply stabP_i); (focus (simp (disch := omega) [g0, g1, lx, ly, hl]; done)))
      | (with_reducible apply bothP_i)
      | (with_reducible apply wL_i)
      | ((with_reducible apply ValW_do); (focus (simp (disch := omega) [g0, g1, lx, ly, hl]; done)); try dsimp only)
      | ((with_reducible apply ValW_no); (focus (simp (disch := omega) [g0, g1, lx, ly, hl]; done)); try dsimp only)
      | ((with_reducible apply ValW_un); (focus (simp (disch := omega) [g0, g1, lx, ly, hl]; done)); try dsimp only)
      | ((with_reducible apply SpecA_i); (focus ((conv => lhs; simp (disch := omega) [g0, g1, lx, ly, hl]); done)))
      | ((with_reducible apply ValA_i); (focus ((conv => lhs; simp (disch := omega) [g0, g1, lx, ly, hl]); done)))
      | ((with_reducible apply stabA_i); (focus ((conv => lhs; simp (disch := omega) [g0, g1, lx, ly, hl]); done)))
      | ((with_reducible apply fnA_i); (focus ((conv => lhs; simp (disch := omega) [g0, g1, lx, ly, hl]); done)))
      | ((with_reducible apply ValA_fn); (focus ((conv => lhs; simp (disch := omega) [g0, g1, lx, ly, hl]); done)))
      | ((with_reducible apply stabA_fn); (focus ((conv => lhs; simp (disch := omega) [g0, g1, lx, ly, hl]); done)))
      | ((with_reducible apply appA_i); (focus ((conv => lhs; simp (disch := omega) [g0, g1, lx, ly, hl]); done)); (focus ((conv => lhs; simp (disch := omega) [g0, g1, lx, ly, hl]); done)))
      | ((with_reducible apply stab_do); (focus (simp (disch := omega) [g0, g1, lx, ly, hl]; done)))
      | (simp (decide := true) only [sn24, sqW_nrm, sqW_exit, sqW_ret, inBlk_nrm, inBlk_ret, inBlk_same, inBlk_exit, if_true, if_false, retW_nrm, retW_ret])
      | (with_reducible refine n24_19_w _ _ _ ?_))
    have : a ≠ b := by rintro rfl; exact hl rfl
    exact ⟨[], by simp [oneOrTuple, this]⟩
theorem c25 {h : Heap} {x y : AV} {a b : List Inv} (hx : Row tInvite h x (a.map eInv)) (hy : Row tInvite h y (b.map eInv)) : SpecQ Try.prog 25 [x, y] h fun r => r = (.bool (decide (a = b)), h) := by
  have lx := hx.len
  have ly := hy.len
  have bx := hx.bound
  rw [List.length_map] at lx ly bx
  refine SpecQ.drop1 rfl (q25 fun env g0 g1 => ?_)
  by_cases hl : a.length = b.length
  · rw [← hl] at ly
    repeat' (first
      | ((with_reducible apply evs_of); (focus ((conv => lhs; simp (disch := omega) [g0, g1, lx, ly]); done)); try dsimp only)
      | ((with_reducible apply gW_do); (focus (simp (disch := omega) [g0, g1, lx, ly]; done)))
      | ((with_reducible apply gW_no); (focus (simp (disch := omega) [g0, g1, lx, ly]; done)); try dsimp only)
      | ((with_reducible apply gW_un); (focus (simp (disch := omega) [g0, g1, lx, ly]; done)); try dsimp only)
      | ((with_reducible apply cndW_T); (focus (simp (disch := omega) [g0, g1, lx, ly] <;> omega)))
      | ((with_reducible apply cndW_F); (focus (simp (disch := omega) [g0, g1, lx, ly] <;> omega)))
      | ((with_reducible apply stabP_i); (focus (simp (disch := omega) [g0, g1, lx, ly]; done)))
      | (with_reducible apply bothP_i)
      | (with_reducible apply wL_i)
      | ((with_reducible apply ValW_do); (focus (simp (disch := omega) [g0, g1, lx, ly]; done)); try dsimp only)
      | ((with_reducible apply ValW_no); (focus (simp (disch := omega) [g0, g1, lx, ly]; done)); try dsimp only)
      | ((with_reducible apply ValW_un); (focus (simp (disch := omega) [g0, g1, lx, ly]; done)); try dsimp only)
      | ((with_reducible apply SpecA_i); (focus ((conv => lhs; simp (disch := omega) [g0, g1, lx, ly]); done)))
      | ((with_reducible apply ValA_i); (focus ((conv => lhs; simp (disch := omega) [g0, g1, lx, ly]); done)))
      | ((with_reducible apply stabA_i); (focus ((conv => lhs; simp (disch := omega) [g0, g1, lx, ly]); done)))
      | ((with_reducible apply fnA_i); (focus ((conv => lhs; simp (disch := omega) [g0, g1, lx, ly]); done)))
      | ((with_reducible apply ValA_fn); (focus ((conv => lhs; simp (disch := omega) [g0, g1, lx, ly]); done)))
      | ((with_reducible apply stabA_fn); (focus ((conv => lhs; simp (disch := omega) [g0, g1, lx, ly]); done)))
      | ((with_reducible apply appA_i); (focus ((conv => lhs; simp (disch := omega) [g0, g1, lx, ly]); done)); (focus ((conv => lhs; simp (disch := omega) [g0, g1, lx, ly]); done)))
      | ((with_reducible apply stab_do); (focus (simp (disch := omega) [g0, g1, lx, ly]; done)))
      | (simp (decide := true) only [sn25, sqW_nrm, sqW_exit, sqW_ret, inBlk_nrm, inBlk_ret, inBlk_same, inBlk_exit, if_true, if_false, retW_nrm, retW_ret])
      | (with_reducible refine n25_19_w _ _ _ ?_))
    refine loop_up a.length (fun i st => ∃ env', st = ⟨env', h⟩ ∧ env'.get 0 = x ∧ env'.get 1 = y ∧ env'.get 12 = nat a.length ∧ env'.get 13 = nat i ∧ ∀ j, j < i → a[j]? = b[j]?) ?_ ?_ ⟨_, rfl, by simp [g0], by simp [g1], by simp, by simp, fun j hj => absurd hj (by omega)⟩
    · rintro i st hi ⟨env', rfl, e0, e1, e12, e13, hj⟩
      obtain ⟨p, p1, p2⟩ := hx.idx0 (i := i) (by simpa using hi)
      obtain ⟨q, q1, q2⟩ := hy.idx0 (i := i) (by simpa [← hl] using hi)
      rw [List.getElem?_map, List.getElem?_eq_getElem hi] at p2
      rw [List.getElem?_map, List.getElem?_eq_getElem (by omega)] at q2
      simp only [Option.map_some] at p2 q2
      by_cases hab : a[i] = b[i]
      · repeat' (first
          | ((with_reducible apply evs_of); (focus ((conv => lhs; simp (disch := omega) [e0, e1, e12, e13, p1, p2, q1, q2, hab]); done)); try dsimp only)
          | ((with_reducible apply gW_do); (focus (simp (disch := omega) [e0, e1, e12, e13, p1, p2, q1, q2, hab]; done)))
          | ((with_reducible apply gW_no); (focus (simp (disch := omega) [e0, e1, e12, e13, p1, p2, q1, q2, hab]; done)); try dsimp only)
          | ((with_reducible apply gW_un); (focus (simp (disch := omega) [e0, e1, e12, e13, p1, p2, q1, q2, hab]; done)); try dsimp only)
          | ((with_reducible apply cndW_T); (focus (simp (disch := omega) [e0, e1, e12, e13, p1, p2, q1, q2, hab] <;> omega)))
          | ((with_reducible apply cndW_F); (focus (simp (disch := omega) [e0, e1, e12, e13, p1, p2, q1, q2, hab] <;> omega)))
          | ((with_reducible apply stabP_i); (focus (simp (disch := omega) [e0, e1, e12, e13, p1, p2, q1, q2, hab]; done)))
          | (with_reducible apply bothP_i)
          | (with_reducible apply wL_i)
          | ((with_reducible apply ValW_do); (focus (simp (disch := omega) [e0, e1, e12, e13, p1, p2, q1, q2, hab]; done)); try dsimp only)
          | ((with_reducible apply ValW_no); (focus (simp (disch := omega) [e0, e1, e12, e13, p1, p2, q1, q2, hab]; done)); try dsimp only)
          | ((with_reducible apply ValW_un); (focus (simp (disch := omega) [e0, e1, e12, e13, p1, p2, q1, q2, hab]; done)); try dsimp only)
          | ((with_reducible apply SpecA_i); (focus ((conv => lhs; simp (disch := omega) [e0, e1, e12, e13, p1, p2, q1, q2, hab]); done)))
          | ((with_reducible apply ValA_i); (focus ((conv => lhs; simp (disch := omega) [e0, e1, e12, e13, p1, p2, q1, q2, hab]); done)))
          | ((with_reducible apply stabA_i); (focus ((conv => lhs; simp (disch := omega) [e0, e1, e12, e13, p1, p2, q1, q2, hab]); done)))
          | ((with_reducible apply fnA_i); (focus ((conv => lhs; simp (disch := omega) [e0, e1, e12, e13, p1, p2, q1, q2, hab]); done)))
          | ((with_reducible apply ValA_fn); (focus ((conv => lhs; simp (disch := omega) [e0, e1, e12, e13, p1, p2, q1, q2, hab]); done)))
          | ((with_reducible apply stabA_fn); (focus ((conv => lhs; simp (disch := omega) [e0, e1, e12, e13, p1, p2, q1, q2, hab]); done)))
          | ((with_reducible apply appA_i); (focus ((conv => lhs; simp (disch := omega) [e0, e1, e12, e13, p1, p2, q1, q2, hab]); done)); (focus ((conv => lhs; simp (disch := omega) [e0, e1, e12, e13, p1, p2, q1, q2, hab]); done)))
          | ((with_reducible apply stab_do); (focus (simp (disch := omega) [e0, e1, e12, e13, p1, p2, q1, q2, hab]; done)))
          | (simp (decide := true) only [sn25, sqW_nrm, sqW_exit, sqW_ret, inBlk_nrm, inBlk_ret, inBlk_same, inBlk_exit, if_true, if_false, retW_nrm, retW_ret])
          | (with_reducible refine n25_19_w _ _ _ ?_))
        refine .inl ⟨by simp, _, rfl, by simp [e0], by simp [e1], by simp [e12], by simp, fun j hj' => ?_⟩
        by_cases hji : j = i
        · subst hji
          rw [List.getElem?_eq_getElem hi, List.getElem?_eq_getElem (by omega), hab]
        · exact hj j (by omega)
      · repeat' (first
          | ((with_reducible apply evs_of); (focus ((conv => lhs; simp (disch := omega) [e0, e1, e12, e13, p1, p2, q1, q2, hab]); done)); try dsimp only)
          | ((with_reducible apply gW_do); (focus (simp (disch := omega) [e0, e1, e12, e13, p1, p2, q1, q2, hab]; done)))
          | ((with_reducible apply gW_no); (focus (simp (disch := omega) [e0, e1, e12, e13, p1, p2, q1, q2, hab]; done)); try dsimp only)
          | ((with_reducible apply gW_un); (focus (simp (disch := omega) [e0, e1, e12, e13, p1, p2, q1, q2, hab]; done)); try dsimp only)
          | ((with_reducible apply cndW_T); (focus (simp (disch := omega) [e0, e1, e12, e13, p1, p2, q1, q2, hab] <;> omega)))
          | ((with_reducible apply cndW_F); (focus (simp (disch := omega) [e0, e1, e12, e13, p1, p2, q1, q2, hab] <;> omega)))
          | ((with_reducible apply stabP_i); (focus (simp (disch := omega) [e0, e1, e12, e13, p1, p2, q1, q2, hab]; done)))
          | (with_reducible apply bothP_i)
          | (with_reducible apply wL_i)
          | ((with_reducible apply ValW_do); (focus (simp (disch := omega) [e0, e1, e12, e13, p1, p2, q1, q2, hab]; done)); try dsimp only)
          | ((with_reducible apply ValW_no); (focus (simp (disch := omega) [e0, e1, e12, e13, p1, p2, q1, q2, hab]; done)); try dsimp only)
          | ((with_reducible apply ValW_un); (focus (simp (disch := omega) [e0, e1, e12, e13, p1, p2, q1, q2, hab]; done)); try dsimp only)
          | ((with_reducible apply SpecA_i); (focus ((conv => lhs; simp (disch := omega) [e0, e1, e12, e13, p1, p2, q1, q2, hab]); done)))
          | ((with_reducible apply ValA_i); (focus ((conv => lhs; simp (disch := omega) [e0, e1, e12, e13, p1, p2, q1, q2, hab]); done)))
          | ((with_reducible apply stabA_i); (focus ((conv => lhs; simp (disch := omega) [e0, e1, e12, e13, p1, p2, q1, q2, hab]); done)))
          | ((with_reducible apply fnA_i); (focus ((conv => lhs; simp (disch := omega) [e0, e1, e12, e13, p1, p2, q1, q2, hab]); done)))
          | ((with_reducible apply ValA_fn); (focus ((conv => lhs; simp (disch := omega) [e0, e1, e12, e13, p1, p2, q1, q2, hab]); done)))
          | ((with_reducible apply stabA_fn); (focus ((conv => lhs; simp (disch := omega) [e0, e1, e12, e13, p1, p2, q1, q2, hab]); done)))
          | ((with_reducible apply appA_i); (focus ((conv => lhs; simp (disch := omega) [e0, e1, e12, e13, p1, p2, q1, q2, hab]); done)); (focus ((conv => lhs; simp (disch := omega) [e0, e1, e12, e13, p1, p2, q1, q2, hab]); done)))
          | ((with_reducible apply stab_do); (focus (simp (disch := omega) [e0, e1, e12, e13, p1, p2, q1, q2, hab]; done)))
          | (simp (decide := true) only [sn25, sqW_nrm, sqW_exit, sqW_ret, inBlk_nrm, inBlk_ret, inBlk_same, inBlk_exit, if_true, if_false, retW_nrm, retW_ret])
          | (with_reducible refine n25_19_w _ _ _ ?_))
        refine .inr ⟨by simp, ?_⟩
        repeat' (first
          | ((with_reducible apply evs_of); (focus ((conv => lhs; simp (disch := omega) [e0]); done)); try dsimp only)
          | ((with_reducible apply gW_do); (focus (simp (disch := omega) [e0]; done)))
          | ((with_reducible apply gW_no); (focus (simp (disch := omega) [e0]; done)); try dsimp only)
          | ((with_reducible apply gW_un); (focus (simp (disch := omega) [e0]; done)); try dsimp only)
          | ((with_reducible apply cndW_T); (focus (simp (disch := omega) [e0] <;> omega)))
          | ((with_reducible apply cndW_F); (focus (simp (disch := omega) [e0] <;> omega)))
          | ((with_reducible apply stabP_i); (focus (simp (disch := omega) [e0]; done)))
          | (with_reducible apply bothP_i)
          | (with_reducible apply wL_i)
          | ((with_reducible apply ValW_do); (focus (simp (disch := omega) [e0]; done)); try dsimp only)
          | ((with_reducible apply ValW_no); (focus (simp (disch := omega) [e0]; done)); try dsimp only)
          | ((with_reducible apply ValW_un); (focus (simp (disch := omega) [e0]; done)); try dsimp only)
          | ((with_reducible apply SpecA_i); (focus ((conv => lhs; simp (disch := omega) [e0]); done)))
          | ((with_reducible apply ValA_i); (focus ((conv => lhs; simp (disch := omega) [e0]); done)))
          | ((with_reducible apply stabA_i); (focus ((conv => lhs; simp (disch := omega) [e0]); done)))
          | ((with_reducible apply fnA_i); (focus ((conv => lhs; simp (disch := omega) [e0]); done)))
          | ((with_reducible apply ValA_fn); (focus ((conv => lhs; simp (disch := omega) [e0]); done)))
          | ((with_reducible apply stabA_fn); (focus ((conv => lhs; simp (disch := omega) [e0]); done)))
          | ((with_reducible apply appA_i); (focus ((conv => lhs; simp (disch := omega) [e0]); done)); (focus ((conv => lhs; simp (disch := omega) [e0]); done)))
          | ((with_reducible apply stab_do); (focus (simp (disch := omega) [e0]; done)))
          | (simp (decide := true) only [sn25, sqW_nrm, sqW_exit, sqW_ret, inBlk_nrm, inBlk_ret, inBlk_same, inBlk_exit, if_true, if_false, retW_nrm, retW_ret])
          | (with_reducible refine n25_19_w _ _ _ ?_))
        have : a ≠ b := by rintro rfl; exact hab rfl
        exact ⟨[], by simp [oneOrTuple, this]⟩
    · rintro st ⟨env', rfl, e0, e1, e12, e13, hj⟩
      repeat' (first
        | ((with_reducible apply evs_of); (focus ((conv => lhs; simp (disch := omega) [e12, e13]); done)); try dsimp only)
        | ((with_reducible apply gW_do); (focus (simp (disch := omega) [e12, e13]; done)))
        | ((with_reducible apply gW_no); (focus (simp (disch := omega) [e12, e13]; done)); try dsimp only)
        | ((with_reducible apply gW_un); (focus (simp (disch := omega) [e12, e13]; done)); try dsimp only)
        | ((with_reducible apply cndW_T); (focus (simp (disch := omega) [e12, e13] <;> omega)))
        | ((with_reducible apply cndW_F); (focus (simp (disch := omega) [e12, e13] <;> omega)))
        | ((with_reducible apply stabP_i); (focus (simp (disch := omega) [e12, e13]; done)))
        | (with_reducible apply bothP_i)
        | (with_reducible apply wL_i)
        | ((with_reducible apply ValW_do); (focus (simp (disch := omega) [e12, e13]; done)); try dsimp only)
        | ((with_reducible apply ValW_no); (focus (simp (disch := omega) [e12, e13]; done)); try dsimp only)
        | ((with_reducible apply ValW_un); (focus (simp (disch := omega) [e12, e13]; done)); try dsimp only)
        | ((with_reducible apply SpecA_i); (focus ((conv => lhs; simp (disch := omega) [e12, e13]); done)))
        | ((with_reducible apply ValA_i); (focus ((conv => lhs; simp (disch := omega) [e12, e13]); done)))
        | ((with_reducible apply stabA_i); (focus ((conv => lhs; simp (disch := omega) [e12, e13]); done)))
        | ((with_reducible apply fnA_i); (focus ((conv => lhs; simp (disch := omega) [e12, e13]); done)))
        | ((with_reducible apply ValA_fn); (focus ((conv => lhs; simp (disch := omega) [e12, e13]); done)))
        | ((with_reducible apply stabA_fn); (focus ((conv => lhs; simp (disch := omega) [e12, e13]); done)))
        | ((with_reducible apply appA_i); (focus ((conv => lhs; simp (disch := omega) [e12, e13]); done)); (focus ((conv => lhs; simp (disch := omega) [e12, e13]); done)))
        | ((with_reducible apply stab_do); (focus (simp (disch := omega) [e12, e13]; done)))
        | (simp (decide := true) only [sn25, sqW_nrm, sqW_exit, sqW_ret, inBlk_nrm, inBlk_ret, inBlk_same, inBlk_exit, if_true, if_false, retW_nrm, retW_ret])
        | (with_reducible refine n25_19_w _ _ _ ?_))
      refine ⟨by simp, ?_⟩
      repeat' (first
        | ((with_reducible apply evs_of); (focus ((conv => lhs; simp (disch := omega) [e12, e13]); done)); try dsimp only)
        | ((with_reducible apply gW_do); (focus (simp (disch := omega) [e12, e13]; done)))
        | ((with_reducible apply gW_no); (focus (simp (disch := omega) [e12, e13]; done)); try dsimp only)
        | ((with_reducible apply gW_un); (focus (simp (disch := omega) [e12, e13]; done)); try dsimp only)
        | ((with_reducible apply cndW_T); (focus (simp (disch := omega) [e12, e13] <;> omega)))
        | ((with_reducible apply cndW_F); (focus (simp (disch := omega) [e12, e13] <;> omega)))
        | ((with_reducible apply stabP_i); (focus (simp (disch := omega) [e12, e13]; done)))
        | (with_reducible apply bothP_i)
        | (with_reducible apply wL_i)
        | ((with_reducible apply ValW_do); (focus (simp (disch := omega) [e12, e13]; done)); try dsimp only)
        | ((with_reducible apply ValW_no); (focus (simp (disch := omega) [e12, e13]; done)); try dsimp only)
        | ((with_reducible apply ValW_un); (focus (simp (disch := omega) [e12, e13]; done)); try dsimp only)
        | ((with_reducible apply SpecA_i); (focus ((conv => lhs; simp (disch := omega) [e12, e13]); done)))
        | ((with_reducible apply ValA_i); (focus ((conv => lhs; simp (disch := omega) [e12, e13]); done)))
        | ((with_reducible apply stabA_i); (focus ((conv => lhs; simp (disch := omega) [e12, e13]); done)))
        | ((with_reducible apply fnA_i); (focus ((conv => lhs; simp (disch := omega) [e12, e13]); done)))
        | ((with_reducible apply ValA_fn); (focus ((conv => lhs; simp (disch := omega) [e12, e13]); done)))
        | ((with_reducible apply stabA_fn); (focus ((conv => lhs; simp (disch := omega) [e12, e13]); done)))
        | ((with_reducible apply appA_i); (focus ((conv => lhs; simp (disch := omega) [e12, e13]); done)); (focus ((conv => lhs; simp (disch := omega) [e12, e13]); done)))
        | ((with_reducible apply stab_do); (focus (simp (disch := omega) [e12, e13]; done)))
        | (simp (decide := true) only [sn25, sqW_nrm, sqW_exit, sqW_ret, inBlk_nrm, inBlk_ret, inBlk_same, inBlk_exit, if_true, if_false, retW_nrm, retW_ret])
        | (with_reducible refine n25_19_w _ _ _ ?_))
      have : a = b := List.ext_getElem? fun j => by
        by_cases hj' : j < a.length
        · exact hj j hj'
        · rw [List.getElem?_eq_none (by omega), List.getElem?_eq_none (by omega)]
      exact ⟨[], by simp [oneOrTuple, this]⟩
  · repeat' (first
      | ((with_reducible apply evs_of); (focus ((conv => lhs; simp (disch := omega) [g0, g1, lx, ly, hl]); done)); try dsimp only)
      | ((with_reducible apply gW_do); (focus (simp (disch := omega) [g0, g1, lx, ly, hl]; done)))
      | ((with_reducible apply gW_no); (focus (simp (disch := omega) [g0, g1, lx, ly, hl]; done)); try dsimp only)
      | ((with_reducible apply gW_un); (focus (simp (disch := omega) [g0, g1, lx, ly, hl]; done)); try dsimp only)
      | ((with_reducible apply cndW_T); (focus (simp (disch := omega) [g0, g1, lx, ly, hl] <;> omega)))
      | ((with_reducible apply cndW_F); (focus (simp (disch := omega) [g0, g1, lx, ly, hl] <;> omega)))
      | ((with_reducible apply stabP_i); (focus (simp (disch := omega) [g0, g1, lx, ly, hl]; done)))
      | (with_reducible apply bothP_i)
      | (with_reducible apply wL_i)
      | ((with_reducible apply ValW_do); (focus (simp (disch := omega) [g0, g1, lx, ly, hl]; done)); try dsimp only)
      | ((with_reducible apply ValW_no); (focus (simp (disch := omega) [g0, g1, lx, ly, hl]; done)); try dsimp only)
      | ((with_reducible apply ValW_un); (focus (simp (disch := omega) [g0, g1, lx, ly, hl]; done)); try dsimp only)
      | ((with_reducible apply SpecA_i); (focus ((conv => lhs; simp (disch := omega) [g0, g1, lx, ly, hl]); done)))
      | ((with_reducible apply ValA_i); (focus ((conv => lhs; simp (disch := omega) [g0, g1, lx, ly, hl]); done)))
      | ((with_reducible apply stabA_i); (focus ((conv => lhs; simp (disch := omega) [g0, g1, lx, ly, hl]); done)))
      | ((with_reducible apply fnA_i); (focus ((conv => lhs; simp (disch := omega) [g0, g1, lx, ly, hl]); done)))
      | ((with_reducible apply ValA_fn); (focus ((conv => lhs; simp (disch := omega) [g0, g1, lx, ly, hl]); done)))
      | ((with_reducible apply stabA_fn); (focus ((conv => lhs; simp (disch := omega) [g0, g1, lx, ly, hl]); done)))
      | ((with_reducible apply appA_i); (focus ((conv => lhs; simp (disch := omega) [g0, g1, lx, ly, hl]); done)); (focus ((conv => lhs; simp (disch := omega) [g0, g1, lx, ly, hl]); done)))
      | ((with_reducible apply stab_do); (focus (simp (disch := omega) [g0, g1, lx, ly, hl]; done)))
      | (simp (decide := true) only [sn25, sqW_nrm, sqW_exit, sqW_ret, inBlk_nrm, inBlk_ret, inBlk_same, inBlk_exit, if_true, if_false, retW_nrm, retW_ret])
      | (with_reducible refine n25_19_w _ _ _ ?_))
    have : a ≠ b := by rintro rfl; exact hl rfl
    exact ⟨[], by simp [oneOrTuple, this]⟩
theorem c26 {h : Heap} {x y : AV} {a b : List Ask} (hx : Row tAsk h x (a.map eAsk)) (hy : Row tAsk h y (b.map eAsk)) : SpecQ Try.prog 26 [x, y] h fun r => r = (.bool (decide (a = b)), h) := by
  have lx := hx.len
  have ly := hy.len
  have bx := hx.bound
  rw [List.length_map] at lx ly bx
  refine SpecQ.drop1 rfl (q26 fun env g0 g1 => ?_)
  by_cases hl : a.length = b.length
  · rw [← hl] at ly
    repeat' (first
      | ((with_reducible apply evs_of); (focus ((conv => lhs; simp (disch := omega) [g0, g1, lx, ly]); done)); try dsimp only)
      | ((with_reducible apply gW_do); (focus (simp (disch := omega) [g0, g1, lx, ly]; done)))
      | ((with_reducible apply gW_no); (focus (simp (disch := omega) [g0, g1, lx, ly]; done)); try dsimp only)
      | ((with_reducible apply gW_un); (focus (simp (disch := omega) [g0, g1, lx, ly]; done)); try dsimp only)
      | ((with_reducible apply cndW_T); (focus (simp (disch := omega) [g0, g1, lx, ly] <;> omega)))
      | ((with_reducible apply cndW_F); (focus (simp (disch := omega) [g0, g1, lx, ly] <;> omega)))
      | ((with_reducible apply stabP_i); (focus (simp (disch := omega) [g0, g1, lx, ly]; done)))
      | (with_reducible apply bothP_i)
      | (with_reducible apply wL_i)
      | ((with_reducible apply ValW_do); (focus (simp (disch := omega) [g0, g1, lx, ly]; done)); try dsimp only)
      | ((with_reducible apply ValW_no); (focus (simp (disch := omega) [g0, g1, lx, ly]; done)); try dsimp only)
      | ((with_reducible apply ValW_un); (focus (simp (disch := omega) [g0, g1, lx, ly]; done)); try dsimp only)
      | ((with_reducible apply SpecA_i); (focus ((conv => lhs; simp (disch := omega) [g0, g1, lx, ly]); done)))
      | ((with_reducible apply ValA_i); (focus ((conv => lhs; simp (disch := omega) [g0, g1, lx, ly]); done)))
      | ((with_reducible apply stabA_i); (focus ((conv => lhs; simp (disch := omega) [g0, g1, lx, ly]); done)))
      | ((with_reducible apply fnA_i); (focus ((conv => lhs; simp (disch := omega) [g0, g1, lx, ly]); done)))
      | ((with_reducible apply ValA_fn); (focus ((conv => lhs; simp (disch := omega) [g0, g1, lx, ly]); done)))
      | ((with_reducible apply stabA_fn); (focus ((conv => lhs; simp (disch := omega) [g0, g1, lx, ly]); done)))
      | ((with_reducible apply appA_i); (focus ((conv => lhs; simp (disch := omega) [g0, g1, lx, ly]); done)); (focus ((conv => lhs; simp (disch := omega) [g0, g1, lx, ly]); done)))
      | ((with_reducible apply stab_do); (focus (simp (disch := omega) [g0, g1, lx, ly]; done)))
      | (simp (decide := true) only [sn26, sqW_nrm, sqW_exit, sqW_ret, inBlk_nrm, inBlk_ret, inBlk_same, inBlk_exit, if_true, if_false, retW_nrm, retW_ret])
      | (with_reducible refine n26_19_w _ _ _ ?_))
    refine loop_up a.length (fun i st => ∃ env', st = ⟨env', h⟩ ∧ env'.get 0 = x ∧ env'.get 1 = y ∧ env'.get 12 = nat a.length ∧ env'.get 13 = nat i ∧ ∀ j, j < i → a[j]? = b[j]?) ?_ ?_ ⟨_, rfl, by simp [g0], by simp [g1], by simp, by simp, fun j hj => absurd hj (by omega)⟩
    · rintro i st hi ⟨env', rfl, e0, e1, e12, e13, hj⟩
      obtain ⟨p, p1, p2⟩ := hx.idx0 (i := i) (by simpa using hi)
      obtain ⟨q, q1, q2⟩ := hy.idx0 (i := i) (by simpa [← hl] using hi)
      rw [List.getElem?_map, List.getElem?_eq_getElem hi] at p2
      rw [List.getElem?_map, List.getElem?_eq_getElem (by omega)] at q2
      simp only [Option.map_some] at p2 q2
      by_cases hab : a[i] = b[i]
      · repeat' (first
          | ((with_reducible apply evs_of); (focus ((conv => lhs; simp (disch := omega) [e0, e1, e12, e13, p1, p2, q1, q2, hab]); done)); try dsimp only)
          | ((with_reducible apply gW_do); (focus (simp (disch := omega) [e0, e1, e12, e13, p1, p2, q1, q2, hab]; done)))
          | ((with_reducible apply gW_no); (focus (simp (disch := omega) [e0, e1, e12, e13, p1, p2, q1, q2, hab]; done)); try dsimp only)
          | ((with_reducible apply gW_un); (focus (simp (disch := omega) [e0, e1, e12, e13, p1, p2, q1, q2, hab]; done)); try dsimp only)
          | ((with_reducible apply cndW_T); (focus (simp (disch := omega) [e0, e1, e12, e13, p1, p2, q1, q2, hab] <;> omega)))
          | ((with_reducible apply cndW_F); (focus (simp (disch := omega) [e0, e1, e12, e13, p1, p2, q1, q2, hab] <;> omega)))
          | ((with_reducible apply stabP_i); (focus (simp (disch := omega) [e0, e1, e12, e13, p1, p2, q1, q2, hab]; done)))
          | (with_reducible apply bothP_i)
          | (with_reducible apply wL_i)
          | ((with_reducible apply ValW_do); (focus (simp (disch := omega) [e0, e1, e12, e13, p1, p2, q1, q2, hab]; done)); try dsimp only)
          | ((with_reducible apply ValW_no); (focus (simp (disch := omega) [e0, e1, e12, e13, p1, p2, q1, q2, hab]; done)); try dsimp only)
          | ((with_reducible apply ValW_un); (focus (simp (disch := omega) [e0, e1, e12, e13, p1, p2, q1, q2, hab]; done)); try dsimp only)
          | ((with_reducible apply SpecA_i); (focus ((conv => lhs; simp (disch := omega) [e0, e1, e12, e13, p1, p2, q1, q2, hab]); done)))
          | ((with_reducible apply ValA_i); (focus ((conv => lhs; simp (disch := omega) [e0, e1, e12, e13, p1, p2, q1, q2, hab]); done)))
          | ((with_reducible apply stabA_i); (focus ((conv => lhs; simp (disch := omega) [e0, e1, e12, e13, p1, p2, q1, q2, hab]); done)))
          | ((with_reducible apply fnA_i); (focus ((conv => lhs; simp (disch := omega) [e0, e1, e12, e13, p1, p2, q1, q2, hab]); done)))
          | ((with_reducible apply ValA_fn); (focus ((conv => lhs; simp (disch := omega) [e0, e1, e12, e13, p1, p2, q1, q2, hab]); done)))
          | ((with_reducible apply stabA_fn); (focus ((conv => lhs; simp (disch := omega) [e0, e1, e12, e13, p1, p2, q1, q2, hab]); done)))
          | ((with_reducible apply appA_i); (focus ((conv => lhs; simp (disch := omega) [e0, e1, e12, e13, p1, p2, q1, q2, hab]); done)); (focus ((conv => lhs; simp (disch := omega) [e0, e1, e12, e13, p1, p2, q1, q2, hab]); done)))
          | ((with_reducible apply stab_do); (focus (simp (disch := omega) [e0, e1, e12, e13, p1, p2, q1, q2, hab]; done)))
          | (simp (decide := true) only [sn26, sqW_nrm, sqW_exit, sqW_ret, inBlk_nrm, inBlk_ret, inBlk_same, inBlk_exit, if_true, if_false, retW_nrm, retW_ret])
          | (with_reducible refine n26_19_w _ _ _ ?_))
        refine .inl ⟨by simp, _, rfl, by simp [e0], by simp [e1], by simp [e12], by simp, fun j hj' => ?_⟩
        by_cases hji : j = i
        · subst hji
          rw [List.getElem?_eq_getElem hi, List.getElem?_eq_getElem (by omega), hab]
        · exact hj j (by omega)
      · repeat' (first
          | ((with_reducible apply evs_of); (focus ((conv => lhs; simp (disch := omega) [e0, e1, e12, e13, p1, p2, q1, q2, hab]); done)); try dsimp only)
          | ((with_reducible apply gW_do); (focus (simp (disch := omega) [e0, e1, e12, e13, p1, p2, q1, q2, hab]; done)))
          | ((with_reducible apply gW_no); (focus (simp (disch := omega) [e0, e1, e12, e13, p1, p2, q1, q2, hab]; done)); try dsimp only)
          | ((with_reducible apply gW_un); (focus (simp (disch := omega) [e0, e1, e12, e13, p1, p2, q1, q2, hab]; done)); try dsimp only)
          | ((with_reducible apply cndW_T); (focus (simp (disch := omega) [e0, e1, e12, e13, p1, p2, q1, q2, hab] <;> omega)))
          | ((with_reducible apply cndW_F); (focus (simp (disch := omega) [e0, e1, e12, e13, p1, p2, q1, q2, hab] <;> omega)))
          | ((with_reducible apply stabP_i); (focus (simp (disch := omega) [e0, e1, e12, e13, p1, p2, q1, q2, hab]; done)))
          | (with_reducible apply bothP_i)
          | (with_reducible apply wL_i)
          | ((with_reducible apply ValW_do); (focus (simp (disch := omega) [e0, e1, e12, e13, p1, p2, q1, q2, hab]; done)); try dsimp only)
          | ((with_reducible apply ValW_no); (focus (simp (disch := omega) [e0, e1, e12, e13, p1, p2, q1, q2, hab]; done)); try dsimp only)
          | ((with_reducible apply ValW_un); (focus (simp (disch := omega) [e0, e1, e12, e13, p1, p2, q1, q2, hab]; done)); try dsimp only)
          | ((with_reducible apply SpecA_i); (focus ((conv => lhs; simp (disch := omega) [e0, e1, e12, e13, p1, p2, q1, q2, hab]); done)))
          | ((with_reducible apply ValA_i); (focus ((conv => lhs; simp (disch := omega) [e0, e1, e12, e13, p1, p2, q1, q2, hab]); done)))
          | ((with_reducible apply stabA_i); (focus ((conv => lhs; simp (disch := omega) [e0, e1, e12, e13, p1, p2, q1, q2, hab]); done)))
          | ((with_reducible apply fnA_i); (focus ((conv => lhs; simp (disch := omega) [e0, e1, e12, e13, p1, p2, q1, q2, hab]); done)))
          | ((with_reducible apply ValA_fn); (focus ((conv => lhs; simp (disch := omega) [e0, e1, e12, e13, p1, p2, q1, q2, hab]); done)))
          | ((with_reducible apply stabA_fn); (focus ((conv => lhs; simp (disch := omega) [e0, e1, e12, e13, p1, p2, q1, q2, hab]); done)))
          | ((with_reducible apply appA_i); (focus ((conv => lhs; simp (disch := omega) [e0, e1, e12, e13, p1, p2, q1, q2, hab]); done)); (focus ((conv => lhs; simp (disch := omega) [e0, e1, e12, e13, p1, p2, q1, q2, hab]); done)))
          | ((with_reducible apply stab_do); (focus (simp (disch := omega) [e0, e1, e12, e13, p1, p2, q1, q2, hab]; done)))
          | (simp (decide := true) only [sn26, sqW_nrm, sqW_exit, sqW_ret, inBlk_nrm, inBlk_ret, inBlk_same, inBlk_exit, if_true, if_false, retW_nrm, retW_ret])
          | (with_reducible refine n26_19_w _ _ _ ?_))
        refine .inr ⟨by simp, ?_⟩
        repeat' (first
          | ((with_reducible apply evs_of); (focus ((conv => lhs; simp (disch := omega) [e0]); done)); try dsimp only)
          | ((with_reducible apply gW_do); (focus (simp (disch := omega) [e0]; done)))
          | ((with_reducible apply gW_no); (focus (simp (disch := omega) [e0]; done)); try dsimp only)
          | ((with_reducible apply gW_un); (focus (simp (disch := omega) [e0]; done)); try dsimp only)
          | ((with_reducible apply cndW_T); (focus (simp (disch := omega) [e0] <;> omega)))
          | ((with_reducible apply cndW_F); (focus (simp (disch := omega) [e0] <;> omega)))
          | ((with_reducible apply stabP_i); (focus (simp (disch := omega) [e0]; done)))
          | (with_reducible apply bothP_i)
          | (with_reducible apply wL_i)
          | ((with_reducible apply ValW_do); (focus (simp (disch := omega) [e0]; done)); try dsimp only)
          | ((with_reducible apply ValW_no); (focus (simp (disch := omega) [e0]; done)); try dsimp only)
          | ((with_reducible apply ValW_un); (focus (simp (disch := omega) [e0]; done)); try dsimp only)
          | ((with_reducible apply SpecA_i); (focus ((conv => lhs; simp (disch := omega) [e0]); done)))
          | ((with_reducible apply ValA_i); (focus ((conv => lhs; simp (disch := omega) [e0]); done)))
          | ((with_reducible apply stabA_i); (focus ((conv => lhs; simp (disch := omega) [e0]); done)))
          | ((with_reducible apply fnA_i); (focus ((conv => lhs; simp (disch := omega) [e0]); done)))
          | ((with_reducible apply ValA_fn); (focus ((conv => lhs; simp (disch := omega) [e0]); done)))
          | ((with_reducible apply stabA_fn); (focus ((conv => lhs; simp (disch := omega) [e0]); done)))
          | ((with_reducible apply appA_i); (focus ((conv => lhs; simp (disch := omega) [e0]); done)); (focus ((conv => lhs; simp (disch := omega) [e0]); done)))
          | ((with_reducible apply stab_do); (focus (simp (disch := omega) [e0]; done)))
          | (simp (decide := true) only [sn26, sqW_nrm, sqW_exit, sqW_ret, inBlk_nrm, inBlk_ret, inBlk_same, inBlk_exit, if_true, if_false, retW_nrm, retW_ret])
          | (with_reducible refine n26_19_w _ _ _ ?_))
        have : a ≠ b := by rintro rfl; exact hab rfl
        exact ⟨[], by simp [oneOrTuple, this]⟩
    · rintro st ⟨env', rfl, e0, e1, e12, e13, hj⟩
      repeat' (first
        | ((with_reducible apply evs_of); (focus ((conv => lhs; simp (disch := omega) [e12, e13]); done)); try dsimp only)
        | ((with_reducible apply gW_do); (focus (simp (disch := omega) [e12, e13]; done)))
        | ((with_reducible apply gW_no); (focus (simp (disch := omega) [e12, e13]; done)); try dsimp only)
        | ((with_reducible apply gW_un); (focus (simp (disch := omega) [e12, e13]; done)); try dsimp only)
        | ((with_reducible apply cndW_T); (focus (simp (disch := omega) [e12, e13] <;> omega)))
        | ((with_reducible apply cndW_F); (focus (simp (disch := omega) [e12, e13] <;> omega)))
        | ((with_reducible apply stabP_i); (focus (simp (disch := omega) [e12, e13]; done)))
        | (with_reducible apply bothP_i)
        | (with_reducible apply wL_i)
        | ((with_reducible apply ValW_do); (focus (simp (disch := omega) [e12, e13]; done)); try dsimp only)
        | ((with_reducible apply ValW_no); (focus (simp (disch := omega) [e12, e13]; done)); try dsimp only)
        | ((with_reducible apply ValW_un); (focus (simp (disch := omega) [e12, e13]; done)); try dsimp only)
        | ((with_reducible apply SpecA_i); (focus ((conv => lhs; simp (disch := omega) [e12, e13]); done)))
        | ((with_reducible apply ValA_i); (focus ((conv => lhs; simp (disch := omega) [e12, e13]); done)))
        | ((with_reducible apply stabA_i); (focus ((conv => lhs; simp (disch := omega) [e12, e13]); done)))
        | ((with_reducible apply fnA_i); (focus ((conv => lhs; simp (disch := omega) [e12, e13]); done)))
        | ((with_reducible apply ValA_fn); (focus ((conv => lhs; simp (disch := omega) [e12, e13]); done)))
        | ((with_reducible apply stabA_fn); (focus ((conv => lhs; simp (disch := omega) [e12, e13]); done)))
        | ((with_reducible apply appA_i); (focus ((conv => lhs; simp (disch := omega) [e12, e13]); done)); (focus ((conv => lhs; simp (disch := omega) [e12, e13]); done)))
        | ((with_reducible apply stab_do); (focus (simp (disch := omega) [e12, e13]; done)))
        | (simp (decide := true) only [sn26, sqW_nrm, sqW_exit, sqW_ret, inBlk_nrm, inBlk_ret, inBlk_same, inBlk_exit, if_true, if_false, retW_nrm, retW_ret])
        | (with_reducible refine n26_19_w _ _ _ ?_))
      refine ⟨by simp, ?_⟩
      repeat' (first
        | ((with_reducible apply evs_of); (focus ((conv => lhs; simp (disch := omega) [e12, e13]); done)); try dsimp only)
        | ((with_reducible apply gW_do); (focus (simp (disch := omega) [e12, e13]; done)))
        | ((with_reducible apply gW_no); (focus (simp (disch := omega) [e12, e13]; done)); try dsimp only)
        | ((with_reducible apply gW_un); (focus (simp (disch := omega) [e12, e13]; done)); try dsimp only)
        | ((with_reducible apply cndW_T); (focus (simp (disch := omega) [e12, e13] <;> omega)))
        | ((with_reducible apply cndW_F); (focus (simp (disch := omega) [e12, e13] <;> omega)))
        | ((with_reducible apply stabP_i); (focus (simp (disch := omega) [e12, e13]; done)))
        | (with_reducible apply bothP_i)
        | (with_reducible apply wL_i)
        | ((with_reducible apply ValW_do); (focus (simp (disch := omega) [e12, e13]; done)); try dsimp only)
        | ((with_reducible apply ValW_no); (focus (simp (disch := omega) [e12, e13]; done)); try dsimp only)
        | ((with_reducible apply ValW_un); (focus (simp (disch := omega) [e12, e13]; done)); try dsimp only)
        | ((with_reducible apply SpecA_i); (focus ((conv => lhs; simp (disch := omega) [e12, e13]); done)))
        | ((with_reducible apply ValA_i); (focus ((conv => lhs; simp (disch := omega) [e12, e13]); done)))
        | ((with_reducible apply stabA_i); (focus ((conv => lhs; simp (disch := omega) [e12, e13]); done)))
        | ((with_reducible apply fnA_i); (focus ((conv => lhs; simp (disch := omega) [e12, e13]); done)))
        | ((with_reducible apply ValA_fn); (focus ((conv => lhs; simp (disch := omega) [e12, e13]); done)))
        | ((with_reducible apply stabA_fn); (focus ((conv => lhs; simp (disch := omega) [e12, e13]); done)))
        | ((with_reducible apply appA_i); (focus ((conv => lhs; simp (disch := omega) [e12, e13]); done)); (focus ((conv => lhs; simp (disch := omega) [e12, e13]); done)))
        | ((with_reducible apply stab_do); (focus (simp (disch := omega) [e12, e13]; done)))
        | (simp (decide := true) only [sn26, sqW_nrm, sqW_exit, sqW_ret, inBlk_nrm, inBlk_ret, inBlk_same, inBlk_exit, if_true, if_false, retW_nrm, retW_ret])
        | (with_reducible refine n26_19_w _ _ _ ?_))
      have : a = b := List.ext_getElem? fun j => by
        by_cases hj' : j < a.length
        · exact hj j hj'
        · rw [List.getElem?_eq_none (by omega), List.getElem?_eq_none (by omega)]
      exact ⟨[], by simp [oneOrTuple, this]⟩
  · repeat' (first
      | ((with_reducible apply evs_of); (focus ((conv => lhs; simp (disch := omega) [g0, g1, lx, ly, hl]); done)); try dsimp only)
      | ((with_reducible apply gW_do); (focus (simp (disch := omega) [g0, g1, lx, ly, hl]; done)))
      | ((with_reducible apply gW_no); (focus (simp (disch := omega) [g0, g1, lx, ly, hl]; done)); try dsimp only)
      | ((with_reducible apply gW_un); (focus (simp (disch := omega) [g0, g1, lx, ly, hl]; done)); try dsimp only)
      | ((with_reducible apply cndW_T); (focus (simp (disch := omega) [g0, g1, lx, ly, hl] <;> omega)))
      | ((with_reducible apply cndW_F); (focus (simp (disch := omega) [g0, g1, lx, ly, hl] <;> omega)))
      | ((with_reducible apply stabP_i); (focus (simp (disch := omega) [g0, g1, lx, ly, hl]; done)))
      | (with_reducible apply bothP_i)
      | (with_reducible apply wL_i)
      | ((with_reducible apply ValW_do); (focus (simp (disch := omega) [g0, g1, lx, ly, hl]; done)); try dsimp only)
      | ((with_reducible apply ValW_no); (focus (simp (disch := omega) [g0, g1, lx, ly, hl]; done)); try dsimp only)
      | ((with_reducible apply ValW_un); (focus (simp (disch := omega) [g0, g1, lx, ly, hl]; done)); try dsimp only)
      | ((with_reducible apply SpecA_i); (focus ((conv => lhs; simp (disch := omega) [g0, g1, lx, ly, hl]); done)))
      | ((with_reducible apply ValA_i); (focus ((conv => lhs; simp (disch := omega) [g0, g1, lx, ly, hl]); done)))
      | ((with_reducible apply stabA_i); (focus ((conv => lhs; simp (disch := omega) [g0, g1, lx, ly, hl]); done)))
      | ((with_reducible apply fnA_i); (focus ((conv => lhs; simp (disch := omega) [g0, g1, lx, ly, hl]); done)))
      | ((with_reducible apply ValA_fn); (focus ((conv => lhs; simp (disch := omega) [g0, g1, lx, ly, hl]); done)))
      | ((with_reducible apply stabA_fn); (focus ((conv => lhs; simp (disch := omega) [g0, g1, lx, ly, hl]); done)))
      | ((with_reducible apply appA_i); (focus ((conv => lhs; simp (disch := omega) [g0, g1, lx, ly, hl]); done)); (focus ((conv => lhs; simp (disch := omega) [g0, g1, lx, ly, hl]); done)))
      | ((with_reducible apply stab_do); (focus (simp (disch := omega) [g0, g1, lx, ly, hl]; done)))
      | (simp (decide := true) only [sn26, sqW_nrm, sqW_exit, sqW_ret, inBlk_nrm, inBlk_ret, inBlk_same, inBlk_exit, if_true, if_false, retW_nrm, retW_ret])
      | (with_reducible refine n26_19_w _ _ _ ?_))
    have : a ≠ b := by rintro rfl; exact hl rfl
    exact ⟨[], by simp [oneOrTuple, this]⟩
theorem c27 {h : Heap} {x y : AV} {a b : List Ban} (hx : Row tBan h x (a.map eBan)) (hy : Row tBan h y (b.map eBan)) : SpecQ Try.prog 27 [x, y] h fun r => r = (.bool (decide (a = b)), h) := by
  have lx := hx.len
  have ly := hy.len
  have bx := hx.bound
  rw [List.length_map] at lx ly bx
  refine SpecQ.drop1 rfl (q27 fun env g0 g1 => ?_)
  by_cases hl : a.length = b.length
  · rw [← hl] at ly
    repeat' (first
      | ((with_reducible apply evs_of); (focus ((conv => lhs; simp (disch := omega) [g0, g1, lx, ly]); done)); try dsimp only)
      | ((with_reducible apply gW_do); (focus (simp (disch := omega) [g0, g1, lx, ly]; done)))
      | ((with_reducible apply gW_no); (focus (simp (disch := omega) [g0, g1, lx, ly]; done)); try dsimp only)
      | ((with_reducible apply gW_un); (focus (simp (disch := omega) [g0, g1, lx, ly]; done)); try dsimp only)
      | ((with_reducible apply cndW_T); (focus (simp (disch := omega) [g0, g1, lx, ly] <;> omega)))
      | ((with_reducible apply cndW_F); (focus (simp (disch := omega) [g0, g1, lx, ly] <;> omega)))
      | ((with_reducible apply stabP_i); (focus (simp (disch := omega) [g0, g1, lx, ly]; done)))
      | (with_reducible apply bothP_i)
      | (with_reducible apply wL_i)
      | ((with_reducible apply ValW_do); (focus (simp (disch := omega) [g0, g1, lx, ly]; done)); try dsimp only)
      | ((with_reducible apply ValW_no); (focus (simp (disch := omega) [g0, g1, lx, ly]; done)); try dsimp only)
      | ((with_reducible apply ValW_un); (focus (simp (disch := omega) [g0, g1, lx, ly]; done)); try dsimp only)
      | ((with_reducible apply SpecA_i); (focus ((conv => lhs; simp (disch := omega) [g0, g1, lx, ly]); done)))
      | ((with_reducible apply ValA_i); (focus ((conv => lhs; simp (disch := omega) [g0, g1, lx, ly]); done)))
      | ((with_reducible apply stabA_i); (focus ((conv => lhs; simp (disch := omega) [g0, g1, lx, ly]); done)))
      | ((with_reducible apply fnA_i); (focus ((conv => lhs; simp (disch := omega) [g0, g1, lx, ly]); done)))
      | ((with_reducible apply ValA_fn); (focus ((conv => lhs; simp (disch := omega) [g0, g1, lx, ly]); done)))
      | ((with_reducible apply stabA_fn); (focus ((conv => lhs; simp (disch := omega) [g0, g1, lx, ly]); done)))
      | ((with_reducible apply appA_i); (focus ((conv => lhs; simp (disch := omega) [g0, g1, lx, ly]); done)); (focus ((conv => lhs; simp (disch := omega) [g0, g1, lx, ly]); done)))
      | ((with_reducible apply stab_do); (focus (simp (disch := omega) [g0, g1, lx, ly]; done)))
      | (simp (decide := true) only [sn27, sqW_nrm, sqW_exit, sqW_ret, inBlk_nrm, inBlk_ret, inBlk_same, inBlk_exit, if_true, if_false, retW_nrm, retW_ret])
      | (with_reducible refine n27_19_w _ _ _ ?_))
    refine loop_up a.length (fun i st => ∃ env', st = ⟨env', h⟩ ∧ env'.get 0 = x ∧ env'.get 1 = y ∧ env'.get 12 = nat a.length ∧ env'.get 13 = nat i ∧ ∀ j, j < i → a[j]? = b[j]?) ?_ ?_ ⟨_, rfl, by simp [g0], by simp [g1], by simp, by simp, fun j hj => absurd hj (by omega)⟩
    · rintro i st hi ⟨env', rfl, e0, e1, e12, e13, hj⟩
      obtain ⟨p, p1, p2⟩ := hx.idx0 (i := i) (by simpa using hi)
      obtain ⟨q, q1, q2⟩ := hy.idx0 (i := i) (by simpa [← hl] using hi)
      rw [List.getElem?_map, List.getElem?_eq_getElem hi] at p2
      rw [List.getElem?_map, List.getElem?_eq_getElem (by omega)] at q2
      simp only [Option.map_some] at p2 q2
      by_cases hab : a[i] = b[i]
      · repeat' (first
          | ((with_reducible apply evs_of); (focus ((conv => lhs; simp (disch := omega) [e0, e1, e12, e13, p1, p2, q1, q2, hab]); done)); try dsimp only)
          | ((with_reducible apply gW_do); (focus (simp (disch := omega) [e0, e1, e12, e13, p1, p2, q1, q2, hab]; done)))
          | ((with_reducible apply gW_no); (focus (simp (disch := omega) [e0, e1, e12, e13, p1, p2, q1, q2, hab]; done)); try dsimp only)
          | ((with_reducible apply gW_un); (focus (simp (disch := omega) [e0, e1, e12, e13, p1, p2, q1, q2, hab]; done)); try dsimp only)
          | ((with_reducible apply cndW_T); (focus (simp (disch := omega) [e0, e1, e12, e13, p1, p2, q1, q2, hab] <;> omega)))
          | ((with_reducible apply cndW_F); (focus (simp (disch := omega) [e0, e1, e12, e13, p1, p2, q1, q2, hab] <;> omega)))
          | ((with_reducible apply stabP_i); (focus (simp (disch := omega) [e0, e1, e12, e13, p1, p2, q1, q2, hab]; done)))
          | (with_reducible apply bothP_i)
          | (with_reducible apply wL_i)
          | ((with_reducible apply ValW_do); (focus (simp (disch := omega) [e0, e1, e12, e13, p1, p2, q1, q2, hab]; done)); try dsimp only)
          | ((with_reducible apply ValW_no); (focus (simp (disch := omega) [e0, e1, e12, e13, p1, p2, q1, q2, hab]; done)); try dsimp only)
          | ((with_reducible apply ValW_un); (focus (simp (disch := omega) [e0, e1, e12, e13, p1, p2, q1, q2, hab]; done)); try dsimp only)
          | ((with_reducible apply SpecA_i); (focus ((conv => lhs; simp (disch := omega) [e0, e1, e12, e13, p1, p2, q1, q2, hab]); done)))
          | ((with_reducible apply ValA_i); (focus ((conv => lhs; simp (disch := omega) [e0, e1, e12, e13, p1, p2, q1, q2, hab]); done)))
          | ((with_reducible apply stabA_i); (focus ((conv => lhs; simp (disch := omega) [e0, e1, e12, e13, p1, p2, q1, q2, hab]); done)))
          | ((with_reducible apply fnA_i); (focus ((conv => lhs; simp (disch := omega) [e0, e1, e12, e13, p1, p2, q1, q2, hab]); done)))
          | ((with_reducible apply ValA_fn); (focus ((conv => lhs; simp (disch := omega) [e0, e1, e12, e13, p1, p2, q1, q2, hab]); done)))
          | ((with_reducible apply stabA_fn); (focus ((conv => lhs; simp (disch := omega) [e0, e1, e12, e13, p1, p2, q1, q2, hab]); done)))
          | ((with_reducible apply appA_i); (focus ((conv => lhs; simp (disch := omega) [e0, e1, e12, e13, p1, p2, q1, q2, hab]); done)); (focus ((conv => lhs; simp (disch := omega) [e0, e1, e12, e13, p1, p2, q1, q2, hab]); done)))
          | ((with_reducible apply stab_do); (focus (simp (disch := omega) [e0, e1, e12, e13, p1, p2, q1, q2, hab]; done)))
          | (simp (decide := true) only [sn27, sqW_nrm, sqW_exit, sqW_ret, inBlk_nrm, inBlk_ret, inBlk_same, inBlk_exit, if_true, if_false, retW_nrm, retW_ret])
          | (with_reducible refine n27_19_w _ _ _ ?_))
        refine .inl ⟨by simp, _, rfl, by simp [e0], by simp [e1], by simp [e12], by simp, fun j hj' => ?_⟩
        by_cases hji : j = i
        · subst hji
          rw [List.getElem?_eq_getElem hi, List.getElem?_eq_getElem (by omega), hab]
        · exact hj j (by omega)
      · repeat' (first
          | ((with_reducible apply evs_of); (focus ((conv => lhs; simp (disch := omega) [e0, e1, e12, e13, p1, p2, q1, q2, hab]); done)); try dsimp only)
          | ((with_reducible apply gW_do); (focus (simp (disch := omega) [e0, e1, e12, e13, p1, p2, q1, q2, hab]; done)))
          | ((with_reducible apply gW_no); (focus (simp (disch := omega) [e0, e1, e12, e13, p1, p2, q1, q2, hab]; done)); try dsimp only)
          | ((with_reducible apply gW_un); (focus (simp (disch := omega) [e0, e1, e12, e13, p1, p2, q1, q2, hab]; done)); try dsimp only)
          | ((with_reducible apply cndW_T); (focus (simp (disch := omega) [e0, e1, e12, e13, p1, p2, q1, q2, hab] <;> omega)))
          | ((with_reducible apply cndW_F); (focus (simp (disch := omega) [e0, e1, e12, e13, p1, p2, q1, q2, hab] <;> omega)))
          | ((with_reducible apply stabP_i); (focus (simp (disch := omega) [e0, e1, e12, e13, p1, p2, q1, q2, hab]; done)))
          | (with_reducible apply bothP_i)
          | (with_reducible apply wL_i)
          | ((with_reducible apply ValW_do); (focus (simp (disch := omega) [e0, e1, e12, e13, p1, p2, q1, q2, hab]; done)); try dsimp only)
          | ((with_reducible apply ValW_no); (focus (simp (disch := omega) [e0, e1, e12, e13, p1, p2, q1, q2, hab]; done)); try dsimp only)
          | ((with_reducible apply ValW_un); (focus (simp (disch := omega) [e0, e1, e12, e13, p1, p2, q1, q2, hab]; done)); try dsimp only)
          | ((with_reducible apply SpecA_i); (focus ((conv => lhs; simp (disch := omega) [e0, e1, e12, e13, p1, p2, q1, q2, hab]); done)))
          | ((with_reducible apply ValA_i); (focus ((conv => lhs; simp (disch := omega) [e0, e1, e12, e13, p1, p2, q1, q2, hab]); done)))
          | ((with_reducible apply stabA_i); (focus ((conv => lhs; simp (disch := omega) [e0, e1, e12, e13, p1, p2, q1, q2, hab]); done)))
          | ((with_reducible apply fnA_i); (focus ((conv => lhs; simp (disch := omega) [e0, e1, e12, e13, p1, p2, q1, q2, hab]); done)))
          | ((with_reducible apply ValA_fn); (focus ((conv => lhs; simp (disch := omega) [e0, e1, e12, e13, p1, p2, q1, q2, hab]); done)))
          | ((with_reducible apply stabA_fn); (focus ((conv => lhs; simp (disch := omega) [e0, e1, e12, e13, p1, p2, q1, q2, hab]); done)))
          | ((with_reducible apply appA_i); (focus ((conv => lhs; simp (disch := omega) [e0, e1, e12, e13, p1, p2, q1, q2, hab]); done)); (focus ((conv => lhs; simp (disch := omega) [e0, e1, e12, e13, p1, p2, q1, q2, hab]); done)))
          | ((with_reducible apply stab_do); (focus (simp (disch := omega) [e0, e1, e12, e13, p1, p2, q1, q2, hab]; done)))
          | (simp (decide := true) only [sn27, sqW_nrm, sqW_exit, sqW_ret, inBlk_nrm, inBlk_ret, inBlk_same, inBlk_exit, if_true, if_false, retW_nrm, retW_ret])
          | (with_reducible refine n27_19_w _ _ _ ?_))
        refine .inr ⟨by simp, ?_⟩
        repeat' (first
          | ((with_reducible apply evs_of); (focus ((conv => lhs; simp (disch := omega) [e0]); done)); try dsimp only)
          | ((with_reducible apply gW_do); (focus (simp (disch := omega) [e0]; done)))
          | ((with_reducible apply gW_no); (focus (simp (disch := omega) [e0]; done)); try dsimp only)
          | ((with_reducible apply gW_un); (focus (simp (disch := omega) [e0]; done)); try dsimp only)
          | ((with_reducible apply cndW_T); (focus (simp (disch := omega) [e0] <;> omega)))
          | ((with_reducible apply cndW_F); (focus (simp (disch := omega) [e0] <;> omega)))
          | ((with_reducible apply stabP_i); (focus (simp (disch := omega) [e0]; done)))
          | (with_reducible apply bothP_i)
          | (with_reducible apply wL_i)
          | ((with_reducible apply ValW_do); (focus (simp (disch := omega) [e0]; done)); try dsimp only)
          | ((with_reducible apply ValW_no); (focus (simp (disch := omega) [e0]; done)); try dsimp only)
          | ((with_reducible apply ValW_un); (focus (simp (disch := omega) [e0]; done)); try dsimp only)
          | ((with_reducible apply SpecA_i); (focus ((conv => lhs; simp (disch := omega) [e0]); done)))
          | ((with_reducible apply ValA_i); (focus ((conv => lhs; simp (disch := omega) [e0]); done)))
          | ((with_reducible apply stabA_i); (focus ((conv => lhs; simp (disch := omega) [e0]); done)))
          | ((with_reducible apply fnA_i); (focus ((conv => lhs; simp (disch := omega) [e0]); done)))
          | ((with_reducible apply ValA_fn); (focus ((conv => lhs; simp (disch := omega) [e0]); done)))
          | ((with_reducible apply stabA_fn); (focus ((conv => lhs; simp (disch := omega) [e0]); done)))
          | ((with_reducible apply appA_i); (focus ((conv => lhs; simp (disch := omega) [e0]); done)); (focus ((conv => lhs; simp (disch := omega) [e0]); done)))
          | ((with_reducible apply stab_do); (focus (simp (disch := omega) [e0]; done)))
          | (simp (decide := true) only [sn27, sqW_nrm, sqW_exit, sqW_ret, inBlk_nrm, inBlk_ret, inBlk_same, inBlk_exit, if_true, if_false, retW_nrm, retW_ret])
          | (with_reducible refine n27_19_w _ _ _ ?_))
        have : a ≠ b := by rintro rfl; exact hab rfl
        exact ⟨[], by simp [oneOrTuple, this]⟩
    · rintro st ⟨env', rfl, e0, e1, e12, e13, hj⟩
      repeat' (first
        | ((with_reducible apply evs_of); (focus ((conv => lhs; simp (disch := omega) [e12, e13]); done)); try dsimp only)
        | ((with_reducible apply gW_do); (focus (simp (disch := omega) [e12, e13]; done)))
        | ((with_reducible apply gW_no); (focus (simp (disch := omega) [e12, e13]; done)); try dsimp only)
        | ((with_reducible apply gW_un); (focus (simp (disch := omega) [e12, e13]; done)); try dsimp only)
        | ((with_reducible apply cndW_T); (focus (simp (disch := omega) [e12, e13] <;> omega)))
        | ((with_reducible apply cndW_F); (focus (simp (disch := omega) [e12, e13] <;> omega)))
        | ((with_reducible apply stabP_i); (focus (simp (disch := omega) [e12, e13]; done)))
        | (with_reducible apply bothP_i)
        | (with_reducible apply wL_i)
        | ((with_reducible apply ValW_do); (focus (simp (disch := omega) [e12, e13]; done)); try dsimp only)
        | ((with_reducible apply ValW_no); (focus (simp (disch := omega) [e12, e13]; done)); try dsimp only)
        | ((with_reducible apply ValW_un); (focus (simp (disch := omega) [e12, e13]; done)); try dsimp only)
        | ((with_reducible apply SpecA_i); (focus ((conv => lhs; simp (disch := omega) [e12, e13]); done)))
        | ((with_reducible apply ValA_i); (focus ((conv => lhs; simp (disch := omega) [e12, e13]); done)))
        | ((with_reducible apply stabA_i); (focus ((conv => lhs; simp (disch := omega) [e12, e13]); done)))
        | ((with_reducible apply fnA_i); (focus ((conv => lhs; simp (disch := omega) [e12, e13]); done)))
        | ((with_reducible apply ValA_fn); (focus ((conv => lhs; simp (disch := omega) [e12, e13]); done)))
        | ((with_reducible apply stabA_fn); (focus ((conv => lhs; simp (disch := omega) [e12, e13]); done)))
        | ((with_reducible apply appA_i); (focus ((conv => lhs; simp (disch := omega) [e12, e13]); done)); (focus ((conv => lhs; simp (disch := omega) [e12, e13]); done)))
        | ((with_reducible apply stab_do); (focus (simp (disch := omega) [e12, e13]; done)))
        | (simp (decide := true) only [sn27, sqW_nrm, sqW_exit, sqW_ret, inBlk_nrm, inBlk_ret, inBlk_same, inBlk_exit, if_true, if_false, retW_nrm, retW_ret])
        | (with_reducible refine n27_19_w _ _ _ ?_))
      refine ⟨by simp, ?_⟩
      repeat' (first
        | ((with_reducible apply evs_of); (focus ((conv => lhs; simp (disch := omega) [e12, e13]); done)); try dsimp only)
        | ((with_reducible apply gW_do); (focus (simp (disch := omega) [e12, e13]; done)))
        | ((with_reducible apply gW_no); (focus (simp (disch := omega) [e12, e13]; done)); try dsimp only)
        | ((with_reducible apply gW_un); (focus (simp (disch := omega) [e12, e13]; done)); try dsimp only)
        | ((with_reducible apply cndW_T); (focus (simp (disch := omega) [e12, e13] <;> omega)))
        | ((with_reducible apply cndW_F); (focus (simp (disch := omega) [e12, e13] <;> omega)))
        | ((with_reducible apply stabP_i); (focus (simp (disch := omega) [e12, e13]; done)))
        | (with_reducible apply bothP_i)
        | (with_reducible apply wL_i)
        | ((with_reducible apply ValW_do); (focus (simp (disch := omega) [e12, e13]; done)); try dsimp only)
        | ((with_reducible apply ValW_no); (focus (simp (disch := omega) [e12, e13]; done)); try dsimp only)
        | ((with_reducible apply ValW_un); (focus (simp (disch := omega) [e12, e13]; done)); try dsimp only)
        | ((with_reducible apply SpecA_i); (focus ((conv => lhs; simp (disch := omega) [e12, e13]); done)))
        | ((with_reducible apply ValA_i); (focus ((conv => lhs; simp (disch := omega) [e12, e13]); done)))
        | ((with_reducible apply stabA_i); (focus ((conv => lhs; simp (disch := omega) [e12, e13]); done)))
        | ((with_reducible apply fnA_i); (focus ((conv => lhs; simp (disch := omega) [e12, e13]); done)))
        | ((with_reducible apply ValA_fn); (focus ((conv => lhs; simp (disch := omega) [e12, e13]); done)))
        | ((with_reducible apply stabA_fn); (focus ((conv => lhs; simp (disch := omega) [e12, e13]); done)))
        | ((with_reducible apply appA_i); (focus ((conv => lhs; simp (disch := omega) [e12, e13]); done)); (focus ((conv => lhs; simp (disch := omega) [e12, e13]); done)))
        | ((with_reducible apply stab_do); (focus (simp (disch := omega) [e12, e13]; done)))
        | (simp (decide := true) only [sn27, sqW_nrm, sqW_exit, sqW_ret, inBlk_nrm, inBlk_ret, inBlk_same, inBlk_exit, if_true, if_false, retW_nrm, retW_ret])
        | (with_reducible refine n27_19_w _ _ _ ?_))
      have : a = b := List.ext_getElem? fun j => by
        by_cases hj' : j < a.length
        · exact hj j hj'
        · rw [List.getElem?_eq_none (by omega), List.getElem?_eq_none (by omega)]
      exact ⟨[], by simp [oneOrTuple, this]⟩
  · repeat' (first
      | ((with_reducible apply evs_of); (focus ((conv => lhs; simp (disch := omega) [g0, g1, lx, ly, hl]); done)); try dsimp only)
      | ((with_reducible apply gW_do); (focus (simp (disch := omega) [g0, g1, lx, ly, hl]; done)))
      | ((with_reducible apply gW_no); (focus (simp (disch := omega) [g0, g1, lx, ly, hl]; done)); try dsimp only)
      | ((with_reducible apply gW_un); (focus (simp (disch := omega) [g0, g1, lx, ly, hl]; done)); try dsimp only)
      | ((with_reducible apply cndW_T); (focus (simp (disch := omega) [g0, g1, lx, ly, hl] <;> omega)))
      | ((with_reducible apply cndW_F); (focus (simp (disch := omega) [g0, g1, lx, ly, hl] <;> omega)))
      | ((with_reducible apply stabP_i); (focus (simp (disch := omega) [g0, g1, lx, ly, hl]; done)))
      | (with_reducible apply bothP_i)
      | (with_reducible apply wL_i)
      | ((with_reducible apply ValW_do); (focus (simp (disch := omega) [g0, g1, lx, ly, hl]; done)); try dsimp only)
      | ((with_reducible apply ValW_no); (focus (simp (disch := omega) [g0, g1, lx, ly, hl]; done)); try dsimp only)
      | ((with_reducible apply ValW_un); (focus (simp (disch := omega) [g0, g1, lx, ly, hl]; done)); try dsimp only)
      | ((with_reducible apply SpecA_i); (focus ((conv => lhs; simp (disch := omega) [g0, g1, lx, ly, hl]); done)))
      | ((with_reducible apply ValA_i); (focus ((conv => lhs; simp (disch := omega) [g0, g1, lx, ly, hl]); done)))
      | ((with_reducible apply stabA_i); (focus ((conv => lhs; simp (disch := omega) [g0, g1, lx, ly, hl]); done)))
      | ((with_reducible apply fnA_i); (focus ((conv => lhs; simp (disch := omega) [g0, g1, lx, ly, hl]); done)))
      | ((with_reducible apply ValA_fn); (focus ((conv => lhs; simp (disch := omega) [g0, g1, lx, ly, hl]); done)))
      | ((with_reducible apply stabA_fn); (focus ((conv => lhs; simp (disch := omega) [g0, g1, lx, ly, hl]); done)))
      | ((with_reducible apply appA_i); (focus ((conv => lhs; simp (disch := omega) [g0, g1, lx, ly, hl]); done)); (focus ((conv => lhs; simp (disch := omega) [g0, g1, lx, ly, hl]); done)))
      | ((with_reducible apply stab_do); (focus (simp (disch := omega) [g0, g1, lx, ly, hl]; done)))
      | (simp (decide := true) only [sn27, sqW_nrm, sqW_exit, sqW_ret, inBlk_nrm, inBlk_ret, inBlk_same, inBlk_exit, if_true, if_false, retW_nrm, retW_ret])
      | (with_reducible refine n27_19_w _ _ _ ?_))
    have : a ≠ b := by rintro rfl; exact hl rfl
    exact ⟨[], by simp [oneOrTuple, this]⟩

end Go.Vab

/- How the code of a function is read. Printed by wip/tools/gen2.py (own work). -/
namespace Go.Vab
open Go Go.Proofs
/-! vestry/forms.SameState -/
def cx8 : Ctx := ⟨fun _ _ _ => none, TT, 66, [5, 6, 7, 8, 9, 10, 11, 12, 13, 14, 15, 16, 17, 18, 19, 20, 21, 22, 23, 24, 25, 26, 27, 28, 29, 30, 31, 32, 33, 34, 35, 36, 37, 38, 39, 40, 41, 42, 43, 44, 45, 46, 47, 48, 49, 50, 51, 52, 53, 54, 55, 56, 57, 58, 59, 60, 61, 62, 63, 64, 65]⟩
noncomputable def n8_0 : Code := bodyOf Try.f8
noncomputable def n8_1 : Code := cR n8_0
noncomputable def n8_2 : Code := cR n8_1
theorem n8_2_eq (Q : Ex × St → Prop) (s : St) : wC Try.prog cx8 n8_2 Q s = Q (.ret, s) := yE
theorem n8_1_eq (Q : Ex × St → Prop) (env : Env) (h : Heap) : wC Try.prog cx8 n8_1 Q ⟨env, h⟩ = (Evs (mFieldAddr tState (env.get 2) 0) fun v0 => Evs (mLoad (.int .u32) v0 h) fun v1 => Evs (mFieldAddr tState (env.get 3) 0) fun v2 => Evs (mLoad (.int .u32) v2 h) fun v3 => Evs (mBin .eql v1 v3) fun v4 => Evs (gv v4 true (mFieldAddr tState (env.get 2) 1)) fun v6 => Evs (gv v4 true (mLoad tPublic v6 h)) fun v7 => Evs (gv v4 true (mFieldAddr tState (env.get 3) 1)) fun v8 => Evs (gv v4 true (mLoad tPublic v8 h)) fun v9 => Evs (gv v4 true (mEq tPublic .eql v7 v9)) fun v10 => Evs (mPick v4 v10 (.bool false)) fun v11 => Evs (gv v11 true (mFieldAddr tState (env.get 2) 2)) fun v13 => Evs (gv v11 true (mLoad .cell v13 h)) fun v14 => Evs (gv v11 true (mFieldAddr tState (env.get 3) 2)) fun v15 => Evs (gv v11 true (mLoad .cell v15 h)) fun v16 => gW v11 true (SpecA Try.prog 23 [v14, v16] h) h fun r17 => Evs (mPick v11 r17.1 (.bool false)) fun v18 => Evs (gv v18 true (mFieldAddr tState (env.get 2) 3)) fun v20 => Evs (gv v18 true (mLoad tAccess v20 r17.2)) fun v21 => Evs (gv v18 true (mFieldAddr tState (env.get 3) 3)) fun v22 => Evs (gv v18 true (mLoad tAccess v22 r17.2)) fun v23 => Evs (gv v18 true (mEq tAccess .eql v21 v23)) fun v24 => Evs (mPick v18 v24 (.bool false)) fun v25 => Evs (gv v25 true (mFieldAddr tState (env.get 2) 4)) fun v27 => Evs (gv v25 true (mLoad .cell v27 r17.2)) fun v28 => Evs (gv v25 true (mFieldAddr tState (env.get 3) 4)) fun v29 => Evs (gv v25 true (mLoad .cell v29 r17.2)) fun v30 => gW v25 true (SpecA Try.prog 23 [v28, v30] r17.2) r17.2 fun r31 => Evs (mPick v25 r31.1 (.bool false)) fun v32 => Evs (gv v32 true (mFieldAddr tState (env.get 2) 5)) fun v34 => Evs (gv v32 true (mLoad .cell v34 r31.2)) fun v35 => Evs (gv v32 true (mFieldAddr tState (env.get 3) 5)) fun v36 => Evs (gv v32 true (mLoad .cell v36 r31.2)) fun v37 => gW v32 true (SpecA Try.prog 24 [v35, v37] r31.2) r31.2 fun r38 => Evs (mPick v32 r38.1 (.bool false)) fun v39 => Evs (gv v39 true (mFieldAddr tState (env.get 2) 6)) fun v41 => Evs (gv v39 true (mLoad .cell v41 r38.2)) fun v42 => Evs (gv v39 true (mFieldAddr tState (env.get 3) 6)) fun v43 => Evs (gv v39 true (mLoad .cell v43 r38.2)) fun v44 => gW v39 true (SpecA Try.prog 25 [v42, v44] r38.2) r38.2 fun r45 => Evs (mPick v39 r45.1 (.bool false)) fun v46 => Evs (gv v46 true (mFieldAddr tState (env.get 2) 7)) fun v48 => Evs (gv v46 true (mLoad .cell v48 r45.2)) fun v49 => Evs (gv v46 true (mFieldAddr tState (env.get 3) 7)) fun v50 => Evs (gv v46 true (mLoad .cell v50 r45.2)) fun v51 => gW v46 true (SpecA Try.prog 26 [v49, v51] r45.2) r45.2 fun r52 => Evs (mPick v46 r52.1 (.bool false)) fun v53 => Evs (gv v53 true (mFieldAddr tState (env.get 2) 8)) fun v55 => Evs (gv v53 true (mLoad .cell v55 r52.2)) fun v56 => Evs (gv v53 true (mFieldAddr tState (env.get 3) 8)) fun v57 => Evs (gv v53 true (mLoad .cell v57 r52.2)) fun v58 => gW v53 true (SpecA Try.prog 27 [v56, v58] r52.2) r52.2 fun r59 => Evs (mPick v53 r59.1 (.bool false)) fun v60 => wC Try.prog cx8 n8_2 Q ⟨(Env.put env 4 v60), r59.2⟩) := (ySR 1 (cOps (cL n8_1)) (cR n8_1)).trans (by
  refine w0 ?_
  refine wP 5 fun v0 => ?_
  refine wP 6 fun v1 => ?_
  refine wP 7 fun v2 => ?_
  refine wP 8 fun v3 => ?_
  refine wP 9 fun v4 => ?_
  refine wT 10 v4 ?_
  refine wG 11 fun v6 => ?_
  refine wG 12 fun v7 => ?_
  refine wG 13 fun v8 => ?_
  refine wG 14 fun v9 => ?_
  refine wG 15 fun v10 => ?_
  refine wP 16 fun v11 => ?_
  refine wT 17 v11 ?_
  refine wG 18 fun v13 => ?_
  refine wG 19 fun v14 => ?_
  refine wG 20 fun v15 => ?_
  refine wG 21 fun v16 => ?_
  refine wH 22 fun r17 => ?_
  refine wP 23 fun v18 => ?_
  refine wT 24 v18 ?_
  refine wG 25 fun v20 => ?_
  refine wG 26 fun v21 => ?_
  refine wG 27 fun v22 => ?_
  refine wG 28 fun v23 => ?_
  refine wG 29 fun v24 => ?_
  refine wP 30 fun v25 => ?_
  refine wT 31 v25 ?_
  refine wG 32 fun v27 => ?_
  refine wG 33 fun v28 => ?_
  refine wG 34 fun v29 => ?_
  refine wG 35 fun v30 => ?_
  refine wH 36 fun r31 => ?_
  refine wP 37 fun v32 => ?_
  refine wT 38 v32 ?_
  refine wG 39 fun v34 => ?_
  refine wG 40 fun v35 => ?_
  refine wG 41 fun v36 => ?_
  refine wG 42 fun v37 => ?_
  refine wH 43 fun r38 => ?_
  refine wP 44 fun v39 => ?_
  refine wT 45 v39 ?_
  refine wG 46 fun v41 => ?_
  refine wG 47 fun v42 => ?_
  refine wG 48 fun v43 => ?_
  refine wG 49 fun v44 => ?_
  refine wH 50 fun r45 => ?_
  refine wP 51 fun v46 => ?_
  refine wT 52 v46 ?_
  refine wG 53 fun v48 => ?_
  refine wG 54 fun v49 => ?_
  refine wG 55 fun v50 => ?_
  refine wG 56 fun v51 => ?_
  refine wH 57 fun r52 => ?_
  refine wP 58 fun v53 => ?_
  refine wT 59 v53 ?_
  refine wG 60 fun v55 => ?_
  refine wG 61 fun v56 => ?_
  refine wG 62 fun v57 => ?_
  refine wG 63 fun v58 => ?_
  refine wH 64 fun r59 => ?_
  refine wP 65 fun v60 => ?_
  refine wT 4 v60 ?_
  exact wE)
theorem n8_0_eq (Q : Ex × St → Prop) (env : Env) (h : Heap) : wC Try.prog cx8 n8_0 Q ⟨env, h⟩ = (Evs (mNew tState (env.get 0) h) fun r0 => Evs (mNew tState (env.get 1) r0.2) fun r1 => wC Try.prog cx8 n8_1 Q ⟨(Env.put (Env.put (Env.put env 2 r0.1) 3 r1.1) 4 (.bool false)), r1.2⟩) := (ySR 0 (cOps (cL n8_0)) (cR n8_0)).trans (by
  refine w0 ?_
  refine wH 2 fun r0 => ?_
  refine wH 3 fun r1 => ?_
  refine wT 4 (.bool false) ?_
  exact wE)
theorem fn8 : Try.prog.funcs[8]? = some Try.f8 := by kernel_rfl
theorem q8 {a0 a1 : AV} {h : Heap} {K : AV × Heap → Prop} (H : ∀ env : Env, env.get 0 = a0 → env.get 1 = a1 → wC Try.prog cx8 n8_0 (retW (fun s => (bnd (some (s.env.get 4)) fun v => bnd (some []) fun vs => some (v :: vs))) K) ⟨env, h⟩) : SpecQ Try.prog 8 [a0, a1] h K :=
  bodyW_sound (C := cx8) TT_ok mixed_ok fn8 (by kernel_rfl) (show _ = some n8_0 by kernel_rfl) (by kernel_rfl) (by kernel_rfl) (of_decide_eq_true (by kernel_rfl)) ((show wC Try.prog cx8 n8_0 (retW (fun s => resAll cx8 s Try.f8.results.toList) K) ⟨env0 cx8 [a0, a1], h⟩ = wC Try.prog cx8 n8_0 (retW (fun s => (bnd (some (s.env.get 4)) fun v => bnd (some []) fun vs => some (v :: vs))) K) ⟨[(0, a0), (1, a1), (2, .junk), (3, .junk), (4, .junk)], h⟩ by kernel_rfl).mpr (H [(0, a0), (1, a1), (2, .junk), (3, .junk), (4, .junk)] rfl rfl))
def sn8 := And.intro n8_2_eq (And.intro n8_1_eq (n8_0_eq))
-- draws: 
end Go.Vab

/-
  forms.SameState, walked.
-/
namespace Go.Vab
open Go Go.Proofs

theorem c8 {h : Heap} {a b : Stt} {at_ ap as_ ai aa ab bt bp bs bi ba bb : AV} (ra : StR h a at_ ap as_ ai aa ab) (rb : StR h b bt bp bs bi ba bb) :
    SpecQ Try.prog 8 [eSt a at_ ap as_ ai aa ab, eSt b bt bp bs bi ba bb] h fun r => r = (.bool (decide (a = b)), h) := by
  have ta := ra.cells
  have tb := rb.cells
  refine SpecQ.drop1 rfl (q8 fun env g0 g1 => ?_)
  repeat' (first
    | ((with_reducible apply evs_of); (focus ((conv => lhs; simp (disch := omega) [g0, g1, ta, tb]); done)); try dsimp only)
    | ((with_reducible apply gW_do); (focus (simp (disch := omega) [g0, g1, ta, tb]; done)))
    | ((with_reducible apply gW_no); (focus (simp (disch := omega) [g0, g1, ta, tb]; done)); try dsimp only)
    | ((with_reducible apply gW_un); (focus (simp (disch := omega) [g0, g1, ta, tb]; done)); try dsimp only)
    | ((with_reducible apply cndW_T); (focus (simp (disch := omega) [g0, g1, ta, tb] <;> omega)))
    | ((with_reducible apply cndW_F); (focus (simp (disch := omega) [g0, g1, ta, tb] <;> omega)))
    | ((with_reducible apply stabP_i); (focus (simp (disch := omega) [g0, g1, ta, tb]; done)))
    | (with_reducible apply bothP_i)
    | (with_reducible apply wL_i)
    | ((with_reducible apply ValW_do); (focus (simp (disch := omega) [g0, g1, ta, tb]; done)); try dsimp only)
    | ((with_reducible apply ValW_no); (focus (simp (disch := omega) [g0, g1, ta, tb]; done)); try dsimp only)
    | ((with_reducible apply ValW_un); (focus (simp (disch := omega) [g0, g1, ta, tb]; done)); try dsimp only)
    | (with_reducible refine ValW_i (c23 (ra.ft.app _) (rb.ft.app _)) ?_; try dsimp only)
    | (with_reducible refine SpecQ.step (c23 (ra.ft.app _) (rb.ft.app _)) ?_; rintro _ rfl; try dsimp only)
    | (with_reducible refine stabP_i (c23 (ra.ft.app _) (rb.ft.app _)) ?_)
    | (with_reducible refine ValW_i (c23 (ra.fp.app _) (rb.fp.app _)) ?_; try dsimp only)
    | (with_reducible refine SpecQ.step (c23 (ra.fp.app _) (rb.fp.app _)) ?_; rintro _ rfl; try dsimp only)
    | (with_reducible refine stabP_i (c23 (ra.fp.app _) (rb.fp.app _)) ?_)
    | (with_reducible refine ValW_i (c24 (ra.fs.app _) (rb.fs.app _)) ?_; try dsimp only)
    | (with_reducible refine SpecQ.step (c24 (ra.fs.app _) (rb.fs.app _)) ?_; rintro _ rfl; try dsimp only)
    | (with_reducible refine stabP_i (c24 (ra.fs.app _) (rb.fs.app _)) ?_)
    | (with_reducible refine ValW_i (c25 (ra.fi.app _) (rb.fi.app _)) ?_; try dsimp only)
    | (with_reducible refine SpecQ.step (c25 (ra.fi.app _) (rb.fi.app _)) ?_; rintro _ rfl; try dsimp only)
    | (with_reducible refine stabP_i (c25 (ra.fi.app _) (rb.fi.app _)) ?_)
    | (with_reducible refine ValW_i (c26 (ra.fa.app _) (rb.fa.app _)) ?_; try dsimp only)
    | (with_reducible refine SpecQ.step (c26 (ra.fa.app _) (rb.fa.app _)) ?_; rintro _ rfl; try dsimp only)
    | (with_reducible refine stabP_i (c26 (ra.fa.app _) (rb.fa.app _)) ?_)
    | (with_reducible refine ValW_i (c27 (ra.fb.app _) (rb.fb.app _)) ?_; try dsimp only)
    | (with_reducible refine SpecQ.step (c27 (ra.fb.app _) (rb.fb.app _)) ?_; rintro _ rfl; try dsimp only)
    | (with_reducible refine stabP_i (c27 (ra.fb.app _) (rb.fb.app _)) ?_)
    | ((with_reducible apply SpecA_i); (focus ((conv => lhs; simp (disch := omega) [g0, g1, ta, tb]); done)))
    | ((with_reducible apply ValA_i); (focus ((conv => lhs; simp (disch := omega) [g0, g1, ta, tb]); done)))
    | ((with_reducible apply stabA_i); (focus ((conv => lhs; simp (disch := omega) [g0, g1, ta, tb]); done)))
    | ((with_reducible apply fnA_i); (focus ((conv => lhs; simp (disch := omega) [g0, g1, ta, tb]); done)))
    | ((with_reducible apply ValA_fn); (focus ((conv => lhs; simp (disch := omega) [g0, g1, ta, tb]); done)))
    | ((with_reducible apply stabA_fn); (focus ((conv => lhs; simp (disch := omega) [g0, g1, ta, tb]); done)))
    | ((with_reducible apply appA_i); (focus ((conv => lhs; simp (disch := omega) [g0, g1, ta, tb]); done)); (focus ((conv => lhs; simp (disch := omega) [g0, g1, ta, tb]); done)))
    | ((with_reducible apply stab_do); (focus (simp (disch := omega) [g0, g1, ta, tb]; done)))
    | (simp (decide := true) only [sn8, sqW_nrm, sqW_exit, sqW_ret, inBlk_nrm, inBlk_ret, inBlk_same, inBlk_exit, if_true, if_false, retW_nrm, retW_ret])
    | ((with_reducible apply cndW_splitE); (focus ((conv => lhs; simp (disch := omega) [g0, g1, ta, tb]); done)); all_goals ((intro hb; try simp only [Bool.not_true, Bool.not_false] at hb); try simp only [hb]))
    | (with_reducible refine gv_split ?_ ?_ <;> (intro hb; try simp only [Bool.not_true, Bool.not_false] at hb) <;> try simp only [hb])
    | (with_reducible refine gW_split ?_ ?_ <;> (intro hb; try simp only [Bool.not_true, Bool.not_false] at hb) <;> try simp only [hb])
    | (with_reducible refine cndW_split ?_ ?_ <;> (intro hb; try simp only [Bool.not_true, Bool.not_false] at hb) <;> try simp only [hb])
    | (with_reducible refine ValW_split ?_ ?_ <;> (intro hb; try simp only [Bool.not_true, Bool.not_false] at hb) <;> try simp only [hb]))
  all_goals refine fin_b ?_
  all_goals (clear ra rb ta tb; cases a; cases b; simp_all)

end Go.Vab

/- How the code of a function is read. Printed by wip/tools/gen2.py (own work). -/
namespace Go.Vab
open Go Go.Proofs
/-! vestry/vestrylaw18.FormsSame -/
def cx3 : Ctx := ⟨fun _ _ _ => none, TT, 77, [9, 10, 11, 12, 13, 14, 15, 16, 17, 18, 19, 20, 21, 22, 23, 24, 25, 26, 27, 28, 29, 30, 31, 33, 34, 35, 36, 37, 38, 39, 40, 41, 42, 43, 44, 45, 46, 47, 48, 49, 50, 51, 52, 53, 54, 55, 56, 57, 58, 59, 60, 61, 62, 63, 64, 65, 66, 67, 68, 69, 70, 71, 72, 73, 74, 75, 76]⟩
noncomputable def n3_0 : Code := bodyOf Try.f3
noncomputable def n3_1 : Code := cR n3_0
noncomputable def n3_2 : Code := cL n3_1
noncomputable def n3_3 : Code := cR n3_2
noncomputable def n3_4 : Code := cL n3_3
noncomputable def n3_5 : Code := cR n3_4
noncomputable def n3_6 : Code := cR n3_3
noncomputable def n3_7 : Code := cR n3_1
noncomputable def n3_8 : Code := cR n3_7
theorem n3_5_eq (Q : Ex × St → Prop) (s : St) : wC Try.prog cx3 n3_5 Q s = Q (.ret, s) := yE
theorem n3_4_eq (Q : Ex × St → Prop) (env : Env) (h : Heap) : wC Try.prog cx3 n3_4 Q ⟨env, h⟩ = (SpecA Try.prog 7 [] h fun r0 => wC Try.prog cx3 n3_5 Q ⟨(Env.put env 8 r0.1), r0.2⟩) := (ySR 2 (cOps (cL n3_4)) (cR n3_4)).trans (by
  refine w0 ?_
  refine wH 33 fun r0 => ?_
  refine wT 8 r0.1 ?_
  exact wE)
theorem n3_6_eq (Q : Ex × St → Prop) (s : St) : wC Try.prog cx3 n3_6 Q s = Q (.nrm, s) := yK
theorem n3_3_eq (Q : Ex × St → Prop) (s : St) : wC Try.prog cx3 n3_3 Q s = cndW (s.env.get 32) (wL Try.prog cx3 n3_4 Q s) (wL Try.prog cx3 n3_6 Q s) := yC 32 _ _
theorem n3_2_eq (Q : Ex × St → Prop) (env : Env) (h : Heap) : wC Try.prog cx3 n3_2 Q ⟨env, h⟩ = (Evs (mLoad tState (env.get 4) h) fun v0 => SpecA Try.prog 6 [v0] h fun r1 => Evs (gv r1.1 false (mLoad tState (env.get 5) r1.2)) fun v3 => gW r1.1 false (SpecA Try.prog 6 [v3] r1.2) r1.2 fun r4 => Evs (mPick r1.1 (.bool true) r4.1) fun v5 => Evs (gv v5 false (mFieldAddr tAction (env.get 6) 5)) fun v7 => Evs (gv v5 false (mLoad .cell v7 r4.2)) fun v8 => Evs (gv v5 false (mLenS v8)) fun v9 => Evs (gv v5 false (mFieldAddr tAction (env.get 6) 7)) fun v10 => Evs (gv v5 false (mLoad .cell v10 r4.2)) fun v11 => Evs (gv v5 false (mLenS v11)) fun v12 => Evs (gv v5 false (mBin .add v9 v12)) fun v13 => Evs (gv v5 false (mFieldAddr tAction (env.get 7) 5)) fun v14 => Evs (gv v5 false (mLoad .cell v14 r4.2)) fun v15 => Evs (gv v5 false (mLenS v15)) fun v16 => Evs (gv v5 false (mBin .add v13 v16)) fun v17 => Evs (gv v5 false (mFieldAddr tAction (env.get 7) 7)) fun v18 => Evs (gv v5 false (mLoad .cell v18 r4.2)) fun v19 => Evs (gv v5 false (mLenS v19)) fun v20 => Evs (gv v5 false (mBin .add v17 v20)) fun v21 => Evs (gv v5 false (mBin .gtr v21 (nat 20000))) fun v22 => Evs (mPick v5 (.bool true) v22) fun v23 => wC Try.prog cx3 n3_3 Q ⟨(Env.put env 32 v23), r4.2⟩) := (ySR 1 (cOps (cL n3_2)) (cR n3_2)).trans (by
  refine w0 ?_
  refine wP 9 fun v0 => ?_
  refine wH 10 fun r1 => ?_
  refine wT 11 r1.1 ?_
  refine wG 12 fun v3 => ?_
  refine wH 13 fun r4 => ?_
  refine wP 14 fun v5 => ?_
  refine wT 15 v5 ?_
  refine wG 16 fun v7 => ?_
  refine wG 17 fun v8 => ?_
  refine wG 18 fun v9 => ?_
  refine wG 19 fun v10 => ?_
  refine wG 20 fun v11 => ?_
  refine wG 21 fun v12 => ?_
  refine wG 22 fun v13 => ?_
  refine wG 23 fun v14 => ?_
  refine wG 24 fun v15 => ?_
  refine wG 25 fun v16 => ?_
  refine wG 26 fun v17 => ?_
  refine wG 27 fun v18 => ?_
  refine wG 28 fun v19 => ?_
  refine wG 29 fun v20 => ?_
  refine wG 30 fun v21 => ?_
  refine wG 31 fun v22 => ?_
  refine wP 32 fun v23 => ?_
  exact wE)
theorem n3_8_eq (Q : Ex × St → Prop) (s : St) : wC Try.prog cx3 n3_8 Q s = Q (.ret, s) := yE
theorem n3_7_ok : treeOk (cOps (cL n3_7)).toList [37] [0, 0, 3, 0, 0, 31, 63, 127, 255, 255, 1023, 255, 255, 8191, 16383, 32767, 65535, 131071, 131071, 524287, 131071, 131071, 4194303, 8388607, 16777215, 33554431, 67108863, 67108863, 268435455, 67108863, 67108863, 2147483647, 4294967295, 8589934591, 17179869183, 34359738367, 34359738367, 103079215103, 274877906943, 549755813887, 1099511627775, 2199023255551, 4398046511103, 8796093022207] = true := by kernel_rfl
theorem n3_7_w (Q : Ex × St → Prop) (env : Env) (h : Heap) (H : Evs (mLoad tState (env.get 4) h) fun v0_1 => Evs (mLoad tState (env.get 5) h) fun v1_2 => ValW (SpecA Try.prog 8 [v0_1, v1_2] h) h fun v2_3 => Evs (mLoad tState (env.get 4) h) fun v3_4 => Evs (mLoad tState (env.get 5) h) fun v4_5 => ValW (SpecA Try.prog 9 [v3_4, v4_5] h) h fun v5_6 => Evs (mBinB .eql v2_3 v5_6) fun v6_7 => Evs (gv v6_7 true (mLoad tState (env.get 5) h)) fun v8_8 => Evs (gv v6_7 true (mLoad tState (env.get 4) h)) fun v9_9 => ValW (gW v6_7 true (SpecA Try.prog 8 [v8_8, v9_9] h) h) h fun v10_10 => Evs (gv v6_7 true (mLoad tState (env.get 4) h)) fun v11_11 => Evs (gv v6_7 true (mLoad tState (env.get 5) h)) fun v12_12 => ValW (gW v6_7 true (SpecA Try.prog 9 [v11_11, v12_12] h) h) h fun v13_13 => Evs (gv v6_7 true (mBinB .eql v10_10 v13_13)) fun v14_14 => Evs (mPick v6_7 v14_14 (.bool false)) fun v15_15 => Evs (gv v15_15 true (mLoad tAction (env.get 6) h)) fun v17_16 => Evs (gv v15_15 true (mLoad tAction (env.get 7) h)) fun v18_17 => ValW (gW v15_15 true (SpecA Try.prog 10 [v17_16, v18_17] h) h) h fun v19_18 => Evs (gv v15_15 true (mLoad tAction (env.get 6) h)) fun v20_19 => Evs (gv v15_15 true (mLoad tAction (env.get 7) h)) fun v21_20 => ValW (gW v15_15 true (SpecA Try.prog 11 [v20_19, v21_20] h) h) h fun v22_21 => Evs (gv v15_15 true (mBinB .eql v19_18 v22_21)) fun v23_22 => Evs (mPick v15_15 v23_22 (.bool false)) fun v24_23 => Evs (gv v24_23 true (mLoad tAction (env.get 7) h)) fun v26_24 => Evs (gv v24_23 true (mLoad tAction (env.get 6) h)) fun v27_25 => ValW (gW v24_23 true (SpecA Try.prog 10 [v26_24, v27_25] h) h) h fun v28_26 => Evs (gv v24_23 true (mLoad tAction (env.get 6) h)) fun v29_27 => Evs (gv v24_23 true (mLoad tAction (env.get 7) h)) fun v30_28 => ValW (gW v24_23 true (SpecA Try.prog 11 [v29_27, v30_28] h) h) h fun v31_29 => Evs (gv v24_23 true (mBinB .eql v28_26 v31_29)) fun v32_30 => Evs (mPick v24_23 v32_30 (.bool false)) fun v33_31 => Evs (gv v33_31 true (mLoad tState (env.get 4) h)) fun v35_32 => Evs (gv v33_31 true (mLoad tState (env.get 4) h)) fun v36_33 => gW v33_31 true (SpecA Try.prog 12 [v36_33] h) h fun r37_34 => stabP (gv v33_31 true (mLoad tState (env.get 4) r37_34.2) = some v35_32) (ValW (gW v33_31 true (SpecA Try.prog 8 [v35_32, r37_34.1] r37_34.2) r37_34.2) r37_34.2 fun v38_35 => Evs (mPick v33_31 v38_35 (.bool false)) fun v39_36 => ValW (gW v39_36 true (SpecA Try.prog 7 [] r37_34.2) r37_34.2) r37_34.2 fun v41_37 => Evs (mPick v39_36 v41_37 (.bool false)) fun v42_38 => wC Try.prog cx3 n3_8 Q ⟨(Env.put env 8 v42_38), r37_34.2⟩)) : wC Try.prog cx3 n3_7 Q ⟨env, h⟩ := by
  refine ySD 3 (cOps (cL n3_7)) (cR n3_7) [37] [0, 0, 3, 0, 0, 31, 63, 127, 255, 255, 1023, 255, 255, 8191, 16383, 32767, 65535, 131071, 131071, 524287, 131071, 131071, 4194303, 8388607, 16777215, 33554431, 67108863, 67108863, 268435455, 67108863, 67108863, 2147483647, 4294967295, 8589934591, 17179869183, 34359738367, 34359738367, 103079215103, 274877906943, 549755813887, 1099511627775, 2199023255551, 4398046511103, 8796093022207] [0, 1, 2, 3, 4, 5, 6, 7, 8, 9, 10, 11, 12, 13, 14, 15, 16, 17, 18, 19, 20, 21, 22, 23, 24, 25, 26, 27, 28, 29, 30, 31, 32, 33, 34, 35, 36] n3_7_ok ?_
  refine rP H 34 fun v0_1 H => ?_
  refine rP H 35 fun v1_2 H => ?_
  refine rF H 36 (fun v2_3 H => ?_)
  refine rP H 37 fun v3_4 H => ?_
  refine rP H 38 fun v4_5 H => ?_
  refine rF H 39 (fun v5_6 H => ?_)
  refine rP H 40 fun v6_7 H => ?_
  refine rT 41 v6_7 ?_
  refine rG H 42 fun v8_8 H => ?_
  refine rG H 43 fun v9_9 H => ?_
  refine rF H 44 (fun v10_10 H => ?_)
  refine rG H 45 fun v11_11 H => ?_
  refine rG H 46 fun v12_12 H => ?_
  refine rF H 47 (fun v13_13 H => ?_)
  refine rG H 48 fun v14_14 H => ?_
  refine rP H 49 fun v15_15 H => ?_
  refine rT 50 v15_15 ?_
  refine rG H 51 fun v17_16 H => ?_
  refine rG H 52 fun v18_17 H => ?_
  refine rF H 53 (fun v19_18 H => ?_)
  refine rG H 54 fun v20_19 H => ?_
  refine rG H 55 fun v21_20 H => ?_
  refine rF H 56 (fun v22_21 H => ?_)
  refine rG H 57 fun v23_22 H => ?_
  refine rP H 58 fun v24_23 H => ?_
  refine rT 59 v24_23 ?_
  refine rG H 60 fun v26_24 H => ?_
  refine rG H 61 fun v27_25 H => ?_
  refine rF H 62 (fun v28_26 H => ?_)
  refine rG H 63 fun v29_27 H => ?_
  refine rG H 64 fun v30_28 H => ?_
  refine rF H 65 (fun v31_29 H => ?_)
  refine rG H 66 fun v32_30 H => ?_
  refine rP H 67 fun v33_31 H => ?_
  refine rT 68 v33_31 ?_
  refine rG H 69 fun v35_32 H => ?_
  refine rG H 70 fun v36_33 H => ?_
  refine rE ?_
  refine tN 37 [] ?_
  refine aN1 ?_
  refine tH H 71 [38, 39, 40, 41, 42, 43] [35] (fun r37_34 H => ?_)
  refine sG v35_32 69 H (fun H => ?_) (by kernel_rfl) (by kernel_rfl) (by kernel_rfl)
  refine ⟨sNil, ?_⟩
  refine rF H 72 (fun v38_35 H => ?_)
  refine rP H 73 fun v39_36 H => ?_
  refine rT 74 v39_36 ?_
  refine rF H 75 (fun v41_37 H => ?_)
  refine rP H 76 fun v42_38 H => ?_
  refine rT 8 v42_38 ?_
  refine rE ?_
  exact tE H
theorem n3_1_eq (Q : Ex × St → Prop) (s : St) : wC Try.prog cx3 n3_1 Q s = wC Try.prog cx3 n3_2 (sqW (wC Try.prog cx3 n3_7) Q) s := yS _ _
theorem n3_0_eq (Q : Ex × St → Prop) (env : Env) (h : Heap) : wC Try.prog cx3 n3_0 Q ⟨env, h⟩ = (Evs (mNew tState (env.get 0) h) fun r0 => Evs (mNew tState (env.get 1) r0.2) fun r1 => Evs (mNew tAction (env.get 2) r1.2) fun r2 => Evs (mNew tAction (env.get 3) r2.2) fun r3 => wC Try.prog cx3 n3_1 Q ⟨(Env.put (Env.put (Env.put (Env.put (Env.put env 4 r0.1) 5 r1.1) 6 r2.1) 7 r3.1) 8 (.bool false)), r3.2⟩) := (ySR 0 (cOps (cL n3_0)) (cR n3_0)).trans (by
  refine w0 ?_
  refine wH 4 fun r0 => ?_
  refine wH 5 fun r1 => ?_
  refine wH 6 fun r2 => ?_
  refine wH 7 fun r3 => ?_
  refine wT 8 (.bool false) ?_
  exact wE)
theorem fn3 : Try.prog.funcs[3]? = some Try.f3 := by kernel_rfl
theorem q3 {a0 a1 a2 a3 : AV} {h : Heap} {K : AV × Heap → Prop} (H : ∀ env : Env, env.get 0 = a0 → env.get 1 = a1 → env.get 2 = a2 → env.get 3 = a3 → wC Try.prog cx3 n3_0 (retW (fun s => (bnd (some (s.env.get 8)) fun v => bnd (some []) fun vs => some (v :: vs))) K) ⟨env, h⟩) : SpecQ Try.prog 3 [a0, a1, a2, a3] h K :=
  bodyW_sound (C := cx3) TT_ok mixed_ok fn3 (by kernel_rfl) (show _ = some n3_0 by kernel_rfl) (by kernel_rfl) (by kernel_rfl) (of_decide_eq_true (by kernel_rfl)) ((show wC Try.prog cx3 n3_0 (retW (fun s => resAll cx3 s Try.f3.results.toList) K) ⟨env0 cx3 [a0, a1, a2, a3], h⟩ = wC Try.prog cx3 n3_0 (retW (fun s => (bnd (some (s.env.get 8)) fun v => bnd (some []) fun vs => some (v :: vs))) K) ⟨[(0, a0), (1, a1), (2, a2), (3, a3), (4, .junk), (5, .junk), (6, .junk), (7, .junk), (8, .junk), (32, .junk)], h⟩ by kernel_rfl).mpr (H [(0, a0), (1, a1), (2, a2), (3, a3), (4, .junk), (5, .junk), (6, .junk), (7, .junk), (8, .junk), (32, .junk)] rfl rfl rfl rfl))
def sn3 := And.intro n3_5_eq (And.intro n3_4_eq (And.intro n3_6_eq (And.intro n3_3_eq (And.intro n3_2_eq (And.intro n3_8_eq (And.intro n3_1_eq (n3_0_eq)))))))
-- draws: n3_7
end Go.Vab

/-
  FormsSame, walked.
-/
namespace Go.Vab
open Go Go.Proofs

theorem c3 {h : Heap} {a b : Stt} {c d : Actn} {at_ ap as_ ai aa ab bt bp bs bi ba bb ct cp dt dp : AV} (ra : StR h a at_ ap as_ ai aa ab) (rb : StR h b bt bp bs bi ba bb) (rc : ActR h c ct cp) (rd : ActR h d dt dp) :
    SpecQ Try.prog 3 [eSt a at_ ap as_ ai aa ab, eSt b bt bp bs bi ba bb, eAct c ct cp, eAct d dt dp] h fun r => r.1 = .bool true := by
  have ta := ra.cells
  have tb := rb.cells
  have tc := rc.cells
  have td := rd.cells
  have l1 := rc.t.len
  have l2 := rc.p.len
  have l3 := rd.t.len
  have l4 := rd.p.len
  have m1 := rc.t.bound
  have m2 := rc.p.bound
  have m3 := rd.t.bound
  have m4 := rd.p.bound
  have e1 : (decide (b = a) == decide (a = b)) = true := by simp [eq_comm]
  have e2 : (decide (d = c) == decide (c = d)) = true := by simp [eq_comm]
  refine q3 fun env g0 g1 g2 g3 => ?_
  repeat' (first
    | ((with_reducible apply evs_of); (focus ((conv => lhs; simp (disch := omega) [g0, g1, g2, g3, ta, tb, tc, td, l1, l2, l3, l4, e1, e2]); done)); try dsimp only)
    | ((with_reducible apply gW_do); (focus (simp (disch := omega) [g0, g1, g2, g3, ta, tb, tc, td, l1, l2, l3, l4, e1, e2]; done)))
    | ((with_reducible apply gW_no); (focus (simp (disch := omega) [g0, g1, g2, g3, ta, tb, tc, td, l1, l2, l3, l4, e1, e2]; done)); try dsimp only)
    | ((with_reducible apply gW_un); (focus (simp (disch := omega) [g0, g1, g2, g3, ta, tb, tc, td, l1, l2, l3, l4, e1, e2]; done)); try dsimp only)
    | ((with_reducible apply cndW_T); (focus (simp (disch := omega) [g0, g1, g2, g3, ta, tb, tc, td, l1, l2, l3, l4, e1, e2] <;> omega)))
    | ((with_reducible apply cndW_F); (focus (simp (disch := omega) [g0, g1, g2, g3, ta, tb, tc, td, l1, l2, l3, l4, e1, e2] <;> omega)))
    | ((with_reducible apply stabP_i); (focus (simp (disch := omega) [g0, g1, g2, g3, ta, tb, tc, td, l1, l2, l3, l4, e1, e2]; done)))
    | (with_reducible apply bothP_i)
    | (with_reducible apply wL_i)
    | ((with_reducible apply ValW_do); (focus (simp (disch := omega) [g0, g1, g2, g3, ta, tb, tc, td, l1, l2, l3, l4, e1, e2]; done)); try dsimp only)
    | ((with_reducible apply ValW_no); (focus (simp (disch := omega) [g0, g1, g2, g3, ta, tb, tc, td, l1, l2, l3, l4, e1, e2]; done)); try dsimp only)
    | ((with_reducible apply ValW_un); (focus (simp (disch := omega) [g0, g1, g2, g3, ta, tb, tc, td, l1, l2, l3, l4, e1, e2]; done)); try dsimp only)
    | (with_reducible refine ValW_i (c6 (ra.app _)) ?_; try dsimp only)
    | (with_reducible refine SpecQ.step (c6 (ra.app _)) ?_; rintro _ rfl; try dsimp only)
    | (with_reducible refine stabP_i (c6 (ra.app _)) ?_)
    | (with_reducible refine ValW_i (c6 (rb.app _)) ?_; try dsimp only)
    | (with_reducible refine SpecQ.step (c6 (rb.app _)) ?_; rintro _ rfl; try dsimp only)
    | (with_reducible refine stabP_i (c6 (rb.app _)) ?_)
    | (with_reducible refine ValW_i (c7) ?_; try dsimp only)
    | (with_reducible refine SpecQ.step (c7) ?_; rintro _ rfl; try dsimp only)
    | (with_reducible refine stabP_i (c7) ?_)
    | (with_reducible refine ValW_i (c8 (ra.app _) (rb.app _)) ?_; try dsimp only)
    | (with_reducible refine SpecQ.step (c8 (ra.app _) (rb.app _)) ?_; rintro _ rfl; try dsimp only)
    | (with_reducible refine stabP_i (c8 (ra.app _) (rb.app _)) ?_)
    | (with_reducible refine ValW_i (c8 (rb.app _) (ra.app _)) ?_; try dsimp only)
    | (with_reducible refine SpecQ.step (c8 (rb.app _) (ra.app _)) ?_; rintro _ rfl; try dsimp only)
    | (with_reducible refine stabP_i (c8 (rb.app _) (ra.app _)) ?_)
    | (with_reducible refine ValW_i (c9 (ra.app _) (rb.app _)) ?_; try dsimp only)
    | (with_reducible refine SpecQ.step (c9 (ra.app _) (rb.app _)) ?_; rintro _ rfl; try dsimp only)
    | (with_reducible refine stabP_i (c9 (ra.app _) (rb.app _)) ?_)
    | (with_reducible refine ValW_i (c10 (rc.app _) (rd.app _)) ?_; try dsimp only)
    | (with_reducible refine SpecQ.step (c10 (rc.app _) (rd.app _)) ?_; rintro _ rfl; try dsimp only)
    | (with_reducible refine stabP_i (c10 (rc.app _) (rd.app _)) ?_)
    | (with_reducible refine ValW_i (c10 (rd.app _) (rc.app _)) ?_; try dsimp only)
    | (with_reducible refine SpecQ.step (c10 (rd.app _) (rc.app _)) ?_; rintro _ rfl; try dsimp only)
    | (with_reducible refine stabP_i (c10 (rd.app _) (rc.app _)) ?_)
    | (with_reducible refine ValW_i (c11 (rc.app _) (rd.app _)) ?_; try dsimp only)
    | (with_reducible refine SpecQ.step (c11 (rc.app _) (rd.app _)) ?_; rintro _ rfl; try dsimp only)
    | (with_reducible refine stabP_i (c11 (rc.app _) (rd.app _)) ?_)
    | ((with_reducible apply SpecA_i); (focus ((conv => lhs; simp (disch := omega) [g0, g1, g2, g3, ta, tb, tc, td, l1, l2, l3, l4, e1, e2]); done)))
    | ((with_reducible apply ValA_i); (focus ((conv => lhs; simp (disch := omega) [g0, g1, g2, g3, ta, tb, tc, td, l1, l2, l3, l4, e1, e2]); done)))
    | ((with_reducible apply stabA_i); (focus ((conv => lhs; simp (disch := omega) [g0, g1, g2, g3, ta, tb, tc, td, l1, l2, l3, l4, e1, e2]); done)))
    | ((with_reducible apply fnA_i); (focus ((conv => lhs; simp (disch := omega) [g0, g1, g2, g3, ta, tb, tc, td, l1, l2, l3, l4, e1, e2]); done)))
    | ((with_reducible apply ValA_fn); (focus ((conv => lhs; simp (disch := omega) [g0, g1, g2, g3, ta, tb, tc, td, l1, l2, l3, l4, e1, e2]); done)))
    | ((with_reducible apply stabA_fn); (focus ((conv => lhs; simp (disch := omega) [g0, g1, g2, g3, ta, tb, tc, td, l1, l2, l3, l4, e1, e2]); done)))
    | ((with_reducible apply appA_i); (focus ((conv => lhs; simp (disch := omega) [g0, g1, g2, g3, ta, tb, tc, td, l1, l2, l3, l4, e1, e2]); done)); (focus ((conv => lhs; simp (disch := omega) [g0, g1, g2, g3, ta, tb, tc, td, l1, l2, l3, l4, e1, e2]); done)))
    | ((with_reducible apply stab_do); (focus (simp (disch := omega) [g0, g1, g2, g3, ta, tb, tc, td, l1, l2, l3, l4, e1, e2]; done)))
    | (simp (decide := true) only [sn3, sqW_nrm, sqW_exit, sqW_ret, inBlk_nrm, inBlk_ret, inBlk_same, inBlk_exit, if_true, if_false, retW_nrm, retW_ret])
    | (with_reducible refine n3_7_w _ _ _ ?_)
    | ((with_reducible apply cndW_splitE); (focus ((conv => lhs; simp (disch := omega) [g0, g1, g2, g3, ta, tb, tc, td, l1, l2, l3, l4, e1, e2]); done)); all_goals ((intro hb; try simp only [Bool.not_true, Bool.not_false] at hb); try simp only [hb]))
    | (with_reducible refine gv_split ?_ ?_ <;> (intro hb; try simp only [Bool.not_true, Bool.not_false] at hb) <;> try simp only [hb])
    | (with_reducible refine gW_split ?_ ?_ <;> (intro hb; try simp only [Bool.not_true, Bool.not_false] at hb) <;> try simp only [hb])
    | (with_reducible refine cndW_split ?_ ?_ <;> (intro hb; try simp only [Bool.not_true, Bool.not_false] at hb) <;> try simp only [hb])
    | (with_reducible refine ValW_split ?_ ?_ <;> (intro hb; try simp only [Bool.not_true, Bool.not_false] at hb) <;> try simp only [hb]))
  any_goals
    (refine SpecQ.step (c12 (ra.app _) ?_) ?_)
    rotate_left
    rintro ⟨v, h2⟩ ⟨vt', vp', vs', vi', va', vb', t, e, rb2⟩
    cases e
    repeat' (first
      | ((with_reducible apply evs_of); (focus ((conv => lhs; simp (disch := omega) [g0, g1, ta, List.append_assoc]); done)); try dsimp only)
      | ((with_reducible apply gW_do); (focus (simp (disch := omega) [g0, g1, ta, List.append_assoc]; done)))
      | ((with_reducible apply gW_no); (focus (simp (disch := omega) [g0, g1, ta, List.append_assoc]; done)); try dsimp only)
      | ((with_reducible apply gW_un); (focus (simp (disch := omega) [g0, g1, ta, List.append_assoc]; done)); try dsimp only)
      | ((with_reducible apply cndW_T); (focus (simp (disch := omega) [g0, g1, ta, List.append_assoc] <;> omega)))
      | ((with_reducible apply cndW_F); (focus (simp (disch := omega) [g0, g1, ta, List.append_assoc] <;> omega)))
      | ((with_reducible apply stabP_i); (focus (simp (disch := omega) [g0, g1, ta, List.append_assoc]; done)))
      | (with_reducible apply bothP_i)
      | (with_reducible apply wL_i)
      | ((with_reducible apply ValW_do); (focus (simp (disch := omega) [g0, g1, ta, List.append_assoc]; done)); try dsimp only)
      | ((with_reducible apply ValW_no); (focus (simp (disch := omega) [g0, g1, ta, List.append_assoc]; done)); try dsimp only)
      | ((with_reducible apply ValW_un); (focus (simp (disch := omega) [g0, g1, ta, List.append_assoc]; done)); try dsimp only)
      | (with_reducible refine ValW_i (c8 ((ra.app _).app _) rb2) ?_; try dsimp only)
      | (with_reducible refine SpecQ.step (c8 ((ra.app _).app _) rb2) ?_; rintro _ rfl; try dsimp only)
      | (with_reducible refine stabP_i (c8 ((ra.app _).app _) rb2) ?_)
      | (with_reducible refine ValW_i (c7) ?_; try dsimp only)
      | (with_reducible refine SpecQ.step (c7) ?_; rintro _ rfl; try dsimp only)
      | (with_reducible refine stabP_i (c7) ?_)
      | ((with_reducible apply SpecA_i); (focus ((conv => lhs; simp (disch := omega) [g0, g1, ta, List.append_assoc]); done)))
      | ((with_reducible apply ValA_i); (focus ((conv => lhs; simp (disch := omega) [g0, g1, ta, List.append_assoc]); done)))
      | ((with_reducible apply stabA_i); (focus ((conv => lhs; simp (disch := omega) [g0, g1, ta, List.append_assoc]); done)))
      | ((with_reducible apply fnA_i); (focus ((conv => lhs; simp (disch := omega) [g0, g1, ta, List.append_assoc]); done)))
      | ((with_reducible apply ValA_fn); (focus ((conv => lhs; simp (disch := omega) [g0, g1, ta, List.append_assoc]); done)))
      | ((with_reducible apply stabA_fn); (focus ((conv => lhs; simp (disch := omega) [g0, g1, ta, List.append_assoc]); done)))
      | ((with_reducible apply appA_i); (focus ((conv => lhs; simp (disch := omega) [g0, g1, ta, List.append_assoc]); done)); (focus ((conv => lhs; simp (disch := omega) [g0, g1, ta, List.append_assoc]); done)))
      | ((with_reducible apply stab_do); (focus (simp (disch := omega) [g0, g1, ta, List.append_assoc]; done)))
      | (simp (decide := true) only [sn3, sqW_nrm, sqW_exit, sqW_ret, inBlk_nrm, inBlk_ret, inBlk_same, inBlk_exit, if_true, if_false, retW_nrm, retW_ret])
      | (with_reducible refine n3_7_w _ _ _ ?_))
  all_goals try simp [oneOrTuple]
  rename_i q1 q2
  simp only [largeS, Bool.or_eq_false_iff, decide_eq_false_iff_not] at q1
  unfold short
  omega

end Go.Vab
