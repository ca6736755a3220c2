/-
  forms.rising, walked.
-/
import Derived.Test.YtdmcbbeebjcagaaV6
import Derived.Test.YtdmcbbeebjcagaaV3
import Derived.Test.YtdmcbbeebjcagaaV4
set_option linter.all false
set_option linter.unusedSectionVars false
namespace Go.Vab
open Go Go.Proofs

theorem c66 {h : Heap} {x y : AV} {a b : Bs} (hx : BytL h x a) (hy : BytL h y b) : SpecQ Try.prog 66 [x, y] h fun r => r = (.int .i64 (cmpB a b), h) := by
  refine SpecQ.drop1 rfl (q66 fun env g0 g1 => ?_)
  repeat' (first | ((with_reducible apply evs_of); (focus ((conv => lhs; simp (disch := omega) [g0, g1]); done)); try dsimp only) | (with_reducible refine SpecQ.step (c69 hx hy) ?_; rintro _ rfl; try dsimp only) | ((with_reducible apply SpecA_i); (focus ((conv => lhs; simp (disch := omega) [g0, g1]); done))) | (simp (decide := true) only [sn66, sqW_nrm, sqW_exit, sqW_ret, inBlk_nrm, inBlk_ret, inBlk_same, inBlk_exit, if_true, if_false, retW_nrm, retW_ret]))
  exact ⟨[], by simp [oneOrTuple]⟩

theorem c51 {h : Heap} {s : Seat} : SpecQ Try.prog 51 [eSeat s] h fun r => r = (eCi s.who, h) := by
  refine SpecQ.drop1 rfl (q51 fun env g0 => ?_)
  repeat' (first | ((with_reducible apply evs_of); (focus ((conv => lhs; simp (disch := omega) [g0]); done)); try dsimp only) | (simp (decide := true) only [sn51, sqW_nrm, sqW_exit, sqW_ret, inBlk_nrm, inBlk_ret, inBlk_same, inBlk_exit, if_true, if_false, retW_nrm, retW_ret]))
  exact ⟨_, rfl⟩

set_option maxHeartbeats 1000000 in
theorem c50 {h : Heap} {x : AV} {l : List Seat} {m : Nat} {seen : List Pt} (hx : Row tSeat h x (l.map eSeat)) (hm : h[m]? = some ⟨.node (seen.map pt), 0, .mp⟩) :
    SpecQ Try.prog 50 [x, .fn 51 [], .map m] h fun r => ∃ seen', r = (.bool (decide (l.length ≤ 40) && riseB seen (l.map (·.who.e))), h.set m ⟨.node (seen'.map pt), 0, .mp⟩) ∧ (l.length ≤ 40 → riseB seen (l.map (·.who.e)) = true → seen' = seen ++ l.map (·.who.e)) := by
  have lx := hx.len
  have bx := hx.bound
  rw [List.length_map] at lx bx
  have hself : h.set m ⟨.node (seen.map pt), 0, .mp⟩ = h := by
    apply List.ext_getElem?
    intro i
    rw [List.getElem?_set]
    split
    · rename_i e; subst e; rw [if_pos (List.getElem?_eq_some_iff.1 hm).1, hm]
    · rfl
  have hps : ∀ (i : Nat) (hi : i < l.length), (l.map (·.who.e)).getD i pt0 = l[i].who.e := fun i hi => by
    rw [List.getD_eq_getElem?_getD, List.getElem?_map, List.getElem?_eq_getElem hi]; rfl
  have hpl : (l.map (·.who.e)).length = l.length := List.length_map _
  generalize hP : l.map (·.who.e) = ps at hps hpl ⊢
  refine SpecQ.drop (K := fun r => ∃ seen' t, r = (.bool (decide (l.length ≤ 40) && riseB seen ps), h.set m ⟨.node (seen'.map pt), 0, .mp⟩ ++ t) ∧ (l.length ≤ 40 → riseB seen ps = true → seen' = seen ++ ps)) (q50 fun env g0 g1 g2 => ?_) _ ?_
  · by_cases h40 : l.length ≤ 40
    · repeat' (first | ((with_reducible apply evs_of); (focus ((conv => lhs; simp (disch := omega) [g0, g1, g2, lx, h40]); done)); try dsimp only) | ((with_reducible apply gW_do); (focus (simp (disch := omega) [g0, g1, g2, lx, h40]; done))) | ((with_reducible apply gW_no); (focus (simp (disch := omega) [g0, g1, g2, lx, h40]; done)); try dsimp only) | ((with_reducible apply gW_un); (focus (simp (disch := omega) [g0, g1, g2, lx, h40]; done)); try dsimp only) | ((with_reducible apply cndW_T); (focus (simp (disch := omega) [g0, g1, g2, lx, h40] <;> omega))) | ((with_reducible apply cndW_F); (focus (simp (disch := omega) [g0, g1, g2, lx, h40] <;> omega))) | (with_reducible apply wL_i) | ((with_reducible apply ValW_do); (focus (simp (disch := omega) [g0, g1, g2, lx, h40]; done)); try dsimp only) | ((with_reducible apply ValW_no); (focus (simp (disch := omega) [g0, g1, g2, lx, h40]; done)); try dsimp only) | ((with_reducible apply ValW_un); (focus (simp (disch := omega) [g0, g1, g2, lx, h40]; done)); try dsimp only) | ((with_reducible apply SpecA_i); (focus ((conv => lhs; simp (disch := omega) [g0, g1, g2, lx, h40]); done))) | ((with_reducible apply ValA_i); (focus ((conv => lhs; simp (disch := omega) [g0, g1, g2, lx, h40]); done))) | ((with_reducible apply fnA_i); (focus ((conv => lhs; simp (disch := omega) [g0, g1, g2, lx, h40]); done))) | ((with_reducible apply ValA_fn); (focus ((conv => lhs; simp (disch := omega) [g0, g1, g2, lx, h40]); done))) | (simp (decide := true) only [sn50, sqW_nrm, sqW_exit, sqW_ret, inBlk_nrm, inBlk_ret, inBlk_same, inBlk_exit, if_true, if_false, retW_nrm, retW_ret]) | (with_reducible refine n50_22_w _ _ _ ?_))
      refine loop_up l.length (fun i st => ∃ env' last t, st = ⟨env', h.set m ⟨.node ((seen ++ ps.take i).map pt), 0, .mp⟩ ++ (⟨pt last, 0, .own⟩ :: t)⟩ ∧ env'.get 1 = .fn 51 [] ∧ env'.get 2 = .map m ∧ env'.get 7 = .ptr h.length 0 [] (.arr 32 (.int .u8)) ∧ env'.get 14 = x ∧ env'.get 15 = nat l.length ∧ env'.get 16 = nat i ∧
        (0 < i → last = ps.getD (i - 1) pt0) ∧ ∀ j, j < i → goodAt seen ps j = true) ?_ ?_ ⟨_, pt0, [], (by simp [hself]; rfl), by simp [g1], by simp [g2], by simp, by simp [g0], by simp, by simp, fun h => absurd h (by omega), fun j hj => absurd hj (by omega)⟩
      · rintro i st hi ⟨env', last, t, rfl, e1, e2, e7, e14, e15, e16, hlast, hgood⟩
        have hx' : Row tSeat (h.set m ⟨.node ((seen ++ ps.take i).map pt), 0, .mp⟩) x (l.map eSeat) := hx.setm hm rfl
        obtain ⟨p, p1, p2⟩ := hx'.idx (i := i) (by simpa using hi)
        rw [List.getElem?_map, List.getElem?_eq_getElem hi] at p2
        simp only [Option.map_some] at p2
        have hmm : (h.set m ⟨.node ((seen ++ ps.take i).map pt), 0, .mp⟩)[m]? = some ⟨.node ((seen ++ ps.take i).map pt), 0, .mp⟩ := List.getElem?_set_self (List.getElem?_eq_some_iff.1 hm).1
        have hma := mapAt_app hmm
        have hms := set_appL hmm
        have hg : goodAt seen ps i = (!decide (l[i].who.e ∈ seen ++ ps.take i) && (decide (i = 0) || decide (cmpB last.l l[i].who.e.l < 0))) := by
          unfold goodAt
          rw [hps i hi]
          by_cases h0 : i = 0
          · simp [h0]
          · rw [← hlast (by omega)]
        have hS1 : seen ++ ps.take (i + 1) = seen ++ ps.take i ++ [l[i].who.e] := by
          rw [List.append_assoc, List.take_add_one, ← hps i hi, List.getD_eq_getElem?_getD, List.getElem?_eq_getElem (by omega)]
          rfl
        rw [hS1]
        generalize seen ++ ps.take i = S at *
        by_cases hmem : l[i].who.e ∈ S
        · have hno := riseB_no (seen := seen) (by rw [hpl]; exact hi) (by rw [hg]; simp [hmem])
          repeat' (first | ((with_reducible apply evs_of); (focus ((conv => lhs; simp (disch := omega) [e1, e2, e7, e14, e15, e16, p1, p2, hma, hms, hmem]); done)); try dsimp only) | ((with_reducible apply gW_do); (focus (simp (disch := omega) [e1, e2, e7, e14, e15, e16, p1, p2, hma, hms, hmem]; done))) | ((with_reducible apply gW_no); (focus (simp (disch := omega) [e1, e2, e7, e14, e15, e16, p1, p2, hma, hms, hmem]; done)); try dsimp only) | ((with_reducible apply gW_un); (focus (simp (disch := omega) [e1, e2, e7, e14, e15, e16, p1, p2, hma, hms, hmem]; done)); try dsimp only) | ((with_reducible apply cndW_T); (focus (simp (disch := omega) [e1, e2, e7, e14, e15, e16, p1, p2, hma, hms, hmem] <;> omega))) | ((with_reducible apply cndW_F); (focus (simp (disch := omega) [e1, e2, e7, e14, e15, e16, p1, p2, hma, hms, hmem] <;> omega))) | (with_reducible apply wL_i) | ((with_reducible apply ValW_do); (focus (simp (disch := omega) [e1, e2, e7, e14, e15, e16, p1, p2, hma, hms, hmem]; done)); try dsimp only) | ((with_reducible apply ValW_no); (focus (simp (disch := omega) [e1, e2, e7, e14, e15, e16, p1, p2, hma, hms, hmem]; done)); try dsimp only) | ((with_reducible apply ValW_un); (focus (simp (disch := omega) [e1, e2, e7, e14, e15, e16, p1, p2, hma, hms, hmem]; done)); try dsimp only) | (with_reducible refine ValW_i (c51) ?_; try dsimp only) | (with_reducible refine SpecQ.step (c51) ?_; rintro _ rfl; try dsimp only) | ((with_reducible apply SpecA_i); (focus ((conv => lhs; simp (disch := omega) [e1, e2, e7, e14, e15, e16, p1, p2, hma, hms, hmem]); done))) | ((with_reducible apply ValA_i); (focus ((conv => lhs; simp (disch := omega) [e1, e2, e7, e14, e15, e16, p1, p2, hma, hms, hmem]); done))) | ((with_reducible apply fnA_i); (focus ((conv => lhs; simp (disch := omega) [e1, e2, e7, e14, e15, e16, p1, p2, hma, hms, hmem]); done))) | ((with_reducible apply ValA_fn); (focus ((conv => lhs; simp (disch := omega) [e1, e2, e7, e14, e15, e16, p1, p2, hma, hms, hmem]); done))) | (simp (decide := true) only [sn50, sqW_nrm, sqW_exit, sqW_ret, inBlk_nrm, inBlk_ret, inBlk_same, inBlk_exit, if_true, if_false, retW_nrm, retW_ret]) | (with_reducible refine n50_22_w _ _ _ ?_))
          refine .inr ⟨by simp, ?_⟩
          repeat' (first | ((with_reducible apply evs_of); (focus ((conv => lhs; simp (disch := omega) [e1]); done)); try dsimp only) | ((with_reducible apply gW_do); (focus (simp (disch := omega) [e1]; done))) | ((with_reducible apply gW_no); (focus (simp (disch := omega) [e1]; done)); try dsimp only) | ((with_reducible apply gW_un); (focus (simp (disch := omega) [e1]; done)); try dsimp only) | ((with_reducible apply cndW_T); (focus (simp (disch := omega) [e1] <;> omega))) | ((with_reducible apply cndW_F); (focus (simp (disch := omega) [e1] <;> omega))) | (with_reducible apply wL_i) | ((with_reducible apply ValW_do); (focus (simp (disch := omega) [e1]; done)); try dsimp only) | ((with_reducible apply ValW_no); (focus (simp (disch := omega) [e1]; done)); try dsimp only) | ((with_reducible apply ValW_un); (focus (simp (disch := omega) [e1]; done)); try dsimp only) | ((with_reducible apply SpecA_i); (focus ((conv => lhs; simp (disch := omega) [e1]); done))) | ((with_reducible apply ValA_i); (focus ((conv => lhs; simp (disch := omega) [e1]); done))) | ((with_reducible apply fnA_i); (focus ((conv => lhs; simp (disch := omega) [e1]); done))) | ((with_reducible apply ValA_fn); (focus ((conv => lhs; simp (disch := omega) [e1]); done))) | (simp (decide := true) only [sn50, sqW_nrm, sqW_exit, sqW_ret, inBlk_nrm, inBlk_ret, inBlk_same, inBlk_exit, if_true, if_false, retW_nrm, retW_ret]) | (with_reducible refine n50_22_w _ _ _ ?_))
          exact ⟨S, _, (by simp [oneOrTuple, hno]; rfl), fun _ h => by rw [hno] at h; cases h⟩
        · by_cases h0 : i = 0
          · have hyes : goodAt seen ps i = true := by rw [hg, decide_eq_true h0]; simp [hmem]
            have hz : ¬ (0 < i) := by omega
            repeat' (first | ((with_reducible apply evs_of); (focus ((conv => lhs; simp (disch := omega) [e1, e2, e7, e14, e15, e16, p1, p2, hma, hms, hmem, hz]); done)); try dsimp only) | ((with_reducible apply gW_do); (focus (simp (disch := omega) [e1, e2, e7, e14, e15, e16, p1, p2, hma, hms, hmem, hz]; done))) | ((with_reducible apply gW_no); (focus (simp (disch := omega) [e1, e2, e7, e14, e15, e16, p1, p2, hma, hms, hmem, hz]; done)); try dsimp only) | ((with_reducible apply gW_un); (focus (simp (disch := omega) [e1, e2, e7, e14, e15, e16, p1, p2, hma, hms, hmem, hz]; done)); try dsimp only) | ((with_reducible apply cndW_T); (focus (simp (disch := omega) [e1, e2, e7, e14, e15, e16, p1, p2, hma, hms, hmem, hz] <;> omega))) | ((with_reducible apply cndW_F); (focus (simp (disch := omega) [e1, e2, e7, e14, e15, e16, p1, p2, hma, hms, hmem, hz] <;> omega))) | (with_reducible apply wL_i) | ((with_reducible apply ValW_do); (focus (simp (disch := omega) [e1, e2, e7, e14, e15, e16, p1, p2, hma, hms, hmem, hz]; done)); try dsimp only) | ((with_reducible apply ValW_no); (focus (simp (disch := omega) [e1, e2, e7, e14, e15, e16, p1, p2, hma, hms, hmem, hz]; done)); try dsimp only) | ((with_reducible apply ValW_un); (focus (simp (disch := omega) [e1, e2, e7, e14, e15, e16, p1, p2, hma, hms, hmem, hz]; done)); try dsimp only) | (with_reducible refine ValW_i (c51) ?_; try dsimp only) | (with_reducible refine SpecQ.step (c51) ?_; rintro _ rfl; try dsimp only) | (with_reducible refine ValW_i (c66 (pt_bytA (p := last) (by simp)) (pt_bytA (p := l[i].who.e) (by simp))) ?_; try dsimp only) | (with_reducible refine SpecQ.step (c66 (pt_bytA (p := last) (by simp)) (pt_bytA (p := l[i].who.e) (by simp))) ?_; rintro _ rfl; try dsimp only) | ((with_reducible apply SpecA_i); (focus ((conv => lhs; simp (disch := omega) [e1, e2, e7, e14, e15, e16, p1, p2, hma, hms, hmem, hz]); done))) | ((with_reducible apply ValA_i); (focus ((conv => lhs; simp (disch := omega) [e1, e2, e7, e14, e15, e16, p1, p2, hma, hms, hmem, hz]); done))) | ((with_reducible apply fnA_i); (focus ((conv => lhs; simp (disch := omega) [e1, e2, e7, e14, e15, e16, p1, p2, hma, hms, hmem, hz]); done))) | ((with_reducible apply ValA_fn); (focus ((conv => lhs; simp (disch := omega) [e1, e2, e7, e14, e15, e16, p1, p2, hma, hms, hmem, hz]); done))) | (simp (decide := true) only [sn50, sqW_nrm, sqW_exit, sqW_ret, inBlk_nrm, inBlk_ret, inBlk_same, inBlk_exit, if_true, if_false, retW_nrm, retW_ret]) | (with_reducible refine n50_22_w _ _ _ ?_))
            refine .inl ⟨by simp, _, l[i].who.e, _, (by simp; exact ⟨rfl, rfl⟩), by simp [e1], by simp [e2], by simp [e7], by simp [e14], by simp [e15], by simp, fun _ => (by rw [Nat.add_sub_cancel]; exact (hps i hi).symm), fun j hj => ?_⟩
            by_cases hji : j = i
            · rw [hji]; exact hyes
            · exact hgood j (by omega)
          · have hz : 0 < i := by omega
            by_cases hc : cmpB last.l l[i].who.e.l < 0
            · have hyes : goodAt seen ps i = true := by rw [hg]; simp [hmem, hc]
              have hc' : ¬ (0 ≤ cmpB last.l l[i].who.e.l) := by omega
              repeat' (first | ((with_reducible apply evs_of); (focus ((conv => lhs; simp (disch := omega) [e1, e2, e7, e14, e15, e16, p1, p2, hma, hms, hmem, hz, hc']); done)); try dsimp only) | ((with_reducible apply gW_do); (focus (simp (disch := omega) [e1, e2, e7, e14, e15, e16, p1, p2, hma, hms, hmem, hz, hc']; done))) | ((with_reducible apply gW_no); (focus (simp (disch := omega) [e1, e2, e7, e14, e15, e16, p1, p2, hma, hms, hmem, hz, hc']; done)); try dsimp only) | ((with_reducible apply gW_un); (focus (simp (disch := omega) [e1, e2, e7, e14, e15, e16, p1, p2, hma, hms, hmem, hz, hc']; done)); try dsimp only) | ((with_reducible apply cndW_T); (focus (simp (disch := omega) [e1, e2, e7, e14, e15, e16, p1, p2, hma, hms, hmem, hz, hc'] <;> omega))) | ((with_reducible apply cndW_F); (focus (simp (disch := omega) [e1, e2, e7, e14, e15, e16, p1, p2, hma, hms, hmem, hz, hc'] <;> omega))) | (with_reducible apply wL_i) | ((with_reducible apply ValW_do); (focus (simp (disch := omega) [e1, e2, e7, e14, e15, e16, p1, p2, hma, hms, hmem, hz, hc']; done)); try dsimp only) | ((with_reducible apply ValW_no); (focus (simp (disch := omega) [e1, e2, e7, e14, e15, e16, p1, p2, hma, hms, hmem, hz, hc']; done)); try dsimp only) | ((with_reducible apply ValW_un); (focus (simp (disch := omega) [e1, e2, e7, e14, e15, e16, p1, p2, hma, hms, hmem, hz, hc']; done)); try dsimp only) | (with_reducible refine ValW_i (c51) ?_; try dsimp only) | (with_reducible refine SpecQ.step (c51) ?_; rintro _ rfl; try dsimp only) | (with_reducible refine ValW_i (c66 (pt_bytA (p := last) (by simp)) (pt_bytA (p := l[i].who.e) (by simp))) ?_; try dsimp only) | (with_reducible refine SpecQ.step (c66 (pt_bytA (p := last) (by simp)) (pt_bytA (p := l[i].who.e) (by simp))) ?_; rintro _ rfl; try dsimp only) | ((with_reducible apply SpecA_i); (focus ((conv => lhs; simp (disch := omega) [e1, e2, e7, e14, e15, e16, p1, p2, hma, hms, hmem, hz, hc']); done))) | ((with_reducible apply ValA_i); (focus ((conv => lhs; simp (disch := omega) [e1, e2, e7, e14, e15, e16, p1, p2, hma, hms, hmem, hz, hc']); done))) | ((with_reducible apply fnA_i); (focus ((conv => lhs; simp (disch := omega) [e1, e2, e7, e14, e15, e16, p1, p2, hma, hms, hmem, hz, hc']); done))) | ((with_reducible apply ValA_fn); (focus ((conv => lhs; simp (disch := omega) [e1, e2, e7, e14, e15, e16, p1, p2, hma, hms, hmem, hz, hc']); done))) | (simp (decide := true) only [sn50, sqW_nrm, sqW_exit, sqW_ret, inBlk_nrm, inBlk_ret, inBlk_same, inBlk_exit, if_true, if_false, retW_nrm, retW_ret]) | (with_reducible refine n50_22_w _ _ _ ?_))
              refine .inl ⟨by simp, _, l[i].who.e, _, (by simp; exact ⟨rfl, rfl⟩), by simp [e1], by simp [e2], by simp [e7], by simp [e14], by simp [e15], by simp, fun _ => (by rw [Nat.add_sub_cancel]; exact (hps i hi).symm), fun j hj => ?_⟩
              by_cases hji : j = i
              · rw [hji]; exact hyes
              · exact hgood j (by omega)
            · have hno := riseB_no (seen := seen) (by rw [hpl]; exact hi) (by rw [hg]; simp [h0, hc])
              have hc' : 0 ≤ cmpB last.l l[i].who.e.l := by omega
              repeat' (first | ((with_reducible apply evs_of); (focus ((conv => lhs; simp (disch := omega) [e1, e2, e7, e14, e15, e16, p1, p2, hma, hms, hmem, hz, hc']); done)); try dsimp only) | ((with_reducible apply gW_do); (focus (simp (disch := omega) [e1, e2, e7, e14, e15, e16, p1, p2, hma, hms, hmem, hz, hc']; done))) | ((with_reducible apply gW_no); (focus (simp (disch := omega) [e1, e2, e7, e14, e15, e16, p1, p2, hma, hms, hmem, hz, hc']; done)); try dsimp only) | ((with_reducible apply gW_un); (focus (simp (disch := omega) [e1, e2, e7, e14, e15, e16, p1, p2, hma, hms, hmem, hz, hc']; done)); try dsimp only) | ((with_reducible apply cndW_T); (focus (simp (disch := omega) [e1, e2, e7, e14, e15, e16, p1, p2, hma, hms, hmem, hz, hc'] <;> omega))) | ((with_reducible apply cndW_F); (focus (simp (disch := omega) [e1, e2, e7, e14, e15, e16, p1, p2, hma, hms, hmem, hz, hc'] <;> omega))) | (with_reducible apply wL_i) | ((with_reducible apply ValW_do); (focus (simp (disch := omega) [e1, e2, e7, e14, e15, e16, p1, p2, hma, hms, hmem, hz, hc']; done)); try dsimp only) | ((with_reducible apply ValW_no); (focus (simp (disch := omega) [e1, e2, e7, e14, e15, e16, p1, p2, hma, hms, hmem, hz, hc']; done)); try dsimp only) | ((with_reducible apply ValW_un); (focus (simp (disch := omega) [e1, e2, e7, e14, e15, e16, p1, p2, hma, hms, hmem, hz, hc']; done)); try dsimp only) | (with_reducible refine ValW_i (c51) ?_; try dsimp only) | (with_reducible refine SpecQ.step (c51) ?_; rintro _ rfl; try dsimp only) | (with_reducible refine ValW_i (c66 (pt_bytA (p := last) (by simp)) (pt_bytA (p := l[i].who.e) (by simp))) ?_; try dsimp only) | (with_reducible refine SpecQ.step (c66 (pt_bytA (p := last) (by simp)) (pt_bytA (p := l[i].who.e) (by simp))) ?_; rintro _ rfl; try dsimp only) | ((with_reducible apply SpecA_i); (focus ((conv => lhs; simp (disch := omega) [e1, e2, e7, e14, e15, e16, p1, p2, hma, hms, hmem, hz, hc']); done))) | ((with_reducible apply ValA_i); (focus ((conv => lhs; simp (disch := omega) [e1, e2, e7, e14, e15, e16, p1, p2, hma, hms, hmem, hz, hc']); done))) | ((with_reducible apply fnA_i); (focus ((conv => lhs; simp (disch := omega) [e1, e2, e7, e14, e15, e16, p1, p2, hma, hms, hmem, hz, hc']); done))) | ((with_reducible apply ValA_fn); (focus ((conv => lhs; simp (disch := omega) [e1, e2, e7, e14, e15, e16, p1, p2, hma, hms, hmem, hz, hc']); done))) | (simp (decide := true) only [sn50, sqW_nrm, sqW_exit, sqW_ret, inBlk_nrm, inBlk_ret, inBlk_same, inBlk_exit, if_true, if_false, retW_nrm, retW_ret]) | (with_reducible refine n50_22_w _ _ _ ?_))
              refine .inr ⟨by simp, ?_⟩
              repeat' (first | ((with_reducible apply evs_of); (focus ((conv => lhs; simp (disch := omega) [e1]); done)); try dsimp only) | ((with_reducible apply gW_do); (focus (simp (disch := omega) [e1]; done))) | ((with_reducible apply gW_no); (focus (simp (disch := omega) [e1]; done)); try dsimp only) | ((with_reducible apply gW_un); (focus (simp (disch := omega) [e1]; done)); try dsimp only) | ((with_reducible apply cndW_T); (focus (simp (disch := omega) [e1] <;> omega))) | ((with_reducible apply cndW_F); (focus (simp (disch := omega) [e1] <;> omega))) | (with_reducible apply wL_i) | ((with_reducible apply ValW_do); (focus (simp (disch := omega) [e1]; done)); try dsimp only) | ((with_reducible apply ValW_no); (focus (simp (disch := omega) [e1]; done)); try dsimp only) | ((with_reducible apply ValW_un); (focus (simp (disch := omega) [e1]; done)); try dsimp only) | ((with_reducible apply SpecA_i); (focus ((conv => lhs; simp (disch := omega) [e1]); done))) | ((with_reducible apply ValA_i); (focus ((conv => lhs; simp (disch := omega) [e1]); done))) | ((with_reducible apply fnA_i); (focus ((conv => lhs; simp (disch := omega) [e1]); done))) | ((with_reducible apply ValA_fn); (focus ((conv => lhs; simp (disch := omega) [e1]); done))) | (simp (decide := true) only [sn50, sqW_nrm, sqW_exit, sqW_ret, inBlk_nrm, inBlk_ret, inBlk_same, inBlk_exit, if_true, if_false, retW_nrm, retW_ret]) | (with_reducible refine n50_22_w _ _ _ ?_))
              exact ⟨S, _, (by simp [oneOrTuple, hno]; rfl), fun _ h => by rw [hno] at h; cases h⟩
      · rintro st ⟨env', last, t, rfl, e1, e2, e7, e14, e15, e16, hlast, hgood⟩
        have hyes := riseB_yes (seen := seen) (ps := ps) (fun i hi => hgood i (by omega))
        have htk : ps.take l.length = ps := by rw [← hpl]; exact List.take_length
        rw [htk]
        generalize hS : seen ++ ps = S at *
        repeat' (first | ((with_reducible apply evs_of); (focus ((conv => lhs; simp (disch := omega) [e1, e15, e16]); done)); try dsimp only) | ((with_reducible apply gW_do); (focus (simp (disch := omega) [e1, e15, e16]; done))) | ((with_reducible apply gW_no); (focus (simp (disch := omega) [e1, e15, e16]; done)); try dsimp only) | ((with_reducible apply gW_un); (focus (simp (disch := omega) [e1, e15, e16]; done)); try dsimp only) | ((with_reducible apply cndW_T); (focus (simp (disch := omega) [e1, e15, e16] <;> omega))) | ((with_reducible apply cndW_F); (focus (simp (disch := omega) [e1, e15, e16] <;> omega))) | (with_reducible apply wL_i) | ((with_reducible apply ValW_do); (focus (simp (disch := omega) [e1, e15, e16]; done)); try dsimp only) | ((with_reducible apply ValW_no); (focus (simp (disch := omega) [e1, e15, e16]; done)); try dsimp only) | ((with_reducible apply ValW_un); (focus (simp (disch := omega) [e1, e15, e16]; done)); try dsimp only) | ((with_reducible apply SpecA_i); (focus ((conv => lhs; simp (disch := omega) [e1, e15, e16]); done))) | ((with_reducible apply ValA_i); (focus ((conv => lhs; simp (disch := omega) [e1, e15, e16]); done))) | ((with_reducible apply fnA_i); (focus ((conv => lhs; simp (disch := omega) [e1, e15, e16]); done))) | ((with_reducible apply ValA_fn); (focus ((conv => lhs; simp (disch := omega) [e1, e15, e16]); done))) | (simp (decide := true) only [sn50, sqW_nrm, sqW_exit, sqW_ret, inBlk_nrm, inBlk_ret, inBlk_same, inBlk_exit, if_true, if_false, retW_nrm, retW_ret]) | (with_reducible refine n50_22_w _ _ _ ?_))
        refine ⟨by simp, ?_⟩
        repeat' (first | ((with_reducible apply evs_of); (focus ((conv => lhs; simp (disch := omega) [e1, e15, e16]); done)); try dsimp only) | ((with_reducible apply gW_do); (focus (simp (disch := omega) [e1, e15, e16]; done))) | ((with_reducible apply gW_no); (focus (simp (disch := omega) [e1, e15, e16]; done)); try dsimp only) | ((with_reducible apply gW_un); (focus (simp (disch := omega) [e1, e15, e16]; done)); try dsimp only) | ((with_reducible apply cndW_T); (focus (simp (disch := omega) [e1, e15, e16] <;> omega))) | ((with_reducible apply cndW_F); (focus (simp (disch := omega) [e1, e15, e16] <;> omega))) | (with_reducible apply wL_i) | ((with_reducible apply ValW_do); (focus (simp (disch := omega) [e1, e15, e16]; done)); try dsimp only) | ((with_reducible apply ValW_no); (focus (simp (disch := omega) [e1, e15, e16]; done)); try dsimp only) | ((with_reducible apply ValW_un); (focus (simp (disch := omega) [e1, e15, e16]; done)); try dsimp only) | ((with_reducible apply SpecA_i); (focus ((conv => lhs; simp (disch := omega) [e1, e15, e16]); done))) | ((with_reducible apply ValA_i); (focus ((conv => lhs; simp (disch := omega) [e1, e15, e16]); done))) | ((with_reducible apply fnA_i); (focus ((conv => lhs; simp (disch := omega) [e1, e15, e16]); done))) | ((with_reducible apply ValA_fn); (focus ((conv => lhs; simp (disch := omega) [e1, e15, e16]); done))) | (simp (decide := true) only [sn50, sqW_nrm, sqW_exit, sqW_ret, inBlk_nrm, inBlk_ret, inBlk_same, inBlk_exit, if_true, if_false, retW_nrm, retW_ret]) | (with_reducible refine n50_22_w _ _ _ ?_))
        exact ⟨S, _, (by simp [oneOrTuple, hyes, h40]; rfl), fun _ _ => rfl⟩
    · repeat' (first | ((with_reducible apply evs_of); (focus ((conv => lhs; simp (disch := omega) [g0, lx, h40]); done)); try dsimp only) | ((with_reducible apply gW_do); (focus (simp (disch := omega) [g0, lx, h40]; done))) | ((with_reducible apply gW_no); (focus (simp (disch := omega) [g0, lx, h40]; done)); try dsimp only) | ((with_reducible apply gW_un); (focus (simp (disch := omega) [g0, lx, h40]; done)); try dsimp only) | ((with_reducible apply cndW_T); (focus (simp (disch := omega) [g0, lx, h40] <;> omega))) | ((with_reducible apply cndW_F); (focus (simp (disch := omega) [g0, lx, h40] <;> omega))) | (with_reducible apply wL_i) | ((with_reducible apply ValW_do); (focus (simp (disch := omega) [g0, lx, h40]; done)); try dsimp only) | ((with_reducible apply ValW_no); (focus (simp (disch := omega) [g0, lx, h40]; done)); try dsimp only) | ((with_reducible apply ValW_un); (focus (simp (disch := omega) [g0, lx, h40]; done)); try dsimp only) | ((with_reducible apply SpecA_i); (focus ((conv => lhs; simp (disch := omega) [g0, lx, h40]); done))) | ((with_reducible apply ValA_i); (focus ((conv => lhs; simp (disch := omega) [g0, lx, h40]); done))) | ((with_reducible apply fnA_i); (focus ((conv => lhs; simp (disch := omega) [g0, lx, h40]); done))) | ((with_reducible apply ValA_fn); (focus ((conv => lhs; simp (disch := omega) [g0, lx, h40]); done))) | (simp (decide := true) only [sn50, sqW_nrm, sqW_exit, sqW_ret, inBlk_nrm, inBlk_ret, inBlk_same, inBlk_exit, if_true, if_false, retW_nrm, retW_ret]) | (with_reducible refine n50_22_w _ _ _ ?_))
      exact ⟨seen, [], by simp [oneOrTuple, h40, hself], fun h => absurd h h40⟩
  · rintro r ⟨seen', t, rfl, hs⟩
    refine ⟨_, t, rfl, by simp, fun i b hb => ?_, rfl, seen', rfl, hs⟩
    rw [List.getElem?_set] at hb
    split at hb
    · split at hb
      · cases hb
        exact .inr (by simp [AV.under, unders_pt])
      · cases hb
    · exact .inl ⟨b, hb, rfl⟩
theorem c53 {h : Heap} {s : Inv} : SpecQ Try.prog 53 [eInv s] h fun r => r = (eCi s.who, h) := by
  refine SpecQ.drop1 rfl (q53 fun env g0 => ?_)
  repeat' (first | ((with_reducible apply evs_of); (focus ((conv => lhs; simp (disch := omega) [g0]); done)); try dsimp only) | (simp (decide := true) only [sn53, sqW_nrm, sqW_exit, sqW_ret, inBlk_nrm, inBlk_ret, inBlk_same, inBlk_exit, if_true, if_false, retW_nrm, retW_ret]))
  exact ⟨_, rfl⟩

set_option maxHeartbeats 1000000 in
theorem c52 {h : Heap} {x : AV} {l : List Inv} {m : Nat} {seen : List Pt} (hx : Row tInvite h x (l.map eInv)) (hm : h[m]? = some ⟨.node (seen.map pt), 0, .mp⟩) :
    SpecQ Try.prog 52 [x, .fn 53 [], .map m] h fun r => ∃ seen', r = (.bool (decide (l.length ≤ 40) && riseB seen (l.map (·.who.e))), h.set m ⟨.node (seen'.map pt), 0, .mp⟩) ∧ (l.length ≤ 40 → riseB seen (l.map (·.who.e)) = true → seen' = seen ++ l.map (·.who.e)) := by
  have lx := hx.len
  have bx := hx.bound
  rw [List.length_map] at lx bx
  have hself : h.set m ⟨.node (seen.map pt), 0, .mp⟩ = h := by
    apply List.ext_getElem?
    intro i
    rw [List.getElem?_set]
    split
    · rename_i e; subst e; rw [if_pos (List.getElem?_eq_some_iff.1 hm).1, hm]
    · rfl
  have hps : ∀ (i : Nat) (hi : i < l.length), (l.map (·.who.e)).getD i pt0 = l[i].who.e := fun i hi => by
    rw [List.getD_eq_getElem?_getD, List.getElem?_map, List.getElem?_eq_getElem hi]; rfl
  have hpl : (l.map (·.who.e)).length = l.length := List.length_map _
  generalize hP : l.map (·.who.e) = ps at hps hpl ⊢
  refine SpecQ.drop (K := fun r => ∃ seen' t, r = (.bool (decide (l.length ≤ 40) && riseB seen ps), h.set m ⟨.node (seen'.map pt), 0, .mp⟩ ++ t) ∧ (l.length ≤ 40 → riseB seen ps = true → seen' = seen ++ ps)) (q52 fun env g0 g1 g2 => ?_) _ ?_
  · by_cases h40 : l.length ≤ 40
    · repeat' (first | ((with_reducible apply evs_of); (focus ((conv => lhs; simp (disch := omega) [g0, g1, g2, lx, h40]); done)); try dsimp only) | ((with_reducible apply gW_do); (focus (simp (disch := omega) [g0, g1, g2, lx, h40]; done))) | ((with_reducible apply gW_no); (focus (simp (disch := omega) [g0, g1, g2, lx, h40]; done)); try dsimp only) | ((with_reducible apply gW_un); (focus (simp (disch := omega) [g0, g1, g2, lx, h40]; done)); try dsimp only) | ((with_reducible apply cndW_T); (focus (simp (disch := omega) [g0, g1, g2, lx, h40] <;> omega))) | ((with_reducible apply cndW_F); (focus (simp (disch := omega) [g0, g1, g2, lx, h40] <;> omega))) | (with_reducible apply wL_i) | ((with_reducible apply ValW_do); (focus (simp (disch := omega) [g0, g1, g2, lx, h40]; done)); try dsimp only) | ((with_reducible apply ValW_no); (focus (simp (disch := omega) [g0, g1, g2, lx, h40]; done)); try dsimp only) | ((with_reducible apply ValW_un); (focus (simp (disch := omega) [g0, g1, g2, lx, h40]; done)); try dsimp only) | ((with_reducible apply SpecA_i); (focus ((conv => lhs; simp (disch := omega) [g0, g1, g2, lx, h40]); done))) | ((with_reducible apply ValA_i); (focus ((conv => lhs; simp (disch := omega) [g0, g1, g2, lx, h40]); done))) | ((with_reducible apply fnA_i); (focus ((conv => lhs; simp (disch := omega) [g0, g1, g2, lx, h40]); done))) | ((with_reducible apply ValA_fn); (focus ((conv => lhs; simp (disch := omega) [g0, g1, g2, lx, h40]); done))) | (simp (decide := true) only [sn52, sqW_nrm, sqW_exit, sqW_ret, inBlk_nrm, inBlk_ret, inBlk_same, inBlk_exit, if_true, if_false, retW_nrm, retW_ret]) | (with_reducible refine n52_22_w _ _ _ ?_))
      refine loop_up l.length (fun i st => ∃ env' last t, st = ⟨env', h.set m ⟨.node ((seen ++ ps.take i).map pt), 0, .mp⟩ ++ (⟨pt last, 0, .own⟩ :: t)⟩ ∧ env'.get 1 = .fn 53 [] ∧ env'.get 2 = .map m ∧ env'.get 7 = .ptr h.length 0 [] (.arr 32 (.int .u8)) ∧ env'.get 14 = x ∧ env'.get 15 = nat l.length ∧ env'.get 16 = nat i ∧
        (0 < i → last = ps.getD (i - 1) pt0) ∧ ∀ j, j < i → goodAt seen ps j = true) ?_ ?_ ⟨_, pt0, [], (by simp [hself]; rfl), by simp [g1], by simp [g2], by simp, by simp [g0], by simp, by simp, fun h => absurd h (by omega), fun j hj => absurd hj (by omega)⟩
      · rintro i st hi ⟨env', last, t, rfl, e1, e2, e7, e14, e15, e16, hlast, hgood⟩
        have hx' : Row tInvite (h.set m ⟨.node ((seen ++ ps.take i).map pt), 0, .mp⟩) x (l.map eInv) := hx.setm hm rfl
        obtain ⟨p, p1, p2⟩ := hx'.idx (i := i) (by simpa using hi)
        rw [List.getElem?_map, List.getElem?_eq_getElem hi] at p2
        simp only [Option.map_some] at p2
        have hmm : (h.set m ⟨.node ((seen ++ ps.take i).map pt), 0, .mp⟩)[m]? = some ⟨.node ((seen ++ ps.take i).map pt), 0, .mp⟩ := List.getElem?_set_self (List.getElem?_eq_some_iff.1 hm).1
        have hma := mapAt_app hmm
        have hms := set_appL hmm
        have hg : goodAt seen ps i = (!decide (l[i].who.e ∈ seen ++ ps.take i) && (decide (i = 0) || decide (cmpB last.l l[i].who.e.l < 0))) := by
          unfold goodAt
          rw [hps i hi]
          by_cases h0 : i = 0
          · simp [h0]
          · rw [← hlast (by omega)]
        have hS1 : seen ++ ps.take (i + 1) = seen ++ ps.take i ++ [l[i].who.e] := by
          rw [List.append_assoc, List.take_add_one, ← hps i hi, List.getD_eq_getElem?_getD, List.getElem?_eq_getElem (by omega)]
          rfl
        rw [hS1]
        generalize seen ++ ps.take i = S at *
        by_cases hmem : l[i].who.e ∈ S
        · have hno := riseB_no (seen := seen) (by rw [hpl]; exact hi) (by rw [hg]; simp [hmem])
          repeat' (first | ((with_reducible apply evs_of); (focus ((conv => lhs; simp (disch := omega) [e1, e2, e7, e14, e15, e16, p1, p2, hma, hms, hmem]); done)); try dsimp only) | ((with_reducible apply gW_do); (focus (simp (disch := omega) [e1, e2, e7, e14, e15, e16, p1, p2, hma, hms, hmem]; done))) | ((with_reducible apply gW_no); (focus (simp (disch := omega) [e1, e2, e7, e14, e15, e16, p1, p2, hma, hms, hmem]; done)); try dsimp only) | ((with_reducible apply gW_un); (focus (simp (disch := omega) [e1, e2, e7, e14, e15, e16, p1, p2, hma, hms, hmem]; done)); try dsimp only) | ((with_reducible apply cndW_T); (focus (simp (disch := omega) [e1, e2, e7, e14, e15, e16, p1, p2, hma, hms, hmem] <;> omega))) | ((with_reducible apply cndW_F); (focus (simp (disch := omega) [e1, e2, e7, e14, e15, e16, p1, p2, hma, hms, hmem] <;> omega))) | (with_reducible apply wL_i) | ((with_reducible apply ValW_do); (focus (simp (disch := omega) [e1, e2, e7, e14, e15, e16, p1, p2, hma, hms, hmem]; done)); try dsimp only) | ((with_reducible apply ValW_no); (focus (simp (disch := omega) [e1, e2, e7, e14, e15, e16, p1, p2, hma, hms, hmem]; done)); try dsimp only) | ((with_reducible apply ValW_un); (focus (simp (disch := omega) [e1, e2, e7, e14, e15, e16, p1, p2, hma, hms, hmem]; done)); try dsimp only) | (with_reducible refine ValW_i (c53) ?_; try dsimp only) | (with_reducible refine SpecQ.step (c53) ?_; rintro _ rfl; try dsimp only) | ((with_reducible apply SpecA_i); (focus ((conv => lhs; simp (disch := omega) [e1, e2, e7, e14, e15, e16, p1, p2, hma, hms, hmem]); done))) | ((with_reducible apply ValA_i); (focus ((conv => lhs; simp (disch := omega) [e1, e2, e7, e14, e15, e16, p1, p2, hma, hms, hmem]); done))) | ((with_reducible apply fnA_i); (focus ((conv => lhs; simp (disch := omega) [e1, e2, e7, e14, e15, e16, p1, p2, hma, hms, hmem]); done))) | ((with_reducible apply ValA_fn); (focus ((conv => lhs; simp (disch := omega) [e1, e2, e7, e14, e15, e16, p1, p2, hma, hms, hmem]); done))) | (simp (decide := true) only [sn52, sqW_nrm, sqW_exit, sqW_ret, inBlk_nrm, inBlk_ret, inBlk_same, inBlk_exit, if_true, if_false, retW_nrm, retW_ret]) | (with_reducible refine n52_22_w _ _ _ ?_))
          refine .inr ⟨by simp, ?_⟩
          repeat' (first | ((with_reducible apply evs_of); (focus ((conv => lhs; simp (disch := omega) [e1]); done)); try dsimp only) | ((with_reducible apply gW_do); (focus (simp (disch := omega) [e1]; done))) | ((with_reducible apply gW_no); (focus (simp (disch := omega) [e1]; done)); try dsimp only) | ((with_reducible apply gW_un); (focus (simp (disch := omega) [e1]; done)); try dsimp only) | ((with_reducible apply cndW_T); (focus (simp (disch := omega) [e1] <;> omega))) | ((with_reducible apply cndW_F); (focus (simp (disch := omega) [e1] <;> omega))) | (with_reducible apply wL_i) | ((with_reducible apply ValW_do); (focus (simp (disch := omega) [e1]; done)); try dsimp only) | ((with_reducible apply ValW_no); (focus (simp (disch := omega) [e1]; done)); try dsimp only) | ((with_reducible apply ValW_un); (focus (simp (disch := omega) [e1]; done)); try dsimp only) | ((with_reducible apply SpecA_i); (focus ((conv => lhs; simp (disch := omega) [e1]); done))) | ((with_reducible apply ValA_i); (focus ((conv => lhs; simp (disch := omega) [e1]); done))) | ((with_reducible apply fnA_i); (focus ((conv => lhs; simp (disch := omega) [e1]); done))) | ((with_reducible apply ValA_fn); (focus ((conv => lhs; simp (disch := omega) [e1]); done))) | (simp (decide := true) only [sn52, sqW_nrm, sqW_exit, sqW_ret, inBlk_nrm, inBlk_ret, inBlk_same, inBlk_exit, if_true, if_false, retW_nrm, retW_ret]) | (with_reducible refine n52_22_w _ _ _ ?_))
          exact ⟨S, _, (by simp [oneOrTuple, hno]; rfl), fun _ h => by rw [hno] at h; cases h⟩
        · by_cases h0 : i = 0
          · have hyes : goodAt seen ps i = true := by rw [hg, decide_eq_true h0]; simp [hmem]
            have hz : ¬ (0 < i) := by omega
            repeat' (first | ((with_reducible apply evs_of); (focus ((conv => lhs; simp (disch := omega) [e1, e2, e7, e14, e15, e16, p1, p2, hma, hms, hmem, hz]); done)); try dsimp only) | ((with_reducible apply gW_do); (focus (simp (disch := omega) [e1, e2, e7, e14, e15, e16, p1, p2, hma, hms, hmem, hz]; done))) | ((with_reducible apply gW_no); (focus (simp (disch := omega) [e1, e2, e7, e14, e15, e16, p1, p2, hma, hms, hmem, hz]; done)); try dsimp only) | ((with_reducible apply gW_un); (focus (simp (disch := omega) [e1, e2, e7, e14, e15, e16, p1, p2, hma, hms, hmem, hz]; done)); try dsimp only) | ((with_reducible apply cndW_T); (focus (simp (disch := omega) [e1, e2, e7, e14, e15, e16, p1, p2, hma, hms, hmem, hz] <;> omega))) | ((with_reducible apply cndW_F); (focus (simp (disch := omega) [e1, e2, e7, e14, e15, e16, p1, p2, hma, hms, hmem, hz] <;> omega))) | (with_reducible apply wL_i) | ((with_reducible apply ValW_do); (focus (simp (disch := omega) [e1, e2, e7, e14, e15, e16, p1, p2, hma, hms, hmem, hz]; done)); try dsimp only) | ((with_reducible apply ValW_no); (focus (simp (disch := omega) [e1, e2, e7, e14, e15, e16, p1, p2, hma, hms, hmem, hz]; done)); try dsimp only) | ((with_reducible apply ValW_un); (focus (simp (disch := omega) [e1, e2, e7, e14, e15, e16, p1, p2, hma, hms, hmem, hz]; done)); try dsimp only) | (with_reducible refine ValW_i (c53) ?_; try dsimp only) | (with_reducible refine SpecQ.step (c53) ?_; rintro _ rfl; try dsimp only) | (with_reducible refine ValW_i (c66 (pt_bytA (p := last) (by simp)) (pt_bytA (p := l[i].who.e) (by simp))) ?_; try dsimp only) | (with_reducible refine SpecQ.step (c66 (pt_bytA (p := last) (by simp)) (pt_bytA (p := l[i].who.e) (by simp))) ?_; rintro _ rfl; try dsimp only) | ((with_reducible apply SpecA_i); (focus ((conv => lhs; simp (disch := omega) [e1, e2, e7, e14, e15, e16, p1, p2, hma, hms, hmem, hz]); done))) | ((with_reducible apply ValA_i); (focus ((conv => lhs; simp (disch := omega) [e1, e2, e7, e14, e15, e16, p1, p2, hma, hms, hmem, hz]); done))) | ((with_reducible apply fnA_i); (focus ((conv => lhs; simp (disch := omega) [e1, e2, e7, e14, e15, e16, p1, p2, hma, hms, hmem, hz]); done))) | ((with_reducible apply ValA_fn); (focus ((conv => lhs; simp (disch := omega) [e1, e2, e7, e14, e15, e16, p1, p2, hma, hms, hmem, hz]); done))) | (simp (decide := true) only [sn52, sqW_nrm, sqW_exit, sqW_ret, inBlk_nrm, inBlk_ret, inBlk_same, inBlk_exit, if_true, if_false, retW_nrm, retW_ret]) | (with_reducible refine n52_22_w _ _ _ ?_))
            refine .inl ⟨by simp, _, l[i].who.e, _, (by simp; exact ⟨rfl, rfl⟩), by simp [e1], by simp [e2], by simp [e7], by simp [e14], by simp [e15], by simp, fun _ => (by rw [Nat.add_sub_cancel]; exact (hps i hi).symm), fun j hj => ?_⟩
            by_cases hji : j = i
            · rw [hji]; exact hyes
            · exact hgood j (by omega)
          · have hz : 0 < i := by omega
            by_cases hc : cmpB last.l l[i].who.e.l < 0
            · have hyes : goodAt seen ps i = true := by rw [hg]; simp [hmem, hc]
              have hc' : ¬ (0 ≤ cmpB last.l l[i].who.e.l) := by omega
              repeat' (first | ((with_reducible apply evs_of); (focus ((conv => lhs; simp (disch := omega) [e1, e2, e7, e14, e15, e16, p1, p2, hma, hms, hmem, hz, hc']); done)); try dsimp only) | ((with_reducible apply gW_do); (focus (simp (disch := omega) [e1, e2, e7, e14, e15, e16, p1, p2, hma, hms, hmem, hz, hc']; done))) | ((with_reducible apply gW_no); (focus (simp (disch := omega) [e1, e2, e7, e14, e15, e16, p1, p2, hma, hms, hmem, hz, hc']; done)); try dsimp only) | ((with_reducible apply gW_un); (focus (simp (disch := omega) [e1, e2, e7, e14, e15, e16, p1, p2, hma, hms, hmem, hz, hc']; done)); try dsimp only) | ((with_reducible apply cndW_T); (focus (simp (disch := omega) [e1, e2, e7, e14, e15, e16, p1, p2, hma, hms, hmem, hz, hc'] <;> omega))) | ((with_reducible apply cndW_F); (focus (simp (disch := omega) [e1, e2, e7, e14, e15, e16, p1, p2, hma, hms, hmem, hz, hc'] <;> omega))) | (with_reducible apply wL_i) | ((with_reducible apply ValW_do); (focus (simp (disch := omega) [e1, e2, e7, e14, e15, e16, p1, p2, hma, hms, hmem, hz, hc']; done)); try dsimp only) | ((with_reducible apply ValW_no); (focus (simp (disch := omega) [e1, e2, e7, e14, e15, e16, p1, p2, hma, hms, hmem, hz, hc']; done)); try dsimp only) | ((with_reducible apply ValW_un); (focus (simp (disch := omega) [e1, e2, e7, e14, e15, e16, p1, p2, hma, hms, hmem, hz, hc']; done)); try dsimp only) | (with_reducible refine ValW_i (c53) ?_; try dsimp only) | (with_reducible refine SpecQ.step (c53) ?_; rintro _ rfl; try dsimp only) | (with_reducible refine ValW_i (c66 (pt_bytA (p := last) (by simp)) (pt_bytA (p := l[i].who.e) (by simp))) ?_; try dsimp only) | (with_reducible refine SpecQ.step (c66 (pt_bytA (p := last) (by simp)) (pt_bytA (p := l[i].who.e) (by simp))) ?_; rintro _ rfl; try dsimp only) | ((with_reducible apply SpecA_i); (focus ((conv => lhs; simp (disch := omega) [e1, e2, e7, e14, e15, e16, p1, p2, hma, hms, hmem, hz, hc']); done))) | ((with_reducible apply ValA_i); (focus ((conv => lhs; simp (disch := omega) [e1, e2, e7, e14, e15, e16, p1, p2, hma, hms, hmem, hz, hc']); done))) | ((with_reducible apply fnA_i); (focus ((conv => lhs; simp (disch := omega) [e1, e2, e7, e14, e15, e16, p1, p2, hma, hms, hmem, hz, hc']); done))) | ((with_reducible apply ValA_fn); (focus ((conv => lhs; simp (disch := omega) [e1, e2, e7, e14, e15, e16, p1, p2, hma, hms, hmem, hz, hc']); done))) | (simp (decide := true) only [sn52, sqW_nrm, sqW_exit, sqW_ret, inBlk_nrm, inBlk_ret, inBlk_same, inBlk_exit, if_true, if_false, retW_nrm, retW_ret]) | (with_reducible refine n52_22_w _ _ _ ?_))
              refine .inl ⟨by simp, _, l[i].who.e, _, (by simp; exact ⟨rfl, rfl⟩), by simp [e1], by simp [e2], by simp [e7], by simp [e14], by simp [e15], by simp, fun _ => (by rw [Nat.add_sub_cancel]; exact (hps i hi).symm), fun j hj => ?_⟩
              by_cases hji : j = i
              · rw [hji]; exact hyes
              · exact hgood j (by omega)
            · have hno := riseB_no (seen := seen) (by rw [hpl]; exact hi) (by rw [hg]; simp [h0, hc])
              have hc' : 0 ≤ cmpB last.l l[i].who.e.l := by omega
              repeat' (first | ((with_reducible apply evs_of); (focus ((conv => lhs; simp (disch := omega) [e1, e2, e7, e14, e15, e16, p1, p2, hma, hms, hmem, hz, hc']); done)); try dsimp only) | ((with_reducible apply gW_do); (focus (simp (disch := omega) [e1, e2, e7, e14, e15, e16, p1, p2, hma, hms, hmem, hz, hc']; done))) | ((with_reducible apply gW_no); (focus (simp (disch := omega) [e1, e2, e7, e14, e15, e16, p1, p2, hma, hms, hmem, hz, hc']; done)); try dsimp only) | ((with_reducible apply gW_un); (focus (simp (disch := omega) [e1, e2, e7, e14, e15, e16, p1, p2, hma, hms, hmem, hz, hc']; done)); try dsimp only) | ((with_reducible apply cndW_T); (focus (simp (disch := omega) [e1, e2, e7, e14, e15, e16, p1, p2, hma, hms, hmem, hz, hc'] <;> omega))) | ((with_reducible apply cndW_F); (focus (simp (disch := omega) [e1, e2, e7, e14, e15, e16, p1, p2, hma, hms, hmem, hz, hc'] <;> omega))) | (with_reducible apply wL_i) | ((with_reducible apply ValW_do); (focus (simp (disch := omega) [e1, e2, e7, e14, e15, e16, p1, p2, hma, hms, hmem, hz, hc']; done)); try dsimp only) | ((with_reducible apply ValW_no); (focus (simp (disch := omega) [e1, e2, e7, e14, e15, e16, p1, p2, hma, hms, hmem, hz, hc']; done)); try dsimp only) | ((with_reducible apply ValW_un); (focus (simp (disch := omega) [e1, e2, e7, e14, e15, e16, p1, p2, hma, hms, hmem, hz, hc']; done)); try dsimp only) | (with_reducible refine ValW_i (c53) ?_; try dsimp only) | (with_reducible refine SpecQ.step (c53) ?_; rintro _ rfl; try dsimp only) | (with_reducible refine ValW_i (c66 (pt_bytA (p := last) (by simp)) (pt_bytA (p := l[i].who.e) (by simp))) ?_; try dsimp only) | (with_reducible refine SpecQ.step (c66 (pt_bytA (p := last) (by simp)) (pt_bytA (p := l[i].who.e) (by simp))) ?_; rintro _ rfl; try dsimp only) | ((with_reducible apply SpecA_i); (focus ((conv => lhs; simp (disch := omega) [e1, e2, e7, e14, e15, e16, p1, p2, hma, hms, hmem, hz, hc']); done))) | ((with_reducible apply ValA_i); (focus ((conv => lhs; simp (disch := omega) [e1, e2, e7, e14, e15, e16, p1, p2, hma, hms, hmem, hz, hc']); done))) | ((with_reducible apply fnA_i); (focus ((conv => lhs; simp (disch := omega) [e1, e2, e7, e14, e15, e16, p1, p2, hma, hms, hmem, hz, hc']); done))) | ((with_reducible apply ValA_fn); (focus ((conv => lhs; simp (disch := omega) [e1, e2, e7, e14, e15, e16, p1, p2, hma, hms, hmem, hz, hc']); done))) | (simp (decide := true) only [sn52, sqW_nrm, sqW_exit, sqW_ret, inBlk_nrm, inBlk_ret, inBlk_same, inBlk_exit, if_true, if_false, retW_nrm, retW_ret]) | (with_reducible refine n52_22_w _ _ _ ?_))
              refine .inr ⟨by simp, ?_⟩
              repeat' (first | ((with_reducible apply evs_of); (focus ((conv => lhs; simp (disch := omega) [e1]); done)); try dsimp only) | ((with_reducible apply gW_do); (focus (simp (disch := omega) [e1]; done))) | ((with_reducible apply gW_no); (focus (simp (disch := omega) [e1]; done)); try dsimp only) | ((with_reducible apply gW_un); (focus (simp (disch := omega) [e1]; done)); try dsimp only) | ((with_reducible apply cndW_T); (focus (simp (disch := omega) [e1] <;> omega))) | ((with_reducible apply cndW_F); (focus (simp (disch := omega) [e1] <;> omega))) | (with_reducible apply wL_i) | ((with_reducible apply ValW_do); (focus (simp (disch := omega) [e1]; done)); try dsimp only) | ((with_reducible apply ValW_no); (focus (simp (disch := omega) [e1]; done)); try dsimp only) | ((with_reducible apply ValW_un); (focus (simp (disch := omega) [e1]; done)); try dsimp only) | ((with_reducible apply SpecA_i); (focus ((conv => lhs; simp (disch := omega) [e1]); done))) | ((with_reducible apply ValA_i); (focus ((conv => lhs; simp (disch := omega) [e1]); done))) | ((with_reducible apply fnA_i); (focus ((conv => lhs; simp (disch := omega) [e1]); done))) | ((with_reducible apply ValA_fn); (focus ((conv => lhs; simp (disch := omega) [e1]); done))) | (simp (decide := true) only [sn52, sqW_nrm, sqW_exit, sqW_ret, inBlk_nrm, inBlk_ret, inBlk_same, inBlk_exit, if_true, if_false, retW_nrm, retW_ret]) | (with_reducible refine n52_22_w _ _ _ ?_))
              exact ⟨S, _, (by simp [oneOrTuple, hno]; rfl), fun _ h => by rw [hno] at h; cases h⟩
      · rintro st ⟨env', last, t, rfl, e1, e2, e7, e14, e15, e16, hlast, hgood⟩
        have hyes := riseB_yes (seen := seen) (ps := ps) (fun i hi => hgood i (by omega))
        have htk : ps.take l.length = ps := by rw [← hpl]; exact List.take_length
        rw [htk]
        generalize hS : seen ++ ps = S at *
        repeat' (first | ((with_reducible apply evs_of); (focus ((conv => lhs; simp (disch := omega) [e1, e15, e16]); done)); try dsimp only) | ((with_reducible apply gW_do); (focus (simp (disch := omega) [e1, e15, e16]; done))) | ((with_reducible apply gW_no); (focus (simp (disch := omega) [e1, e15, e16]; done)); try dsimp only) | ((with_reducible apply gW_un); (focus (simp (disch := omega) [e1, e15, e16]; done)); try dsimp only) | ((with_reducible apply cndW_T); (focus (simp (disch := omega) [e1, e15, e16] <;> omega))) | ((with_reducible apply cndW_F); (focus (simp (disch := omega) [e1, e15, e16] <;> omega))) | (with_reducible apply wL_i) | ((with_reducible apply ValW_do); (focus (simp (disch := omega) [e1, e15, e16]; done)); try dsimp only) | ((with_reducible apply ValW_no); (focus (simp (disch := omega) [e1, e15, e16]; done)); try dsimp only) | ((with_reducible apply ValW_un); (focus (simp (disch := omega) [e1, e15, e16]; done)); try dsimp only) | ((with_reducible apply SpecA_i); (focus ((conv => lhs; simp (disch := omega) [e1, e15, e16]); done))) | ((with_reducible apply ValA_i); (focus ((conv => lhs; simp (disch := omega) [e1, e15, e16]); done))) | ((with_reducible apply fnA_i); (focus ((conv => lhs; simp (disch := omega) [e1, e15, e16]); done))) | ((with_reducible apply ValA_fn); (focus ((conv => lhs; simp (disch := omega) [e1, e15, e16]); done))) | (simp (decide := true) only [sn52, sqW_nrm, sqW_exit, sqW_ret, inBlk_nrm, inBlk_ret, inBlk_same, inBlk_exit, if_true, if_false, retW_nrm, retW_ret]) | (with_reducible refine n52_22_w _ _ _ ?_))
        refine ⟨by simp, ?_⟩
        repeat' (first | ((with_reducible apply evs_of); (focus ((conv => lhs; simp (disch := omega) [e1, e15, e16]); done)); try dsimp only) | ((with_reducible apply gW_do); (focus (simp (disch := omega) [e1, e15, e16]; done))) | ((with_reducible apply gW_no); (focus (simp (disch := omega) [e1, e15, e16]; done)); try dsimp only) | ((with_reducible apply gW_un); (focus (simp (disch := omega) [e1, e15, e16]; done)); try dsimp only) | ((with_reducible apply cndW_T); (focus (simp (disch := omega) [e1, e15, e16] <;> omega))) | ((with_reducible apply cndW_F); (focus (simp (disch := omega) [e1, e15, e16] <;> omega))) | (with_reducible apply wL_i) | ((with_reducible apply ValW_do); (focus (simp (disch := omega) [e1, e15, e16]; done)); try dsimp only) | ((with_reducible apply ValW_no); (focus (simp (disch := omega) [e1, e15, e16]; done)); try dsimp only) | ((with_reducible apply ValW_un); (focus (simp (disch := omega) [e1, e15, e16]; done)); try dsimp only) | ((with_reducible apply SpecA_i); (focus ((conv => lhs; simp (disch := omega) [e1, e15, e16]); done))) | ((with_reducible apply ValA_i); (focus ((conv => lhs; simp (disch := omega) [e1, e15, e16]); done))) | ((with_reducible apply fnA_i); (focus ((conv => lhs; simp (disch := omega) [e1, e15, e16]); done))) | ((with_reducible apply ValA_fn); (focus ((conv => lhs; simp (disch := omega) [e1, e15, e16]); done))) | (simp (decide := true) only [sn52, sqW_nrm, sqW_exit, sqW_ret, inBlk_nrm, inBlk_ret, inBlk_same, inBlk_exit, if_true, if_false, retW_nrm, retW_ret]) | (with_reducible refine n52_22_w _ _ _ ?_))
        exact ⟨S, _, (by simp [oneOrTuple, hyes, h40]; rfl), fun _ _ => rfl⟩
    · repeat' (first | ((with_reducible apply evs_of); (focus ((conv => lhs; simp (disch := omega) [g0, lx, h40]); done)); try dsimp only) | ((with_reducible apply gW_do); (focus (simp (disch := omega) [g0, lx, h40]; done))) | ((with_reducible apply gW_no); (focus (simp (disch := omega) [g0, lx, h40]; done)); try dsimp only) | ((with_reducible apply gW_un); (focus (simp (disch := omega) [g0, lx, h40]; done)); try dsimp only) | ((with_reducible apply cndW_T); (focus (simp (disch := omega) [g0, lx, h40] <;> omega))) | ((with_reducible apply cndW_F); (focus (simp (disch := omega) [g0, lx, h40] <;> omega))) | (with_reducible apply wL_i) | ((with_reducible apply ValW_do); (focus (simp (disch := omega) [g0, lx, h40]; done)); try dsimp only) | ((with_reducible apply ValW_no); (focus (simp (disch := omega) [g0, lx, h40]; done)); try dsimp only) | ((with_reducible apply ValW_un); (focus (simp (disch := omega) [g0, lx, h40]; done)); try dsimp only) | ((with_reducible apply SpecA_i); (focus ((conv => lhs; simp (disch := omega) [g0, lx, h40]); done))) | ((with_reducible apply ValA_i); (focus ((conv => lhs; simp (disch := omega) [g0, lx, h40]); done))) | ((with_reducible apply fnA_i); (focus ((conv => lhs; simp (disch := omega) [g0, lx, h40]); done))) | ((with_reducible apply ValA_fn); (focus ((conv => lhs; simp (disch := omega) [g0, lx, h40]); done))) | (simp (decide := true) only [sn52, sqW_nrm, sqW_exit, sqW_ret, inBlk_nrm, inBlk_ret, inBlk_same, inBlk_exit, if_true, if_false, retW_nrm, retW_ret]) | (with_reducible refine n52_22_w _ _ _ ?_))
      exact ⟨seen, [], by simp [oneOrTuple, h40, hself], fun h => absurd h h40⟩
  · rintro r ⟨seen', t, rfl, hs⟩
    refine ⟨_, t, rfl, by simp, fun i b hb => ?_, rfl, seen', rfl, hs⟩
    rw [List.getElem?_set] at hb
    split at hb
    · split at hb
      · cases hb
        exact .inr (by simp [AV.under, unders_pt])
      · cases hb
    · exact .inl ⟨b, hb, rfl⟩
theorem c55 {h : Heap} {s : Ask} : SpecQ Try.prog 55 [eAsk s] h fun r => r = (eCi s.who, h) := by
  refine SpecQ.drop1 rfl (q55 fun env g0 => ?_)
  repeat' (first | ((with_reducible apply evs_of); (focus ((conv => lhs; simp (disch := omega) [g0]); done)); try dsimp only) | (simp (decide := true) only [sn55, sqW_nrm, sqW_exit, sqW_ret, inBlk_nrm, inBlk_ret, inBlk_same, inBlk_exit, if_true, if_false, retW_nrm, retW_ret]))
  exact ⟨_, rfl⟩

set_option maxHeartbeats 1000000 in
theorem c54 {h : Heap} {x : AV} {l : List Ask} {m : Nat} {seen : List Pt} (hx : Row tAsk h x (l.map eAsk)) (hm : h[m]? = some ⟨.node (seen.map pt), 0, .mp⟩) :
    SpecQ Try.prog 54 [x, .fn 55 [], .map m] h fun r => ∃ seen', r = (.bool (decide (l.length ≤ 40) && riseB seen (l.map (·.who.e))), h.set m ⟨.node (seen'.map pt), 0, .mp⟩) ∧ (l.length ≤ 40 → riseB seen (l.map (·.who.e)) = true → seen' = seen ++ l.map (·.who.e)) := by
  have lx := hx.len
  have bx := hx.bound
  rw [List.length_map] at lx bx
  have hself : h.set m ⟨.node (seen.map pt), 0, .mp⟩ = h := by
    apply List.ext_getElem?
    intro i
    rw [List.getElem?_set]
    split
    · rename_i e; subst e; rw [if_pos (List.getElem?_eq_some_iff.1 hm).1, hm]
    · rfl
  have hps : ∀ (i : Nat) (hi : i < l.length), (l.map (·.who.e)).getD i pt0 = l[i].who.e := fun i hi => by
    rw [List.getD_eq_getElem?_getD, List.getElem?_map, List.getElem?_eq_getElem hi]; rfl
  have hpl : (l.map (·.who.e)).length = l.length := List.length_map _
  generalize hP : l.map (·.who.e) = ps at hps hpl ⊢
  refine SpecQ.drop (K := fun r => ∃ seen' t, r = (.bool (decide (l.length ≤ 40) && riseB seen ps), h.set m ⟨.node (seen'.map pt), 0, .mp⟩ ++ t) ∧ (l.length ≤ 40 → riseB seen ps = true → seen' = seen ++ ps)) (q54 fun env g0 g1 g2 => ?_) _ ?_
  · by_cases h40 : l.length ≤ 40
    · repeat' (first | ((with_reducible apply evs_of); (focus ((conv => lhs; simp (disch := omega) [g0, g1, g2, lx, h40]); done)); try dsimp only) | ((with_reducible apply gW_do); (focus (simp (disch := omega) [g0, g1, g2, lx, h40]; done))) | ((with_reducible apply gW_no); (focus (simp (disch := omega) [g0, g1, g2, lx, h40]; done)); try dsimp only) | ((with_reducible apply gW_un); (focus (simp (disch := omega) [g0, g1, g2, lx, h40]; done)); try dsimp only) | ((with_reducible apply cndW_T); (focus (simp (disch := omega) [g0, g1, g2, lx, h40] <;> omega))) | ((with_reducible apply cndW_F); (focus (simp (disch := omega) [g0, g1, g2, lx, h40] <;> omega))) | (with_reducible apply wL_i) | ((with_reducible apply ValW_do); (focus (simp (disch := omega) [g0, g1, g2, lx, h40]; done)); try dsimp only) | ((with_reducible apply ValW_no); (focus (simp (disch := omega) [g0, g1, g2, lx, h40]; done)); try dsimp only) | ((with_reducible apply ValW_un); (focus (simp (disch := omega) [g0, g1, g2, lx, h40]; done)); try dsimp only) | ((with_reducible apply SpecA_i); (focus ((conv => lhs; simp (disch := omega) [g0, g1, g2, lx, h40]); done))) | ((with_reducible apply ValA_i); (focus ((conv => lhs; simp (disch := omega) [g0, g1, g2, lx, h40]); done))) | ((with_reducible apply fnA_i); (focus ((conv => lhs; simp (disch := omega) [g0, g1, g2, lx, h40]); done))) | ((with_reducible apply ValA_fn); (focus ((conv => lhs; simp (disch := omega) [g0, g1, g2, lx, h40]); done))) | (simp (decide := true) only [sn54, sqW_nrm, sqW_exit, sqW_ret, inBlk_nrm, inBlk_ret, inBlk_same, inBlk_exit, if_true, if_false, retW_nrm, retW_ret]) | (with_reducible refine n54_22_w _ _ _ ?_))
      refine loop_up l.length (fun i st => ∃ env' last t, st = ⟨env', h.set m ⟨.node ((seen ++ ps.take i).map pt), 0, .mp⟩ ++ (⟨pt last, 0, .own⟩ :: t)⟩ ∧ env'.get 1 = .fn 55 [] ∧ env'.get 2 = .map m ∧ env'.get 7 = .ptr h.length 0 [] (.arr 32 (.int .u8)) ∧ env'.get 14 = x ∧ env'.get 15 = nat l.length ∧ env'.get 16 = nat i ∧
        (0 < i → last = ps.getD (i - 1) pt0) ∧ ∀ j, j < i → goodAt seen ps j = true) ?_ ?_ ⟨_, pt0, [], (by simp [hself]; rfl), by simp [g1], by simp [g2], by simp, by simp [g0], by simp, by simp, fun h => absurd h (by omega), fun j hj => absurd hj (by omega)⟩
      · rintro i st hi ⟨env', last, t, rfl, e1, e2, e7, e14, e15, e16, hlast, hgood⟩
        have hx' : Row tAsk (h.set m ⟨.node ((seen ++ ps.take i).map pt), 0, .mp⟩) x (l.map eAsk) := hx.setm hm rfl
        obtain ⟨p, p1, p2⟩ := hx'.idx (i := i) (by simpa using hi)
        rw [List.getElem?_map, List.getElem?_eq_getElem hi] at p2
        simp only [Option.map_some] at p2
        have hmm : (h.set m ⟨.node ((seen ++ ps.take i).map pt), 0, .mp⟩)[m]? = some ⟨.node ((seen ++ ps.take i).map pt), 0, .mp⟩ := List.getElem?_set_self (List.getElem?_eq_some_iff.1 hm).1
        have hma := mapAt_app hmm
        have hms := set_appL hmm
        have hg : goodAt seen ps i = (!decide (l[i].who.e ∈ seen ++ ps.take i) && (decide (i = 0) || decide (cmpB last.l l[i].who.e.l < 0))) := by
          unfold goodAt
          rw [hps i hi]
          by_cases h0 : i = 0
          · simp [h0]
          · rw [← hlast (by omega)]
        have hS1 : seen ++ ps.take (i + 1) = seen ++ ps.take i ++ [l[i].who.e] := by
          rw [List.append_assoc, List.take_add_one, ← hps i hi, List.getD_eq_getElem?_getD, List.getElem?_eq_getElem (by omega)]
          rfl
        rw [hS1]
        generalize seen ++ ps.take i = S at *
        by_cases hmem : l[i].who.e ∈ S
        · have hno := riseB_no (seen := seen) (by rw [hpl]; exact hi) (by rw [hg]; simp [hmem])
          repeat' (first | ((with_reducible apply evs_of); (focus ((conv => lhs; simp (disch := omega) [e1, e2, e7, e14, e15, e16, p1, p2, hma, hms, hmem]); done)); try dsimp only) | ((with_reducible apply gW_do); (focus (simp (disch := omega) [e1, e2, e7, e14, e15, e16, p1, p2, hma, hms, hmem]; done))) | ((with_reducible apply gW_no); (focus (simp (disch := omega) [e1, e2, e7, e14, e15, e16, p1, p2, hma, hms, hmem]; done)); try dsimp only) | ((with_reducible apply gW_un); (focus (simp (disch := omega) [e1, e2, e7, e14, e15, e16, p1, p2, hma, hms, hmem]; done)); try dsimp only) | ((with_reducible apply cndW_T); (focus (simp (disch := omega) [e1, e2, e7, e14, e15, e16, p1, p2, hma, hms, hmem] <;> omega))) | ((with_reducible apply cndW_F); (focus (simp (disch := omega) [e1, e2, e7, e14, e15, e16, p1, p2, hma, hms, hmem] <;> omega))) | (with_reducible apply wL_i) | ((with_reducible apply ValW_do); (focus (simp (disch := omega) [e1, e2, e7, e14, e15, e16, p1, p2, hma, hms, hmem]; done)); try dsimp only) | ((with_reducible apply ValW_no); (focus (simp (disch := omega) [e1, e2, e7, e14, e15, e16, p1, p2, hma, hms, hmem]; done)); try dsimp only) | ((with_reducible apply ValW_un); (focus (simp (disch := omega) [e1, e2, e7, e14, e15, e16, p1, p2, hma, hms, hmem]; done)); try dsimp only) | (with_reducible refine ValW_i (c55) ?_; try dsimp only) | (with_reducible refine SpecQ.step (c55) ?_; rintro _ rfl; try dsimp only) | ((with_reducible apply SpecA_i); (focus ((conv => lhs; simp (disch := omega) [e1, e2, e7, e14, e15, e16, p1, p2, hma, hms, hmem]); done))) | ((with_reducible apply ValA_i); (focus ((conv => lhs; simp (disch := omega) [e1, e2, e7, e14, e15, e16, p1, p2, hma, hms, hmem]); done))) | ((with_reducible apply fnA_i); (focus ((conv => lhs; simp (disch := omega) [e1, e2, e7, e14, e15, e16, p1, p2, hma, hms, hmem]); done))) | ((with_reducible apply ValA_fn); (focus ((conv => lhs; simp (disch := omega) [e1, e2, e7, e14, e15, e16, p1, p2, hma, hms, hmem]); done))) | (simp (decide := true) only [sn54, sqW_nrm, sqW_exit, sqW_ret, inBlk_nrm, inBlk_ret, inBlk_same, inBlk_exit, if_true, if_false, retW_nrm, retW_ret]) | (with_reducible refine n54_22_w _ _ _ ?_))
          refine .inr ⟨by simp, ?_⟩
          repeat' (first | ((with_reducible apply evs_of); (focus ((conv => lhs; simp (disch := omega) [e1]); done)); try dsimp only) | ((with_reducible apply gW_do); (focus (simp (disch := omega) [e1]; done))) | ((with_reducible apply gW_no); (focus (simp (disch := omega) [e1]; done)); try dsimp only) | ((with_reducible apply gW_un); (focus (simp (disch := omega) [e1]; done)); try dsimp only) | ((with_reducible apply cndW_T); (focus (simp (disch := omega) [e1] <;> omega))) | ((with_reducible apply cndW_F); (focus (simp (disch := omega) [e1] <;> omega))) | (with_reducible apply wL_i) | ((with_reducible apply ValW_do); (focus (simp (disch := omega) [e1]; done)); try dsimp only) | ((with_reducible apply ValW_no); (focus (simp (disch := omega) [e1]; done)); try dsimp only) | ((with_reducible apply ValW_un); (focus (simp (disch := omega) [e1]; done)); try dsimp only) | ((with_reducible apply SpecA_i); (focus ((conv => lhs; simp (disch := omega) [e1]); done))) | ((with_reducible apply ValA_i); (focus ((conv => lhs; simp (disch := omega) [e1]); done))) | ((with_reducible apply fnA_i); (focus ((conv => lhs; simp (disch := omega) [e1]); done))) | ((with_reducible apply ValA_fn); (focus ((conv => lhs; simp (disch := omega) [e1]); done))) | (simp (decide := true) only [sn54, sqW_nrm, sqW_exit, sqW_ret, inBlk_nrm, inBlk_ret, inBlk_same, inBlk_exit, if_true, if_false, retW_nrm, retW_ret]) | (with_reducible refine n54_22_w _ _ _ ?_))
          exact ⟨S, _, (by simp [oneOrTuple, hno]; rfl), fun _ h => by rw [hno] at h; cases h⟩
        · by_cases h0 : i = 0
          · have hyes : goodAt seen ps i = true := by rw [hg, decide_eq_true h0]; simp [hmem]
            have hz : ¬ (0 < i) := by omega
            repeat' (first | ((with_reducible apply evs_of); (focus ((conv => lhs; simp (disch := omega) [e1, e2, e7, e14, e15, e16, p1, p2, hma, hms, hmem, hz]); done)); try dsimp only) | ((with_reducible apply gW_do); (focus (simp (disch := omega) [e1, e2, e7, e14, e15, e16, p1, p2, hma, hms, hmem, hz]; done))) | ((with_reducible apply gW_no); (focus (simp (disch := omega) [e1, e2, e7, e14, e15, e16, p1, p2, hma, hms, hmem, hz]; done)); try dsimp only) | ((with_reducible apply gW_un); (focus (simp (disch := omega) [e1, e2, e7, e14, e15, e16, p1, p2, hma, hms, hmem, hz]; done)); try dsimp only) | ((with_reducible apply cndW_T); (focus (simp (disch := omega) [e1, e2, e7, e14, e15, e16, p1, p2, hma, hms, hmem, hz] <;> omega))) | ((with_reducible apply cndW_F); (focus (simp (disch := omega) [e1, e2, e7, e14, e15, e16, p1, p2, hma, hms, hmem, hz] <;> omega))) | (with_reducible apply wL_i) | ((with_reducible apply ValW_do); (focus (simp (disch := omega) [e1, e2, e7, e14, e15, e16, p1, p2, hma, hms, hmem, hz]; done)); try dsimp only) | ((with_reducible apply ValW_no); (focus (simp (disch := omega) [e1, e2, e7, e14, e15, e16, p1, p2, hma, hms, hmem, hz]; done)); try dsimp only) | ((with_reducible apply ValW_un); (focus (simp (disch := omega) [e1, e2, e7, e14, e15, e16, p1, p2, hma, hms, hmem, hz]; done)); try dsimp only) | (with_reducible refine ValW_i (c55) ?_; try dsimp only) | (with_reducible refine SpecQ.step (c55) ?_; rintro _ rfl; try dsimp only) | (with_reducible refine ValW_i (c66 (pt_bytA (p := last) (by simp)) (pt_bytA (p := l[i].who.e) (by simp))) ?_; try dsimp only) | (with_reducible refine SpecQ.step (c66 (pt_bytA (p := last) (by simp)) (pt_bytA (p := l[i].who.e) (by simp))) ?_; rintro _ rfl; try dsimp only) | ((with_reducible apply SpecA_i); (focus ((conv => lhs; simp (disch := omega) [e1, e2, e7, e14, e15, e16, p1, p2, hma, hms, hmem, hz]); done))) | ((with_reducible apply ValA_i); (focus ((conv => lhs; simp (disch := omega) [e1, e2, e7, e14, e15, e16, p1, p2, hma, hms, hmem, hz]); done))) | ((with_reducible apply fnA_i); (focus ((conv => lhs; simp (disch := omega) [e1, e2, e7, e14, e15, e16, p1, p2, hma, hms, hmem, hz]); done))) | ((with_reducible apply ValA_fn); (focus ((conv => lhs; simp (disch := omega) [e1, e2, e7, e14, e15, e16, p1, p2, hma, hms, hmem, hz]); done))) | (simp (decide := true) only [sn54, sqW_nrm, sqW_exit, sqW_ret, inBlk_nrm, inBlk_ret, inBlk_same, inBlk_exit, if_true, if_false, retW_nrm, retW_ret]) | (with_reducible refine n54_22_w _ _ _ ?_))
            refine .inl ⟨by simp, _, l[i].who.e, _, (by simp; exact ⟨rfl, rfl⟩), by simp [e1], by simp [e2], by simp [e7], by simp [e14], by simp [e15], by simp, fun _ => (by rw [Nat.add_sub_cancel]; exact (hps i hi).symm), fun j hj => ?_⟩
            by_cases hji : j = i
            · rw [hji]; exact hyes
            · exact hgood j (by omega)
          · have hz : 0 < i := by omega
            by_cases hc : cmpB last.l l[i].who.e.l < 0
            · have hyes : goodAt seen ps i = true := by rw [hg]; simp [hmem, hc]
              have hc' : ¬ (0 ≤ cmpB last.l l[i].who.e.l) := by omega
              repeat' (first | ((with_reducible apply evs_of); (focus ((conv => lhs; simp (disch := omega) [e1, e2, e7, e14, e15, e16, p1, p2, hma, hms, hmem, hz, hc']); done)); try dsimp only) | ((with_reducible apply gW_do); (focus (simp (disch := omega) [e1, e2, e7, e14, e15, e16, p1, p2, hma, hms, hmem, hz, hc']; done))) | ((with_reducible apply gW_no); (focus (simp (disch := omega) [e1, e2, e7, e14, e15, e16, p1, p2, hma, hms, hmem, hz, hc']; done)); try dsimp only) | ((with_reducible apply gW_un); (focus (simp (disch := omega) [e1, e2, e7, e14, e15, e16, p1, p2, hma, hms, hmem, hz, hc']; done)); try dsimp only) | ((with_reducible apply cndW_T); (focus (simp (disch := omega) [e1, e2, e7, e14, e15, e16, p1, p2, hma, hms, hmem, hz, hc'] <;> omega))) | ((with_reducible apply cndW_F); (focus (simp (disch := omega) [e1, e2, e7, e14, e15, e16, p1, p2, hma, hms, hmem, hz, hc'] <;> omega))) | (with_reducible apply wL_i) | ((with_reducible apply ValW_do); (focus (simp (disch := omega) [e1, e2, e7, e14, e15, e16, p1, p2, hma, hms, hmem, hz, hc']; done)); try dsimp only) | ((with_reducible apply ValW_no); (focus (simp (disch := omega) [e1, e2, e7, e14, e15, e16, p1, p2, hma, hms, hmem, hz, hc']; done)); try dsimp only) | ((with_reducible apply ValW_un); (focus (simp (disch := omega) [e1, e2, e7, e14, e15, e16, p1, p2, hma, hms, hmem, hz, hc']; done)); try dsimp only) | (with_reducible refine ValW_i (c55) ?_; try dsimp only) | (with_reducible refine SpecQ.step (c55) ?_; rintro _ rfl; try dsimp only) | (with_reducible refine ValW_i (c66 (pt_bytA (p := last) (by simp)) (pt_bytA (p := l[i].who.e) (by simp))) ?_; try dsimp only) | (with_reducible refine SpecQ.step (c66 (pt_bytA (p := last) (by simp)) (pt_bytA (p := l[i].who.e) (by simp))) ?_; rintro _ rfl; try dsimp only) | ((with_reducible apply SpecA_i); (focus ((conv => lhs; simp (disch := omega) [e1, e2, e7, e14, e15, e16, p1, p2, hma, hms, hmem, hz, hc']); done))) | ((with_reducible apply ValA_i); (focus ((conv => lhs; simp (disch := omega) [e1, e2, e7, e14, e15, e16, p1, p2, hma, hms, hmem, hz, hc']); done))) | ((with_reducible apply fnA_i); (focus ((conv => lhs; simp (disch := omega) [e1, e2, e7, e14, e15, e16, p1, p2, hma, hms, hmem, hz, hc']); done))) | ((with_reducible apply ValA_fn); (focus ((conv => lhs; simp (disch := omega) [e1, e2, e7, e14, e15, e16, p1, p2, hma, hms, hmem, hz, hc']); done))) | (simp (decide := true) only [sn54, sqW_nrm, sqW_exit, sqW_ret, inBlk_nrm, inBlk_ret, inBlk_same, inBlk_exit, if_true, if_false, retW_nrm, retW_ret]) | (with_reducible refine n54_22_w _ _ _ ?_))
              refine .inl ⟨by simp, _, l[i].who.e, _, (by simp; exact ⟨rfl, rfl⟩), by simp [e1], by simp [e2], by simp [e7], by simp [e14], by simp [e15], by simp, fun _ => (by rw [Nat.add_sub_cancel]; exact (hps i hi).symm), fun j hj => ?_⟩
              by_cases hji : j = i
              · rw [hji]; exact hyes
              · exact hgood j (by omega)
            · have hno := riseB_no (seen := seen) (by rw [hpl]; exact hi) (by rw [hg]; simp [h0, hc])
              have hc' : 0 ≤ cmpB last.l l[i].who.e.l := by omega
              repeat' (first | ((with_reducible apply evs_of); (focus ((conv => lhs; simp (disch := omega) [e1, e2, e7, e14, e15, e16, p1, p2, hma, hms, hmem, hz, hc']); done)); try dsimp only) | ((with_reducible apply gW_do); (focus (simp (disch := omega) [e1, e2, e7, e14, e15, e16, p1, p2, hma, hms, hmem, hz, hc']; done))) | ((with_reducible apply gW_no); (focus (simp (disch := omega) [e1, e2, e7, e14, e15, e16, p1, p2, hma, hms, hmem, hz, hc']; done)); try dsimp only) | ((with_reducible apply gW_un); (focus (simp (disch := omega) [e1, e2, e7, e14, e15, e16, p1, p2, hma, hms, hmem, hz, hc']; done)); try dsimp only) | ((with_reducible apply cndW_T); (focus (simp (disch := omega) [e1, e2, e7, e14, e15, e16, p1, p2, hma, hms, hmem, hz, hc'] <;> omega))) | ((with_reducible apply cndW_F); (focus (simp (disch := omega) [e1, e2, e7, e14, e15, e16, p1, p2, hma, hms, hmem, hz, hc'] <;> omega))) | (with_reducible apply wL_i) | ((with_reducible apply ValW_do); (focus (simp (disch := omega) [e1, e2, e7, e14, e15, e16, p1, p2, hma, hms, hmem, hz, hc']; done)); try dsimp only) | ((with_reducible apply ValW_no); (focus (simp (disch := omega) [e1, e2, e7, e14, e15, e16, p1, p2, hma, hms, hmem, hz, hc']; done)); try dsimp only) | ((with_reducible apply ValW_un); (focus (simp (disch := omega) [e1, e2, e7, e14, e15, e16, p1, p2, hma, hms, hmem, hz, hc']; done)); try dsimp only) | (with_reducible refine ValW_i (c55) ?_; try dsimp only) | (with_reducible refine SpecQ.step (c55) ?_; rintro _ rfl; try dsimp only) | (with_reducible refine ValW_i (c66 (pt_bytA (p := last) (by simp)) (pt_bytA (p := l[i].who.e) (by simp))) ?_; try dsimp only) | (with_reducible refine SpecQ.step (c66 (pt_bytA (p := last) (by simp)) (pt_bytA (p := l[i].who.e) (by simp))) ?_; rintro _ rfl; try dsimp only) | ((with_reducible apply SpecA_i); (focus ((conv => lhs; simp (disch := omega) [e1, e2, e7, e14, e15, e16, p1, p2, hma, hms, hmem, hz, hc']); done))) | ((with_reducible apply ValA_i); (focus ((conv => lhs; simp (disch := omega) [e1, e2, e7, e14, e15, e16, p1, p2, hma, hms, hmem, hz, hc']); done))) | ((with_reducible apply fnA_i); (focus ((conv => lhs; simp (disch := omega) [e1, e2, e7, e14, e15, e16, p1, p2, hma, hms, hmem, hz, hc']); done))) | ((with_reducible apply ValA_fn); (focus ((conv => lhs; simp (disch := omega) [e1, e2, e7, e14, e15, e16, p1, p2, hma, hms, hmem, hz, hc']); done))) | (simp (decide := true) only [sn54, sqW_nrm, sqW_exit, sqW_ret, inBlk_nrm, inBlk_ret, inBlk_same, inBlk_exit, if_true, if_false, retW_nrm, retW_ret]) | (with_reducible refine n54_22_w _ _ _ ?_))
              refine .inr ⟨by simp, ?_⟩
              repeat' (first | ((with_reducible apply evs_of); (focus ((conv => lhs; simp (disch := omega) [e1]); done)); try dsimp only) | ((with_reducible apply gW_do); (focus (simp (disch := omega) [e1]; done))) | ((with_reducible apply gW_no); (focus (simp (disch := omega) [e1]; done)); try dsimp only) | ((with_reducible apply gW_un); (focus (simp (disch := omega) [e1]; done)); try dsimp only) | ((with_reducible apply cndW_T); (focus (simp (disch := omega) [e1] <;> omega))) | ((with_reducible apply cndW_F); (focus (simp (disch := omega) [e1] <;> omega))) | (with_reducible apply wL_i) | ((with_reducible apply ValW_do); (focus (simp (disch := omega) [e1]; done)); try dsimp only) | ((with_reducible apply ValW_no); (focus (simp (disch := omega) [e1]; done)); try dsimp only) | ((with_reducible apply ValW_un); (focus (simp (disch := omega) [e1]; done)); try dsimp only) | ((with_reducible apply SpecA_i); (focus ((conv => lhs; simp (disch := omega) [e1]); done))) | ((with_reducible apply ValA_i); (focus ((conv => lhs; simp (disch := omega) [e1]); done))) | ((with_reducible apply fnA_i); (focus ((conv => lhs; simp (disch := omega) [e1]); done))) | ((with_reducible apply ValA_fn); (focus ((conv => lhs; simp (disch := omega) [e1]); done))) | (simp (decide := true) only [sn54, sqW_nrm, sqW_exit, sqW_ret, inBlk_nrm, inBlk_ret, inBlk_same, inBlk_exit, if_true, if_false, retW_nrm, retW_ret]) | (with_reducible refine n54_22_w _ _ _ ?_))
              exact ⟨S, _, (by simp [oneOrTuple, hno]; rfl), fun _ h => by rw [hno] at h; cases h⟩
      · rintro st ⟨env', last, t, rfl, e1, e2, e7, e14, e15, e16, hlast, hgood⟩
        have hyes := riseB_yes (seen := seen) (ps := ps) (fun i hi => hgood i (by omega))
        have htk : ps.take l.length = ps := by rw [← hpl]; exact List.take_length
        rw [htk]
        generalize hS : seen ++ ps = S at *
        repeat' (first | ((with_reducible apply evs_of); (focus ((conv => lhs; simp (disch := omega) [e1, e15, e16]); done)); try dsimp only) | ((with_reducible apply gW_do); (focus (simp (disch := omega) [e1, e15, e16]; done))) | ((with_reducible apply gW_no); (focus (simp (disch := omega) [e1, e15, e16]; done)); try dsimp only) | ((with_reducible apply gW_un); (focus (simp (disch := omega) [e1, e15, e16]; done)); try dsimp only) | ((with_reducible apply cndW_T); (focus (simp (disch := omega) [e1, e15, e16] <;> omega))) | ((with_reducible apply cndW_F); (focus (simp (disch := omega) [e1, e15, e16] <;> omega))) | (with_reducible apply wL_i) | ((with_reducible apply ValW_do); (focus (simp (disch := omega) [e1, e15, e16]; done)); try dsimp only) | ((with_reducible apply ValW_no); (focus (simp (disch := omega) [e1, e15, e16]; done)); try dsimp only) | ((with_reducible apply ValW_un); (focus (simp (disch := omega) [e1, e15, e16]; done)); try dsimp only) | ((with_reducible apply SpecA_i); (focus ((conv => lhs; simp (disch := omega) [e1, e15, e16]); done))) | ((with_reducible apply ValA_i); (focus ((conv => lhs; simp (disch := omega) [e1, e15, e16]); done))) | ((with_reducible apply fnA_i); (focus ((conv => lhs; simp (disch := omega) [e1, e15, e16]); done))) | ((with_reducible apply ValA_fn); (focus ((conv => lhs; simp (disch := omega) [e1, e15, e16]); done))) | (simp (decide := true) only [sn54, sqW_nrm, sqW_exit, sqW_ret, inBlk_nrm, inBlk_ret, inBlk_same, inBlk_exit, if_true, if_false, retW_nrm, retW_ret]) | (with_reducible refine n54_22_w _ _ _ ?_))
        refine ⟨by simp, ?_⟩
        repeat' (first | ((with_reducible apply evs_of); (focus ((conv => lhs; simp (disch := omega) [e1, e15, e16]); done)); try dsimp only) | ((with_reducible apply gW_do); (focus (simp (disch := omega) [e1, e15, e16]; done))) | ((with_reducible apply gW_no); (focus (simp (disch := omega) [e1, e15, e16]; done)); try dsimp only) | ((with_reducible apply gW_un); (focus (simp (disch := omega) [e1, e15, e16]; done)); try dsimp only) | ((with_reducible apply cndW_T); (focus (simp (disch := omega) [e1, e15, e16] <;> omega))) | ((with_reducible apply cndW_F); (focus (simp (disch := omega) [e1, e15, e16] <;> omega))) | (with_reducible apply wL_i) | ((with_reducible apply ValW_do); (focus (simp (disch := omega) [e1, e15, e16]; done)); try dsimp only) | ((with_reducible apply ValW_no); (focus (simp (disch := omega) [e1, e15, e16]; done)); try dsimp only) | ((with_reducible apply ValW_un); (focus (simp (disch := omega) [e1, e15, e16]; done)); try dsimp only) | ((with_reducible apply SpecA_i); (focus ((conv => lhs; simp (disch := omega) [e1, e15, e16]); done))) | ((with_reducible apply ValA_i); (focus ((conv => lhs; simp (disch := omega) [e1, e15, e16]); done))) | ((with_reducible apply fnA_i); (focus ((conv => lhs; simp (disch := omega) [e1, e15, e16]); done))) | ((with_reducible apply ValA_fn); (focus ((conv => lhs; simp (disch := omega) [e1, e15, e16]); done))) | (simp (decide := true) only [sn54, sqW_nrm, sqW_exit, sqW_ret, inBlk_nrm, inBlk_ret, inBlk_same, inBlk_exit, if_true, if_false, retW_nrm, retW_ret]) | (with_reducible refine n54_22_w _ _ _ ?_))
        exact ⟨S, _, (by simp [oneOrTuple, hyes, h40]; rfl), fun _ _ => rfl⟩
    · repeat' (first | ((with_reducible apply evs_of); (focus ((conv => lhs; simp (disch := omega) [g0, lx, h40]); done)); try dsimp only) | ((with_reducible apply gW_do); (focus (simp (disch := omega) [g0, lx, h40]; done))) | ((with_reducible apply gW_no); (focus (simp (disch := omega) [g0, lx, h40]; done)); try dsimp only) | ((with_reducible apply gW_un); (focus (simp (disch := omega) [g0, lx, h40]; done)); try dsimp only) | ((with_reducible apply cndW_T); (focus (simp (disch := omega) [g0, lx, h40] <;> omega))) | ((with_reducible apply cndW_F); (focus (simp (disch := omega) [g0, lx, h40] <;> omega))) | (with_reducible apply wL_i) | ((with_reducible apply ValW_do); (focus (simp (disch := omega) [g0, lx, h40]; done)); try dsimp only) | ((with_reducible apply ValW_no); (focus (simp (disch := omega) [g0, lx, h40]; done)); try dsimp only) | ((with_reducible apply ValW_un); (focus (simp (disch := omega) [g0, lx, h40]; done)); try dsimp only) | ((with_reducible apply SpecA_i); (focus ((conv => lhs; simp (disch := omega) [g0, lx, h40]); done))) | ((with_reducible apply ValA_i); (focus ((conv => lhs; simp (disch := omega) [g0, lx, h40]); done))) | ((with_reducible apply fnA_i); (focus ((conv => lhs; simp (disch := omega) [g0, lx, h40]); done))) | ((with_reducible apply ValA_fn); (focus ((conv => lhs; simp (disch := omega) [g0, lx, h40]); done))) | (simp (decide := true) only [sn54, sqW_nrm, sqW_exit, sqW_ret, inBlk_nrm, inBlk_ret, inBlk_same, inBlk_exit, if_true, if_false, retW_nrm, retW_ret]) | (with_reducible refine n54_22_w _ _ _ ?_))
      exact ⟨seen, [], by simp [oneOrTuple, h40, hself], fun h => absurd h h40⟩
  · rintro r ⟨seen', t, rfl, hs⟩
    refine ⟨_, t, rfl, by simp, fun i b hb => ?_, rfl, seen', rfl, hs⟩
    rw [List.getElem?_set] at hb
    split at hb
    · split at hb
      · cases hb
        exact .inr (by simp [AV.under, unders_pt])
      · cases hb
    · exact .inl ⟨b, hb, rfl⟩
theorem c57 {h : Heap} {s : Ban} : SpecQ Try.prog 57 [eBan s] h fun r => r = (eCi s.who, h) := by
  refine SpecQ.drop1 rfl (q57 fun env g0 => ?_)
  repeat' (first | ((with_reducible apply evs_of); (focus ((conv => lhs; simp (disch := omega) [g0]); done)); try dsimp only) | (simp (decide := true) only [sn57, sqW_nrm, sqW_exit, sqW_ret, inBlk_nrm, inBlk_ret, inBlk_same, inBlk_exit, if_true, if_false, retW_nrm, retW_ret]))
  exact ⟨_, rfl⟩

set_option maxHeartbeats 1000000 in
theorem c56 {h : Heap} {x : AV} {l : List Ban} {m : Nat} {seen : List Pt} (hx : Row tBan h x (l.map eBan)) (hm : h[m]? = some ⟨.node (seen.map pt), 0, .mp⟩) :
    SpecQ Try.prog 56 [x, .fn 57 [], .map m] h fun r => ∃ seen', r = (.bool (decide (l.length ≤ 40) && riseB seen (l.map (·.who.e))), h.set m ⟨.node (seen'.map pt), 0, .mp⟩) ∧ (l.length ≤ 40 → riseB seen (l.map (·.who.e)) = true → seen' = seen ++ l.map (·.who.e)) := by
  have lx := hx.len
  have bx := hx.bound
  rw [List.length_map] at lx bx
  have hself : h.set m ⟨.node (seen.map pt), 0, .mp⟩ = h := by
    apply List.ext_getElem?
    intro i
    rw [List.getElem?_set]
    split
    · rename_i e; subst e; rw [if_pos (List.getElem?_eq_some_iff.1 hm).1, hm]
    · rfl
  have hps : ∀ (i : Nat) (hi : i < l.length), (l.map (·.who.e)).getD i pt0 = l[i].who.e := fun i hi => by
    rw [List.getD_eq_getElem?_getD, List.getElem?_map, List.getElem?_eq_getElem hi]; rfl
  have hpl : (l.map (·.who.e)).length = l.length := List.length_map _
  generalize hP : l.map (·.who.e) = ps at hps hpl ⊢
  refine SpecQ.drop (K := fun r => ∃ seen' t, r = (.bool (decide (l.length ≤ 40) && riseB seen ps), h.set m ⟨.node (seen'.map pt), 0, .mp⟩ ++ t) ∧ (l.length ≤ 40 → riseB seen ps = true → seen' = seen ++ ps)) (q56 fun env g0 g1 g2 => ?_) _ ?_
  · by_cases h40 : l.length ≤ 40
    · repeat' (first | ((with_reducible apply evs_of); (focus ((conv => lhs; simp (disch := omega) [g0, g1, g2, lx, h40]); done)); try dsimp only) | ((with_reducible apply gW_do); (focus (simp (disch := omega) [g0, g1, g2, lx, h40]; done))) | ((with_reducible apply gW_no); (focus (simp (disch := omega) [g0, g1, g2, lx, h40]; done)); try dsimp only) | ((with_reducible apply gW_un); (focus (simp (disch := omega) [g0, g1, g2, lx, h40]; done)); try dsimp only) | ((with_reducible apply cndW_T); (focus (simp (disch := omega) [g0, g1, g2, lx, h40] <;> omega))) | ((with_reducible apply cndW_F); (focus (simp (disch := omega) [g0, g1, g2, lx, h40] <;> omega))) | (with_reducible apply wL_i) | ((with_reducible apply ValW_do); (focus (simp (disch := omega) [g0, g1, g2, lx, h40]; done)); try dsimp only) | ((with_reducible apply ValW_no); (focus (simp (disch := omega) [g0, g1, g2, lx, h40]; done)); try dsimp only) | ((with_reducible apply ValW_un); (focus (simp (disch := omega) [g0, g1, g2, lx, h40]; done)); try dsimp only) | ((with_reducible apply SpecA_i); (focus ((conv => lhs; simp (disch := omega) [g0, g1, g2, lx, h40]); done))) | ((with_reducible apply ValA_i); (focus ((conv => lhs; simp (disch := omega) [g0, g1, g2, lx, h40]); done))) | ((with_reducible apply fnA_i); (focus ((conv => lhs; simp (disch := omega) [g0, g1, g2, lx, h40]); done))) | ((with_reducible apply ValA_fn); (focus ((conv => lhs; simp (disch := omega) [g0, g1, g2, lx, h40]); done))) | (simp (decide := true) only [sn56, sqW_nrm, sqW_exit, sqW_ret, inBlk_nrm, inBlk_ret, inBlk_same, inBlk_exit, if_true, if_false, retW_nrm, retW_ret]) | (with_reducible refine n56_22_w _ _ _ ?_))
      refine loop_up l.length (fun i st => ∃ env' last t, st = ⟨env', h.set m ⟨.node ((seen ++ ps.take i).map pt), 0, .mp⟩ ++ (⟨pt last, 0, .own⟩ :: t)⟩ ∧ env'.get 1 = .fn 57 [] ∧ env'.get 2 = .map m ∧ env'.get 7 = .ptr h.length 0 [] (.arr 32 (.int .u8)) ∧ env'.get 14 = x ∧ env'.get 15 = nat l.length ∧ env'.get 16 = nat i ∧
        (0 < i → last = ps.getD (i - 1) pt0) ∧ ∀ j, j < i → goodAt seen ps j = true) ?_ ?_ ⟨_, pt0, [], (by simp [hself]; rfl), by simp [g1], by simp [g2], by simp, by simp [g0], by simp, by simp, fun h => absurd h (by omega), fun j hj => absurd hj (by omega)⟩
      · rintro i st hi ⟨env', last, t, rfl, e1, e2, e7, e14, e15, e16, hlast, hgood⟩
        have hx' : Row tBan (h.set m ⟨.node ((seen ++ ps.take i).map pt), 0, .mp⟩) x (l.map eBan) := hx.setm hm rfl
        obtain ⟨p, p1, p2⟩ := hx'.idx (i := i) (by simpa using hi)
        rw [List.getElem?_map, List.getElem?_eq_getElem hi] at p2
        simp only [Option.map_some] at p2
        have hmm : (h.set m ⟨.node ((seen ++ ps.take i).map pt), 0, .mp⟩)[m]? = some ⟨.node ((seen ++ ps.take i).map pt), 0, .mp⟩ := List.getElem?_set_self (List.getElem?_eq_some_iff.1 hm).1
        have hma := mapAt_app hmm
        have hms := set_appL hmm
        have hg : goodAt seen ps i = (!decide (l[i].who.e ∈ seen ++ ps.take i) && (decide (i = 0) || decide (cmpB last.l l[i].who.e.l < 0))) := by
          unfold goodAt
          rw [hps i hi]
          by_cases h0 : i = 0
          · simp [h0]
          · rw [← hlast (by omega)]
        have hS1 : seen ++ ps.take (i + 1) = seen ++ ps.take i ++ [l[i].who.e] := by
          rw [List.append_assoc, List.take_add_one, ← hps i hi, List.getD_eq_getElem?_getD, List.getElem?_eq_getElem (by omega)]
          rfl
        rw [hS1]
        generalize seen ++ ps.take i = S at *
        by_cases hmem : l[i].who.e ∈ S
        · have hno := riseB_no (seen := seen) (by rw [hpl]; exact hi) (by rw [hg]; simp [hmem])
          repeat' (first | ((with_reducible apply evs_of); (focus ((conv => lhs; simp (disch := omega) [e1, e2, e7, e14, e15, e16, p1, p2, hma, hms, hmem]); done)); try dsimp only) | ((with_reducible apply gW_do); (focus (simp (disch := omega) [e1, e2, e7, e14, e15, e16, p1, p2, hma, hms, hmem]; done))) | ((with_reducible apply gW_no); (focus (simp (disch := omega) [e1, e2, e7, e14, e15, e16, p1, p2, hma, hms, hmem]; done)); try dsimp only) | ((with_reducible apply gW_un); (focus (simp (disch := omega) [e1, e2, e7, e14, e15, e16, p1, p2, hma, hms, hmem]; done)); try dsimp only) | ((with_reducible apply cndW_T); (focus (simp (disch := omega) [e1, e2, e7, e14, e15, e16, p1, p2, hma, hms, hmem] <;> omega))) | ((with_reducible apply cndW_F); (focus (simp (disch := omega) [e1, e2, e7, e14, e15, e16, p1, p2, hma, hms, hmem] <;> omega))) | (with_reducible apply wL_i) | ((with_reducible apply ValW_do); (focus (simp (disch := omega) [e1, e2, e7, e14, e15, e16, p1, p2, hma, hms, hmem]; done)); try dsimp only) | ((with_reducible apply ValW_no); (focus (simp (disch := omega) [e1, e2, e7, e14, e15, e16, p1, p2, hma, hms, hmem]; done)); try dsimp only) | ((with_reducible apply ValW_un); (focus (simp (disch := omega) [e1, e2, e7, e14, e15, e16, p1, p2, hma, hms, hmem]; done)); try dsimp only) | (with_reducible refine ValW_i (c57) ?_; try dsimp only) | (with_reducible refine SpecQ.step (c57) ?_; rintro _ rfl; try dsimp only) | ((with_reducible apply SpecA_i); (focus ((conv => lhs; simp (disch := omega) [e1, e2, e7, e14, e15, e16, p1, p2, hma, hms, hmem]); done))) | ((with_reducible apply ValA_i); (focus ((conv => lhs; simp (disch := omega) [e1, e2, e7, e14, e15, e16, p1, p2, hma, hms, hmem]); done))) | ((with_reducible apply fnA_i); (focus ((conv => lhs; simp (disch := omega) [e1, e2, e7, e14, e15, e16, p1, p2, hma, hms, hmem]); done))) | ((with_reducible apply ValA_fn); (focus ((conv => lhs; simp (disch := omega) [e1, e2, e7, e14, e15, e16, p1, p2, hma, hms, hmem]); done))) | (simp (decide := true) only [sn56, sqW_nrm, sqW_exit, sqW_ret, inBlk_nrm, inBlk_ret, inBlk_same, inBlk_exit, if_true, if_false, retW_nrm, retW_ret]) | (with_reducible refine n56_22_w _ _ _ ?_))
          refine .inr ⟨by simp, ?_⟩
          repeat' (first | ((with_reducible apply evs_of); (focus ((conv => lhs; simp (disch := omega) [e1]); done)); try dsimp only) | ((with_reducible apply gW_do); (focus (simp (disch := omega) [e1]; done))) | ((with_reducible apply gW_no); (focus (simp (disch := omega) [e1]; done)); try dsimp only) | ((with_reducible apply gW_un); (focus (simp (disch := omega) [e1]; done)); try dsimp only) | ((with_reducible apply cndW_T); (focus (simp (disch := omega) [e1] <;> omega))) | ((with_reducible apply cndW_F); (focus (simp (disch := omega) [e1] <;> omega))) | (with_reducible apply wL_i) | ((with_reducible apply ValW_do); (focus (simp (disch := omega) [e1]; done)); try dsimp only) | ((with_reducible apply ValW_no); (focus (simp (disch := omega) [e1]; done)); try dsimp only) | ((with_reducible apply ValW_un); (focus (simp (disch := omega) [e1]; done)); try dsimp only) | ((with_reducible apply SpecA_i); (focus ((conv => lhs; simp (disch := omega) [e1]); done))) | ((with_reducible apply ValA_i); (focus ((conv => lhs; simp (disch := omega) [e1]); done))) | ((with_reducible apply fnA_i); (focus ((conv => lhs; simp (disch := omega) [e1]); done))) | ((with_reducible apply ValA_fn); (focus ((conv => lhs; simp (disch := omega) [e1]); done))) | (simp (decide := true) only [sn56, sqW_nrm, sqW_exit, sqW_ret, inBlk_nrm, inBlk_ret, inBlk_same, inBlk_exit, if_true, if_false, retW_nrm, retW_ret]) | (with_reducible refine n56_22_w _ _ _ ?_))
          exact ⟨S, _, (by simp [oneOrTuple, hno]; rfl), fun _ h => by rw [hno] at h; cases h⟩
        · by_cases h0 : i = 0
          · have hyes : goodAt seen ps i = true := by rw [hg, decide_eq_true h0]; simp [hmem]
            have hz : ¬ (0 < i) := by omega
            repeat' (first | ((with_reducible apply evs_of); (focus ((conv => lhs; simp (disch := omega) [e1, e2, e7, e14, e15, e16, p1, p2, hma, hms, hmem, hz]); done)); try dsimp only) | ((with_reducible apply gW_do); (focus (simp (disch := omega) [e1, e2, e7, e14, e15, e16, p1, p2, hma, hms, hmem, hz]; done))) | ((with_reducible apply gW_no); (focus (simp (disch := omega) [e1, e2, e7, e14, e15, e16, p1, p2, hma, hms, hmem, hz]; done)); try dsimp only) | ((with_reducible apply gW_un); (focus (simp (disch := omega) [e1, e2, e7, e14, e15, e16, p1, p2, hma, hms, hmem, hz]; done)); try dsimp only) | ((with_reducible apply cndW_T); (focus (simp (disch := omega) [e1, e2, e7, e14, e15, e16, p1, p2, hma, hms, hmem, hz] <;> omega))) | ((with_reducible apply cndW_F); (focus (simp (disch := omega) [e1, e2, e7, e14, e15, e16, p1, p2, hma, hms, hmem, hz] <;> omega))) | (with_reducible apply wL_i) | ((with_reducible apply ValW_do); (focus (simp (disch := omega) [e1, e2, e7, e14, e15, e16, p1, p2, hma, hms, hmem, hz]; done)); try dsimp only) | ((with_reducible apply ValW_no); (focus (simp (disch := omega) [e1, e2, e7, e14, e15, e16, p1, p2, hma, hms, hmem, hz]; done)); try dsimp only) | ((with_reducible apply ValW_un); (focus (simp (disch := omega) [e1, e2, e7, e14, e15, e16, p1, p2, hma, hms, hmem, hz]; done)); try dsimp only) | (with_reducible refine ValW_i (c57) ?_; try dsimp only) | (with_reducible refine SpecQ.step (c57) ?_; rintro _ rfl; try dsimp only) | (with_reducible refine ValW_i (c66 (pt_bytA (p := last) (by simp)) (pt_bytA (p := l[i].who.e) (by simp))) ?_; try dsimp only) | (with_reducible refine SpecQ.step (c66 (pt_bytA (p := last) (by simp)) (pt_bytA (p := l[i].who.e) (by simp))) ?_; rintro _ rfl; try dsimp only) | ((with_reducible apply SpecA_i); (focus ((conv => lhs; simp (disch := omega) [e1, e2, e7, e14, e15, e16, p1, p2, hma, hms, hmem, hz]); done))) | ((with_reducible apply ValA_i); (focus ((conv => lhs; simp (disch := omega) [e1, e2, e7, e14, e15, e16, p1, p2, hma, hms, hmem, hz]); done))) | ((with_reducible apply fnA_i); (focus ((conv => lhs; simp (disch := omega) [e1, e2, e7, e14, e15, e16, p1, p2, hma, hms, hmem, hz]); done))) | ((with_reducible apply ValA_fn); (focus ((conv => lhs; simp (disch := omega) [e1, e2, e7, e14, e15, e16, p1, p2, hma, hms, hmem, hz]); done))) | (simp (decide := true) only [sn56, sqW_nrm, sqW_exit, sqW_ret, inBlk_nrm, inBlk_ret, inBlk_same, inBlk_exit, if_true, if_false, retW_nrm, retW_ret]) | (with_reducible refine n56_22_w _ _ _ ?_))
            refine .inl ⟨by simp, _, l[i].who.e, _, (by simp; exact ⟨rfl, rfl⟩), by simp [e1], by simp [e2], by simp [e7], by simp [e14], by simp [e15], by simp, fun _ => (by rw [Nat.add_sub_cancel]; exact (hps i hi).symm), fun j hj => ?_⟩
            by_cases hji : j = i
            · rw [hji]; exact hyes
            · exact hgood j (by omega)
          · have hz : 0 < i := by omega
            by_cases hc : cmpB last.l l[i].who.e.l < 0
            · have hyes : goodAt seen ps i = true := by rw [hg]; simp [hmem, hc]
              have hc' : ¬ (0 ≤ cmpB last.l l[i].who.e.l) := by omega
              repeat' (first | ((with_reducible apply evs_of); (focus ((conv => lhs; simp (disch := omega) [e1, e2, e7, e14, e15, e16, p1, p2, hma, hms, hmem, hz, hc']); done)); try dsimp only) | ((with_reducible apply gW_do); (focus (simp (disch := omega) [e1, e2, e7, e14, e15, e16, p1, p2, hma, hms, hmem, hz, hc']; done))) | ((with_reducible apply gW_no); (focus (simp (disch := omega) [e1, e2, e7, e14, e15, e16, p1, p2, hma, hms, hmem, hz, hc']; done)); try dsimp only) | ((with_reducible apply gW_un); (focus (simp (disch := omega) [e1, e2, e7, e14, e15, e16, p1, p2, hma, hms, hmem, hz, hc']; done)); try dsimp only) | ((with_reducible apply cndW_T); (focus (simp (disch := omega) [e1, e2, e7, e14, e15, e16, p1, p2, hma, hms, hmem, hz, hc'] <;> omega))) | ((with_reducible apply cndW_F); (focus (simp (disch := omega) [e1, e2, e7, e14, e15, e16, p1, p2, hma, hms, hmem, hz, hc'] <;> omega))) | (with_reducible apply wL_i) | ((with_reducible apply ValW_do); (focus (simp (disch := omega) [e1, e2, e7, e14, e15, e16, p1, p2, hma, hms, hmem, hz, hc']; done)); try dsimp only) | ((with_reducible apply ValW_no); (focus (simp (disch := omega) [e1, e2, e7, e14, e15, e16, p1, p2, hma, hms, hmem, hz, hc']; done)); try dsimp only) | ((with_reducible apply ValW_un); (focus (simp (disch := omega) [e1, e2, e7, e14, e15, e16, p1, p2, hma, hms, hmem, hz, hc']; done)); try dsimp only) | (with_reducible refine ValW_i (c57) ?_; try dsimp only) | (with_reducible refine SpecQ.step (c57) ?_; rintro _ rfl; try dsimp only) | (with_reducible refine ValW_i (c66 (pt_bytA (p := last) (by simp)) (pt_bytA (p := l[i].who.e) (by simp))) ?_; try dsimp only) | (with_reducible refine SpecQ.step (c66 (pt_bytA (p := last) (by simp)) (pt_bytA (p := l[i].who.e) (by simp))) ?_; rintro _ rfl; try dsimp only) | ((with_reducible apply SpecA_i); (focus ((conv => lhs; simp (disch := omega) [e1, e2, e7, e14, e15, e16, p1, p2, hma, hms, hmem, hz, hc']); done))) | ((with_reducible apply ValA_i); (focus ((conv => lhs; simp (disch := omega) [e1, e2, e7, e14, e15, e16, p1, p2, hma, hms, hmem, hz, hc']); done))) | ((with_reducible apply fnA_i); (focus ((conv => lhs; simp (disch := omega) [e1, e2, e7, e14, e15, e16, p1, p2, hma, hms, hmem, hz, hc']); done))) | ((with_reducible apply ValA_fn); (focus ((conv => lhs; simp (disch := omega) [e1, e2, e7, e14, e15, e16, p1, p2, hma, hms, hmem, hz, hc']); done))) | (simp (decide := true) only [sn56, sqW_nrm, sqW_exit, sqW_ret, inBlk_nrm, inBlk_ret, inBlk_same, inBlk_exit, if_true, if_false, retW_nrm, retW_ret]) | (with_reducible refine n56_22_w _ _ _ ?_))
              refine .inl ⟨by simp, _, l[i].who.e, _, (by simp; exact ⟨rfl, rfl⟩), by simp [e1], by simp [e2], by simp [e7], by simp [e14], by simp [e15], by simp, fun _ => (by rw [Nat.add_sub_cancel]; exact (hps i hi).symm), fun j hj => ?_⟩
              by_cases hji : j = i
              · rw [hji]; exact hyes
              · exact hgood j (by omega)
            · have hno := riseB_no (seen := seen) (by rw [hpl]; exact hi) (by rw [hg]; simp [h0, hc])
              have hc' : 0 ≤ cmpB last.l l[i].who.e.l := by omega
              repeat' (first | ((with_reducible apply evs_of); (focus ((conv => lhs; simp (disch := omega) [e1, e2, e7, e14, e15, e16, p1, p2, hma, hms, hmem, hz, hc']); done)); try dsimp only) | ((with_reducible apply gW_do); (focus (simp (disch := omega) [e1, e2, e7, e14, e15, e16, p1, p2, hma, hms, hmem, hz, hc']; done))) | ((with_reducible apply gW_no); (focus (simp (disch := omega) [e1, e2, e7, e14, e15, e16, p1, p2, hma, hms, hmem, hz, hc']; done)); try dsimp only) | ((with_reducible apply gW_un); (focus (simp (disch := omega) [e1, e2, e7, e14, e15, e16, p1, p2, hma, hms, hmem, hz, hc']; done)); try dsimp only) | ((with_reducible apply cndW_T); (focus (simp (disch := omega) [e1, e2, e7, e14, e15, e16, p1, p2, hma, hms, hmem, hz, hc'] <;> omega))) | ((with_reducible apply cndW_F); (focus (simp (disch := omega) [e1, e2, e7, e14, e15, e16, p1, p2, hma, hms, hmem, hz, hc'] <;> omega))) | (with_reducible apply wL_i) | ((with_reducible apply ValW_do); (focus (simp (disch := omega) [e1, e2, e7, e14, e15, e16, p1, p2, hma, hms, hmem, hz, hc']; done)); try dsimp only) | ((with_reducible apply ValW_no); (focus (simp (disch := omega) [e1, e2, e7, e14, e15, e16, p1, p2, hma, hms, hmem, hz, hc']; done)); try dsimp only) | ((with_reducible apply ValW_un); (focus (simp (disch := omega) [e1, e2, e7, e14, e15, e16, p1, p2, hma, hms, hmem, hz, hc']; done)); try dsimp only) | (with_reducible refine ValW_i (c57) ?_; try dsimp only) | (with_reducible refine SpecQ.step (c57) ?_; rintro _ rfl; try dsimp only) | (with_reducible refine ValW_i (c66 (pt_bytA (p := last) (by simp)) (pt_bytA (p := l[i].who.e) (by simp))) ?_; try dsimp only) | (with_reducible refine SpecQ.step (c66 (pt_bytA (p := last) (by simp)) (pt_bytA (p := l[i].who.e) (by simp))) ?_; rintro _ rfl; try dsimp only) | ((with_reducible apply SpecA_i); (focus ((conv => lhs; simp (disch := omega) [e1, e2, e7, e14, e15, e16, p1, p2, hma, hms, hmem, hz, hc']); done))) | ((with_reducible apply ValA_i); (focus ((conv => lhs; simp (disch := omega) [e1, e2, e7, e14, e15, e16, p1, p2, hma, hms, hmem, hz, hc']); done))) | ((with_reducible apply fnA_i); (focus ((conv => lhs; simp (disch := omega) [e1, e2, e7, e14, e15, e16, p1, p2, hma, hms, hmem, hz, hc']); done))) | ((with_reducible apply ValA_fn); (focus ((conv => lhs; simp (disch := omega) [e1, e2, e7, e14, e15, e16, p1, p2, hma, hms, hmem, hz, hc']); done))) | (simp (decide := true) only [sn56, sqW_nrm, sqW_exit, sqW_ret, inBlk_nrm, inBlk_ret, inBlk_same, inBlk_exit, if_true, if_false, retW_nrm, retW_ret]) | (with_reducible refine n56_22_w _ _ _ ?_))
              refine .inr ⟨by simp, ?_⟩
              repeat' (first | ((with_reducible apply evs_of); (focus ((conv => lhs; simp (disch := omega) [e1]); done)); try dsimp only) | ((with_reducible apply gW_do); (focus (simp (disch := omega) [e1]; done))) | ((with_reducible apply gW_no); (focus (simp (disch := omega) [e1]; done)); try dsimp only) | ((with_reducible apply gW_un); (focus (simp (disch := omega) [e1]; done)); try dsimp only) | ((with_reducible apply cndW_T); (focus (simp (disch := omega) [e1] <;> omega))) | ((with_reducible apply cndW_F); (focus (simp (disch := omega) [e1] <;> omega))) | (with_reducible apply wL_i) | ((with_reducible apply ValW_do); (focus (simp (disch := omega) [e1]; done)); try dsimp only) | ((with_reducible apply ValW_no); (focus (simp (disch := omega) [e1]; done)); try dsimp only) | ((with_reducible apply ValW_un); (focus (simp (disch := omega) [e1]; done)); try dsimp only) | ((with_reducible apply SpecA_i); (focus ((conv => lhs; simp (disch := omega) [e1]); done))) | ((with_reducible apply ValA_i); (focus ((conv => lhs; simp (disch := omega) [e1]); done))) | ((with_reducible apply fnA_i); (focus ((conv => lhs; simp (disch := omega) [e1]); done))) | ((with_reducible apply ValA_fn); (focus ((conv => lhs; simp (disch := omega) [e1]); done))) | (simp (decide := true) only [sn56, sqW_nrm, sqW_exit, sqW_ret, inBlk_nrm, inBlk_ret, inBlk_same, inBlk_exit, if_true, if_false, retW_nrm, retW_ret]) | (with_reducible refine n56_22_w _ _ _ ?_))
              exact ⟨S, _, (by simp [oneOrTuple, hno]; rfl), fun _ h => by rw [hno] at h; cases h⟩
      · rintro st ⟨env', last, t, rfl, e1, e2, e7, e14, e15, e16, hlast, hgood⟩
        have hyes := riseB_yes (seen := seen) (ps := ps) (fun i hi => hgood i (by omega))
        have htk : ps.take l.length = ps := by rw [← hpl]; exact List.take_length
        rw [htk]
        generalize hS : seen ++ ps = S at *
        repeat' (first | ((with_reducible apply evs_of); (focus ((conv => lhs; simp (disch := omega) [e1, e15, e16]); done)); try dsimp only) | ((with_reducible apply gW_do); (focus (simp (disch := omega) [e1, e15, e16]; done))) | ((with_reducible apply gW_no); (focus (simp (disch := omega) [e1, e15, e16]; done)); try dsimp only) | ((with_reducible apply gW_un); (focus (simp (disch := omega) [e1, e15, e16]; done)); try dsimp only) | ((with_reducible apply cndW_T); (focus (simp (disch := omega) [e1, e15, e16] <;> omega))) | ((with_reducible apply cndW_F); (focus (simp (disch := omega) [e1, e15, e16] <;> omega))) | (with_reducible apply wL_i) | ((with_reducible apply ValW_do); (focus (simp (disch := omega) [e1, e15, e16]; done)); try dsimp only) | ((with_reducible apply ValW_no); (focus (simp (disch := omega) [e1, e15, e16]; done)); try dsimp only) | ((with_reducible apply ValW_un); (focus (simp (disch := omega) [e1, e15, e16]; done)); try dsimp only) | ((with_reducible apply SpecA_i); (focus ((conv => lhs; simp (disch := omega) [e1, e15, e16]); done))) | ((with_reducible apply ValA_i); (focus ((conv => lhs; simp (disch := omega) [e1, e15, e16]); done))) | ((with_reducible apply fnA_i); (focus ((conv => lhs; simp (disch := omega) [e1, e15, e16]); done))) | ((with_reducible apply ValA_fn); (focus ((conv => lhs; simp (disch := omega) [e1, e15, e16]); done))) | (simp (decide := true) only [sn56, sqW_nrm, sqW_exit, sqW_ret, inBlk_nrm, inBlk_ret, inBlk_same, inBlk_exit, if_true, if_false, retW_nrm, retW_ret]) | (with_reducible refine n56_22_w _ _ _ ?_))
        refine ⟨by simp, ?_⟩
        repeat' (first | ((with_reducible apply evs_of); (focus ((conv => lhs; simp (disch := omega) [e1, e15, e16]); done)); try dsimp only) | ((with_reducible apply gW_do); (focus (simp (disch := omega) [e1, e15, e16]; done))) | ((with_reducible apply gW_no); (focus (simp (disch := omega) [e1, e15, e16]; done)); try dsimp only) | ((with_reducible apply gW_un); (focus (simp (disch := omega) [e1, e15, e16]; done)); try dsimp only) | ((with_reducible apply cndW_T); (focus (simp (disch := omega) [e1, e15, e16] <;> omega))) | ((with_reducible apply cndW_F); (focus (simp (disch := omega) [e1, e15, e16] <;> omega))) | (with_reducible apply wL_i) | ((with_reducible apply ValW_do); (focus (simp (disch := omega) [e1, e15, e16]; done)); try dsimp only) | ((with_reducible apply ValW_no); (focus (simp (disch := omega) [e1, e15, e16]; done)); try dsimp only) | ((with_reducible apply ValW_un); (focus (simp (disch := omega) [e1, e15, e16]; done)); try dsimp only) | ((with_reducible apply SpecA_i); (focus ((conv => lhs; simp (disch := omega) [e1, e15, e16]); done))) | ((with_reducible apply ValA_i); (focus ((conv => lhs; simp (disch := omega) [e1, e15, e16]); done))) | ((with_reducible apply fnA_i); (focus ((conv => lhs; simp (disch := omega) [e1, e15, e16]); done))) | ((with_reducible apply ValA_fn); (focus ((conv => lhs; simp (disch := omega) [e1, e15, e16]); done))) | (simp (decide := true) only [sn56, sqW_nrm, sqW_exit, sqW_ret, inBlk_nrm, inBlk_ret, inBlk_same, inBlk_exit, if_true, if_false, retW_nrm, retW_ret]) | (with_reducible refine n56_22_w _ _ _ ?_))
        exact ⟨S, _, (by simp [oneOrTuple, hyes, h40]; rfl), fun _ _ => rfl⟩
    · repeat' (first | ((with_reducible apply evs_of); (focus ((conv => lhs; simp (disch := omega) [g0, lx, h40]); done)); try dsimp only) | ((with_reducible apply gW_do); (focus (simp (disch := omega) [g0, lx, h40]; done))) | ((with_reducible apply gW_no); (focus (simp (disch := omega) [g0, lx, h40]; done)); try dsimp only) | ((with_reducible apply gW_un); (focus (simp (disch := omega) [g0, lx, h40]; done)); try dsimp only) | ((with_reducible apply cndW_T); (focus (simp (disch := omega) [g0, lx, h40] <;> omega))) | ((with_reducible apply cndW_F); (focus (simp (disch := omega) [g0, lx, h40] <;> omega))) | (with_reducible apply wL_i) | ((with_reducible apply ValW_do); (focus (simp (disch := omega) [g0, lx, h40]; done)); try dsimp only) | ((with_reducible apply ValW_no); (focus (simp (disch := omega) [g0, lx, h40]; done)); try dsimp only) | ((with_reducible apply ValW_un); (focus (simp (disch := omega) [g0, lx, h40]; done)); try dsimp only) | ((with_reducible apply SpecA_i); (focus ((conv => lhs; simp (disch := omega) [g0, lx, h40]); done))) | ((with_reducible apply ValA_i); (focus ((conv => lhs; simp (disch := omega) [g0, lx, h40]); done))) | ((with_reducible apply fnA_i); (focus ((conv => lhs; simp (disch := omega) [g0, lx, h40]); done))) | ((with_reducible apply ValA_fn); (focus ((conv => lhs; simp (disch := omega) [g0, lx, h40]); done))) | (simp (decide := true) only [sn56, sqW_nrm, sqW_exit, sqW_ret, inBlk_nrm, inBlk_ret, inBlk_same, inBlk_exit, if_true, if_false, retW_nrm, retW_ret]) | (with_reducible refine n56_22_w _ _ _ ?_))
      exact ⟨seen, [], by simp [oneOrTuple, h40, hself], fun h => absurd h h40⟩
  · rintro r ⟨seen', t, rfl, hs⟩
    refine ⟨_, t, rfl, by simp, fun i b hb => ?_, rfl, seen', rfl, hs⟩
    rw [List.getElem?_set] at hb
    split at hb
    · split at hb
      · cases hb
        exact .inr (by simp [AV.under, unders_pt])
      · cases hb
    · exact .inl ⟨b, hb, rfl⟩

end Go.Vab

/- How the code of a function is read. Printed by wip/tools/gen2.py (own work). -/
namespace Go.Vab
open Go Go.Proofs
/-! vestry/forms.MayState$1 -/
def cx59 : Ctx := ⟨fun _ _ _ => none, TT, 7, [3, 4, 5, 6]⟩
noncomputable def n59_0 : Code := bodyOf Try.f59
noncomputable def n59_1 : Code := cR n59_0
noncomputable def n59_2 : Code := cR n59_1
theorem n59_2_eq (Q : Ex × St → Prop) (s : St) : wC Try.prog cx59 n59_2 Q s = Q (.ret, s) := yE
theorem n59_1_eq (Q : Ex × St → Prop) (env : Env) (h : Heap) : wC Try.prog cx59 n59_1 Q ⟨env, h⟩ = (Evs (mFieldAddr tSeat (env.get 1) 1) fun v0 => Evs (mLoad (.int .u8) v0 h) fun v1 => SpecA Try.prog 60 [v1] h fun r2 => Evs (mUn .not r2.1) fun v3 => wC Try.prog cx59 n59_2 Q ⟨(Env.put env 2 v3), r2.2⟩) := (ySR 1 (cOps (cL n59_1)) (cR n59_1)).trans (by
  refine w0 ?_
  refine wP 3 fun v0 => ?_
  refine wP 4 fun v1 => ?_
  refine wH 5 fun r2 => ?_
  refine wP 6 fun v3 => ?_
  refine wT 2 v3 ?_
  exact wE)
theorem n59_0_eq (Q : Ex × St → Prop) (env : Env) (h : Heap) : wC Try.prog cx59 n59_0 Q ⟨env, h⟩ = (Evs (mNew tSeat (env.get 0) h) fun r0 => wC Try.prog cx59 n59_1 Q ⟨(Env.put (Env.put env 1 r0.1) 2 (.bool false)), r0.2⟩) := (ySR 0 (cOps (cL n59_0)) (cR n59_0)).trans (by
  refine w0 ?_
  refine wH 1 fun r0 => ?_
  refine wT 2 (.bool false) ?_
  exact wE)
theorem fn59 : Try.prog.funcs[59]? = some Try.f59 := by kernel_rfl
theorem q59 {a0 : AV} {h : Heap} {K : AV × Heap → Prop} (H : ∀ env : Env, env.get 0 = a0 → wC Try.prog cx59 n59_0 (retW (fun s => (bnd (some (s.env.get 2)) fun v => bnd (some []) fun vs => some (v :: vs))) K) ⟨env, h⟩) : SpecQ Try.prog 59 [a0] h K :=
  bodyW_sound (C := cx59) TT_ok mixed_ok fn59 (by kernel_rfl) (show _ = some n59_0 by kernel_rfl) (by kernel_rfl) (by kernel_rfl) (of_decide_eq_true (by kernel_rfl)) ((show wC Try.prog cx59 n59_0 (retW (fun s => resAll cx59 s Try.f59.results.toList) K) ⟨env0 cx59 [a0], h⟩ = wC Try.prog cx59 n59_0 (retW (fun s => (bnd (some (s.env.get 2)) fun v => bnd (some []) fun vs => some (v :: vs))) K) ⟨[(0, a0), (1, .junk), (2, .junk)], h⟩ by kernel_rfl).mpr (H [(0, a0), (1, .junk), (2, .junk)] rfl))
def sn59 := And.intro n59_2_eq (And.intro n59_1_eq (n59_0_eq))
-- draws: 
end Go.Vab

/- How the code of a function is read. Printed by wip/tools/gen2.py (own work). -/
namespace Go.Vab
open Go Go.Proofs
/-! vestry/forms.MayState$2 -/
def cx62 : Ctx := ⟨fun _ _ _ => none, TT, 7, [3, 4, 5, 6]⟩
noncomputable def n62_0 : Code := bodyOf Try.f62
noncomputable def n62_1 : Code := cR n62_0
noncomputable def n62_2 : Code := cR n62_1
theorem n62_2_eq (Q : Ex × St → Prop) (s : St) : wC Try.prog cx62 n62_2 Q s = Q (.ret, s) := yE
theorem n62_1_eq (Q : Ex × St → Prop) (env : Env) (h : Heap) : wC Try.prog cx62 n62_1 Q ⟨env, h⟩ = (Evs (mFieldAddr tInvite (env.get 1) 1) fun v0 => Evs (mLoad (.int .u8) v0 h) fun v1 => SpecA Try.prog 60 [v1] h fun r2 => Evs (mUn .not r2.1) fun v3 => wC Try.prog cx62 n62_2 Q ⟨(Env.put env 2 v3), r2.2⟩) := (ySR 1 (cOps (cL n62_1)) (cR n62_1)).trans (by
  refine w0 ?_
  refine wP 3 fun v0 => ?_
  refine wP 4 fun v1 => ?_
  refine wH 5 fun r2 => ?_
  refine wP 6 fun v3 => ?_
  refine wT 2 v3 ?_
  exact wE)
theorem n62_0_eq (Q : Ex × St → Prop) (env : Env) (h : Heap) : wC Try.prog cx62 n62_0 Q ⟨env, h⟩ = (Evs (mNew tInvite (env.get 0) h) fun r0 => wC Try.prog cx62 n62_1 Q ⟨(Env.put (Env.put env 1 r0.1) 2 (.bool false)), r0.2⟩) := (ySR 0 (cOps (cL n62_0)) (cR n62_0)).trans (by
  refine w0 ?_
  refine wH 1 fun r0 => ?_
  refine wT 2 (.bool false) ?_
  exact wE)
theorem fn62 : Try.prog.funcs[62]? = some Try.f62 := by kernel_rfl
theorem q62 {a0 : AV} {h : Heap} {K : AV × Heap → Prop} (H : ∀ env : Env, env.get 0 = a0 → wC Try.prog cx62 n62_0 (retW (fun s => (bnd (some (s.env.get 2)) fun v => bnd (some []) fun vs => some (v :: vs))) K) ⟨env, h⟩) : SpecQ Try.prog 62 [a0] h K :=
  bodyW_sound (C := cx62) TT_ok mixed_ok fn62 (by kernel_rfl) (show _ = some n62_0 by kernel_rfl) (by kernel_rfl) (by kernel_rfl) (of_decide_eq_true (by kernel_rfl)) ((show wC Try.prog cx62 n62_0 (retW (fun s => resAll cx62 s Try.f62.results.toList) K) ⟨env0 cx62 [a0], h⟩ = wC Try.prog cx62 n62_0 (retW (fun s => (bnd (some (s.env.get 2)) fun v => bnd (some []) fun vs => some (v :: vs))) K) ⟨[(0, a0), (1, .junk), (2, .junk)], h⟩ by kernel_rfl).mpr (H [(0, a0), (1, .junk), (2, .junk)] rfl))
def sn62 := And.intro n62_2_eq (And.intro n62_1_eq (n62_0_eq))
-- draws: 
end Go.Vab

/- How the code of a function is read. Printed by wip/tools/gen2.py (own work). -/
namespace Go.Vab
open Go Go.Proofs
/-! slices.IndexFunc[[]vestry/api.Seat,vestry/api.Seat] -/
def cx67 : Ctx := ⟨fun _ _ _ => none, TT, 19, [6, 10, 11, 12, 13, 14, 15, 17, 18]⟩
noncomputable def n67_0 : Code := bodyOf Try.f67
noncomputable def n67_1 : Code := cR n67_0
noncomputable def n67_2 : Code := cL n67_1
noncomputable def n67_3 : Code := cR n67_2
noncomputable def n67_4 : Code := cB n67_3
noncomputable def n67_5 : Code := cB n67_4
noncomputable def n67_6 : Code := cR n67_5
noncomputable def n67_7 : Code := cL n67_6
noncomputable def n67_8 : Code := cL n67_7
noncomputable def n67_9 : Code := cR n67_7
noncomputable def n67_10 : Code := cR n67_6
noncomputable def n67_11 : Code := cL n67_10
noncomputable def n67_12 : Code := cB n67_11
noncomputable def n67_13 : Code := cR n67_12
noncomputable def n67_14 : Code := cR n67_13
noncomputable def n67_15 : Code := cL n67_14
noncomputable def n67_16 : Code := cR n67_15
noncomputable def n67_17 : Code := cR n67_14
noncomputable def n67_18 : Code := cR n67_10
noncomputable def n67_19 : Code := cR n67_1
noncomputable def n67_20 : Code := cR n67_19
theorem n67_8_eq (Q : Ex × St → Prop) (s : St) : wC Try.prog cx67 n67_8 Q s = Q (.nrm, s) := yK
theorem n67_9_eq (Q : Ex × St → Prop) (s : St) : wC Try.prog cx67 n67_9 Q s = Q (.exit 0, s) := yX 0
theorem n67_7_eq (Q : Ex × St → Prop) (s : St) : wC Try.prog cx67 n67_7 Q s = cndW (s.env.get 9) (wL Try.prog cx67 n67_8 Q s) (wL Try.prog cx67 n67_9 Q s) := yC 9 _ _
theorem n67_16_eq (Q : Ex × St → Prop) (s : St) : wC Try.prog cx67 n67_16 Q s = Q (.ret, s) := yE
theorem n67_15_eq (Q : Ex × St → Prop) (env : Env) (h : Heap) : wC Try.prog cx67 n67_15 Q ⟨env, h⟩ = ( wC Try.prog cx67 n67_16 Q ⟨(Env.put env 4 (env.get 5)), h⟩) := (ySR 5 (cOps (cL n67_15)) (cR n67_15)).trans (by
  refine w0 ?_
  refine wT 17 (env.get 5) ?_
  refine wT 4 (env.get 5) ?_
  exact wE)
theorem n67_17_eq (Q : Ex × St → Prop) (s : St) : wC Try.prog cx67 n67_17 Q s = Q (.nrm, s) := yK
theorem n67_14_eq (Q : Ex × St → Prop) (s : St) : wC Try.prog cx67 n67_14 Q s = cndW (s.env.get 16) (wL Try.prog cx67 n67_15 Q s) (wL Try.prog cx67 n67_17 Q s) := yC 16 _ _
theorem n67_13_eq (Q : Ex × St → Prop) (env : Env) (h : Heap) : wC Try.prog cx67 n67_13 Q ⟨env, h⟩ = (Evs (mIdxS tSeat (env.get 0) (env.get 5)) fun v3 => Evs (mLoad tSeat v3 h) fun v4 => fnA Try.prog (env.get 1) [v4] h fun r5 => wC Try.prog cx67 n67_14 Q ⟨(Env.put env 16 r5.1), r5.2⟩) := (ySR 4 (cOps (cL n67_13)) (cR n67_13)).trans (by
  refine w0 ?_
  refine wT 11 (env.get 1) ?_
  refine wT 12 (env.get 0) ?_
  refine wT 13 (env.get 5) ?_
  refine wP 14 fun v3 => ?_
  refine wP 15 fun v4 => ?_
  refine wH 16 fun r5 => ?_
  exact wE)
theorem n67_12_eq (Q : Ex × St → Prop) (env : Env) (h : Heap) : wC Try.prog cx67 n67_12 Q ⟨env, h⟩ = ( wC Try.prog cx67 n67_13 Q ⟨(Env.put env 5 (env.get 8)), h⟩) := (ySR 3 (cOps (cL n67_12)) (cR n67_12)).trans (by
  refine w0 ?_
  refine wT 10 (env.get 8) ?_
  refine wT 5 (env.get 8) ?_
  exact wE)
theorem n67_11_eq (Q : Ex × St → Prop) (s : St) : wC Try.prog cx67 n67_11 Q s = wC Try.prog cx67 n67_12 (fun r => Q (inBlk 1 r)) s := yB 1 _
theorem n67_18_eq (Q : Ex × St → Prop) (env : Env) (h : Heap) : wC Try.prog cx67 n67_18 Q ⟨env, h⟩ = (Evs (mBin .add (env.get 8) (nat 1)) fun v0 => Q (.nrm, ⟨(Env.put env 8 v0), h⟩)) := (yR 6 (cOps n67_18)).trans (by
  refine w0 ?_
  refine wP 18 fun v0 => ?_
  refine wT 8 v0 ?_
  exact wE)
theorem n67_10_eq (Q : Ex × St → Prop) (s : St) : wC Try.prog cx67 n67_10 Q s = wC Try.prog cx67 n67_11 (sqW (wC Try.prog cx67 n67_18) Q) s := yS _ _
theorem n67_6_eq (Q : Ex × St → Prop) (s : St) : wC Try.prog cx67 n67_6 Q s = wC Try.prog cx67 n67_7 (sqW (wC Try.prog cx67 n67_10) Q) s := yS _ _
theorem n67_5_eq (Q : Ex × St → Prop) (env : Env) (h : Heap) : wC Try.prog cx67 n67_5 Q ⟨env, h⟩ = (Evs (mBin .lss (env.get 8) (env.get 7)) fun v0 => wC Try.prog cx67 n67_6 Q ⟨(Env.put env 9 v0), h⟩) := (ySR 2 (cOps (cL n67_5)) (cR n67_5)).trans (by
  refine w0 ?_
  refine wP 9 fun v0 => ?_
  exact wE)
theorem n67_4_eq (Q : Ex × St → Prop) (s : St) : wC Try.prog cx67 n67_4 Q s = loopW (wC Try.prog cx67 n67_5) Q s := yL _
theorem n67_3_eq (Q : Ex × St → Prop) (s : St) : wC Try.prog cx67 n67_3 Q s = wC Try.prog cx67 n67_4 (fun r => Q (inBlk 0 r)) s := yB 0 _
theorem n67_2_eq (Q : Ex × St → Prop) (env : Env) (h : Heap) : wC Try.prog cx67 n67_2 Q ⟨env, h⟩ = (Evs (mLenS (env.get 0)) fun v1 => wC Try.prog cx67 n67_3 Q ⟨(Env.put (Env.put env 7 v1) 8 (nat 0)), h⟩) := (ySR 1 (cOps (cL n67_2)) (cR n67_2)).trans (by
  refine w0 ?_
  refine wT 6 (env.get 0) ?_
  refine wP 7 fun v1 => ?_
  refine wT 8 (nat 0) ?_
  exact wE)
theorem n67_20_eq (Q : Ex × St → Prop) (s : St) : wC Try.prog cx67 n67_20 Q s = Q (.ret, s) := yE
theorem n67_19_eq (Q : Ex × St → Prop) (env : Env) (h : Heap) : wC Try.prog cx67 n67_19 Q ⟨env, h⟩ = ( wC Try.prog cx67 n67_20 Q ⟨(Env.put env 4 (.int .i64 (-1))), h⟩) := (ySR 7 (cOps (cL n67_19)) (cR n67_19)).trans (by
  refine w0 ?_
  refine wT 4 (.int .i64 (-1)) ?_
  exact wE)
theorem n67_1_eq (Q : Ex × St → Prop) (s : St) : wC Try.prog cx67 n67_1 Q s = wC Try.prog cx67 n67_2 (sqW (wC Try.prog cx67 n67_19) Q) s := yS _ _
theorem n67_0_eq (Q : Ex × St → Prop) (env : Env) (h : Heap) : wC Try.prog cx67 n67_0 Q ⟨env, h⟩ = ( wC Try.prog cx67 n67_1 Q ⟨(Env.put env 4 (nat 0)), h⟩) := (ySR 0 (cOps (cL n67_0)) (cR n67_0)).trans (by
  refine w0 ?_
  refine wT 4 (nat 0) ?_
  exact wE)
theorem fn67 : Try.prog.funcs[67]? = some Try.f67 := by kernel_rfl
theorem q67 {a0 a1 : AV} {h : Heap} {K : AV × Heap → Prop} (H : ∀ env : Env, env.get 0 = a0 → env.get 1 = a1 → wC Try.prog cx67 n67_0 (retW (fun s => (bnd (some (s.env.get 4)) fun v => bnd (some []) fun vs => some (v :: vs))) K) ⟨env, h⟩) : SpecQ Try.prog 67 [a0, a1] h K :=
  bodyW_sound (C := cx67) TT_ok mixed_ok fn67 (by kernel_rfl) (show _ = some n67_0 by kernel_rfl) (by kernel_rfl) (by kernel_rfl) (of_decide_eq_true (by kernel_rfl)) ((show wC Try.prog cx67 n67_0 (retW (fun s => resAll cx67 s Try.f67.results.toList) K) ⟨env0 cx67 [a0, a1], h⟩ = wC Try.prog cx67 n67_0 (retW (fun s => (bnd (some (s.env.get 4)) fun v => bnd (some []) fun vs => some (v :: vs))) K) ⟨[(0, a0), (1, a1), (2, .junk), (3, .junk), (4, .junk), (5, .junk), (7, .junk), (8, .junk), (9, .junk), (16, .junk)], h⟩ by kernel_rfl).mpr (H [(0, a0), (1, a1), (2, .junk), (3, .junk), (4, .junk), (5, .junk), (7, .junk), (8, .junk), (9, .junk), (16, .junk)] rfl rfl))
def sn67 := And.intro n67_8_eq (And.intro n67_9_eq (And.intro n67_7_eq (And.intro n67_16_eq (And.intro n67_15_eq (And.intro n67_17_eq (And.intro n67_14_eq (And.intro n67_13_eq (And.intro n67_12_eq (And.intro n67_11_eq (And.intro n67_18_eq (And.intro n67_10_eq (And.intro n67_6_eq (And.intro n67_5_eq (And.intro n67_4_eq (And.intro n67_3_eq (And.intro n67_2_eq (And.intro n67_20_eq (And.intro n67_19_eq (And.intro n67_1_eq (n67_0_eq))))))))))))))))))))
-- draws: 
end Go.Vab

/- How the code of a function is read. Printed by wip/tools/gen2.py (own work). -/
namespace Go.Vab
open Go Go.Proofs
/-! slices.IndexFunc[[]vestry/api.Invite,vestry/api.Invite] -/
def cx68 : Ctx := ⟨fun _ _ _ => none, TT, 19, [6, 10, 11, 12, 13, 14, 15, 17, 18]⟩
noncomputable def n68_0 : Code := bodyOf Try.f68
noncomputable def n68_1 : Code := cR n68_0
noncomputable def n68_2 : Code := cL n68_1
noncomputable def n68_3 : Code := cR n68_2
noncomputable def n68_4 : Code := cB n68_3
noncomputable def n68_5 : Code := cB n68_4
noncomputable def n68_6 : Code := cR n68_5
noncomputable def n68_7 : Code := cL n68_6
noncomputable def n68_8 : Code := cL n68_7
noncomputable def n68_9 : Code := cR n68_7
noncomputable def n68_10 : Code := cR n68_6
noncomputable def n68_11 : Code := cL n68_10
noncomputable def n68_12 : Code := cB n68_11
noncomputable def n68_13 : Code := cR n68_12
noncomputable def n68_14 : Code := cR n68_13
noncomputable def n68_15 : Code := cL n68_14
noncomputable def n68_16 : Code := cR n68_15
noncomputable def n68_17 : Code := cR n68_14
noncomputable def n68_18 : Code := cR n68_10
noncomputable def n68_19 : Code := cR n68_1
noncomputable def n68_20 : Code := cR n68_19
theorem n68_8_eq (Q : Ex × St → Prop) (s : St) : wC Try.prog cx68 n68_8 Q s = Q (.nrm, s) := yK
theorem n68_9_eq (Q : Ex × St → Prop) (s : St) : wC Try.prog cx68 n68_9 Q s = Q (.exit 0, s) := yX 0
theorem n68_7_eq (Q : Ex × St → Prop) (s : St) : wC Try.prog cx68 n68_7 Q s = cndW (s.env.get 9) (wL Try.prog cx68 n68_8 Q s) (wL Try.prog cx68 n68_9 Q s) := yC 9 _ _
theorem n68_16_eq (Q : Ex × St → Prop) (s : St) : wC Try.prog cx68 n68_16 Q s = Q (.ret, s) := yE
theorem n68_15_eq (Q : Ex × St → Prop) (env : Env) (h : Heap) : wC Try.prog cx68 n68_15 Q ⟨env, h⟩ = ( wC Try.prog cx68 n68_16 Q ⟨(Env.put env 4 (env.get 5)), h⟩) := (ySR 5 (cOps (cL n68_15)) (cR n68_15)).trans (by
  refine w0 ?_
  refine wT 17 (env.get 5) ?_
  refine wT 4 (env.get 5) ?_
  exact wE)
theorem n68_17_eq (Q : Ex × St → Prop) (s : St) : wC Try.prog cx68 n68_17 Q s = Q (.nrm, s) := yK
theorem n68_14_eq (Q : Ex × St → Prop) (s : St) : wC Try.prog cx68 n68_14 Q s = cndW (s.env.get 16) (wL Try.prog cx68 n68_15 Q s) (wL Try.prog cx68 n68_17 Q s) := yC 16 _ _
theorem n68_13_eq (Q : Ex × St → Prop) (env : Env) (h : Heap) : wC Try.prog cx68 n68_13 Q ⟨env, h⟩ = (Evs (mIdxS tInvite (env.get 0) (env.get 5)) fun v3 => Evs (mLoad tInvite v3 h) fun v4 => fnA Try.prog (env.get 1) [v4] h fun r5 => wC Try.prog cx68 n68_14 Q ⟨(Env.put env 16 r5.1), r5.2⟩) := (ySR 4 (cOps (cL n68_13)) (cR n68_13)).trans (by
  refine w0 ?_
  refine wT 11 (env.get 1) ?_
  refine wT 12 (env.get 0) ?_
  refine wT 13 (env.get 5) ?_
  refine wP 14 fun v3 => ?_
  refine wP 15 fun v4 => ?_
  refine wH 16 fun r5 => ?_
  exact wE)
theorem n68_12_eq (Q : Ex × St → Prop) (env : Env) (h : Heap) : wC Try.prog cx68 n68_12 Q ⟨env, h⟩ = ( wC Try.prog cx68 n68_13 Q ⟨(Env.put env 5 (env.get 8)), h⟩) := (ySR 3 (cOps (cL n68_12)) (cR n68_12)).trans (by
  refine w0 ?_
  refine wT 10 (env.get 8) ?_
  refine wT 5 (env.get 8) ?_
  exact wE)
theorem n68_11_eq (Q : Ex × St → Prop) (s : St) : wC Try.prog cx68 n68_11 Q s = wC Try.prog cx68 n68_12 (fun r => Q (inBlk 1 r)) s := yB 1 _
theorem n68_18_eq (Q : Ex × St → Prop) (env : Env) (h : Heap) : wC Try.prog cx68 n68_18 Q ⟨env, h⟩ = (Evs (mBin .add (env.get 8) (nat 1)) fun v0 => Q (.nrm, ⟨(Env.put env 8 v0), h⟩)) := (yR 6 (cOps n68_18)).trans (by
  refine w0 ?_
  refine wP 18 fun v0 => ?_
  refine wT 8 v0 ?_
  exact wE)
theorem n68_10_eq (Q : Ex × St → Prop) (s : St) : wC Try.prog cx68 n68_10 Q s = wC Try.prog cx68 n68_11 (sqW (wC Try.prog cx68 n68_18) Q) s := yS _ _
theorem n68_6_eq (Q : Ex × St → Prop) (s : St) : wC Try.prog cx68 n68_6 Q s = wC Try.prog cx68 n68_7 (sqW (wC Try.prog cx68 n68_10) Q) s := yS _ _
theorem n68_5_eq (Q : Ex × St → Prop) (env : Env) (h : Heap) : wC Try.prog cx68 n68_5 Q ⟨env, h⟩ = (Evs (mBin .lss (env.get 8) (env.get 7)) fun v0 => wC Try.prog cx68 n68_6 Q ⟨(Env.put env 9 v0), h⟩) := (ySR 2 (cOps (cL n68_5)) (cR n68_5)).trans (by
  refine w0 ?_
  refine wP 9 fun v0 => ?_
  exact wE)
theorem n68_4_eq (Q : Ex × St → Prop) (s : St) : wC Try.prog cx68 n68_4 Q s = loopW (wC Try.prog cx68 n68_5) Q s := yL _
theorem n68_3_eq (Q : Ex × St → Prop) (s : St) : wC Try.prog cx68 n68_3 Q s = wC Try.prog cx68 n68_4 (fun r => Q (inBlk 0 r)) s := yB 0 _
theorem n68_2_eq (Q : Ex × St → Prop) (env : Env) (h : Heap) : wC Try.prog cx68 n68_2 Q ⟨env, h⟩ = (Evs (mLenS (env.get 0)) fun v1 => wC Try.prog cx68 n68_3 Q ⟨(Env.put (Env.put env 7 v1) 8 (nat 0)), h⟩) := (ySR 1 (cOps (cL n68_2)) (cR n68_2)).trans (by
  refine w0 ?_
  refine wT 6 (env.get 0) ?_
  refine wP 7 fun v1 => ?_
  refine wT 8 (nat 0) ?_
  exact wE)
theorem n68_20_eq (Q : Ex × St → Prop) (s : St) : wC Try.prog cx68 n68_20 Q s = Q (.ret, s) := yE
theorem n68_19_eq (Q : Ex × St → Prop) (env : Env) (h : Heap) : wC Try.prog cx68 n68_19 Q ⟨env, h⟩ = ( wC Try.prog cx68 n68_20 Q ⟨(Env.put env 4 (.int .i64 (-1))), h⟩) := (ySR 7 (cOps (cL n68_19)) (cR n68_19)).trans (by
  refine w0 ?_
  refine wT 4 (.int .i64 (-1)) ?_
  exact wE)
theorem n68_1_eq (Q : Ex × St → Prop) (s : St) : wC Try.prog cx68 n68_1 Q s = wC Try.prog cx68 n68_2 (sqW (wC Try.prog cx68 n68_19) Q) s := yS _ _
theorem n68_0_eq (Q : Ex × St → Prop) (env : Env) (h : Heap) : wC Try.prog cx68 n68_0 Q ⟨env, h⟩ = ( wC Try.prog cx68 n68_1 Q ⟨(Env.put env 4 (nat 0)), h⟩) := (ySR 0 (cOps (cL n68_0)) (cR n68_0)).trans (by
  refine w0 ?_
  refine wT 4 (nat 0) ?_
  exact wE)
theorem fn68 : Try.prog.funcs[68]? = some Try.f68 := by kernel_rfl
theorem q68 {a0 a1 : AV} {h : Heap} {K : AV × Heap → Prop} (H : ∀ env : Env, env.get 0 = a0 → env.get 1 = a1 → wC Try.prog cx68 n68_0 (retW (fun s => (bnd (some (s.env.get 4)) fun v => bnd (some []) fun vs => some (v :: vs))) K) ⟨env, h⟩) : SpecQ Try.prog 68 [a0, a1] h K :=
  bodyW_sound (C := cx68) TT_ok mixed_ok fn68 (by kernel_rfl) (show _ = some n68_0 by kernel_rfl) (by kernel_rfl) (by kernel_rfl) (of_decide_eq_true (by kernel_rfl)) ((show wC Try.prog cx68 n68_0 (retW (fun s => resAll cx68 s Try.f68.results.toList) K) ⟨env0 cx68 [a0, a1], h⟩ = wC Try.prog cx68 n68_0 (retW (fun s => (bnd (some (s.env.get 4)) fun v => bnd (some []) fun vs => some (v :: vs))) K) ⟨[(0, a0), (1, a1), (2, .junk), (3, .junk), (4, .junk), (5, .junk), (7, .junk), (8, .junk), (9, .junk), (16, .junk)], h⟩ by kernel_rfl).mpr (H [(0, a0), (1, a1), (2, .junk), (3, .junk), (4, .junk), (5, .junk), (7, .junk), (8, .junk), (9, .junk), (16, .junk)] rfl rfl))
def sn68 := And.intro n68_8_eq (And.intro n68_9_eq (And.intro n68_7_eq (And.intro n68_16_eq (And.intro n68_15_eq (And.intro n68_17_eq (And.intro n68_14_eq (And.intro n68_13_eq (And.intro n68_12_eq (And.intro n68_11_eq (And.intro n68_18_eq (And.intro n68_10_eq (And.intro n68_6_eq (And.intro n68_5_eq (And.intro n68_4_eq (And.intro n68_3_eq (And.intro n68_2_eq (And.intro n68_20_eq (And.intro n68_19_eq (And.intro n68_1_eq (n68_0_eq))))))))))))))))))))
-- draws: 
end Go.Vab

/- How the code of a function is read. Printed by wip/tools/gen2.py (own work). -/
namespace Go.Vab
open Go Go.Proofs
/-! slices.ContainsFunc[[]vestry/api.Seat,vestry/api.Seat] -/
def cx58 : Ctx := ⟨fun _ _ _ => none, TT, 9, [5, 6, 7, 8]⟩
noncomputable def n58_0 : Code := bodyOf Try.f58
noncomputable def n58_1 : Code := cR n58_0
noncomputable def n58_2 : Code := cR n58_1
theorem n58_2_eq (Q : Ex × St → Prop) (s : St) : wC Try.prog cx58 n58_2 Q s = Q (.ret, s) := yE
theorem n58_1_eq (Q : Ex × St → Prop) (env : Env) (h : Heap) : wC Try.prog cx58 n58_1 Q ⟨env, h⟩ = (SpecA Try.prog 67 [(env.get 0), (env.get 1)] h fun r2 => Evs (mBin .geq r2.1 (nat 0)) fun v3 => wC Try.prog cx58 n58_2 Q ⟨(Env.put env 4 v3), r2.2⟩) := (ySR 1 (cOps (cL n58_1)) (cR n58_1)).trans (by
  refine w0 ?_
  refine wT 5 (env.get 0) ?_
  refine wT 6 (env.get 1) ?_
  refine wH 7 fun r2 => ?_
  refine wP 8 fun v3 => ?_
  refine wT 4 v3 ?_
  exact wE)
theorem n58_0_eq (Q : Ex × St → Prop) (env : Env) (h : Heap) : wC Try.prog cx58 n58_0 Q ⟨env, h⟩ = ( wC Try.prog cx58 n58_1 Q ⟨(Env.put env 4 (.bool false)), h⟩) := (ySR 0 (cOps (cL n58_0)) (cR n58_0)).trans (by
  refine w0 ?_
  refine wT 4 (.bool false) ?_
  exact wE)
theorem fn58 : Try.prog.funcs[58]? = some Try.f58 := by kernel_rfl
theorem q58 {a0 a1 : AV} {h : Heap} {K : AV × Heap → Prop} (H : ∀ env : Env, env.get 0 = a0 → env.get 1 = a1 → wC Try.prog cx58 n58_0 (retW (fun s => (bnd (some (s.env.get 4)) fun v => bnd (some []) fun vs => some (v :: vs))) K) ⟨env, h⟩) : SpecQ Try.prog 58 [a0, a1] h K :=
  bodyW_sound (C := cx58) TT_ok mixed_ok fn58 (by kernel_rfl) (show _ = some n58_0 by kernel_rfl) (by kernel_rfl) (by kernel_rfl) (of_decide_eq_true (by kernel_rfl)) ((show wC Try.prog cx58 n58_0 (retW (fun s => resAll cx58 s Try.f58.results.toList) K) ⟨env0 cx58 [a0, a1], h⟩ = wC Try.prog cx58 n58_0 (retW (fun s => (bnd (some (s.env.get 4)) fun v => bnd (some []) fun vs => some (v :: vs))) K) ⟨[(0, a0), (1, a1), (2, .junk), (3, .junk), (4, .junk)], h⟩ by kernel_rfl).mpr (H [(0, a0), (1, a1), (2, .junk), (3, .junk), (4, .junk)] rfl rfl))
def sn58 := And.intro n58_2_eq (And.intro n58_1_eq (n58_0_eq))
-- draws: 
end Go.Vab

/- How the code of a function is read. Printed by wip/tools/gen2.py (own work). -/
namespace Go.Vab
open Go Go.Proofs
/-! slices.ContainsFunc[[]vestry/api.Invite,vestry/api.Invite] -/
def cx61 : Ctx := ⟨fun _ _ _ => none, TT, 9, [5, 6, 7, 8]⟩
noncomputable def n61_0 : Code := bodyOf Try.f61
noncomputable def n61_1 : Code := cR n61_0
noncomputable def n61_2 : Code := cR n61_1
theorem n61_2_eq (Q : Ex × St → Prop) (s : St) : wC Try.prog cx61 n61_2 Q s = Q (.ret, s) := yE
theorem n61_1_eq (Q : Ex × St → Prop) (env : Env) (h : Heap) : wC Try.prog cx61 n61_1 Q ⟨env, h⟩ = (SpecA Try.prog 68 [(env.get 0), (env.get 1)] h fun r2 => Evs (mBin .geq r2.1 (nat 0)) fun v3 => wC Try.prog cx61 n61_2 Q ⟨(Env.put env 4 v3), r2.2⟩) := (ySR 1 (cOps (cL n61_1)) (cR n61_1)).trans (by
  refine w0 ?_
  refine wT 5 (env.get 0) ?_
  refine wT 6 (env.get 1) ?_
  refine wH 7 fun r2 => ?_
  refine wP 8 fun v3 => ?_
  refine wT 4 v3 ?_
  exact wE)
theorem n61_0_eq (Q : Ex × St → Prop) (env : Env) (h : Heap) : wC Try.prog cx61 n61_0 Q ⟨env, h⟩ = ( wC Try.prog cx61 n61_1 Q ⟨(Env.put env 4 (.bool false)), h⟩) := (ySR 0 (cOps (cL n61_0)) (cR n61_0)).trans (by
  refine w0 ?_
  refine wT 4 (.bool false) ?_
  exact wE)
theorem fn61 : Try.prog.funcs[61]? = some Try.f61 := by kernel_rfl
theorem q61 {a0 a1 : AV} {h : Heap} {K : AV × Heap → Prop} (H : ∀ env : Env, env.get 0 = a0 → env.get 1 = a1 → wC Try.prog cx61 n61_0 (retW (fun s => (bnd (some (s.env.get 4)) fun v => bnd (some []) fun vs => some (v :: vs))) K) ⟨env, h⟩) : SpecQ Try.prog 61 [a0, a1] h K :=
  bodyW_sound (C := cx61) TT_ok mixed_ok fn61 (by kernel_rfl) (show _ = some n61_0 by kernel_rfl) (by kernel_rfl) (by kernel_rfl) (of_decide_eq_true (by kernel_rfl)) ((show wC Try.prog cx61 n61_0 (retW (fun s => resAll cx61 s Try.f61.results.toList) K) ⟨env0 cx61 [a0, a1], h⟩ = wC Try.prog cx61 n61_0 (retW (fun s => (bnd (some (s.env.get 4)) fun v => bnd (some []) fun vs => some (v :: vs))) K) ⟨[(0, a0), (1, a1), (2, .junk), (3, .junk), (4, .junk)], h⟩ by kernel_rfl).mpr (H [(0, a0), (1, a1), (2, .junk), (3, .junk), (4, .junk)] rfl rfl))
def sn61 := And.intro n61_2_eq (And.intro n61_1_eq (n61_0_eq))
-- draws: 
end Go.Vab

/- How the code of a function is read. Printed by wip/tools/gen2.py (own work). -/
namespace Go.Vab
open Go Go.Proofs
/-! vestry/forms.MayState -/
def cx37 : Ctx := ⟨fun _ _ _ => none, TT, 62, [4, 5, 6, 7, 8, 9, 10, 11, 12, 13, 14, 15, 16, 17, 18, 19, 20, 21, 22, 23, 24, 25, 27, 28, 29, 30, 31, 32, 33, 34, 35, 36, 37, 38, 39, 40, 41, 42, 43, 44, 45, 46, 47, 48, 49, 50, 51, 52, 53, 54, 55, 56, 57, 58, 59, 60, 61]⟩
noncomputable def n37_0 : Code := bodyOf Try.f37
noncomputable def n37_1 : Code := cR n37_0
noncomputable def n37_2 : Code := cL n37_1
noncomputable def n37_3 : Code := cR n37_2
noncomputable def n37_4 : Code := cL n37_3
noncomputable def n37_5 : Code := cR n37_4
noncomputable def n37_6 : Code := cR n37_3
noncomputable def n37_7 : Code := cR n37_1
noncomputable def n37_8 : Code := cR n37_7
noncomputable def n37_9 : Code := cR n37_8
theorem n37_5_eq (Q : Ex × St → Prop) (s : St) : wC Try.prog cx37 n37_5 Q s = Q (.ret, s) := yE
theorem n37_4_eq (Q : Ex × St → Prop) (env : Env) (h : Heap) : wC Try.prog cx37 n37_4 Q ⟨env, h⟩ = ( wC Try.prog cx37 n37_5 Q ⟨(Env.put env 2 (.bool false)), h⟩) := (ySR 2 (cOps (cL n37_4)) (cR n37_4)).trans (by
  refine w0 ?_
  refine wT 2 (.bool false) ?_
  exact wE)
theorem n37_6_eq (Q : Ex × St → Prop) (s : St) : wC Try.prog cx37 n37_6 Q s = Q (.nrm, s) := yK
theorem n37_3_eq (Q : Ex × St → Prop) (s : St) : wC Try.prog cx37 n37_3 Q s = cndW (s.env.get 26) (wL Try.prog cx37 n37_4 Q s) (wL Try.prog cx37 n37_6 Q s) := yC 26 _ _
theorem n37_2_eq (Q : Ex × St → Prop) (env : Env) (h : Heap) : wC Try.prog cx37 n37_2 Q ⟨env, h⟩ = (Evs (mFieldAddr tState (env.get 1) 2) fun v0 => Evs (mLoad .cell v0 h) fun v1 => Evs (mLenS v1) fun v2 => Evs (mBin .gtr v2 (nat 200)) fun v3 => Evs (gv v3 false (mFieldAddr tState (env.get 1) 4)) fun v5 => Evs (gv v3 false (mLoad .cell v5 h)) fun v6 => Evs (gv v3 false (mLenS v6)) fun v7 => Evs (gv v3 false (mBin .rem v7 (nat 16))) fun v8 => Evs (gv v3 false (mBin .neq v8 (nat 0))) fun v9 => Evs (mPick v3 (.bool true) v9) fun v10 => Evs (gv v10 false (mFieldAddr tState (env.get 1) 4)) fun v12 => Evs (gv v10 false (mLoad .cell v12 h)) fun v13 => Evs (gv v10 false (mLenS v13)) fun v14 => Evs (gv v10 false (mBin .gtr v14 (nat 16))) fun v15 => Evs (mPick v10 (.bool true) v15) fun v16 => Evs (gv v16 false (mFieldAddr tState (env.get 1) 3)) fun v18 => Evs (gv v16 false (mLoad tAccess v18 h)) fun v19 => gW v16 false (SpecA Try.prog 49 [v19] h) h fun r20 => Evs (gv v16 false (mUn .not r20.1)) fun v21 => Evs (mPick v16 (.bool true) v21) fun v22 => wC Try.prog cx37 n37_3 Q ⟨(Env.put env 26 v22), r20.2⟩) := (ySR 1 (cOps (cL n37_2)) (cR n37_2)).trans (by
  refine w0 ?_
  refine wP 4 fun v0 => ?_
  refine wP 5 fun v1 => ?_
  refine wP 6 fun v2 => ?_
  refine wP 7 fun v3 => ?_
  refine wT 8 v3 ?_
  refine wG 9 fun v5 => ?_
  refine wG 10 fun v6 => ?_
  refine wG 11 fun v7 => ?_
  refine wG 12 fun v8 => ?_
  refine wG 13 fun v9 => ?_
  refine wP 14 fun v10 => ?_
  refine wT 15 v10 ?_
  refine wG 16 fun v12 => ?_
  refine wG 17 fun v13 => ?_
  refine wG 18 fun v14 => ?_
  refine wG 19 fun v15 => ?_
  refine wP 20 fun v16 => ?_
  refine wT 21 v16 ?_
  refine wG 22 fun v18 => ?_
  refine wG 23 fun v19 => ?_
  refine wH 24 fun r20 => ?_
  refine wG 25 fun v21 => ?_
  refine wP 26 fun v22 => ?_
  exact wE)
theorem n37_9_eq (Q : Ex × St → Prop) (s : St) : wC Try.prog cx37 n37_9 Q s = Q (.ret, s) := yE
theorem n37_8_eq (Q : Ex × St → Prop) (env : Env) (h : Heap) : wC Try.prog cx37 n37_8 Q ⟨env, h⟩ = (Evs (mFieldAddr tState (env.get 1) 5) fun v0 => Evs (mLoad .cell v0 h) fun v1 => SpecA Try.prog 50 [v1, (.fn 51 []), (env.get 3)] h fun r3 => Evs (gv r3.1 true (mFieldAddr tState (env.get 1) 6)) fun v5 => Evs (gv r3.1 true (mLoad .cell v5 r3.2)) fun v6 => Evs (gv r3.1 true (some (env.get 3))) fun v7 => gW r3.1 true (SpecA Try.prog 52 [v6, (.fn 53 []), v7] r3.2) r3.2 fun r8 => Evs (mPick r3.1 r8.1 (.bool false)) fun v9 => Evs (gv v9 true (mFieldAddr tState (env.get 1) 7)) fun v11 => Evs (gv v9 true (mLoad .cell v11 r8.2)) fun v12 => Evs (gv v9 true (some (env.get 3))) fun v13 => gW v9 true (SpecA Try.prog 54 [v12, (.fn 55 []), v13] r8.2) r8.2 fun r14 => Evs (mPick v9 r14.1 (.bool false)) fun v15 => Evs (gv v15 true (mFieldAddr tState (env.get 1) 8)) fun v17 => Evs (gv v15 true (mLoad .cell v17 r14.2)) fun v18 => Evs (gv v15 true (some (env.get 3))) fun v19 => gW v15 true (SpecA Try.prog 56 [v18, (.fn 57 []), v19] r14.2) r14.2 fun r20 => Evs (mPick v15 r20.1 (.bool false)) fun v21 => Evs (gv v21 true (mFieldAddr tState (env.get 1) 5)) fun v23 => Evs (gv v21 true (mLoad .cell v23 r20.2)) fun v24 => gW v21 true (SpecA Try.prog 58 [v24, (.fn 59 [])] r20.2) r20.2 fun r25 => Evs (gv v21 true (mUn .not r25.1)) fun v26 => Evs (mPick v21 v26 (.bool false)) fun v27 => Evs (gv v27 true (mFieldAddr tState (env.get 1) 6)) fun v29 => Evs (gv v27 true (mLoad .cell v29 r25.2)) fun v30 => gW v27 true (SpecA Try.prog 61 [v30, (.fn 62 [])] r25.2) r25.2 fun r31 => Evs (gv v27 true (mUn .not r31.1)) fun v32 => Evs (mPick v27 v32 (.bool false)) fun v33 => wC Try.prog cx37 n37_9 Q ⟨(Env.put env 2 v33), r31.2⟩) := (ySR 4 (cOps (cL n37_8)) (cR n37_8)).trans (by
  refine w0 ?_
  refine wP 28 fun v0 => ?_
  refine wP 29 fun v1 => ?_
  refine wT 30 (env.get 3) ?_
  refine wH 31 fun r3 => ?_
  refine wT 32 r3.1 ?_
  refine wG 33 fun v5 => ?_
  refine wG 34 fun v6 => ?_
  refine wG 35 fun v7 => ?_
  refine wH 36 fun r8 => ?_
  refine wP 37 fun v9 => ?_
  refine wT 38 v9 ?_
  refine wG 39 fun v11 => ?_
  refine wG 40 fun v12 => ?_
  refine wG 41 fun v13 => ?_
  refine wH 42 fun r14 => ?_
  refine wP 43 fun v15 => ?_
  refine wT 44 v15 ?_
  refine wG 45 fun v17 => ?_
  refine wG 46 fun v18 => ?_
  refine wG 47 fun v19 => ?_
  refine wH 48 fun r20 => ?_
  refine wP 49 fun v21 => ?_
  refine wT 50 v21 ?_
  refine wG 51 fun v23 => ?_
  refine wG 52 fun v24 => ?_
  refine wH 53 fun r25 => ?_
  refine wG 54 fun v26 => ?_
  refine wP 55 fun v27 => ?_
  refine wT 56 v27 ?_
  refine wG 57 fun v29 => ?_
  refine wG 58 fun v30 => ?_
  refine wH 59 fun r31 => ?_
  refine wG 60 fun v32 => ?_
  refine wP 61 fun v33 => ?_
  refine wT 2 v33 ?_
  exact wE)
theorem n37_7_eq (Q : Ex × St → Prop) (env : Env) (h : Heap) : wC Try.prog cx37 n37_7 Q ⟨env, h⟩ = (Evs (ifT Try.prog 126 (mMkMap h)) fun r0 => wC Try.prog cx37 n37_8 Q ⟨(Env.put env 3 r0.1), r0.2⟩) := (ySR 3 (cOps (cL n37_7)) (cR n37_7)).trans (by
  refine w0 ?_
  refine wH 27 fun r0 => ?_
  refine wT 3 r0.1 ?_
  exact wE)
theorem n37_1_eq (Q : Ex × St → Prop) (s : St) : wC Try.prog cx37 n37_1 Q s = wC Try.prog cx37 n37_2 (sqW (wC Try.prog cx37 n37_7) Q) s := yS _ _
theorem n37_0_eq (Q : Ex × St → Prop) (env : Env) (h : Heap) : wC Try.prog cx37 n37_0 Q ⟨env, h⟩ = (Evs (mNew tState (env.get 0) h) fun r0 => wC Try.prog cx37 n37_1 Q ⟨(Env.put (Env.put env 1 r0.1) 2 (.bool false)), r0.2⟩) := (ySR 0 (cOps (cL n37_0)) (cR n37_0)).trans (by
  refine w0 ?_
  refine wH 1 fun r0 => ?_
  refine wT 2 (.bool false) ?_
  exact wE)
theorem fn37 : Try.prog.funcs[37]? = some Try.f37 := by kernel_rfl
theorem q37 {a0 : AV} {h : Heap} {K : AV × Heap → Prop} (H : ∀ env : Env, env.get 0 = a0 → wC Try.prog cx37 n37_0 (retW (fun s => (bnd (some (s.env.get 2)) fun v => bnd (some []) fun vs => some (v :: vs))) K) ⟨env, h⟩) : SpecQ Try.prog 37 [a0] h K :=
  bodyW_sound (C := cx37) TT_ok mixed_ok fn37 (by kernel_rfl) (show _ = some n37_0 by kernel_rfl) (by kernel_rfl) (by kernel_rfl) (of_decide_eq_true (by kernel_rfl)) ((show wC Try.prog cx37 n37_0 (retW (fun s => resAll cx37 s Try.f37.results.toList) K) ⟨env0 cx37 [a0], h⟩ = wC Try.prog cx37 n37_0 (retW (fun s => (bnd (some (s.env.get 2)) fun v => bnd (some []) fun vs => some (v :: vs))) K) ⟨[(0, a0), (1, .junk), (2, .junk), (3, .junk), (26, .junk)], h⟩ by kernel_rfl).mpr (H [(0, a0), (1, .junk), (2, .junk), (3, .junk), (26, .junk)] rfl))
def sn37 := And.intro n37_5_eq (And.intro n37_4_eq (And.intro n37_6_eq (And.intro n37_3_eq (And.intro n37_2_eq (And.intro n37_9_eq (And.intro n37_8_eq (And.intro n37_7_eq (And.intro n37_1_eq (n37_0_eq)))))))))
-- draws: 
end Go.Vab

/-
  forms.MayState, walked.
-/
namespace Go.Vab
open Go Go.Proofs

theorem c59 {h : Heap} {s : Seat} : SpecQ Try.prog 59 [eSeat s] h fun r => r = (.bool (!roleOk s.role), h) := by
  refine SpecQ.drop1 rfl (q59 fun env g0 => ?_)
  repeat' (first | ((with_reducible apply evs_of); (focus ((conv => lhs; simp (disch := omega) [g0]); done)); try dsimp only) | (with_reducible refine SpecQ.step (c60) ?_; rintro _ rfl; try dsimp only) | ((with_reducible apply SpecA_i); (focus ((conv => lhs; simp (disch := omega) [g0]); done))) | (simp (decide := true) only [sn59, sqW_nrm, sqW_exit, sqW_ret, inBlk_nrm, inBlk_ret, inBlk_same, inBlk_exit, if_true, if_false, retW_nrm, retW_ret]))
  exact ⟨_, rfl⟩

theorem c67 {h : Heap} {x : AV} {l : List Seat} (hx : Row tSeat h x (l.map eSeat)) : SpecQ Try.prog 67 [x, .fn 59 []] h fun r => ∃ n : Int, r = (.int .i64 n, h) ∧ (0 ≤ n ↔ (l.any fun s => !roleOk s.role) = true) := by
  have lx := hx.len
  have bx := hx.bound
  rw [List.length_map] at lx bx
  refine q67 fun env g0 g1 => ?_
  repeat' (first | ((with_reducible apply evs_of); (focus ((conv => lhs; simp (disch := omega) [g0, g1, lx]); done)); try dsimp only) | ((with_reducible apply cndW_T); (focus (simp (disch := omega) [g0, g1, lx] <;> omega))) | ((with_reducible apply cndW_F); (focus (simp (disch := omega) [g0, g1, lx] <;> omega))) | (with_reducible apply wL_i) | ((with_reducible apply SpecA_i); (focus ((conv => lhs; simp (disch := omega) [g0, g1, lx]); done))) | ((with_reducible apply fnA_i); (focus ((conv => lhs; simp (disch := omega) [g0, g1, lx]); done))) | (simp (decide := true) only [sn67, sqW_nrm, sqW_exit, sqW_ret, inBlk_nrm, inBlk_ret, inBlk_same, inBlk_exit, if_true, if_false, retW_nrm, retW_ret]))
  refine loop_up l.length (fun i st => ∃ env', st = ⟨env', h⟩ ∧ env'.get 0 = x ∧ env'.get 1 = .fn 59 [] ∧ env'.get 7 = nat l.length ∧ env'.get 8 = nat i ∧ ∀ j (hj : j < l.length), j < i → roleOk l[j].role = true) ?_ ?_ ⟨_, rfl, by simp [g0], by simp [g1], by simp, by simp, fun j _ hj => absurd hj (by omega)⟩
  · rintro i st hi ⟨env', rfl, e0, e1, e7, e8, hgood⟩
    obtain ⟨p, p1, p2⟩ := hx.idx0 (i := i) (by simpa using hi)
    rw [List.getElem?_map, List.getElem?_eq_getElem hi] at p2
    simp only [Option.map_some] at p2
    cases hr : roleOk l[i].role
    · repeat' (first | ((with_reducible apply evs_of); (focus ((conv => lhs; simp (disch := omega) [e0, e1, e7, e8, p1, p2, hr]); done)); try dsimp only) | ((with_reducible apply cndW_T); (focus (simp (disch := omega) [e0, e1, e7, e8, p1, p2, hr] <;> omega))) | ((with_reducible apply cndW_F); (focus (simp (disch := omega) [e0, e1, e7, e8, p1, p2, hr] <;> omega))) | (with_reducible apply wL_i) | (with_reducible refine SpecQ.step (c59) ?_; rintro _ rfl; try dsimp only) | ((with_reducible apply SpecA_i); (focus ((conv => lhs; simp (disch := omega) [e0, e1, e7, e8, p1, p2, hr]); done))) | ((with_reducible apply fnA_i); (focus ((conv => lhs; simp (disch := omega) [e0, e1, e7, e8, p1, p2, hr]); done))) | (simp (decide := true) only [sn67, sqW_nrm, sqW_exit, sqW_ret, inBlk_nrm, inBlk_ret, inBlk_same, inBlk_exit, if_true, if_false, retW_nrm, retW_ret]))
      refine .inr ⟨by simp, ?_⟩
      repeat' (first | ((with_reducible apply evs_of); (focus ((conv => lhs; simp (disch := omega) [e0]); done)); try dsimp only) | ((with_reducible apply cndW_T); (focus (simp (disch := omega) [e0] <;> omega))) | ((with_reducible apply cndW_F); (focus (simp (disch := omega) [e0] <;> omega))) | (with_reducible apply wL_i) | ((with_reducible apply SpecA_i); (focus ((conv => lhs; simp (disch := omega) [e0]); done))) | ((with_reducible apply fnA_i); (focus ((conv => lhs; simp (disch := omega) [e0]); done))) | (simp (decide := true) only [sn67, sqW_nrm, sqW_exit, sqW_ret, inBlk_nrm, inBlk_ret, inBlk_same, inBlk_exit, if_true, if_false, retW_nrm, retW_ret]))
      refine ⟨i, by rw [e8]; rfl, ⟨fun _ => ?_, fun _ => by omega⟩⟩
      rw [List.any_eq_true]
      exact ⟨l[i], List.getElem_mem hi, by rw [hr]; rfl⟩
    · repeat' (first | ((with_reducible apply evs_of); (focus ((conv => lhs; simp (disch := omega) [e0, e1, e7, e8, p1, p2, hr]); done)); try dsimp only) | ((with_reducible apply cndW_T); (focus (simp (disch := omega) [e0, e1, e7, e8, p1, p2, hr] <;> omega))) | ((with_reducible apply cndW_F); (focus (simp (disch := omega) [e0, e1, e7, e8, p1, p2, hr] <;> omega))) | (with_reducible apply wL_i) | (with_reducible refine SpecQ.step (c59) ?_; rintro _ rfl; try dsimp only) | ((with_reducible apply SpecA_i); (focus ((conv => lhs; simp (disch := omega) [e0, e1, e7, e8, p1, p2, hr]); done))) | ((with_reducible apply fnA_i); (focus ((conv => lhs; simp (disch := omega) [e0, e1, e7, e8, p1, p2, hr]); done))) | (simp (decide := true) only [sn67, sqW_nrm, sqW_exit, sqW_ret, inBlk_nrm, inBlk_ret, inBlk_same, inBlk_exit, if_true, if_false, retW_nrm, retW_ret]))
      refine .inl ⟨by simp, _, rfl, by simp [e0], by simp [e1], by simp [e7], by simp, fun j hj hji => ?_⟩
      by_cases hq : j = i
      · subst hq; exact hr
      · exact hgood j hj (by omega)
  · rintro st ⟨env', rfl, e0, e1, e7, e8, hgood⟩
    repeat' (first | ((with_reducible apply evs_of); (focus ((conv => lhs; simp (disch := omega) [e7, e8]); done)); try dsimp only) | ((with_reducible apply cndW_T); (focus (simp (disch := omega) [e7, e8] <;> omega))) | ((with_reducible apply cndW_F); (focus (simp (disch := omega) [e7, e8] <;> omega))) | (with_reducible apply wL_i) | ((with_reducible apply SpecA_i); (focus ((conv => lhs; simp (disch := omega) [e7, e8]); done))) | ((with_reducible apply fnA_i); (focus ((conv => lhs; simp (disch := omega) [e7, e8]); done))) | (simp (decide := true) only [sn67, sqW_nrm, sqW_exit, sqW_ret, inBlk_nrm, inBlk_ret, inBlk_same, inBlk_exit, if_true, if_false, retW_nrm, retW_ret]))
    refine ⟨by simp, ?_⟩
    repeat' (first | ((with_reducible apply evs_of); (focus ((conv => lhs; simp (disch := omega) [e7, e8]); done)); try dsimp only) | ((with_reducible apply cndW_T); (focus (simp (disch := omega) [e7, e8] <;> omega))) | ((with_reducible apply cndW_F); (focus (simp (disch := omega) [e7, e8] <;> omega))) | (with_reducible apply wL_i) | ((with_reducible apply SpecA_i); (focus ((conv => lhs; simp (disch := omega) [e7, e8]); done))) | ((with_reducible apply fnA_i); (focus ((conv => lhs; simp (disch := omega) [e7, e8]); done))) | (simp (decide := true) only [sn67, sqW_nrm, sqW_exit, sqW_ret, inBlk_nrm, inBlk_ret, inBlk_same, inBlk_exit, if_true, if_false, retW_nrm, retW_ret]))
    refine ⟨-1, rfl, ⟨fun h => absurd h (by omega), fun h => ?_⟩⟩
    rw [List.any_eq_true] at h
    obtain ⟨s, hs, hr⟩ := h
    obtain ⟨j, hj, rfl⟩ := List.getElem_of_mem hs
    rw [hgood j hj hj] at hr
    cases hr
theorem c58 {h : Heap} {x : AV} {l : List Seat} (hx : Row tSeat h x (l.map eSeat)) : SpecQ Try.prog 58 [x, .fn 59 []] h fun r => r = (.bool (l.any fun s => !roleOk s.role), h) := by
  refine SpecQ.drop1 rfl (q58 fun env g0 g1 => ?_)
  repeat' (first | ((with_reducible apply evs_of); (focus ((conv => lhs; simp (disch := omega) [g0, g1]); done)); try dsimp only) | ((with_reducible apply SpecA_i); (focus ((conv => lhs; simp (disch := omega) [g0, g1]); done))) | (simp (decide := true) only [sn58, sqW_nrm, sqW_exit, sqW_ret, inBlk_nrm, inBlk_ret, inBlk_same, inBlk_exit, if_true, if_false, retW_nrm, retW_ret]))
  refine SpecQ.step (c67 hx) ?_
  rintro ⟨v, h2⟩ ⟨n, e, hn⟩
  cases e
  repeat' (first | ((with_reducible apply evs_of); (focus ((conv => lhs; simp (disch := omega) [g0, g1]); done)); try dsimp only) | ((with_reducible apply SpecA_i); (focus ((conv => lhs; simp (disch := omega) [g0, g1]); done))) | (simp (decide := true) only [sn58, sqW_nrm, sqW_exit, sqW_ret, inBlk_nrm, inBlk_ret, inBlk_same, inBlk_exit, if_true, if_false, retW_nrm, retW_ret]))
  refine ⟨[], ?_⟩
  simp only [oneOrTuple, List.append_nil]
  congr 2
  rw [Bool.eq_iff_iff, decide_eq_true_eq]
  exact hn
theorem c62 {h : Heap} {s : Inv} : SpecQ Try.prog 62 [eInv s] h fun r => r = (.bool (!roleOk s.role), h) := by
  refine SpecQ.drop1 rfl (q62 fun env g0 => ?_)
  repeat' (first | ((with_reducible apply evs_of); (focus ((conv => lhs; simp (disch := omega) [g0]); done)); try dsimp only) | (with_reducible refine SpecQ.step (c60) ?_; rintro _ rfl; try dsimp only) | ((with_reducible apply SpecA_i); (focus ((conv => lhs; simp (disch := omega) [g0]); done))) | (simp (decide := true) only [sn62, sqW_nrm, sqW_exit, sqW_ret, inBlk_nrm, inBlk_ret, inBlk_same, inBlk_exit, if_true, if_false, retW_nrm, retW_ret]))
  exact ⟨_, rfl⟩

theorem c68 {h : Heap} {x : AV} {l : List Inv} (hx : Row tInvite h x (l.map eInv)) : SpecQ Try.prog 68 [x, .fn 62 []] h fun r => ∃ n : Int, r = (.int .i64 n, h) ∧ (0 ≤ n ↔ (l.any fun s => !roleOk s.role) = true) := by
  have lx := hx.len
  have bx := hx.bound
  rw [List.length_map] at lx bx
  refine q68 fun env g0 g1 => ?_
  repeat' (first | ((with_reducible apply evs_of); (focus ((conv => lhs; simp (disch := omega) [g0, g1, lx]); done)); try dsimp only) | ((with_reducible apply cndW_T); (focus (simp (disch := omega) [g0, g1, lx] <;> omega))) | ((with_reducible apply cndW_F); (focus (simp (disch := omega) [g0, g1, lx] <;> omega))) | (with_reducible apply wL_i) | ((with_reducible apply SpecA_i); (focus ((conv => lhs; simp (disch := omega) [g0, g1, lx]); done))) | ((with_reducible apply fnA_i); (focus ((conv => lhs; simp (disch := omega) [g0, g1, lx]); done))) | (simp (decide := true) only [sn68, sqW_nrm, sqW_exit, sqW_ret, inBlk_nrm, inBlk_ret, inBlk_same, inBlk_exit, if_true, if_false, retW_nrm, retW_ret]))
  refine loop_up l.length (fun i st => ∃ env', st = ⟨env', h⟩ ∧ env'.get 0 = x ∧ env'.get 1 = .fn 62 [] ∧ env'.get 7 = nat l.length ∧ env'.get 8 = nat i ∧ ∀ j (hj : j < l.length), j < i → roleOk l[j].role = true) ?_ ?_ ⟨_, rfl, by simp [g0], by simp [g1], by simp, by simp, fun j _ hj => absurd hj (by omega)⟩
  · rintro i st hi ⟨env', rfl, e0, e1, e7, e8, hgood⟩
    obtain ⟨p, p1, p2⟩ := hx.idx0 (i := i) (by simpa using hi)
    rw [List.getElem?_map, List.getElem?_eq_getElem hi] at p2
    simp only [Option.map_some] at p2
    cases hr : roleOk l[i].role
    · repeat' (first | ((with_reducible apply evs_of); (focus ((conv => lhs; simp (disch := omega) [e0, e1, e7, e8, p1, p2, hr]); done)); try dsimp only) | ((with_reducible apply cndW_T); (focus (simp (disch := omega) [e0, e1, e7, e8, p1, p2, hr] <;> omega))) | ((with_reducible apply cndW_F); (focus (simp (disch := omega) [e0, e1, e7, e8, p1, p2, hr] <;> omega))) | (with_reducible apply wL_i) | (with_reducible refine SpecQ.step (c62) ?_; rintro _ rfl; try dsimp only) | ((with_reducible apply SpecA_i); (focus ((conv => lhs; simp (disch := omega) [e0, e1, e7, e8, p1, p2, hr]); done))) | ((with_reducible apply fnA_i); (focus ((conv => lhs; simp (disch := omega) [e0, e1, e7, e8, p1, p2, hr]); done))) | (simp (decide := true) only [sn68, sqW_nrm, sqW_exit, sqW_ret, inBlk_nrm, inBlk_ret, inBlk_same, inBlk_exit, if_true, if_false, retW_nrm, retW_ret]))
      refine .inr ⟨by simp, ?_⟩
      repeat' (first | ((with_reducible apply evs_of); (focus ((conv => lhs; simp (disch := omega) [e0]); done)); try dsimp only) | ((with_reducible apply cndW_T); (focus (simp (disch := omega) [e0] <;> omega))) | ((with_reducible apply cndW_F); (focus (simp (disch := omega) [e0] <;> omega))) | (with_reducible apply wL_i) | ((with_reducible apply SpecA_i); (focus ((conv => lhs; simp (disch := omega) [e0]); done))) | ((with_reducible apply fnA_i); (focus ((conv => lhs; simp (disch := omega) [e0]); done))) | (simp (decide := true) only [sn68, sqW_nrm, sqW_exit, sqW_ret, inBlk_nrm, inBlk_ret, inBlk_same, inBlk_exit, if_true, if_false, retW_nrm, retW_ret]))
      refine ⟨i, by rw [e8]; rfl, ⟨fun _ => ?_, fun _ => by omega⟩⟩
      rw [List.any_eq_true]
      exact ⟨l[i], List.getElem_mem hi, by rw [hr]; rfl⟩
    · repeat' (first | ((with_reducible apply evs_of); (focus ((conv => lhs; simp (disch := omega) [e0, e1, e7, e8, p1, p2, hr]); done)); try dsimp only) | ((with_reducible apply cndW_T); (focus (simp (disch := omega) [e0, e1, e7, e8, p1, p2, hr] <;> omega))) | ((with_reducible apply cndW_F); (focus (simp (disch := omega) [e0, e1, e7, e8, p1, p2, hr] <;> omega))) | (with_reducible apply wL_i) | (with_reducible refine SpecQ.step (c62) ?_; rintro _ rfl; try dsimp only) | ((with_reducible apply SpecA_i); (focus ((conv => lhs; simp (disch := omega) [e0, e1, e7, e8, p1, p2, hr]); done))) | ((with_reducible apply fnA_i); (focus ((conv => lhs; simp (disch := omega) [e0, e1, e7, e8, p1, p2, hr]); done))) | (simp (decide := true) only [sn68, sqW_nrm, sqW_exit, sqW_ret, inBlk_nrm, inBlk_ret, inBlk_same, inBlk_exit, if_true, if_false, retW_nrm, retW_ret]))
      refine .inl ⟨by simp, _, rfl, by simp [e0], by simp [e1], by simp [e7], by simp, fun j hj hji => ?_⟩
      by_cases hq : j = i
      · subst hq; exact hr
      · exact hgood j hj (by omega)
  · rintro st ⟨env', rfl, e0, e1, e7, e8, hgood⟩
    repeat' (first | ((with_reducible apply evs_of); (focus ((conv => lhs; simp (disch := omega) [e7, e8]); done)); try dsimp only) | ((with_reducible apply cndW_T); (focus (simp (disch := omega) [e7, e8] <;> omega))) | ((with_reducible apply cndW_F); (focus (simp (disch := omega) [e7, e8] <;> omega))) | (with_reducible apply wL_i) | ((with_reducible apply SpecA_i); (focus ((conv => lhs; simp (disch := omega) [e7, e8]); done))) | ((with_reducible apply fnA_i); (focus ((conv => lhs; simp (disch := omega) [e7, e8]); done))) | (simp (decide := true) only [sn68, sqW_nrm, sqW_exit, sqW_ret, inBlk_nrm, inBlk_ret, inBlk_same, inBlk_exit, if_true, if_false, retW_nrm, retW_ret]))
    refine ⟨by simp, ?_⟩
    repeat' (first | ((with_reducible apply evs_of); (focus ((conv => lhs; simp (disch := omega) [e7, e8]); done)); try dsimp only) | ((with_reducible apply cndW_T); (focus (simp (disch := omega) [e7, e8] <;> omega))) | ((with_reducible apply cndW_F); (focus (simp (disch := omega) [e7, e8] <;> omega))) | (with_reducible apply wL_i) | ((with_reducible apply SpecA_i); (focus ((conv => lhs; simp (disch := omega) [e7, e8]); done))) | ((with_reducible apply fnA_i); (focus ((conv => lhs; simp (disch := omega) [e7, e8]); done))) | (simp (decide := true) only [sn68, sqW_nrm, sqW_exit, sqW_ret, inBlk_nrm, inBlk_ret, inBlk_same, inBlk_exit, if_true, if_false, retW_nrm, retW_ret]))
    refine ⟨-1, rfl, ⟨fun h => absurd h (by omega), fun h => ?_⟩⟩
    rw [List.any_eq_true] at h
    obtain ⟨s, hs, hr⟩ := h
    obtain ⟨j, hj, rfl⟩ := List.getElem_of_mem hs
    rw [hgood j hj hj] at hr
    cases hr
theorem c61 {h : Heap} {x : AV} {l : List Inv} (hx : Row tInvite h x (l.map eInv)) : SpecQ Try.prog 61 [x, .fn 62 []] h fun r => r = (.bool (l.any fun s => !roleOk s.role), h) := by
  refine SpecQ.drop1 rfl (q61 fun env g0 g1 => ?_)
  repeat' (first | ((with_reducible apply evs_of); (focus ((conv => lhs; simp (disch := omega) [g0, g1]); done)); try dsimp only) | ((with_reducible apply SpecA_i); (focus ((conv => lhs; simp (disch := omega) [g0, g1]); done))) | (simp (decide := true) only [sn61, sqW_nrm, sqW_exit, sqW_ret, inBlk_nrm, inBlk_ret, inBlk_same, inBlk_exit, if_true, if_false, retW_nrm, retW_ret]))
  refine SpecQ.step (c68 hx) ?_
  rintro ⟨v, h2⟩ ⟨n, e, hn⟩
  cases e
  repeat' (first | ((with_reducible apply evs_of); (focus ((conv => lhs; simp (disch := omega) [g0, g1]); done)); try dsimp only) | ((with_reducible apply SpecA_i); (focus ((conv => lhs; simp (disch := omega) [g0, g1]); done))) | (simp (decide := true) only [sn61, sqW_nrm, sqW_exit, sqW_ret, inBlk_nrm, inBlk_ret, inBlk_same, inBlk_exit, if_true, if_false, retW_nrm, retW_ret]))
  refine ⟨[], ?_⟩
  simp only [oneOrTuple, List.append_nil]
  congr 2
  rw [Bool.eq_iff_iff, decide_eq_true_eq]
  exact hn

set_option maxHeartbeats 2000000 in
theorem c37 {h : Heap} {a : Stt} {vt vp vs vi va vb : AV} (ra : StR h a vt vp vs vi va vb) : SpecQ Try.prog 37 [eSt a vt vp vs vi va vb] h fun r => r = (.bool (mayS a), h) := by
  have ta := ra.cells
  have lt := ra.ft.len
  have lp := ra.fp.len
  refine SpecQ.drop1 rfl (q37 fun env g0 => ?_)
  by_cases hs : shapeS a = true
  · have hs' := hs
    simp only [shapeS, Bool.not_eq_true', Bool.or_eq_false_iff, decide_eq_false_iff_not, Bool.not_eq_false'] at hs'
    obtain ⟨⟨⟨s1, s2⟩, s3⟩, s4⟩ := hs'
    have s2 : a.pass.length % 16 = 0 := by omega
    repeat' (first | ((with_reducible apply evs_of); (focus ((conv => lhs; simp (disch := omega) [g0, ta, lt, lp, s1, s2, s3, s4]); done)); try dsimp only) | ((with_reducible apply gW_do); (focus (simp (disch := omega) [g0, ta, lt, lp, s1, s2, s3, s4]; done))) | ((with_reducible apply gW_no); (focus (simp (disch := omega) [g0, ta, lt, lp, s1, s2, s3, s4]; done)); try dsimp only) | ((with_reducible apply gW_un); (focus (simp (disch := omega) [g0, ta, lt, lp, s1, s2, s3, s4]; done)); try dsimp only) | ((with_reducible apply cndW_T); (focus (simp (disch := omega) [g0, ta, lt, lp, s1, s2, s3, s4] <;> omega))) | ((with_reducible apply cndW_F); (focus (simp (disch := omega) [g0, ta, lt, lp, s1, s2, s3, s4] <;> omega))) | (with_reducible apply wL_i) | (with_reducible refine SpecQ.step (c49) ?_; rintro _ rfl; try dsimp only) | ((with_reducible apply SpecA_i); (focus ((conv => lhs; simp (disch := omega) [g0, ta, lt, lp, s1, s2, s3, s4]); done))) | (simp (decide := true) only [sn37, sqW_nrm, sqW_exit, sqW_ret, inBlk_nrm, inBlk_ret, inBlk_same, inBlk_exit, if_true, if_false, retW_nrm, retW_ret]))
    refine SpecQ.step (c50 (seen := []) (ra.fs.app _) (map_new (l := []))) ?_
    rintro ⟨v, h2⟩ ⟨seen0, e, hs0⟩
    cases e
    rw [map_put]
    replace hs0 : (decide (a.seats.length ≤ 40) && riseB ([]) (sE a)) = true → seen0 = [] ++ sE a := fun hh => by simp only [Bool.and_eq_true, decide_eq_true_eq] at hh; exact hs0 hh.1 hh.2
    rw [show a.seats.map (·.who.e) = sE a from rfl]
    cases hb0 : (decide (a.seats.length ≤ 40) && riseB ([]) (sE a))
    · repeat' (first | ((with_reducible apply evs_of); (focus ((conv => lhs; simp (disch := omega) [g0, ta, lt, lp, s1, s2, s3, s4]); done)); try dsimp only) | ((with_reducible apply gW_do); (focus (simp (disch := omega) [g0, ta, lt, lp, s1, s2, s3, s4]; done))) | ((with_reducible apply gW_no); (focus (simp (disch := omega) [g0, ta, lt, lp, s1, s2, s3, s4]; done)); try dsimp only) | ((with_reducible apply gW_un); (focus (simp (disch := omega) [g0, ta, lt, lp, s1, s2, s3, s4]; done)); try dsimp only) | ((with_reducible apply cndW_T); (focus (simp (disch := omega) [g0, ta, lt, lp, s1, s2, s3, s4] <;> omega))) | ((with_reducible apply cndW_F); (focus (simp (disch := omega) [g0, ta, lt, lp, s1, s2, s3, s4] <;> omega))) | (with_reducible apply wL_i) | ((with_reducible apply SpecA_i); (focus ((conv => lhs; simp (disch := omega) [g0, ta, lt, lp, s1, s2, s3, s4]); done))) | (simp (decide := true) only [sn37, sqW_nrm, sqW_exit, sqW_ret, inBlk_nrm, inBlk_ret, inBlk_same, inBlk_exit, if_true, if_false, retW_nrm, retW_ret]))
      refine fin_b ?_
      unfold mayS; simp only [hs, hb0, Bool.and_false, Bool.false_and, Bool.true_and]
    have q0 := hs0 hb0
    subst q0
    rw [List.nil_append]
    repeat' (first | ((with_reducible apply evs_of); (focus ((conv => lhs; simp (disch := omega) [g0, ta, lt, lp, s1, s2, s3, s4]); done)); try dsimp only) | ((with_reducible apply gW_do); (focus (simp (disch := omega) [g0, ta, lt, lp, s1, s2, s3, s4]; done))) | ((with_reducible apply gW_no); (focus (simp (disch := omega) [g0, ta, lt, lp, s1, s2, s3, s4]; done)); try dsimp only) | ((with_reducible apply gW_un); (focus (simp (disch := omega) [g0, ta, lt, lp, s1, s2, s3, s4]; done)); try dsimp only) | ((with_reducible apply cndW_T); (focus (simp (disch := omega) [g0, ta, lt, lp, s1, s2, s3, s4] <;> omega))) | ((with_reducible apply cndW_F); (focus (simp (disch := omega) [g0, ta, lt, lp, s1, s2, s3, s4] <;> omega))) | (with_reducible apply wL_i) | ((with_reducible apply SpecA_i); (focus ((conv => lhs; simp (disch := omega) [g0, ta, lt, lp, s1, s2, s3, s4]); done))) | (simp (decide := true) only [sn37, sqW_nrm, sqW_exit, sqW_ret, inBlk_nrm, inBlk_ret, inBlk_same, inBlk_exit, if_true, if_false, retW_nrm, retW_ret]))
    refine SpecQ.step (c52 (seen := sE a) (ra.fi.app _) (map_new (l := sE a))) ?_
    rintro ⟨v, h2⟩ ⟨seen1, e, hs1⟩
    cases e
    rw [map_put]
    replace hs1 : (decide (a.invites.length ≤ 40) && riseB (sE a) (iE a)) = true → seen1 = sE a ++ iE a := fun hh => by simp only [Bool.and_eq_true, decide_eq_true_eq] at hh; exact hs1 hh.1 hh.2
    rw [show a.invites.map (·.who.e) = iE a from rfl]
    cases hb1 : (decide (a.invites.length ≤ 40) && riseB (sE a) (iE a))
    · repeat' (first | ((with_reducible apply evs_of); (focus ((conv => lhs; simp (disch := omega) [g0, ta, lt, lp, s1, s2, s3, s4]); done)); try dsimp only) | ((with_reducible apply gW_do); (focus (simp (disch := omega) [g0, ta, lt, lp, s1, s2, s3, s4]; done))) | ((with_reducible apply gW_no); (focus (simp (disch := omega) [g0, ta, lt, lp, s1, s2, s3, s4]; done)); try dsimp only) | ((with_reducible apply gW_un); (focus (simp (disch := omega) [g0, ta, lt, lp, s1, s2, s3, s4]; done)); try dsimp only) | ((with_reducible apply cndW_T); (focus (simp (disch := omega) [g0, ta, lt, lp, s1, s2, s3, s4] <;> omega))) | ((with_reducible apply cndW_F); (focus (simp (disch := omega) [g0, ta, lt, lp, s1, s2, s3, s4] <;> omega))) | (with_reducible apply wL_i) | ((with_reducible apply SpecA_i); (focus ((conv => lhs; simp (disch := omega) [g0, ta, lt, lp, s1, s2, s3, s4]); done))) | (simp (decide := true) only [sn37, sqW_nrm, sqW_exit, sqW_ret, inBlk_nrm, inBlk_ret, inBlk_same, inBlk_exit, if_true, if_false, retW_nrm, retW_ret]))
      refine fin_b ?_
      unfold mayS; simp only [hs, hb0, hb1, Bool.and_false, Bool.false_and, Bool.true_and]
    have q1 := hs1 hb1
    subst q1
    repeat' (first | ((with_reducible apply evs_of); (focus ((conv => lhs; simp (disch := omega) [g0, ta, lt, lp, s1, s2, s3, s4]); done)); try dsimp only) | ((with_reducible apply gW_do); (focus (simp (disch := omega) [g0, ta, lt, lp, s1, s2, s3, s4]; done))) | ((with_reducible apply gW_no); (focus (simp (disch := omega) [g0, ta, lt, lp, s1, s2, s3, s4]; done)); try dsimp only) | ((with_reducible apply gW_un); (focus (simp (disch := omega) [g0, ta, lt, lp, s1, s2, s3, s4]; done)); try dsimp only) | ((with_reducible apply cndW_T); (focus (simp (disch := omega) [g0, ta, lt, lp, s1, s2, s3, s4] <;> omega))) | ((with_reducible apply cndW_F); (focus (simp (disch := omega) [g0, ta, lt, lp, s1, s2, s3, s4] <;> omega))) | (with_reducible apply wL_i) | ((with_reducible apply SpecA_i); (focus ((conv => lhs; simp (disch := omega) [g0, ta, lt, lp, s1, s2, s3, s4]); done))) | (simp (decide := true) only [sn37, sqW_nrm, sqW_exit, sqW_ret, inBlk_nrm, inBlk_ret, inBlk_same, inBlk_exit, if_true, if_false, retW_nrm, retW_ret]))
    refine SpecQ.step (c54 (seen := sE a ++ iE a) (ra.fa.app _) (map_new (l := sE a ++ iE a))) ?_
    rintro ⟨v, h2⟩ ⟨seen2, e, hs2⟩
    cases e
    rw [map_put]
    replace hs2 : (decide (a.asks.length ≤ 40) && riseB (sE a ++ iE a) (aE a)) = true → seen2 = sE a ++ iE a ++ aE a := fun hh => by simp only [Bool.and_eq_true, decide_eq_true_eq] at hh; exact hs2 hh.1 hh.2
    rw [show a.asks.map (·.who.e) = aE a from rfl]
    cases hb2 : (decide (a.asks.length ≤ 40) && riseB (sE a ++ iE a) (aE a))
    · repeat' (first | ((with_reducible apply evs_of); (focus ((conv => lhs; simp (disch := omega) [g0, ta, lt, lp, s1, s2, s3, s4]); done)); try dsimp only) | ((with_reducible apply gW_do); (focus (simp (disch := omega) [g0, ta, lt, lp, s1, s2, s3, s4]; done))) | ((with_reducible apply gW_no); (focus (simp (disch := omega) [g0, ta, lt, lp, s1, s2, s3, s4]; done)); try dsimp only) | ((with_reducible apply gW_un); (focus (simp (disch := omega) [g0, ta, lt, lp, s1, s2, s3, s4]; done)); try dsimp only) | ((with_reducible apply cndW_T); (focus (simp (disch := omega) [g0, ta, lt, lp, s1, s2, s3, s4] <;> omega))) | ((with_reducible apply cndW_F); (focus (simp (disch := omega) [g0, ta, lt, lp, s1, s2, s3, s4] <;> omega))) | (with_reducible apply wL_i) | ((with_reducible apply SpecA_i); (focus ((conv => lhs; simp (disch := omega) [g0, ta, lt, lp, s1, s2, s3, s4]); done))) | (simp (decide := true) only [sn37, sqW_nrm, sqW_exit, sqW_ret, inBlk_nrm, inBlk_ret, inBlk_same, inBlk_exit, if_true, if_false, retW_nrm, retW_ret]))
      refine fin_b ?_
      unfold mayS; simp only [hs, hb0, hb1, hb2, Bool.and_false, Bool.false_and, Bool.true_and]
    have q2 := hs2 hb2
    subst q2
    repeat' (first | ((with_reducible apply evs_of); (focus ((conv => lhs; simp (disch := omega) [g0, ta, lt, lp, s1, s2, s3, s4]); done)); try dsimp only) | ((with_reducible apply gW_do); (focus (simp (disch := omega) [g0, ta, lt, lp, s1, s2, s3, s4]; done))) | ((with_reducible apply gW_no); (focus (simp (disch := omega) [g0, ta, lt, lp, s1, s2, s3, s4]; done)); try dsimp only) | ((with_reducible apply gW_un); (focus (simp (disch := omega) [g0, ta, lt, lp, s1, s2, s3, s4]; done)); try dsimp only) | ((with_reducible apply cndW_T); (focus (simp (disch := omega) [g0, ta, lt, lp, s1, s2, s3, s4] <;> omega))) | ((with_reducible apply cndW_F); (focus (simp (disch := omega) [g0, ta, lt, lp, s1, s2, s3, s4] <;> omega))) | (with_reducible apply wL_i) | ((with_reducible apply SpecA_i); (focus ((conv => lhs; simp (disch := omega) [g0, ta, lt, lp, s1, s2, s3, s4]); done))) | (simp (decide := true) only [sn37, sqW_nrm, sqW_exit, sqW_ret, inBlk_nrm, inBlk_ret, inBlk_same, inBlk_exit, if_true, if_false, retW_nrm, retW_ret]))
    refine SpecQ.step (c56 (seen := sE a ++ iE a ++ aE a) (ra.fb.app _) (map_new (l := sE a ++ iE a ++ aE a))) ?_
    rintro ⟨v, h2⟩ ⟨seen3, e, hs3⟩
    cases e
    rw [map_put]
    replace hs3 : (decide (a.bans.length ≤ 40) && riseB (sE a ++ iE a ++ aE a) (bE a)) = true → seen3 = sE a ++ iE a ++ aE a ++ bE a := fun hh => by simp only [Bool.and_eq_true, decide_eq_true_eq] at hh; exact hs3 hh.1 hh.2
    rw [show a.bans.map (·.who.e) = bE a from rfl]
    cases hb3 : (decide (a.bans.length ≤ 40) && riseB (sE a ++ iE a ++ aE a) (bE a))
    · repeat' (first | ((with_reducible apply evs_of); (focus ((conv => lhs; simp (disch := omega) [g0, ta, lt, lp, s1, s2, s3, s4]); done)); try dsimp only) | ((with_reducible apply gW_do); (focus (simp (disch := omega) [g0, ta, lt, lp, s1, s2, s3, s4]; done))) | ((with_reducible apply gW_no); (focus (simp (disch := omega) [g0, ta, lt, lp, s1, s2, s3, s4]; done)); try dsimp only) | ((with_reducible apply gW_un); (focus (simp (disch := omega) [g0, ta, lt, lp, s1, s2, s3, s4]; done)); try dsimp only) | ((with_reducible apply cndW_T); (focus (simp (disch := omega) [g0, ta, lt, lp, s1, s2, s3, s4] <;> omega))) | ((with_reducible apply cndW_F); (focus (simp (disch := omega) [g0, ta, lt, lp, s1, s2, s3, s4] <;> omega))) | (with_reducible apply wL_i) | ((with_reducible apply SpecA_i); (focus ((conv => lhs; simp (disch := omega) [g0, ta, lt, lp, s1, s2, s3, s4]); done))) | (simp (decide := true) only [sn37, sqW_nrm, sqW_exit, sqW_ret, inBlk_nrm, inBlk_ret, inBlk_same, inBlk_exit, if_true, if_false, retW_nrm, retW_ret]))
      refine fin_b ?_
      unfold mayS; simp only [hs, hb0, hb1, hb2, hb3, Bool.and_false, Bool.false_and, Bool.true_and]
    have q3 := hs3 hb3
    subst q3
    cases hA : (a.seats.any fun s => !roleOk s.role)
    · repeat' (first | ((with_reducible apply evs_of); (focus ((conv => lhs; simp (disch := omega) [g0, ta, lt, lp, s1, s2, s3, s4, hA]); done)); try dsimp only) | ((with_reducible apply gW_do); (focus (simp (disch := omega) [g0, ta, lt, lp, s1, s2, s3, s4, hA]; done))) | ((with_reducible apply gW_no); (focus (simp (disch := omega) [g0, ta, lt, lp, s1, s2, s3, s4, hA]; done)); try dsimp only) | ((with_reducible apply gW_un); (focus (simp (disch := omega) [g0, ta, lt, lp, s1, s2, s3, s4, hA]; done)); try dsimp only) | ((with_reducible apply cndW_T); (focus (simp (disch := omega) [g0, ta, lt, lp, s1, s2, s3, s4, hA] <;> omega))) | ((with_reducible apply cndW_F); (focus (simp (disch := omega) [g0, ta, lt, lp, s1, s2, s3, s4, hA] <;> omega))) | (with_reducible apply wL_i) | (with_reducible refine SpecQ.step (c58 (ra.fs.app _)) ?_; rintro _ rfl; try dsimp only) | (with_reducible refine SpecQ.step (c61 (ra.fi.app _)) ?_; rintro _ rfl; try dsimp only) | ((with_reducible apply SpecA_i); (focus ((conv => lhs; simp (disch := omega) [g0, ta, lt, lp, s1, s2, s3, s4, hA]); done))) | (simp (decide := true) only [sn37, sqW_nrm, sqW_exit, sqW_ret, inBlk_nrm, inBlk_ret, inBlk_same, inBlk_exit, if_true, if_false, retW_nrm, retW_ret]))
      refine fin_b ?_
      unfold mayS; simp only [hs, hb0, hb1, hb2, hb3, hA, Bool.not_false, Bool.true_and]
    · repeat' (first | ((with_reducible apply evs_of); (focus ((conv => lhs; simp (disch := omega) [g0, ta, lt, lp, s1, s2, s3, s4, hA]); done)); try dsimp only) | ((with_reducible apply gW_do); (focus (simp (disch := omega) [g0, ta, lt, lp, s1, s2, s3, s4, hA]; done))) | ((with_reducible apply gW_no); (focus (simp (disch := omega) [g0, ta, lt, lp, s1, s2, s3, s4, hA]; done)); try dsimp only) | ((with_reducible apply gW_un); (focus (simp (disch := omega) [g0, ta, lt, lp, s1, s2, s3, s4, hA]; done)); try dsimp only) | ((with_reducible apply cndW_T); (focus (simp (disch := omega) [g0, ta, lt, lp, s1, s2, s3, s4, hA] <;> omega))) | ((with_reducible apply cndW_F); (focus (simp (disch := omega) [g0, ta, lt, lp, s1, s2, s3, s4, hA] <;> omega))) | (with_reducible apply wL_i) | (with_reducible refine SpecQ.step (c58 (ra.fs.app _)) ?_; rintro _ rfl; try dsimp only) | (with_reducible refine SpecQ.step (c61 (ra.fi.app _)) ?_; rintro _ rfl; try dsimp only) | ((with_reducible apply SpecA_i); (focus ((conv => lhs; simp (disch := omega) [g0, ta, lt, lp, s1, s2, s3, s4, hA]); done))) | (simp (decide := true) only [sn37, sqW_nrm, sqW_exit, sqW_ret, inBlk_nrm, inBlk_ret, inBlk_same, inBlk_exit, if_true, if_false, retW_nrm, retW_ret]))
      refine fin_b ?_
      unfold mayS; simp only [hs, hb0, hb1, hb2, hb3, hA, Bool.not_true, Bool.true_and, Bool.false_and]
  · have hs0 : shapeS a = false := Bool.eq_false_iff.2 hs
    have hm : mayS a = false := by unfold mayS; rw [hs0]; rfl
    rw [hm]
    unfold shapeS at hs0
    simp only [Bool.not_eq_false'] at hs0
    repeat' (first | ((with_reducible apply evs_of); (focus ((conv => lhs; simp (disch := omega) [g0, ta, lt, lp]); done)); try dsimp only) | ((with_reducible apply gW_do); (focus (simp (disch := omega) [g0, ta, lt, lp]; done))) | ((with_reducible apply gW_no); (focus (simp (disch := omega) [g0, ta, lt, lp]; done)); try dsimp only) | ((with_reducible apply gW_un); (focus (simp (disch := omega) [g0, ta, lt, lp]; done)); try dsimp only) | ((with_reducible apply cndW_T); (focus (simp (disch := omega) [g0, ta, lt, lp] <;> omega))) | ((with_reducible apply cndW_F); (focus (simp (disch := omega) [g0, ta, lt, lp] <;> omega))) | (with_reducible apply wL_i) | (with_reducible refine SpecQ.step (c49) ?_; rintro _ rfl; try dsimp only) | ((with_reducible apply SpecA_i); (focus ((conv => lhs; simp (disch := omega) [g0, ta, lt, lp]); done))) | (simp (decide := true) only [sn37, sqW_nrm, sqW_exit, sqW_ret, inBlk_nrm, inBlk_ret, inBlk_same, inBlk_exit, if_true, if_false, retW_nrm, retW_ret]) | ((with_reducible apply cndW_splitE); (focus ((conv => lhs; simp (disch := omega) [g0, ta, lt, lp]); done)); all_goals ((intro hb; try simp only [Bool.not_true, Bool.not_false] at hb); try simp only [hb])) | (with_reducible refine gv_split ?_ ?_ <;> (intro hb; try simp only [Bool.not_true, Bool.not_false] at hb) <;> try simp only [hb]) | (with_reducible refine gW_split ?_ ?_ <;> (intro hb; try simp only [Bool.not_true, Bool.not_false] at hb) <;> try simp only [hb]) | (with_reducible refine cndW_split ?_ ?_ <;> (intro hb; try simp only [Bool.not_true, Bool.not_false] at hb) <;> try simp only [hb]))
    all_goals first
      | exact fin_b rfl
      | (exfalso; simp_all; done)
      | trace_state

end Go.Vab
