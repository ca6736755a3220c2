/-
  A step is done, for oneself, or to what waits: accept, ban; walked.
-/
import Derived.Test.YtjoepfedeidgaaaGreatV2
import Derived.Test.YtjoepfedeidgaaaGreatV5
import Derived.Test.YtjoepfedeidgaaaGreatV3
import Derived.Test.YtjoepfedeidgaaaGreatV4
set_option linter.all false
set_option linter.unusedSectionVars false
namespace Go.Vab
open Go Go.Proofs
theorem runRp15_0 {G X : Prop} (f : Hd X → G := by
 intro xX
 repeat' (first | ((with_reducible refine evs_of (a := ?_) ?_ ?_); rotate_left; (focus ((conv => lhs; simp (disch := omega) [ff]); done)); try dsimp only) | ((with_reducible refine gW_do ?_ ?_); (focus (simp (disch := omega) [ff]; done))) | ((with_reducible refine gW_no ?_ ?_); (focus (simp (disch := omega) [ff]; done)); try dsimp only) | ((with_reducible refine gW_un ?_ ?_); (focus (simp (disch := omega) [ff]; done)); try dsimp only) | ((with_reducible refine cndW_T ?_ ?_); (focus (simp (disch := omega) [ff] <;> omega))) | ((with_reducible refine cndW_F ?_ ?_); (focus (simp (disch := omega) [ff] <;> omega))) | ((with_reducible refine stabP_i ?_ ?_); (focus (simp (disch := omega) [ff]; done))) | (with_reducible refine bothP_i ?_ ?_) | (with_reducible refine wL_i ?_) | ((with_reducible refine ValW_do ?_ ?_); (focus (simp (disch := omega) [ff]; done)); try dsimp only) | ((with_reducible refine ValW_no ?_ ?_); (focus (simp (disch := omega) [ff]; done)); try dsimp only) | ((with_reducible refine ValW_un ?_ ?_); (focus (simp (disch := omega) [ff]; done)); try dsimp only) | ((with_reducible refine SpecA_i (args' := ?_) ?_ ?_); rotate_left; (focus ((conv => lhs; simp (disch := omega) [ff]); done))) | ((with_reducible refine ValA_i (args' := ?_) ?_ ?_); rotate_left; (focus ((conv => lhs; simp (disch := omega) [ff]); done))) | ((with_reducible refine stabA_i (args' := ?_) ?_ ?_); rotate_left; (focus ((conv => lhs; simp (disch := omega) [ff]); done))) | ((with_reducible refine ValA_fn (g := ?_) (caps := ?_) ?_ ?_); rotate_left; rotate_left; (focus ((conv => lhs; simp (disch := omega) [ff]); done))) | ((with_reducible refine stabA_fn (g := ?_) (caps := ?_) ?_ ?_); rotate_left; rotate_left; (focus ((conv => lhs; simp (disch := omega) [ff]); done))) | ((with_reducible refine stab_do ?_ ?_); (focus (simp (disch := omega) [ff]; done))) | (simp (decide := true) only [sn80, sqW_nrm, sqW_exit, sqW_ret, inBlk_nrm, inBlk_ret, inBlk_same, inBlk_exit, if_true, if_false, retW_nrm, retW_ret]))
 exact xX.get) (x : X) : G := f ⟨x⟩
theorem runRp15_1 {G X : Prop} (f : Hd X → G := by
 intro xX
 repeat' (first | ((with_reducible refine evs_of (a := ?_) ?_ ?_); rotate_left; (focus ((conv => lhs; simp (disch := omega) [ff]); done)); try dsimp only) | ((with_reducible refine gW_do ?_ ?_); (focus (simp (disch := omega) [ff]; done))) | ((with_reducible refine gW_no ?_ ?_); (focus (simp (disch := omega) [ff]; done)); try dsimp only) | ((with_reducible refine gW_un ?_ ?_); (focus (simp (disch := omega) [ff]; done)); try dsimp only) | ((with_reducible refine cndW_T ?_ ?_); (focus (simp (disch := omega) [ff] <;> omega))) | ((with_reducible refine cndW_F ?_ ?_); (focus (simp (disch := omega) [ff] <;> omega))) | ((with_reducible refine stabP_i ?_ ?_); (focus (simp (disch := omega) [ff]; done))) | (with_reducible refine bothP_i ?_ ?_) | (with_reducible refine wL_i ?_) | ((with_reducible refine ValW_do ?_ ?_); (focus (simp (disch := omega) [ff]; done)); try dsimp only) | ((with_reducible refine ValW_no ?_ ?_); (focus (simp (disch := omega) [ff]; done)); try dsimp only) | ((with_reducible refine ValW_un ?_ ?_); (focus (simp (disch := omega) [ff]; done)); try dsimp only) | ((with_reducible refine SpecA_i (args' := ?_) ?_ ?_); rotate_left; (focus ((conv => lhs; simp (disch := omega) [ff]); done))) | ((with_reducible refine ValA_i (args' := ?_) ?_ ?_); rotate_left; (focus ((conv => lhs; simp (disch := omega) [ff]); done))) | ((with_reducible refine stabA_i (args' := ?_) ?_ ?_); rotate_left; (focus ((conv => lhs; simp (disch := omega) [ff]); done))) | ((with_reducible refine ValA_fn (g := ?_) (caps := ?_) ?_ ?_); rotate_left; rotate_left; (focus ((conv => lhs; simp (disch := omega) [ff]); done))) | ((with_reducible refine stabA_fn (g := ?_) (caps := ?_) ?_ ?_); rotate_left; rotate_left; (focus ((conv => lhs; simp (disch := omega) [ff]); done))) | ((with_reducible refine stab_do ?_ ?_); (focus (simp (disch := omega) [ff]; done))) | (simp (decide := true) only [sn80, sqW_nrm, sqW_exit, sqW_ret, inBlk_nrm, inBlk_ret, inBlk_same, inBlk_exit, if_true, if_false, retW_nrm, retW_ret]) | (with_reducible refine n80_98_w _ _ _ ?_) | (with_reducible refine n80_109_w _ _ _ ?_) | (with_reducible refine n80_117_w _ _ _ ?_) | (with_reducible refine n80_147_w _ _ _ ?_) | (with_reducible refine n80_151_w _ _ _ ?_) | (with_reducible refine n80_166_w _ _ _ ?_) | (with_reducible refine n80_199_w _ _ _ ?_) | (with_reducible refine n80_201_w _ _ _ ?_) | (with_reducible refine n80_203_w _ _ _ ?_) | (with_reducible refine n80_1_w _ _ _ ?_))
 exact xX.get) (x : X) : G := f ⟨x⟩
theorem runRp15_2 {G X : Prop} (f : Hd X → G := by
 intro xX
 repeat' (first | ((with_reducible refine evs_of (a := ?_) ?_ ?_); rotate_left; (focus ((conv => lhs; simp (disch := omega) [ff]); done)); try dsimp only) | ((with_reducible refine gW_do ?_ ?_); (focus (simp (disch := omega) [ff]; done))) | ((with_reducible refine gW_no ?_ ?_); (focus (simp (disch := omega) [ff]; done)); try dsimp only) | ((with_reducible refine gW_un ?_ ?_); (focus (simp (disch := omega) [ff]; done)); try dsimp only) | ((with_reducible refine cndW_T ?_ ?_); (focus (simp (disch := omega) [ff] <;> omega))) | ((with_reducible refine cndW_F ?_ ?_); (focus (simp (disch := omega) [ff] <;> omega))) | ((with_reducible refine stabP_i ?_ ?_); (focus (simp (disch := omega) [ff]; done))) | (with_reducible refine bothP_i ?_ ?_) | (with_reducible refine wL_i ?_) | ((with_reducible refine ValW_do ?_ ?_); (focus (simp (disch := omega) [ff]; done)); try dsimp only) | ((with_reducible refine ValW_no ?_ ?_); (focus (simp (disch := omega) [ff]; done)); try dsimp only) | ((with_reducible refine ValW_un ?_ ?_); (focus (simp (disch := omega) [ff]; done)); try dsimp only) | (with_reducible refine ValW_i (c67 (d1.x.w.app _)) ?_; try dsimp only) | (with_reducible refine SpecQ.step (c67 (d1.x.w.app _)) ?_; rintro _ rfl; try dsimp only) | (with_reducible refine stabP_i (c67 (d1.x.w.app _)) ?_) | ((with_reducible refine SpecA_i (args' := ?_) ?_ ?_); rotate_left; (focus ((conv => lhs; simp (disch := omega) [ff]); done))) | ((with_reducible refine ValA_i (args' := ?_) ?_ ?_); rotate_left; (focus ((conv => lhs; simp (disch := omega) [ff]); done))) | ((with_reducible refine stabA_i (args' := ?_) ?_ ?_); rotate_left; (focus ((conv => lhs; simp (disch := omega) [ff]); done))) | ((with_reducible refine ValA_fn (g := ?_) (caps := ?_) ?_ ?_); rotate_left; rotate_left; (focus ((conv => lhs; simp (disch := omega) [ff]); done))) | ((with_reducible refine stabA_fn (g := ?_) (caps := ?_) ?_ ?_); rotate_left; rotate_left; (focus ((conv => lhs; simp (disch := omega) [ff]); done))) | ((with_reducible refine stab_do ?_ ?_); (focus (simp (disch := omega) [ff]; done))) | (simp (decide := true) only [sn80, sqW_nrm, sqW_exit, sqW_ret, inBlk_nrm, inBlk_ret, inBlk_same, inBlk_exit, if_true, if_false, retW_nrm, retW_ret]) | (with_reducible refine n80_98_w _ _ _ ?_) | (with_reducible refine n80_109_w _ _ _ ?_) | (with_reducible refine n80_117_w _ _ _ ?_) | (with_reducible refine n80_147_w _ _ _ ?_) | (with_reducible refine n80_151_w _ _ _ ?_) | (with_reducible refine n80_166_w _ _ _ ?_) | (with_reducible refine n80_199_w _ _ _ ?_) | (with_reducible refine n80_201_w _ _ _ ?_) | (with_reducible refine n80_203_w _ _ _ ?_) | (with_reducible refine n80_1_w _ _ _ ?_))
 exact xX.get) (x : X) : G := f ⟨x⟩
theorem runRp15_3 {G X : Prop} (f : Hd X → G := by
 intro xX
 repeat' (first | ((with_reducible refine evs_of (a := ?_) ?_ ?_); rotate_left; (focus ((conv => lhs; simp (disch := omega) [ff]); done)); try dsimp only) | ((with_reducible refine gW_do ?_ ?_); (focus (simp (disch := omega) [ff]; done))) | ((with_reducible refine gW_no ?_ ?_); (focus (simp (disch := omega) [ff]; done)); try dsimp only) | ((with_reducible refine gW_un ?_ ?_); (focus (simp (disch := omega) [ff]; done)); try dsimp only) | ((with_reducible refine cndW_T ?_ ?_); (focus (simp (disch := omega) [ff] <;> omega))) | ((with_reducible refine cndW_F ?_ ?_); (focus (simp (disch := omega) [ff] <;> omega))) | ((with_reducible refine stabP_i ?_ ?_); (focus (simp (disch := omega) [ff]; done))) | (with_reducible refine bothP_i ?_ ?_) | (with_reducible refine wL_i ?_) | ((with_reducible refine ValW_do ?_ ?_); (focus (simp (disch := omega) [ff]; done)); try dsimp only) | ((with_reducible refine ValW_no ?_ ?_); (focus (simp (disch := omega) [ff]; done)); try dsimp only) | ((with_reducible refine ValW_un ?_ ?_); (focus (simp (disch := omega) [ff]; done)); try dsimp only) | (with_reducible refine ValW_i (c67 d4.x.w) ?_; try dsimp only) | (with_reducible refine SpecQ.step (c67 d4.x.w) ?_; rintro _ rfl; try dsimp only) | (with_reducible refine stabP_i (c67 d4.x.w) ?_) | ((with_reducible refine SpecA_i (args' := ?_) ?_ ?_); rotate_left; (focus ((conv => lhs; simp (disch := omega) [ff]); done))) | ((with_reducible refine ValA_i (args' := ?_) ?_ ?_); rotate_left; (focus ((conv => lhs; simp (disch := omega) [ff]); done))) | ((with_reducible refine stabA_i (args' := ?_) ?_ ?_); rotate_left; (focus ((conv => lhs; simp (disch := omega) [ff]); done))) | ((with_reducible refine ValA_fn (g := ?_) (caps := ?_) ?_ ?_); rotate_left; rotate_left; (focus ((conv => lhs; simp (disch := omega) [ff]); done))) | ((with_reducible refine stabA_fn (g := ?_) (caps := ?_) ?_ ?_); rotate_left; rotate_left; (focus ((conv => lhs; simp (disch := omega) [ff]); done))) | ((with_reducible refine stab_do ?_ ?_); (focus (simp (disch := omega) [ff]; done))) | (simp (decide := true) only [sn80, sqW_nrm, sqW_exit, sqW_ret, inBlk_nrm, inBlk_ret, inBlk_same, inBlk_exit, if_true, if_false, retW_nrm, retW_ret]) | (with_reducible refine n80_98_w _ _ _ ?_) | (with_reducible refine n80_109_w _ _ _ ?_) | (with_reducible refine n80_117_w _ _ _ ?_) | (with_reducible refine n80_147_w _ _ _ ?_) | (with_reducible refine n80_151_w _ _ _ ?_) | (with_reducible refine n80_166_w _ _ _ ?_) | (with_reducible refine n80_199_w _ _ _ ?_) | (with_reducible refine n80_201_w _ _ _ ?_) | (with_reducible refine n80_203_w _ _ _ ?_) | (with_reducible refine n80_1_w _ _ _ ?_))
 exact xX.get) (x : X) : G := f ⟨x⟩
theorem runRp15_4 {G X : Prop} (f : Hd X → G := by
 intro xX
 repeat' (first | ((with_reducible refine evs_of (a := ?_) ?_ ?_); rotate_left; (focus ((conv => lhs; simp (disch := omega) [ff]); done)); try dsimp only) | ((with_reducible refine gW_do ?_ ?_); (focus (simp (disch := omega) [ff]; done))) | ((with_reducible refine gW_no ?_ ?_); (focus (simp (disch := omega) [ff]; done)); try dsimp only) | ((with_reducible refine gW_un ?_ ?_); (focus (simp (disch := omega) [ff]; done)); try dsimp only) | ((with_reducible refine cndW_T ?_ ?_); (focus (simp (disch := omega) [ff] <;> omega))) | ((with_reducible refine cndW_F ?_ ?_); (focus (simp (disch := omega) [ff] <;> omega))) | ((with_reducible refine stabP_i ?_ ?_); (focus (simp (disch := omega) [ff]; done))) | (with_reducible refine bothP_i ?_ ?_) | (with_reducible refine wL_i ?_) | ((with_reducible refine ValW_do ?_ ?_); (focus (simp (disch := omega) [ff]; done)); try dsimp only) | ((with_reducible refine ValW_no ?_ ?_); (focus (simp (disch := omega) [ff]; done)); try dsimp only) | ((with_reducible refine ValW_un ?_ ?_); (focus (simp (disch := omega) [ff]; done)); try dsimp only) | (with_reducible refine ValW_i (c95 x.w hs) ?_; try dsimp only) | (with_reducible refine SpecQ.step (c95 x.w hs) ?_; rintro _ rfl; try dsimp only) | (with_reducible refine stabP_i (c95 x.w hs) ?_) | ((with_reducible refine SpecA_i (args' := ?_) ?_ ?_); rotate_left; (focus ((conv => lhs; simp (disch := omega) [ff]); done))) | ((with_reducible refine ValA_i (args' := ?_) ?_ ?_); rotate_left; (focus ((conv => lhs; simp (disch := omega) [ff]); done))) | ((with_reducible refine stabA_i (args' := ?_) ?_ ?_); rotate_left; (focus ((conv => lhs; simp (disch := omega) [ff]); done))) | ((with_reducible refine ValA_fn (g := ?_) (caps := ?_) ?_ ?_); rotate_left; rotate_left; (focus ((conv => lhs; simp (disch := omega) [ff]); done))) | ((with_reducible refine stabA_fn (g := ?_) (caps := ?_) ?_ ?_); rotate_left; rotate_left; (focus ((conv => lhs; simp (disch := omega) [ff]); done))) | ((with_reducible refine stab_do ?_ ?_); (focus (simp (disch := omega) [ff]; done))) | (simp (decide := true) only [sn80, sqW_nrm, sqW_exit, sqW_ret, inBlk_nrm, inBlk_ret, inBlk_same, inBlk_exit, if_true, if_false, retW_nrm, retW_ret]) | (with_reducible refine n80_98_w _ _ _ ?_) | (with_reducible refine n80_109_w _ _ _ ?_) | (with_reducible refine n80_117_w _ _ _ ?_) | (with_reducible refine n80_147_w _ _ _ ?_) | (with_reducible refine n80_151_w _ _ _ ?_) | (with_reducible refine n80_166_w _ _ _ ?_) | (with_reducible refine n80_199_w _ _ _ ?_) | (with_reducible refine n80_201_w _ _ _ ?_) | (with_reducible refine n80_203_w _ _ _ ?_) | (with_reducible refine n80_1_w _ _ _ ?_))
 exact xX.get) (x : X) : G := f ⟨x⟩
theorem runRp15_5 {G X : Prop} (f : Hd X → G := by
 intro xX
 repeat' (first | ((with_reducible refine evs_of (a := ?_) ?_ ?_); rotate_left; (focus ((conv => lhs; simp (disch := omega) [ff]); done)); try dsimp only) | ((with_reducible refine gW_do ?_ ?_); (focus (simp (disch := omega) [ff]; done))) | ((with_reducible refine gW_no ?_ ?_); (focus (simp (disch := omega) [ff]; done)); try dsimp only) | ((with_reducible refine gW_un ?_ ?_); (focus (simp (disch := omega) [ff]; done)); try dsimp only) | ((with_reducible refine cndW_T ?_ ?_); (focus (simp (disch := omega) [ff] <;> omega))) | ((with_reducible refine cndW_F ?_ ?_); (focus (simp (disch := omega) [ff] <;> omega))) | ((with_reducible refine stabP_i ?_ ?_); (focus (simp (disch := omega) [ff]; done))) | (with_reducible refine bothP_i ?_ ?_) | (with_reducible refine wL_i ?_) | ((with_reducible refine ValW_do ?_ ?_); (focus (simp (disch := omega) [ff]; done)); try dsimp only) | ((with_reducible refine ValW_no ?_ ?_); (focus (simp (disch := omega) [ff]; done)); try dsimp only) | ((with_reducible refine ValW_un ?_ ?_); (focus (simp (disch := omega) [ff]; done)); try dsimp only) | (with_reducible refine ValW_i (c95 x.w hs) ?_; try dsimp only) | (with_reducible refine SpecQ.step (c95 x.w hs) ?_; rintro _ rfl; try dsimp only) | (with_reducible refine stabP_i (c95 x.w hs) ?_) | (with_reducible refine ValW_i (c73 x hs hme) ?_; try dsimp only) | (with_reducible refine SpecQ.step (c73 x hs hme) ?_; rintro _ rfl; try dsimp only) | (with_reducible refine stabP_i (c73 x hs hme) ?_) | ((with_reducible refine SpecA_i (args' := ?_) ?_ ?_); rotate_left; (focus ((conv => lhs; simp (disch := omega) [ff]); done))) | ((with_reducible refine ValA_i (args' := ?_) ?_ ?_); rotate_left; (focus ((conv => lhs; simp (disch := omega) [ff]); done))) | ((with_reducible refine stabA_i (args' := ?_) ?_ ?_); rotate_left; (focus ((conv => lhs; simp (disch := omega) [ff]); done))) | ((with_reducible refine ValA_fn (g := ?_) (caps := ?_) ?_ ?_); rotate_left; rotate_left; (focus ((conv => lhs; simp (disch := omega) [ff]); done))) | ((with_reducible refine stabA_fn (g := ?_) (caps := ?_) ?_ ?_); rotate_left; rotate_left; (focus ((conv => lhs; simp (disch := omega) [ff]); done))) | ((with_reducible refine stab_do ?_ ?_); (focus (simp (disch := omega) [ff]; done))) | (simp (decide := true) only [sn80, sqW_nrm, sqW_exit, sqW_ret, inBlk_nrm, inBlk_ret, inBlk_same, inBlk_exit, if_true, if_false, retW_nrm, retW_ret]) | (with_reducible refine n80_98_w _ _ _ ?_) | (with_reducible refine n80_109_w _ _ _ ?_) | (with_reducible refine n80_117_w _ _ _ ?_) | (with_reducible refine n80_147_w _ _ _ ?_) | (with_reducible refine n80_151_w _ _ _ ?_) | (with_reducible refine n80_166_w _ _ _ ?_) | (with_reducible refine n80_199_w _ _ _ ?_) | (with_reducible refine n80_201_w _ _ _ ?_) | (with_reducible refine n80_203_w _ _ _ ?_) | (with_reducible refine n80_1_w _ _ _ ?_))
 exact xX.get) (x : X) : G := f ⟨x⟩
theorem runRp15_6 {G X : Prop} (f : Hd X → G := by
 intro xX
 repeat' (first | ((with_reducible refine evs_of (a := ?_) ?_ ?_); rotate_left; (focus ((conv => lhs; simp (disch := omega) [ff]); done)); try dsimp only) | ((with_reducible refine gW_do ?_ ?_); (focus (simp (disch := omega) [ff]; done))) | ((with_reducible refine gW_no ?_ ?_); (focus (simp (disch := omega) [ff]; done)); try dsimp only) | ((with_reducible refine gW_un ?_ ?_); (focus (simp (disch := omega) [ff]; done)); try dsimp only) | ((with_reducible refine cndW_T ?_ ?_); (focus (simp (disch := omega) [ff] <;> omega))) | ((with_reducible refine cndW_F ?_ ?_); (focus (simp (disch := omega) [ff] <;> omega))) | ((with_reducible refine stabP_i ?_ ?_); (focus (simp (disch := omega) [ff]; done))) | (with_reducible refine bothP_i ?_ ?_) | (with_reducible refine wL_i ?_) | ((with_reducible refine ValW_do ?_ ?_); (focus (simp (disch := omega) [ff]; done)); try dsimp only) | ((with_reducible refine ValW_no ?_ ?_); (focus (simp (disch := omega) [ff]; done)); try dsimp only) | ((with_reducible refine ValW_un ?_ ?_); (focus (simp (disch := omega) [ff]; done)); try dsimp only) | (with_reducible refine ValW_i (c113 (d3.x.w.app _)) ?_; try dsimp only) | (with_reducible refine SpecQ.step (c113 (d3.x.w.app _)) ?_; rintro _ rfl; try dsimp only) | (with_reducible refine stabP_i (c113 (d3.x.w.app _)) ?_) | ((with_reducible refine SpecA_i (args' := ?_) ?_ ?_); rotate_left; (focus ((conv => lhs; simp (disch := omega) [ff]); done))) | ((with_reducible refine ValA_i (args' := ?_) ?_ ?_); rotate_left; (focus ((conv => lhs; simp (disch := omega) [ff]); done))) | ((with_reducible refine stabA_i (args' := ?_) ?_ ?_); rotate_left; (focus ((conv => lhs; simp (disch := omega) [ff]); done))) | ((with_reducible refine ValA_fn (g := ?_) (caps := ?_) ?_ ?_); rotate_left; rotate_left; (focus ((conv => lhs; simp (disch := omega) [ff]); done))) | ((with_reducible refine stabA_fn (g := ?_) (caps := ?_) ?_ ?_); rotate_left; rotate_left; (focus ((conv => lhs; simp (disch := omega) [ff]); done))) | ((with_reducible refine stab_do ?_ ?_); (focus (simp (disch := omega) [ff]; done))) | (simp (decide := true) only [sn80, sqW_nrm, sqW_exit, sqW_ret, inBlk_nrm, inBlk_ret, inBlk_same, inBlk_exit, if_true, if_false, retW_nrm, retW_ret]) | (with_reducible refine n80_98_w _ _ _ ?_) | (with_reducible refine n80_109_w _ _ _ ?_) | (with_reducible refine n80_117_w _ _ _ ?_) | (with_reducible refine n80_147_w _ _ _ ?_) | (with_reducible refine n80_151_w _ _ _ ?_) | (with_reducible refine n80_166_w _ _ _ ?_) | (with_reducible refine n80_199_w _ _ _ ?_) | (with_reducible refine n80_201_w _ _ _ ?_) | (with_reducible refine n80_203_w _ _ _ ?_) | (with_reducible refine n80_1_w _ _ _ ?_))
 exact xX.get) (x : X) : G := f ⟨x⟩
theorem Srt.s' {s : Stt} (h : Srt s) (e : Pt) : Srt { s with seats := del fS s.seats e } := ⟨srt_del h.s, h.i, h.a, h.b⟩
section
variable {κ κ0 : Nat → Nat} {G H0 : Heap} {c xb : Nat} {s : Stt} {b : Pt} {a : Actn} {m : BitVec 8} {vt vp vs vi va vb wt wp : AV} {pe : Pt} {env : Env} {p3 p4 p5 p6 p7 : Nat} {K : AV × Heap → Prop}
theorem Mx.scr (d : Mx κ G c xb s b a m vt vp vs vi va vb wt wp pe env p3 p4 p5 p6 p7) (v : Blk) : Mx (Go.Vab.scr κ G.length) (G ++ [v]) c xb s b a m vt vp vs vi va vb wt wp pe env p3 p4 p5 p6 p7 :=
 ⟨d.x.scr v, d.c3.scr v, d.c4.scr v, d.c5.scr v, d.c6.scr v, d.c7.scr v, d.e0, d.e3, d.e4, d.e5, d.e6, d.e7⟩
theorem Mx.wr (d : Mx κ G c xb s b a m vt vp vs vi va vb wt wp pe env p3 p4 p5 p6 p7) {p : Nat} (hp : κ p = 6) (h3 : p ≠ p3) (h4 : p ≠ p4) (h5 : p ≠ p5) (h6 : p ≠ p6) (h7 : p ≠ p7) (v : Blk) : Mx κ (G.set p v) c xb s b a m vt vp vs vi va vb wt wp pe env p3 p4 p5 p6 p7 :=
 ⟨d.x.wr hp v, d.c3.wr h3 v, d.c4.wr h4 v, d.c5.wr h5 v, d.c6.wr h6 v, d.c7.wr h7 v, d.e0, d.e3, d.e4, d.e5, d.e6, d.e7⟩
set_option maxHeartbeats 8000000 in
theorem more_7 (d : Mx κ G c xb s b a m vt vp vs vi va vb wt wp a.e env p3 p4 p5 p6 p7) (f0 : Fr κ0 H0 κ G) (hs : Srt s) (ms : mayS s = true) (ok : Okd s b a) (hk : a.kind = 7#8) (hK : ∀ r, DoR κ0 H0 c (madeP s b a) r → K r) : wC Tryz.prog cx80 n80_3 (retW (fun s => (bnd (some (s.env.get 2)) fun v => bnd (some []) fun vs => some (v :: vs))) K) ⟨env, G⟩ := by
 have sx0 := blk_of d.x.st
 have wb0 := blk_of d.x.w.cell
 have wc0 := d.x.w.cells
 have d0 := d
 obtain ⟨x, c3, c4, c5, c6, c7, e0, e3, e4, e5, e6, e7⟩ := d
 have b4 := c4.blk0
 have b4l := c4.blk
 have sxl := d0.x.blk
 have hl := (may_lens ms).1
 have ff := aI sx0 (aI hk (aI b4 (aI e0 e4)))
 refine runRp15_0 (x := ?_)
 clear ff
 refine n80_117_w _ _ _ ?_
 repeat' (first | ((with_reducible refine evs_of (a := ?_) ?_ ?_); rotate_left; (focus ((conv => lhs; simp (disch := omega) [sx0, sxl, hk, b4, b4l, e0, e4]); done)); try dsimp only) | ((with_reducible refine gW_do ?_ ?_); (focus (simp (disch := omega) [sx0, sxl, hk, b4, b4l, e0, e4]; done))) | ((with_reducible refine gW_no ?_ ?_); (focus (simp (disch := omega) [sx0, sxl, hk, b4, b4l, e0, e4]; done)); try dsimp only) | ((with_reducible refine gW_un ?_ ?_); (focus (simp (disch := omega) [sx0, sxl, hk, b4, b4l, e0, e4]; done)); try dsimp only) | ((with_reducible refine cndW_T ?_ ?_); (focus (simp (disch := omega) [sx0, sxl, hk, b4, b4l, e0, e4] <;> omega))) | ((with_reducible refine cndW_F ?_ ?_); (focus (simp (disch := omega) [sx0, sxl, hk, b4, b4l, e0, e4] <;> omega))) | ((with_reducible refine stabP_i ?_ ?_); (focus (simp (disch := omega) [sx0, sxl, hk, b4, b4l, e0, e4]; done))) | (with_reducible refine bothP_i ?_ ?_) | (with_reducible refine wL_i ?_) | ((with_reducible refine ValW_do ?_ ?_); (focus (simp (disch := omega) [sx0, sxl, hk, b4, b4l, e0, e4]; done)); try dsimp only) | ((with_reducible refine ValW_no ?_ ?_); (focus (simp (disch := omega) [sx0, sxl, hk, b4, b4l, e0, e4]; done)); try dsimp only) | ((with_reducible refine ValW_un ?_ ?_); (focus (simp (disch := omega) [sx0, sxl, hk, b4, b4l, e0, e4]; done)); try dsimp only) | ((with_reducible refine SpecA_i (args' := ?_) ?_ ?_); rotate_left; (focus ((conv => lhs; simp (disch := omega) [sx0, sxl, hk, b4, b4l, e0, e4]); done))) | ((with_reducible refine ValA_i (args' := ?_) ?_ ?_); rotate_left; (focus ((conv => lhs; simp (disch := omega) [sx0, sxl, hk, b4, b4l, e0, e4]); done))) | ((with_reducible refine stabA_i (args' := ?_) ?_ ?_); rotate_left; (focus ((conv => lhs; simp (disch := omega) [sx0, sxl, hk, b4, b4l, e0, e4]); done))) | ((with_reducible refine ValA_fn (g := ?_) (caps := ?_) ?_ ?_); rotate_left; rotate_left; (focus ((conv => lhs; simp (disch := omega) [sx0, sxl, hk, b4, b4l, e0, e4]); done))) | ((with_reducible refine stabA_fn (g := ?_) (caps := ?_) ?_ ?_); rotate_left; rotate_left; (focus ((conv => lhs; simp (disch := omega) [sx0, sxl, hk, b4, b4l, e0, e4]); done))) | ((with_reducible refine stab_do ?_ ?_); (focus (simp (disch := omega) [sx0, sxl, hk, b4, b4l, e0, e4]; done))) | (simp (decide := true) only [sn80, sqW_nrm, sqW_exit, sqW_ret, inBlk_nrm, inBlk_ret, inBlk_same, inBlk_exit, if_true, if_false, retW_nrm, retW_ret]) | ((with_reducible refine cndW_splitE (b := ?_) ?_ ?_ ?_); rotate_left; (focus ((conv => lhs; simp (disch := omega) [sx0, sxl, hk, b4, b4l, e0, e4]); done)); all_goals ((intro hb; try simp only [Bool.not_true, Bool.not_false] at hb); try simp only [hb])) | ((with_reducible refine gv_splitE (b := ?_) ?_ ?_ ?_); rotate_left; (focus ((conv => lhs; simp (disch := omega) [sx0, sxl, hk, b4, b4l, e0, e4]); done)); all_goals ((intro hb; try simp only [Bool.not_true, Bool.not_false] at hb); try simp only [hb])) | ((with_reducible refine gW_splitE (b := ?_) ?_ ?_ ?_); rotate_left; (focus ((conv => lhs; simp (disch := omega) [sx0, sxl, hk, b4, b4l, e0, e4]); done)); all_goals ((intro hb; try simp only [Bool.not_true, Bool.not_false] at hb); try simp only [hb])) | (with_reducible refine gv_split ?_ ?_ <;> (intro hb; try simp only [Bool.not_true, Bool.not_false] at hb) <;> try simp only [hb]) | (with_reducible refine gW_split ?_ ?_ <;> (intro hb; try simp only [Bool.not_true, Bool.not_false] at hb) <;> try simp only [hb]) | (with_reducible refine cndW_split ?_ ?_ <;> (intro hb; try simp only [Bool.not_true, Bool.not_false] at hb) <;> try simp only [hb]) | (with_reducible refine ValW_split ?_ ?_ <;> (intro hb; try simp only [Bool.not_true, Bool.not_false] at hb) <;> try simp only [hb]))
 ·refine SpecQ.step (c68 x.w hs) ?_
  rintro _ ⟨y, κ', H', q, rfl, hy, w2, fr⟩
  have d1 := d0.next fr w2
  have b31 := d1.c3.blk
  have b41 := d1.c4.blk
  have sx1 := d1.x.blk
  have ff := aI b41 (aI sx1 e4)
  refine runRp15_0 (x := ?_)
  clear ff
  cases h1 : hasP fI s.invites b
  ·have hmd : madeP s b a = .error 7 := by simp [madeP, hk, hasP_fnd h1]
   have ff := aI b31 (aI sx1 (aI hk h1))
   refine runRp15_1 (x := ?_)
   clear ff
   exact hK _ (.err hmd (f0.trans (fr.trans (Fr.refl _ _).app)))
  obtain ⟨_, _, hf⟩ := low_yes hs.i h1
  have hyf := hy _ hf
  rw [← hyf] at hf
  by_cases h3 : 40 ≤ s.seats.length
  ·have hmd : madeP s b a = .error 9 := by simp [madeP, hk, hf, h3]
   have ff := aI b31 (aI sx1 (aI hk (aI h1 (aI h3 e3))))
   refine runRp15_2 (x := ?_)
   clear ff
   exact hK _ (.err hmd (f0.trans (fr.trans (Fr.refl _ _).app)))
  have hmd : madeP s b a = .ok { s with invites := del fI s.invites b, seats := ins fS s.seats ⟨y.who, y.role, a.version⟩ } := by simp [madeP, hk, hf, h3]
  have ff := aI b31 (aI sx1 (aI hk (aI h1 (aI h3 (aI e0 e3)))))
  refine runRp15_2 (x := ?_)
  clear ff
  refine SpecQ.step (c70 (d1.x.app _) (hs.i' _) (by simp only; omega)) ?_
  rintro _ ⟨κ3, H3, q3, rfl, w3, fr3⟩
  have ff := hk
  refine runRp15_1 (x := ?_)
  clear ff
  exact hK _ (.ok hmd (f0.trans (fr.trans fr3.app)) w3)
 ·have d2 := d0.scr ⟨eInv ⟨ci0, 0#8, ci0⟩, 0, .own⟩
  refine SpecQ.step (c68 d2.x.w hs) ?_
  rintro _ ⟨y, κ', H', q, rfl, hy, w2, fr⟩
  have d3 := d2.next fr w2
  have c10 := (Cel.own κ G (eInv ⟨ci0, 0#8, ci0⟩)).next fr
  have b10 := c10.blk0
  have k10 : κ' G.length = 6 := by rw [fr.old _ (by simp), scr_self]
  obtain ⟨H2, hH2⟩ : ∃ H2, H'.set G.length ⟨eInv y, 0, .own⟩ = H2 := ⟨_, rfl⟩
  have ff := aI b10 hH2
  refine runRp15_0 (x := ?_)
  clear ff
  have n3 := c3.lt
  have n4 := c4.lt
  have n5 := c5.lt
  have n6 := c6.lt
  have n7 := c7.lt
  have d4 := d3.wr k10 (by omega) (by omega) (by omega) (by omega) (by omega) ⟨eInv y, 0, .own⟩
  have c11 := c10.set (eInv y)
  have f4 : Fr κ G κ' (H'.set G.length ⟨eInv y, 0, .own⟩) := (Fr.scr fr (Nat.le_refl _)).wr (Nat.le_refl _) _
  rw [hH2] at d4 c11 f4
  have b31 := d4.c3.blk0
  have sx1 := blk_of d4.x.st
  have b11 := c11.blk0
  cases h1 : hasP fI s.invites b
  ·have hmd : madeP s b a = .error 7 := by simp [madeP, hk, hasP_fnd h1]
   have ff := aI b31 (aI sx1 (aI b11 (aI hk h1)))
   refine runRp15_1 (x := ?_)
   clear ff
   exact hK _ (.err hmd (f0.trans f4))
  obtain ⟨_, _, hf⟩ := low_yes hs.i h1
  have hyf := hy _ hf
  rw [← hyf] at hf
  by_cases h3 : 40 ≤ s.seats.length
  ·have hmd : madeP s b a = .error 9 := by simp [madeP, hk, hf, h3]
   have ff := aI b31 (aI sx1 (aI b11 (aI hk (aI h1 (aI h3 e3)))))
   refine runRp15_3 (x := ?_)
   clear ff
   exact hK _ (.err hmd (f0.trans f4))
  have hmd : madeP s b a = .ok { s with invites := del fI s.invites b, seats := ins fS s.seats ⟨y.who, y.role, a.version⟩ } := by simp [madeP, hk, hf, h3]
  have ff := aI b31 (aI sx1 (aI b11 (aI hk (aI h1 (aI h3 (aI e0 e3))))))
  refine runRp15_3 (x := ?_)
  clear ff
  refine SpecQ.step (c70 d4.x (hs.i' _) (by simp only; omega)) ?_
  rintro _ ⟨κ3, H3, q3, rfl, w3, fr3⟩
  have ff := hk
  refine runRp15_1 (x := ?_)
  clear ff
  exact hK _ (.ok hmd (f0.trans (f4.trans fr3)) w3)
set_option maxHeartbeats 8000000 in
theorem more_14 (d : Mx κ G c xb s b a m vt vp vs vi va vb wt wp a.e env p3 p4 p5 p6 p7) (f0 : Fr κ0 H0 κ G) (hs : Srt s) (ms : mayS s = true) (ok : Okd s b a) (hk : a.kind = 14#8) (hK : ∀ r, DoR κ0 H0 c (madeP s b a) r → K r) : wC Tryz.prog cx80 n80_3 (retW (fun s => (bnd (some (s.env.get 2)) fun v => bnd (some []) fun vs => some (v :: vs))) K) ⟨env, G⟩ := by
 have sx0 := blk_of d.x.st
 have wb0 := blk_of d.x.w.cell
 have wc0 := d.x.w.cells
 have d0 := d
 obtain ⟨x, c3, c4, c5, c6, c7, e0, e3, e4, e5, e6, e7⟩ := d
 have hm := ok.adm (by simp [hk])
 have hme := role_has ms (b := b) (by rw [hm]; decide)
 have b3 := c3.blk
 have b60 := c6.blk0
 have b7 := c7.blk
 have b70 := c7.blk0
 have hl := (may_lens ms).2.2.2
 by_cases hb : a.e = b
 ·have hmd : madeP s b a = .error 195 := by simp [madeP, hk, hm, hb]
  have ff := aI sx0 (aI hk (aI hb (aI b70 (aI e0 e7))))
  refine runRp15_1 (x := ?_)
  clear ff
  exact hK _ (.err hmd f0)
 cases h1 : hasP fB s.bans a.e
 rotate_left
 ·have hmd : madeP s b a = .error 8 := by simp [madeP, hk, hm, hb, h1]
  have ff := aI sx0 (aI hk (aI hb (aI h1 (aI b60 (aI b70 (aI e0 (aI e6 e7)))))))
  refine runRp15_4 (x := ?_)
  clear ff
  exact hK _ (.err hmd f0)
 have ff := aI sx0 (aI hk (aI hb (aI h1 (aI b3 (aI b60 (aI b7 (aI b70 (aI e0 (aI e3 (aI e6 e7))))))))))
 refine runRp15_5 (x := ?_)
 clear ff
 have d2 := d0.scr ⟨eBan ⟨ci0, meOf s b⟩, 0, .own⟩
 refine SpecQ.step (c77 d2.x.w hs) ?_
 rintro _ ⟨y, κ1, H1, q1, rfl, hy, w1, fr1⟩
 have d1 := d2.next fr1 w1
 have c14 := (Cel.own κ G (eBan ⟨ci0, meOf s b⟩)).next fr1
 have k14 : κ1 G.length = 6 := by rw [fr1.old _ (by simp), scr_self]
 have f1 : Fr κ G κ1 H1 := Fr.scr fr1 (Nat.le_refl _)
 have n3 := c3.lt
 have n4 := c4.lt
 have n5 := c5.lt
 have n6 := c6.lt
 have n7 := c7.lt
 cases hS : hasP fS s.seats a.e
 rotate_left
 ·obtain ⟨_, _, hf⟩ := low_yes hs.s hS
  have hyf := hy _ hf
  rw [← hyf] at hf
  have hwho : whoOf s a.e = some y.who := by simp [whoOf, hf]
  obtain ⟨hI, hA, _⟩ := (apart ms a.e).1 hS
  have ff := aI hk hS
  refine runRp15_1 (x := ?_)
  clear ff
  obtain ⟨H2, hH2⟩ : ∃ H2, H1.set G.length ⟨eBan ⟨y.who, meOf s b⟩, 0, .own⟩ = H2 := ⟨_, rfl⟩
  have st14 : ∀ l v, (H1 ++ l).set G.length v = H1.set G.length v ++ l := fun l v => set_appL c14.1 l v
  have b14 := c14.blk
  have ff := aI hk (aI b14 (aI st14 hH2))
  refine runRp15_1 (x := ?_)
  clear ff
  have d3 := d1.wr k14 (by omega) (by omega) (by omega) (by omega) (by omega) ⟨eBan ⟨y.who, meOf s b⟩, 0, .own⟩
  have c14n := c14.set (eBan ⟨y.who, meOf s b⟩)
  have f3 := f1.wr (p := G.length) (Nat.le_refl _) ⟨eBan ⟨y.who, meOf s b⟩, 0, .own⟩
  rw [hH2] at d3 c14n f3
  have b62 := d3.c6.blk
  have b14n := c14n.blk
  by_cases h40 : 40 ≤ s.bans.length
  ·have hmd : madeP s b a = .error 9 := by simp [madeP, hk, hm, hb, h1, hwho, h40]
   have ff := aI hk (aI h40 (aI b62 (aI b14n e6)))
   refine runRp15_6 (x := ?_)
   clear ff
   exact hK _ (.err hmd (f0.trans (f3.trans (Fr.refl _ _).app)))
  have hmd : madeP s b a = .ok { s with seats := del fS s.seats a.e, invites := s.invites, asks := s.asks, bans := ins fB s.bans ⟨y.who, meOf s b⟩ } := by simp [madeP, hk, hm, hb, h1, hwho, h40, del_no hI, del_no hA]
  have ff := aI hk (aI h40 (aI b62 (aI b14n e6)))
  refine runRp15_6 (x := ?_)
  clear ff
  refine SpecQ.step (c114 (x := ⟨y.who, meOf s b⟩) (d3.x.w.app _) (hs.s' _) (by simp only; omega)) ?_
  rintro _ ⟨_, κ9, H9, q9, rfl, w9, fr9⟩
  have ff := hk
  refine runRp15_1 (x := ?_)
  clear ff
  exact hK _ (.ok hmd (f0.trans (f3.trans fr9.app)) w9)
 have b41 := d1.c4.blk
 have b71 := d1.c7.blk
 have ff := aI hk (aI hS (aI b41 (aI b71 (aI e4 e7))))
 refine runRp15_1 (x := ?_)
 clear ff
 refine SpecQ.step (c68 (d1.x.w.app _) (hs.s' _)) ?_
 rintro _ ⟨y2, κ2, H2', q2, rfl, hy2, w2, fr2⟩
 have d12 := d1.next fr2.app w2
 have c142 := c14.next fr2.app
 have k142 : κ2 G.length = 6 := by rw [fr2.app.old _ c14.lt]; exact k14
 have f2 : Fr κ G κ2 H2' := f1.trans fr2.app
 cases hI : hasP fI s.invites a.e
 rotate_left
 ·obtain ⟨_, _, hf⟩ := low_yes hs.i hI
  have hyf := hy2 _ hf
  rw [← hyf] at hf
  have hwho : whoOf s a.e = some y2.who := by simp [whoOf, hasP_fnd hS, hf]
  obtain ⟨hA, _⟩ := (apart ms a.e).2.1 hI
  have ff := aI hk hI
  refine runRp15_1 (x := ?_)
  clear ff
  obtain ⟨H2, hH2⟩ : ∃ H2, H2'.set G.length ⟨eBan ⟨y2.who, meOf s b⟩, 0, .own⟩ = H2 := ⟨_, rfl⟩
  have st14 : ∀ l v, (H2' ++ l).set G.length v = H2'.set G.length v ++ l := fun l v => set_appL c142.1 l v
  have b14 := c142.blk
  have ff := aI hk (aI b14 (aI st14 hH2))
  refine runRp15_1 (x := ?_)
  clear ff
  have d3 := d12.wr k142 (by omega) (by omega) (by omega) (by omega) (by omega) ⟨eBan ⟨y2.who, meOf s b⟩, 0, .own⟩
  have c14n := c142.set (eBan ⟨y2.who, meOf s b⟩)
  have f3 := f2.wr (p := G.length) (Nat.le_refl _) ⟨eBan ⟨y2.who, meOf s b⟩, 0, .own⟩
  rw [hH2] at d3 c14n f3
  have b62 := d3.c6.blk
  have b14n := c14n.blk
  by_cases h40 : 40 ≤ s.bans.length
  ·have hmd : madeP s b a = .error 9 := by simp [madeP, hk, hm, hb, h1, hwho, h40]
   have ff := aI hk (aI h40 (aI b62 (aI b14n e6)))
   refine runRp15_6 (x := ?_)
   clear ff
   exact hK _ (.err hmd (f0.trans (f3.trans (Fr.refl _ _).app)))
  have hmd : madeP s b a = .ok { s with seats := del fS s.seats a.e, invites := del fI s.invites a.e, asks := s.asks, bans := ins fB s.bans ⟨y2.who, meOf s b⟩ } := by simp [madeP, hk, hm, hb, h1, hwho, h40, del_no hA]
  have ff := aI hk (aI h40 (aI b62 (aI b14n e6)))
  refine runRp15_6 (x := ?_)
  clear ff
  refine SpecQ.step (c114 (x := ⟨y2.who, meOf s b⟩) (d3.x.w.app _) ((hs.s' _).i' _) (by simp only; omega)) ?_
  rintro _ ⟨_, κ9, H9, q9, rfl, w9, fr9⟩
  have ff := hk
  refine runRp15_1 (x := ?_)
  clear ff
  exact hK _ (.ok hmd (f0.trans (f3.trans fr9.app)) w9)
 have b52 := d12.c5.blk
 have b72 := d12.c7.blk
 have ff := aI hk (aI hI (aI b52 (aI b72 (aI e5 e7))))
 refine runRp15_1 (x := ?_)
 clear ff
 refine SpecQ.step (c69 (d12.x.w.app _) ((hs.s' _).i' _)) ?_
 rintro _ ⟨y3, κ3, H3', q3, rfl, hy3, w3, fr3⟩
 have d13 := d12.next fr3.app w3
 have c143 := c142.next fr3.app
 have k143 : κ3 G.length = 6 := by rw [fr3.app.old _ c142.lt]; exact k142
 have f4 : Fr κ G κ3 H3' := f2.trans fr3.app
 cases hA : hasP fA s.asks a.e
 ·have hwho : whoOf s a.e = none := by simp [whoOf, hasP_fnd hS, hasP_fnd hI, hasP_fnd hA]
  have hmd : madeP s b a = .error 7 := by simp [madeP, hk, hm, hb, h1, hwho]
  have ff := aI hk hA
  refine runRp15_1 (x := ?_)
  clear ff
  exact hK _ (.err hmd (f0.trans (f4.trans (Fr.refl _ _).app)))
 obtain ⟨_, _, hf⟩ := low_yes hs.a hA
 have hyf := hy3 _ hf
 rw [← hyf] at hf
 have hwho : whoOf s a.e = some y3.who := by simp [whoOf, hasP_fnd hS, hasP_fnd hI, hf]
 have ff := aI hk hA
 refine runRp15_1 (x := ?_)
 clear ff
 obtain ⟨H2, hH2⟩ : ∃ H2, H3'.set G.length ⟨eBan ⟨y3.who, meOf s b⟩, 0, .own⟩ = H2 := ⟨_, rfl⟩
 have st14 : ∀ l v, (H3' ++ l).set G.length v = H3'.set G.length v ++ l := fun l v => set_appL c143.1 l v
 have b14 := c143.blk
 have ff := aI hk (aI b14 (aI st14 hH2))
 refine runRp15_1 (x := ?_)
 clear ff
 have d3 := d13.wr k143 (by omega) (by omega) (by omega) (by omega) (by omega) ⟨eBan ⟨y3.who, meOf s b⟩, 0, .own⟩
 have c14n := c143.set (eBan ⟨y3.who, meOf s b⟩)
 have f3 := f4.wr (p := G.length) (Nat.le_refl _) ⟨eBan ⟨y3.who, meOf s b⟩, 0, .own⟩
 rw [hH2] at d3 c14n f3
 have b62 := d3.c6.blk
 have b14n := c14n.blk
 by_cases h40 : 40 ≤ s.bans.length
 ·have hmd : madeP s b a = .error 9 := by simp [madeP, hk, hm, hb, h1, hwho, h40]
  have ff := aI hk (aI h40 (aI b62 (aI b14n e6)))
  refine runRp15_6 (x := ?_)
  clear ff
  exact hK _ (.err hmd (f0.trans (f3.trans (Fr.refl _ _).app)))
 have hmd : madeP s b a = .ok { s with seats := del fS s.seats a.e, invites := del fI s.invites a.e, asks := del fA s.asks a.e, bans := ins fB s.bans ⟨y3.who, meOf s b⟩ } := by simp [madeP, hk, hm, hb, h1, hwho, h40]
 have ff := aI hk (aI h40 (aI b62 (aI b14n e6)))
 refine runRp15_6 (x := ?_)
 clear ff
 refine SpecQ.step (c114 (x := ⟨y3.who, meOf s b⟩) (d3.x.w.app _) (((hs.s' _).i' _).a' _) (by simp only; omega)) ?_
 rintro _ ⟨_, κ9, H9, q9, rfl, w9, fr9⟩
 have ff := hk
 refine runRp15_1 (x := ?_)
 clear ff
 exact hK _ (.ok hmd (f0.trans (f3.trans fr9.app)) w9)
end
end Go.Vab

/-
  A step is done: all kinds, joined.
-/
namespace Go.Vab
open Go Go.Proofs
theorem runRp16_0 {G X : Prop} (f : Hd X → G := by
 intro xX
 repeat' (first | refine stp (x := ?_) | (with_reducible refine bothP_i ?_ ?_) | (simp (decide := true) only [sn33, snB, if_true, if_false]) | (with_reducible refine n33_12_w _ _ _ ?_) | (with_reducible refine n33_51_w _ _ _ ?_) | (with_reducible refine n33_67_w _ _ _ ?_) | (with_reducible refine n33_77_w _ _ _ ?_) | (with_reducible refine n33_92_w _ _ _ ?_) | (with_reducible refine n33_101_w _ _ _ ?_) | (with_reducible refine n33_2_w _ _ _ ?_) | (with_reducible refine n33_1_w _ _ _ ?_))
 exact xX.get) (x : X) : G := f ⟨x⟩
section
variable {κ : Nat → Nat} {H : Heap} {c xb : Nat} {s : Stt} {b : Pt} {a : Actn} {m : BitVec 8} {vt vp vs vi va vb wt wp : AV}
theorem c80 (x : Sx κ H c xb s b a m vt vp vs vi va vb wt wp) (hs : Srt s) (ms : mayS s = true) (ok : Okd s b a) (hmm : m = roleOf s b)
  (hk : a.kind = 4#8 ∨ a.kind = 6#8 ∨ a.kind = 7#8 ∨ a.kind = 8#8 ∨ a.kind = 11#8 ∨ a.kind = 12#8 ∨ a.kind = 13#8 ∨ a.kind = 14#8 ∨ a.kind = 15#8 ∨ a.kind = 16#8 ∨ a.kind = 17#8 ∨ a.kind = 18#8) :
  SpecQ Tryz.prog 80 [.ptr xb 0 [] tLstep] H (DoR κ H c (madeP s b a)) := by
 refine q80 fun env g0 => ?_
 refine more_start x g0 fun κ' env' G p3 p4 p5 p6 p7 d f0 h6 hp7 h57 => ?_
 rcases hk with hk | hk | hk | hk | hk | hk | hk | hk | hk | hk | hk | hk
 ·exact more_4 d f0 hs ms ok hmm hk fun r h => h
 ·exact more_6 d f0 hs ms ok hmm hk fun r h => h
 ·exact more_7 d f0 hs ms ok hk fun r h => h
 ·exact more_8 d f0 hs ms ok hk fun r h => h
 ·exact more_11 d f0 hs ms ok h6 hp7 h57 hk fun r h => h
 ·exact more_12 d f0 hs ms ok hk fun r h => h
 ·exact more_13 d f0 hs ms ok hk fun r h => h
 ·exact more_14 d f0 hs ms ok hk fun r h => h
 ·exact more_15 d f0 hs ms ok hk fun r h => h
 ·exact more_16 d f0 hs ms ok hk fun r h => h
 ·exact more_17 d f0 hs ms ok hk fun r h => h
 ·exact more_18 d f0 hs ms ok hk fun r h => h
theorem DoR.nat {κ : Nat → Nat} {H : Heap} {c : Nat} {x : Except Nat Stt} {r : AV × Heap} (h : DoR κ H c x r) : ∃ k, r.1 = nat k ∧ (x = .error k ∨ ∃ t, x = .ok t ∧ k = 0) := by
 obtain ⟨κ', H', _, h⟩ := h
 cases x with
 | error k => exact ⟨k, by rw [h], .inl rfl⟩
 | ok t => exact ⟨0, by rw [h.1], .inr ⟨t, rfl, rfl⟩⟩
set_option maxHeartbeats 1000000 in
theorem c33 (x : Sx κ H c xb s b a m vt vp vs vi va vb wt wp) (hs : Srt s) (ms : mayS s = true) (ha : mayA a = true) (ok : Okd s b a) (hmm : m = roleOf s b) : SpecQ Tryz.prog 33 [.ptr xb 0 [] tLstep] H (DoR κ H c (madeP s b a)) := by
 refine q33 fun env g0 => ?_
 refine do_start x g0 fun env' u p3 p4 p5 p6 p7 d => ?_
 rcases mayA_kind ha with hk | hk | hk | hk | hk | hk | hk | hk | hk | hk | hk | hk | hk | hk | hk | hk | hk | hk
 ·exact do_1 d hs ms ok hk fun r h => h.app
 ·exact do_2 d hs ok hk fun r h => h.app
 ·exact do_3 d hs ms ok hk fun r h => h.app
 ·have sx0 := blk_of d.x.st
  have e0 := d.e0
  have ff := aI sx0 (aI hk e0)
  refine runRp16_0 (x := ?_)
  clear ff
  refine SpecQ.step (c80 d.x hs ms ok hmm (by simp [hk])) ?_
  rintro ⟨v, H'⟩ hr
  obtain ⟨k, hv, _⟩ := hr.nat
  subst hv
  have ff := hk
  refine runRp16_0 (x := ?_)
  clear ff
  exact hr.app
 ·exact do_5 d hs ms ok hk fun r h => h.app
 ·have sx0 := blk_of d.x.st
  have e0 := d.e0
  have ff := aI sx0 (aI hk e0)
  refine runRp16_0 (x := ?_)
  clear ff
  refine SpecQ.step (c80 d.x hs ms ok hmm (by simp [hk])) ?_
  rintro ⟨v, H'⟩ hr
  obtain ⟨k, hv, _⟩ := hr.nat
  subst hv
  have ff := hk
  refine runRp16_0 (x := ?_)
  clear ff
  exact hr.app
 ·have sx0 := blk_of d.x.st
  have e0 := d.e0
  have ff := aI sx0 (aI hk e0)
  refine runRp16_0 (x := ?_)
  clear ff
  refine SpecQ.step (c80 d.x hs ms ok hmm (by simp [hk])) ?_
  rintro ⟨v, H'⟩ hr
  obtain ⟨k, hv, _⟩ := hr.nat
  subst hv
  have ff := hk
  refine runRp16_0 (x := ?_)
  clear ff
  exact hr.app
 ·have sx0 := blk_of d.x.st
  have e0 := d.e0
  have ff := aI sx0 (aI hk e0)
  refine runRp16_0 (x := ?_)
  clear ff
  refine SpecQ.step (c80 d.x hs ms ok hmm (by simp [hk])) ?_
  rintro ⟨v, H'⟩ hr
  obtain ⟨k, hv, _⟩ := hr.nat
  subst hv
  have ff := hk
  refine runRp16_0 (x := ?_)
  clear ff
  exact hr.app
 ·exact do_9 d hs ms ok hk fun r h => h.app
 ·exact do_10 d hs ms ok hk fun r h => h.app
 ·have sx0 := blk_of d.x.st
  have e0 := d.e0
  have ff := aI sx0 (aI hk e0)
  refine runRp16_0 (x := ?_)
  clear ff
  refine SpecQ.step (c80 d.x hs ms ok hmm (by simp [hk])) ?_
  rintro ⟨v, H'⟩ hr
  obtain ⟨k, hv, _⟩ := hr.nat
  subst hv
  have ff := hk
  refine runRp16_0 (x := ?_)
  clear ff
  exact hr.app
 ·have sx0 := blk_of d.x.st
  have e0 := d.e0
  have ff := aI sx0 (aI hk e0)
  refine runRp16_0 (x := ?_)
  clear ff
  refine SpecQ.step (c80 d.x hs ms ok hmm (by simp [hk])) ?_
  rintro ⟨v, H'⟩ hr
  obtain ⟨k, hv, _⟩ := hr.nat
  subst hv
  have ff := hk
  refine runRp16_0 (x := ?_)
  clear ff
  exact hr.app
 ·have sx0 := blk_of d.x.st
  have e0 := d.e0
  have ff := aI sx0 (aI hk e0)
  refine runRp16_0 (x := ?_)
  clear ff
  refine SpecQ.step (c80 d.x hs ms ok hmm (by simp [hk])) ?_
  rintro ⟨v, H'⟩ hr
  obtain ⟨k, hv, _⟩ := hr.nat
  subst hv
  have ff := hk
  refine runRp16_0 (x := ?_)
  clear ff
  exact hr.app
 ·have sx0 := blk_of d.x.st
  have e0 := d.e0
  have ff := aI sx0 (aI hk e0)
  refine runRp16_0 (x := ?_)
  clear ff
  refine SpecQ.step (c80 d.x hs ms ok hmm (by simp [hk])) ?_
  rintro ⟨v, H'⟩ hr
  obtain ⟨k, hv, _⟩ := hr.nat
  subst hv
  have ff := hk
  refine runRp16_0 (x := ?_)
  clear ff
  exact hr.app
 ·have sx0 := blk_of d.x.st
  have e0 := d.e0
  have ff := aI sx0 (aI hk e0)
  refine runRp16_0 (x := ?_)
  clear ff
  refine SpecQ.step (c80 d.x hs ms ok hmm (by simp [hk])) ?_
  rintro ⟨v, H'⟩ hr
  obtain ⟨k, hv, _⟩ := hr.nat
  subst hv
  have ff := hk
  refine runRp16_0 (x := ?_)
  clear ff
  exact hr.app
 ·have sx0 := blk_of d.x.st
  have e0 := d.e0
  have ff := aI sx0 (aI hk e0)
  refine runRp16_0 (x := ?_)
  clear ff
  refine SpecQ.step (c80 d.x hs ms ok hmm (by simp [hk])) ?_
  rintro ⟨v, H'⟩ hr
  obtain ⟨k, hv, _⟩ := hr.nat
  subst hv
  have ff := hk
  refine runRp16_0 (x := ?_)
  clear ff
  exact hr.app
 ·have sx0 := blk_of d.x.st
  have e0 := d.e0
  have ff := aI sx0 (aI hk e0)
  refine runRp16_0 (x := ?_)
  clear ff
  refine SpecQ.step (c80 d.x hs ms ok hmm (by simp [hk])) ?_
  rintro ⟨v, H'⟩ hr
  obtain ⟨k, hv, _⟩ := hr.nat
  subst hv
  have ff := hk
  refine runRp16_0 (x := ?_)
  clear ff
  exact hr.app
 ·have sx0 := blk_of d.x.st
  have e0 := d.e0
  have ff := aI sx0 (aI hk e0)
  refine runRp16_0 (x := ?_)
  clear ff
  refine SpecQ.step (c80 d.x hs ms ok hmm (by simp [hk])) ?_
  rintro ⟨v, H'⟩ hr
  obtain ⟨k, hv, _⟩ := hr.nat
  subst hv
  have ff := hk
  refine runRp16_0 (x := ?_)
  clear ff
  exact hr.app
end
end Go.Vab

/- How the code of a function is read. Printed by wip/tools/gen2.py and gen3.py (own work). -/
namespace Go.Vab
open Go Go.Proofs
noncomputable section
def cx17 : Ctx := ⟨fun _ _ _ => none,TT,22,[7,12,13,14,15,16,17,19,20,21]⟩
def n17_0 := bodyOf Tryz.f17
def n17_1 := cR n17_0
def n17_2 := cL n17_1
def n17_3 := cR n17_2
def n17_4 := cB n17_3
def n17_5 := cB n17_4
def n17_6 := cR n17_5
def n17_7 := cL n17_6
def n17_8 := cL n17_7
def n17_9 := cR n17_7
def n17_10 := cR n17_6
def n17_11 := cL n17_10
def n17_12 := cB n17_11
def n17_13 := cR n17_12
def n17_14 := cR n17_13
def n17_15 := cL n17_14
def n17_16 := cR n17_15
def n17_17 := cR n17_14
def n17_18 := cR n17_10
def n17_19 := cR n17_1
def n17_20 := cR n17_19
def q17 := zQ2 cx17 17 Tryz.f17 n17_0 fun s => (bnd (some (s.env.get 4)) fun v => bnd (some []) fun vs => some (v :: vs))
set_option maxRecDepth 20000
set_option maxHeartbeats 4000000
def sn17 := zAll cx17 [[n17_8],[n17_9],[n17_8,n17_9,n17_7],[n17_16],[n17_16,n17_15],[n17_17],[n17_15,n17_17,n17_14],[n17_14,n17_13],[n17_13,n17_12],[n17_12,n17_11],[n17_18],[n17_11,n17_18,n17_10],[n17_7,n17_10,n17_6],[n17_6,n17_5],[n17_5,n17_4],[n17_4,n17_3],[n17_3,n17_2],[n17_20],[n17_20,n17_19],[n17_2,n17_19,n17_1],[n17_1,n17_0]]
end
end Go.Vab

/-
  The program's look at a state: somebody's role, walked.
-/
namespace Go.Vab
open Go Go.Proofs
theorem runRp1_0 {G X : Prop} (f : Hd X → G := by
 intro xX
 repeat' (first | refine stp (x := ?_) | (simp (decide := true) only [sn17, snB, if_true, if_false]))
 exact xX.get) (x : X) : G := f ⟨x⟩
section
variable {X : Type} (f : X → Pt)
theorem fnd_yes {l : List X} {e : Pt} {i : Nat} (hi : i < l.length) (hq : f l[i] = e) (hne : ∀ j (hj : j < l.length), j < i → f l[j] ≠ e) : fnd f l e = some l[i] := by
 unfold fnd
 rw [List.find?_eq_some_iff_getElem]
 exact ⟨by simp [hq], i, hi, rfl, fun j hj => by simp [hne j (by omega) hj]⟩
theorem fnd_no {l : List X} {e : Pt} (hne : ∀ j (hj : j < l.length), f l[j] ≠ e) : fnd f l e = none := by
 unfold fnd
 rw [List.find?_eq_none]
 intro x hx
 obtain ⟨j, hj, rfl⟩ := List.mem_iff_getElem.1 hx
 simp [hne j hj]
end
theorem c17 {h : Heap} {s : Stt} {vt vp vs vi va vb : AV} {e : Pt} (ra : StR h s vt vp vs vi va vb) : SpecQ Tryz.prog 17 [eSt s vt vp vs vi va vb, pt e] h fun r => r = (u8 (roleOf s e), h) := by
 have ta := ra.cells
 have lx := ra.fs.len
 have bx := ra.fs.bound
 rw [List.length_map] at lx bx
 refine SpecQ.drop1 rfl (q17 fun env g0 g1 => ?_)
 have ff := aI g0 (aI g1 (aI ta lx))
 refine runRp1_0 (x := ?_)
 clear ff
 refine loop_up s.seats.length (fun i st => ∃ env' t, st = ⟨env', h ++ ⟨eSt s vt vp vs vi va vb, 0, .own⟩ :: ⟨pt e, 0, .own⟩ :: t⟩ ∧ env'.get 2 = .ptr h.length 0 [] tState ∧ env'.get 3 = .ptr (h.length + 1) 0 [] (.arr 32 (.int .u8)) ∧ env'.get 8 = vs ∧ env'.get 9 = nat s.seats.length ∧ env'.get 10 = nat i ∧ ∀ j (hj : j < s.seats.length), j < i → fS s.seats[j] ≠ e) ?_ ?_ ⟨_, [], rfl, by simp, by simp, by simp, by simp, by simp, fun j _ hj => absurd hj (by omega)⟩
 ·rintro i st hi ⟨env', t, rfl, e2, e3, e8, e9, e10, hne⟩
  obtain ⟨pb, pv, pp, bb, p1, p2, p3, p4⟩ := ra.fs.idxE hi
  by_cases hq : s.seats[i].who.e = e
  ·have ff := aI e2 (aI e3 (aI e8 (aI e9 (aI e10 (aI ta (aI lx (aI hi (aI p1 (aI p2 (aI p3 (aI p4 hq)))))))))))
   refine runRp1_0 (x := ?_)
   clear ff
   refine .inr ⟨by simp, ?_⟩
   have ff := e10
   refine runRp1_0 (x := ?_)
   clear ff
   exact ⟨_, (by simp only [roleOf, fnd_yes fS hi hq hne]; rfl)⟩
  ·have ff := aI e2 (aI e3 (aI e8 (aI e9 (aI e10 (aI ta (aI lx (aI hi (aI p1 (aI p2 (aI p3 (aI p4 hq)))))))))))
   refine runRp1_0 (x := ?_)
   clear ff
   refine .inl ⟨by simp, _, _, rfl, by simp [e2], by simp [e3], by simp [e8], by simp [e9], by simp, fun j hj hji => ?_⟩
   by_cases hji' : j = i
   ·subst hji'; exact hq
   ·exact hne j hj (by omega)
 ·rintro st ⟨env', t, rfl, e2, e3, e8, e9, e10, hne⟩
  have ff := aI e2 (aI e8 (aI e9 (aI e10 (aI lx ta))))
  refine runRp1_0 (x := ?_)
  clear ff
  refine ⟨by simp, ?_⟩
  have ff := e2
  refine runRp1_0 (x := ?_)
  clear ff
  exact ⟨_, (by simp only [roleOf, fnd_no fS fun j hj => hne j hj hj]; rfl)⟩
end Go.Vab

/- How the code of a function is read. Printed by wip/tools/gen2.py and gen3.py (own work). -/
namespace Go.Vab
open Go Go.Proofs
noncomputable section
def cx59 : Ctx := ⟨fun _ _ _ => none,TT,8,[3,5,6,7]⟩
def n59_0 := bodyOf Tryz.f59
def n59_1 := cR n59_0
def n59_2 := cL n59_1
def n59_3 := cR n59_2
def n59_4 := cL n59_3
def n59_5 := cR n59_4
def n59_6 := cR n59_3
def n59_7 := cR n59_1
def n59_8 := cR n59_7
def q59 := zQ1 cx59 59 Tryz.f59 n59_0 fun s => (bnd (some (s.env.get 2)) fun v => bnd (some []) fun vs => some (v :: vs))
set_option maxRecDepth 20000
set_option maxHeartbeats 4000000
def sn59 := zAll cx59 [[n59_5],[n59_5,n59_4],[n59_6],[n59_4,n59_6,n59_3],[n59_3,n59_2],[n59_8],[n59_8,n59_7],[n59_2,n59_7,n59_1],[n59_1,n59_0]]
end
end Go.Vab

/- How the code of a function is read. Printed by wip/tools/gen2.py and gen3.py (own work). -/
namespace Go.Vab
open Go Go.Proofs
noncomputable section
def cx60 : Ctx := ⟨fun _ _ _ => none,TT,8,[3,5,6,7]⟩
def n60_0 := bodyOf Tryz.f60
def n60_1 := cR n60_0
def n60_2 := cL n60_1
def n60_3 := cR n60_2
def n60_4 := cL n60_3
def n60_5 := cR n60_4
def n60_6 := cR n60_3
def n60_7 := cR n60_1
def n60_8 := cR n60_7
def q60 := zQ1 cx60 60 Tryz.f60 n60_0 fun s => (bnd (some (s.env.get 2)) fun v => bnd (some []) fun vs => some (v :: vs))
set_option maxRecDepth 20000
set_option maxHeartbeats 4000000
def sn60 := zAll cx60 [[n60_5],[n60_5,n60_4],[n60_6],[n60_4,n60_6,n60_3],[n60_3,n60_2],[n60_8],[n60_8,n60_7],[n60_2,n60_7,n60_1],[n60_1,n60_0]]
end
end Go.Vab

/- How the code of a function is read. Printed by wip/tools/gen2.py and gen3.py (own work). -/
namespace Go.Vab
open Go Go.Proofs
noncomputable section
def cx61 : Ctx := ⟨fun _ _ _ => none,TT,8,[3,5,6,7]⟩
def n61_0 := bodyOf Tryz.f61
def n61_1 := cR n61_0
def n61_2 := cL n61_1
def n61_3 := cR n61_2
def n61_4 := cL n61_3
def n61_5 := cR n61_4
def n61_6 := cR n61_3
def n61_7 := cR n61_1
def n61_8 := cR n61_7
def q61 := zQ1 cx61 61 Tryz.f61 n61_0 fun s => (bnd (some (s.env.get 2)) fun v => bnd (some []) fun vs => some (v :: vs))
set_option maxRecDepth 20000
set_option maxHeartbeats 4000000
def sn61 := zAll cx61 [[n61_5],[n61_5,n61_4],[n61_6],[n61_4,n61_6,n61_3],[n61_3,n61_2],[n61_8],[n61_8,n61_7],[n61_2,n61_7,n61_1],[n61_1,n61_0]]
end
end Go.Vab

/- How the code of a function is read. Printed by wip/tools/gen2.py and gen3.py (own work). -/
namespace Go.Vab
open Go Go.Proofs
noncomputable section
def cx62 : Ctx := ⟨fun _ _ _ => none,TT,8,[3,5,6,7]⟩
def n62_0 := bodyOf Tryz.f62
def n62_1 := cR n62_0
def n62_2 := cL n62_1
def n62_3 := cR n62_2
def n62_4 := cL n62_3
def n62_5 := cR n62_4
def n62_6 := cR n62_3
def n62_7 := cR n62_1
def n62_8 := cR n62_7
def q62 := zQ1 cx62 62 Tryz.f62 n62_0 fun s => (bnd (some (s.env.get 2)) fun v => bnd (some []) fun vs => some (v :: vs))
set_option maxRecDepth 20000
set_option maxHeartbeats 4000000
def sn62 := zAll cx62 [[n62_5],[n62_5,n62_4],[n62_6],[n62_4,n62_6,n62_3],[n62_3,n62_2],[n62_8],[n62_8,n62_7],[n62_2,n62_7,n62_1],[n62_1,n62_0]]
end
end Go.Vab

/- How the code of a function is read. Printed by wip/tools/gen2.py and gen3.py (own work). -/
namespace Go.Vab
open Go Go.Proofs
noncomputable section
def cx31 : Ctx := ⟨fun _ _ _ => none,TT,8,[3,5,6,7]⟩
def n31_0 := bodyOf Tryz.f31
def n31_1 := cR n31_0
def n31_2 := cL n31_1
def n31_3 := cR n31_2
def n31_4 := cL n31_3
def n31_5 := cR n31_4
def n31_6 := cR n31_3
def n31_7 := cR n31_1
def n31_8 := cR n31_7
def q31 := zQ1 cx31 31 Tryz.f31 n31_0 fun s => (bnd (some (s.env.get 2)) fun v => bnd (some []) fun vs => some (v :: vs))
set_option maxRecDepth 20000
set_option maxHeartbeats 4000000
def sn31 := zAll cx31 [[n31_5],[n31_5,n31_4],[n31_6],[n31_4,n31_6,n31_3],[n31_3,n31_2],[n31_8],[n31_8,n31_7],[n31_2,n31_7,n31_1],[n31_1,n31_0]]
end
end Go.Vab

/- How the code of a function is read. Printed by wip/tools/gen2.py and gen3.py (own work). -/
namespace Go.Vab
open Go Go.Proofs
noncomputable section
def cx30 : Ctx := ⟨fun _ _ _ => none,TT,28,[3,4,5,6,7,8,9,10,11,12,13,14,15,16,17,18,19,20,21,22,23,24,25,26,27]⟩
def n30_0 := bodyOf Tryz.f30
def n30_1 := cR n30_0
def n30_2 := cR n30_1
def n30_3 := cR n30_2
def n30_4 := cR n30_3
def q30 := zQ1 cx30 30 Tryz.f30 n30_0 fun s => (bnd (mLoad tState (s.env.get 2) s.heap) fun v => bnd (some []) fun vs => some (v :: vs))
set_option maxRecDepth 20000
set_option maxHeartbeats 4000000
def n30_2_w := zDr cx30 [n30_3,n30_2] [2,5,8,11,13,15,17,19] [0,1,3,0,8,31,0,64,255,0,512,2047,1759,8191,16383,32767,65535,131071,262143,524287] [0,1,3,4,6,7,9,10] (.o 2 [12] [4,7,10] (.o 5 [] [7,10] (.o 8 [] [10] (.o 11 [] [] (.o 13 [14] [] (.o 15 [16] [] (.o 17 [18] [] (.o 19 [] [] .f))))))))
def n30_1_w := zDr cx30 [n30_2,n30_1] [2,5,7,9] [0,1,3,0,8,31,31,127,255,511] [0,1,3,4] (.o 2 [6] [4] (.o 5 [] [] (.o 7 [8] [] (.o 9 [] [] .f))))
def sn30 := zAll cx30 [[n30_4],[n30_4,n30_3],[n30_1,n30_0]]
end
end Go.Vab

/-
  Clones; a state in memory of its own; walked.
-/
namespace Go.Vab
open Go Go.Proofs
theorem runRp17_0 {G X : Prop} (f : Hd X → G := by
 intro xX
 repeat' (first | refine stp (x := ?_) | (simp (decide := true) only [sn59, snB, if_true, if_false]))
 exact xX.get) (x : X) : G := f ⟨x⟩
theorem runRp17_1 {G X : Prop} (f : Hd X → G := by
 intro xX
 repeat' (first | refine stp (x := ?_) | (simp (decide := true) only [sn60, snB, if_true, if_false]))
 exact xX.get) (x : X) : G := f ⟨x⟩
theorem runRp17_2 {G X : Prop} (f : Hd X → G := by
 intro xX
 repeat' (first | refine stp (x := ?_) | (simp (decide := true) only [sn61, snB, if_true, if_false]))
 exact xX.get) (x : X) : G := f ⟨x⟩
theorem runRp17_3 {G X : Prop} (f : Hd X → G := by
 intro xX
 repeat' (first | refine stp (x := ?_) | (simp (decide := true) only [sn62, snB, if_true, if_false]))
 exact xX.get) (x : X) : G := f ⟨x⟩
theorem runRp17_4 {G X : Prop} (f : Hd X → G := by
 intro xX
 repeat' (first | refine stp (x := ?_) | (simp (decide := true) only [sn31, snB, if_true, if_false]))
 exact xX.get) (x : X) : G := f ⟨x⟩
theorem runRp17_5 {G X : Prop} (f : Hd X → G := by
 intro xX
 repeat' (first | refine stp (x := ?_) | (simp (decide := true) only [sn30, snB, if_true, if_false]) | (with_reducible refine n30_2_w _ _ _ ?_) | (with_reducible refine n30_1_w _ _ _ ?_))
 exact xX.get) (x : X) : G := f ⟨x⟩
theorem slice_or {t : Ty} {h : Heap} {x : AV} {vs : List AV} (hx : Row t h x vs) : x = .nilslice ∨ (mBinS .eql x .nilslice = some (.bool false)) := by
 have h2 := hx.2.1
 cases x with
 | nilslice => exact .inl rfl
 | slice i ver path t' off len cap => exact .inr rfl
 | _ => exact h2.elim
theorem bslice_or {h : Heap} {x : AV} {l : Bs} (hx : BytL h x l) : (x = .nilslice ∧ l = []) ∨ (mBinS .eql x .nilslice = some (.bool false)) := by
 have h2 := hx.1.2
 cases x with
 | nilslice => exact .inl ⟨rfl, List.eq_nil_of_length_eq_zero h2⟩
 | slice i ver path t' off len cap => exact .inr rfl
 | _ => unfold slOk at h2; simp at h2
theorem c59 {κ : Nat → Nat} {k : Nat} {H : Heap} {x : AV} {l : List Seat} (hx : Row tSeat H x (l.map eSeat)) (hl : l.length ≤ 1000) (top : ∀ i, H.length ≤ i → κ i = 0) : SpecQ Tryz.prog 59 [x] H fun r => ∃ x' H' κ', r = (x', H') ∧ KRow κ' k tSeat eSeat H' x' l ∧ Chg κ k H κ' H' := by
 refine q59 fun env g0 => ?_
 rcases slice_or hx with rfl | hn
 ·have hl0 : l = [] := by have := hx.2.1; simp only [rowOk, List.length_map] at this; exact List.eq_nil_of_length_eq_zero this
  subst hl0
  have ff := g0
  refine runRp17_0 (x := ?_)
  clear ff
  refine ⟨_, H, κ, rfl, ⟨by simp, .inl ⟨rfl, hx, rfl, fun b hb => by cases hb⟩⟩, Nat.le_refl _, fun _ _ => rfl, fun _ _ _ => rfl, fun h => h⟩
 ·have ff := aI g0 hn
  refine runRp17_0 (x := ?_)
  clear ff
  refine clone_k (k := k) (E := eSeat) (t := tSeat) (z := (⟨ci0, 0#8, 0#32⟩ : Seat)) (fun _ => rfl) top (hx.app _).1 hl ?_ fun x' H' κ' w1 w2 => ?_
  ·decide
  have ff := g0
  refine runRp17_0 (x := ?_)
  clear ff
  exact ⟨x', H', κ', rfl, w1, w2⟩
theorem c60 {κ : Nat → Nat} {k : Nat} {H : Heap} {x : AV} {l : List Inv} (hx : Row tInvite H x (l.map eInv)) (hl : l.length ≤ 1000) (top : ∀ i, H.length ≤ i → κ i = 0) : SpecQ Tryz.prog 60 [x] H fun r => ∃ x' H' κ', r = (x', H') ∧ KRow κ' k tInvite eInv H' x' l ∧ Chg κ k H κ' H' := by
 refine q60 fun env g0 => ?_
 rcases slice_or hx with rfl | hn
 ·have hl0 : l = [] := by have := hx.2.1; simp only [rowOk, List.length_map] at this; exact List.eq_nil_of_length_eq_zero this
  subst hl0
  have ff := g0
  refine runRp17_1 (x := ?_)
  clear ff
  refine ⟨_, H, κ, rfl, ⟨by simp, .inl ⟨rfl, hx, rfl, fun b hb => by cases hb⟩⟩, Nat.le_refl _, fun _ _ => rfl, fun _ _ _ => rfl, fun h => h⟩
 ·have ff := aI g0 hn
  refine runRp17_1 (x := ?_)
  clear ff
  refine clone_k (k := k) (E := eInv) (t := tInvite) (z := (⟨ci0, 0#8, ci0⟩ : Inv)) (fun _ => rfl) top (hx.app _).1 hl ?_ fun x' H' κ' w1 w2 => ?_
  ·decide
  have ff := g0
  refine runRp17_1 (x := ?_)
  clear ff
  exact ⟨x', H', κ', rfl, w1, w2⟩
theorem c61 {κ : Nat → Nat} {k : Nat} {H : Heap} {x : AV} {l : List Ask} (hx : Row tAsk H x (l.map eAsk)) (hl : l.length ≤ 1000) (top : ∀ i, H.length ≤ i → κ i = 0) : SpecQ Tryz.prog 61 [x] H fun r => ∃ x' H' κ', r = (x', H') ∧ KRow κ' k tAsk eAsk H' x' l ∧ Chg κ k H κ' H' := by
 refine q61 fun env g0 => ?_
 rcases slice_or hx with rfl | hn
 ·have hl0 : l = [] := by have := hx.2.1; simp only [rowOk, List.length_map] at this; exact List.eq_nil_of_length_eq_zero this
  subst hl0
  have ff := g0
  refine runRp17_2 (x := ?_)
  clear ff
  refine ⟨_, H, κ, rfl, ⟨by simp, .inl ⟨rfl, hx, rfl, fun b hb => by cases hb⟩⟩, Nat.le_refl _, fun _ _ => rfl, fun _ _ _ => rfl, fun h => h⟩
 ·have ff := aI g0 hn
  refine runRp17_2 (x := ?_)
  clear ff
  refine clone_k (k := k) (E := eAsk) (t := tAsk) (z := (⟨ci0, 0#32⟩ : Ask)) (fun _ => rfl) top (hx.app _).1 hl ?_ fun x' H' κ' w1 w2 => ?_
  ·decide
  have ff := g0
  refine runRp17_2 (x := ?_)
  clear ff
  exact ⟨x', H', κ', rfl, w1, w2⟩
theorem c62 {κ : Nat → Nat} {k : Nat} {H : Heap} {x : AV} {l : List Ban} (hx : Row tBan H x (l.map eBan)) (hl : l.length ≤ 1000) (top : ∀ i, H.length ≤ i → κ i = 0) : SpecQ Tryz.prog 62 [x] H fun r => ∃ x' H' κ', r = (x', H') ∧ KRow κ' k tBan eBan H' x' l ∧ Chg κ k H κ' H' := by
 refine q62 fun env g0 => ?_
 rcases slice_or hx with rfl | hn
 ·have hl0 : l = [] := by have := hx.2.1; simp only [rowOk, List.length_map] at this; exact List.eq_nil_of_length_eq_zero this
  subst hl0
  have ff := g0
  refine runRp17_3 (x := ?_)
  clear ff
  refine ⟨_, H, κ, rfl, ⟨by simp, .inl ⟨rfl, hx, rfl, fun b hb => by cases hb⟩⟩, Nat.le_refl _, fun _ _ => rfl, fun _ _ _ => rfl, fun h => h⟩
 ·have ff := aI g0 hn
  refine runRp17_3 (x := ?_)
  clear ff
  refine clone_k (k := k) (E := eBan) (t := tBan) (z := (⟨ci0, ci0⟩ : Ban)) (fun _ => rfl) top (hx.app _).1 hl ?_ fun x' H' κ' w1 w2 => ?_
  ·decide
  have ff := g0
  refine runRp17_3 (x := ?_)
  clear ff
  exact ⟨x', H', κ', rfl, w1, w2⟩
theorem c31 {H : Heap} {x : AV} {l : Bs} (hx : BytL H x l) : SpecQ Tryz.prog 31 [x] H fun r => ∃ y t, r = (y, H ++ t) ∧ BytO (H ++ t) y l ∧ ∀ b, rb y = some b → H.length ≤ b := by
 refine q31 fun env g0 => ?_
 rcases bslice_or hx with ⟨rfl, rfl⟩ | hn
 ·have ff := g0
  refine runRp17_4 (x := ?_)
  clear ff
  exact ⟨_, [], by simp [oneOrTuple], ⟨BytL.nil _, fun b hb => by cases hb⟩, fun b hb => by cases hb⟩
 ·have ff := aI g0 hn
  refine runRp17_4 (x := ?_)
  clear ff
  refine copyO (by simp) (by simp [mElems_slc]) (hx.app _) (Nat.le_refl _) fun y e f o => ?_
  have ff := g0
  refine runRp17_4 (x := ?_)
  clear ff
  exact ⟨y, _, rfl, ⟨f.at_ rfl, o⟩, f.rb_ge⟩
set_option maxHeartbeats 4000000 in
theorem c30 {κ : Nat → Nat} {H : Heap} {s : Stt} {vt vp vs vi va vb : AV} (ra : StR H s vt vp vs vi va vb) (top : ∀ i, H.length ≤ i → κ i = 0) (hz : ∀ i, i < H.length → κ i = 0 ∨ 6 ≤ κ i) (l1 : s.seats.length ≤ 1000) (l2 : s.invites.length ≤ 1000) (l3 : s.asks.length ≤ 1000) (l4 : s.bans.length ≤ 1000) :
  SpecQ Tryz.prog 30 [eSt s vt vp vs vi va vb] H fun r => ∃ κ' H' ut up us ui ua ub, r = (eSt s ut up us ui ua ub, H') ∧ Wp κ' H' s ut up us ui ua ub ∧ Fr κ H κ' H' := by
 have ta := ra.cells
 have lt := ra.rb_lt
 refine q30 fun env g0 => ?_
 have ff := aI g0 ta
 refine runRp17_5 (x := ?_)
 clear ff
 refine SpecQ.step (c31 (ra.ft.app _)) ?_
 rintro _ ⟨ut, t1, rfl, f1, r1⟩
 have y1 := f1.cell
 simp only [List.append_assoc, List.cons_append, List.nil_append] at f1 ⊢
 have ff := aI g0 (aI ta y1)
 refine runRp17_5 (x := ?_)
 clear ff
 refine SpecQ.step (c31 (ra.fp.app _)) ?_
 rintro _ ⟨up, t2, rfl, f2, r2⟩
 have y2 := f2.cell
 simp only [List.append_assoc, List.cons_append, List.nil_append] at f2 ⊢
 have ff := aI g0 (aI ta (aI y1 y2))
 refine runRp17_5 (x := ?_)
 clear ff
 obtain ⟨G, hG⟩ : ∃ G, G = H ++ ⟨eStH s.version s.key s.acc ut up vs vi va vb, 0, .own⟩ :: ⟨eStH 0#32 ci0 acc0 .nilslice .nilslice .nilslice .nilslice .nilslice .nilslice, 0, .own⟩ :: (t1 ++ t2) := ⟨_, rfl⟩
 rw [← hG]
 have gl : G.length = H.length + (2 + (t1 ++ t2).length) := by rw [hG]; simp; omega
 obtain ⟨κ1, hκ⟩ : ∃ κ1 : Nat → Nat, κ1 = fun i => if i = H.length ∨ i = H.length + 1 then 6 else if H.length ≤ i ∧ i < G.length then 7 else κ i := ⟨_, rfl⟩
 have kold : ∀ i, i < H.length → κ1 i = κ i := fun i hi => by rw [hκ]; simp only; rw [if_neg (by omega), if_neg (by omega)]
 have k0 : κ1 H.length = 6 := by rw [hκ]; simp
 have k1 : κ1 (H.length + 1) = 6 := by rw [hκ]; simp
 have kb : ∀ i, H.length + 2 ≤ i → i < G.length → κ1 i = 7 := fun i h1 h2 => by rw [hκ]; simp only; rw [if_neg (by omega), if_pos (by omega)]
 have top1 : ∀ i, G.length ≤ i → κ1 i = 0 := fun i hi => by rw [hκ]; simp only; rw [if_neg (by omega), if_neg (by omega)]; exact top i (by omega)
 have fr0 : Fr κ H κ1 G := ⟨by omega, kold, fun i hi _ => by rw [hG, List.getElem?_append_left hi]⟩
 have cell0 : G[H.length]? = some ⟨eStH s.version s.key s.acc ut up vs vi va vb, 0, .own⟩ := by rw [hG]; simp
 have cell1 : G[H.length + 1]? = some ⟨eStH 0#32 ci0 acc0 .nilslice .nilslice .nilslice .nilslice .nilslice .nilslice, 0, .own⟩ := by rw [hG, List.getElem?_append_right (by omega)]; simp
 have ft : BytO G ut s.title := by
  refine (f1.app t2).other fun b hb => ?_
  have hb2 := r1 b hb
  simp only [List.length_append, List.length_cons, List.length_nil] at hb2
  have e : ∀ c0 c1 : Blk, H ++ c0 :: c1 :: t1 ++ t2 = H ++ ([] ++ c0 :: (c1 :: (t1 ++ t2))) := fun c0 c1 => by simp
  rw [hG, e]
  exact cell_ne (A := []) (by simp; omega)
 have fp : BytO G up s.pass := by
  refine f2.other fun b hb => ?_
  have hb2 := r2 b hb
  simp only [List.length_append, List.length_cons] at hb2
  rw [hG]
  exact cell_ne (A := []) (by simp; omega)
 have kt : ∀ b, rb ut = some b → κ1 b = 7 := fun b hb => kb b (by have := r1 b hb; simp only [List.length_append, List.length_cons, List.length_nil] at this; omega) (ft.rb_lt' b hb)
 have kp : ∀ b, rb up = some b → κ1 b = 7 := fun b hb => kb b (by have := r2 b hb; simp only [List.length_append, List.length_cons] at this; omega) (fp.rb_lt' b hb)
 have rG : StR G s vt vp vs vi va vb := ra.other fun y hy b hb => by rw [hG, List.getElem?_append_left (lt y hy b hb)]
 have nk : ∀ y ∈ [vt, vp, vs, vi, va, vb], ∀ b, rb y = some b → κ1 b = 0 ∨ 6 ≤ κ1 b := fun y hy b hb => by rw [kold b (lt y hy b hb)]; exact hz b (lt y hy b hb)
 refine SpecQ.step (c59 (k := 2) rG.fs l1 top1) ?_
 rintro _ ⟨us, H1, κ2, rfl, ks, ch1⟩
 have g1 : Fr κ1 G κ2 H1 := ch1.fr (by decide)
 have b1 := blk_of (g1.blk cell0 (.inr (by rw [k0]; decide)))
 have ff := b1
 refine runRp17_5 (x := ?_)
 clear ff
 refine SpecQ.step (c60 (k := 3) (rG.fi.fr g1 (nk vi (by simp))) l2 (ch1.top top1)) ?_
 rintro _ ⟨ui, H2, κ3, rfl, ki, ch2⟩
 have g2 : Fr κ1 G κ3 H2 := g1.trans (ch2.fr (by decide))
 have b2 := blk_of (g2.blk cell0 (.inr (by rw [k0]; decide)))
 have ff := b2
 refine runRp17_5 (x := ?_)
 clear ff
 refine SpecQ.step (c61 (k := 4) (rG.fa.fr g2 (nk va (by simp))) l3 (ch2.top (ch1.top top1))) ?_
 rintro _ ⟨ua, H3, κ4, rfl, ka, ch3⟩
 have g3 : Fr κ1 G κ4 H3 := g2.trans (ch3.fr (by decide))
 have b3 := blk_of (g3.blk cell0 (.inr (by rw [k0]; decide)))
 have ff := b3
 refine runRp17_5 (x := ?_)
 clear ff
 refine SpecQ.step (c62 (k := 5) (rG.fb.fr g3 (nk vb (by simp))) l4 (ch3.top (ch2.top (ch1.top top1)))) ?_
 rintro _ ⟨ub, H4, κ5, rfl, kbn, ch4⟩
 have g4 : Fr κ1 G κ5 H4 := g3.trans (ch4.fr (by decide))
 have q4 := g4.blk cell0 (.inr (by rw [k0]; decide))
 have q5 := g4.blk cell1 (.inr (by rw [k1]; decide))
 have b4 := blk_of q4
 have bs : ∀ v, blkAt (H4.set H.length ⟨v, 0, .own⟩) H.length 0 = some ⟨v, 0, .own⟩ := fun v => blk_of (List.getElem?_set_self (List.getElem?_eq_some_iff.1 q4).1)
 have bs1 : ∀ v, blkAt (H4.set H.length v) (H.length + 1) 0 = some ⟨eStH 0#32 ci0 acc0 .nilslice .nilslice .nilslice .nilslice .nilslice .nilslice, 0, .own⟩ := fun v => blk_of (by rw [List.getElem?_set_ne (by omega)]; exact q5)
 have l5 : H.length + 1 < (H4.set H.length (⟨eSt s ut up us ui ua ub, 0, .own⟩ : Blk)).length := by rw [List.length_set]; exact (List.getElem?_eq_some_iff.1 q5).1
 have bs2 : ∀ v : AV, blkAt ((H4.set H.length ⟨eSt s ut up us ui ua ub, 0, .own⟩).set (H.length + 1) ⟨v, 0, .own⟩) (H.length + 1) 0 = some ⟨v, 0, .own⟩ := fun v => blk_of (List.getElem?_set_self l5)
 have x1 := ks.cell
 have x2 := ki.cell
 have x3 := ka.cell
 have x4 := kbn.cell
 have ff := aI b4 (aI bs (aI bs1 (aI bs2 (aI ta (aI y1 (aI y2 (aI x1 (aI x2 (aI x3 x4)))))))))
 refine runRp17_5 (x := ?_)
 clear ff
 have kk : κ5 H.length = 6 := (g4.old _ (by omega)).trans k0
 have kk1 : κ5 (H.length + 1) = 6 := (g4.old _ (by omega)).trans k1
 have wp : Wp κ5 H4 s ut up us ui ua ub := ⟨ch4.top (ch3.top (ch2.top (ch1.top top1))), ft.fr g4 (fun b hb => .inr (by rw [kt b hb]; decide)), fp.fr g4 (fun b hb => .inr (by rw [kp b hb]; decide)), fun b hb => (g4.old b (ft.rb_lt' b hb)).trans (kt b hb), fun b hb => (g4.old b (fp.rb_lt' b hb)).trans (kp b hb),
  ((ks.chg ch2 (by decide) (by decide)).chg ch3 (by decide) (by decide)).chg ch4 (by decide) (by decide), (ki.chg ch3 (by decide) (by decide)).chg ch4 (by decide) (by decide), ka.chg ch4 (by decide) (by decide), kbn⟩
 exact ⟨κ5, _, ut, up, us, ui, ua, ub, rfl, (wp.wr (.inl kk) _).wr (.inl kk1) _, ((fr0.trans g4).wr (Nat.le_refl _) _).wr (by omega) _⟩
end Go.Vab

/- How the code of a function is read. Printed by wip/tools/gen2.py and gen3.py (own work). -/
namespace Go.Vab
open Go Go.Proofs
noncomputable section
def cx32 : Ctx := ⟨fun _ _ _ => none,TT,78,[4,5,6,7,10,11,12,13,14,15,16,17,18,19,20,21,22,23,24,26,27,28,29,30,31,32,33,35,36,37,38,39,40,41,42,43,45,46,48,49,50,52,53,54,55,56,57,58,59,60,61,62,63,65,66,67,68,69,70,71,72,73,74,75,76]⟩
def n32_0 := bodyOf Tryz.f32
def n32_1 := cR n32_0
def n32_2 := cR n32_1
def n32_3 := cL n32_2
def n32_4 := cR n32_3
def n32_5 := cB n32_4
def n32_6 := cL n32_5
def n32_7 := cR n32_6
def n32_8 := cL n32_7
def n32_9 := cR n32_7
def n32_10 := cR n32_9
def n32_11 := cL n32_10
def n32_12 := cR n32_10
def n32_13 := cR n32_5
def n32_14 := cL n32_13
def n32_15 := cL n32_14
def n32_16 := cR n32_15
def n32_17 := cL n32_16
def n32_18 := cR n32_17
def n32_19 := cR n32_16
def n32_20 := cR n32_14
def n32_21 := cR n32_13
def n32_22 := cR n32_21
def n32_23 := cL n32_22
def n32_24 := cR n32_22
def n32_25 := cL n32_24
def n32_26 := cR n32_25
def n32_27 := cL n32_26
def n32_28 := cR n32_26
def n32_29 := cR n32_24
def n32_30 := cL n32_29
def n32_31 := cR n32_29
def n32_32 := cL n32_31
def n32_33 := cR n32_32
def n32_34 := cL n32_33
def n32_35 := cR n32_33
def n32_36 := cR n32_35
def n32_37 := cL n32_36
def n32_38 := cR n32_36
def n32_39 := cR n32_31
def n32_40 := cL n32_39
def n32_41 := cR n32_40
def n32_42 := cR n32_39
def n32_43 := cL n32_42
def n32_44 := cR n32_43
def n32_45 := cL n32_44
def n32_46 := cR n32_44
def n32_47 := cR n32_42
def n32_48 := cL n32_47
def n32_49 := cL n32_48
def n32_50 := cR n32_49
def n32_51 := cL n32_50
def n32_52 := cR n32_51
def n32_53 := cR n32_50
def n32_54 := cR n32_48
def n32_55 := cR n32_54
def n32_56 := cR n32_47
def n32_57 := cR n32_2
def n32_58 := cL n32_57
def n32_59 := cR n32_58
def n32_60 := cL n32_59
def n32_61 := cR n32_60
def n32_62 := cR n32_59
def n32_63 := cR n32_57
def n32_64 := cR n32_63
def q32 := zQ1 cx32 32 Tryz.f32 n32_0 fun s => (bnd (some (s.env.get 2)) fun v => bnd (some []) fun vs => some (v :: vs))
set_option maxRecDepth 20000
set_option maxHeartbeats 4000000
def n32_49_w := zDr cx32 [n32_50,n32_49] [] [0,1,3,7,15,31,0,64,192,448,1023] [0,1,2,3,4,5,6,7,8,9,10] .f
def sn32 := zAll cx32 [[n32_8],[n32_11],[n32_12],[n32_11,n32_12,n32_10],[n32_10,n32_9],[n32_8,n32_9,n32_7],[n32_7,n32_6],[n32_18],[n32_18,n32_17],[n32_19],[n32_17,n32_19,n32_16],[n32_16,n32_15],[n32_20],[n32_15,n32_20,n32_14],[n32_23],[n32_27],[n32_28],[n32_27,n32_28,n32_26],[n32_26,n32_25],[n32_30],[n32_34],[n32_37],[n32_38],[n32_37,n32_38,n32_36],[n32_36,n32_35],[n32_34,n32_35,n32_33],[n32_33,n32_32],[n32_41],[n32_41,n32_40],[n32_45],[n32_46],[n32_45,n32_46,n32_44],[n32_44,n32_43],[n32_52],[n32_52,n32_51],[n32_53],[n32_51,n32_53,n32_50],[n32_55],[n32_55,n32_54],[n32_49,n32_54,n32_48],[n32_56],[n32_48,n32_56,n32_47],[n32_43,n32_47,n32_42],[n32_40,n32_42,n32_39],[n32_32,n32_39,n32_31],[n32_30,n32_31,n32_29],[n32_25,n32_29,n32_24],[n32_23,n32_24,n32_22],[n32_22,n32_21],[n32_14,n32_21,n32_13],[n32_6,n32_13,n32_5],[n32_5,n32_4],[n32_4,n32_3],[n32_61],[n32_61,n32_60],[n32_62],[n32_60,n32_62,n32_59],[n32_59,n32_58],[n32_64],[n32_64,n32_63],[n32_58,n32_63,n32_57],[n32_3,n32_57,n32_2],[n32_2,n32_1],[n32_1,n32_0]]
end
end Go.Vab

/-
  A step: whether who asks has the right; walked.
-/
namespace Go.Vab
open Go Go.Proofs
theorem runRp10_0 {G X : Prop} (f : Hd X → G := by
 intro xX
 repeat' (first | refine stp (x := ?_) | (simp (decide := true) only [sn32, snB, if_true, if_false]) | (with_reducible refine n32_49_w _ _ _ ?_))
 exact xX.get) (x : X) : G := f ⟨x⟩
theorem lt1 {m : BitVec 8} (h : ¬ m = 0#8) : ¬ m < 1#8 := by
 rw [BitVec.lt_def]
 intro q
 exact h (BitVec.eq_of_toNat_eq (by simpa using q))
set_option maxHeartbeats 4000000 in
theorem c32 {κ : Nat → Nat} {H : Heap} {c xb : Nat} {s : Stt} {b : Pt} {a : Actn} {m : BitVec 8} {vt vp vs vi va vb wt wp : AV} (x : Sx κ H c xb s b a m vt vp vs vi va vb wt wp) : SpecQ Tryz.prog 32 [.ptr xb 0 [] tLstep] H fun r => r = (nat (mayWhy m s b a), H) := by
 refine q32 fun env g0 => ?_
 have sx0 := blk_of x.st
 have wb0 := blk_of x.w.cell
 by_cases k7 : a.kind = 7#8
 ·have ff := aI g0 (aI sx0 (aI wb0 k7))
  refine runRp10_0 (x := ?_)
  clear ff
  first | (simp only [mayWhy, k7]; rfl) | simp [mayWhy, oneOrTuple, k7]
 by_cases k8 : a.kind = 8#8
 ·have ff := aI g0 (aI sx0 (aI wb0 k8))
  refine runRp10_0 (x := ?_)
  clear ff
  first | (simp only [mayWhy, k8]; rfl) | simp [mayWhy, oneOrTuple, k8]
 by_cases k11 : a.kind = 11#8
 ·have ff := aI g0 (aI sx0 (aI wb0 k11))
  refine runRp10_0 (x := ?_)
  clear ff
  first | (simp only [mayWhy, k11]; rfl) | simp [mayWhy, oneOrTuple, k11]
 by_cases k9 : a.kind = 9#8
 ·by_cases hw : a.who.e = b
  ·have ff := aI g0 (aI sx0 (aI wb0 (aI k9 hw)))
   refine runRp10_0 (x := ?_)
   clear ff
   first | (simp only [mayWhy, k9, hw]; rfl) | simp [mayWhy, oneOrTuple, k9, hw]
  ·have ff := aI g0 (aI sx0 (aI wb0 (aI k9 hw)))
   refine runRp10_0 (x := ?_)
   clear ff
   first | (simp only [mayWhy, k9, hw]; rfl) | simp [mayWhy, oneOrTuple, k9, hw]
 by_cases k10 : a.kind = 10#8
 ·by_cases hw : a.who.e = b
  ·have ff := aI g0 (aI sx0 (aI wb0 (aI k10 hw)))
   refine runRp10_0 (x := ?_)
   clear ff
   first | (simp only [mayWhy, k10, hw]; rfl) | simp [mayWhy, oneOrTuple, k10, hw]
  ·have ff := aI g0 (aI sx0 (aI wb0 (aI k10 hw)))
   refine runRp10_0 (x := ?_)
   clear ff
   first | (simp only [mayWhy, k10, hw]; rfl) | simp [mayWhy, oneOrTuple, k10, hw]
 by_cases k1 : a.kind = 1#8
 ·by_cases m0 : m = 0#8
  ·subst m0
   by_cases r2 : a.role = 2#8
   ·have ff := aI g0 (aI sx0 (aI wb0 (aI k1 r2)))
    refine runRp10_0 (x := ?_)
    clear ff
    first | (simp only [mayWhy, k1, r2]; rfl) | simp [mayWhy, oneOrTuple, k1, r2]
   ·have ff := aI g0 (aI sx0 (aI wb0 (aI k1 r2)))
    refine runRp10_0 (x := ?_)
    clear ff
    first | (simp only [mayWhy, k1, r2]; rfl) | simp [mayWhy, oneOrTuple, k1, r2]
  ·by_cases r2 : a.role = 2#8
   ·by_cases m2 : m = 2#8
    ·subst m2
     by_cases ml : 2#8 < s.acc.members
     ·have ff := aI g0 (aI sx0 (aI wb0 (aI k1 (aI r2 ml))))
      refine runRp10_0 (x := ?_)
      clear ff
      first | (simp only [mayWhy, k1, r2, ml]; rfl) | simp [mayWhy, oneOrTuple, k1, r2, ml]
     ·have ff := aI g0 (aI sx0 (aI wb0 (aI k1 (aI r2 ml))))
      refine runRp10_0 (x := ?_)
      clear ff
      first | (simp only [mayWhy, k1, r2, ml]; rfl) | simp [mayWhy, oneOrTuple, k1, r2, ml]
    ·have ff := aI g0 (aI sx0 (aI wb0 (aI k1 (aI r2 (aI m0 m2)))))
     refine runRp10_0 (x := ?_)
     clear ff
     first | (simp only [mayWhy, k1, r2, m0, m2]; rfl) | simp [mayWhy, oneOrTuple, k1, r2, m0, m2]
   ·by_cases ml : m < s.acc.members
    ·have ff := aI g0 (aI sx0 (aI wb0 (aI k1 (aI r2 (aI m0 ml)))))
     refine runRp10_0 (x := ?_)
     clear ff
     first | (simp only [mayWhy, k1, r2, m0, ml]; rfl) | simp [mayWhy, oneOrTuple, k1, r2, m0, ml]
    ·have ff := aI g0 (aI sx0 (aI wb0 (aI k1 (aI r2 (aI m0 ml)))))
     refine runRp10_0 (x := ?_)
     clear ff
     first | (simp only [mayWhy, k1, r2, m0, ml]; rfl) | simp [mayWhy, oneOrTuple, k1, r2, m0, ml]
 by_cases k5 : a.kind = 5#8
 ·by_cases m0 : m = 0#8
  ·subst m0
   by_cases r2 : a.role = 2#8
   ·have ff := aI g0 (aI sx0 (aI wb0 (aI k5 r2)))
    refine runRp10_0 (x := ?_)
    clear ff
    first | (simp only [mayWhy, k5, r2]; rfl) | simp [mayWhy, oneOrTuple, k5, r2]
   ·have ff := aI g0 (aI sx0 (aI wb0 (aI k5 r2)))
    refine runRp10_0 (x := ?_)
    clear ff
    first | (simp only [mayWhy, k5, r2]; rfl) | simp [mayWhy, oneOrTuple, k5, r2]
  ·by_cases r2 : a.role = 2#8
   ·by_cases m2 : m = 2#8
    ·subst m2
     by_cases ml : 2#8 < s.acc.members
     ·have ff := aI g0 (aI sx0 (aI wb0 (aI k5 (aI r2 ml))))
      refine runRp10_0 (x := ?_)
      clear ff
      first | (simp only [mayWhy, k5, r2, ml]; rfl) | simp [mayWhy, oneOrTuple, k5, r2, ml]
     ·have ff := aI g0 (aI sx0 (aI wb0 (aI k5 (aI r2 ml))))
      refine runRp10_0 (x := ?_)
      clear ff
      first | (simp only [mayWhy, k5, r2, ml]; rfl) | simp [mayWhy, oneOrTuple, k5, r2, ml]
    ·have ff := aI g0 (aI sx0 (aI wb0 (aI k5 (aI r2 (aI m0 m2)))))
     refine runRp10_0 (x := ?_)
     clear ff
     first | (simp only [mayWhy, k5, r2, m0, m2]; rfl) | simp [mayWhy, oneOrTuple, k5, r2, m0, m2]
   ·by_cases ml : m < s.acc.members
    ·have ff := aI g0 (aI sx0 (aI wb0 (aI k5 (aI r2 (aI m0 ml)))))
     refine runRp10_0 (x := ?_)
     clear ff
     first | (simp only [mayWhy, k5, r2, m0, ml]; rfl) | simp [mayWhy, oneOrTuple, k5, r2, m0, ml]
    ·have ff := aI g0 (aI sx0 (aI wb0 (aI k5 (aI r2 (aI m0 ml)))))
     refine runRp10_0 (x := ?_)
     clear ff
     first | (simp only [mayWhy, k5, r2, m0, ml]; rfl) | simp [mayWhy, oneOrTuple, k5, r2, m0, ml]
 by_cases k12 : a.kind = 12#8
 ·by_cases m0 : m = 0#8
  ·subst m0
   by_cases r2 : a.role = 2#8
   ·have ff := aI g0 (aI sx0 (aI wb0 (aI k12 r2)))
    refine runRp10_0 (x := ?_)
    clear ff
    first | (simp only [mayWhy, k12, r2]; rfl) | simp [mayWhy, oneOrTuple, k12, r2]
   ·have ff := aI g0 (aI sx0 (aI wb0 (aI k12 r2)))
    refine runRp10_0 (x := ?_)
    clear ff
    first | (simp only [mayWhy, k12, r2]; rfl) | simp [mayWhy, oneOrTuple, k12, r2]
  ·by_cases r2 : a.role = 2#8
   ·by_cases m2 : m = 2#8
    ·subst m2
     by_cases ml : 2#8 < s.acc.members
     ·have ff := aI g0 (aI sx0 (aI wb0 (aI k12 (aI r2 ml))))
      refine runRp10_0 (x := ?_)
      clear ff
      first | (simp only [mayWhy, k12, r2, ml]; rfl) | simp [mayWhy, oneOrTuple, k12, r2, ml]
     ·have ff := aI g0 (aI sx0 (aI wb0 (aI k12 (aI r2 ml))))
      refine runRp10_0 (x := ?_)
      clear ff
      first | (simp only [mayWhy, k12, r2, ml]; rfl) | simp [mayWhy, oneOrTuple, k12, r2, ml]
    ·have ff := aI g0 (aI sx0 (aI wb0 (aI k12 (aI r2 (aI m0 m2)))))
     refine runRp10_0 (x := ?_)
     clear ff
     first | (simp only [mayWhy, k12, r2, m0, m2]; rfl) | simp [mayWhy, oneOrTuple, k12, r2, m0, m2]
   ·by_cases ml : m < s.acc.members
    ·have ff := aI g0 (aI sx0 (aI wb0 (aI k12 (aI r2 (aI m0 ml)))))
     refine runRp10_0 (x := ?_)
     clear ff
     first | (simp only [mayWhy, k12, r2, m0, ml]; rfl) | simp [mayWhy, oneOrTuple, k12, r2, m0, ml]
    ·have ff := aI g0 (aI sx0 (aI wb0 (aI k12 (aI r2 (aI m0 ml)))))
     refine runRp10_0 (x := ?_)
     clear ff
     first | (simp only [mayWhy, k12, r2, m0, ml]; rfl) | simp [mayWhy, oneOrTuple, k12, r2, m0, ml]
 by_cases m0 : m = 0#8
 ·subst m0
  by_cases k4 : a.kind = 4#8
  ·have ff := aI g0 (aI sx0 (aI wb0 k4))
   refine runRp10_0 (x := ?_)
   clear ff
   first | (simp only [mayWhy, k4]; rfl) | simp [mayWhy, oneOrTuple, k4]
  by_cases k6 : a.kind = 6#8
  ·have ff := aI g0 (aI sx0 (aI wb0 k6))
   refine runRp10_0 (x := ?_)
   clear ff
   first | (simp only [mayWhy, k6]; rfl) | simp [mayWhy, oneOrTuple, k6]
  by_cases k16 : a.kind = 16#8
  ·have ff := aI g0 (aI sx0 (aI wb0 k16))
   refine runRp10_0 (x := ?_)
   clear ff
   first | (simp only [mayWhy, k16]; rfl) | simp [mayWhy, oneOrTuple, k16]
  have ff := aI g0 (aI sx0 (aI wb0 (aI k1 (aI k4 (aI k5 (aI k6 (aI k7 (aI k8 (aI k9 (aI k10 (aI k11 (aI k12 k16))))))))))))
  refine runRp10_0 (x := ?_)
  clear ff
  first | (simp only [mayWhy, k1, k4, k5, k6, k7, k8, k9, k10, k11, k12, k16, false_and, or_self, if_false, if_true]; rfl) | simp [mayWhy, oneOrTuple, k1, k4, k5, k6, k7, k8, k9, k10, k11, k12, k16, false_and, or_self, if_false, if_true]
 have m1 := lt1 m0
 by_cases k4 : a.kind = 4#8
 ·have ff := aI g0 (aI sx0 (aI wb0 (aI k4 (aI m0 m1))))
  refine runRp10_0 (x := ?_)
  clear ff
  simp [mayWhy, oneOrTuple, k4, m0, m1]
 by_cases k6 : a.kind = 6#8
 ·have ff := aI g0 (aI sx0 (aI wb0 (aI k6 (aI m0 m1))))
  refine runRp10_0 (x := ?_)
  clear ff
  simp [mayWhy, oneOrTuple, k6, m0, m1]
 by_cases k16 : a.kind = 16#8
 ·by_cases ml : m < s.acc.title
  ·have ff := aI g0 (aI sx0 (aI wb0 (aI k16 (aI m0 ml))))
   refine runRp10_0 (x := ?_)
   clear ff
   first | (simp only [mayWhy, k16, m0, ml]; rfl) | simp [mayWhy, oneOrTuple, k16, m0, ml]
  ·have ff := aI g0 (aI sx0 (aI wb0 (aI k16 (aI m0 ml))))
   refine runRp10_0 (x := ?_)
   clear ff
   first | (simp only [mayWhy, k16, m0, ml]; rfl) | simp [mayWhy, oneOrTuple, k16, m0, ml]
 by_cases ml : m < 2#8
 ·have ff := aI g0 (aI sx0 (aI wb0 (aI k1 (aI k4 (aI k5 (aI k6 (aI k7 (aI k8 (aI k9 (aI k10 (aI k11 (aI k12 (aI k16 (aI m0 ml))))))))))))))
  refine runRp10_0 (x := ?_)
  clear ff
  first | (simp only [mayWhy, k1, k4, k5, k6, k7, k8, k9, k10, k11, k12, k16, m0, ml, false_and, or_self, if_false, if_true]; rfl) | simp [mayWhy, oneOrTuple, k1, k4, k5, k6, k7, k8, k9, k10, k11, k12, k16, m0, ml, false_and, or_self, if_false, if_true]
 ·have ff := aI g0 (aI sx0 (aI wb0 (aI k1 (aI k4 (aI k5 (aI k6 (aI k7 (aI k8 (aI k9 (aI k10 (aI k11 (aI k12 (aI k16 (aI m0 ml))))))))))))))
  refine runRp10_0 (x := ?_)
  clear ff
  first | (simp only [mayWhy, k1, k4, k5, k6, k7, k8, k9, k10, k11, k12, k16, m0, ml, false_and, or_self, if_false, if_true]; rfl) | simp [mayWhy, oneOrTuple, k1, k4, k5, k6, k7, k8, k9, k10, k11, k12, k16, m0, ml, false_and, or_self, if_false, if_true]
end Go.Vab

/- How the code of a function is read. Printed by wip/tools/gen2.py and gen3.py (own work). -/
namespace Go.Vab
open Go Go.Proofs
noncomputable section
def cx55 : Ctx := ⟨fun _ _ _ => none,TT,9,[3,4,5,6,7,8]⟩
def n55_0 := bodyOf Tryz.f55
def n55_1 := cR n55_0
def n55_2 := cR n55_1
def q55 := zQ1 cx55 55 Tryz.f55 n55_0 fun s => (bnd (some (s.env.get 2)) fun v => bnd (some []) fun vs => some (v :: vs))
set_option maxRecDepth 20000
set_option maxHeartbeats 4000000
def sn55 := zAll cx55 [[n55_2],[n55_2,n55_1],[n55_1,n55_0]]
end
end Go.Vab

/- How the code of a function is read. Printed by wip/tools/gen2.py and gen3.py (own work). -/
namespace Go.Vab
open Go Go.Proofs
noncomputable section
def cx44 : Ctx := ⟨fun _ _ _ => none,TT,16,[3,4,5,6,7,8,9,10,11,12,13,14,15]⟩
def n44_0 := bodyOf Tryz.f44
def n44_1 := cR n44_0
def n44_2 := cR n44_1
def q44 := zQ1 cx44 44 Tryz.f44 n44_0 fun s => (bnd (some (s.env.get 2)) fun v => bnd (some []) fun vs => some (v :: vs))
set_option maxRecDepth 20000
set_option maxHeartbeats 4000000
def sn44 := zAll cx44 [[n44_2],[n44_2,n44_1],[n44_1,n44_0]]
end
end Go.Vab

/- How the code of a function is read. Printed by wip/tools/gen2.py and gen3.py (own work). -/
namespace Go.Vab
open Go Go.Proofs
noncomputable section
def cx58 : Ctx := ⟨fun _ _ _ => none,TT,34,[5,6,8,9,11,13,14,16,17,18,19,20,22,24,25,26,27,28,29,30,31,32,33]⟩
def n58_0 := bodyOf Tryz.f58
def n58_1 := cR n58_0
def n58_2 := cL n58_1
def n58_3 := cR n58_2
def n58_4 := cB n58_3
def n58_5 := cL n58_4
def n58_6 := cB n58_5
def n58_7 := cL n58_6
def n58_8 := cB n58_7
def n58_9 := cL n58_8
def n58_10 := cB n58_9
def n58_11 := cL n58_10
def n58_12 := cB n58_11
def n58_13 := cL n58_12
def n58_14 := cB n58_13
def n58_15 := cL n58_14
def n58_16 := cB n58_15
def n58_17 := cL n58_16
def n58_18 := cB n58_17
def n58_19 := cL n58_18
def n58_20 := cL n58_19
def n58_21 := cL n58_20
def n58_22 := cR n58_21
def n58_23 := cL n58_22
def n58_24 := cR n58_22
def n58_25 := cR n58_20
def n58_26 := cL n58_25
def n58_27 := cR n58_25
def n58_28 := cR n58_19
def n58_29 := cL n58_28
def n58_30 := cL n58_29
def n58_31 := cR n58_30
def n58_32 := cL n58_31
def n58_33 := cR n58_31
def n58_34 := cR n58_29
def n58_35 := cL n58_34
def n58_36 := cR n58_34
def n58_37 := cR n58_28
def n58_38 := cL n58_37
def n58_39 := cR n58_38
def n58_40 := cL n58_39
def n58_41 := cR n58_39
def n58_42 := cR n58_37
def n58_43 := cL n58_42
def n58_44 := cL n58_43
def n58_45 := cR n58_44
def n58_46 := cL n58_45
def n58_47 := cR n58_45
def n58_48 := cR n58_43
def n58_49 := cL n58_48
def n58_50 := cR n58_48
def n58_51 := cR n58_42
def n58_52 := cL n58_51
def n58_53 := cL n58_52
def n58_54 := cR n58_53
def n58_55 := cL n58_54
def n58_56 := cR n58_54
def n58_57 := cR n58_56
def n58_58 := cL n58_57
def n58_59 := cR n58_57
def n58_60 := cR n58_59
def n58_61 := cL n58_60
def n58_62 := cR n58_60
def n58_63 := cR n58_62
def n58_64 := cL n58_63
def n58_65 := cR n58_63
def n58_66 := cR n58_52
def n58_67 := cL n58_66
def n58_68 := cR n58_66
def n58_69 := cR n58_51
def n58_70 := cL n58_69
def n58_71 := cR n58_70
def n58_72 := cL n58_71
def n58_73 := cR n58_71
def n58_74 := cR n58_69
def n58_75 := cR n58_74
def n58_76 := cL n58_75
def n58_77 := cR n58_75
def n58_78 := cR n58_18
def n58_79 := cR n58_16
def n58_80 := cR n58_79
def n58_81 := cR n58_14
def n58_82 := cR n58_12
def n58_83 := cR n58_82
def n58_84 := cR n58_10
def n58_85 := cR n58_8
def n58_86 := cR n58_85
def n58_87 := cR n58_6
def n58_88 := cR n58_87
def n58_89 := cR n58_4
def n58_90 := cR n58_89
def n58_91 := cR n58_1
def n58_92 := cR n58_91
def q58 := zQ1 cx58 58 Tryz.f58 n58_0 fun s => (bnd (mLoad tLhas (s.env.get 2) s.heap) fun v => bnd (some []) fun vs => some (v :: vs))
set_option maxRecDepth 20000
set_option maxHeartbeats 4000000
def sn58 := zAll cx58 [[n58_23],[n58_24],[n58_23,n58_24,n58_22],[n58_22,n58_21],[n58_26],[n58_27],[n58_26,n58_27,n58_25],[n58_21,n58_25,n58_20],[n58_32],[n58_33],[n58_32,n58_33,n58_31],[n58_31,n58_30],[n58_35],[n58_36],[n58_35,n58_36,n58_34],[n58_30,n58_34,n58_29],[n58_40],[n58_41],[n58_40,n58_41,n58_39],[n58_39,n58_38],[n58_46],[n58_47],[n58_46,n58_47,n58_45],[n58_45,n58_44],[n58_49],[n58_50],[n58_49,n58_50,n58_48],[n58_44,n58_48,n58_43],[n58_55],[n58_58],[n58_61],[n58_64],[n58_65],[n58_64,n58_65,n58_63],[n58_63,n58_62],[n58_61,n58_62,n58_60],[n58_60,n58_59],[n58_58,n58_59,n58_57],[n58_57,n58_56],[n58_55,n58_56,n58_54],[n58_54,n58_53],[n58_67],[n58_68],[n58_67,n58_68,n58_66],[n58_53,n58_66,n58_52],[n58_72],[n58_73],[n58_72,n58_73,n58_71],[n58_71,n58_70],[n58_76],[n58_77],[n58_76,n58_77,n58_75],[n58_75,n58_74],[n58_70,n58_74,n58_69],[n58_52,n58_69,n58_51],[n58_43,n58_51,n58_42],[n58_38,n58_42,n58_37],[n58_29,n58_37,n58_28],[n58_20,n58_28,n58_19],[n58_78],[n58_19,n58_78,n58_18],[n58_18,n58_17],[n58_80],[n58_80,n58_79],[n58_17,n58_79,n58_16],[n58_16,n58_15],[n58_81],[n58_15,n58_81,n58_14],[n58_14,n58_13],[n58_83],[n58_83,n58_82],[n58_13,n58_82,n58_12],[n58_12,n58_11],[n58_84],[n58_11,n58_84,n58_10],[n58_10,n58_9],[n58_86],[n58_86,n58_85],[n58_9,n58_85,n58_8],[n58_8,n58_7],[n58_88],[n58_88,n58_87],[n58_7,n58_87,n58_6],[n58_6,n58_5],[n58_90],[n58_90,n58_89],[n58_5,n58_89,n58_4],[n58_4,n58_3],[n58_3,n58_2],[n58_92],[n58_92,n58_91],[n58_2,n58_91,n58_1],[n58_1,n58_0]]
end
end Go.Vab

/- How the code of a function is read. Printed by wip/tools/gen2.py and gen3.py (own work). -/
namespace Go.Vab
open Go Go.Proofs
noncomputable section
def cx29 : Ctx := ⟨fun _ _ _ => none,TT,116,[5,6,7,9,10,11,12,13,14,15,16,17,18,19,20,21,22,24,25,26,27,28,29,30,31,32,33,34,35,36,37,38,39,40,41,42,43,44,45,46,47,48,49,50,51,52,53,54,55,56,57,58,59,60,61,63,64,65,66,67,68,69,70,71,72,73,74,75,76,77,78,79,80,81,82,83,84,85,86,87,88,89,90,91,92,93,94,95,96,97,98,99,100,101,102,103,104,105,106,107,108,109,110,111,112,113,114,115]⟩
def n29_0 := bodyOf Tryz.f29
def n29_1 := cR n29_0
def n29_2 := cR n29_1
def n29_3 := cL n29_2
def n29_4 := cB n29_3
def n29_5 := cR n29_4
def n29_6 := cL n29_5
def n29_7 := cR n29_6
def n29_8 := cR n29_5
def n29_9 := cR n29_8
def n29_10 := cL n29_9
def n29_11 := cR n29_10
def n29_12 := cR n29_9
def n29_13 := cR n29_12
def n29_14 := cL n29_13
def n29_15 := cR n29_14
def n29_16 := cR n29_13
def n29_17 := cR n29_2
def n29_18 := cR n29_17
def n29_19 := cR n29_18
def q29 := zQ1 cx29 29 Tryz.f29 n29_0 fun s => (bnd (some (s.env.get 2)) fun v => bnd (some []) fun vs => some (v :: vs))
set_option maxRecDepth 20000
set_option maxHeartbeats 4000000
def n29_8_w := zDr cx29 [n29_9,n29_8] [] [0,1,3,7,15,31,15,127,255,511,1023,2047,4095,8191,16383,32767,16383,131071,262143,524287,1048575,2097151,4194303,2097151,10485759,27262975,67108863,134217727,268435455,536870911,1073741823,2147483647,4294967295,8589934591,17179869183,34359738367,68719476735,137438953471,274877906943] [0,1,2,3,4,5,6,7,8,9,10,11,12,13,14,15,16,17,18,19,20,21,22,23,24,25,26,27,28,29,30,31,32,33,34,35,36,37,38] .f
def sn29 := zAll cx29 [[n29_7],[n29_7,n29_6],[n29_11],[n29_11,n29_10],[n29_15],[n29_15,n29_14],[n29_16],[n29_14,n29_16,n29_13],[n29_13,n29_12],[n29_10,n29_12,n29_9],[n29_6,n29_8,n29_5],[n29_5,n29_4],[n29_4,n29_3],[n29_19],[n29_19,n29_18],[n29_18,n29_17],[n29_3,n29_17,n29_2],[n29_2,n29_1],[n29_1,n29_0]]
end
end Go.Vab

/-
  What may be, walked: role, mayAccess, fields, MayAction.
-/
namespace Go.Vab
open Go Go.Proofs
theorem c55 {h : Heap} {r : BitVec 8} : SpecQ Tryz.prog 55 [u8 r] h fun x => x = (.bool (roleOk r), h) := by
 refine SpecQ.drop1 rfl (q55 fun env g0 => ?_)
 repeat' (first | ((with_reducible refine evs_of (a := ?_) ?_ ?_); rotate_left; (focus ((conv => lhs; simp (disch := omega) [g0]); done)); try dsimp only) | (simp (decide := true) only [sn55, sqW_nrm, sqW_exit, sqW_ret, inBlk_nrm, inBlk_ret, inBlk_same, inBlk_exit, if_true, if_false, retW_nrm, retW_ret]) | ((with_reducible refine gv_splitE (b := ?_) ?_ ?_ ?_); rotate_left; (focus ((conv => lhs; simp (disch := omega) [g0]); done)); all_goals ((intro hb; try simp only [Bool.not_true, Bool.not_false] at hb); try simp only [hb])) | (with_reducible refine gv_split ?_ ?_ <;> (intro hb; try simp only [Bool.not_true, Bool.not_false] at hb) <;> try simp only [hb]))
 all_goals refine fin_b0 ?_
 all_goals (unfold roleOk; simp_all)
theorem c44 {h : Heap} {a : Acc} : SpecQ Tryz.prog 44 [eAcc a] h fun x => x = (.bool (accOk a), h) := by
 refine SpecQ.drop1 rfl (q44 fun env g0 => ?_)
 repeat' (first | ((with_reducible refine evs_of (a := ?_) ?_ ?_); rotate_left; (focus ((conv => lhs; simp (disch := omega) [g0]); done)); try dsimp only) | ((with_reducible refine gW_do ?_ ?_); (focus (simp (disch := omega) [g0]; done))) | ((with_reducible refine gW_no ?_ ?_); (focus (simp (disch := omega) [g0]; done)); try dsimp only) | ((with_reducible refine gW_un ?_ ?_); (focus (simp (disch := omega) [g0]; done)); try dsimp only) | (with_reducible refine SpecQ.step (c55) ?_; rintro _ rfl; try dsimp only) | ((with_reducible refine SpecA_i (args' := ?_) ?_ ?_); rotate_left; (focus ((conv => lhs; simp (disch := omega) [g0]); done))) | (simp (decide := true) only [sn44, sqW_nrm, sqW_exit, sqW_ret, inBlk_nrm, inBlk_ret, inBlk_same, inBlk_exit, if_true, if_false, retW_nrm, retW_ret]) | ((with_reducible refine gv_splitE (b := ?_) ?_ ?_ ?_); rotate_left; (focus ((conv => lhs; simp (disch := omega) [g0]); done)); all_goals ((intro hb; try simp only [Bool.not_true, Bool.not_false] at hb); try simp only [hb])) | ((with_reducible refine gW_splitE (b := ?_) ?_ ?_ ?_); rotate_left; (focus ((conv => lhs; simp (disch := omega) [g0]); done)); all_goals ((intro hb; try simp only [Bool.not_true, Bool.not_false] at hb); try simp only [hb])) | (with_reducible refine gv_split ?_ ?_ <;> (intro hb; try simp only [Bool.not_true, Bool.not_false] at hb) <;> try simp only [hb]) | (with_reducible refine gW_split ?_ ?_ <;> (intro hb; try simp only [Bool.not_true, Bool.not_false] at hb) <;> try simp only [hb]))
 all_goals refine fin_b ?_
 all_goals (unfold accOk; simp_all)
set_option maxHeartbeats 2000000 in
theorem c58 {h : Heap} {k : BitVec 8} : SpecQ Tryz.prog 58 [u8 k] h fun x => x = (hasV k, h) := by
 refine SpecQ.drop1 rfl (q58 fun env g0 => ?_)
 repeat' (first | ((with_reducible refine evs_of (a := ?_) ?_ ?_); rotate_left; (focus ((conv => lhs; simp (disch := omega) [g0]); done)); try dsimp only) | ((with_reducible refine cndW_T ?_ ?_); (focus (simp (disch := omega) [g0] <;> omega))) | ((with_reducible refine cndW_F ?_ ?_); (focus (simp (disch := omega) [g0] <;> omega))) | (with_reducible refine wL_i ?_) | (simp (decide := true) only [sn58, sqW_nrm, sqW_exit, sqW_ret, inBlk_nrm, inBlk_ret, inBlk_same, inBlk_exit, if_true, if_false, retW_nrm, retW_ret]) | ((with_reducible refine cndW_splitE (b := ?_) ?_ ?_ ?_); rotate_left; (focus ((conv => lhs; simp (disch := omega) [g0]); done)); all_goals ((intro hb; try simp only [Bool.not_true, Bool.not_false] at hb); try simp only [hb])) | (with_reducible refine cndW_split ?_ ?_ <;> (intro hb; try simp only [Bool.not_true, Bool.not_false] at hb) <;> try simp only [hb]))
 all_goals refine fin_v ?_
 all_goals (unfold hasV; simp only [decide_eq_true_eq, decide_eq_false_iff_not] at *; first | (subst_vars; rfl) | (simp_all [hW, hE, hR, hT, hA, hP]; done))
set_option maxHeartbeats 2000000 in
theorem c29 {h : Heap} {a : Actn} {vt vp : AV} (ra : ActR h a vt vp) : SpecQ Tryz.prog 29 [eAct a vt vp] h fun x => x = (.bool (mayA a), h) := by
 have ta := ra.cells
 have l1 := ra.t.len
 have l2 := ra.p.len
 refine SpecQ.drop1 rfl (q29 fun env g0 => ?_)
 repeat' (first | ((with_reducible refine evs_of (a := ?_) ?_ ?_); rotate_left; (focus ((conv => lhs; simp (disch := omega) [g0, ta, l1, l2, hasV]); done)); try dsimp only) | ((with_reducible refine gW_do ?_ ?_); (focus (simp (disch := omega) [g0, ta, l1, l2, hasV]; done))) | ((with_reducible refine gW_no ?_ ?_); (focus (simp (disch := omega) [g0, ta, l1, l2, hasV]; done)); try dsimp only) | ((with_reducible refine gW_un ?_ ?_); (focus (simp (disch := omega) [g0, ta, l1, l2, hasV]; done)); try dsimp only) | ((with_reducible refine cndW_T ?_ ?_); (focus (simp (disch := omega) [g0, ta, l1, l2, hasV] <;> omega))) | ((with_reducible refine cndW_F ?_ ?_); (focus (simp (disch := omega) [g0, ta, l1, l2, hasV] <;> omega))) | (with_reducible refine wL_i ?_) | ((with_reducible refine ValW_do ?_ ?_); (focus (simp (disch := omega) [g0, ta, l1, l2, hasV]; done)); try dsimp only) | ((with_reducible refine ValW_no ?_ ?_); (focus (simp (disch := omega) [g0, ta, l1, l2, hasV]; done)); try dsimp only) | ((with_reducible refine ValW_un ?_ ?_); (focus (simp (disch := omega) [g0, ta, l1, l2, hasV]; done)); try dsimp only) | (with_reducible refine ValW_i (c58) ?_; try dsimp only) | (with_reducible refine SpecQ.step (c58) ?_; rintro _ rfl; try dsimp only) | (with_reducible refine ValW_i (c55) ?_; try dsimp only) | (with_reducible refine SpecQ.step (c55) ?_; rintro _ rfl; try dsimp only) | (with_reducible refine ValW_i (c44) ?_; try dsimp only) | (with_reducible refine SpecQ.step (c44) ?_; rintro _ rfl; try dsimp only) | ((with_reducible refine SpecA_i (args' := ?_) ?_ ?_); rotate_left; (focus ((conv => lhs; simp (disch := omega) [g0, ta, l1, l2, hasV]); done))) | ((with_reducible refine ValA_i (args' := ?_) ?_ ?_); rotate_left; (focus ((conv => lhs; simp (disch := omega) [g0, ta, l1, l2, hasV]); done))) | ((with_reducible refine ValA_fn (g := ?_) (caps := ?_) ?_ ?_); rotate_left; rotate_left; (focus ((conv => lhs; simp (disch := omega) [g0, ta, l1, l2, hasV]); done))) | (simp (decide := true) only [sn29, sqW_nrm, sqW_exit, sqW_ret, inBlk_nrm, inBlk_ret, inBlk_same, inBlk_exit, if_true, if_false, retW_nrm, retW_ret]) | (with_reducible refine n29_8_w _ _ _ ?_) | ((with_reducible refine cndW_splitE (b := ?_) ?_ ?_ ?_); rotate_left; (focus ((conv => lhs; simp (disch := omega) [g0, ta, l1, l2, hasV]); done)); all_goals ((intro hb; try simp only [Bool.not_true, Bool.not_false] at hb); try simp only [hb])) | ((with_reducible refine gv_splitE (b := ?_) ?_ ?_ ?_); rotate_left; (focus ((conv => lhs; simp (disch := omega) [g0, ta, l1, l2, hasV]); done)); all_goals ((intro hb; try simp only [Bool.not_true, Bool.not_false] at hb); try simp only [hb])) | ((with_reducible refine gW_splitE (b := ?_) ?_ ?_ ?_); rotate_left; (focus ((conv => lhs; simp (disch := omega) [g0, ta, l1, l2, hasV]); done)); all_goals ((intro hb; try simp only [Bool.not_true, Bool.not_false] at hb); try simp only [hb])) | (with_reducible refine gv_split ?_ ?_ <;> (intro hb; try simp only [Bool.not_true, Bool.not_false] at hb) <;> try simp only [hb]) | (with_reducible refine gW_split ?_ ?_ <;> (intro hb; try simp only [Bool.not_true, Bool.not_false] at hb) <;> try simp only [hb]) | (with_reducible refine cndW_split ?_ ?_ <;> (intro hb; try simp only [Bool.not_true, Bool.not_false] at hb) <;> try simp only [hb]) | (with_reducible refine ValW_split ?_ ?_ <;> (intro hb; try simp only [Bool.not_true, Bool.not_false] at hb) <;> try simp only [hb]))
 all_goals refine fin_b ?_
 all_goals (clear ra ta l1 l2 g0; unfold mayA; simp_all)
end Go.Vab

/- How the code of a function is read. Printed by wip/tools/gen2.py and gen3.py (own work). -/
namespace Go.Vab
open Go Go.Proofs
noncomputable section
def cx54 : Ctx := ⟨fun _ _ _ => none,TT,7,[3,4,5,6]⟩
def n54_0 := bodyOf Tryz.f54
def n54_1 := cR n54_0
def n54_2 := cR n54_1
def q54 := zQ1 cx54 54 Tryz.f54 n54_0 fun s => (bnd (some (s.env.get 2)) fun v => bnd (some []) fun vs => some (v :: vs))
set_option maxRecDepth 20000
set_option maxHeartbeats 4000000
def sn54 := zAll cx54 [[n54_2],[n54_2,n54_1],[n54_1,n54_0]]
end
end Go.Vab

/- How the code of a function is read. Printed by wip/tools/gen2.py and gen3.py (own work). -/
namespace Go.Vab
open Go Go.Proofs
noncomputable section
def cx57 : Ctx := ⟨fun _ _ _ => none,TT,7,[3,4,5,6]⟩
def n57_0 := bodyOf Tryz.f57
def n57_1 := cR n57_0
def n57_2 := cR n57_1
def q57 := zQ1 cx57 57 Tryz.f57 n57_0 fun s => (bnd (some (s.env.get 2)) fun v => bnd (some []) fun vs => some (v :: vs))
set_option maxRecDepth 20000
set_option maxHeartbeats 4000000
def sn57 := zAll cx57 [[n57_2],[n57_2,n57_1],[n57_1,n57_0]]
end
end Go.Vab

/- How the code of a function is read. Printed by wip/tools/gen2.py and gen3.py (own work). -/
namespace Go.Vab
open Go Go.Proofs
noncomputable section
def cx89 : Ctx := ⟨fun _ _ _ => none,TT,19,[6,10,11,12,13,14,15,17,18]⟩
def n89_0 := bodyOf Tryz.f89
def n89_1 := cR n89_0
def n89_2 := cL n89_1
def n89_3 := cR n89_2
def n89_4 := cB n89_3
def n89_5 := cB n89_4
def n89_6 := cR n89_5
def n89_7 := cL n89_6
def n89_8 := cL n89_7
def n89_9 := cR n89_7
def n89_10 := cR n89_6
def n89_11 := cL n89_10
def n89_12 := cB n89_11
def n89_13 := cR n89_12
def n89_14 := cR n89_13
def n89_15 := cL n89_14
def n89_16 := cR n89_15
def n89_17 := cR n89_14
def n89_18 := cR n89_10
def n89_19 := cR n89_1
def n89_20 := cR n89_19
def q89 := zQ2 cx89 89 Tryz.f89 n89_0 fun s => (bnd (some (s.env.get 4)) fun v => bnd (some []) fun vs => some (v :: vs))
set_option maxRecDepth 20000
set_option maxHeartbeats 4000000
def sn89 := zAll cx89 [[n89_8],[n89_9],[n89_8,n89_9,n89_7],[n89_16],[n89_16,n89_15],[n89_17],[n89_15,n89_17,n89_14],[n89_14,n89_13],[n89_13,n89_12],[n89_12,n89_11],[n89_18],[n89_11,n89_18,n89_10],[n89_7,n89_10,n89_6],[n89_6,n89_5],[n89_5,n89_4],[n89_4,n89_3],[n89_3,n89_2],[n89_20],[n89_20,n89_19],[n89_2,n89_19,n89_1],[n89_1,n89_0]]
end
end Go.Vab

/- How the code of a function is read. Printed by wip/tools/gen2.py and gen3.py (own work). -/
namespace Go.Vab
open Go Go.Proofs
noncomputable section
def cx90 : Ctx := ⟨fun _ _ _ => none,TT,19,[6,10,11,12,13,14,15,17,18]⟩
def n90_0 := bodyOf Tryz.f90
def n90_1 := cR n90_0
def n90_2 := cL n90_1
def n90_3 := cR n90_2
def n90_4 := cB n90_3
def n90_5 := cB n90_4
def n90_6 := cR n90_5
def n90_7 := cL n90_6
def n90_8 := cL n90_7
def n90_9 := cR n90_7
def n90_10 := cR n90_6
def n90_11 := cL n90_10
def n90_12 := cB n90_11
def n90_13 := cR n90_12
def n90_14 := cR n90_13
def n90_15 := cL n90_14
def n90_16 := cR n90_15
def n90_17 := cR n90_14
def n90_18 := cR n90_10
def n90_19 := cR n90_1
def n90_20 := cR n90_19
def q90 := zQ2 cx90 90 Tryz.f90 n90_0 fun s => (bnd (some (s.env.get 4)) fun v => bnd (some []) fun vs => some (v :: vs))
set_option maxRecDepth 20000
set_option maxHeartbeats 4000000
def sn90 := zAll cx90 [[n90_8],[n90_9],[n90_8,n90_9,n90_7],[n90_16],[n90_16,n90_15],[n90_17],[n90_15,n90_17,n90_14],[n90_14,n90_13],[n90_13,n90_12],[n90_12,n90_11],[n90_18],[n90_11,n90_18,n90_10],[n90_7,n90_10,n90_6],[n90_6,n90_5],[n90_5,n90_4],[n90_4,n90_3],[n90_3,n90_2],[n90_20],[n90_20,n90_19],[n90_2,n90_19,n90_1],[n90_1,n90_0]]
end
end Go.Vab

/- How the code of a function is read. Printed by wip/tools/gen2.py and gen3.py (own work). -/
namespace Go.Vab
open Go Go.Proofs
noncomputable section
def cx53 : Ctx := ⟨fun _ _ _ => none,TT,9,[5,6,7,8]⟩
def n53_0 := bodyOf Tryz.f53
def n53_1 := cR n53_0
def n53_2 := cR n53_1
def q53 := zQ2 cx53 53 Tryz.f53 n53_0 fun s => (bnd (some (s.env.get 4)) fun v => bnd (some []) fun vs => some (v :: vs))
set_option maxRecDepth 20000
set_option maxHeartbeats 4000000
def sn53 := zAll cx53 [[n53_2],[n53_2,n53_1],[n53_1,n53_0]]
end
end Go.Vab

/- How the code of a function is read. Printed by wip/tools/gen2.py and gen3.py (own work). -/
namespace Go.Vab
open Go Go.Proofs
noncomputable section
def cx56 : Ctx := ⟨fun _ _ _ => none,TT,9,[5,6,7,8]⟩
def n56_0 := bodyOf Tryz.f56
def n56_1 := cR n56_0
def n56_2 := cR n56_1
def q56 := zQ2 cx56 56 Tryz.f56 n56_0 fun s => (bnd (some (s.env.get 4)) fun v => bnd (some []) fun vs => some (v :: vs))
set_option maxRecDepth 20000
set_option maxHeartbeats 4000000
def sn56 := zAll cx56 [[n56_2],[n56_2,n56_1],[n56_1,n56_0]]
end
end Go.Vab

/- How the code of a function is read. Printed by wip/tools/gen2.py and gen3.py (own work). -/
namespace Go.Vab
open Go Go.Proofs
noncomputable section
def cx28 : Ctx := ⟨fun _ _ _ => none,TT,62,[4,5,6,7,8,9,10,11,12,13,14,15,16,17,18,19,20,21,22,23,24,25,27,28,29,30,31,32,33,34,35,36,37,38,39,40,41,42,43,44,45,46,47,48,49,50,51,52,53,54,55,56,57,58,59,60,61]⟩
def n28_0 := bodyOf Tryz.f28
def n28_1 := cR n28_0
def n28_2 := cL n28_1
def n28_3 := cR n28_2
def n28_4 := cL n28_3
def n28_5 := cR n28_4
def n28_6 := cR n28_3
def n28_7 := cR n28_1
def n28_8 := cR n28_7
def n28_9 := cR n28_8
def q28 := zQ1 cx28 28 Tryz.f28 n28_0 fun s => (bnd (some (s.env.get 2)) fun v => bnd (some []) fun vs => some (v :: vs))
set_option maxRecDepth 20000
set_option maxHeartbeats 4000000
def sn28 := zAll cx28 [[n28_5],[n28_5,n28_4],[n28_6],[n28_4,n28_6,n28_3],[n28_3,n28_2],[n28_9],[n28_9,n28_8],[n28_8,n28_7],[n28_2,n28_7,n28_1],[n28_1,n28_0]]
end
end Go.Vab

/-
  forms.MayState, walked.
-/
namespace Go.Vab
open Go Go.Proofs
theorem runMayS_0 {G X : Prop} (f : Hd X → G := by
 intro xX
 repeat' (first | refine stp (x := ?_) | (with_reducible refine SpecQ.step (c55) ?_; rintro _ rfl; try dsimp only) | (simp (decide := true) only [sn54, snB, if_true, if_false]))
 exact xX.get) (x : X) : G := f ⟨x⟩
theorem runMayS_1 {G X : Prop} (f : Hd X → G := by
 intro xX
 repeat' (first | refine stp (x := ?_) | (simp (decide := true) only [sn89, snB, if_true, if_false]))
 exact xX.get) (x : X) : G := f ⟨x⟩
theorem runMayS_2 {G X : Prop} (f : Hd X → G := by
 intro xX
 repeat' (first | refine stp (x := ?_) | (with_reducible refine SpecQ.step (c54) ?_; rintro _ rfl; try dsimp only) | (simp (decide := true) only [sn89, snB, if_true, if_false]))
 exact xX.get) (x : X) : G := f ⟨x⟩
theorem runMayS_3 {G X : Prop} (f : Hd X → G := by
 intro xX
 repeat' (first | refine stp (x := ?_) | (simp (decide := true) only [sn53, snB, if_true, if_false]))
 exact xX.get) (x : X) : G := f ⟨x⟩
theorem runMayS_4 {G X : Prop} (f : Hd X → G := by
 intro xX
 repeat' (first | refine stp (x := ?_) | (with_reducible refine SpecQ.step (c55) ?_; rintro _ rfl; try dsimp only) | (simp (decide := true) only [sn57, snB, if_true, if_false]))
 exact xX.get) (x : X) : G := f ⟨x⟩
theorem runMayS_5 {G X : Prop} (f : Hd X → G := by
 intro xX
 repeat' (first | refine stp (x := ?_) | (simp (decide := true) only [sn90, snB, if_true, if_false]))
 exact xX.get) (x : X) : G := f ⟨x⟩
theorem runMayS_6 {G X : Prop} (f : Hd X → G := by
 intro xX
 repeat' (first | refine stp (x := ?_) | (with_reducible refine SpecQ.step (c57) ?_; rintro _ rfl; try dsimp only) | (simp (decide := true) only [sn90, snB, if_true, if_false]))
 exact xX.get) (x : X) : G := f ⟨x⟩
theorem runMayS_7 {G X : Prop} (f : Hd X → G := by
 intro xX
 repeat' (first | refine stp (x := ?_) | (simp (decide := true) only [sn56, snB, if_true, if_false]))
 exact xX.get) (x : X) : G := f ⟨x⟩
theorem runMayS_8 {G X : Prop} (f : Hd X → G := by
 intro xX
 repeat' (first | refine stp (x := ?_) | (with_reducible refine SpecQ.step (c44) ?_; rintro _ rfl; try dsimp only) | (simp (decide := true) only [sn28, snB, if_true, if_false]))
 exact xX.get) (x : X) : G := f ⟨x⟩
theorem runMayS_9 {G X : Prop} (f : Hd X → G := by
 intro xX
 repeat' (first | refine stp (x := ?_) | (simp (decide := true) only [sn28, snB, if_true, if_false]))
 exact xX.get) (x : X) : G := f ⟨x⟩
theorem runMayS_10 {G X : Prop} (f : Hd X → G := by
 intro xX
 repeat' (first | refine stp (x := ?_) | (with_reducible refine SpecQ.step (c53 (ra.fs.app _)) ?_; rintro _ rfl; try dsimp only) | (with_reducible refine SpecQ.step (c56 (ra.fi.app _)) ?_; rintro _ rfl; try dsimp only) | (simp (decide := true) only [sn28, snB, if_true, if_false]))
 exact xX.get) (x : X) : G := f ⟨x⟩
theorem c54 {h : Heap} {s : Seat} : SpecQ Tryz.prog 54 [eSeat s] h fun r => r = (.bool (!roleOk s.role), h) := by
 refine SpecQ.drop1 rfl (q54 fun env g0 => ?_)
 have ff := g0
 refine runMayS_0 (x := ?_)
 clear ff
 exact ⟨_, rfl⟩
theorem c89 {h : Heap} {x : AV} {l : List Seat} (hx : Row tSeat h x (l.map eSeat)) : SpecQ Tryz.prog 89 [x, .fn 54 []] h fun r => ∃ n : Int, r = (.int .i64 n, h) ∧ (0 ≤ n ↔ (l.any fun s => !roleOk s.role) = true) := by
 have lx := hx.len
 have bx := hx.bound
 rw [List.length_map] at lx bx
 refine q89 fun env g0 g1 => ?_
 have ff := aI g0 (aI g1 lx)
 refine runMayS_1 (x := ?_)
 clear ff
 refine loop_up l.length (fun i st => ∃ env', st = ⟨env', h⟩ ∧ env'.get 0 = x ∧ env'.get 1 = .fn 54 [] ∧ env'.get 7 = nat l.length ∧ env'.get 8 = nat i ∧ ∀ j (hj : j < l.length), j < i → roleOk l[j].role = true) ?_ ?_ ⟨_, rfl, by simp [g0], by simp [g1], by simp, by simp, fun j _ hj => absurd hj (by omega)⟩
 ·rintro i st hi ⟨env', rfl, e0, e1, e7, e8, hgood⟩
  obtain ⟨p, p1, p2⟩ := hx.idx0 (i := i) (by simpa using hi)
  rw [List.getElem?_map, List.getElem?_eq_getElem hi] at p2
  simp only [Option.map_some] at p2
  cases hr : roleOk l[i].role
  ·have ff := aI e0 (aI e1 (aI e7 (aI e8 (aI p1 (aI p2 hr)))))
   refine runMayS_2 (x := ?_)
   clear ff
   refine .inr ⟨by simp, ?_⟩
   have ff := e0
   refine runMayS_1 (x := ?_)
   clear ff
   refine ⟨i, by rw [e8]; rfl, ⟨fun _ => ?_, fun _ => by omega⟩⟩
   rw [List.any_eq_true]
   exact ⟨l[i], List.getElem_mem hi, by rw [hr]; rfl⟩
  ·have ff := aI e0 (aI e1 (aI e7 (aI e8 (aI p1 (aI p2 hr)))))
   refine runMayS_2 (x := ?_)
   clear ff
   refine .inl ⟨by simp, _, rfl, by simp [e0], by simp [e1], by simp [e7], by simp, fun j hj hji => ?_⟩
   by_cases hq : j = i
   ·subst hq; exact hr
   ·exact hgood j hj (by omega)
 ·rintro st ⟨env', rfl, e0, e1, e7, e8, hgood⟩
  have ff := aI e7 e8
  refine runMayS_1 (x := ?_)
  clear ff
  refine ⟨by simp, ?_⟩
  have ff := aI e7 e8
  refine runMayS_1 (x := ?_)
  clear ff
  refine ⟨-1, rfl, ⟨fun h => absurd h (by omega), fun h => ?_⟩⟩
  rw [List.any_eq_true] at h
  obtain ⟨s, hs, hr⟩ := h
  obtain ⟨j, hj, rfl⟩ := List.getElem_of_mem hs
  rw [hgood j hj hj] at hr
  cases hr
theorem c53 {h : Heap} {x : AV} {l : List Seat} (hx : Row tSeat h x (l.map eSeat)) : SpecQ Tryz.prog 53 [x, .fn 54 []] h fun r => r = (.bool (l.any fun s => !roleOk s.role), h) := by
 refine SpecQ.drop1 rfl (q53 fun env g0 g1 => ?_)
 have ff := aI g0 g1
 refine runMayS_3 (x := ?_)
 clear ff
 refine SpecQ.step (c89 hx) ?_
 rintro ⟨v, h2⟩ ⟨n, e, hn⟩
 cases e
 have ff := aI g0 g1
 refine runMayS_3 (x := ?_)
 clear ff
 refine ⟨[], ?_⟩
 simp only [oneOrTuple, List.append_nil]
 congr 2
 rw [Bool.eq_iff_iff, decide_eq_true_eq]
 exact hn
theorem c57 {h : Heap} {s : Inv} : SpecQ Tryz.prog 57 [eInv s] h fun r => r = (.bool (!roleOk s.role), h) := by
 refine SpecQ.drop1 rfl (q57 fun env g0 => ?_)
 have ff := g0
 refine runMayS_4 (x := ?_)
 clear ff
 exact ⟨_, rfl⟩
theorem c90 {h : Heap} {x : AV} {l : List Inv} (hx : Row tInvite h x (l.map eInv)) : SpecQ Tryz.prog 90 [x, .fn 57 []] h fun r => ∃ n : Int, r = (.int .i64 n, h) ∧ (0 ≤ n ↔ (l.any fun s => !roleOk s.role) = true) := by
 have lx := hx.len
 have bx := hx.bound
 rw [List.length_map] at lx bx
 refine q90 fun env g0 g1 => ?_
 have ff := aI g0 (aI g1 lx)
 refine runMayS_5 (x := ?_)
 clear ff
 refine loop_up l.length (fun i st => ∃ env', st = ⟨env', h⟩ ∧ env'.get 0 = x ∧ env'.get 1 = .fn 57 [] ∧ env'.get 7 = nat l.length ∧ env'.get 8 = nat i ∧ ∀ j (hj : j < l.length), j < i → roleOk l[j].role = true) ?_ ?_ ⟨_, rfl, by simp [g0], by simp [g1], by simp, by simp, fun j _ hj => absurd hj (by omega)⟩
 ·rintro i st hi ⟨env', rfl, e0, e1, e7, e8, hgood⟩
  obtain ⟨p, p1, p2⟩ := hx.idx0 (i := i) (by simpa using hi)
  rw [List.getElem?_map, List.getElem?_eq_getElem hi] at p2
  simp only [Option.map_some] at p2
  cases hr : roleOk l[i].role
  ·have ff := aI e0 (aI e1 (aI e7 (aI e8 (aI p1 (aI p2 hr)))))
   refine runMayS_6 (x := ?_)
   clear ff
   refine .inr ⟨by simp, ?_⟩
   have ff := e0
   refine runMayS_5 (x := ?_)
   clear ff
   refine ⟨i, by rw [e8]; rfl, ⟨fun _ => ?_, fun _ => by omega⟩⟩
   rw [List.any_eq_true]
   exact ⟨l[i], List.getElem_mem hi, by rw [hr]; rfl⟩
  ·have ff := aI e0 (aI e1 (aI e7 (aI e8 (aI p1 (aI p2 hr)))))
   refine runMayS_6 (x := ?_)
   clear ff
   refine .inl ⟨by simp, _, rfl, by simp [e0], by simp [e1], by simp [e7], by simp, fun j hj hji => ?_⟩
   by_cases hq : j = i
   ·subst hq; exact hr
   ·exact hgood j hj (by omega)
 ·rintro st ⟨env', rfl, e0, e1, e7, e8, hgood⟩
  have ff := aI e7 e8
  refine runMayS_5 (x := ?_)
  clear ff
  refine ⟨by simp, ?_⟩
  have ff := aI e7 e8
  refine runMayS_5 (x := ?_)
  clear ff
  refine ⟨-1, rfl, ⟨fun h => absurd h (by omega), fun h => ?_⟩⟩
  rw [List.any_eq_true] at h
  obtain ⟨s, hs, hr⟩ := h
  obtain ⟨j, hj, rfl⟩ := List.getElem_of_mem hs
  rw [hgood j hj hj] at hr
  cases hr
theorem c56 {h : Heap} {x : AV} {l : List Inv} (hx : Row tInvite h x (l.map eInv)) : SpecQ Tryz.prog 56 [x, .fn 57 []] h fun r => r = (.bool (l.any fun s => !roleOk s.role), h) := by
 refine SpecQ.drop1 rfl (q56 fun env g0 g1 => ?_)
 have ff := aI g0 g1
 refine runMayS_7 (x := ?_)
 clear ff
 refine SpecQ.step (c90 hx) ?_
 rintro ⟨v, h2⟩ ⟨n, e, hn⟩
 cases e
 have ff := aI g0 g1
 refine runMayS_7 (x := ?_)
 clear ff
 refine ⟨[], ?_⟩
 simp only [oneOrTuple, List.append_nil]
 congr 2
 rw [Bool.eq_iff_iff, decide_eq_true_eq]
 exact hn
set_option maxHeartbeats 2000000 in
theorem c28 {h : Heap} {a : Stt} {vt vp vs vi va vb : AV} (ra : StR h a vt vp vs vi va vb) : SpecQ Tryz.prog 28 [eSt a vt vp vs vi va vb] h fun r => r = (.bool (mayS a), h) := by
 have ta := ra.cells
 have lt := ra.ft.len
 have lp := ra.fp.len
 refine SpecQ.drop1 rfl (q28 fun env g0 => ?_)
 by_cases hs : shapeS a = true
 ·have hs' := hs
  simp only [shapeS, Bool.not_eq_true', Bool.or_eq_false_iff, decide_eq_false_iff_not, Bool.not_eq_false'] at hs'
  obtain ⟨⟨⟨s1, s2⟩, s3⟩, s4⟩ := hs'
  have s2 : a.pass.length % 16 = 0 := by omega
  have ff := aI g0 (aI ta (aI lt (aI lp (aI s1 (aI s2 (aI s3 s4))))))
  refine runMayS_8 (x := ?_)
  clear ff
  refine SpecQ.step (c45 (seen := []) (ra.fs.app _) (map_new (l := []))) ?_
  rintro ⟨v, h2⟩ ⟨seen0, e, hs0⟩
  cases e
  rw [map_put]
  replace hs0 : (decide (a.seats.length ≤ 40) && riseB ([]) (sE a)) = true → seen0 = [] ++ sE a := fun hh => by simp only [Bool.and_eq_true, decide_eq_true_eq] at hh; exact hs0 hh.1 hh.2
  rw [show a.seats.map (·.who.e) = sE a from rfl]
  cases hb0 : (decide (a.seats.length ≤ 40) && riseB ([]) (sE a))
  ·have ff := aI g0 (aI ta (aI lt (aI lp (aI s1 (aI s2 (aI s3 s4))))))
   refine runMayS_9 (x := ?_)
   clear ff
   refine fin_b ?_
   unfold mayS; simp only [hs, hb0, Bool.and_false, Bool.false_and, Bool.true_and]
  have q0 := hs0 hb0
  subst q0
  rw [List.nil_append]
  have ff := aI g0 (aI ta (aI lt (aI lp (aI s1 (aI s2 (aI s3 s4))))))
  refine runMayS_9 (x := ?_)
  clear ff
  refine SpecQ.step (c47 (seen := sE a) (ra.fi.app _) (map_new (l := sE a))) ?_
  rintro ⟨v, h2⟩ ⟨seen1, e, hs1⟩
  cases e
  rw [map_put]
  replace hs1 : (decide (a.invites.length ≤ 40) && riseB (sE a) (iE a)) = true → seen1 = sE a ++ iE a := fun hh => by simp only [Bool.and_eq_true, decide_eq_true_eq] at hh; exact hs1 hh.1 hh.2
  rw [show a.invites.map (·.who.e) = iE a from rfl]
  cases hb1 : (decide (a.invites.length ≤ 40) && riseB (sE a) (iE a))
  ·have ff := aI g0 (aI ta (aI lt (aI lp (aI s1 (aI s2 (aI s3 s4))))))
   refine runMayS_9 (x := ?_)
   clear ff
   refine fin_b ?_
   unfold mayS; simp only [hs, hb0, hb1, Bool.and_false, Bool.false_and, Bool.true_and]
  have q1 := hs1 hb1
  subst q1
  have ff := aI g0 (aI ta (aI lt (aI lp (aI s1 (aI s2 (aI s3 s4))))))
  refine runMayS_9 (x := ?_)
  clear ff
  refine SpecQ.step (c49 (seen := sE a ++ iE a) (ra.fa.app _) (map_new (l := sE a ++ iE a))) ?_
  rintro ⟨v, h2⟩ ⟨seen2, e, hs2⟩
  cases e
  rw [map_put]
  replace hs2 : (decide (a.asks.length ≤ 40) && riseB (sE a ++ iE a) (aE a)) = true → seen2 = sE a ++ iE a ++ aE a := fun hh => by simp only [Bool.and_eq_true, decide_eq_true_eq] at hh; exact hs2 hh.1 hh.2
  rw [show a.asks.map (·.who.e) = aE a from rfl]
  cases hb2 : (decide (a.asks.length ≤ 40) && riseB (sE a ++ iE a) (aE a))
  ·have ff := aI g0 (aI ta (aI lt (aI lp (aI s1 (aI s2 (aI s3 s4))))))
   refine runMayS_9 (x := ?_)
   clear ff
   refine fin_b ?_
   unfold mayS; simp only [hs, hb0, hb1, hb2, Bool.and_false, Bool.false_and, Bool.true_and]
  have q2 := hs2 hb2
  subst q2
  have ff := aI g0 (aI ta (aI lt (aI lp (aI s1 (aI s2 (aI s3 s4))))))
  refine runMayS_9 (x := ?_)
  clear ff
  refine SpecQ.step (c51 (seen := sE a ++ iE a ++ aE a) (ra.fb.app _) (map_new (l := sE a ++ iE a ++ aE a))) ?_
  rintro ⟨v, h2⟩ ⟨seen3, e, hs3⟩
  cases e
  rw [map_put]
  replace hs3 : (decide (a.bans.length ≤ 40) && riseB (sE a ++ iE a ++ aE a) (bE a)) = true → seen3 = sE a ++ iE a ++ aE a ++ bE a := fun hh => by simp only [Bool.and_eq_true, decide_eq_true_eq] at hh; exact hs3 hh.1 hh.2
  rw [show a.bans.map (·.who.e) = bE a from rfl]
  cases hb3 : (decide (a.bans.length ≤ 40) && riseB (sE a ++ iE a ++ aE a) (bE a))
  ·have ff := aI g0 (aI ta (aI lt (aI lp (aI s1 (aI s2 (aI s3 s4))))))
   refine runMayS_9 (x := ?_)
   clear ff
   refine fin_b ?_
   unfold mayS; simp only [hs, hb0, hb1, hb2, hb3, Bool.and_false, Bool.false_and, Bool.true_and]
  have q3 := hs3 hb3
  subst q3
  cases hA : (a.seats.any fun s => !roleOk s.role)
  ·have ff := aI g0 (aI ta (aI lt (aI lp (aI s1 (aI s2 (aI s3 (aI s4 hA)))))))
   refine runMayS_10 (x := ?_)
   clear ff
   refine fin_b ?_
   unfold mayS; simp only [hs, hb0, hb1, hb2, hb3, hA, Bool.not_false, Bool.true_and]
  ·have ff := aI g0 (aI ta (aI lt (aI lp (aI s1 (aI s2 (aI s3 (aI s4 hA)))))))
   refine runMayS_10 (x := ?_)
   clear ff
   refine fin_b ?_
   unfold mayS; simp only [hs, hb0, hb1, hb2, hb3, hA, Bool.not_true, Bool.true_and, Bool.false_and]
 ·have hs0 : shapeS a = false := Bool.eq_false_iff.2 hs
  have hm : mayS a = false := by unfold mayS; rw [hs0]; rfl
  rw [hm]
  unfold shapeS at hs0
  simp only [Bool.not_eq_false'] at hs0
  repeat' (first | ((with_reducible refine evs_of (a := ?_) ?_ ?_); rotate_left; (focus ((conv => lhs; simp (disch := omega) [g0, ta, lt, lp]); done)); try dsimp only) | ((with_reducible refine gW_do ?_ ?_); (focus (simp (disch := omega) [g0, ta, lt, lp]; done))) | ((with_reducible refine gW_no ?_ ?_); (focus (simp (disch := omega) [g0, ta, lt, lp]; done)); try dsimp only) | ((with_reducible refine gW_un ?_ ?_); (focus (simp (disch := omega) [g0, ta, lt, lp]; done)); try dsimp only) | ((with_reducible refine cndW_T ?_ ?_); (focus (simp (disch := omega) [g0, ta, lt, lp] <;> omega))) | ((with_reducible refine cndW_F ?_ ?_); (focus (simp (disch := omega) [g0, ta, lt, lp] <;> omega))) | (with_reducible refine wL_i ?_) | (with_reducible refine SpecQ.step (c44) ?_; rintro _ rfl; try dsimp only) | ((with_reducible refine SpecA_i (args' := ?_) ?_ ?_); rotate_left; (focus ((conv => lhs; simp (disch := omega) [g0, ta, lt, lp]); done))) | (simp (decide := true) only [sn28, sqW_nrm, sqW_exit, sqW_ret, inBlk_nrm, inBlk_ret, inBlk_same, inBlk_exit, if_true, if_false, retW_nrm, retW_ret]) | ((with_reducible refine cndW_splitE (b := ?_) ?_ ?_ ?_); rotate_left; (focus ((conv => lhs; simp (disch := omega) [g0, ta, lt, lp]); done)); all_goals ((intro hb; try simp only [Bool.not_true, Bool.not_false] at hb); try simp only [hb])) | ((with_reducible refine gv_splitE (b := ?_) ?_ ?_ ?_); rotate_left; (focus ((conv => lhs; simp (disch := omega) [g0, ta, lt, lp]); done)); all_goals ((intro hb; try simp only [Bool.not_true, Bool.not_false] at hb); try simp only [hb])) | ((with_reducible refine gW_splitE (b := ?_) ?_ ?_ ?_); rotate_left; (focus ((conv => lhs; simp (disch := omega) [g0, ta, lt, lp]); done)); all_goals ((intro hb; try simp only [Bool.not_true, Bool.not_false] at hb); try simp only [hb])) | (with_reducible refine gv_split ?_ ?_ <;> (intro hb; try simp only [Bool.not_true, Bool.not_false] at hb) <;> try simp only [hb]) | (with_reducible refine gW_split ?_ ?_ <;> (intro hb; try simp only [Bool.not_true, Bool.not_false] at hb) <;> try simp only [hb]) | (with_reducible refine cndW_split ?_ ?_ <;> (intro hb; try simp only [Bool.not_true, Bool.not_false] at hb) <;> try simp only [hb]))
  all_goals first
   | exact fin_b rfl
   | (exfalso; simp_all; done)
   | trace_state
end Go.Vab

/- How the code of a function is read. Printed by wip/tools/gen2.py and gen3.py (own work). -/
namespace Go.Vab
open Go Go.Proofs
noncomputable section
def cx13 : Ctx := ⟨fun _ _ _ => none,TT,64,[10,11,12,13,14,15,16,18,19,20,21,22,23,24,25,27,28,29,30,32,33,34,35,36,37,38,39,40,41,42,43,44,45,46,47,48,49,50,51,52,54,55,56,58,59,60,61,62,63]⟩
def n13_0 := bodyOf Tryz.f13
def n13_1 := cR n13_0
def n13_2 := cL n13_1
def n13_3 := cR n13_2
def n13_4 := cL n13_3
def n13_5 := cR n13_4
def n13_6 := cR n13_3
def n13_7 := cR n13_1
def n13_8 := cL n13_7
def n13_9 := cR n13_8
def n13_10 := cL n13_9
def n13_11 := cR n13_10
def n13_12 := cR n13_9
def n13_13 := cR n13_7
def n13_14 := cL n13_13
def n13_15 := cR n13_14
def n13_16 := cL n13_15
def n13_17 := cR n13_16
def n13_18 := cR n13_15
def n13_19 := cR n13_13
def n13_20 := cR n13_19
def n13_21 := cR n13_20
def n13_22 := cR n13_21
def n13_23 := cR n13_22
def n13_24 := cL n13_23
def n13_25 := cR n13_24
def n13_26 := cL n13_25
def n13_27 := cR n13_25
def n13_28 := cR n13_23
def n13_29 := cL n13_28
def n13_30 := cR n13_29
def n13_31 := cL n13_30
def n13_32 := cR n13_31
def n13_33 := cR n13_30
def n13_34 := cR n13_28
def n13_35 := cR n13_34
def n13_36 := cR n13_35
def q13 := zQ3 cx13 13 Tryz.f13 n13_0 fun s => (bnd (mLoad tState (s.env.get 6) s.heap) fun v => bnd (bnd (some (s.env.get 7)) fun v => bnd (some []) fun vs => some (v :: vs)) fun vs => some (v :: vs))
set_option maxRecDepth 20000
set_option maxHeartbeats 4000000
def n13_21_w := zDr cx13 [n13_22,n13_21] [6] [0,0,0,0,12,31,63,127] [0,1,2,3,4,5] (.o 6 [7] [] .f)
def n13_20_w := zDr cx13 [n13_21,n13_20] [2,5,7,9] [0,1,3,0,8,31,31,127,255,511] [0,1,3,4] (.o 2 [6] [4] (.o 5 [] [] (.o 7 [8] [] (.o 9 [] [] .f))))
def sn13 := zAll cx13 [[n13_5],[n13_5,n13_4],[n13_6],[n13_4,n13_6,n13_3],[n13_3,n13_2],[n13_11],[n13_11,n13_10],[n13_12],[n13_10,n13_12,n13_9],[n13_9,n13_8],[n13_17],[n13_17,n13_16],[n13_18],[n13_16,n13_18,n13_15],[n13_15,n13_14],[n13_26],[n13_27],[n13_26,n13_27,n13_25],[n13_25,n13_24],[n13_32],[n13_32,n13_31],[n13_33],[n13_31,n13_33,n13_30],[n13_30,n13_29],[n13_36],[n13_36,n13_35],[n13_35,n13_34],[n13_29,n13_34,n13_28],[n13_24,n13_28,n13_23],[n13_23,n13_22],[n13_20,n13_19],[n13_14,n13_19,n13_13],[n13_8,n13_13,n13_7],[n13_2,n13_7,n13_1],[n13_1,n13_0]]
end
end Go.Vab

/- How the code of a function is read. Printed by wip/tools/gen2.py and gen3.py (own work). -/
namespace Go.Vab
open Go Go.Proofs
noncomputable section
def cx20 : Ctx := ⟨fun _ _ _ => none,TT,27,[13,14,15,16,17,18,19,20,21,22,24,25,26]⟩
def n20_0 := bodyOf Tryz.f20
def n20_1 := cR n20_0
def n20_2 := cR n20_1
def n20_3 := cL n20_2
def n20_4 := cR n20_3
def n20_5 := cL n20_4
def n20_6 := cR n20_5
def n20_7 := cR n20_4
def n20_8 := cR n20_2
def n20_9 := cR n20_8
def q20 := zQ5 cx20 20 Tryz.f20 n20_0 fun s => (bnd (mLoad tState (s.env.get 10) s.heap) fun v => bnd (bnd (some (s.env.get 11)) fun v => bnd (some []) fun vs => some (v :: vs)) fun vs => some (v :: vs))
set_option maxRecDepth 20000
set_option maxHeartbeats 4000000
def sn20 := zAll cx20 [[n20_6],[n20_6,n20_5],[n20_7],[n20_5,n20_7,n20_4],[n20_4,n20_3],[n20_9],[n20_9,n20_8],[n20_3,n20_8,n20_2],[n20_2,n20_1],[n20_1,n20_0]]
end
end Go.Vab

/-
  The program's step, walked.
-/
namespace Go.Vab
open Go Go.Proofs
theorem runRp18_0 {G X : Prop} (f : Hd X → G := by
 intro xX
 repeat' (first | refine stp (x := ?_) | (with_reducible refine ValW_i (c28 (ra.app _)) ?_; try dsimp only) | (with_reducible refine SpecQ.step (c28 (ra.app _)) ?_; rintro _ rfl; try dsimp only) | (with_reducible refine stabP_i (c28 (ra.app _)) ?_) | (with_reducible refine ValW_i (c29 (rc.app _)) ?_; try dsimp only) | (with_reducible refine SpecQ.step (c29 (rc.app _)) ?_; rintro _ rfl; try dsimp only) | (with_reducible refine stabP_i (c29 (rc.app _)) ?_) | (simp (decide := true) only [sn13, snB, if_true, if_false]) | (with_reducible refine n13_21_w _ _ _ ?_) | (with_reducible refine n13_20_w _ _ _ ?_))
 exact xX.get) (x : X) : G := f ⟨x⟩
theorem runRp18_1 {G X : Prop} (f : Hd X → G := by
 intro xX
 repeat' (first | refine stp (x := ?_) | (simp (decide := true) only [sn13, snB, if_true, if_false]) | (with_reducible refine n13_21_w _ _ _ ?_) | (with_reducible refine n13_20_w _ _ _ ?_))
 exact xX.get) (x : X) : G := f ⟨x⟩
theorem runRp18_2 {G X : Prop} (f : Hd X → G := by
 intro xX
 repeat' (first | refine stp (x := ?_) | (simp (decide := true) only [sn13, snB, if_true, if_false]))
 exact xX.get) (x : X) : G := f ⟨x⟩
theorem runRp18_3 {G X : Prop} (f : Hd X → G := by
 intro xX
 repeat' (first | refine stp (x := ?_) | (with_reducible refine ValW_i (c17 w4.str) ?_; try dsimp only) | (with_reducible refine SpecQ.step (c17 w4.str) ?_; rintro _ rfl; try dsimp only) | (with_reducible refine stabP_i (c17 w4.str) ?_) | (simp (decide := true) only [sn13, snB, if_true, if_false]) | (with_reducible refine n13_21_w _ _ _ ?_))
 exact xX.get) (x : X) : G := f ⟨x⟩
abbrev eSt0 : AV := eStH 0#32 ci0 acc0 .nilslice .nilslice .nilslice .nilslice .nilslice .nilslice
def PR (h : Heap) (x : Except Nat Stt) (r : AV × Heap) : Prop := match x with
 | .error k => ∃ t, r = (.tuple [eSt0, nat k], h ++ t)
 | .ok z => ∃ (κ : Nat → Nat) (t : Heap) (vt vp vs vi va vb : AV), r = (.tuple [eSt z vt vp vs vi va vb, nat 0], h ++ t) ∧ Wp κ (h ++ t) z vt vp vs vi va vb ∧ ∀ i, i < h.length → κ i = 0
@[simp] theorem fillStep {c : Nat} {b : Pt} {a : Actn} {wt wp : AV} {m : BitVec 8} :
  fillRow tLstep (.node [.nilptr, pt pt0, eActH 0#32 0#8 ci0 pt0 0#8 acc0 .nilslice .nilslice, u8 0#8]) [(0, .ptr c 0 [] tState), (1, pt b), (2, eAct a wt wp), (3, u8 m)] = if (hasTy wt .cell && hasTy wp .cell) = true then some (eStep c b a wt wp m) else none := by
 cases h1 : hasTy wt .cell <;> cases h2 : hasTy wp .cell <;> simp [fillRow, eStep, h1, h2, -fold_eStep]
@[simp] theorem hasTy_eStep {c : Nat} {b : Pt} {a : Actn} {wt wp : AV} {m : BitVec 8} : hasTy (eStep c b a wt wp m) tLstep = (hasTy wt .cell && hasTy wp .cell) := by simp [eStep, -fold_eStep]
def NzE' (x : Except Nat Stt) : Prop := ∀ k, x = .error k → k ≠ 0
theorem madeP_err {s : Stt} {b : Pt} {a : Actn} {k : Nat} (h : madeP s b a = .error k) : k ≠ 0 := by
 have nz_ite : ∀ {c : Prop} [Decidable c] {x y : Except Nat Stt}, NzE' x → NzE' y → NzE' (if c then x else y) := fun h1 h2 => by split <;> assumption
 have nz_ok : ∀ t, NzE' (.ok t) := fun t k h => by cases h
 have nz_err : ∀ {n : Nat}, n ≠ 0 → NzE' (.error n) := fun h k e => by cases e; exact h
 have q : NzE' (madeP s b a) := by
  unfold madeP
  dsimp only
  repeat' (first | exact nz_ok _ | exact nz_err (by decide) | refine nz_ite ?_ ?_ | split)
 exact q k h
set_option maxHeartbeats 8000000 in
theorem c13 {h : Heap} {s : Stt} {vt vp vs vi va vb : AV} {b : Pt} {a : Actn} {wt wp : AV} (ra : StR h s vt vp vs vi va vb) (rc : ActR h a wt wp) :
  SpecQ Tryz.prog 13 [eSt s vt vp vs vi va vb, pt b, eAct a wt wp] h (PR h (stepP s b a)) := by
 have ta := ra.cells
 have tc := rc.cells
 have l1 := ra.fs.len
 rw [List.length_map] at l1
 refine q13 fun env g0 g1 g2 => ?_
 cases h1 : mayS s
 ·have hm : stepP s b a = .error 2 := by simp [stepP, h1]
  have ff := aI g0 (aI g1 (aI g2 (aI ta (aI tc (aI l1 h1)))))
  refine runRp18_0 (x := ?_)
  clear ff
  rw [hm]
  exact ⟨_, rfl⟩
 cases h2 : mayA a
 ·have hm : stepP s b a = .error 2 := by simp [stepP, h2]
  have ff := aI g0 (aI g1 (aI g2 (aI ta (aI tc (aI l1 (aI h1 h2))))))
  refine runRp18_0 (x := ?_)
  clear ff
  rw [hm]
  exact ⟨_, rfl⟩
 by_cases h3 : a.version.setWidth 64 = s.version.setWidth 64 + 1#64
 rotate_left
 ·have hm : stepP s b a = .error 190 := by
   have hc : a.version = 0#32 ∨ a.version - 1#32 ≠ s.version := Classical.byContradiction fun q => h3 ((ver_iff _ _).2 q)
   simp only [stepP, h1, h2, Bool.true_eq_false, or_self, if_false]
   rw [if_pos hc]
  have ff := aI g0 (aI g1 (aI g2 (aI ta (aI tc (aI l1 (aI h1 (aI h2 h3)))))))
  refine runRp18_0 (x := ?_)
  clear ff
  rw [hm]
  exact ⟨_, rfl⟩
 have h3' := (ver_iff _ _).1 h3
 by_cases h5 : s.seats.length = 0
 ·have hm : stepP s b a = .error 197 := by simp only [stepP, h1, h2, Bool.true_eq_false, or_self, if_false, if_neg h3', h5, if_true]
  have ff := aI g0 (aI g1 (aI g2 (aI ta (aI tc (aI l1 (aI h1 (aI h2 (aI h3 h5))))))))
  refine runRp18_0 (x := ?_)
  clear ff
  rw [hm]
  exact ⟨_, rfl⟩
 have hst : stepP s b a = match madeP s b a with
  | .error e => .error e
  | .ok t => .ok { t with version := a.version } := by simp only [stepP, h1, h2, Bool.true_eq_false, or_self, if_false, if_neg h3', h5]; cases madeP s b a <;> rfl
 have ff := aI g0 (aI g1 (aI g2 (aI ta (aI tc (aI l1 (aI h1 (aI h2 (aI h3 h5))))))))
 refine runRp18_0 (x := ?_)
 clear ff
 obtain ⟨n, hn⟩ : ∃ n, n = h.length := ⟨_, rfl⟩
 obtain ⟨κ0, hκ⟩ : ∃ κ0 : Nat → Nat, κ0 = fun i => if i = n ∨ i = n + 2 ∨ i = n + 3 then 6 else 0 := ⟨_, rfl⟩
 obtain ⟨m1, m2, m3, m4⟩ := may_lens h1
 have hz0 : ∀ i, κ0 i = 0 ∨ κ0 i = 6 := fun i => by rw [hκ]; simp only; split <;> simp
 have kn : κ0 n = 6 := by rw [hκ]; simp
 have kn1 : κ0 (n + 1) = 0 := by rw [hκ]; simp
 have kn2 : κ0 (n + 2) = 6 := by rw [hκ]; simp
 have kn3 : κ0 (n + 3) = 6 := by rw [hκ]; simp
 have klo : ∀ i, i < n → κ0 i = 0 := fun i hi => by rw [hκ]; simp only; rw [if_neg (by omega)]
 refine SpecQ.step (c30 (κ := κ0) (ra.app _) (fun i hi => by rw [hκ]; simp only [List.length_append, List.length_cons, List.length_nil] at hi ⊢; rw [if_neg (by omega)]) (fun i _ => (hz0 i).imp id fun e => by omega) (by omega) (by omega) (by omega) (by omega)) ?_
 rintro _ ⟨κ1, H1, ut, up, us, ui, ua, ub, rfl, wp1, f1⟩
 have F0 : Fr (fun _ => 0) h κ0 (h ++ [⟨eSt s vt vp vs vi va vb, 0, .own⟩, ⟨pt b, 0, .own⟩, ⟨eAct a wt wp, 0, .own⟩, ⟨eSt0, 0, .own⟩]) := ⟨by simp, fun i hi => klo i (by omega), fun i hi _ => List.getElem?_append_left hi⟩
 have F1 := F0.trans f1
 have lc : (h ++ [⟨eSt s vt vp vs vi va vb, 0, .own⟩, ⟨pt b, 0, .own⟩, ⟨eAct a wt wp, 0, .own⟩, ⟨eSt0, 0, .own⟩] : Heap).length = n + 4 := by simp [hn]
 have cs := f1.blk (i := n) (b := ⟨eSt s vt vp vs vi va vb, 0, .own⟩) (by rw [hn]; simp) (.inr (by rw [kn]; decide))
 have cb := f1.blk (i := n + 1) (b := ⟨pt b, 0, .own⟩) (by rw [hn, List.getElem?_append_right (by omega)]; simp) (.inl kn1)
 have ca := f1.blk (i := n + 2) (b := ⟨eAct a wt wp, 0, .own⟩) (by rw [hn, List.getElem?_append_right (by omega)]; simp) (.inr (by rw [kn2]; decide))
 have cr := f1.blk (i := n + 3) (b := ⟨eSt0, 0, .own⟩) (by rw [hn, List.getElem?_append_right (by omega)]; simp) (.inr (by rw [kn3]; decide))
 have k10 : κ1 n = 6 := (f1.old _ (by rw [lc]; omega)).trans kn
 have k11 : κ1 (n + 1) = 0 := (f1.old _ (by rw [lc]; omega)).trans kn1
 have k12 : κ1 (n + 2) = 6 := (f1.old _ (by rw [lc]; omega)).trans kn2
 have k13 : κ1 (n + 3) = 6 := (f1.old _ (by rw [lc]; omega)).trans kn3
 have tu := wp1.str.cells
 have w2 := wp1.wk (c := n) (List.getElem?_eq_some_iff.1 cs).1 k10
 have F2 : Fr (fun _ => 0) h (fun i => if i = n then 1 else κ1 i) (H1.set n ⟨eSt s ut up us ui ua ub, 0, .own⟩) := (F1.wr (by omega) _).kap fun i hi => if_neg (by omega)
 have cb2 := get_ne cb (j := n) (by omega) ⟨eSt s ut up us ui ua ub, 0, .own⟩
 have ca2 := get_ne ca (j := n) (by omega) ⟨eSt s ut up us ui ua ub, 0, .own⟩
 have cr2 := get_ne cr (j := n) (by omega) ⟨eSt s ut up us ui ua ub, 0, .own⟩
 obtain ⟨κ2, hκ2⟩ : ∃ κ2 : Nat → Nat, κ2 = fun i => if i = n then 1 else κ1 i := ⟨_, rfl⟩
 have k21 : κ2 (n + 1) = 0 := by rw [hκ2]; simp only; rw [if_neg (by omega)]; exact k11
 have k22 : κ2 (n + 2) = 6 := by rw [hκ2]; simp only; rw [if_neg (by omega)]; exact k12
 have k23 : κ2 (n + 3) = 6 := by rw [hκ2]; simp only; rw [if_neg (by omega)]; exact k13
 rw [← hκ2] at w2 F2
 obtain ⟨H2, hH2⟩ : ∃ G, H1.set n ⟨eSt s ut up us ui ua ub, 0, .own⟩ = G := ⟨_, rfl⟩
 rw [hH2] at w2 F2 cb2 ca2 cr2
 have bs1 := blk_of cs
 have ba2 : ∀ l, blkAt (H2 ++ l) (n + 2) 0 = some ⟨eAct a wt wp, 0, .own⟩ := fun l => blkAt_app (blk_of ca2) l
 have ba20 := blk_of ca2
 rw [← hn]
 have ff := aI bs1 (aI ba2 (aI ba20 (aI hH2 (aI tu tc))))
 refine runRp18_1 (x := ?_)
 clear ff
 refine SpecQ.step (c31 (rc.t.fr F2 fun _ _ => .inl rfl)) ?_
 rintro _ ⟨xt, t1, rfl, g1, r1⟩
 have y1 := g1.cell
 have ff := aI ba2 (aI ba20 (aI y1 tc))
 refine runRp18_2 (x := ?_)
 clear ff
 refine SpecQ.step (c31 ((rc.p.fr F2 fun _ _ => .inl rfl).app _)) ?_
 rintro _ ⟨xp, t2, rfl, g2, r2⟩
 have y2 := g2.cell
 simp only [List.append_assoc] at g2 ⊢
 have st2 : ∀ l v, (H2 ++ l).set (n + 2) v = H2.set (n + 2) v ++ l := fun l v => set_appL ca2 l v
 have st3 : ∀ l v w, (H2.set (n + 2) w ++ l).set (n + 2) v = H2.set (n + 2) v ++ l := fun l v w => by rw [set_appL (get_eq ca2 w), List.set_set]
 have ba3 : ∀ (v : AV) l, blkAt (H2.set (n + 2) ⟨v, 0, .own⟩ ++ l) (n + 2) 0 = some ⟨v, 0, .own⟩ := fun v l => blkAt_app (blk_of (get_eq ca2 _)) l
 have ff := aI ba2 (aI st2 (aI st3 (aI ba3 (aI y1 (aI y2 tc)))))
 refine runRp18_2 (x := ?_)
 clear ff
 obtain ⟨H3, hH3⟩ : ∃ G, G = H2.set (n + 2) (⟨eAct a xt xp, 0, .own⟩ : Blk) := ⟨_, rfl⟩
 have w3 := w2.wr (p := n + 2) k22 ⟨eAct a xt xp, 0, .own⟩
 have F3 := F2.wr (p := n + 2) (by omega) ⟨eAct a xt xp, 0, .own⟩
 have cb3 := get_ne cb2 (j := n + 2) (by omega) (⟨eAct a xt xp, 0, .own⟩ : Blk)
 have ca3 := get_eq ca2 (⟨eAct a xt xp, 0, .own⟩ : Blk)
 have cr3 := get_ne cr2 (j := n + 2) (by omega) (⟨eAct a xt xp, 0, .own⟩ : Blk)
 rw [← hH3] at w3 F3 cb3 ca3 cr3 ⊢
 have l32 : H3.length = H2.length := by rw [hH3, List.length_set]
 have ln3 : n + 3 < H3.length := (List.getElem?_eq_some_iff.1 cr3).1
 have w4 := w3.byt (t1 ++ t2)
 have F4 := F3.trans (Fr.byt (t1 ++ t2))
 have cb4 := get_app cb3 (t1 ++ t2)
 have ca4 := get_app ca3 (t1 ++ t2)
 have cr4 := get_app cr3 (t1 ++ t2)
 obtain ⟨κ4, hκ4⟩ : ∃ κ4, κ4 = byt κ2 H3.length (H3 ++ (t1 ++ t2)).length := ⟨_, rfl⟩
 rw [← hκ4] at w4 F4
 obtain ⟨H4, hH4⟩ : ∃ G, G = H3 ++ (t1 ++ t2) := ⟨_, rfl⟩
 rw [← hH4] at w4 F4 cb4 ca4 cr4 hκ4 ⊢
 have k42 : κ4 (n + 2) = 6 := by rw [hκ4, byt_old (by omega)]; exact k22
 have k43 : κ4 (n + 3) = 6 := by rw [hκ4, byt_old (by omega)]; exact k23
 have gx : BytO H4 xt a.title := by
  refine (g1.app t2).other fun i hi => ?_
  have := r1 i hi
  rw [hH4, List.append_assoc, List.getElem?_append_right (l₁ := H3) (by omega), List.getElem?_append_right (l₁ := H2) (by omega), l32]
 have gp : BytO H4 xp a.pass := by
  refine g2.other fun i hi => ?_
  have := r2 i hi
  rw [List.length_append] at this
  rw [hH4, List.getElem?_append_right (l₁ := H3) (by omega), List.getElem?_append_right (l₁ := H2) (by omega), l32]
 have kx : ∀ i, rb xt = some i → κ4 i = 7 := fun i hi => by rw [hκ4]; exact byt_in (by have := r1 i hi; omega) (gx.rb_lt' i hi)
 have kp : ∀ i, rb xp = some i → κ4 i = 7 := fun i hi => by rw [hκ4]; exact byt_in (by have := r2 i hi; rw [List.length_append] at this; omega) (gp.rb_lt' i hi)
 have bn4 := blk_of w4.cell
 have bb4 := blk_of cb4
 have ba4 := blk_of ca4
 have ff := aI bb4 (aI ba4 (aI bn4 (aI y1 (aI y2 tu))))
 refine runRp18_3 (x := ?_)
 clear ff
 have x : Sx κ4 (H4 ++ [⟨eStep n b a xt xp (roleOf s b), 0, .own⟩]) n H4.length s b a (roleOf s b) ut up us ui ua ub xt xp := ⟨w4.app _, by simp, w4.top _ (Nat.le_refl _), ⟨gx.b.app _, gp.b.app _⟩, kx, kp, gx.o.app _, gp.o.app _⟩
 refine SpecQ.step (c32 x) ?_
 rintro _ rfl
 have br : ∀ l, blkAt (H4 ++ l) (n + 3) 0 = some ⟨eSt0, 0, .own⟩ := fun l => blkAt_app (blk_of cr4) l
 have st4 : ∀ l v, (H4 ++ l).set (n + 3) v = H4.set (n + 3) v ++ l := fun l v => set_appL cr4 l v
 have br2 : ∀ (v : AV) l, blkAt (H4.set (n + 3) ⟨v, 0, .own⟩ ++ l) (n + 3) 0 = some ⟨v, 0, .own⟩ := fun v l => blkAt_app (blk_of (get_eq cr4 _)) l
 have k0 : ∀ i, i < h.length → (fun _ => 0 : Nat → Nat) i = 0 := fun _ _ => rfl
 have F5 : ∀ l, Fr (fun _ => 0) h κ4 (H4 ++ l) := fun l => F4.trans (Fr.refl _ _).app
 rcases may_split (b := b) h1 h2 with ⟨hw, ok⟩ | ⟨hw, hmd⟩
 rotate_left
 ·rw [hmd] at hst
  rw [hst]
  have ff := aI hw (aI br (aI st4 br2))
  refine runRp18_1 (x := ?_)
  clear ff
  obtain ⟨t, ht⟩ := ((F4.wr (p := n + 3) (by omega) (⟨eSt0, 0, .own⟩ : Blk)).trans (Fr.refl _ _).app).pre (H := h) k0
  exact ⟨t, by rw [← ht]; rfl⟩
 have ff := hw
 refine runRp18_1 (x := ?_)
 clear ff
 refine SpecQ.step (c33 x (srt_may h1) h1 h2 ok rfl) ?_
 rintro ⟨v, H9'⟩ ⟨κ9, H9, fr9, hm⟩
 have F9 := (F5 _).trans fr9
 have cr9 := fr9.blk (get_app cr4 _) (.inr (by rw [k43]; decide))
 have ca9 := fr9.blk (get_app ca4 _) (.inr (by rw [k42]; decide))
 cases hmd : madeP s b a with
 | error k =>
  have hk := madeP_err hmd
  rw [hmd] at hst hm
  simp only at hst hm
  cases hm
  rw [hst]
  have b9 := blk_of cr9
  have b9' : ∀ v : AV, blkAt (H9'.set (n + 3) ⟨v, 0, .own⟩) (n + 3) 0 = some ⟨v, 0, .own⟩ := fun v => blk_of (get_eq cr9 _)
  have ff := aI hk (aI b9 b9')
  refine runRp18_1 (x := ?_)
  clear ff
  obtain ⟨t, ht⟩ := (F9.wr (p := n + 3) (by omega) (⟨eSt0, 0, .own⟩ : Blk)).pre (H := h) k0
  exact ⟨t, by rw [← ht]; rfl⟩
 | ok z =>
  rw [hmd] at hst hm
  simp only at hst hm
  obtain ⟨hv, v1, v2, v3, v4, v5, v6, w9⟩ := hm
  cases hv
  rw [hst]
  have bn := blk_of w9.cell
  have ba := blk_of ca9
  have bnv : ∀ v : AV, blkAt (H9'.set n ⟨v, 0, .own⟩) n 0 = some ⟨v, 0, .own⟩ := fun v => blk_of (get_eq w9.cell _)
  have bnr : ∀ v : Blk, blkAt (H9'.set n v) (n + 3) 0 = some ⟨eSt0, 0, .own⟩ := fun v => blk_of (get_ne cr9 (by omega) _)
  have bnw : ∀ (v : Blk) (w : AV), blkAt ((H9'.set n v).set (n + 3) ⟨w, 0, .own⟩) (n + 3) 0 = some ⟨w, 0, .own⟩ := fun v w => blk_of (get_eq (get_ne cr9 (by omega) _) _)
  have tv := w9.cells
  have ff := aI bn (aI ba (aI bnv (aI bnr (aI bnw tv))))
  refine runRp18_1 (x := ?_)
  clear ff
  obtain ⟨t, ht⟩ := ((F9.wr (p := n) (by omega) (⟨eSt { z with version := a.version } v1 v2 v3 v4 v5 v6, 0, .own⟩ : Blk)).wr (p := n + 3) (by omega) (⟨eSt { z with version := a.version } v1 v2 v3 v4 v5 v6, 0, .own⟩ : Blk)).pre (H := h) k0
  have k9n : κ9 n = 1 := w9.kc
  have k93 : κ9 (n + 3) = 6 := (fr9.old _ (by rw [List.length_append, hH4, List.length_append]; omega)).trans k43
  have wz : Wp κ9 H9' { z with version := a.version } v1 v2 v3 v4 v5 v6 := ⟨w9.top, w9.ft, w9.fp, w9.kt, w9.kp, w9.fs, w9.fi, w9.fa, w9.fb⟩
  have wf := (wz.wr (.inr k9n) (⟨eSt { z with version := a.version } v1 v2 v3 v4 v5 v6, 0, .own⟩ : Blk)).wr (p := n + 3) (.inl k93) (⟨eSt { z with version := a.version } v1 v2 v3 v4 v5 v6, 0, .own⟩ : Blk)
  exact ⟨κ9, t, v1, v2, v3, v4, v5, v6, by rw [← ht]; rfl, by rw [← ht]; exact wf, fun i hi => F9.old i hi⟩
end Go.Vab

/- How the code of a function is read. Printed by wip/tools/gen2.py and gen3.py (own work). -/
namespace Go.Vab
open Go Go.Proofs
noncomputable section
def cx19 : Ctx := ⟨fun _ _ _ => none,TT,108,[8,9,10,11,13,14,15,16,17,18,19,20,21,22,23,24,25,26,27,28,29,30,31,33,34,35,36,37,38,39,40,41,42,43,44,45,46,47,48,49,50,51,53,54,55,56,57,58,59,60,61,62,63,64,65,67,68,69,70,71,72,73,74,75,76,77,78,79,81,82,83,84,85,86,87,88,89,90,91,92,93,94,95,97,98,99,100,101,102,103,104,105,106,107]⟩
def n19_0 := bodyOf Tryz.f19
def n19_1 := cR n19_0
def n19_2 := cL n19_1
def n19_3 := cR n19_2
def n19_4 := cB n19_3
def n19_5 := cB n19_4
def n19_6 := cL n19_5
def n19_7 := cR n19_6
def n19_8 := cL n19_7
def n19_9 := cR n19_7
def n19_10 := cR n19_5
def n19_11 := cL n19_10
def n19_12 := cB n19_11
def n19_13 := cR n19_10
def n19_14 := cR n19_1
def n19_15 := cL n19_14
def n19_16 := cR n19_15
def n19_17 := cB n19_16
def n19_18 := cB n19_17
def n19_19 := cL n19_18
def n19_20 := cR n19_19
def n19_21 := cL n19_20
def n19_22 := cR n19_20
def n19_23 := cR n19_18
def n19_24 := cL n19_23
def n19_25 := cB n19_24
def n19_26 := cR n19_23
def n19_27 := cR n19_14
def n19_28 := cL n19_27
def n19_29 := cR n19_28
def n19_30 := cB n19_29
def n19_31 := cB n19_30
def n19_32 := cL n19_31
def n19_33 := cR n19_32
def n19_34 := cL n19_33
def n19_35 := cR n19_33
def n19_36 := cR n19_31
def n19_37 := cL n19_36
def n19_38 := cB n19_37
def n19_39 := cR n19_36
def n19_40 := cR n19_27
def n19_41 := cL n19_40
def n19_42 := cR n19_41
def n19_43 := cB n19_42
def n19_44 := cB n19_43
def n19_45 := cL n19_44
def n19_46 := cR n19_45
def n19_47 := cL n19_46
def n19_48 := cR n19_46
def n19_49 := cR n19_44
def n19_50 := cL n19_49
def n19_51 := cB n19_50
def n19_52 := cR n19_49
def n19_53 := cR n19_40
def n19_54 := cL n19_53
def n19_55 := cR n19_54
def n19_56 := cB n19_55
def n19_57 := cB n19_56
def n19_58 := cL n19_57
def n19_59 := cR n19_58
def n19_60 := cL n19_59
def n19_61 := cR n19_59
def n19_62 := cR n19_57
def n19_63 := cL n19_62
def n19_64 := cB n19_63
def n19_65 := cR n19_62
def n19_66 := cR n19_53
def n19_67 := cR n19_66
def n19_68 := cB n19_67
def n19_69 := cB n19_68
def n19_70 := cL n19_69
def n19_71 := cR n19_70
def n19_72 := cL n19_71
def n19_73 := cR n19_71
def n19_74 := cR n19_69
def n19_75 := cL n19_74
def n19_76 := cB n19_75
def n19_77 := cR n19_74
def q19 := zQ1 cx19 19 Tryz.f19 n19_0 fun s => (some [])
set_option maxRecDepth 20000
set_option maxHeartbeats 4000000
def n19_12_w := zDr cx19 [n19_12] [13] [0,1,0,7,15,31,63,127,255,7,519,1543,4095,8191] [0,1,2,3,4,5,6,7,8,9,10,11,12] (.o 13 [] [] .f)
def n19_25_w := zDr cx19 [n19_25] [13] [0,1,0,7,15,31,63,127,255,7,519,1543,4095,8191] [0,1,2,3,4,5,6,7,8,9,10,11,12] (.o 13 [] [] .f)
def sn19 := zAll cx19 [[n19_8],[n19_9],[n19_8,n19_9,n19_7],[n19_7,n19_6],[n19_12,n19_11],[n19_13],[n19_11,n19_13,n19_10],[n19_6,n19_10,n19_5],[n19_5,n19_4],[n19_4,n19_3],[n19_3,n19_2],[n19_21],[n19_22],[n19_21,n19_22,n19_20],[n19_20,n19_19],[n19_25,n19_24],[n19_26],[n19_24,n19_26,n19_23],[n19_19,n19_23,n19_18],[n19_18,n19_17],[n19_17,n19_16],[n19_16,n19_15],[n19_34],[n19_35],[n19_34,n19_35,n19_33],[n19_33,n19_32],[n19_38],[n19_38,n19_37],[n19_39],[n19_37,n19_39,n19_36],[n19_32,n19_36,n19_31],[n19_31,n19_30],[n19_30,n19_29],[n19_29,n19_28],[n19_47],[n19_48],[n19_47,n19_48,n19_46],[n19_46,n19_45],[n19_51],[n19_51,n19_50],[n19_52],[n19_50,n19_52,n19_49],[n19_45,n19_49,n19_44],[n19_44,n19_43],[n19_43,n19_42],[n19_42,n19_41],[n19_60],[n19_61],[n19_60,n19_61,n19_59],[n19_59,n19_58],[n19_64],[n19_64,n19_63],[n19_65],[n19_63,n19_65,n19_62],[n19_58,n19_62,n19_57],[n19_57,n19_56],[n19_56,n19_55],[n19_55,n19_54],[n19_72],[n19_73],[n19_72,n19_73,n19_71],[n19_71,n19_70],[n19_76],[n19_76,n19_75],[n19_77],[n19_75,n19_77,n19_74],[n19_70,n19_74,n19_69],[n19_69,n19_68],[n19_68,n19_67],[n19_67,n19_66],[n19_54,n19_66,n19_53],[n19_41,n19_53,n19_40],[n19_28,n19_40,n19_27],[n19_15,n19_27,n19_14],[n19_2,n19_14,n19_1],[n19_1,n19_0]]
end
end Go.Vab

/-
  A state is written over; walked.
-/
namespace Go.Vab
open Go Go.Proofs
theorem runRp24_0 {G X : Prop} (f : Hd X → G := by
 intro xX
 repeat' (first | refine stp (x := ?_) | (simp (decide := true) only [sn19, snB, if_true, if_false]) | (with_reducible refine n19_12_w _ _ _ ?_) | (with_reducible refine n19_25_w _ _ _ ?_))
 exact xX.get) (x : X) : G := f ⟨x⟩
set_option maxHeartbeats 8000000 in
theorem c19 {κ : Nat → Nat} {H : Heap} {z : Stt} {vt vp vs vi va vb : AV} (w : Wp κ H z vt vp vs vi va vb) : SpecQ Tryz.prog 19 [eSt z vt vp vs vi va vb] H fun r => ∃ H' u, r = (.tuple [], H' ++ u) ∧ Sp κ H H' z vt vp vs vi va vb := by
 have tz := w.str.cells
 have ki := w.fi.len
 have kb := w.fb.len
 have ks := w.fs.len
 have ka := w.fa.len
 have kt := w.ft.len
 have kp := w.fp.len
 have mi := w.fi.le
 have mb := w.fb.le
 have ms := w.fs.le
 have ma := w.fa.le
 have mt := w.ft.b.bound
 have mp := w.fp.b.bound
 refine q19 fun env g0 => ?_
 have ff := aI g0 tz
 refine runRp24_0 (x := ?_)
 clear ff
 have sp := Sp.refl w
 obtain ⟨H0, hH0⟩ : ∃ H0, H0 = H := ⟨_, rfl⟩
 rw [← hH0] at sp ⊢
 have e1 : ((env.put 1 (.ptr H0.length 0 [] tState)).put 2 (nat 0)).get 1 = .ptr H0.length 0 [] tState := by simp
 have e2 : ((env.put 1 (.ptr H0.length 0 [] tState)).put 2 (nat 0)).get 2 = nat 0 := by simp
 refine loop_up z.invites.length (fun i st => ∃ env' H', st = ⟨env', H' ++ [⟨eSt z vt vp vs vi va vb, 0, .own⟩]⟩ ∧ env'.get 1 = .ptr H'.length 0 [] tState ∧ env'.get 2 = nat i ∧ Sp κ H0 H' z vt vp vs vi va vb) ?_ ?_ ⟨_, _, rfl, by simp [e1], by simp, sp⟩
 ·rintro i st hi ⟨env', H', rfl, e1, e2, sp⟩
  obtain ⟨b, v, n, p1, p2, p3, p4, p5⟩ := sp.inv hi
  obtain ⟨v', q1, q2⟩ := p5 (n + 1)
  have q3 := m8_add n
  have ff := aI e1 (aI e2 (aI tz (aI ki (aI mi (aI mb (aI ms (aI ma (aI mt (aI mp (aI hi (aI p1 (aI p2 (aI p3 (aI p4 (aI q1 q3)))))))))))))))
  refine runRp24_0 (x := ?_)
  clear ff
  exact .inl ⟨by simp, _, _, rfl, by simp [e1], by simp, q2⟩
 rintro st ⟨env', H', rfl, e1, e2, sp⟩
 have ff := aI e1 (aI e2 (aI tz (aI ki (aI mi (aI mb (aI ms (aI ma (aI mt mp))))))))
 refine runRp24_0 (x := ?_)
 clear ff
 refine ⟨by simp, ?_⟩
 have ff := e1
 refine runRp24_0 (x := ?_)
 clear ff
 refine loop_up z.bans.length (fun i st => ∃ env' H', st = ⟨env', H' ++ [⟨eSt z vt vp vs vi va vb, 0, .own⟩]⟩ ∧ env'.get 1 = .ptr H'.length 0 [] tState ∧ env'.get 3 = nat i ∧ Sp κ H0 H' z vt vp vs vi va vb) ?_ ?_ ⟨_, _, rfl, by simp [e1], by simp, sp⟩
 ·rintro i st hi ⟨env', H', rfl, e1, e2, sp⟩
  obtain ⟨b, v, n, p1, p2, p3, p4, p5⟩ := sp.bn hi
  obtain ⟨v', q1, q2⟩ := p5 (n + 1)
  have q3 := m8_add n
  have ff := aI e1 (aI e2 (aI tz (aI kb (aI mi (aI mb (aI ms (aI ma (aI mt (aI mp (aI hi (aI p1 (aI p2 (aI p3 (aI p4 (aI q1 q3)))))))))))))))
  refine runRp24_0 (x := ?_)
  clear ff
  exact .inl ⟨by simp, _, _, rfl, by simp [e1], by simp, q2⟩
 rintro st ⟨env', H', rfl, e1, e2, sp⟩
 have ff := aI e1 (aI e2 (aI tz (aI kb (aI mi (aI mb (aI ms (aI ma (aI mt mp))))))))
 refine runRp24_0 (x := ?_)
 clear ff
 refine ⟨by simp, ?_⟩
 have ff := e1
 refine runRp24_0 (x := ?_)
 clear ff
 refine loop_up z.title.length (fun i st => ∃ env' H', st = ⟨env', H' ++ [⟨eSt z vt vp vs vi va vb, 0, .own⟩]⟩ ∧ env'.get 1 = .ptr H'.length 0 [] tState ∧ env'.get 4 = nat i ∧ Sp κ H0 H' z vt vp vs vi va vb) ?_ ?_ ⟨_, _, rfl, by simp [e1], by simp, sp⟩
 ·rintro i st hi ⟨env', H', rfl, e1, e2, sp⟩
  obtain ⟨b, v, n, p1, p2, p3, p4, p5⟩ := sp.ttl hi
  obtain ⟨v', q1, q2⟩ := p5 (n + 1)
  have q3 := m8_add n
  have ff := aI e1 (aI e2 (aI tz (aI kt (aI mi (aI mb (aI ms (aI ma (aI mt (aI mp (aI hi (aI p1 (aI p2 (aI p3 (aI p4 (aI q1 q3)))))))))))))))
  refine runRp24_0 (x := ?_)
  clear ff
  exact .inl ⟨by simp, _, _, rfl, by simp [e1], by simp, q2⟩
 rintro st ⟨env', H', rfl, e1, e2, sp⟩
 have ff := aI e1 (aI e2 (aI tz (aI kt (aI mi (aI mb (aI ms (aI ma (aI mt mp))))))))
 refine runRp24_0 (x := ?_)
 clear ff
 refine ⟨by simp, ?_⟩
 have ff := e1
 refine runRp24_0 (x := ?_)
 clear ff
 refine loop_up z.pass.length (fun i st => ∃ env' H', st = ⟨env', H' ++ [⟨eSt z vt vp vs vi va vb, 0, .own⟩]⟩ ∧ env'.get 1 = .ptr H'.length 0 [] tState ∧ env'.get 5 = nat i ∧ Sp κ H0 H' z vt vp vs vi va vb) ?_ ?_ ⟨_, _, rfl, by simp [e1], by simp, sp⟩
 ·rintro i st hi ⟨env', H', rfl, e1, e2, sp⟩
  obtain ⟨b, v, n, p1, p2, p3, p4, p5⟩ := sp.psw hi
  obtain ⟨v', q1, q2⟩ := p5 (n + 1)
  have q3 := m8_add n
  have ff := aI e1 (aI e2 (aI tz (aI kp (aI mi (aI mb (aI ms (aI ma (aI mt (aI mp (aI hi (aI p1 (aI p2 (aI p3 (aI p4 (aI q1 q3)))))))))))))))
  refine runRp24_0 (x := ?_)
  clear ff
  exact .inl ⟨by simp, _, _, rfl, by simp [e1], by simp, q2⟩
 rintro st ⟨env', H', rfl, e1, e2, sp⟩
 have ff := aI e1 (aI e2 (aI tz (aI kp (aI mi (aI mb (aI ms (aI ma (aI mt mp))))))))
 refine runRp24_0 (x := ?_)
 clear ff
 refine ⟨by simp, ?_⟩
 have ff := e1
 refine runRp24_0 (x := ?_)
 clear ff
 refine loop_up z.seats.length (fun i st => ∃ env' H', st = ⟨env', H' ++ [⟨eSt z vt vp vs vi va vb, 0, .own⟩]⟩ ∧ env'.get 1 = .ptr H'.length 0 [] tState ∧ env'.get 6 = nat i ∧ Sp κ H0 H' z vt vp vs vi va vb) ?_ ?_ ⟨_, _, rfl, by simp [e1], by simp, sp⟩
 ·rintro i st hi ⟨env', H', rfl, e1, e2, sp⟩
  obtain ⟨b, v, n, p1, p2, p3, p4, p5⟩ := sp.st hi
  obtain ⟨v', q1, q2⟩ := p5 (n + 1)
  have q3 := m32_add n
  have ff := aI e1 (aI e2 (aI tz (aI ks (aI mi (aI mb (aI ms (aI ma (aI mt (aI mp (aI hi (aI p1 (aI p2 (aI p3 (aI p4 (aI q1 q3)))))))))))))))
  refine runRp24_0 (x := ?_)
  clear ff
  exact .inl ⟨by simp, _, _, rfl, by simp [e1], by simp, q2⟩
 rintro st ⟨env', H', rfl, e1, e2, sp⟩
 have ff := aI e1 (aI e2 (aI tz (aI ks (aI mi (aI mb (aI ms (aI ma (aI mt mp))))))))
 refine runRp24_0 (x := ?_)
 clear ff
 refine ⟨by simp, ?_⟩
 have ff := e1
 refine runRp24_0 (x := ?_)
 clear ff
 refine loop_up z.asks.length (fun i st => ∃ env' H', st = ⟨env', H' ++ [⟨eSt z vt vp vs vi va vb, 0, .own⟩]⟩ ∧ env'.get 1 = .ptr H'.length 0 [] tState ∧ env'.get 7 = nat i ∧ Sp κ H0 H' z vt vp vs vi va vb) ?_ ?_ ⟨_, _, rfl, by simp [e1], by simp, sp⟩
 ·rintro i st hi ⟨env', H', rfl, e1, e2, sp⟩
  obtain ⟨b, v, n, p1, p2, p3, p4, p5⟩ := sp.ak hi
  obtain ⟨v', q1, q2⟩ := p5 (n + 1)
  have q3 := m32_add n
  have ff := aI e1 (aI e2 (aI tz (aI ka (aI mi (aI mb (aI ms (aI ma (aI mt (aI mp (aI hi (aI p1 (aI p2 (aI p3 (aI p4 (aI q1 q3)))))))))))))))
  refine runRp24_0 (x := ?_)
  clear ff
  exact .inl ⟨by simp, _, _, rfl, by simp [e1], by simp, q2⟩
 rintro st ⟨env', H', rfl, e1, e2, sp⟩
 have ff := aI e1 (aI e2 (aI tz (aI ka (aI mi (aI mb (aI ms (aI ma (aI mt mp))))))))
 refine runRp24_0 (x := ?_)
 clear ff
 refine ⟨by simp, ?_⟩
 have ff := e1
 refine runRp24_0 (x := ?_)
 clear ff
 exact ⟨H', _, rfl, sp⟩
end Go.Vab

/-
  What is said of a step, in plain words: who stands nowhere does nothing but join and ask.
-/
namespace Go.Vab
open Go
theorem stepP_ok {s : Stt} {b : Pt} {a : Actn} {t : Stt} (h : stepP s b a = .ok t) : mayS s = true ∧ mayA a = true ∧ a.version ≠ 0#32 ∧ a.version - 1#32 = s.version ∧ s.seats.length ≠ 0 ∧ ∃ z, madeP s b a = .ok z ∧ t = { z with version := a.version } := by
 unfold stepP at h
 split at h
 ·cases h
 rename_i h1
 split at h
 ·cases h
 rename_i h2
 split at h
 ·cases h
 rename_i h3
 have hs : mayS s = true := by cases q : mayS s; exact absurd (.inl q) h1; rfl
 have ha : mayA a = true := by cases q : mayA a; exact absurd (.inr q) h1; rfl
 refine ⟨hs, ha, fun q => h2 (.inl q), Classical.byContradiction fun q => h2 (.inr q), h3, ?_⟩
 cases hm : madeP s b a with
 | error e => rw [hm] at h; cases h
 | ok z => rw [hm] at h; exact ⟨z, rfl, by cases h; rfl⟩
theorem place_no {s : Stt} {e : Pt} (h : ¬ (1 ≤ (placeP s e).1 ∧ (placeP s e).1 ≤ 3)) : fnd fS s.seats e = none ∧ fnd fI s.invites e = none ∧ fnd fA s.asks e = none := by
 unfold placeP at h
 cases h1 : fnd fS s.seats e with
 | some x => rw [h1] at h; exact absurd ⟨Nat.le_refl _, by simp⟩ h
 | none =>
  rw [h1] at h
  cases h2 : fnd fI s.invites e with
  | some x => rw [h2] at h; exact absurd ⟨by simp, by simp⟩ h
  | none =>
   rw [h2] at h
   cases h3 : fnd fA s.asks e with
   | some x => rw [h3] at h; exact absurd ⟨by simp, by simp⟩ h
   | none => exact ⟨rfl, rfl, rfl⟩
theorem hasP_of {X : Type} {f : X → Pt} {l : List X} {e : Pt} (h : fnd f l e = none) : hasP f l e = false := by simp [hasP, h]
theorem place_0 {s : Stt} {e : Pt} (h1 : fnd fS s.seats e = none) (h2 : fnd fI s.invites e = none) (h3 : fnd fA s.asks e = none) (h4 : hasP fB s.bans e = false) : placeP s e = (0, 0#64, pt0) := by
 simp [placeP, h1, h2, h3, hasP_fnd h4]
theorem apart_law {s : Stt} {b : Pt} {a : Actn} {t : Stt} (h : stepP s b a = .ok t) (hp : ¬ (1 ≤ (placeP s b).1 ∧ (placeP s b).1 ≤ 3)) : (placeP s b).1 = 0 ∧ (a.kind = 9#8 ∨ a.kind = 10#8) ∧ 0 < s.pass.length ∧ a.pass = s.pass ∧ a.who.e = b := by
 obtain ⟨hs, ha, _, _, _, z, hz, _⟩ := stepP_ok h
 obtain ⟨q1, q2, q3⟩ := place_no hp
 have r0 : roleOf s b = 0#8 := roleOf_none q1
 have hA : adds s b a.role = false := by
  cases q : adds s b a.role
  ·rfl
  ·exact absurd r0 (adds_iff.1 q).1
 have n2 : ¬ ((0#8 : BitVec 8) = 2#8) := by decide
 have fin : a.who.e = b → hasP fB s.bans b = false → passOk s a = true → (a.kind = 9#8 ∨ a.kind = 10#8) → (placeP s b).1 = 0 ∧ (a.kind = 9#8 ∨ a.kind = 10#8) ∧ 0 < s.pass.length ∧ a.pass = s.pass ∧ a.who.e = b := by
  intro hw hb hpw hk
  unfold passOk at hpw
  simp only [Bool.and_eq_true, decide_eq_true_eq] at hpw
  exact ⟨by rw [place_0 q1 q2 q3 hb], hk, hpw.1, hpw.2.symm, hw⟩
 rcases mayA_kind ha with hk | hk | hk | hk | hk | hk | hk | hk | hk | hk | hk | hk | hk | hk | hk | hk | hk | hk
 all_goals try (exfalso; simp [madeP, hk, hA, r0, q2, hasP_of q2, hasP_of q3] at hz; done)
 ·simp only [madeP, hk, r0] at hz
  simp only [show ¬ (9#8 : BitVec 8) = 1#8 by decide, show ¬ (9#8 : BitVec 8) = 5#8 by decide, show ¬ (9#8 : BitVec 8) = 2#8 by decide, show ¬ (9#8 : BitVec 8) = 3#8 by decide, show ¬ (9#8 : BitVec 8) = 12#8 by decide, show ¬ (9#8 : BitVec 8) = 13#8 by decide, show ¬ (9#8 : BitVec 8) = 14#8 by decide, show ¬ (9#8 : BitVec 8) = 15#8 by decide, show ¬ (9#8 : BitVec 8) = 4#8 by decide, show ¬ (9#8 : BitVec 8) = 6#8 by decide, show ¬ (9#8 : BitVec 8) = 7#8 by decide, show ¬ (9#8 : BitVec 8) = 8#8 by decide, if_false, if_true] at hz
  split at hz
  ·cases hz
  rename_i hw
  split at hz
  ·cases hz
  rename_i hb
  split at hz
  ·cases hz
  split at hz
  ·cases hz
  split at hz
  ·cases hz
  rename_i hpw
  exact fin (Classical.byContradiction hw) (by simpa using hb) (by simpa using hpw) (.inl hk)
 ·simp only [madeP, hk, r0] at hz
  simp only [show ¬ (10#8 : BitVec 8) = 1#8 by decide, show ¬ (10#8 : BitVec 8) = 5#8 by decide, show ¬ (10#8 : BitVec 8) = 2#8 by decide, show ¬ (10#8 : BitVec 8) = 3#8 by decide, show ¬ (10#8 : BitVec 8) = 12#8 by decide, show ¬ (10#8 : BitVec 8) = 13#8 by decide, show ¬ (10#8 : BitVec 8) = 14#8 by decide, show ¬ (10#8 : BitVec 8) = 15#8 by decide, show ¬ (10#8 : BitVec 8) = 4#8 by decide, show ¬ (10#8 : BitVec 8) = 6#8 by decide, show ¬ (10#8 : BitVec 8) = 7#8 by decide, show ¬ (10#8 : BitVec 8) = 8#8 by decide, show ¬ (10#8 : BitVec 8) = 9#8 by decide, if_false, if_true] at hz
  split at hz
  ·cases hz
  rename_i hw
  split at hz
  ·cases hz
  rename_i hb
  split at hz
  ·cases hz
  split at hz
  ·cases hz
  split at hz
  ·cases hz
  rename_i hpw
  exact fin (Classical.byContradiction hw) (by simpa using hb) (by simpa using hpw) (.inr hk)
end Go.Vab

/- How the code of a function is read. Printed by wip/tools/gen2.py and gen3.py (own work). -/
namespace Go.Vab
open Go Go.Proofs
noncomputable section
def cx27 : Ctx := ⟨fun _ _ _ => none,TT,12,[4,5,6,7,8,9,10,11]⟩
def n27_0 := bodyOf Tryz.f27
def n27_1 := cR n27_0
def n27_2 := cR n27_1
def n27_3 := cR n27_2
def n27_4 := cR n27_3
def n27_5 := cR n27_4
def q27 := zQ1 cx27 27 Tryz.f27 n27_0 fun s => (bnd (mLoad tCipher (s.env.get 2) s.heap) fun v => bnd (some []) fun vs => some (v :: vs))
set_option maxRecDepth 20000
set_option maxHeartbeats 4000000
def sn27 := zAll cx27 [[n27_5],[n27_5,n27_4],[n27_4,n27_3],[n27_3,n27_2],[n27_2,n27_1],[n27_1,n27_0]]
end
end Go.Vab

/- How the code of a function is read. Printed by wip/tools/gen2.py and gen3.py (own work). -/
namespace Go.Vab
open Go Go.Proofs
noncomputable section
def cx22 : Ctx := ⟨fun _ _ _ => none,TT,16,[4,5,6,7,8,9,10,11,12,13,14,15]⟩
def n22_0 := bodyOf Tryz.f22
def n22_1 := cR n22_0
def n22_2 := cR n22_1
def n22_3 := cR n22_2
def q22 := zQ0 cx22 22 Tryz.f22 n22_0 fun s => (bnd (mLoad tState (s.env.get 0) s.heap) fun v => bnd (bnd (some (s.env.get 1)) fun v => bnd (some []) fun vs => some (v :: vs)) fun vs => some (v :: vs))
set_option maxRecDepth 20000
set_option maxHeartbeats 4000000
def sn22 := zAll cx22 [[n22_3],[n22_3,n22_2],[n22_2,n22_1],[n22_1,n22_0]]
end
end Go.Vab

/- How the code of a function is read. Printed by wip/tools/gen2.py and gen3.py (own work). -/
namespace Go.Vab
open Go Go.Proofs
noncomputable section
def cx10 : Ctx := ⟨fun _ _ _ => none,TT,60,[5,7,8,9,10,11,12,13,14,15,16,17,18,19,20,21,22,23,24,25,26,27,28,29,30,31,32,33,34,35,36,37,38,39,40,41,42,43,44,45,46,47,48,49,50,51,52,53,54,55,56,57,58,59]⟩
def n10_0 := bodyOf Tryz.f10
def n10_1 := cR n10_0
def n10_2 := cR n10_1
def n10_3 := cR n10_2
def n10_4 := cR n10_3
def n10_5 := cR n10_4
def q10 := zQ0 cx10 10 Tryz.f10 n10_0 fun s => (bnd (some (s.env.get 0)) fun v => bnd (some []) fun vs => some (v :: vs))
set_option maxRecDepth 20000
set_option maxHeartbeats 4000000
def n10_4_w := zDr cx10 [n10_5,n10_4] [] [0,1,3,7,15,31,63,127,255,511,1023,2047,4095,8191,16383,32767,65535,131071,4095,266239,1048575,2097151,4194303,8388607,16777215,33554431,67108863,134217727,268435455,536870911,1073741823,2147483647] [0,1,2,3,4,5,6,7,8,9,10,11,12,13,14,15,16,17,18,19,20,21,22,23,24,25,26,27,28,29,30,31] .f
def n10_3_w := zDr cx10 [n10_4,n10_3] [5,9,10] [0,0,2,2,10,31,63,127,127,0,767,2047] [0,1,2,3,4] (.b 5 [6,7,8] [] (.o 9 [] [0,1,3] (.o 10 [11] [] .f)) (.o 9 [] [0,1,3] (.o 5 [6,7,8] [] (.o 10 [11] [] .f))))
def n10_2_w := zDr cx10 [n10_3,n10_2] [5,9,10] [0,0,2,2,10,31,63,127,127,0,767,2047] [0,1,2,3,4] (.b 5 [6,7,8] [] (.o 9 [] [0,1,3] (.o 10 [11] [] .f)) (.o 9 [] [0,1,3] (.o 5 [6,7,8] [] (.o 10 [11] [] .f))))
def sn10 := zAll cx10 [[n10_5],[n10_2,n10_1],[n10_1,n10_0]]
end
end Go.Vab

/- How the code of a function is read. Printed by wip/tools/gen2.py and gen3.py (own work). -/
namespace Go.Vab
open Go Go.Proofs
noncomputable section
def cx9 : Ctx := ⟨fun _ _ _ => none,TT,41,[6,7,8,9,10,11,12,13,14,15,16,17,18,19,20,21,22,23,24,25,26,27,28,29,30,31,32,33,34,35,36,37,38,39,40]⟩
def n9_0 := bodyOf Tryz.f9
def n9_1 := cR n9_0
def n9_2 := cR n9_1
def n9_3 := cR n9_2
def q9 := zQ2 cx9 9 Tryz.f9 n9_0 fun s => (bnd (some (s.env.get 4)) fun v => bnd (some []) fun vs => some (v :: vs))
set_option maxRecDepth 20000
set_option maxHeartbeats 4000000
def sn9 := zAll cx9 [[n9_3],[n9_3,n9_2],[n9_2,n9_1],[n9_1,n9_0]]
end
end Go.Vab

/-
  The program's first state of a group; what is known; walked.
-/
namespace Go.Vab
open Go Go.Proofs
theorem runRp19_0 {G X : Prop} (f : Hd X → G := by
 intro xX
 repeat' (first | refine stp (x := ?_) | (simp (decide := true) only [sn20, snB, if_true, if_false]))
 exact xX.get) (x : X) : G := f ⟨x⟩
theorem runRp19_1 {G X : Prop} (f : Hd X → G := by
 intro xX
 repeat' (first | refine stp (x := ?_) | (simp (decide := true) only [sn27, snB, if_true, if_false]))
 exact xX.get) (x : X) : G := f ⟨x⟩
theorem runRp19_2 {G X : Prop} (f : Hd X → G := by
 intro xX
 repeat' (first | refine stp (x := ?_) | (simp (decide := true) only [sn9, snB, if_true, if_false]))
 exact xX.get) (x : X) : G := f ⟨x⟩
theorem runRp19_3 {G X : Prop} (f : Hd X → G := by
 intro xX
 repeat' (first | refine stp (x := ?_) | (with_reducible refine SpecQ.step (c27) ?_; rintro _ rfl; try dsimp only) | (simp (decide := true) only [sn22, snB, if_true, if_false]))
 exact xX.get) (x : X) : G := f ⟨x⟩
theorem runRp19_4 {G X : Prop} (f : Hd X → G := by
 intro xX
 repeat' (first | refine stp (x := ?_) | (simp (decide := true) only [sn22, snB, if_true, if_false]))
 exact xX.get) (x : X) : G := f ⟨x⟩
theorem runRp19_5 {G X : Prop} (f : Hd X → G := by
 intro xX
 repeat' (first | refine stp (x := ?_) | (with_reducible refine bothP_i ?_ ?_) | (with_reducible refine ValW_i (c27) ?_; try dsimp only) | (with_reducible refine SpecQ.step (c27) ?_; rintro _ rfl; try dsimp only) | (with_reducible refine stabP_i (c27) ?_) | (simp (decide := true) only [sn10, snB, if_true, if_false]) | (with_reducible refine n10_4_w _ _ _ ?_) | (with_reducible refine n10_3_w _ _ _ ?_) | (with_reducible refine n10_2_w _ _ _ ?_))
 exact xX.get) (x : X) : G := f ⟨x⟩
theorem runRp19_6 {G X : Prop} (f : Hd X → G := by
 intro xX
 repeat' (first | refine stp (x := ?_) | (with_reducible refine bothP_i ?_ ?_) | (with_reducible refine ValW_i (c27) ?_; try dsimp only) | (with_reducible refine SpecQ.step (c27) ?_; rintro _ rfl; try dsimp only) | (with_reducible refine stabP_i (c27) ?_) | (simp (decide := true) only [sn10, snB, if_true, if_false]))
 exact xX.get) (x : X) : G := f ⟨x⟩
theorem runRp19_7 {G X : Prop} (f : Hd X → G := by
 intro xX
 repeat' (first | refine stp0 (x := ?_) | (with_reducible refine bothP_i ?_ ?_) | (simp (decide := true) only [sn10, snB, if_true, if_false]) | (with_reducible refine n10_4_w _ _ _ ?_) | (with_reducible refine n10_3_w _ _ _ ?_) | (with_reducible refine n10_2_w _ _ _ ?_))
 exact xX.get) (x : X) : G := f ⟨x⟩
theorem runRp19_8 {G X : Prop} (f : Hd X → G := by
 intro xX
 repeat' (first | refine stp (x := ?_) | (with_reducible refine bothP_i ?_ ?_) | (simp (decide := true) only [sn10, snB, if_true, if_false]))
 exact xX.get) (x : X) : G := f ⟨x⟩
@[simp] theorem eCi_put00 (z : Ci) (c : BitVec 8) : (eCi z).put [0, 0] (u8 c) = some (eCi ⟨set0 z.e c, z.f⟩) := by simp [eCi, -fold_eCi]
@[simp] theorem eCi_put10 (z : Ci) (c : BitVec 8) : (eCi z).put [1, 0] (u8 c) = some (eCi ⟨z.e, set0 z.f c⟩) := by simp [eCi, -fold_eCi]
@[simp] theorem ifY_bs {α : Type} (x : Option α) : ifY Tryz.prog 27 x = x := ifY_pos ⟨5, by kernel_rfl, by kernel_rfl⟩ x
@[simp] theorem fillAcc2 (a b : BitVec 8) : fillRow tAccess (eAcc acc0) [(0, u8 a), (1, u8 b)] = some (eAcc ⟨a, b, 0#8⟩) := by simp [fillRow, eAcc, acc0, -fold_eAcc, -acc0_fold]
@[simp] theorem eAct_put1 (v : BitVec 32) (k r k' : BitVec 8) (w : Ci) (e : Pt) (c : Acc) (x y : AV) : (eActH v k w e r c x y).put [1] (u8 k') = some (eActH v k' w e r c x y) := by simp [eActH, -fold_eAct]
@[simp] theorem eCi_fld0 (c : Ci) : mField tCipher (eCi c) 0 = some (pt c.e) := by simp [eCi, -fold_eCi]
@[simp] theorem fillAct4 (v : BitVec 32) (k r : BitVec 8) (w : Ci) : fillRow tAction (eActH 0#32 0#8 ci0 pt0 0#8 acc0 .nilslice .nilslice) [(0, u32 v), (1, u8 k), (2, eCi w), (4, u8 r)] = some (eActH v k w pt0 r acc0 .nilslice .nilslice) := by
 simp [fillRow]
theorem nilRow {T : Ty} {ts : List Ty} (hT : T = .struct ts) (H : Heap) : Row T H .nilslice [] := by subst hT; exact ⟨by simp [mElems], rfl, by simp⟩
theorem oneSeat {H : Heap} {b : Nat} {x : Seat} (h : H[b]? = some ⟨.node [eSeat x], 0, .own⟩) : Row tSeat H (.slice b 0 [] tSeat 0 1 (some 1)) [eSeat x] := by
 have := elems_k (t := tSeat) (E := eSeat) (b := b) (off := 0) (n := 1) (c := some 1) (xs := [x]) h (by simp)
 exact ⟨by simpa using this, ⟨rfl, by simp, rfl⟩, by simp⟩
set_option maxHeartbeats 8000000 in
theorem c20 {h : Heap} {k c : Ci} {t p : Bs} {ac : Acc} {vt vp : AV} (rt : BytL h vt t) (rp : BytL h vp p) : SpecQ Tryz.prog 20 [eCi k, vt, eAcc ac, vp, eCi c] h (PR h (firstP k t ac p c)) := by
 have t1 := rt.cell
 have t2 := rp.cell
 refine q20 fun env g0 g1 g2 g3 g4 => ?_
 have ff := aI g0 (aI g1 (aI g2 (aI g3 (aI g4 (aI t1 t2)))))
 refine runRp19_0 (x := ?_)
 clear ff
 obtain ⟨l, hl⟩ : ∃ l : Heap, l = [⟨eCi k, 0, .own⟩, ⟨eAcc ac, 0, .own⟩, ⟨eCi c, 0, .own⟩, ⟨eSt0, 0, .own⟩, ⟨.node [eSeat ⟨c, 2#8, 0#32⟩], 0, .own⟩, ⟨eStH 0#32 k ac vt vp (.slice (h.length + 4) 0 [] tSeat 0 1 (some 1)) .nilslice .nilslice .nilslice, 0, .own⟩] := ⟨_, rfl⟩
 have hb : (h ++ l)[h.length + 4]? = some ⟨.node [eSeat ⟨c, 2#8, 0#32⟩], 0, .own⟩ := by rw [List.getElem?_append_right (by omega), hl]; simp
 have rs : StR (h ++ l) (firstS k t ac p c) vt vp (.slice (h.length + 4) 0 [] tSeat 0 1 (some 1)) .nilslice .nilslice .nilslice := ⟨rt.app _, rp.app _, oneSeat hb, nilRow tInvite_x _, nilRow tAsk_x _, nilRow tBan_x _⟩
 rw [hl] at rs
 refine SpecQ.step (c28 rs) ?_
 rintro _ rfl
 dsimp only
 cases hm : mayS (firstS k t ac p c)
 ·have e : firstP k t ac p c = .error 2 := by simp [firstP, hm]
  rw [e]
  have ff := aI g0 (aI t1 t2)
  refine runRp19_0 (x := ?_)
  clear ff
  exact ⟨_, rfl⟩
 ·have e : firstP k t ac p c = .ok (firstS k t ac p c) := by simp [firstP, hm]
  rw [e]
  have ff := aI g0 (aI t1 t2)
  refine runRp19_0 (x := ?_)
  clear ff
  obtain ⟨n, hn⟩ : ∃ n, n = h.length + 3 := ⟨_, rfl⟩
  obtain ⟨κ0, hκ⟩ : ∃ κ0 : Nat → Nat, κ0 = fun i => if i = n then 6 else 0 := ⟨_, rfl⟩
  refine SpecQ.step (c30 (κ := κ0) rs (fun i hi => by rw [hκ]; simp only [List.length_append, List.length_cons, List.length_nil] at hi ⊢; rw [if_neg (by omega)]) (fun i _ => by rw [hκ]; simp only; split <;> simp) (by simp) (by simp) (by simp) (by simp)) ?_
  rintro _ ⟨κ1, H1, ut, up, us, ui, ua, ub, rfl, wp1, f1⟩
  have F0 : Fr (fun _ => 0) h κ0 (h ++ l) := ⟨by simp, fun i hi => by rw [hκ]; simp only; rw [if_neg (by omega)], fun i hi _ => List.getElem?_append_left hi⟩
  rw [← hl] at f1
  have F1 := F0.trans f1
  have c3 := f1.blk (i := n) (b := ⟨eSt0, 0, .own⟩) (by rw [hn, List.getElem?_append_right (by omega), hl]; simp) (.inr (by rw [hκ]; simp))
  have k1 : κ1 n = 6 := (f1.old _ (by rw [hn, hl]; simp)).trans (by rw [hκ]; simp)
  have tu := wp1.str.cells
  have b3 := blk_of c3
  have b4 : ∀ v : AV, blkAt (H1.set n ⟨v, 0, .own⟩) n 0 = some ⟨v, 0, .own⟩ := fun v => blk_of (get_eq c3 _)
  rw [← hn]
  have ff := aI b3 (aI b4 tu)
  refine runRp19_0 (x := ?_)
  clear ff
  obtain ⟨u, hu⟩ := (F1.wr (p := n) (by omega) (⟨eSt (firstS k t ac p c) ut up us ui ua ub, 0, .own⟩ : Blk)).pre (H := h) fun _ _ => rfl
  have wf := wp1.wr (.inl k1) (⟨eSt (firstS k t ac p c) ut up us ui ua ub, 0, .own⟩ : Blk)
  exact ⟨κ1, u, ut, up, us, ui, ua, ub, by rw [← hu]; rfl, by rw [← hu]; exact wf, fun i hi => F1.old i hi⟩
theorem c27 {h : Heap} {c : BitVec 8} : SpecQ Tryz.prog 27 [u8 c] h fun r => r = (eCi (personP c), h) := by
 refine SpecQ.drop1 rfl (q27 fun env g0 => ?_)
 have ff := g0
 refine runRp19_1 (x := ?_)
 clear ff
 exact ⟨_, rfl⟩
theorem c9 {h : Heap} {s : Stt} {vt vp vs vi va vb : AV} {a : Actn} {wt wp : AV} (ra : StR h s vt vp vs vi va vb) (rc : ActR h a wt wp) : SpecQ Tryz.prog 9 [eSt s vt vp vs vi va vb, eAct a wt wp] h fun r => r = (.bool (largeP s a), h) := by
 have ta := ra.cells
 have tc := rc.cells
 have l1 := ra.fs.len
 have l2 := ra.fi.len
 have l3 := ra.fa.len
 have l4 := ra.fb.len
 have l5 := ra.ft.len
 have l6 := ra.fp.len
 have l7 := rc.t.len
 have l8 := rc.p.len
 have m1 := ra.fs.bound
 have m2 := ra.fi.bound
 have m3 := ra.fa.bound
 have m4 := ra.fb.bound
 have m5 := ra.ft.bound
 have m6 := ra.fp.bound
 have m7 := rc.t.bound
 have m8 := rc.p.bound
 rw [List.length_map] at l1 l2 l3 l4 m1 m2 m3 m4
 have d1 : mBin .add (nat s.seats.length) (nat s.invites.length) = some (nat (s.seats.length + s.invites.length)) := nat_add (by omega)
 have d2 : mBin .add (nat (s.seats.length + s.invites.length)) (nat s.asks.length) = some (nat (s.seats.length + s.invites.length + s.asks.length)) := nat_add (by omega)
 have d3 : mBin .add (nat (s.seats.length + s.invites.length + s.asks.length)) (nat s.bans.length) = some (nat (s.seats.length + s.invites.length + s.asks.length + s.bans.length)) := nat_add (by omega)
 have d4 : mBin .add (nat s.title.length) (nat s.pass.length) = some (nat (s.title.length + s.pass.length)) := nat_add (by omega)
 have d5 : mBin .add (nat (s.title.length + s.pass.length)) (nat a.title.length) = some (nat (s.title.length + s.pass.length + a.title.length)) := nat_add (by omega)
 have d6 : mBin .add (nat (s.title.length + s.pass.length + a.title.length)) (nat a.pass.length) = some (nat (s.title.length + s.pass.length + a.title.length + a.pass.length)) := nat_add (by omega)
 clear m1 m2 m3 m4 m5 m6 m7 m8
 refine SpecQ.drop1 rfl (q9 fun env g0 g1 => ?_)
 by_cases h1 : 400 < s.seats.length + s.invites.length + s.asks.length + s.bans.length
 ·have ff := aI g0 (aI g1 (aI ta (aI tc (aI l1 (aI l2 (aI l3 (aI l4 (aI l5 (aI l6 (aI l7 (aI l8 (aI d1 (aI d2 (aI d3 (aI d4 (aI d5 (aI d6 h1)))))))))))))))))
  refine runRp19_2 (x := ?_)
  clear ff
  exact ⟨_, by simp only [largeP, h1, decide_true, Bool.true_or]; rfl⟩
 ·have ff := aI g0 (aI g1 (aI ta (aI tc (aI l1 (aI l2 (aI l3 (aI l4 (aI l5 (aI l6 (aI l7 (aI l8 (aI d1 (aI d2 (aI d3 (aI d4 (aI d5 (aI d6 h1)))))))))))))))))
  refine runRp19_2 (x := ?_)
  clear ff
  exact ⟨_, by simp only [largeP, h1, decide_false, Bool.false_or]; rfl⟩
set_option maxHeartbeats 4000000 in
theorem c22 {h : Heap} : SpecQ Tryz.prog 22 [] h fun r => ∃ t vt vp vs vi va vb, r = (.tuple [eSt gS vt vp vs vi va vb, .bool true], h ++ t) ∧ StR (h ++ t) gS vt vp vs vi va vb ∧ ∀ y ∈ [vt, vp, vs, vi, va, vb], ∀ b, rb y = some b → h.length ≤ b := by
 refine q22 fun env => ?_
 have mk : mMark (.slice (h.length + 1) 0 [] (.int .u8) 0 1 (some 1)) (h ++ [⟨eSt0, 0, .own⟩, ⟨arr 1 fun _ => 116#8, 0, .own⟩]) = some (.slice (h.length + 1) 0 [] (.int .u8) 0 1 (some 1), h ++ [⟨eSt0, 0, .own⟩, ⟨arr 1 fun _ => 116#8, 0, .ro⟩]) := by
  simp [mMark, mElems_slc, Ty.size]
 have ff := mk
 refine runRp19_3 (x := ?_)
 clear ff
 have hb : BytL (h ++ [⟨eSt0, 0, .own⟩, ⟨arr 1 fun _ => 116#8, 0, .ro⟩]) (.slice (h.length + 1) 0 [] (.int .u8) 0 1 (some 1)) [116#8] := by
  refine ⟨⟨?_, rfl, Nat.le_refl _, rfl⟩, by simp⟩
  simp [mElems_slc]
  exact arr_congr fun i hi => by have : i = 0 := by omega
                                 subst this; rfl
 refine SpecQ.step (c20 hb (BytL.nil _)) ?_
 rintro _ hr
 rw [first_g] at hr
 obtain ⟨κ, t, vt, vp, vs, vi, va, vb, rfl, w, h0⟩ := hr
 have tv := w.str.cells
 have ho := w.own h0
 have hs := w.str
 simp only [List.append_assoc, List.cons_append, List.nil_append] at hs ⊢
 have ff := tv
 refine runRp19_4 (x := ?_)
 clear ff
 refine ⟨_, vt, vp, vs, vi, va, vb, rfl, (hs.app [⟨eSt gS vt vp vs vi va vb, 0, .own⟩]).other fun y hy b hb => ?_, fun y hy b hb => ?_⟩
 ·have := ho y hy b hb
  simp at this
  have e : ∀ c0 c1 c2 : Blk, h ++ c0 :: c1 :: t ++ [c2] = h ++ ([] ++ c0 :: (c1 :: (t ++ [c2]))) := fun c0 c1 c2 => by simp
  rw [e]
  exact cell_ne (A := []) (by simp; omega)
 ·have := ho y hy b hb
  simp at this
  omega
theorem gT_v : gT.version = 1#32 := rfl
theorem gT_s : gT.seats = [⟨personP 97#8, 2#8, 0#32⟩, ⟨personP 98#8, 1#8, 1#32⟩] := rfl
structure Kn (H : Heap) (env : Env) (p : Nat) (vt vp vs vi va vb : AV) : Prop where
 e2 : env.get 2 = .bool true
 e3 : env.get 3 = .ptr p 0 [] tState
 e4 : env.get 4 = nat 0
 c : H[p]? = some ⟨eSt gT vt vp vs vi va vb, 0, .own⟩
 r : StR H gT vt vp vs vi va vb
set_option maxHeartbeats 4000000 in
theorem known_4 {H : Heap} {env : Env} {p : Nat} {vt vp vs vi va vb : AV} {Q : AV × Heap → Prop} (hQ : ∀ t, Q (.bool true, H ++ t)) (k : Kn H env p vt vp vs vi va vb) (e6 : env.get 6 = nat 191) :
  wC Tryz.prog cx10 n10_4 (retW (fun s => (bnd (some (s.env.get 0)) fun v => bnd (some []) fun vs => some (v :: vs))) Q) ⟨env, H⟩ := by
 obtain ⟨e2, e3, e4, c, r⟩ := k
 have b3 := blk_of c
 have lx := r.fs.len
 rw [gT_s] at lx
 simp only [List.map_cons, List.map_nil, List.length_cons, List.length_nil] at lx
 obtain ⟨pb, pv, pp, bb, i1, i2, i3, i4⟩ := r.fs.idxE (i := 1) (by rw [gT_s]; simp)
 have i20 : blkAt H pb pv = some bb := by simpa using i2 []
 have gv := gT_v
 have gs : gT.seats[1]'(by rw [gT_s]; simp) = ⟨personP 98#8, 1#8, 1#32⟩ := by simp [gT_s]
 rw [gs] at i3 i4
 have ff := aI e2 (aI e3 (aI e4 (aI e6 (aI b3 (aI lx (aI i1 (aI i20 (aI i4 gv))))))))
 refine runRp19_5 (x := ?_)
 clear ff
 have := hQ []
 rw [List.append_nil] at this
 exact this
set_option maxHeartbeats 4000000 in
theorem known_3 {H : Heap} {env : Env} {p : Nat} {vt vp vs vi va vb : AV} {Q : AV × Heap → Prop} (hQ : ∀ t, Q (.bool true, H ++ t)) (k : Kn H env p vt vp vs vi va vb) :
  wC Tryz.prog cx10 n10_3 (retW (fun s => (bnd (some (s.env.get 0)) fun v => bnd (some []) fun vs => some (v :: vs))) Q) ⟨env, H⟩ := by
 have b3 := blk_of k.c
 have b3l := fun u => blkAt_app (blk_of k.c) u
 have e2 := k.e2
 have e3 := k.e3
 have e4 := k.e4
 have tv := k.r.cells
 have hp : p < H.length := (List.getElem?_eq_some_iff.1 k.c).1
 refine n10_3_w _ _ _ ?_
 repeat' (first | ((with_reducible refine evs_of (a := ?_) ?_ ?_); rotate_left; (focus ((conv => lhs; simp (disch := omega) [e3, b3, b3l, tv]); done)); try dsimp only) | ((with_reducible refine gW_do ?_ ?_); (focus (simp (disch := omega) [e3, b3, b3l, tv]; done))) | ((with_reducible refine gW_no ?_ ?_); (focus (simp (disch := omega) [e3, b3, b3l, tv]; done)); try dsimp only) | ((with_reducible refine gW_un ?_ ?_); (focus (simp (disch := omega) [e3, b3, b3l, tv]; done)); try dsimp only) | ((with_reducible refine stabP_i ?_ ?_); (focus (simp (disch := omega) [e3, b3, b3l, tv]; done))) | (with_reducible refine bothP_i ?_ ?_) | ((with_reducible refine ValW_do ?_ ?_); (focus (simp (disch := omega) [e3, b3, b3l, tv]; done)); try dsimp only) | ((with_reducible refine ValW_no ?_ ?_); (focus (simp (disch := omega) [e3, b3, b3l, tv]; done)); try dsimp only) | ((with_reducible refine ValW_un ?_ ?_); (focus (simp (disch := omega) [e3, b3, b3l, tv]; done)); try dsimp only) | (with_reducible refine ValW_i (c27) ?_; try dsimp only) | (with_reducible refine SpecQ.step (c27) ?_; rintro _ rfl; try dsimp only) | (with_reducible refine stabP_i (c27) ?_) | ((with_reducible refine SpecA_i (args' := ?_) ?_ ?_); rotate_left; (focus ((conv => lhs; simp (disch := omega) [e3, b3, b3l, tv]); done))) | ((with_reducible refine ValA_i (args' := ?_) ?_ ?_); rotate_left; (focus ((conv => lhs; simp (disch := omega) [e3, b3, b3l, tv]); done))) | ((with_reducible refine stabA_i (args' := ?_) ?_ ?_); rotate_left; (focus ((conv => lhs; simp (disch := omega) [e3, b3, b3l, tv]); done))) | ((with_reducible refine ValA_fn (g := ?_) (caps := ?_) ?_ ?_); rotate_left; rotate_left; (focus ((conv => lhs; simp (disch := omega) [e3, b3, b3l, tv]); done))) | ((with_reducible refine stabA_fn (g := ?_) (caps := ?_) ?_ ?_); rotate_left; rotate_left; (focus ((conv => lhs; simp (disch := omega) [e3, b3, b3l, tv]); done))) | ((with_reducible refine stab_do ?_ ?_); (focus (simp (disch := omega) [e3, b3, b3l, tv]; done))) | (simp (decide := true) only [sn10, sqW_nrm, sqW_exit, sqW_ret, inBlk_nrm, inBlk_ret, inBlk_same, inBlk_exit, if_true, if_false, retW_nrm, retW_ret]) | ((with_reducible refine gv_splitE (b := ?_) ?_ ?_ ?_); rotate_left; (focus ((conv => lhs; simp (disch := omega) [e3, b3, b3l, tv]); done)); all_goals ((intro hb; try simp only [Bool.not_true, Bool.not_false] at hb); try simp only [hb])) | ((with_reducible refine gW_splitE (b := ?_) ?_ ?_ ?_); rotate_left; (focus ((conv => lhs; simp (disch := omega) [e3, b3, b3l, tv]); done)); all_goals ((intro hb; try simp only [Bool.not_true, Bool.not_false] at hb); try simp only [hb])) | (with_reducible refine gv_split ?_ ?_ <;> (intro hb; try simp only [Bool.not_true, Bool.not_false] at hb) <;> try simp only [hb]) | (with_reducible refine gW_split ?_ ?_ <;> (intro hb; try simp only [Bool.not_true, Bool.not_false] at hb) <;> try simp only [hb]) | (with_reducible refine ValW_split ?_ ?_ <;> (intro hb; try simp only [Bool.not_true, Bool.not_false] at hb) <;> try simp only [hb]))
 ·refine SpecQ.step (c13 (a := kA 2#32 99#8) k.r ⟨BytL.nil _, BytL.nil _⟩) ?_
  rintro _ hr
  rw [step_2] at hr
  obtain ⟨t, rfl⟩ := hr
  have ff := aI e3 (aI b3l tv)
  refine runRp19_6 (x := ?_)
  clear ff
  refine known_4 (env := env.put 6 (nat 191)) (H := H ++ (t ++ [⟨eSt0, 0, .own⟩])) (fun t' => ?_) ⟨by simp [e2], by simp [e3], by simp [e4], get_app k.c _, k.r.app _⟩ (by simp)
  rw [List.append_assoc]
  exact hQ _
 ·refine SpecQ.step (c13 (a := kA 2#32 99#8) (k.r.app [⟨eSt0, 0, .own⟩]) ⟨BytL.nil _, BytL.nil _⟩) ?_
  rintro _ hr
  rw [step_2] at hr
  obtain ⟨t, rfl⟩ := hr
  have ff := aI e3 (aI b3l tv)
  refine runRp19_6 (x := ?_)
  clear ff
  refine known_4 (env := env.put 6 (nat 191)) (H := H ++ ⟨eSt0, 0, .own⟩ :: t) (fun t' => ?_) ⟨by simp [e2], by simp [e3], by simp [e4], get_app k.c _, k.r.app _⟩ (by simp)
  rw [List.append_assoc]
  exact hQ _
set_option maxHeartbeats 4000000 in
theorem known_2 {H : Heap} {env : Env} {p : Nat} {vt vp vs vi va vb : AV} {Q : AV × Heap → Prop} (hQ : ∀ t, Q (.bool true, H ++ t)) (e1 : env.get 1 = .ptr p 0 [] tState) (e2 : env.get 2 = .bool true) (c : H[p]? = some ⟨eSt gS vt vp vs vi va vb, 0, .own⟩) (r : StR H gS vt vp vs vi va vb) :
  wC Tryz.prog cx10 n10_2 (retW (fun s => (bnd (some (s.env.get 0)) fun v => bnd (some []) fun vs => some (v :: vs))) Q) ⟨env, H⟩ := by
 have b3 := blk_of c
 have b3l := fun u => blkAt_app (blk_of c) u
 have tv := r.cells
 refine n10_2_w _ _ _ ?_
 repeat' (first | ((with_reducible refine evs_of (a := ?_) ?_ ?_); rotate_left; (focus ((conv => lhs; simp (disch := omega) [e1, e2, b3, b3l, tv]); done)); try dsimp only) | ((with_reducible refine gW_do ?_ ?_); (focus (simp (disch := omega) [e1, e2, b3, b3l, tv]; done))) | ((with_reducible refine gW_no ?_ ?_); (focus (simp (disch := omega) [e1, e2, b3, b3l, tv]; done)); try dsimp only) | ((with_reducible refine gW_un ?_ ?_); (focus (simp (disch := omega) [e1, e2, b3, b3l, tv]; done)); try dsimp only) | ((with_reducible refine stabP_i ?_ ?_); (focus (simp (disch := omega) [e1, e2, b3, b3l, tv]; done))) | (with_reducible refine bothP_i ?_ ?_) | ((with_reducible refine ValW_do ?_ ?_); (focus (simp (disch := omega) [e1, e2, b3, b3l, tv]; done)); try dsimp only) | ((with_reducible refine ValW_no ?_ ?_); (focus (simp (disch := omega) [e1, e2, b3, b3l, tv]; done)); try dsimp only) | ((with_reducible refine ValW_un ?_ ?_); (focus (simp (disch := omega) [e1, e2, b3, b3l, tv]; done)); try dsimp only) | (with_reducible refine ValW_i (c27) ?_; try dsimp only) | (with_reducible refine SpecQ.step (c27) ?_; rintro _ rfl; try dsimp only) | (with_reducible refine stabP_i (c27) ?_) | ((with_reducible refine SpecA_i (args' := ?_) ?_ ?_); rotate_left; (focus ((conv => lhs; simp (disch := omega) [e1, e2, b3, b3l, tv]); done))) | ((with_reducible refine ValA_i (args' := ?_) ?_ ?_); rotate_left; (focus ((conv => lhs; simp (disch := omega) [e1, e2, b3, b3l, tv]); done))) | ((with_reducible refine stabA_i (args' := ?_) ?_ ?_); rotate_left; (focus ((conv => lhs; simp (disch := omega) [e1, e2, b3, b3l, tv]); done))) | ((with_reducible refine ValA_fn (g := ?_) (caps := ?_) ?_ ?_); rotate_left; rotate_left; (focus ((conv => lhs; simp (disch := omega) [e1, e2, b3, b3l, tv]); done))) | ((with_reducible refine stabA_fn (g := ?_) (caps := ?_) ?_ ?_); rotate_left; rotate_left; (focus ((conv => lhs; simp (disch := omega) [e1, e2, b3, b3l, tv]); done))) | ((with_reducible refine stab_do ?_ ?_); (focus (simp (disch := omega) [e1, e2, b3, b3l, tv]; done))) | (simp (decide := true) only [sn10, sqW_nrm, sqW_exit, sqW_ret, inBlk_nrm, inBlk_ret, inBlk_same, inBlk_exit, if_true, if_false, retW_nrm, retW_ret]) | ((with_reducible refine gv_splitE (b := ?_) ?_ ?_ ?_); rotate_left; (focus ((conv => lhs; simp (disch := omega) [e1, e2, b3, b3l, tv]); done)); all_goals ((intro hb; try simp only [Bool.not_true, Bool.not_false] at hb); try simp only [hb])) | ((with_reducible refine gW_splitE (b := ?_) ?_ ?_ ?_); rotate_left; (focus ((conv => lhs; simp (disch := omega) [e1, e2, b3, b3l, tv]); done)); all_goals ((intro hb; try simp only [Bool.not_true, Bool.not_false] at hb); try simp only [hb])) | (with_reducible refine gv_split ?_ ?_ <;> (intro hb; try simp only [Bool.not_true, Bool.not_false] at hb) <;> try simp only [hb]) | (with_reducible refine gW_split ?_ ?_ <;> (intro hb; try simp only [Bool.not_true, Bool.not_false] at hb) <;> try simp only [hb]) | (with_reducible refine ValW_split ?_ ?_ <;> (intro hb; try simp only [Bool.not_true, Bool.not_false] at hb) <;> try simp only [hb]))
 ·refine SpecQ.step (c13 (a := kA 1#32 98#8) r ⟨BytL.nil _, BytL.nil _⟩) ?_
  rintro _ hr
  rw [step_1] at hr
  obtain ⟨κ, t, ut, up, us, ui, ua, ub, rfl, w, h0⟩ := hr
  have tu := w.str.cells
  have hs := w.str
  have ff := aI e1 (aI b3l (aI tv tu))
  refine runRp19_6 (x := ?_)
  clear ff
  refine known_3 (vt := ut) (vp := up) (vs := us) (vi := ui) (va := ua) (vb := ub) (p := H.length + t.length) (H := H ++ (t ++ [⟨eSt gT ut up us ui ua ub, 0, .own⟩])) (fun t' => ?_) ⟨?_, ?_, ?_, ?_, ?_⟩
  ·rw [List.append_assoc]
   exact hQ _
  ·simp [e2]
  ·simp
  ·simp
  ·rw [← List.append_assoc, List.getElem?_append_right (by simp)]
   simp
  ·rw [← List.append_assoc]
   exact hs.app _
 ·refine SpecQ.step (c13 (a := kA 1#32 98#8) (r.app [⟨eSt0, 0, .own⟩]) ⟨BytL.nil _, BytL.nil _⟩) ?_
  rintro _ hr
  rw [step_1] at hr
  obtain ⟨κ, t, ut, up, us, ui, ua, ub, rfl, w, h0⟩ := hr
  have tu := w.str.cells
  have hs := w.str
  have ho := w.own h0
  have ff := aI e1 (aI b3l (aI tv tu))
  refine runRp19_6 (x := ?_)
  clear ff
  refine known_3 (vt := ut) (vp := up) (vs := us) (vi := ui) (va := ua) (vb := ub) (p := H.length) (H := H ++ ⟨eSt gT ut up us ui ua ub, 0, .own⟩ :: t) (fun t' => ?_) ⟨?_, ?_, ?_, ?_, hs.other fun y hy b hb => ?_⟩
  ·rw [List.append_assoc]
   exact hQ _
  ·simp [e2]
  ·simp
  ·simp
  ·simp
  ·have := ho y hy b hb
   simp at this
   have e : ∀ c0 : Blk, H ++ c0 :: t = H ++ ([] ++ c0 :: t) := fun c0 => by simp
   rw [List.append_assoc, List.singleton_append, e, e]
   exact cell_ne (A := []) (by simp; omega)
set_option maxHeartbeats 4000000 in
theorem c10 {h : Heap} : SpecQ Tryz.prog 10 [] h fun r => r = (.bool true, h) := by
 refine SpecQ.drop1 rfl (q10 fun env => ?_)
 refine runRp19_7 (x := ?_)
 refine SpecQ.step c22 ?_
 rintro _ ⟨t, vt, vp, vs, vi, va, vb, rfl, r, -⟩
 have tv := r.cells
 have ff := tv
 refine runRp19_8 (x := ?_)
 clear ff
 refine known_2 (vt := vt) (vp := vp) (vs := vs) (vi := vi) (va := va) (vb := vb) (p := h.length + t.length) (H := h ++ (t ++ [⟨eSt gS vt vp vs vi va vb, 0, .own⟩])) (fun t' => ?_) ?_ ?_ ?_ ?_
 ·rw [List.append_assoc]
  exact ⟨_, rfl⟩
 ·simp
 ·simp
 ·rw [← List.append_assoc, List.getElem?_append_right (by simp)]
  simp
 ·rw [← List.append_assoc]
  exact r.app _
end Go.Vab

/- How the code of a function is read. Printed by wip/tools/gen2.py and gen3.py (own work). -/
namespace Go.Vab
open Go Go.Proofs
noncomputable section
def cx15 : Ctx := ⟨fun _ _ _ => none,TT,162,[13,14,15,16,17,18,19,20,21,22,23,24,25,26,27,28,29,30,31,32,33,34,35,36,37,38,39,40,41,42,43,44,45,46,47,48,49,50,51,52,53,54,55,56,57,58,59,60,61,62,63,64,65,66,67,68,69,70,71,72,73,74,75,76,77,78,79,80,81,82,83,84,86,87,88,89,91,92,93,94,95,96,97,98,99,100,101,102,103,104,106,107,108,109,111,112,113,114,115,116,117,118,119,120,121,122,123,124,126,127,128,129,131,132,133,134,135,136,137,138,139,140,141,142,144,145,146,147,149,150,151,152,153,154,155,156,157,158,159,160]⟩
def n15_0 := bodyOf Tryz.f15
def n15_1 := cR n15_0
def n15_2 := cL n15_1
def n15_3 := cR n15_2
def n15_4 := cL n15_3
def n15_5 := cR n15_4
def n15_6 := cR n15_3
def n15_7 := cR n15_1
def n15_8 := cL n15_7
def n15_9 := cR n15_8
def n15_10 := cB n15_9
def n15_11 := cB n15_10
def n15_12 := cL n15_11
def n15_13 := cR n15_12
def n15_14 := cL n15_13
def n15_15 := cR n15_13
def n15_16 := cR n15_11
def n15_17 := cL n15_16
def n15_18 := cB n15_17
def n15_19 := cR n15_18
def n15_20 := cR n15_19
def n15_21 := cL n15_20
def n15_22 := cR n15_21
def n15_23 := cR n15_20
def n15_24 := cR n15_16
def n15_25 := cR n15_7
def n15_26 := cL n15_25
def n15_27 := cR n15_26
def n15_28 := cB n15_27
def n15_29 := cB n15_28
def n15_30 := cL n15_29
def n15_31 := cR n15_30
def n15_32 := cL n15_31
def n15_33 := cR n15_31
def n15_34 := cR n15_29
def n15_35 := cL n15_34
def n15_36 := cB n15_35
def n15_37 := cR n15_36
def n15_38 := cR n15_37
def n15_39 := cL n15_38
def n15_40 := cR n15_39
def n15_41 := cR n15_38
def n15_42 := cR n15_34
def n15_43 := cR n15_25
def n15_44 := cL n15_43
def n15_45 := cR n15_44
def n15_46 := cB n15_45
def n15_47 := cB n15_46
def n15_48 := cL n15_47
def n15_49 := cR n15_48
def n15_50 := cL n15_49
def n15_51 := cR n15_49
def n15_52 := cR n15_47
def n15_53 := cL n15_52
def n15_54 := cB n15_53
def n15_55 := cR n15_54
def n15_56 := cL n15_55
def n15_57 := cR n15_56
def n15_58 := cR n15_55
def n15_59 := cR n15_52
def n15_60 := cR n15_43
def n15_61 := cL n15_60
def n15_62 := cR n15_61
def n15_63 := cB n15_62
def n15_64 := cB n15_63
def n15_65 := cL n15_64
def n15_66 := cR n15_65
def n15_67 := cL n15_66
def n15_68 := cR n15_66
def n15_69 := cR n15_64
def n15_70 := cL n15_69
def n15_71 := cB n15_70
def n15_72 := cR n15_71
def n15_73 := cL n15_72
def n15_74 := cR n15_73
def n15_75 := cR n15_72
def n15_76 := cR n15_69
def n15_77 := cR n15_60
def n15_78 := cR n15_77
def q15 := zQ2 cx15 15 Tryz.f15 n15_0 fun s => (bnd (some (s.env.get 4)) fun v => bnd (some []) fun vs => some (v :: vs))
set_option maxRecDepth 20000
set_option maxHeartbeats 4000000
def n15_18_w := zDr cx15 [n15_19,n15_18] [10,11,12,13] [0,1,0,7,15,0,32,0,224,480,0,0,3103,8191] [0,1,2,3,4,5,6,7,8,9] (.b 10 [] [1,4,6,9] (.o 11 [] [1,4,6,9] (.o 12 [] [6,9] (.o 13 [] [] .f))) (.o 11 [] [1,4,6,9] (.o 10 [] [1,4,6,9] (.o 12 [] [6,9] (.o 13 [] [] .f)))))
def n15_36_w := zDr cx15 [n15_37,n15_36] [10,11,12,13] [0,1,0,7,15,0,32,0,224,480,0,0,3103,8191] [0,1,2,3,4,5,6,7,8,9] (.b 10 [] [1,4,6,9] (.o 11 [] [1,4,6,9] (.o 12 [] [6,9] (.o 13 [] [] .f))) (.o 11 [] [1,4,6,9] (.o 10 [] [1,4,6,9] (.o 12 [] [6,9] (.o 13 [] [] .f)))))
def n15_54_w := zDr cx15 [n15_55,n15_54] [] [0,1,0,7,15,0,32,0,224,480,1023] [0,1,2,3,4,5,6,7,8,9,10] .f
def n15_71_w := zDr cx15 [n15_72,n15_71] [] [0,1,0,7,15,0,32,0,224,480,1023] [0,1,2,3,4,5,6,7,8,9,10] .f
def sn15 := zAll cx15 [[n15_5],[n15_5,n15_4],[n15_6],[n15_4,n15_6,n15_3],[n15_3,n15_2],[n15_14],[n15_15],[n15_14,n15_15,n15_13],[n15_13,n15_12],[n15_22],[n15_22,n15_21],[n15_23],[n15_21,n15_23,n15_20],[n15_20,n15_19],[n15_18,n15_17],[n15_24],[n15_17,n15_24,n15_16],[n15_12,n15_16,n15_11],[n15_11,n15_10],[n15_10,n15_9],[n15_9,n15_8],[n15_32],[n15_33],[n15_32,n15_33,n15_31],[n15_31,n15_30],[n15_40],[n15_40,n15_39],[n15_41],[n15_39,n15_41,n15_38],[n15_38,n15_37],[n15_36,n15_35],[n15_42],[n15_35,n15_42,n15_34],[n15_30,n15_34,n15_29],[n15_29,n15_28],[n15_28,n15_27],[n15_27,n15_26],[n15_50],[n15_51],[n15_50,n15_51,n15_49],[n15_49,n15_48],[n15_57],[n15_57,n15_56],[n15_58],[n15_56,n15_58,n15_55],[n15_54,n15_53],[n15_59],[n15_53,n15_59,n15_52],[n15_48,n15_52,n15_47],[n15_47,n15_46],[n15_46,n15_45],[n15_45,n15_44],[n15_67],[n15_68],[n15_67,n15_68,n15_66],[n15_66,n15_65],[n15_74],[n15_74,n15_73],[n15_75],[n15_73,n15_75,n15_72],[n15_71,n15_70],[n15_76],[n15_70,n15_76,n15_69],[n15_65,n15_69,n15_64],[n15_64,n15_63],[n15_63,n15_62],[n15_62,n15_61],[n15_78],[n15_78,n15_77],[n15_61,n15_77,n15_60],[n15_44,n15_60,n15_43],[n15_26,n15_43,n15_25],[n15_8,n15_25,n15_7],[n15_2,n15_7,n15_1],[n15_1,n15_0]]
end
end Go.Vab

/-
  The document's SameState, walked.
-/
namespace Go.Vab
open Go Go.Proofs
theorem runRSame_0 {G X Y : Prop} (f : Hd X → Hd Y → G := by
 intro xX yX
 repeat' (first | refine stp (x := ?_) | (with_reducible refine bothP_i ?_ ?_) | (simp (decide := true) only [sn15, snB, if_true, if_false]) | (with_reducible refine n15_18_w _ _ _ ?_) | (with_reducible refine n15_36_w _ _ _ ?_) | (with_reducible refine n15_54_w _ _ _ ?_) | (with_reducible refine n15_71_w _ _ _ ?_))
 ·exact xX.get
 ·exact yX.get) (x : X) (y : Y) : G := f ⟨x⟩ ⟨y⟩
theorem runRSame_1 {G X : Prop} (f : Hd X → G := by
 intro xX
 repeat' (first | refine stp (x := ?_) | (with_reducible refine bothP_i ?_ ?_) | (simp (decide := true) only [sn15, snB, if_true, if_false]) | (with_reducible refine n15_18_w _ _ _ ?_) | (with_reducible refine n15_36_w _ _ _ ?_) | (with_reducible refine n15_54_w _ _ _ ?_) | (with_reducible refine n15_71_w _ _ _ ?_))
 exact xX.get) (x : X) : G := f ⟨x⟩
theorem c15 {h : Heap} {a b : Stt} {at_ ap as_ ai aa ab bt bp bs bi ba bb : AV} (ra : StR h a at_ ap as_ ai aa ab) (rb : StR h b bt bp bs bi ba bb) :
  SpecQ Tryz.prog 15 [eSt a at_ ap as_ ai aa ab, eSt b bt bp bs bi ba bb] h fun r => r = (.bool (decide (a = b)), h) := by
 have ta := ra.cells
 have tb := rb.cells
 obtain ⟨A, hA⟩ : ∃ A, A = eSt a at_ ap as_ ai aa ab := ⟨_, rfl⟩
 obtain ⟨B, hB⟩ : ∃ B, B = eSt b bt bp bs bi ba bb := ⟨_, rfl⟩
 have sat := fun l => (ra.ft.app l).str
 have sap := fun l => (ra.fp.app l).str
 have sbt := fun l => (rb.ft.app l).str
 have sbp := fun l => (rb.fp.app l).str
 have las := ra.fs.len
 have lai := ra.fi.len
 have laa := ra.fa.len
 have lab := ra.fb.len
 have lbs := rb.fs.len
 have lbi := rb.fi.len
 have lba := rb.fa.len
 have lbb := rb.fb.len
 have bas := ra.fs.bound
 have bai := ra.fi.bound
 have baa := ra.fa.bound
 have bab := ra.fb.bound
 simp only [List.length_map] at las lai laa lab lbs lbi lba lbb bas bai baa bab
 refine SpecQ.drop1 rfl (q15 fun env g0 g1 => ?_)
 repeat' (first | ((with_reducible refine evs_of (a := ?_) ?_ ?_); rotate_left; (focus ((conv => lhs; simp (disch := omega) [g0, g1, ta, tb, sat, sap, sbt, sbp, las, lai, laa, lab, lbs, lbi, lba, lbb]); done)); try dsimp only) | ((with_reducible refine cndW_T ?_ ?_); (focus (simp (disch := omega) [g0, g1, ta, tb, sat, sap, sbt, sbp, las, lai, laa, lab, lbs, lbi, lba, lbb] <;> omega))) | ((with_reducible refine cndW_F ?_ ?_); (focus (simp (disch := omega) [g0, g1, ta, tb, sat, sap, sbt, sbp, las, lai, laa, lab, lbs, lbi, lba, lbb] <;> omega))) | ((with_reducible refine stabP_i ?_ ?_); (focus (simp (disch := omega) [g0, g1, ta, tb, sat, sap, sbt, sbp, las, lai, laa, lab, lbs, lbi, lba, lbb]; done))) | (with_reducible refine bothP_i ?_ ?_) | (with_reducible refine wL_i ?_) | ((with_reducible refine stabA_i (args' := ?_) ?_ ?_); rotate_left; (focus ((conv => lhs; simp (disch := omega) [g0, g1, ta, tb, sat, sap, sbt, sbp, las, lai, laa, lab, lbs, lbi, lba, lbb]); done))) | ((with_reducible refine stabA_fn (g := ?_) (caps := ?_) ?_ ?_); rotate_left; rotate_left; (focus ((conv => lhs; simp (disch := omega) [g0, g1, ta, tb, sat, sap, sbt, sbp, las, lai, laa, lab, lbs, lbi, lba, lbb]); done))) | ((with_reducible refine stab_do ?_ ?_); (focus (simp (disch := omega) [g0, g1, ta, tb, sat, sap, sbt, sbp, las, lai, laa, lab, lbs, lbi, lba, lbb]; done))) | (simp (decide := true) only [sn15, sqW_nrm, sqW_exit, sqW_ret, inBlk_nrm, inBlk_ret, inBlk_same, inBlk_exit, if_true, if_false, retW_nrm, retW_ret]) | (with_reducible refine n15_18_w _ _ _ ?_) | (with_reducible refine n15_36_w _ _ _ ?_) | (with_reducible refine n15_54_w _ _ _ ?_) | (with_reducible refine n15_71_w _ _ _ ?_) | ((with_reducible refine cndW_splitE (b := ?_) ?_ ?_ ?_); rotate_left; (focus ((conv => lhs; simp (disch := omega) [g0, g1, ta, tb, sat, sap, sbt, sbp, las, lai, laa, lab, lbs, lbi, lba, lbb]); done)); all_goals ((intro hb; try simp only [Bool.not_true, Bool.not_false] at hb); try simp only [hb])) | ((with_reducible refine gv_splitE (b := ?_) ?_ ?_ ?_); rotate_left; (focus ((conv => lhs; simp (disch := omega) [g0, g1, ta, tb, sat, sap, sbt, sbp, las, lai, laa, lab, lbs, lbi, lba, lbb]); done)); all_goals ((intro hb; try simp only [Bool.not_true, Bool.not_false] at hb); try simp only [hb])) | (with_reducible refine gv_split ?_ ?_ <;> (intro hb; try simp only [Bool.not_true, Bool.not_false] at hb) <;> try simp only [hb]) | (with_reducible refine cndW_split ?_ ?_ <;> (intro hb; try simp only [Bool.not_true, Bool.not_false] at hb) <;> try simp only [hb]))
 rotate_left
 all_goals try (refine fin_b (decide_eq_false ?_).symm; rintro rfl; simp_all; done)
 rename_i u1 u2 u3 u4 u5 u6 u7 u8
 simp only [Bool.not_eq_false', decide_eq_true_eq, Bool.or_eq_false_iff] at u1 u2 u3 u4 u5 u6 u7 u8 hb
 -- seats
 refine loop_up a.seats.length (fun i st => ∃ env' t, st = ⟨env', h ++ (⟨eSt a at_ ap as_ ai aa ab, 0, .own⟩ :: ⟨eSt b bt bp bs bi ba bb, 0, .own⟩ :: t)⟩ ∧ env'.get 2 = .ptr h.length 0 [] tState ∧ env'.get 3 = .ptr (h.length + 1) 0 [] tState ∧ env'.get 5 = nat i ∧ ∀ j, j < i → a.seats[j]? = b.seats[j]?) ?_ ?_ ⟨_, _, rfl, by simp [*], by simp [*], by simp, fun j hj => absurd hj (by omega)⟩
 ·rintro i st hi ⟨env', t, rfl, e2, e3, ei, hj⟩
  obtain ⟨p, p1, p2⟩ := ra.fs.idx (i := i) (by simpa using hi)
  obtain ⟨q, q1, q2⟩ := rb.fs.idx (i := i) (by simpa [← u6] using hi)
  simp only [List.getElem?_map, List.getElem?_eq_getElem hi, Option.map_some] at p2
  simp only [List.getElem?_map, List.getElem?_eq_getElem (show i < b.seats.length by omega), Option.map_some] at q2
  by_cases hab : a.seats[i] = b.seats[i]
  ·have ff := aI e2 (aI e3 (aI ei (aI p1 (aI p2 (aI q1 (aI q2 (aI hab las)))))))
   refine runRSame_0 (x := ?_) (y := ?_)
   all_goals clear ff
   all_goals
    refine .inl ⟨by simp, _, _, rfl, by simp [e2], by simp [e3], by simp, fun j hj' => ?_⟩
    by_cases hji : j = i
    ·subst hji
     rw [List.getElem?_eq_getElem hi, List.getElem?_eq_getElem (by omega), hab]
    ·exact hj j (by omega)
  ·have ff := aI e2 (aI e3 (aI ei (aI p1 (aI p2 (aI q1 (aI q2 (aI hab las)))))))
   refine runRSame_0 (x := ?_) (y := ?_)
   all_goals clear ff
   all_goals
    refine .inr ⟨by simp, ?_⟩
    have ff := aI e2 (aI e3 ei)
    refine runRSame_1 (x := ?_)
    clear ff
    refine fin_b (decide_eq_false ?_).symm
    rintro rfl
    exact hab rfl
 rintro st ⟨env', t, rfl, e2, e3, ei, hj⟩
 have ff := aI e2 (aI e3 (aI ei las))
 refine runRSame_1 (x := ?_)
 clear ff
 refine ⟨by simp, ?_⟩
 have ff := aI e2 (aI e3 (aI ei las))
 refine runRSame_1 (x := ?_)
 clear ff
 have w_seats : a.seats = b.seats := List.ext_getElem? fun j => by
  by_cases hj' : j < a.seats.length
  ·exact hj j hj'
  ·rw [List.getElem?_eq_none (by omega), List.getElem?_eq_none (by omega)]
 clear hj
 -- invites
 refine loop_up a.invites.length (fun i st => ∃ env' t, st = ⟨env', h ++ (⟨eSt a at_ ap as_ ai aa ab, 0, .own⟩ :: ⟨eSt b bt bp bs bi ba bb, 0, .own⟩ :: t)⟩ ∧ env'.get 2 = .ptr h.length 0 [] tState ∧ env'.get 3 = .ptr (h.length + 1) 0 [] tState ∧ env'.get 8 = nat i ∧ ∀ j, j < i → a.invites[j]? = b.invites[j]?) ?_ ?_ ⟨_, _, rfl, by simp [*], by simp [*], by simp, fun j hj => absurd hj (by omega)⟩
 ·rintro i st hi ⟨env', t, rfl, e2, e3, ei, hj⟩
  obtain ⟨p, p1, p2⟩ := ra.fi.idx (i := i) (by simpa using hi)
  obtain ⟨q, q1, q2⟩ := rb.fi.idx (i := i) (by simpa [← u7] using hi)
  simp only [List.getElem?_map, List.getElem?_eq_getElem hi, Option.map_some] at p2
  simp only [List.getElem?_map, List.getElem?_eq_getElem (show i < b.invites.length by omega), Option.map_some] at q2
  by_cases hab : a.invites[i] = b.invites[i]
  ·have ff := aI e2 (aI e3 (aI ei (aI p1 (aI p2 (aI q1 (aI q2 (aI hab lai)))))))
   refine runRSame_0 (x := ?_) (y := ?_)
   all_goals clear ff
   all_goals
    refine .inl ⟨by simp, _, _, rfl, by simp [e2], by simp [e3], by simp, fun j hj' => ?_⟩
    by_cases hji : j = i
    ·subst hji
     rw [List.getElem?_eq_getElem hi, List.getElem?_eq_getElem (by omega), hab]
    ·exact hj j (by omega)
  ·have ff := aI e2 (aI e3 (aI ei (aI p1 (aI p2 (aI q1 (aI q2 (aI hab lai)))))))
   refine runRSame_0 (x := ?_) (y := ?_)
   all_goals clear ff
   all_goals
    refine .inr ⟨by simp, ?_⟩
    have ff := aI e2 (aI e3 ei)
    refine runRSame_1 (x := ?_)
    clear ff
    refine fin_b (decide_eq_false ?_).symm
    rintro rfl
    exact hab rfl
 rintro st ⟨env', t, rfl, e2, e3, ei, hj⟩
 have ff := aI e2 (aI e3 (aI ei lai))
 refine runRSame_1 (x := ?_)
 clear ff
 refine ⟨by simp, ?_⟩
 have ff := aI e2 (aI e3 (aI ei lai))
 refine runRSame_1 (x := ?_)
 clear ff
 have w_invites : a.invites = b.invites := List.ext_getElem? fun j => by
  by_cases hj' : j < a.invites.length
  ·exact hj j hj'
  ·rw [List.getElem?_eq_none (by omega), List.getElem?_eq_none (by omega)]
 clear hj
 -- asks
 refine loop_up a.asks.length (fun i st => ∃ env' t, st = ⟨env', h ++ (⟨eSt a at_ ap as_ ai aa ab, 0, .own⟩ :: ⟨eSt b bt bp bs bi ba bb, 0, .own⟩ :: t)⟩ ∧ env'.get 2 = .ptr h.length 0 [] tState ∧ env'.get 3 = .ptr (h.length + 1) 0 [] tState ∧ env'.get 11 = nat i ∧ ∀ j, j < i → a.asks[j]? = b.asks[j]?) ?_ ?_ ⟨_, _, rfl, by simp [*], by simp [*], by simp, fun j hj => absurd hj (by omega)⟩
 ·rintro i st hi ⟨env', t, rfl, e2, e3, ei, hj⟩
  obtain ⟨p, p1, p2⟩ := ra.fa.idx (i := i) (by simpa using hi)
  obtain ⟨q, q1, q2⟩ := rb.fa.idx (i := i) (by simpa [← u8] using hi)
  simp only [List.getElem?_map, List.getElem?_eq_getElem hi, Option.map_some] at p2
  simp only [List.getElem?_map, List.getElem?_eq_getElem (show i < b.asks.length by omega), Option.map_some] at q2
  by_cases hab : a.asks[i] = b.asks[i]
  ·have ff := aI e2 (aI e3 (aI ei (aI p1 (aI p2 (aI q1 (aI q2 (aI hab laa)))))))
   refine runRSame_1 (x := ?_)
   clear ff
   all_goals
    refine .inl ⟨by simp, _, _, rfl, by simp [e2], by simp [e3], by simp, fun j hj' => ?_⟩
    by_cases hji : j = i
    ·subst hji
     rw [List.getElem?_eq_getElem hi, List.getElem?_eq_getElem (by omega), hab]
    ·exact hj j (by omega)
  ·have ff := aI e2 (aI e3 (aI ei (aI p1 (aI p2 (aI q1 (aI q2 (aI hab laa)))))))
   refine runRSame_1 (x := ?_)
   clear ff
   all_goals
    refine .inr ⟨by simp, ?_⟩
    have ff := aI e2 (aI e3 ei)
    refine runRSame_1 (x := ?_)
    clear ff
    refine fin_b (decide_eq_false ?_).symm
    rintro rfl
    exact hab rfl
 rintro st ⟨env', t, rfl, e2, e3, ei, hj⟩
 have ff := aI e2 (aI e3 (aI ei laa))
 refine runRSame_1 (x := ?_)
 clear ff
 refine ⟨by simp, ?_⟩
 have ff := aI e2 (aI e3 (aI ei laa))
 refine runRSame_1 (x := ?_)
 clear ff
 have w_asks : a.asks = b.asks := List.ext_getElem? fun j => by
  by_cases hj' : j < a.asks.length
  ·exact hj j hj'
  ·rw [List.getElem?_eq_none (by omega), List.getElem?_eq_none (by omega)]
 clear hj
 -- bans
 refine loop_up a.bans.length (fun i st => ∃ env' t, st = ⟨env', h ++ (⟨eSt a at_ ap as_ ai aa ab, 0, .own⟩ :: ⟨eSt b bt bp bs bi ba bb, 0, .own⟩ :: t)⟩ ∧ env'.get 2 = .ptr h.length 0 [] tState ∧ env'.get 3 = .ptr (h.length + 1) 0 [] tState ∧ env'.get 12 = nat i ∧ ∀ j, j < i → a.bans[j]? = b.bans[j]?) ?_ ?_ ⟨_, _, rfl, by simp [*], by simp [*], by simp, fun j hj => absurd hj (by omega)⟩
 ·rintro i st hi ⟨env', t, rfl, e2, e3, ei, hj⟩
  obtain ⟨p, p1, p2⟩ := ra.fb.idx (i := i) (by simpa using hi)
  obtain ⟨q, q1, q2⟩ := rb.fb.idx (i := i) (by simpa [← hb] using hi)
  simp only [List.getElem?_map, List.getElem?_eq_getElem hi, Option.map_some] at p2
  simp only [List.getElem?_map, List.getElem?_eq_getElem (show i < b.bans.length by omega), Option.map_some] at q2
  by_cases hab : a.bans[i] = b.bans[i]
  ·have ff := aI e2 (aI e3 (aI ei (aI p1 (aI p2 (aI q1 (aI q2 (aI hab lab)))))))
   refine runRSame_1 (x := ?_)
   clear ff
   all_goals
    refine .inl ⟨by simp, _, _, rfl, by simp [e2], by simp [e3], by simp, fun j hj' => ?_⟩
    by_cases hji : j = i
    ·subst hji
     rw [List.getElem?_eq_getElem hi, List.getElem?_eq_getElem (by omega), hab]
    ·exact hj j (by omega)
  ·have ff := aI e2 (aI e3 (aI ei (aI p1 (aI p2 (aI q1 (aI q2 (aI hab lab)))))))
   refine runRSame_1 (x := ?_)
   clear ff
   all_goals
    refine .inr ⟨by simp, ?_⟩
    have ff := aI e2 (aI e3 ei)
    refine runRSame_1 (x := ?_)
    clear ff
    refine fin_b (decide_eq_false ?_).symm
    rintro rfl
    exact hab rfl
 rintro st ⟨env', t, rfl, e2, e3, ei, hj⟩
 have ff := aI e2 (aI e3 (aI ei lab))
 refine runRSame_1 (x := ?_)
 clear ff
 refine ⟨by simp, ?_⟩
 have ff := aI e2 (aI e3 (aI ei lab))
 refine runRSame_1 (x := ?_)
 clear ff
 have w_bans : a.bans = b.bans := List.ext_getElem? fun j => by
  by_cases hj' : j < a.bans.length
  ·exact hj j hj'
  ·rw [List.getElem?_eq_none (by omega), List.getElem?_eq_none (by omega)]
 clear hj
 refine fin_b (decide_eq_true ?_).symm
 cases a
 cases b
 simp_all
end Go.Vab

/- How the code of a function is read. Printed by wip/tools/gen2.py and gen3.py (own work). -/
namespace Go.Vab
open Go Go.Proofs
noncomputable section
def cx6 : Ctx := ⟨fun _ _ _ => none,TT,87,[8,9,12,13,15,16,17,18,19,20,21,22,23,24,25,26,27,28,29,30,31,32,33,34,35,36,37,38,40,41,42,43,44,45,46,47,48,49,50,51,52,53,54,55,56,57,58,59,60,61,62,63,64,65,66,67,68,69,70,71,72,73,74,75,76,77,78,79,80,81,82,83,84,85,86]⟩
def n6_0 := bodyOf Tryz.f6
def n6_1 := cR n6_0
def n6_2 := cL n6_1
def n6_3 := cR n6_2
def n6_4 := cL n6_3
def n6_5 := cR n6_4
def n6_6 := cR n6_3
def n6_7 := cR n6_1
def n6_8 := cR n6_7
def n6_9 := cR n6_8
def n6_10 := cL n6_9
def n6_11 := cR n6_10
def n6_12 := cL n6_11
def n6_13 := cR n6_12
def n6_14 := cR n6_11
def n6_15 := cR n6_9
def n6_16 := cR n6_15
def q6 := zQ3 cx6 6 Tryz.f6 n6_0 fun s => (bnd (some (s.env.get 6)) fun v => bnd (some []) fun vs => some (v :: vs))
set_option maxRecDepth 20000
set_option maxHeartbeats 4000000
def sn6 := zAll cx6 [[n6_5],[n6_5,n6_4],[n6_6],[n6_4,n6_6,n6_3],[n6_3,n6_2],[n6_13],[n6_13,n6_12],[n6_14],[n6_12,n6_14,n6_11],[n6_11,n6_10],[n6_16],[n6_16,n6_15],[n6_10,n6_15,n6_9],[n6_9,n6_8],[n6_8,n6_7],[n6_2,n6_7,n6_1],[n6_1,n6_0]]
end
end Go.Vab
