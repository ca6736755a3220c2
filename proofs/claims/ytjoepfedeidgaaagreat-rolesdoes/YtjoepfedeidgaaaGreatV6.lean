/-
  A step is done: its first statements, whose order is open; walked.
-/
import Derived.Test.YtjoepfedeidgaaaGreatV3
import Derived.Test.YtjoepfedeidgaaaGreatV5
import Derived.Test.YtjoepfedeidgaaaGreatV4
set_option linter.all false
set_option linter.unusedSectionVars false
namespace Go.Vab
open Go Go.Proofs
/-- A cell of nobody's. -/
def Cel (κ : Nat → Nat) (G : Heap) (p : Nat) (v : AV) : Prop := G[p]? = some ⟨v, 0, .own⟩ ∧ (κ p = 0 ∨ 6 ≤ κ p)
theorem Cel.lt {κ : Nat → Nat} {G : Heap} {p : Nat} {v : AV} (h : Cel κ G p v) : p < G.length := (List.getElem?_eq_some_iff.1 h.1).1
theorem Cel.next {κ κ' : Nat → Nat} {G G' : Heap} {p : Nat} {v : AV} (h : Cel κ G p v) (fr : Fr κ G κ' G') : Cel κ' G' p v := ⟨fr.blk h.1 h.2, by rw [fr.old _ h.lt]; exact h.2⟩
theorem Cel.app {κ : Nat → Nat} {G : Heap} {p : Nat} {v : AV} (h : Cel κ G p v) (l : Heap) : Cel κ (G ++ l) p v := ⟨by rw [List.getElem?_append_left h.lt]; exact h.1, h.2⟩
theorem Cel.blk {κ : Nat → Nat} {G : Heap} {p : Nat} {v : AV} (h : Cel κ G p v) (l : Heap) : blkAt (G ++ l) p 0 = some ⟨v, 0, .own⟩ := blkAt_app (blk_of h.1) l
theorem Cel.blk0 {κ : Nat → Nat} {G : Heap} {p : Nat} {v : AV} (h : Cel κ G p v) : blkAt G p 0 = some ⟨v, 0, .own⟩ := blk_of h.1
theorem Cel.new {κ : Nat → Nat} {H l : Heap} {k : Nat} {v : AV} (top : ∀ i, H.length ≤ i → κ i = 0) (h : l[k]? = some ⟨v, 0, .own⟩) : Cel κ (H ++ l) (H.length + k) v := ⟨by rw [List.getElem?_append_right (by omega), Nat.add_sub_cancel_left]; exact h, .inl (top _ (by omega))⟩
theorem Cel.new0 {κ : Nat → Nat} {H l : Heap} {v : AV} (top : ∀ i, H.length ≤ i → κ i = 0) (h : l[0]? = some ⟨v, 0, .own⟩) : Cel κ (H ++ l) H.length v := Cel.new top h
theorem Cel.scr {κ : Nat → Nat} {G : Heap} {p : Nat} {v : AV} (h : Cel κ G p v) (w : Blk) : Cel (Go.Vab.scr κ G.length) (G ++ [w]) p v := ⟨by rw [List.getElem?_append_left h.lt]; exact h.1, by rw [scr_ne (by have := h.lt; omega)]; exact h.2⟩
theorem Cel.own (κ : Nat → Nat) (G : Heap) (v : AV) : Cel (Go.Vab.scr κ G.length) (G ++ [⟨v, 0, .own⟩]) G.length v := ⟨by simp, .inr (by rw [scr_self]; decide)⟩
theorem Cel.wr {κ : Nat → Nat} {G : Heap} {p q : Nat} {v : AV} (h : Cel κ G p v) (hq : q ≠ p) (w : Blk) : Cel κ (G.set q w) p v := ⟨by rw [List.getElem?_set_ne hq]; exact h.1, h.2⟩
theorem Cel.set {κ : Nat → Nat} {G : Heap} {p : Nat} {v : AV} (h : Cel κ G p v) (w : AV) : Cel κ (G.set p ⟨w, 0, .own⟩) p w := ⟨List.getElem?_set_self h.lt, h.2⟩
abbrev rollS (c : Nat) : AV := .node [.ptr c 0 [5] .cell, .fn 91 []]
abbrev rollI (c : Nat) : AV := .node [.ptr c 0 [6] .cell, .fn 92 []]
abbrev rollA (c : Nat) : AV := .node [.ptr c 0 [7] .cell, .fn 93 []]
abbrev rollB (c : Nat) : AV := .node [.ptr c 0 [8] .cell, .fn 117 []]
section
variable {κ : Nat → Nat} {H : Heap} {c xb : Nat} {s : Stt} {b : Pt} {a : Actn} {m : BitVec 8} {vt vp vs vi va vb wt wp : AV}
set_option maxHeartbeats 4000000 in
theorem do_start1 (x : Sx κ H c xb s b a m vt vp vs vi va vb wt wp) {Q : Ex × St → Prop} {env : Env} (g0 : env.get 0 = .ptr xb 0 [] tLstep)
    (tail : ∀ (env' : Env) (l : Heap) (p3 p4 p5 : Nat), env'.get 0 = .ptr xb 0 [] tLstep → env'.get 3 = .ptr p3 0 [] tRollSeat → env'.get 4 = .ptr p4 0 [] tRollInvite → env'.get 5 = .ptr p5 0 [] tRollAsk → Cel κ (H ++ l) p3 (rollS c) → Cel κ (H ++ l) p4 (rollI c) → Cel κ (H ++ l) p5 (rollA c) → wC Tryz.prog cx33 n33_2 Q ⟨env', H ++ l⟩) :
    wC Tryz.prog cx33 n33_0 Q ⟨env, H⟩ := by
  have sx := x.blk
  have wb := x.w.blk
  have sx0 := blk_of x.st
  have wb0 := blk_of x.w.cell
  have top := x.w.top
  repeat' (first | ((with_reducible refine evs_of (a := ?_) ?_ ?_); rotate_left; (focus ((conv => lhs; simp (disch := omega) [g0, sx, wb, sx0, wb0]); done)); try dsimp only) | ((with_reducible refine gW_do ?_ ?_); (focus (simp (disch := omega) [g0, sx, wb, sx0, wb0]; done))) | ((with_reducible refine gW_no ?_ ?_); (focus (simp (disch := omega) [g0, sx, wb, sx0, wb0]; done)); try dsimp only) | ((with_reducible refine gW_un ?_ ?_); (focus (simp (disch := omega) [g0, sx, wb, sx0, wb0]; done)); try dsimp only) | ((with_reducible refine cndW_T ?_ ?_); (focus (simp (disch := omega) [g0, sx, wb, sx0, wb0] <;> omega))) | ((with_reducible refine cndW_F ?_ ?_); (focus (simp (disch := omega) [g0, sx, wb, sx0, wb0] <;> omega))) | ((with_reducible refine stabP_i ?_ ?_); (focus (simp (disch := omega) [g0, sx, wb, sx0, wb0]; done))) | (with_reducible refine bothP_i ?_ ?_) | (with_reducible refine wL_i ?_) | ((with_reducible refine ValW_do ?_ ?_); (focus (simp (disch := omega) [g0, sx, wb, sx0, wb0]; done)); try dsimp only) | ((with_reducible refine ValW_no ?_ ?_); (focus (simp (disch := omega) [g0, sx, wb, sx0, wb0]; done)); try dsimp only) | ((with_reducible refine ValW_un ?_ ?_); (focus (simp (disch := omega) [g0, sx, wb, sx0, wb0]; done)); try dsimp only) | (with_reducible refine ValW_i (c63 x.w.lt) ?_; try dsimp only) | (with_reducible refine SpecQ.step (c63 x.w.lt) ?_; rintro _ rfl; try dsimp only) | (with_reducible refine stabP_i (c63 x.w.lt) ?_) | (with_reducible refine ValW_i (c64 x.w.lt) ?_; try dsimp only) | (with_reducible refine SpecQ.step (c64 x.w.lt) ?_; rintro _ rfl; try dsimp only) | (with_reducible refine stabP_i (c64 x.w.lt) ?_) | (with_reducible refine ValW_i (c65 x.w.lt) ?_; try dsimp only) | (with_reducible refine SpecQ.step (c65 x.w.lt) ?_; rintro _ rfl; try dsimp only) | (with_reducible refine stabP_i (c65 x.w.lt) ?_) | (with_reducible refine ValW_i (c63 (x.lt _)) ?_; try dsimp only) | (with_reducible refine SpecQ.step (c63 (x.lt _)) ?_; rintro _ rfl; try dsimp only) | (with_reducible refine stabP_i (c63 (x.lt _)) ?_) | (with_reducible refine ValW_i (c64 (x.lt _)) ?_; try dsimp only) | (with_reducible refine SpecQ.step (c64 (x.lt _)) ?_; rintro _ rfl; try dsimp only) | (with_reducible refine stabP_i (c64 (x.lt _)) ?_) | (with_reducible refine ValW_i (c65 (x.lt _)) ?_; try dsimp only) | (with_reducible refine SpecQ.step (c65 (x.lt _)) ?_; rintro _ rfl; try dsimp only) | (with_reducible refine stabP_i (c65 (x.lt _)) ?_) | ((with_reducible refine SpecA_i (args' := ?_) ?_ ?_); rotate_left; (focus ((conv => lhs; simp (disch := omega) [g0, sx, wb, sx0, wb0]); done))) | ((with_reducible refine ValA_i (args' := ?_) ?_ ?_); rotate_left; (focus ((conv => lhs; simp (disch := omega) [g0, sx, wb, sx0, wb0]); done))) | ((with_reducible refine stabA_i (args' := ?_) ?_ ?_); rotate_left; (focus ((conv => lhs; simp (disch := omega) [g0, sx, wb, sx0, wb0]); done))) | ((with_reducible refine ValA_fn (g := ?_) (caps := ?_) ?_ ?_); rotate_left; rotate_left; (focus ((conv => lhs; simp (disch := omega) [g0, sx, wb, sx0, wb0]); done))) | ((with_reducible refine stabA_fn (g := ?_) (caps := ?_) ?_ ?_); rotate_left; rotate_left; (focus ((conv => lhs; simp (disch := omega) [g0, sx, wb, sx0, wb0]); done))) | ((with_reducible refine stab_do ?_ ?_); (focus (simp (disch := omega) [g0, sx, wb, sx0, wb0]; done))) | (simp (decide := true) only [n33_0_eq, sqW_nrm, sqW_exit, sqW_ret, inBlk_nrm, inBlk_ret, inBlk_same, inBlk_exit, if_true, if_false, retW_nrm, retW_ret]) | (with_reducible refine n33_1_w _ _ _ ?_) | ((with_reducible refine cndW_splitE (b := ?_) ?_ ?_ ?_); rotate_left; (focus ((conv => lhs; simp (disch := omega) [g0, sx, wb, sx0, wb0]); done)); all_goals ((intro hb; try simp only [Bool.not_true, Bool.not_false] at hb); try simp only [hb])) | ((with_reducible refine gv_splitE (b := ?_) ?_ ?_ ?_); rotate_left; (focus ((conv => lhs; simp (disch := omega) [g0, sx, wb, sx0, wb0]); done)); all_goals ((intro hb; try simp only [Bool.not_true, Bool.not_false] at hb); try simp only [hb])) | ((with_reducible refine gW_splitE (b := ?_) ?_ ?_ ?_); rotate_left; (focus ((conv => lhs; simp (disch := omega) [g0, sx, wb, sx0, wb0]); done)); all_goals ((intro hb; try simp only [Bool.not_true, Bool.not_false] at hb); try simp only [hb])) | (with_reducible refine gv_split ?_ ?_ <;> (intro hb; try simp only [Bool.not_true, Bool.not_false] at hb) <;> try simp only [hb]) | (with_reducible refine gW_split ?_ ?_ <;> (intro hb; try simp only [Bool.not_true, Bool.not_false] at hb) <;> try simp only [hb]) | (with_reducible refine cndW_split ?_ ?_ <;> (intro hb; try simp only [Bool.not_true, Bool.not_false] at hb) <;> try simp only [hb]) | (with_reducible refine ValW_split ?_ ?_ <;> (intro hb; try simp only [Bool.not_true, Bool.not_false] at hb) <;> try simp only [hb]))
  all_goals first
    | exact tail _ _ H.length (H.length + 1) (H.length + 2) (by simp [g0]) (by simp) (by simp) (by simp) (Cel.new0 top (by rfl)) (Cel.new (k := 1) top (by rfl)) (Cel.new (k := 2) top (by rfl))
    | exact tail _ _ H.length (H.length + 2) (H.length + 1) (by simp [g0]) (by simp) (by simp) (by simp) (Cel.new0 top (by rfl)) (Cel.new (k := 2) top (by rfl)) (Cel.new (k := 1) top (by rfl))
    | exact tail _ _ (H.length + 1) H.length (H.length + 2) (by simp [g0]) (by simp) (by simp) (by simp) (Cel.new (k := 1) top (by rfl)) (Cel.new0 top (by rfl)) (Cel.new (k := 2) top (by rfl))
    | exact tail _ _ (H.length + 1) (H.length + 2) H.length (by simp [g0]) (by simp) (by simp) (by simp) (Cel.new (k := 1) top (by rfl)) (Cel.new (k := 2) top (by rfl)) (Cel.new0 top (by rfl))
    | exact tail _ _ (H.length + 2) H.length (H.length + 1) (by simp [g0]) (by simp) (by simp) (by simp) (Cel.new (k := 2) top (by rfl)) (Cel.new0 top (by rfl)) (Cel.new (k := 1) top (by rfl))
    | exact tail _ _ (H.length + 2) (H.length + 1) H.length (by simp [g0]) (by simp) (by simp) (by simp) (Cel.new (k := 2) top (by rfl)) (Cel.new (k := 1) top (by rfl)) (Cel.new0 top (by rfl))
set_option maxHeartbeats 4000000 in
theorem do_start2 (x : Sx κ H c xb s b a m vt vp vs vi va vb wt wp) {Q : Ex × St → Prop} {env : Env} {l : Heap} {p3 p4 p5 : Nat} (g0 : env.get 0 = .ptr xb 0 [] tLstep) (g3 : env.get 3 = .ptr p3 0 [] tRollSeat) (g4 : env.get 4 = .ptr p4 0 [] tRollInvite) (g5 : env.get 5 = .ptr p5 0 [] tRollAsk)
    (tail : ∀ (env' : Env) (u : Heap) (p6 p7 : Nat), env'.get 0 = .ptr xb 0 [] tLstep → env'.get 3 = .ptr p3 0 [] tRollSeat → env'.get 4 = .ptr p4 0 [] tRollInvite → env'.get 5 = .ptr p5 0 [] tRollAsk → env'.get 6 = .ptr p6 0 [] (.arr 32 (.int .u8)) → env'.get 7 = .ptr p7 0 [] (.arr 32 (.int .u8)) → Cel κ (H ++ u) p6 (pt a.who.e) → Cel κ (H ++ u) p7 (pt a.e) → wC Tryz.prog cx33 n33_3 Q ⟨env', H ++ u⟩) :
    wC Tryz.prog cx33 n33_2 Q ⟨env, H⟩ := by
  have sx := x.blk
  have sx0 := blk_of x.st
  have top := x.w.top
  repeat' (first | ((with_reducible refine evs_of (a := ?_) ?_ ?_); rotate_left; (focus ((conv => lhs; simp (disch := omega) [g0, sx, sx0]); done)); try dsimp only) | ((with_reducible refine gW_do ?_ ?_); (focus (simp (disch := omega) [g0, sx, sx0]; done))) | ((with_reducible refine gW_no ?_ ?_); (focus (simp (disch := omega) [g0, sx, sx0]; done)); try dsimp only) | ((with_reducible refine gW_un ?_ ?_); (focus (simp (disch := omega) [g0, sx, sx0]; done)); try dsimp only) | ((with_reducible refine cndW_T ?_ ?_); (focus (simp (disch := omega) [g0, sx, sx0] <;> omega))) | ((with_reducible refine cndW_F ?_ ?_); (focus (simp (disch := omega) [g0, sx, sx0] <;> omega))) | ((with_reducible refine stabP_i ?_ ?_); (focus (simp (disch := omega) [g0, sx, sx0]; done))) | (with_reducible refine bothP_i ?_ ?_) | (with_reducible refine wL_i ?_) | ((with_reducible refine ValW_do ?_ ?_); (focus (simp (disch := omega) [g0, sx, sx0]; done)); try dsimp only) | ((with_reducible refine ValW_no ?_ ?_); (focus (simp (disch := omega) [g0, sx, sx0]; done)); try dsimp only) | ((with_reducible refine ValW_un ?_ ?_); (focus (simp (disch := omega) [g0, sx, sx0]; done)); try dsimp only) | ((with_reducible refine SpecA_i (args' := ?_) ?_ ?_); rotate_left; (focus ((conv => lhs; simp (disch := omega) [g0, sx, sx0]); done))) | ((with_reducible refine ValA_i (args' := ?_) ?_ ?_); rotate_left; (focus ((conv => lhs; simp (disch := omega) [g0, sx, sx0]); done))) | ((with_reducible refine stabA_i (args' := ?_) ?_ ?_); rotate_left; (focus ((conv => lhs; simp (disch := omega) [g0, sx, sx0]); done))) | ((with_reducible refine ValA_fn (g := ?_) (caps := ?_) ?_ ?_); rotate_left; rotate_left; (focus ((conv => lhs; simp (disch := omega) [g0, sx, sx0]); done))) | ((with_reducible refine stabA_fn (g := ?_) (caps := ?_) ?_ ?_); rotate_left; rotate_left; (focus ((conv => lhs; simp (disch := omega) [g0, sx, sx0]); done))) | ((with_reducible refine stab_do ?_ ?_); (focus (simp (disch := omega) [g0, sx, sx0]; done))) | (simp (decide := true) only [sqW_nrm, sqW_exit, sqW_ret, inBlk_nrm, inBlk_ret, inBlk_same, inBlk_exit, if_true, if_false, retW_nrm, retW_ret]) | (with_reducible refine n33_2_w _ _ _ ?_) | ((with_reducible refine cndW_splitE (b := ?_) ?_ ?_ ?_); rotate_left; (focus ((conv => lhs; simp (disch := omega) [g0, sx, sx0]); done)); all_goals ((intro hb; try simp only [Bool.not_true, Bool.not_false] at hb); try simp only [hb])) | ((with_reducible refine gv_splitE (b := ?_) ?_ ?_ ?_); rotate_left; (focus ((conv => lhs; simp (disch := omega) [g0, sx, sx0]); done)); all_goals ((intro hb; try simp only [Bool.not_true, Bool.not_false] at hb); try simp only [hb])) | ((with_reducible refine gW_splitE (b := ?_) ?_ ?_ ?_); rotate_left; (focus ((conv => lhs; simp (disch := omega) [g0, sx, sx0]); done)); all_goals ((intro hb; try simp only [Bool.not_true, Bool.not_false] at hb); try simp only [hb])) | (with_reducible refine gv_split ?_ ?_ <;> (intro hb; try simp only [Bool.not_true, Bool.not_false] at hb) <;> try simp only [hb]) | (with_reducible refine gW_split ?_ ?_ <;> (intro hb; try simp only [Bool.not_true, Bool.not_false] at hb) <;> try simp only [hb]) | (with_reducible refine cndW_split ?_ ?_ <;> (intro hb; try simp only [Bool.not_true, Bool.not_false] at hb) <;> try simp only [hb]) | (with_reducible refine ValW_split ?_ ?_ <;> (intro hb; try simp only [Bool.not_true, Bool.not_false] at hb) <;> try simp only [hb]))
  all_goals first
    | exact tail _ _ H.length (H.length + 1) (by simp [g0]) (by simp [g3]) (by simp [g4]) (by simp [g5]) (by simp) (by simp) (Cel.new0 top (by rfl)) (Cel.new (k := 1) top (by rfl))
    | exact tail _ _ (H.length + 1) H.length (by simp [g0]) (by simp [g3]) (by simp [g4]) (by simp [g5]) (by simp) (by simp) (Cel.new (k := 1) top (by rfl)) (Cel.new0 top (by rfl))
/-- What a step that is done has made. -/
def DoR (κ : Nat → Nat) (H : Heap) (c : Nat) (x : Except Nat Stt) (r : AV × Heap) : Prop := ∃ (κ' : Nat → Nat) (H' : Heap), Fr κ H κ' H' ∧ match x with
  | .error k => r = (nat k, H')
  | .ok t => r = (nat 0, H') ∧ ∃ vt vp vs vi va vb, Wk κ' H' c t vt vp vs vi va vb
theorem DoR.app {κ : Nat → Nat} {H l : Heap} {c : Nat} {x : Except Nat Stt} {r : AV × Heap} (h : DoR κ (H ++ l) c x r) : DoR κ H c x r := by
  obtain ⟨κ', H', fr, h⟩ := h
  exact ⟨κ', H', fr.app, h⟩
theorem DoR.err {κ κ1 : Nat → Nat} {H H1 : Heap} {c : Nat} {x : Except Nat Stt} {k : Nat} (e : x = .error k) (f : Fr κ H κ1 H1) : DoR κ H c x (oneOrTuple [nat k], H1) := ⟨κ1, H1, f, by rw [e]; rfl⟩
theorem DoR.ok {κ κ1 : Nat → Nat} {H H1 : Heap} {c : Nat} {x : Except Nat Stt} {t : Stt} {vt vp vs vi va vb : AV} (e : x = .ok t) (f : Fr κ H κ1 H1) (w : Wk κ1 H1 c t vt vp vs vi va vb) : DoR κ H c x (oneOrTuple [nat 0], H1) := ⟨κ1, H1, f, by rw [e]; exact ⟨rfl, _, _, _, _, _, _, w⟩⟩
/-- What 'do' holds. -/
structure Dx (κ : Nat → Nat) (G : Heap) (c xb : Nat) (s : Stt) (b : Pt) (a : Actn) (m : BitVec 8) (vt vp vs vi va vb wt wp : AV) (env : Env) (p3 p4 p5 p6 p7 : Nat) : Prop where
  x : Sx κ G c xb s b a m vt vp vs vi va vb wt wp
  c3 : Cel κ G p3 (rollS c)
  c4 : Cel κ G p4 (rollI c)
  c5 : Cel κ G p5 (rollA c)
  c6 : Cel κ G p6 (pt a.who.e)
  c7 : Cel κ G p7 (pt a.e)
  e0 : env.get 0 = .ptr xb 0 [] tLstep
  e3 : env.get 3 = .ptr p3 0 [] tRollSeat
  e4 : env.get 4 = .ptr p4 0 [] tRollInvite
  e5 : env.get 5 = .ptr p5 0 [] tRollAsk
  e6 : env.get 6 = .ptr p6 0 [] (.arr 32 (.int .u8))
  e7 : env.get 7 = .ptr p7 0 [] (.arr 32 (.int .u8))
theorem Dx.next {G : Heap} {env : Env} {p3 p4 p5 p6 p7 : Nat} {κ' : Nat → Nat} {G' : Heap} {s' : Stt} {ut up us ui ua ub : AV} (d : Dx κ G c xb s b a m vt vp vs vi va vb wt wp env p3 p4 p5 p6 p7) (fr : Fr κ G κ' G') (w' : Wk κ' G' c s' ut up us ui ua ub) : Dx κ' G' c xb s' b a m ut up us ui ua ub wt wp env p3 p4 p5 p6 p7 :=
  ⟨d.x.next fr w', d.c3.next fr, d.c4.next fr, d.c5.next fr, d.c6.next fr, d.c7.next fr, d.e0, d.e3, d.e4, d.e5, d.e6, d.e7⟩
theorem do_start (x : Sx κ H c xb s b a m vt vp vs vi va vb wt wp) {Q : Ex × St → Prop} {env : Env} (g0 : env.get 0 = .ptr xb 0 [] tLstep)
    (tail : ∀ (env' : Env) (u : Heap) (p3 p4 p5 p6 p7 : Nat), Dx κ (H ++ u) c xb s b a m vt vp vs vi va vb wt wp env' p3 p4 p5 p6 p7 → wC Tryz.prog cx33 n33_3 Q ⟨env', H ++ u⟩) : wC Tryz.prog cx33 n33_0 Q ⟨env, H⟩ :=
  do_start1 x g0 fun env' l p3 p4 p5 e0 e3 e4 e5 c3 c4 c5 => do_start2 (x.app l) e0 e3 e4 e5 (l := l) fun env' u p6 p7 e0 e3 e4 e5 e6 e7 c6 c7 => by
    have := tail env' (l ++ u) p3 p4 p5 p6 p7
    rw [← List.append_assoc] at this
    exact this ⟨(x.app l).app u, c3.app u, c4.app u, c5.app u, c6, c7, e0, e3, e4, e5, e6, e7⟩
end
end Go.Vab

/-
  A step is done: add, join, invite, ask, remove; walked.
-/
namespace Go.Vab
open Go Go.Proofs
theorem runRp12_0 {G X : Prop} (f : Hd X → G := by
  intro xX
  repeat' (first | refine stp (x := ?_) | (with_reducible refine bothP_i ?_ ?_) | (with_reducible refine ValW_i (c76 x.w hs) ?_; try dsimp only) | (with_reducible refine SpecQ.step (c76 x.w hs) ?_; rintro _ rfl; try dsimp only) | (with_reducible refine stabP_i (c76 x.w hs) ?_) | (simp (decide := true) only [sn33, snB, if_true, if_false]) | (with_reducible refine n33_12_w _ _ _ ?_) | (with_reducible refine n33_51_w _ _ _ ?_) | (with_reducible refine n33_67_w _ _ _ ?_) | (with_reducible refine n33_77_w _ _ _ ?_) | (with_reducible refine n33_92_w _ _ _ ?_) | (with_reducible refine n33_101_w _ _ _ ?_) | (with_reducible refine n33_2_w _ _ _ ?_) | (with_reducible refine n33_1_w _ _ _ ?_))
  exact xX.get) (x : X) : G := f ⟨x⟩
theorem runRp12_1 {G X : Prop} (f : Hd X → G := by
  intro xX
  repeat' (first | refine stp (x := ?_) | (with_reducible refine bothP_i ?_ ?_) | (simp (decide := true) only [sn33, snB, if_true, if_false]) | (with_reducible refine n33_12_w _ _ _ ?_) | (with_reducible refine n33_51_w _ _ _ ?_) | (with_reducible refine n33_67_w _ _ _ ?_) | (with_reducible refine n33_77_w _ _ _ ?_) | (with_reducible refine n33_92_w _ _ _ ?_) | (with_reducible refine n33_101_w _ _ _ ?_) | (with_reducible refine n33_2_w _ _ _ ?_) | (with_reducible refine n33_1_w _ _ _ ?_))
  exact xX.get) (x : X) : G := f ⟨x⟩
theorem runRp12_2 {G X : Prop} (f : Hd X → G := by
  intro xX
  repeat' (first | refine stp (x := ?_) | (with_reducible refine bothP_i ?_ ?_) | (with_reducible refine ValW_i (c66 x hs) ?_; try dsimp only) | (with_reducible refine SpecQ.step (c66 x hs) ?_; rintro _ rfl; try dsimp only) | (with_reducible refine stabP_i (c66 x hs) ?_) | (simp (decide := true) only [sn33, snB, if_true, if_false]) | (with_reducible refine n33_12_w _ _ _ ?_) | (with_reducible refine n33_51_w _ _ _ ?_) | (with_reducible refine n33_67_w _ _ _ ?_) | (with_reducible refine n33_77_w _ _ _ ?_) | (with_reducible refine n33_92_w _ _ _ ?_) | (with_reducible refine n33_101_w _ _ _ ?_) | (with_reducible refine n33_2_w _ _ _ ?_) | (with_reducible refine n33_1_w _ _ _ ?_))
  exact xX.get) (x : X) : G := f ⟨x⟩
theorem runRp12_3 {G X : Prop} (f : Hd X → G := by
  intro xX
  repeat' (first | refine stp (x := ?_) | (with_reducible refine bothP_i ?_ ?_) | (with_reducible refine ValW_i (c66 x hs) ?_; try dsimp only) | (with_reducible refine SpecQ.step (c66 x hs) ?_; rintro _ rfl; try dsimp only) | (with_reducible refine stabP_i (c66 x hs) ?_) | (with_reducible refine ValW_i (c67 x.w) ?_; try dsimp only) | (with_reducible refine SpecQ.step (c67 x.w) ?_; rintro _ rfl; try dsimp only) | (with_reducible refine stabP_i (c67 x.w) ?_) | (simp (decide := true) only [sn33, snB, if_true, if_false]) | (with_reducible refine n33_12_w _ _ _ ?_) | (with_reducible refine n33_51_w _ _ _ ?_) | (with_reducible refine n33_67_w _ _ _ ?_) | (with_reducible refine n33_77_w _ _ _ ?_) | (with_reducible refine n33_92_w _ _ _ ?_) | (with_reducible refine n33_101_w _ _ _ ?_) | (with_reducible refine n33_2_w _ _ _ ?_) | (with_reducible refine n33_1_w _ _ _ ?_))
  exact xX.get) (x : X) : G := f ⟨x⟩
theorem runRp12_4 {G X : Prop} (f : Hd X → G := by
  intro xX
  repeat' (first | refine stp (x := ?_) | (with_reducible refine bothP_i ?_ ?_) | (with_reducible refine ValW_i (c66 x hs) ?_; try dsimp only) | (with_reducible refine SpecQ.step (c66 x hs) ?_; rintro _ rfl; try dsimp only) | (with_reducible refine stabP_i (c66 x hs) ?_) | (with_reducible refine ValW_i (c71 x.w) ?_; try dsimp only) | (with_reducible refine SpecQ.step (c71 x.w) ?_; rintro _ rfl; try dsimp only) | (with_reducible refine stabP_i (c71 x.w) ?_) | (simp (decide := true) only [sn33, snB, if_true, if_false]) | (with_reducible refine n33_12_w _ _ _ ?_) | (with_reducible refine n33_51_w _ _ _ ?_) | (with_reducible refine n33_67_w _ _ _ ?_) | (with_reducible refine n33_77_w _ _ _ ?_) | (with_reducible refine n33_92_w _ _ _ ?_) | (with_reducible refine n33_101_w _ _ _ ?_) | (with_reducible refine n33_2_w _ _ _ ?_) | (with_reducible refine n33_1_w _ _ _ ?_))
  exact xX.get) (x : X) : G := f ⟨x⟩
theorem runRp12_5 {G X : Prop} (f : Hd X → G := by
  intro xX
  repeat' (first | refine stp (x := ?_) | (with_reducible refine bothP_i ?_ ?_) | (with_reducible refine ValW_i (c73 d1.x (hs.a' _) hme) ?_; try dsimp only) | (with_reducible refine SpecQ.step (c73 d1.x (hs.a' _) hme) ?_; rintro _ rfl; try dsimp only) | (with_reducible refine stabP_i (c73 d1.x (hs.a' _) hme) ?_) | (simp (decide := true) only [sn33, snB, if_true, if_false]) | (with_reducible refine n33_12_w _ _ _ ?_) | (with_reducible refine n33_51_w _ _ _ ?_) | (with_reducible refine n33_67_w _ _ _ ?_) | (with_reducible refine n33_77_w _ _ _ ?_) | (with_reducible refine n33_92_w _ _ _ ?_) | (with_reducible refine n33_101_w _ _ _ ?_) | (with_reducible refine n33_2_w _ _ _ ?_) | (with_reducible refine n33_1_w _ _ _ ?_))
  exact xX.get) (x : X) : G := f ⟨x⟩
theorem runRp12_6 {G X : Prop} (f : Hd X → G := by
  intro xX
  repeat' (first | refine stp (x := ?_) | (with_reducible refine bothP_i ?_ ?_) | (with_reducible refine ValW_i (c66 x hs) ?_; try dsimp only) | (with_reducible refine SpecQ.step (c66 x hs) ?_; rintro _ rfl; try dsimp only) | (with_reducible refine stabP_i (c66 x hs) ?_) | (with_reducible refine ValW_i (c74 x.w) ?_; try dsimp only) | (with_reducible refine SpecQ.step (c74 x.w) ?_; rintro _ rfl; try dsimp only) | (with_reducible refine stabP_i (c74 x.w) ?_) | (simp (decide := true) only [sn33, snB, if_true, if_false]) | (with_reducible refine n33_12_w _ _ _ ?_) | (with_reducible refine n33_51_w _ _ _ ?_) | (with_reducible refine n33_67_w _ _ _ ?_) | (with_reducible refine n33_77_w _ _ _ ?_) | (with_reducible refine n33_92_w _ _ _ ?_) | (with_reducible refine n33_101_w _ _ _ ?_) | (with_reducible refine n33_2_w _ _ _ ?_) | (with_reducible refine n33_1_w _ _ _ ?_))
  exact xX.get) (x : X) : G := f ⟨x⟩
theorem runRp12_7 {G X : Prop} (f : Hd X → G := by
  intro xX
  repeat' (first | refine stp (x := ?_) | (with_reducible refine bothP_i ?_ ?_) | (with_reducible refine ValW_i (c78 x.w hs) ?_; try dsimp only) | (with_reducible refine SpecQ.step (c78 x.w hs) ?_; rintro _ rfl; try dsimp only) | (with_reducible refine stabP_i (c78 x.w hs) ?_) | (simp (decide := true) only [sn33, snB, if_true, if_false]) | (with_reducible refine n33_12_w _ _ _ ?_) | (with_reducible refine n33_51_w _ _ _ ?_) | (with_reducible refine n33_67_w _ _ _ ?_) | (with_reducible refine n33_77_w _ _ _ ?_) | (with_reducible refine n33_92_w _ _ _ ?_) | (with_reducible refine n33_101_w _ _ _ ?_) | (with_reducible refine n33_2_w _ _ _ ?_) | (with_reducible refine n33_1_w _ _ _ ?_))
  exact xX.get) (x : X) : G := f ⟨x⟩
theorem runRp12_8 {G X : Prop} (f : Hd X → G := by
  intro xX
  repeat' (first | ((with_reducible refine evs_of (a := ?_) ?_ ?_); rotate_left; (focus ((conv => lhs; simp (disch := omega) [ff, hn.symm]); done)); try dsimp only) | ((with_reducible refine gW_do ?_ ?_); (focus (simp (disch := omega) [ff, hn.symm]; done))) | ((with_reducible refine gW_no ?_ ?_); (focus (simp (disch := omega) [ff, hn.symm]; done)); try dsimp only) | ((with_reducible refine gW_un ?_ ?_); (focus (simp (disch := omega) [ff, hn.symm]; done)); try dsimp only) | ((with_reducible refine cndW_T ?_ ?_); (focus (simp (disch := omega) [ff, hn.symm] <;> omega))) | ((with_reducible refine cndW_F ?_ ?_); (focus (simp (disch := omega) [ff, hn.symm] <;> omega))) | ((with_reducible refine stabP_i ?_ ?_); (focus (simp (disch := omega) [ff, hn.symm]; done))) | (with_reducible refine bothP_i ?_ ?_) | (with_reducible refine wL_i ?_) | ((with_reducible refine ValW_do ?_ ?_); (focus (simp (disch := omega) [ff, hn.symm]; done)); try dsimp only) | ((with_reducible refine ValW_no ?_ ?_); (focus (simp (disch := omega) [ff, hn.symm]; done)); try dsimp only) | ((with_reducible refine ValW_un ?_ ?_); (focus (simp (disch := omega) [ff, hn.symm]; done)); try dsimp only) | (with_reducible refine ValW_i (c78 x.w hs) ?_; try dsimp only) | (with_reducible refine SpecQ.step (c78 x.w hs) ?_; rintro _ rfl; try dsimp only) | (with_reducible refine stabP_i (c78 x.w hs) ?_) | ((with_reducible refine SpecA_i (args' := ?_) ?_ ?_); rotate_left; (focus ((conv => lhs; simp (disch := omega) [ff, hn.symm]); done))) | ((with_reducible refine ValA_i (args' := ?_) ?_ ?_); rotate_left; (focus ((conv => lhs; simp (disch := omega) [ff, hn.symm]); done))) | ((with_reducible refine stabA_i (args' := ?_) ?_ ?_); rotate_left; (focus ((conv => lhs; simp (disch := omega) [ff, hn.symm]); done))) | ((with_reducible refine ValA_fn (g := ?_) (caps := ?_) ?_ ?_); rotate_left; rotate_left; (focus ((conv => lhs; simp (disch := omega) [ff, hn.symm]); done))) | ((with_reducible refine stabA_fn (g := ?_) (caps := ?_) ?_ ?_); rotate_left; rotate_left; (focus ((conv => lhs; simp (disch := omega) [ff, hn.symm]); done))) | ((with_reducible refine stab_do ?_ ?_); (focus (simp (disch := omega) [ff, hn.symm]; done))) | (simp (decide := true) only [sn33, sqW_nrm, sqW_exit, sqW_ret, inBlk_nrm, inBlk_ret, inBlk_same, inBlk_exit, if_true, if_false, retW_nrm, retW_ret]) | (with_reducible refine n33_12_w _ _ _ ?_) | (with_reducible refine n33_51_w _ _ _ ?_) | (with_reducible refine n33_67_w _ _ _ ?_) | (with_reducible refine n33_77_w _ _ _ ?_) | (with_reducible refine n33_92_w _ _ _ ?_) | (with_reducible refine n33_101_w _ _ _ ?_) | (with_reducible refine n33_2_w _ _ _ ?_) | (with_reducible refine n33_1_w _ _ _ ?_))
  exact xX.get) (x : X) : G := f ⟨x⟩
theorem runRp12_9 {G X : Prop} (f : Hd X → G := by
  intro xX
  repeat' (first | ((with_reducible refine evs_of (a := ?_) ?_ ?_); rotate_left; (focus ((conv => lhs; simp (disch := omega) [ff, hn.symm]); done)); try dsimp only) | ((with_reducible refine gW_do ?_ ?_); (focus (simp (disch := omega) [ff, hn.symm]; done))) | ((with_reducible refine gW_no ?_ ?_); (focus (simp (disch := omega) [ff, hn.symm]; done)); try dsimp only) | ((with_reducible refine gW_un ?_ ?_); (focus (simp (disch := omega) [ff, hn.symm]; done)); try dsimp only) | ((with_reducible refine cndW_T ?_ ?_); (focus (simp (disch := omega) [ff, hn.symm] <;> omega))) | ((with_reducible refine cndW_F ?_ ?_); (focus (simp (disch := omega) [ff, hn.symm] <;> omega))) | ((with_reducible refine stabP_i ?_ ?_); (focus (simp (disch := omega) [ff, hn.symm]; done))) | (with_reducible refine bothP_i ?_ ?_) | (with_reducible refine wL_i ?_) | ((with_reducible refine ValW_do ?_ ?_); (focus (simp (disch := omega) [ff, hn.symm]; done)); try dsimp only) | ((with_reducible refine ValW_no ?_ ?_); (focus (simp (disch := omega) [ff, hn.symm]; done)); try dsimp only) | ((with_reducible refine ValW_un ?_ ?_); (focus (simp (disch := omega) [ff, hn.symm]; done)); try dsimp only) | (with_reducible refine ValW_i (c78 x.w hs) ?_; try dsimp only) | (with_reducible refine SpecQ.step (c78 x.w hs) ?_; rintro _ rfl; try dsimp only) | (with_reducible refine stabP_i (c78 x.w hs) ?_) | (with_reducible refine ValW_i (c79 x) ?_; try dsimp only) | (with_reducible refine SpecQ.step (c79 x) ?_; rintro _ rfl; try dsimp only) | (with_reducible refine stabP_i (c79 x) ?_) | ((with_reducible refine SpecA_i (args' := ?_) ?_ ?_); rotate_left; (focus ((conv => lhs; simp (disch := omega) [ff, hn.symm]); done))) | ((with_reducible refine ValA_i (args' := ?_) ?_ ?_); rotate_left; (focus ((conv => lhs; simp (disch := omega) [ff, hn.symm]); done))) | ((with_reducible refine stabA_i (args' := ?_) ?_ ?_); rotate_left; (focus ((conv => lhs; simp (disch := omega) [ff, hn.symm]); done))) | ((with_reducible refine ValA_fn (g := ?_) (caps := ?_) ?_ ?_); rotate_left; rotate_left; (focus ((conv => lhs; simp (disch := omega) [ff, hn.symm]); done))) | ((with_reducible refine stabA_fn (g := ?_) (caps := ?_) ?_ ?_); rotate_left; rotate_left; (focus ((conv => lhs; simp (disch := omega) [ff, hn.symm]); done))) | ((with_reducible refine stab_do ?_ ?_); (focus (simp (disch := omega) [ff, hn.symm]; done))) | (simp (decide := true) only [sn33, sqW_nrm, sqW_exit, sqW_ret, inBlk_nrm, inBlk_ret, inBlk_same, inBlk_exit, if_true, if_false, retW_nrm, retW_ret]) | (with_reducible refine n33_12_w _ _ _ ?_) | (with_reducible refine n33_51_w _ _ _ ?_) | (with_reducible refine n33_67_w _ _ _ ?_) | (with_reducible refine n33_77_w _ _ _ ?_) | (with_reducible refine n33_92_w _ _ _ ?_) | (with_reducible refine n33_101_w _ _ _ ?_) | (with_reducible refine n33_2_w _ _ _ ?_) | (with_reducible refine n33_1_w _ _ _ ?_))
  exact xX.get) (x : X) : G := f ⟨x⟩
theorem Srt.i' {s : Stt} (h : Srt s) (e : Pt) : Srt { s with invites := del fI s.invites e } := ⟨h.s, srt_del h.i, h.a, h.b⟩
theorem Srt.a' {s : Stt} (h : Srt s) (e : Pt) : Srt { s with asks := del fA s.asks e } := ⟨h.s, h.i, srt_del h.a, h.b⟩
section
variable {κ : Nat → Nat} {G : Heap} {c xb : Nat} {s : Stt} {b : Pt} {a : Actn} {m : BitVec 8} {vt vp vs vi va vb wt wp : AV} {env : Env} {p3 p4 p5 p6 p7 : Nat} {K : AV × Heap → Prop}
set_option maxHeartbeats 2000000 in
theorem do_2 (d : Dx κ G c xb s b a m vt vp vs vi va vb wt wp env p3 p4 p5 p6 p7) (hs : Srt s) (ok : Okd s b a) (hk : a.kind = 2#8) (hK : ∀ r, DoR κ G c (madeP s b a) r → K r) : wC Tryz.prog cx33 n33_3 (retW (fun s => (bnd (some (s.env.get 2)) fun v => bnd (some []) fun vs => some (v :: vs))) K) ⟨env, G⟩ := by
  have sx0 := blk_of d.x.st
  have hm := ok.adm (by simp [hk])
  obtain ⟨x, c3, c4, c5, c6, c7, e0, e3, e4, e5, e6, e7⟩ := d
  have b3 := c3.blk0
  have b7 := c7.blk0
  cases h1 : hasP fS s.seats a.e
  · have hmd : madeP s b a = .error 7 := by simp [madeP, hk, hm, h1]
    have ff := And.intro sx0 (And.intro hk (And.intro h1 (And.intro b3 (And.intro b7 (And.intro e0 (And.intro e3 e7))))))
    refine runRp12_0 (x := ?_)
    clear ff
    exact hK _ ⟨κ, G, Fr.refl _ _, by rw [hmd]; rfl⟩
  by_cases h2 : a.e = b
  · have hmd : madeP s b a = .error 195 := by rw [h2] at h1; simp [madeP, hk, hm, h1, h2]
    have h1b : hasP fS s.seats b = true := h2 ▸ h1
    have ff := And.intro sx0 (And.intro hk (And.intro h1b (And.intro h2 (And.intro b3 (And.intro b7 (And.intro e0 (And.intro e3 e7)))))))
    refine runRp12_0 (x := ?_)
    clear ff
    exact hK _ ⟨κ, G, Fr.refl _ _, by rw [hmd]; rfl⟩
  · have hmd : madeP s b a = .ok { s with seats := del fS s.seats a.e } := by simp [madeP, hk, hm, h1, h2]
    have ff := And.intro sx0 (And.intro hk (And.intro h1 (And.intro h2 (And.intro b3 (And.intro b7 (And.intro e0 (And.intro e3 e7)))))))
    refine runRp12_0 (x := ?_)
    clear ff
    refine SpecQ.step (c77 x.w hs) ?_
    rintro _ ⟨y, κ', H', q, rfl, _, w2, fr⟩
    have ff := And.intro sx0 hk
    refine runRp12_1 (x := ?_)
    clear ff
    exact hK _ ⟨κ', H', fr, by rw [hmd]; exact ⟨rfl, _, _, _, _, _, _, w2⟩⟩
set_option maxHeartbeats 4000000 in
theorem do_1 (d : Dx κ G c xb s b a m vt vp vs vi va vb wt wp env p3 p4 p5 p6 p7) (hs : Srt s) (ms : mayS s = true) (ok : Okd s b a) (hk : a.kind = 1#8) (hK : ∀ r, DoR κ G c (madeP s b a) r → K r) : wC Tryz.prog cx33 n33_3 (retW (fun s => (bnd (some (s.env.get 2)) fun v => bnd (some []) fun vs => some (v :: vs))) K) ⟨env, G⟩ := by
  have sx0 := blk_of d.x.st
  have hA := ok.add (by simp [hk])
  have d0 := d
  obtain ⟨x, c3, c4, c5, c6, c7, e0, e3, e4, e5, e6, e7⟩ := d
  have b3 := c3.blk0
  have b4 := c4.blk0
  have b5 := c5.blk0
  have b6 := c6.blk0
  have hl := (may_lens ms).1
  by_cases hn : newWhy s a 0#8 false false = 0
  rotate_left
  · have hmd : madeP s b a = .error (newWhy s a 0#8 false false) := mk_1 ms hk hA hn
    have ff := And.intro sx0 (And.intro hk (And.intro hn e0))
    refine runRp12_2 (x := ?_)
    clear ff
    exact hK _ ⟨κ, G, Fr.refl _ _, by rw [hmd]; rfl⟩
  by_cases h3 : 40 ≤ s.seats.length
  · have hmd : madeP s b a = .error 9 := mf_1 ms hk hA hn h3
    have ff := And.intro sx0 (And.intro hk (And.intro hn (And.intro h3 (And.intro b3 (And.intro e0 e3)))))
    refine runRp12_3 (x := ?_)
    clear ff
    exact hK _ ⟨κ, G, Fr.refl _ _, by rw [hmd]; rfl⟩
  have hmd : madeP s b a = .ok { s with invites := del fI s.invites a.who.e, asks := del fA s.asks a.who.e, seats := ins fS s.seats ⟨a.who, a.role, a.version⟩ } := mo_1 ms hk hA hn h3
  have ff := And.intro sx0 (And.intro hk (And.intro hn (And.intro h3 (And.intro b3 (And.intro b4 (And.intro b6 (And.intro e0 (And.intro e3 (And.intro e4 e6)))))))))
  refine runRp12_3 (x := ?_)
  clear ff
  refine SpecQ.step (c68 x.w hs) ?_
  rintro _ ⟨y, κ1, H1, q1, rfl, _, w1, fr1⟩
  have d1 := d0.next fr1 w1
  have b51 := d1.c5.blk0
  have b61 := d1.c6.blk0
  have ff := And.intro b51 (And.intro b61 (And.intro e0 (And.intro e5 e6)))
  refine runRp12_1 (x := ?_)
  clear ff
  refine SpecQ.step (c69 d1.x.w (hs.i' _)) ?_
  rintro _ ⟨y, κ2, H2, q2, rfl, _, w2, fr2⟩
  have d2 := d1.next fr2 w2
  have sx2 := blk_of d2.x.st
  have ff := And.intro sx2 e0
  refine runRp12_1 (x := ?_)
  clear ff
  refine SpecQ.step (c70 d2.x ((hs.i' _).a' _) (by simp only; omega)) ?_
  rintro _ ⟨κ3, H3, q3, rfl, w3, fr3⟩
  have ff := e0
  refine runRp12_1 (x := ?_)
  clear ff
  exact hK _ ⟨κ3, H3, (fr1.trans fr2).trans fr3, by rw [hmd]; exact ⟨rfl, _, _, _, _, _, _, w3⟩⟩
set_option maxHeartbeats 4000000 in
theorem do_9 (d : Dx κ G c xb s b a m vt vp vs vi va vb wt wp env p3 p4 p5 p6 p7) (hs : Srt s) (ms : mayS s = true) (ok : Okd s b a) (hk : a.kind = 9#8) (hK : ∀ r, DoR κ G c (madeP s b a) r → K r) : wC Tryz.prog cx33 n33_3 (retW (fun s => (bnd (some (s.env.get 2)) fun v => bnd (some []) fun vs => some (v :: vs))) K) ⟨env, G⟩ := by
  have sx0 := blk_of d.x.st
  have hw := ok.who (by simp [hk])
  have d0 := d
  obtain ⟨x, c3, c4, c5, c6, c7, e0, e3, e4, e5, e6, e7⟩ := d
  have b3 := c3.blk0
  have b4 := c4.blk0
  have b5 := c5.blk0
  have b6 := c6.blk0
  have hl := (may_lens ms).1
  by_cases hn : newWhy s a 1#8 false false = 0
  rotate_left
  · have hmd : madeP s b a = .error (newWhy s a 1#8 false false) := mk_9 ms hk hw hn
    have ff := And.intro sx0 (And.intro hk (And.intro hn e0))
    refine runRp12_2 (x := ?_)
    clear ff
    exact hK _ ⟨κ, G, Fr.refl _ _, by rw [hmd]; rfl⟩
  by_cases h3 : 40 ≤ s.seats.length
  · have hmd : madeP s b a = .error 9 := mf_9 ms hk hw hn h3
    have ff := And.intro sx0 (And.intro hk (And.intro hn (And.intro h3 (And.intro b3 (And.intro e0 e3)))))
    refine runRp12_3 (x := ?_)
    clear ff
    exact hK _ ⟨κ, G, Fr.refl _ _, by rw [hmd]; rfl⟩
  have hmd : madeP s b a = .ok { s with invites := del fI s.invites a.who.e, asks := del fA s.asks a.who.e, seats := ins fS s.seats ⟨a.who, 1#8, a.version⟩ } := mo_9 ms hk hw hn h3
  have ff := And.intro sx0 (And.intro hk (And.intro hn (And.intro h3 (And.intro b3 (And.intro b4 (And.intro b6 (And.intro e0 (And.intro e3 (And.intro e4 e6)))))))))
  refine runRp12_3 (x := ?_)
  clear ff
  refine SpecQ.step (c68 x.w hs) ?_
  rintro _ ⟨y, κ1, H1, q1, rfl, _, w1, fr1⟩
  have d1 := d0.next fr1 w1
  have b51 := d1.c5.blk0
  have b61 := d1.c6.blk0
  have ff := And.intro b51 (And.intro b61 (And.intro e0 (And.intro e5 e6)))
  refine runRp12_1 (x := ?_)
  clear ff
  refine SpecQ.step (c69 d1.x.w (hs.i' _)) ?_
  rintro _ ⟨y, κ2, H2, q2, rfl, _, w2, fr2⟩
  have d2 := d1.next fr2 w2
  have sx2 := blk_of d2.x.st
  have ff := And.intro sx2 e0
  refine runRp12_1 (x := ?_)
  clear ff
  refine SpecQ.step (c70 d2.x ((hs.i' _).a' _) (by simp only; omega)) ?_
  rintro _ ⟨κ3, H3, q3, rfl, w3, fr3⟩
  have ff := e0
  refine runRp12_1 (x := ?_)
  clear ff
  exact hK _ ⟨κ3, H3, (fr1.trans fr2).trans fr3, by rw [hmd]; exact ⟨rfl, _, _, _, _, _, _, w3⟩⟩
set_option maxHeartbeats 4000000 in
theorem do_5 (d : Dx κ G c xb s b a m vt vp vs vi va vb wt wp env p3 p4 p5 p6 p7) (hs : Srt s) (ms : mayS s = true) (ok : Okd s b a) (hk : a.kind = 5#8) (hK : ∀ r, DoR κ G c (madeP s b a) r → K r) : wC Tryz.prog cx33 n33_3 (retW (fun s => (bnd (some (s.env.get 2)) fun v => bnd (some []) fun vs => some (v :: vs))) K) ⟨env, G⟩ := by
  have sx0 := blk_of d.x.st
  have hA := ok.add (by simp [hk])
  have hme := role_has ms (adds_iff.1 hA).1
  have hmd := m5_eq ms hk hA
  have d0 := d
  obtain ⟨x, c3, c4, c5, c6, c7, e0, e3, e4, e5, e6, e7⟩ := d
  have b4 := c4.blk0
  have b5 := c5.blk0
  have b6 := c6.blk0
  have hl := (may_lens ms).2.1
  by_cases hn : newWhy s a 0#8 true false = 0
  rotate_left
  · rw [if_pos hn] at hmd
    have ff := And.intro sx0 (And.intro hk (And.intro hn e0))
    refine runRp12_2 (x := ?_)
    clear ff
    exact hK _ ⟨κ, G, Fr.refl _ _, by rw [hmd]; rfl⟩
  rw [if_neg (by simp [hn])] at hmd
  by_cases h3 : 40 ≤ s.invites.length
  · rw [if_pos h3] at hmd
    have ff := And.intro sx0 (And.intro hk (And.intro hn (And.intro h3 (And.intro b4 (And.intro e0 e4)))))
    refine runRp12_4 (x := ?_)
    clear ff
    exact hK _ ⟨κ, G, Fr.refl _ _, by rw [hmd]; rfl⟩
  rw [if_neg h3] at hmd
  have ff := And.intro sx0 (And.intro hk (And.intro hn (And.intro h3 (And.intro b4 (And.intro b5 (And.intro b6 (And.intro e0 (And.intro e4 (And.intro e5 e6)))))))))
  refine runRp12_4 (x := ?_)
  clear ff
  refine SpecQ.step (c69 x.w hs) ?_
  rintro _ ⟨y, κ1, H1, q1, rfl, _, w1, fr1⟩
  have d1 := d0.next fr1 w1
  have b41 := d1.c4.blk0
  have sx1 := blk_of d1.x.st
  have ff := And.intro sx1 (And.intro b41 (And.intro e0 e4))
  refine runRp12_5 (x := ?_)
  clear ff
  refine SpecQ.step (c72 (x := ⟨a.who, a.role, meOf s b⟩) d1.x.w (hs.a' _) (by simp only; omega)) ?_
  rintro _ ⟨v, κ2, H2, q2, rfl, w2, fr2⟩
  have ff := e0
  refine runRp12_1 (x := ?_)
  clear ff
  exact hK _ ⟨κ2, H2, fr1.trans fr2, by rw [hmd]; exact ⟨rfl, _, _, _, _, _, _, w2⟩⟩
set_option maxHeartbeats 4000000 in
theorem do_10 (d : Dx κ G c xb s b a m vt vp vs vi va vb wt wp env p3 p4 p5 p6 p7) (hs : Srt s) (ms : mayS s = true) (ok : Okd s b a) (hk : a.kind = 10#8) (hK : ∀ r, DoR κ G c (madeP s b a) r → K r) : wC Tryz.prog cx33 n33_3 (retW (fun s => (bnd (some (s.env.get 2)) fun v => bnd (some []) fun vs => some (v :: vs))) K) ⟨env, G⟩ := by
  have sx0 := blk_of d.x.st
  have hw := ok.who (by simp [hk])
  have hmd := m10_eq ms hk hw
  obtain ⟨x, c3, c4, c5, c6, c7, e0, e3, e4, e5, e6, e7⟩ := d
  have b5 := c5.blk0
  have hl := (may_lens ms).2.2.1
  by_cases hn : newWhy s a 2#8 true true = 0
  rotate_left
  · rw [if_pos hn] at hmd
    have ff := And.intro sx0 (And.intro hk (And.intro hn e0))
    refine runRp12_2 (x := ?_)
    clear ff
    exact hK _ ⟨κ, G, Fr.refl _ _, by rw [hmd]; rfl⟩
  rw [if_neg (by simp [hn])] at hmd
  by_cases h3 : 40 ≤ s.asks.length
  · rw [if_pos h3] at hmd
    have ff := And.intro sx0 (And.intro hk (And.intro hn (And.intro h3 (And.intro b5 (And.intro e0 e5)))))
    refine runRp12_6 (x := ?_)
    clear ff
    exact hK _ ⟨κ, G, Fr.refl _ _, by rw [hmd]; rfl⟩
  rw [if_neg h3] at hmd
  have ff := And.intro sx0 (And.intro hk (And.intro hn (And.intro h3 (And.intro b5 (And.intro e0 e5)))))
  refine runRp12_6 (x := ?_)
  clear ff
  refine SpecQ.step (c75 (x := ⟨a.who, a.version⟩) x.w hs (by omega)) ?_
  rintro _ ⟨v, κ2, H2, q2, rfl, w2, fr2⟩
  have ff := e0
  refine runRp12_1 (x := ?_)
  clear ff
  exact hK _ ⟨κ2, H2, fr2, by rw [hmd]; exact ⟨rfl, _, _, _, _, _, _, w2⟩⟩
set_option maxHeartbeats 4000000 in
theorem do_3 (d : Dx κ G c xb s b a m vt vp vs vi va vb wt wp env p3 p4 p5 p6 p7) (hs : Srt s) (ms : mayS s = true) (ok : Okd s b a) (hk : a.kind = 3#8) (hK : ∀ r, DoR κ G c (madeP s b a) r → K r) : wC Tryz.prog cx33 n33_3 (retW (fun s => (bnd (some (s.env.get 2)) fun v => bnd (some []) fun vs => some (v :: vs))) K) ⟨env, G⟩ := by
  have sx0 := blk_of d.x.st
  have wb0 := blk_of d.x.w.cell
  have hm := ok.adm (by simp [hk])
  obtain ⟨x, c3, c4, c5, c6, c7, e0, e3, e4, e5, e6, e7⟩ := d
  have b3 := c3.blk0
  have b7 := c7.blk0
  cases h1 : hasP fS s.seats a.e
  · have hmd : madeP s b a = .error 7 := by simp [madeP, hk, hm, hasP_fnd h1]
    have ff := And.intro sx0 (And.intro hk (And.intro h1 (And.intro b3 (And.intro b7 (And.intro e0 (And.intro e3 e7))))))
    refine runRp12_7 (x := ?_)
    clear ff
    exact hK _ ⟨κ, G, Fr.refl _ _, by rw [hmd]; rfl⟩
  obtain ⟨hlow, he, hf⟩ := low_yes hs.s h1
  obtain ⟨hl0, ⟨h0, _⟩ | ⟨bb, cc, xs, kk, hvs, hb, hc, h0, ht⟩⟩ := x.w.fs
  · rw [h0] at hlow; simp at hlow
  have hle : s.seats.length ≤ xs.length := by
    have := congrArg List.length ht
    rw [List.length_take] at this; omega
  obtain ⟨z, hz⟩ : ∃ z, z = s.seats[low fS s.seats a.e] := ⟨_, rfl⟩
  have hxz : xs[low fS s.seats a.e]? = some z := by
    have := congrArg (fun l => l[low fS s.seats a.e]?) ht
    simp only [List.getElem?_take_of_lt hlow, List.getElem?_eq_getElem hlow] at this
    rw [this, hz]
  rw [← hz] at hf
  obtain ⟨n, hn⟩ : ∃ n, n = low fS s.seats a.e := ⟨_, rfl⟩
  rw [← hn] at hxz hlow
  have i1 : mIdxS tSeat vs (nat n) = some (.ptr bb 0 [n] tSeat) := by rw [hvs]; simp [mIdxS, hlow]
  obtain ⟨B, hB⟩ : ∃ B, B = AV.node (xs.map eSeat) := ⟨_, rfl⟩
  have hbb : blkAt G bb 0 = some ⟨B, 0, .own⟩ := by rw [hB]; exact blk_of hb
  have hbg : B.get [n, 1] = some (u8 z.role) := by rw [hB]; simp [hxz, eSeat, -fold_eSeat]
  by_cases h2 : z.role = a.role
  · have hmd : madeP s b a = .error 8 := by simp [madeP, hk, hm, hf, h2]
    have ff := And.intro sx0 (And.intro wb0 (And.intro hk (And.intro h1 (And.intro i1 (And.intro hbb (And.intro hbg (And.intro h2 (And.intro b3 (And.intro b7 (And.intro e0 (And.intro e3 e7)))))))))))
    refine runRp12_8 (x := ?_)
    clear ff
    exact hK _ ⟨κ, G, Fr.refl _ _, by rw [hmd]; rfl⟩
  have hok : ¬ (z.role = 2#8 ∧ admins s = 1) → madeP s b a = .ok { s with seats := s.seats.set n { z with role := a.role } } := fun h => by
    have e : ins fS (del fS s.seats a.e) { z with role := a.role } = s.seats.set n { z with role := a.role } := by rw [hn]; exact ins_del_set hs.s h1 (fnd_mem hf).2
    simp only [madeP, hk, hm, hf, h2, h, e]; simp
  obtain ⟨B', hB'⟩ : ∃ B', B' = AV.node ((xs.set n { z with role := a.role }).map eSeat) := ⟨_, rfl⟩
  have hbp : B.put [n, 1] (u8 a.role) = some B' := by
    rw [hB, hB']
    simp [hxz, List.map_set]
  obtain ⟨G', hG'⟩ : ∃ G', G.set bb ⟨B', 0, .own⟩ = G' := ⟨_, rfl⟩
  have hnl : n < xs.length := by omega
  have fin : Wk κ G' c { s with seats := s.seats.set n { z with role := a.role } } vt vp vs vi va vb ∧ Fr κ G κ G' := by
    obtain ⟨k1, ch⟩ := krow_set (t := tSeat) (E := eSeat) (l := s.seats.set n { z with role := a.role }) (xs' := xs.set n { z with role := a.role }) (c := cc) kk hb (by simpa using hl0) (by simpa using hc) h0 (by rw [List.length_set, List.take_set, ht])
    rw [← hB', hG', List.length_set, ← hvs] at k1
    rw [← hB', hG'] at ch
    obtain ⟨r1, r2, r3, r4, r5, r6, r7, _, r8, r9, r10⟩ := x.w.rest ch (by decide)
    exact ⟨⟨r1, r2, r3, r4, r5, r6, r7, k1, r8 (by decide), r9 (by decide), r10 (by decide)⟩, ch.fr (by decide)⟩
  by_cases h4 : z.role = 2#8
  · by_cases h5 : admins s = 1
    · have hmd : madeP s b a = .error 192 := by rw [h4] at h2; simp [madeP, hk, hm, hf, h2, h4, h5]
      have hbg2 : B.get [n, 1] = some (u8 2#8) := by rw [hbg, h4]
      have h2' : ¬ 2#8 = a.role := by rw [← h4]; exact h2
      have ff := And.intro sx0 (And.intro wb0 (And.intro hk (And.intro h1 (And.intro i1 (And.intro hbb (And.intro hbg2 (And.intro h2' (And.intro h5 (And.intro b3 (And.intro b7 (And.intro e0 (And.intro e3 e7))))))))))))
      refine runRp12_9 (x := ?_)
      clear ff
      exact hK _ ⟨κ, G, Fr.refl _ _, by rw [hmd]; rfl⟩
    · have hmd := hok fun h => h5 h.2
      have hbg2 : B.get [n, 1] = some (u8 2#8) := by rw [hbg, h4]
      have h2' : ¬ 2#8 = a.role := by rw [← h4]; exact h2
      have ff := And.intro sx0 (And.intro wb0 (And.intro hk (And.intro h1 (And.intro i1 (And.intro hbb (And.intro hbg2 (And.intro h2' (And.intro h5 (And.intro hbp (And.intro hG' (And.intro b3 (And.intro b7 (And.intro e0 (And.intro e3 e7))))))))))))))
      refine runRp12_9 (x := ?_)
      clear ff
      exact hK _ ⟨κ, G', fin.2, by rw [hmd]; exact ⟨rfl, _, _, _, _, _, _, fin.1⟩⟩
  · have hmd := hok fun h => h4 h.1
    have ff := And.intro sx0 (And.intro wb0 (And.intro hk (And.intro h1 (And.intro i1 (And.intro hbb (And.intro hbg (And.intro h2 (And.intro h4 (And.intro hbp (And.intro hG' (And.intro b3 (And.intro b7 (And.intro e0 (And.intro e3 e7))))))))))))))
    refine runRp12_9 (x := ?_)
    clear ff
    exact hK _ ⟨κ, G', fin.2, by rw [hmd]; exact ⟨rfl, _, _, _, _, _, _, fin.1⟩⟩
end
end Go.Vab

/- How the code of a function is read. Printed by wip/tools/gen2.py and gen3.py (own work). -/
namespace Go.Vab
open Go Go.Proofs
def cx80 : Ctx := ⟨fun _ _ _ => none,TT,281,[21,22,23,24,25,26,27,28,29,30,31,32,33,34,35,36,37,38,39,40,41,42,43,44,45,46,47,48,49,52,54,56,58,60,62,64,66,68,70,72,74,75,76,77,78,79,80,81,82,83,84,85,86,87,88,89,90,91,92,93,95,96,97,98,99,100,101,102,103,104,105,106,107,109,110,111,112,113,114,115,116,117,118,119,120,121,122,123,124,125,126,127,128,129,130,131,133,134,135,136,137,138,139,140,141,142,143,144,145,147,149,150,151,152,153,154,155,156,157,158,159,160,161,163,165,166,167,168,169,170,171,172,173,174,175,176,177,178,179,180,181,182,183,184,185,186,187,188,189,190,191,192,193,194,195,196,197,198,200,201,202,203,204,205,207,208,209,210,211,212,213,214,215,216,217,218,220,221,222,223,224,225,226,227,228,230,231,232,233,234,235,236,237,238,240,241,242,243,245,246,247,248,249,250,251,252,253,254,255,256,257,258,259,260,261,262,263,264,265,266,267,268,269,270,271,272,273,274,275,276,277,278,279,280]⟩
noncomputable def n80_0 := bodyOf Tryz.f80
noncomputable def n80_1 := cR n80_0
noncomputable def n80_2 := cR n80_1
noncomputable def n80_3 := cR n80_2
noncomputable def n80_4 := cL n80_3
noncomputable def n80_5 := cR n80_4
noncomputable def n80_6 := cB n80_5
noncomputable def n80_7 := cL n80_6
noncomputable def n80_8 := cB n80_7
noncomputable def n80_9 := cL n80_8
noncomputable def n80_10 := cB n80_9
noncomputable def n80_11 := cL n80_10
noncomputable def n80_12 := cB n80_11
noncomputable def n80_13 := cL n80_12
noncomputable def n80_14 := cB n80_13
noncomputable def n80_15 := cL n80_14
noncomputable def n80_16 := cB n80_15
noncomputable def n80_17 := cL n80_16
noncomputable def n80_18 := cB n80_17
noncomputable def n80_19 := cL n80_18
noncomputable def n80_20 := cB n80_19
noncomputable def n80_21 := cL n80_20
noncomputable def n80_22 := cB n80_21
noncomputable def n80_23 := cL n80_22
noncomputable def n80_24 := cB n80_23
noncomputable def n80_25 := cL n80_24
noncomputable def n80_26 := cB n80_25
noncomputable def n80_27 := cL n80_26
noncomputable def n80_28 := cB n80_27
noncomputable def n80_29 := cL n80_28
noncomputable def n80_30 := cB n80_29
noncomputable def n80_31 := cL n80_30
noncomputable def n80_32 := cL n80_31
noncomputable def n80_33 := cR n80_32
noncomputable def n80_34 := cL n80_33
noncomputable def n80_35 := cR n80_33
noncomputable def n80_36 := cR n80_31
noncomputable def n80_37 := cL n80_36
noncomputable def n80_38 := cR n80_37
noncomputable def n80_39 := cL n80_38
noncomputable def n80_40 := cR n80_38
noncomputable def n80_41 := cR n80_36
noncomputable def n80_42 := cL n80_41
noncomputable def n80_43 := cR n80_42
noncomputable def n80_44 := cL n80_43
noncomputable def n80_45 := cR n80_43
noncomputable def n80_46 := cR n80_41
noncomputable def n80_47 := cL n80_46
noncomputable def n80_48 := cR n80_47
noncomputable def n80_49 := cL n80_48
noncomputable def n80_50 := cR n80_48
noncomputable def n80_51 := cR n80_46
noncomputable def n80_52 := cL n80_51
noncomputable def n80_53 := cR n80_52
noncomputable def n80_54 := cL n80_53
noncomputable def n80_55 := cR n80_53
noncomputable def n80_56 := cR n80_51
noncomputable def n80_57 := cL n80_56
noncomputable def n80_58 := cR n80_57
noncomputable def n80_59 := cL n80_58
noncomputable def n80_60 := cR n80_58
noncomputable def n80_61 := cR n80_56
noncomputable def n80_62 := cL n80_61
noncomputable def n80_63 := cR n80_62
noncomputable def n80_64 := cL n80_63
noncomputable def n80_65 := cR n80_63
noncomputable def n80_66 := cR n80_61
noncomputable def n80_67 := cL n80_66
noncomputable def n80_68 := cR n80_67
noncomputable def n80_69 := cL n80_68
noncomputable def n80_70 := cR n80_68
noncomputable def n80_71 := cR n80_66
noncomputable def n80_72 := cL n80_71
noncomputable def n80_73 := cR n80_72
noncomputable def n80_74 := cL n80_73
noncomputable def n80_75 := cR n80_73
noncomputable def n80_76 := cR n80_71
noncomputable def n80_77 := cL n80_76
noncomputable def n80_78 := cR n80_77
noncomputable def n80_79 := cL n80_78
noncomputable def n80_80 := cR n80_78
noncomputable def n80_81 := cR n80_76
noncomputable def n80_82 := cL n80_81
noncomputable def n80_83 := cR n80_82
noncomputable def n80_84 := cL n80_83
noncomputable def n80_85 := cR n80_83
noncomputable def n80_86 := cR n80_81
noncomputable def n80_87 := cR n80_86
noncomputable def n80_88 := cL n80_87
noncomputable def n80_89 := cR n80_87
noncomputable def n80_90 := cR n80_30
noncomputable def n80_91 := cR n80_28
noncomputable def n80_92 := cL n80_91
noncomputable def n80_93 := cL n80_92
noncomputable def n80_94 := cR n80_93
noncomputable def n80_95 := cL n80_94
noncomputable def n80_96 := cR n80_95
noncomputable def n80_97 := cR n80_94
noncomputable def n80_98 := cR n80_92
noncomputable def n80_99 := cR n80_91
noncomputable def n80_100 := cR n80_26
noncomputable def n80_101 := cL n80_100
noncomputable def n80_102 := cR n80_101
noncomputable def n80_103 := cL n80_102
noncomputable def n80_104 := cR n80_103
noncomputable def n80_105 := cL n80_104
noncomputable def n80_106 := cR n80_105
noncomputable def n80_107 := cR n80_104
noncomputable def n80_108 := cR n80_102
noncomputable def n80_109 := cL n80_108
noncomputable def n80_110 := cR n80_109
noncomputable def n80_111 := cL n80_110
noncomputable def n80_112 := cR n80_111
noncomputable def n80_113 := cR n80_110
noncomputable def n80_114 := cR n80_108
noncomputable def n80_115 := cR n80_100
noncomputable def n80_116 := cR n80_24
noncomputable def n80_117 := cL n80_116
noncomputable def n80_118 := cR n80_117
noncomputable def n80_119 := cL n80_118
noncomputable def n80_120 := cR n80_119
noncomputable def n80_121 := cL n80_120
noncomputable def n80_122 := cR n80_121
noncomputable def n80_123 := cR n80_120
noncomputable def n80_124 := cR n80_118
noncomputable def n80_125 := cL n80_124
noncomputable def n80_126 := cR n80_125
noncomputable def n80_127 := cL n80_126
noncomputable def n80_128 := cR n80_127
noncomputable def n80_129 := cR n80_126
noncomputable def n80_130 := cR n80_124
noncomputable def n80_131 := cR n80_130
noncomputable def n80_132 := cR n80_116
noncomputable def n80_133 := cR n80_22
noncomputable def n80_134 := cL n80_133
noncomputable def n80_135 := cR n80_134
noncomputable def n80_136 := cL n80_135
noncomputable def n80_137 := cR n80_136
noncomputable def n80_138 := cL n80_137
noncomputable def n80_139 := cR n80_138
noncomputable def n80_140 := cR n80_137
noncomputable def n80_141 := cR n80_135
noncomputable def n80_142 := cL n80_141
noncomputable def n80_143 := cR n80_142
noncomputable def n80_144 := cL n80_143
noncomputable def n80_145 := cR n80_144
noncomputable def n80_146 := cR n80_143
noncomputable def n80_147 := cR n80_141
noncomputable def n80_148 := cR n80_147
noncomputable def n80_149 := cR n80_133
noncomputable def n80_150 := cR n80_20
noncomputable def n80_151 := cL n80_150
noncomputable def n80_152 := cR n80_151
noncomputable def n80_153 := cR n80_150
noncomputable def n80_154 := cR n80_18
noncomputable def n80_155 := cR n80_16
noncomputable def n80_156 := cL n80_155
noncomputable def n80_157 := cR n80_156
noncomputable def n80_158 := cR n80_155
noncomputable def n80_159 := cR n80_14
noncomputable def n80_160 := cL n80_159
noncomputable def n80_161 := cR n80_160
noncomputable def n80_162 := cR n80_159
noncomputable def n80_163 := cR n80_12
noncomputable def n80_164 := cL n80_163
noncomputable def n80_165 := cL n80_164
noncomputable def n80_166 := cB n80_165
noncomputable def n80_167 := cR n80_166
noncomputable def n80_168 := cL n80_167
noncomputable def n80_169 := cR n80_168
noncomputable def n80_170 := cR n80_167
noncomputable def n80_171 := cR n80_170
noncomputable def n80_172 := cL n80_171
noncomputable def n80_173 := cR n80_172
noncomputable def n80_174 := cR n80_171
noncomputable def n80_175 := cR n80_164
noncomputable def n80_176 := cR n80_175
noncomputable def n80_177 := cL n80_176
noncomputable def n80_178 := cR n80_177
noncomputable def n80_179 := cR n80_178
noncomputable def n80_180 := cL n80_179
noncomputable def n80_181 := cR n80_179
noncomputable def n80_182 := cR n80_181
noncomputable def n80_183 := cR n80_182
noncomputable def n80_184 := cL n80_183
noncomputable def n80_185 := cR n80_183
noncomputable def n80_186 := cR n80_185
noncomputable def n80_187 := cR n80_186
noncomputable def n80_188 := cL n80_187
noncomputable def n80_189 := cR n80_187
noncomputable def n80_190 := cR n80_189
noncomputable def n80_191 := cR n80_176
noncomputable def n80_192 := cL n80_191
noncomputable def n80_193 := cR n80_192
noncomputable def n80_194 := cL n80_193
noncomputable def n80_195 := cR n80_194
noncomputable def n80_196 := cR n80_193
noncomputable def n80_197 := cR n80_191
noncomputable def n80_198 := cR n80_163
noncomputable def n80_199 := cR n80_10
noncomputable def n80_200 := cR n80_199
noncomputable def n80_201 := cR n80_8
noncomputable def n80_202 := cR n80_201
noncomputable def n80_203 := cR n80_6
noncomputable def n80_204 := cR n80_203
noncomputable def n80_205 := cR n80_3
noncomputable def n80_206 := cR n80_205
def q80 := zQ1 cx80 80 Tryz.f80 n80_0 fun s => (bnd (some (s.env.get 2)) fun v => bnd (some []) fun vs => some (v :: vs))
set_option maxRecDepth 20000
set_option maxHeartbeats 4000000
def n80_2_eq := zAll cx80 [[n80_3, n80_2]]
def n80_0_eq := zAll cx80 [[n80_1, n80_0]]
def n80_98_w := zDr cx80 [n80_98] [5] [0,0,2,6,14,31] [0,1,2,3,4] (.o 5 [] [] .f)
def n80_109_w := zDr cx80 [n80_110,n80_109] [] [0,1,3,7,15,31,63,127,255,511,1023,2047,4095,63,16383,32767,65535,131071,63,262207,786495,1835071,4194303,8388607] [0,1,2,3,4,5,6,7,8,9,10,11,12,13,14,15,16,17,18,19,20,21,22,23] .f
def n80_117_w := zDr cx80 [n80_118,n80_117] [5,9,10] [0,0,2,6,14,31,63,127,127,0,767,2047] [0,1,2,3,4] (.b 5 [6,7,8] [] (.o 9 [] [0,4] (.o 10 [11] [] .f)) (.o 9 [] [0,4] (.o 5 [6,7,8] [] (.o 10 [11] [] .f))))
def n80_147_w := zDr cx80 [n80_148,n80_147] [8] [0,0,2,0,8,24,56,120,255,511] [0,1,2,3,4,5,6,7] (.o 8 [9] [] .f)
def n80_151_w := zDr cx80 [n80_152,n80_151] [5] [0,0,2,6,14,31,63,63,255,511] [0,1,2,3,4] (.o 5 [6,7,8,9] [] .f)
def n80_166_w := zDr cx80 [n80_167,n80_166] [] [0,0,2,6,14,31,63] [0,1,2,3,4,5,6] .f
def n80_199_w := zDr cx80 [n80_200,n80_199] [11] [0,1,3,7,0,16,48,112,240,511,1023,2047] [0,1,2,3,4,5,6,7,8,9,10] (.o 11 [] [] .f)
def n80_201_w := zDr cx80 [n80_202,n80_201] [11] [0,1,3,7,0,16,48,112,240,511,1023,2047] [0,1,2,3,4,5,6,7,8,9,10] (.o 11 [] [] .f)
def n80_203_w := zDr cx80 [n80_204,n80_203] [11] [0,1,3,7,0,16,48,112,240,511,1023,2047] [0,1,2,3,4,5,6,7,8,9,10] (.o 11 [] [] .f)
def n80_1_w := zDr cx80 [n80_2,n80_1] [20,21,22,23,24,25,26,27] [0,1,3,7,15,0,32,96,224,511,0,1024,3072,7168,16383,0,32768,98304,229376,524287,0,0,0,0,16777215,33554431,67108863,134217727] [0,1,2,3,4,5,6,7,8,9,10,11,12,13,14,15,16,17,18,19] (.b 20 [] [3,4,8,9,13,14,18,19] (.b 21 [] [3,4,8,9,13,14,18,19] (.b 22 [] [3,4,8,9,13,14,18,19] (.o 23 [] [3,4,8,9,13,14,18,19] (.o 24 [] [] (.o 25 [] [] (.o 26 [] [] (.o 27 [] [] .f))))) (.o 23 [] [3,4,8,9,13,14,18,19] (.o 22 [] [3,4,8,9,13,14,18,19] (.o 24 [] [] (.o 25 [] [] (.o 26 [] [] (.o 27 [] [] .f))))))) (.b 22 [] [3,4,8,9,13,14,18,19] (.b 21 [] [3,4,8,9,13,14,18,19] (.o 23 [] [3,4,8,9,13,14,18,19] (.o 24 [] [] (.o 25 [] [] (.o 26 [] [] (.o 27 [] [] .f))))) (.o 23 [] [3,4,8,9,13,14,18,19] (.o 21 [] [3,4,8,9,13,14,18,19] (.o 24 [] [] (.o 25 [] [] (.o 26 [] [] (.o 27 [] [] .f))))))) (.o 23 [] [3,4,8,9,13,14,18,19] (.b 21 [] [3,4,8,9,13,14,18,19] (.o 22 [] [3,4,8,9,13,14,18,19] (.o 24 [] [] (.o 25 [] [] (.o 26 [] [] (.o 27 [] [] .f))))) (.o 22 [] [3,4,8,9,13,14,18,19] (.o 21 [] [3,4,8,9,13,14,18,19] (.o 24 [] [] (.o 25 [] [] (.o 26 [] [] (.o 27 [] [] .f)))))))))) (.b 21 [] [3,4,8,9,13,14,18,19] (.b 20 [] [3,4,8,9,13,14,18,19] (.b 22 [] [3,4,8,9,13,14,18,19] (.o 23 [] [3,4,8,9,13,14,18,19] (.o 24 [] [] (.o 25 [] [] (.o 26 [] [] (.o 27 [] [] .f))))) (.o 23 [] [3,4,8,9,13,14,18,19] (.o 22 [] [3,4,8,9,13,14,18,19] (.o 24 [] [] (.o 25 [] [] (.o 26 [] [] (.o 27 [] [] .f))))))) (.b 22 [] [3,4,8,9,13,14,18,19] (.b 20 [] [3,4,8,9,13,14,18,19] (.o 23 [] [3,4,8,9,13,14,18,19] (.o 24 [] [] (.o 25 [] [] (.o 26 [] [] (.o 27 [] [] .f))))) (.o 23 [] [3,4,8,9,13,14,18,19] (.o 20 [] [3,4,8,9,13,14,18,19] (.o 24 [] [] (.o 25 [] [] (.o 26 [] [] (.o 27 [] [] .f))))))) (.o 23 [] [3,4,8,9,13,14,18,19] (.b 20 [] [3,4,8,9,13,14,18,19] (.o 22 [] [3,4,8,9,13,14,18,19] (.o 24 [] [] (.o 25 [] [] (.o 26 [] [] (.o 27 [] [] .f))))) (.o 22 [] [3,4,8,9,13,14,18,19] (.o 20 [] [3,4,8,9,13,14,18,19] (.o 24 [] [] (.o 25 [] [] (.o 26 [] [] (.o 27 [] [] .f)))))))))) (.b 22 [] [3,4,8,9,13,14,18,19] (.b 20 [] [3,4,8,9,13,14,18,19] (.b 21 [] [3,4,8,9,13,14,18,19] (.o 23 [] [3,4,8,9,13,14,18,19] (.o 24 [] [] (.o 25 [] [] (.o 26 [] [] (.o 27 [] [] .f))))) (.o 23 [] [3,4,8,9,13,14,18,19] (.o 21 [] [3,4,8,9,13,14,18,19] (.o 24 [] [] (.o 25 [] [] (.o 26 [] [] (.o 27 [] [] .f))))))) (.b 21 [] [3,4,8,9,13,14,18,19] (.b 20 [] [3,4,8,9,13,14,18,19] (.o 23 [] [3,4,8,9,13,14,18,19] (.o 24 [] [] (.o 25 [] [] (.o 26 [] [] (.o 27 [] [] .f))))) (.o 23 [] [3,4,8,9,13,14,18,19] (.o 20 [] [3,4,8,9,13,14,18,19] (.o 24 [] [] (.o 25 [] [] (.o 26 [] [] (.o 27 [] [] .f))))))) (.o 23 [] [3,4,8,9,13,14,18,19] (.b 20 [] [3,4,8,9,13,14,18,19] (.o 21 [] [3,4,8,9,13,14,18,19] (.o 24 [] [] (.o 25 [] [] (.o 26 [] [] (.o 27 [] [] .f))))) (.o 21 [] [3,4,8,9,13,14,18,19] (.o 20 [] [3,4,8,9,13,14,18,19] (.o 24 [] [] (.o 25 [] [] (.o 26 [] [] (.o 27 [] [] .f)))))))))) (.o 23 [] [3,4,8,9,13,14,18,19] (.b 20 [] [3,4,8,9,13,14,18,19] (.b 21 [] [3,4,8,9,13,14,18,19] (.o 22 [] [3,4,8,9,13,14,18,19] (.o 24 [] [] (.o 25 [] [] (.o 26 [] [] (.o 27 [] [] .f))))) (.o 22 [] [3,4,8,9,13,14,18,19] (.o 21 [] [3,4,8,9,13,14,18,19] (.o 24 [] [] (.o 25 [] [] (.o 26 [] [] (.o 27 [] [] .f))))))) (.b 21 [] [3,4,8,9,13,14,18,19] (.b 20 [] [3,4,8,9,13,14,18,19] (.o 22 [] [3,4,8,9,13,14,18,19] (.o 24 [] [] (.o 25 [] [] (.o 26 [] [] (.o 27 [] [] .f))))) (.o 22 [] [3,4,8,9,13,14,18,19] (.o 20 [] [3,4,8,9,13,14,18,19] (.o 24 [] [] (.o 25 [] [] (.o 26 [] [] (.o 27 [] [] .f))))))) (.o 22 [] [3,4,8,9,13,14,18,19] (.b 20 [] [3,4,8,9,13,14,18,19] (.o 21 [] [3,4,8,9,13,14,18,19] (.o 24 [] [] (.o 25 [] [] (.o 26 [] [] (.o 27 [] [] .f))))) (.o 21 [] [3,4,8,9,13,14,18,19] (.o 20 [] [3,4,8,9,13,14,18,19] (.o 24 [] [] (.o 25 [] [] (.o 26 [] [] (.o 27 [] [] .f))))))))))))))
def sn80 := zAll cx80 [[n80_34],[n80_35],[n80_34,n80_35,n80_33],[n80_33,n80_32],[n80_39],[n80_40],[n80_39,n80_40,n80_38],[n80_38,n80_37],[n80_44],[n80_45],[n80_44,n80_45,n80_43],[n80_43,n80_42],[n80_49],[n80_50],[n80_49,n80_50,n80_48],[n80_48,n80_47],[n80_54],[n80_55],[n80_54,n80_55,n80_53],[n80_53,n80_52],[n80_59],[n80_60],[n80_59,n80_60,n80_58],[n80_58,n80_57],[n80_64],[n80_65],[n80_64,n80_65,n80_63],[n80_63,n80_62],[n80_69],[n80_70],[n80_69,n80_70,n80_68],[n80_68,n80_67],[n80_74],[n80_75],[n80_74,n80_75,n80_73],[n80_73,n80_72],[n80_79],[n80_80],[n80_79,n80_80,n80_78],[n80_78,n80_77],[n80_84],[n80_85],[n80_84,n80_85,n80_83],[n80_83,n80_82],[n80_88],[n80_89],[n80_88,n80_89,n80_87],[n80_87,n80_86],[n80_82,n80_86,n80_81],[n80_77,n80_81,n80_76],[n80_72,n80_76,n80_71],[n80_67,n80_71,n80_66],[n80_62,n80_66,n80_61],[n80_57,n80_61,n80_56],[n80_52,n80_56,n80_51],[n80_47,n80_51,n80_46],[n80_42,n80_46,n80_41],[n80_37,n80_41,n80_36],[n80_32,n80_36,n80_31],[n80_90],[n80_31,n80_90,n80_30],[n80_30,n80_29],[n80_96],[n80_96,n80_95],[n80_97],[n80_95,n80_97,n80_94],[n80_94,n80_93],[n80_93,n80_98,n80_92],[n80_99],[n80_92,n80_99,n80_91],[n80_29,n80_91,n80_28],[n80_28,n80_27],[n80_106],[n80_106,n80_105],[n80_107],[n80_105,n80_107,n80_104],[n80_104,n80_103],[n80_112],[n80_112,n80_111],[n80_113],[n80_111,n80_113,n80_110],[n80_114],[n80_109,n80_114,n80_108],[n80_103,n80_108,n80_102],[n80_102,n80_101],[n80_115],[n80_101,n80_115,n80_100],[n80_27,n80_100,n80_26],[n80_26,n80_25],[n80_122],[n80_122,n80_121],[n80_123],[n80_121,n80_123,n80_120],[n80_120,n80_119],[n80_128],[n80_128,n80_127],[n80_129],[n80_127,n80_129,n80_126],[n80_126,n80_125],[n80_131],[n80_131,n80_130],[n80_125,n80_130,n80_124],[n80_119,n80_124,n80_118],[n80_132],[n80_117,n80_132,n80_116],[n80_25,n80_116,n80_24],[n80_24,n80_23],[n80_139],[n80_139,n80_138],[n80_140],[n80_138,n80_140,n80_137],[n80_137,n80_136],[n80_145],[n80_145,n80_144],[n80_146],[n80_144,n80_146,n80_143],[n80_143,n80_142],[n80_148],[n80_142,n80_147,n80_141],[n80_136,n80_141,n80_135],[n80_135,n80_134],[n80_149],[n80_134,n80_149,n80_133],[n80_23,n80_133,n80_22],[n80_22,n80_21],[n80_152],[n80_153],[n80_151,n80_153,n80_150],[n80_21,n80_150,n80_20],[n80_20,n80_19],[n80_154],[n80_19,n80_154,n80_18],[n80_18,n80_17],[n80_157],[n80_157,n80_156],[n80_158],[n80_156,n80_158,n80_155],[n80_17,n80_155,n80_16],[n80_16,n80_15],[n80_161],[n80_161,n80_160],[n80_162],[n80_160,n80_162,n80_159],[n80_15,n80_159,n80_14],[n80_14,n80_13],[n80_169],[n80_169,n80_168],[n80_173],[n80_173,n80_172],[n80_174],[n80_172,n80_174,n80_171],[n80_171,n80_170],[n80_168,n80_170,n80_167],[n80_166,n80_165],[n80_180],[n80_184],[n80_188],[n80_190],[n80_190,n80_189],[n80_188,n80_189,n80_187],[n80_187,n80_186],[n80_186,n80_185],[n80_184,n80_185,n80_183],[n80_183,n80_182],[n80_182,n80_181],[n80_180,n80_181,n80_179],[n80_179,n80_178],[n80_178,n80_177],[n80_195],[n80_195,n80_194],[n80_196],[n80_194,n80_196,n80_193],[n80_193,n80_192],[n80_197],[n80_192,n80_197,n80_191],[n80_177,n80_191,n80_176],[n80_176,n80_175],[n80_165,n80_175,n80_164],[n80_198],[n80_164,n80_198,n80_163],[n80_13,n80_163,n80_12],[n80_12,n80_11],[n80_200],[n80_11,n80_199,n80_10],[n80_10,n80_9],[n80_202],[n80_9,n80_201,n80_8],[n80_8,n80_7],[n80_204],[n80_7,n80_203,n80_6],[n80_6,n80_5],[n80_5,n80_4],[n80_206],[n80_206,n80_205],[n80_4,n80_205,n80_3],[n80_3,n80_2],[n80_1,n80_0]]
-- words: SpecA ValW bothP cndW gW gv stabP wL
-- draws: n80_98 n80_109 n80_117 n80_147 n80_151 n80_166 n80_199 n80_201 n80_203 n80_1
end Go.Vab

/-
  A step is done, for oneself, or to what waits: the first statements, whose order is open; walked.
-/
namespace Go.Vab
open Go Go.Proofs
theorem runRp13_0 {G X : Prop} (f : Hd X → G := by
  intro xX
  repeat' (first | refine stp (x := ?_) | (with_reducible refine bothP_i ?_ ?_) | (simp (decide := true) only [n80_2_eq, snB, if_true, if_false]))
  exact xX.get) (x : X) : G := f ⟨x⟩
section
variable {κ : Nat → Nat} {H : Heap} {c xb : Nat} {s : Stt} {b : Pt} {a : Actn} {m : BitVec 8} {vt vp vs vi va vb wt wp : AV}
set_option maxHeartbeats 8000000 in
theorem more_start1 (x : Sx κ H c xb s b a m vt vp vs vi va vb wt wp) {Q : Ex × St → Prop} {env : Env} (g0 : env.get 0 = .ptr xb 0 [] tLstep)
    (tail : ∀ (env' : Env) (l : Heap) (p3 p4 p5 p6 : Nat), env'.get 0 = .ptr xb 0 [] tLstep → env'.get 3 = .ptr p3 0 [] tRollSeat → env'.get 4 = .ptr p4 0 [] tRollInvite → env'.get 5 = .ptr p5 0 [] tRollAsk → env'.get 6 = .ptr p6 0 [] tRollBan → Cel κ (H ++ l) p3 (rollS c) → Cel κ (H ++ l) p4 (rollI c) → Cel κ (H ++ l) p5 (rollA c) → Cel κ (H ++ l) p6 (rollB c) → wC Tryz.prog cx80 n80_2 Q ⟨env', H ++ l⟩) :
    wC Tryz.prog cx80 n80_0 Q ⟨env, H⟩ := by
  have sx := x.blk
  have wb := x.w.blk
  have sx0 := blk_of x.st
  have wb0 := blk_of x.w.cell
  have top := x.w.top
  repeat' (first | ((with_reducible refine evs_of (a := ?_) ?_ ?_); rotate_left; (focus ((conv => lhs; simp (disch := omega) [g0, sx, wb, sx0, wb0]); done)); try dsimp only) | ((with_reducible refine gW_do ?_ ?_); (focus (simp (disch := omega) [g0, sx, wb, sx0, wb0]; done))) | ((with_reducible refine gW_no ?_ ?_); (focus (simp (disch := omega) [g0, sx, wb, sx0, wb0]; done)); try dsimp only) | ((with_reducible refine gW_un ?_ ?_); (focus (simp (disch := omega) [g0, sx, wb, sx0, wb0]; done)); try dsimp only) | ((with_reducible refine cndW_T ?_ ?_); (focus (simp (disch := omega) [g0, sx, wb, sx0, wb0] <;> omega))) | ((with_reducible refine cndW_F ?_ ?_); (focus (simp (disch := omega) [g0, sx, wb, sx0, wb0] <;> omega))) | ((with_reducible refine stabP_i ?_ ?_); (focus (simp (disch := omega) [g0, sx, wb, sx0, wb0]; done))) | (with_reducible refine bothP_i ?_ ?_) | (with_reducible refine wL_i ?_) | ((with_reducible refine ValW_do ?_ ?_); (focus (simp (disch := omega) [g0, sx, wb, sx0, wb0]; done)); try dsimp only) | ((with_reducible refine ValW_no ?_ ?_); (focus (simp (disch := omega) [g0, sx, wb, sx0, wb0]; done)); try dsimp only) | ((with_reducible refine ValW_un ?_ ?_); (focus (simp (disch := omega) [g0, sx, wb, sx0, wb0]; done)); try dsimp only) | (with_reducible refine ValW_i (c63 x.w.lt) ?_; try dsimp only) | (with_reducible refine SpecQ.step (c63 x.w.lt) ?_; rintro _ rfl; try dsimp only) | (with_reducible refine stabP_i (c63 x.w.lt) ?_) | (with_reducible refine ValW_i (c64 x.w.lt) ?_; try dsimp only) | (with_reducible refine SpecQ.step (c64 x.w.lt) ?_; rintro _ rfl; try dsimp only) | (with_reducible refine stabP_i (c64 x.w.lt) ?_) | (with_reducible refine ValW_i (c65 x.w.lt) ?_; try dsimp only) | (with_reducible refine SpecQ.step (c65 x.w.lt) ?_; rintro _ rfl; try dsimp only) | (with_reducible refine stabP_i (c65 x.w.lt) ?_) | (with_reducible refine ValW_i (c94 x.w.lt) ?_; try dsimp only) | (with_reducible refine SpecQ.step (c94 x.w.lt) ?_; rintro _ rfl; try dsimp only) | (with_reducible refine stabP_i (c94 x.w.lt) ?_) | (with_reducible refine ValW_i (c63 (x.lt _)) ?_; try dsimp only) | (with_reducible refine SpecQ.step (c63 (x.lt _)) ?_; rintro _ rfl; try dsimp only) | (with_reducible refine stabP_i (c63 (x.lt _)) ?_) | (with_reducible refine ValW_i (c64 (x.lt _)) ?_; try dsimp only) | (with_reducible refine SpecQ.step (c64 (x.lt _)) ?_; rintro _ rfl; try dsimp only) | (with_reducible refine stabP_i (c64 (x.lt _)) ?_) | (with_reducible refine ValW_i (c65 (x.lt _)) ?_; try dsimp only) | (with_reducible refine SpecQ.step (c65 (x.lt _)) ?_; rintro _ rfl; try dsimp only) | (with_reducible refine stabP_i (c65 (x.lt _)) ?_) | (with_reducible refine ValW_i (c94 (x.lt _)) ?_; try dsimp only) | (with_reducible refine SpecQ.step (c94 (x.lt _)) ?_; rintro _ rfl; try dsimp only) | (with_reducible refine stabP_i (c94 (x.lt _)) ?_) | ((with_reducible refine SpecA_i (args' := ?_) ?_ ?_); rotate_left; (focus ((conv => lhs; simp (disch := omega) [g0, sx, wb, sx0, wb0]); done))) | ((with_reducible refine ValA_i (args' := ?_) ?_ ?_); rotate_left; (focus ((conv => lhs; simp (disch := omega) [g0, sx, wb, sx0, wb0]); done))) | ((with_reducible refine stabA_i (args' := ?_) ?_ ?_); rotate_left; (focus ((conv => lhs; simp (disch := omega) [g0, sx, wb, sx0, wb0]); done))) | ((with_reducible refine ValA_fn (g := ?_) (caps := ?_) ?_ ?_); rotate_left; rotate_left; (focus ((conv => lhs; simp (disch := omega) [g0, sx, wb, sx0, wb0]); done))) | ((with_reducible refine stabA_fn (g := ?_) (caps := ?_) ?_ ?_); rotate_left; rotate_left; (focus ((conv => lhs; simp (disch := omega) [g0, sx, wb, sx0, wb0]); done))) | ((with_reducible refine stab_do ?_ ?_); (focus (simp (disch := omega) [g0, sx, wb, sx0, wb0]; done))) | (simp (decide := true) only [n80_0_eq, sqW_nrm, sqW_exit, sqW_ret, inBlk_nrm, inBlk_ret, inBlk_same, inBlk_exit, if_true, if_false, retW_nrm, retW_ret]) | (with_reducible refine n80_1_w _ _ _ ?_) | ((with_reducible refine cndW_splitE (b := ?_) ?_ ?_ ?_); rotate_left; (focus ((conv => lhs; simp (disch := omega) [g0, sx, wb, sx0, wb0]); done)); all_goals ((intro hb; try simp only [Bool.not_true, Bool.not_false] at hb); try simp only [hb])) | ((with_reducible refine gv_splitE (b := ?_) ?_ ?_ ?_); rotate_left; (focus ((conv => lhs; simp (disch := omega) [g0, sx, wb, sx0, wb0]); done)); all_goals ((intro hb; try simp only [Bool.not_true, Bool.not_false] at hb); try simp only [hb])) | ((with_reducible refine gW_splitE (b := ?_) ?_ ?_ ?_); rotate_left; (focus ((conv => lhs; simp (disch := omega) [g0, sx, wb, sx0, wb0]); done)); all_goals ((intro hb; try simp only [Bool.not_true, Bool.not_false] at hb); try simp only [hb])) | (with_reducible refine gv_split ?_ ?_ <;> (intro hb; try simp only [Bool.not_true, Bool.not_false] at hb) <;> try simp only [hb]) | (with_reducible refine gW_split ?_ ?_ <;> (intro hb; try simp only [Bool.not_true, Bool.not_false] at hb) <;> try simp only [hb]) | (with_reducible refine cndW_split ?_ ?_ <;> (intro hb; try simp only [Bool.not_true, Bool.not_false] at hb) <;> try simp only [hb]) | (with_reducible refine ValW_split ?_ ?_ <;> (intro hb; try simp only [Bool.not_true, Bool.not_false] at hb) <;> try simp only [hb]))
  all_goals first
    | exact tail _ _ H.length (H.length + 1) (H.length + 2) (H.length + 3) (by simp [g0]) (by simp) (by simp) (by simp) (by simp) (Cel.new0 top (by rfl)) (Cel.new (k := 1) top (by rfl)) (Cel.new (k := 2) top (by rfl)) (Cel.new (k := 3) top (by rfl))
    | exact tail _ _ H.length (H.length + 1) (H.length + 3) (H.length + 2) (by simp [g0]) (by simp) (by simp) (by simp) (by simp) (Cel.new0 top (by rfl)) (Cel.new (k := 1) top (by rfl)) (Cel.new (k := 3) top (by rfl)) (Cel.new (k := 2) top (by rfl))
    | exact tail _ _ H.length (H.length + 2) (H.length + 1) (H.length + 3) (by simp [g0]) (by simp) (by simp) (by simp) (by simp) (Cel.new0 top (by rfl)) (Cel.new (k := 2) top (by rfl)) (Cel.new (k := 1) top (by rfl)) (Cel.new (k := 3) top (by rfl))
    | exact tail _ _ H.length (H.length + 2) (H.length + 3) (H.length + 1) (by simp [g0]) (by simp) (by simp) (by simp) (by simp) (Cel.new0 top (by rfl)) (Cel.new (k := 2) top (by rfl)) (Cel.new (k := 3) top (by rfl)) (Cel.new (k := 1) top (by rfl))
    | exact tail _ _ H.length (H.length + 3) (H.length + 1) (H.length + 2) (by simp [g0]) (by simp) (by simp) (by simp) (by simp) (Cel.new0 top (by rfl)) (Cel.new (k := 3) top (by rfl)) (Cel.new (k := 1) top (by rfl)) (Cel.new (k := 2) top (by rfl))
    | exact tail _ _ H.length (H.length + 3) (H.length + 2) (H.length + 1) (by simp [g0]) (by simp) (by simp) (by simp) (by simp) (Cel.new0 top (by rfl)) (Cel.new (k := 3) top (by rfl)) (Cel.new (k := 2) top (by rfl)) (Cel.new (k := 1) top (by rfl))
    | exact tail _ _ (H.length + 1) H.length (H.length + 2) (H.length + 3) (by simp [g0]) (by simp) (by simp) (by simp) (by simp) (Cel.new (k := 1) top (by rfl)) (Cel.new0 top (by rfl)) (Cel.new (k := 2) top (by rfl)) (Cel.new (k := 3) top (by rfl))
    | exact tail _ _ (H.length + 1) H.length (H.length + 3) (H.length + 2) (by simp [g0]) (by simp) (by simp) (by simp) (by simp) (Cel.new (k := 1) top (by rfl)) (Cel.new0 top (by rfl)) (Cel.new (k := 3) top (by rfl)) (Cel.new (k := 2) top (by rfl))
    | exact tail _ _ (H.length + 1) (H.length + 2) H.length (H.length + 3) (by simp [g0]) (by simp) (by simp) (by simp) (by simp) (Cel.new (k := 1) top (by rfl)) (Cel.new (k := 2) top (by rfl)) (Cel.new0 top (by rfl)) (Cel.new (k := 3) top (by rfl))
    | exact tail _ _ (H.length + 1) (H.length + 2) (H.length + 3) H.length (by simp [g0]) (by simp) (by simp) (by simp) (by simp) (Cel.new (k := 1) top (by rfl)) (Cel.new (k := 2) top (by rfl)) (Cel.new (k := 3) top (by rfl)) (Cel.new0 top (by rfl))
    | exact tail _ _ (H.length + 1) (H.length + 3) H.length (H.length + 2) (by simp [g0]) (by simp) (by simp) (by simp) (by simp) (Cel.new (k := 1) top (by rfl)) (Cel.new (k := 3) top (by rfl)) (Cel.new0 top (by rfl)) (Cel.new (k := 2) top (by rfl))
    | exact tail _ _ (H.length + 1) (H.length + 3) (H.length + 2) H.length (by simp [g0]) (by simp) (by simp) (by simp) (by simp) (Cel.new (k := 1) top (by rfl)) (Cel.new (k := 3) top (by rfl)) (Cel.new (k := 2) top (by rfl)) (Cel.new0 top (by rfl))
    | exact tail _ _ (H.length + 2) H.length (H.length + 1) (H.length + 3) (by simp [g0]) (by simp) (by simp) (by simp) (by simp) (Cel.new (k := 2) top (by rfl)) (Cel.new0 top (by rfl)) (Cel.new (k := 1) top (by rfl)) (Cel.new (k := 3) top (by rfl))
    | exact tail _ _ (H.length + 2) H.length (H.length + 3) (H.length + 1) (by simp [g0]) (by simp) (by simp) (by simp) (by simp) (Cel.new (k := 2) top (by rfl)) (Cel.new0 top (by rfl)) (Cel.new (k := 3) top (by rfl)) (Cel.new (k := 1) top (by rfl))
    | exact tail _ _ (H.length + 2) (H.length + 1) H.length (H.length + 3) (by simp [g0]) (by simp) (by simp) (by simp) (by simp) (Cel.new (k := 2) top (by rfl)) (Cel.new (k := 1) top (by rfl)) (Cel.new0 top (by rfl)) (Cel.new (k := 3) top (by rfl))
    | exact tail _ _ (H.length + 2) (H.length + 1) (H.length + 3) H.length (by simp [g0]) (by simp) (by simp) (by simp) (by simp) (Cel.new (k := 2) top (by rfl)) (Cel.new (k := 1) top (by rfl)) (Cel.new (k := 3) top (by rfl)) (Cel.new0 top (by rfl))
    | exact tail _ _ (H.length + 2) (H.length + 3) H.length (H.length + 1) (by simp [g0]) (by simp) (by simp) (by simp) (by simp) (Cel.new (k := 2) top (by rfl)) (Cel.new (k := 3) top (by rfl)) (Cel.new0 top (by rfl)) (Cel.new (k := 1) top (by rfl))
    | exact tail _ _ (H.length + 2) (H.length + 3) (H.length + 1) H.length (by simp [g0]) (by simp) (by simp) (by simp) (by simp) (Cel.new (k := 2) top (by rfl)) (Cel.new (k := 3) top (by rfl)) (Cel.new (k := 1) top (by rfl)) (Cel.new0 top (by rfl))
    | exact tail _ _ (H.length + 3) H.length (H.length + 1) (H.length + 2) (by simp [g0]) (by simp) (by simp) (by simp) (by simp) (Cel.new (k := 3) top (by rfl)) (Cel.new0 top (by rfl)) (Cel.new (k := 1) top (by rfl)) (Cel.new (k := 2) top (by rfl))
    | exact tail _ _ (H.length + 3) H.length (H.length + 2) (H.length + 1) (by simp [g0]) (by simp) (by simp) (by simp) (by simp) (Cel.new (k := 3) top (by rfl)) (Cel.new0 top (by rfl)) (Cel.new (k := 2) top (by rfl)) (Cel.new (k := 1) top (by rfl))
    | exact tail _ _ (H.length + 3) (H.length + 1) H.length (H.length + 2) (by simp [g0]) (by simp) (by simp) (by simp) (by simp) (Cel.new (k := 3) top (by rfl)) (Cel.new (k := 1) top (by rfl)) (Cel.new0 top (by rfl)) (Cel.new (k := 2) top (by rfl))
    | exact tail _ _ (H.length + 3) (H.length + 1) (H.length + 2) H.length (by simp [g0]) (by simp) (by simp) (by simp) (by simp) (Cel.new (k := 3) top (by rfl)) (Cel.new (k := 1) top (by rfl)) (Cel.new (k := 2) top (by rfl)) (Cel.new0 top (by rfl))
    | exact tail _ _ (H.length + 3) (H.length + 2) H.length (H.length + 1) (by simp [g0]) (by simp) (by simp) (by simp) (by simp) (Cel.new (k := 3) top (by rfl)) (Cel.new (k := 2) top (by rfl)) (Cel.new0 top (by rfl)) (Cel.new (k := 1) top (by rfl))
    | exact tail _ _ (H.length + 3) (H.length + 2) (H.length + 1) H.length (by simp [g0]) (by simp) (by simp) (by simp) (by simp) (Cel.new (k := 3) top (by rfl)) (Cel.new (k := 2) top (by rfl)) (Cel.new (k := 1) top (by rfl)) (Cel.new0 top (by rfl))
/-- What 'more' holds. -/
structure Mx (κ : Nat → Nat) (G : Heap) (c xb : Nat) (s : Stt) (b : Pt) (a : Actn) (m : BitVec 8) (vt vp vs vi va vb wt wp : AV) (pe : Pt) (env : Env) (p3 p4 p5 p6 p7 : Nat) : Prop where
  x : Sx κ G c xb s b a m vt vp vs vi va vb wt wp
  c3 : Cel κ G p3 (rollS c)
  c4 : Cel κ G p4 (rollI c)
  c5 : Cel κ G p5 (rollA c)
  c6 : Cel κ G p6 (rollB c)
  c7 : Cel κ G p7 (pt pe)
  e0 : env.get 0 = .ptr xb 0 [] tLstep
  e3 : env.get 3 = .ptr p3 0 [] tRollSeat
  e4 : env.get 4 = .ptr p4 0 [] tRollInvite
  e5 : env.get 5 = .ptr p5 0 [] tRollAsk
  e6 : env.get 6 = .ptr p6 0 [] tRollBan
  e7 : env.get 7 = .ptr p7 0 [] (.arr 32 (.int .u8))
theorem Mx.next {G : Heap} {pe : Pt} {env : Env} {p3 p4 p5 p6 p7 : Nat} {κ' : Nat → Nat} {G' : Heap} {s' : Stt} {ut up us ui ua ub : AV} (d : Mx κ G c xb s b a m vt vp vs vi va vb wt wp pe env p3 p4 p5 p6 p7) (fr : Fr κ G κ' G') (w' : Wk κ' G' c s' ut up us ui ua ub) : Mx κ' G' c xb s' b a m ut up us ui ua ub wt wp pe env p3 p4 p5 p6 p7 :=
  ⟨d.x.next fr w', d.c3.next fr, d.c4.next fr, d.c5.next fr, d.c6.next fr, d.c7.next fr, d.e0, d.e3, d.e4, d.e5, d.e6, d.e7⟩
theorem more_start (x : Sx κ H c xb s b a m vt vp vs vi va vb wt wp) {Q : Ex × St → Prop} {env : Env} (g0 : env.get 0 = .ptr xb 0 [] tLstep)
    (tail : ∀ (κ' : Nat → Nat) (env' : Env) (G : Heap) (p3 p4 p5 p6 p7 : Nat), Mx κ' G c xb s b a m vt vp vs vi va vb wt wp a.e env' p3 p4 p5 p6 p7 → Fr κ H κ' G → κ' p7 = 6 → H.length ≤ p7 → p5 ≠ p7 → wC Tryz.prog cx80 n80_3 Q ⟨env', G⟩) : wC Tryz.prog cx80 n80_0 Q ⟨env, H⟩ := by
  refine more_start1 x g0 fun env' l p3 p4 p5 p6 e0 e3 e4 e5 e6 c3 c4 c5 c6 => ?_
  have x1 := x.app l
  have sx0 := blk_of x1.st
  have hl : (H ++ l).length = H.length + l.length := List.length_append
  obtain ⟨G, hG⟩ : ∃ G, G = H ++ l := ⟨_, rfl⟩
  have f0 : Fr κ H κ G := by rw [hG]; exact (Fr.refl _ _).app
  rw [← hG] at x1 c3 c4 c5 c6 sx0 hl ⊢
  have ff := And.intro e0 sx0
  refine runRp13_0 (x := ?_)
  clear ff
  refine tail (scr κ G.length) _ _ p3 p4 p5 p6 G.length ⟨x1.scr _, c3.scr _, c4.scr _, c5.scr _, c6.scr _, Cel.own _ _ _, by simp [e0], by simp [e3], by simp [e4], by simp [e5], by simp [e6], by simp⟩ ?_ (scr_self _ _) (by omega) (by have := c5.lt; omega)
  have := Fr.scr (κ := κ) (H := G) (l := [⟨pt a.e, 0, .own⟩]) (n := G.length) (Fr.refl _ _) (Nat.le_refl _)
  exact f0.trans this
end
end Go.Vab

/-
  A step is done, for oneself, or to what waits: leave, uninvite, decline, unask, refuse, unban, title, access, password, approve; walked.
-/
namespace Go.Vab
open Go Go.Proofs
theorem runRp14_0 {G X : Prop} (f : Hd X → G := by
  intro xX
  repeat' (first | refine stp (x := ?_) | (with_reducible refine bothP_i ?_ ?_) | (with_reducible refine ValW_i (c79 x) ?_; try dsimp only) | (with_reducible refine SpecQ.step (c79 x) ?_; rintro _ rfl; try dsimp only) | (with_reducible refine stabP_i (c79 x) ?_) | (simp (decide := true) only [sn80, snB, if_true, if_false]) | (with_reducible refine n80_98_w _ _ _ ?_) | (with_reducible refine n80_109_w _ _ _ ?_) | (with_reducible refine n80_117_w _ _ _ ?_) | (with_reducible refine n80_147_w _ _ _ ?_) | (with_reducible refine n80_151_w _ _ _ ?_) | (with_reducible refine n80_166_w _ _ _ ?_) | (with_reducible refine n80_199_w _ _ _ ?_) | (with_reducible refine n80_201_w _ _ _ ?_) | (with_reducible refine n80_203_w _ _ _ ?_) | (with_reducible refine n80_1_w _ _ _ ?_))
  exact xX.get) (x : X) : G := f ⟨x⟩
theorem runRp14_1 {G X : Prop} (f : Hd X → G := by
  intro xX
  repeat' (first | refine stp (x := ?_) | (with_reducible refine bothP_i ?_ ?_) | (simp (decide := true) only [sn80, snB, if_true, if_false]) | (with_reducible refine n80_98_w _ _ _ ?_) | (with_reducible refine n80_109_w _ _ _ ?_) | (with_reducible refine n80_117_w _ _ _ ?_) | (with_reducible refine n80_147_w _ _ _ ?_) | (with_reducible refine n80_151_w _ _ _ ?_) | (with_reducible refine n80_166_w _ _ _ ?_) | (with_reducible refine n80_199_w _ _ _ ?_) | (with_reducible refine n80_201_w _ _ _ ?_) | (with_reducible refine n80_203_w _ _ _ ?_) | (with_reducible refine n80_1_w _ _ _ ?_))
  exact xX.get) (x : X) : G := f ⟨x⟩
theorem runRp14_2 {G X : Prop} (f : Hd X → G := by
  intro xX
  repeat' (first | refine stp (x := ?_) | (with_reducible refine bothP_i ?_ ?_) | (with_reducible refine ValW_i (c99 x.w hs) ?_; try dsimp only) | (with_reducible refine SpecQ.step (c99 x.w hs) ?_; rintro _ rfl; try dsimp only) | (with_reducible refine stabP_i (c99 x.w hs) ?_) | (simp (decide := true) only [sn80, snB, if_true, if_false]) | (with_reducible refine n80_98_w _ _ _ ?_) | (with_reducible refine n80_109_w _ _ _ ?_) | (with_reducible refine n80_117_w _ _ _ ?_) | (with_reducible refine n80_147_w _ _ _ ?_) | (with_reducible refine n80_151_w _ _ _ ?_) | (with_reducible refine n80_166_w _ _ _ ?_) | (with_reducible refine n80_199_w _ _ _ ?_) | (with_reducible refine n80_201_w _ _ _ ?_) | (with_reducible refine n80_203_w _ _ _ ?_) | (with_reducible refine n80_1_w _ _ _ ?_))
  exact xX.get) (x : X) : G := f ⟨x⟩
theorem runRp14_3 {G X : Prop} (f : Hd X → G := by
  intro xX
  repeat' (first | refine stp (x := ?_) | (with_reducible refine bothP_i ?_ ?_) | (with_reducible refine ValW_i (c109) ?_; try dsimp only) | (with_reducible refine SpecQ.step (c109) ?_; rintro _ rfl; try dsimp only) | (with_reducible refine stabP_i (c109) ?_) | (simp (decide := true) only [sn80, snB, if_true, if_false]) | (with_reducible refine n80_98_w _ _ _ ?_) | (with_reducible refine n80_109_w _ _ _ ?_) | (with_reducible refine n80_117_w _ _ _ ?_) | (with_reducible refine n80_147_w _ _ _ ?_) | (with_reducible refine n80_151_w _ _ _ ?_) | (with_reducible refine n80_166_w _ _ _ ?_) | (with_reducible refine n80_199_w _ _ _ ?_) | (with_reducible refine n80_201_w _ _ _ ?_) | (with_reducible refine n80_203_w _ _ _ ?_) | (with_reducible refine n80_1_w _ _ _ ?_))
  exact xX.get) (x : X) : G := f ⟨x⟩
theorem runRp14_4 {G X : Prop} (f : Hd X → G := by
  intro xX
  repeat' (first | refine stp (x := ?_) | (with_reducible refine bothP_i ?_ ?_) | (with_reducible refine ValW_i (c110) ?_; try dsimp only) | (with_reducible refine SpecQ.step (c110) ?_; rintro _ rfl; try dsimp only) | (with_reducible refine stabP_i (c110) ?_) | (simp (decide := true) only [sn80, snB, if_true, if_false]) | (with_reducible refine n80_98_w _ _ _ ?_) | (with_reducible refine n80_109_w _ _ _ ?_) | (with_reducible refine n80_117_w _ _ _ ?_) | (with_reducible refine n80_147_w _ _ _ ?_) | (with_reducible refine n80_151_w _ _ _ ?_) | (with_reducible refine n80_166_w _ _ _ ?_) | (with_reducible refine n80_199_w _ _ _ ?_) | (with_reducible refine n80_201_w _ _ _ ?_) | (with_reducible refine n80_203_w _ _ _ ?_) | (with_reducible refine n80_1_w _ _ _ ?_))
  exact xX.get) (x : X) : G := f ⟨x⟩
theorem runRp14_5 {G X : Prop} (f : Hd X → G := by
  intro xX
  repeat' (first | refine stp (x := ?_) | (with_reducible refine bothP_i ?_ ?_) | (with_reducible refine ValW_i (c111) ?_; try dsimp only) | (with_reducible refine SpecQ.step (c111) ?_; rintro _ rfl; try dsimp only) | (with_reducible refine stabP_i (c111) ?_) | (simp (decide := true) only [sn80, snB, if_true, if_false]) | (with_reducible refine n80_98_w _ _ _ ?_) | (with_reducible refine n80_109_w _ _ _ ?_) | (with_reducible refine n80_117_w _ _ _ ?_) | (with_reducible refine n80_147_w _ _ _ ?_) | (with_reducible refine n80_151_w _ _ _ ?_) | (with_reducible refine n80_166_w _ _ _ ?_) | (with_reducible refine n80_199_w _ _ _ ?_) | (with_reducible refine n80_201_w _ _ _ ?_) | (with_reducible refine n80_203_w _ _ _ ?_) | (with_reducible refine n80_1_w _ _ _ ?_))
  exact xX.get) (x : X) : G := f ⟨x⟩
theorem runRp14_6 {G X : Prop} (f : Hd X → G := by
  intro xX
  repeat' (first | refine stp (x := ?_) | (with_reducible refine bothP_i ?_ ?_) | (with_reducible refine ValW_i (c67 (d1.x.w.app _)) ?_; try dsimp only) | (with_reducible refine SpecQ.step (c67 (d1.x.w.app _)) ?_; rintro _ rfl; try dsimp only) | (with_reducible refine stabP_i (c67 (d1.x.w.app _)) ?_) | (simp (decide := true) only [sn80, snB, if_true, if_false]) | (with_reducible refine n80_98_w _ _ _ ?_) | (with_reducible refine n80_109_w _ _ _ ?_) | (with_reducible refine n80_117_w _ _ _ ?_) | (with_reducible refine n80_147_w _ _ _ ?_) | (with_reducible refine n80_151_w _ _ _ ?_) | (with_reducible refine n80_166_w _ _ _ ?_) | (with_reducible refine n80_199_w _ _ _ ?_) | (with_reducible refine n80_201_w _ _ _ ?_) | (with_reducible refine n80_203_w _ _ _ ?_) | (with_reducible refine n80_1_w _ _ _ ?_))
  exact xX.get) (x : X) : G := f ⟨x⟩
section
variable {κ κ0 : Nat → Nat} {G H0 : Heap} {c xb : Nat} {s : Stt} {b : Pt} {a : Actn} {m : BitVec 8} {vt vp vs vi va vb wt wp : AV} {env : Env} {p3 p4 p5 p6 p7 : Nat} {K : AV × Heap → Prop}
set_option maxHeartbeats 2000000 in
theorem more_4 (d : Mx κ G c xb s b a m vt vp vs vi va vb wt wp a.e env p3 p4 p5 p6 p7) (f0 : Fr κ0 H0 κ G) (hs : Srt s) (ms : mayS s = true) (ok : Okd s b a) (hmm : m = roleOf s b) (hk : a.kind = 4#8) (hK : ∀ r, DoR κ0 H0 c (madeP s b a) r → K r) : wC Tryz.prog cx80 n80_3 (retW (fun s => (bnd (some (s.env.get 2)) fun v => bnd (some []) fun vs => some (v :: vs))) K) ⟨env, G⟩ := by
  have sx0 := blk_of d.x.st
  have wb0 := blk_of d.x.w.cell
  have wc0 := d.x.w.cells
  have d0 := d
  obtain ⟨x, c3, c4, c5, c6, c7, e0, e3, e4, e5, e6, e7⟩ := d
  subst hmm
  have hm := ok.mem (by simp [hk])
  have hl := x.w.fs.len
  have b3 := c3.blk0
  have go : ¬ (roleOf s b = 2#8 ∧ admins s = 1 ∧ 1 < s.seats.length) → madeP s b a = .ok { s with seats := del fS s.seats b } := fun h => by simp [madeP, hk, hm, h]
  by_cases h2 : roleOf s b = 2#8
  · by_cases h3 : admins s = 1
    · by_cases h4 : 1 < s.seats.length
      · have hmd : madeP s b a = .error 192 := by simp [madeP, hk, h2, h3, h4]
        have ff := And.intro sx0 (And.intro wb0 (And.intro hk (And.intro h2 (And.intro h3 (And.intro h4 (And.intro hl e0))))))
        refine runRp14_0 (x := ?_)
        clear ff
        exact hK _ (.err hmd f0)
      · have hmd := go fun h => h4 h.2.2
        have ff := And.intro sx0 (And.intro wb0 (And.intro hk (And.intro h2 (And.intro h3 (And.intro h4 (And.intro hl (And.intro b3 (And.intro e0 e3))))))))
        refine runRp14_0 (x := ?_)
        clear ff
        refine SpecQ.step (c77 x.w hs) ?_
        rintro _ ⟨y, κ', H', q, rfl, _, w2, fr⟩
        have ff := hk
        refine runRp14_1 (x := ?_)
        clear ff
        exact hK _ (.ok hmd (f0.trans fr) w2)
    · have hmd := go fun h => h3 h.2.1
      have ff := And.intro sx0 (And.intro wb0 (And.intro hk (And.intro h2 (And.intro h3 (And.intro hl (And.intro b3 (And.intro e0 e3)))))))
      refine runRp14_0 (x := ?_)
      clear ff
      refine SpecQ.step (c77 x.w hs) ?_
      rintro _ ⟨y, κ', H', q, rfl, _, w2, fr⟩
      have ff := hk
      refine runRp14_1 (x := ?_)
      clear ff
      exact hK _ (.ok hmd (f0.trans fr) w2)
  · have hmd := go fun h => h2 h.1
    have ff := And.intro sx0 (And.intro wb0 (And.intro hk (And.intro h2 (And.intro hl (And.intro b3 (And.intro e0 e3))))))
    refine runRp14_0 (x := ?_)
    clear ff
    refine SpecQ.step (c77 x.w hs) ?_
    rintro _ ⟨y, κ', H', q, rfl, _, w2, fr⟩
    have ff := hk
    refine runRp14_1 (x := ?_)
    clear ff
    exact hK _ (.ok hmd (f0.trans fr) w2)
set_option maxHeartbeats 2000000 in
theorem more_6 (d : Mx κ G c xb s b a m vt vp vs vi va vb wt wp a.e env p3 p4 p5 p6 p7) (f0 : Fr κ0 H0 κ G) (hs : Srt s) (ms : mayS s = true) (ok : Okd s b a) (hmm : m = roleOf s b) (hk : a.kind = 6#8) (hK : ∀ r, DoR κ0 H0 c (madeP s b a) r → K r) : wC Tryz.prog cx80 n80_3 (retW (fun s => (bnd (some (s.env.get 2)) fun v => bnd (some []) fun vs => some (v :: vs))) K) ⟨env, G⟩ := by
  have sx0 := blk_of d.x.st
  have wb0 := blk_of d.x.w.cell
  have wc0 := d.x.w.cells
  have d0 := d
  obtain ⟨x, c3, c4, c5, c6, c7, e0, e3, e4, e5, e6, e7⟩ := d
  subst hmm
  have hm := ok.mem (by simp [hk])
  have b4 := c4.blk0
  have b7 := c7.blk0
  cases h1 : hasP fI s.invites a.e
  · have hmd : madeP s b a = .error 7 := by simp [madeP, hk, hm, hasP_fnd h1]
    have ff := And.intro sx0 (And.intro hk (And.intro h1 (And.intro b4 (And.intro b7 (And.intro e0 (And.intro e4 e7))))))
    refine runRp14_2 (x := ?_)
    clear ff
    exact hK _ (.err hmd f0)
  obtain ⟨hlow, he, hf⟩ := low_yes hs.i h1
  obtain ⟨pb, pv, pp, bb, i1, i2, i3, i4⟩ := x.w.wi.idxE hlow
  have i20 : blkAt G pb pv = some bb := by simpa using i2 []
  obtain ⟨z, hz⟩ : ∃ z, z = s.invites[low fI s.invites a.e] := ⟨_, rfl⟩
  rw [← hz] at hf i3 i4
  by_cases h2 : roleOf s b = 2#8
  · have hmd : madeP s b a = .ok { s with invites := del fI s.invites a.e } := by simp [madeP, hk, h2, hf]
    have ff := And.intro sx0 (And.intro wb0 (And.intro hk (And.intro h1 (And.intro h2 (And.intro b4 (And.intro b7 (And.intro e0 (And.intro e4 e7))))))))
    refine runRp14_2 (x := ?_)
    clear ff
    refine SpecQ.step (c68 x.w hs) ?_
    rintro _ ⟨y, κ', H', q, rfl, _, w2, fr⟩
    have ff := hk
    refine runRp14_1 (x := ?_)
    clear ff
    exact hK _ (.ok hmd (f0.trans fr) w2)
  by_cases h3 : z.by_.e = b
  · have hmd : madeP s b a = .ok { s with invites := del fI s.invites a.e } := by simp [madeP, hk, hm, h2, hf, h3]
    have ff := And.intro sx0 (And.intro wb0 (And.intro hk (And.intro h1 (And.intro h2 (And.intro h3 (And.intro i1 (And.intro i20 (And.intro i4 (And.intro b4 (And.intro b7 (And.intro e0 (And.intro e4 e7))))))))))))
    refine runRp14_2 (x := ?_)
    clear ff
    refine SpecQ.step (c68 x.w hs) ?_
    rintro _ ⟨y, κ', H', q, rfl, _, w2, fr⟩
    have ff := hk
    refine runRp14_1 (x := ?_)
    clear ff
    exact hK _ (.ok hmd (f0.trans fr) w2)
  · have hmd : madeP s b a = .error 191 := by simp [madeP, hk, hm, h2, hf, h3]
    have ff := And.intro sx0 (And.intro wb0 (And.intro hk (And.intro h1 (And.intro h2 (And.intro h3 (And.intro i1 (And.intro i20 (And.intro i4 (And.intro b4 (And.intro b7 (And.intro e0 (And.intro e4 e7))))))))))))
    refine runRp14_2 (x := ?_)
    clear ff
    exact hK _ (.err hmd f0)
set_option maxHeartbeats 2000000 in
theorem more_8 (d : Mx κ G c xb s b a m vt vp vs vi va vb wt wp a.e env p3 p4 p5 p6 p7) (f0 : Fr κ0 H0 κ G) (hs : Srt s) (ms : mayS s = true) (ok : Okd s b a) (hk : a.kind = 8#8) (hK : ∀ r, DoR κ0 H0 c (madeP s b a) r → K r) : wC Tryz.prog cx80 n80_3 (retW (fun s => (bnd (some (s.env.get 2)) fun v => bnd (some []) fun vs => some (v :: vs))) K) ⟨env, G⟩ := by
  have sx0 := blk_of d.x.st
  have wb0 := blk_of d.x.w.cell
  have wc0 := d.x.w.cells
  have d0 := d
  obtain ⟨x, c3, c4, c5, c6, c7, e0, e3, e4, e5, e6, e7⟩ := d
  have b4 := c4.blk0
  have ff := And.intro sx0 (And.intro hk (And.intro b4 (And.intro e0 e4)))
  refine runRp14_1 (x := ?_)
  clear ff
  refine SpecQ.step (c68 x.w hs) ?_
  rintro _ ⟨y, κ', H', q, rfl, _, w2, fr⟩
  cases h1 : hasP fI s.invites b
  · have hmd : madeP s b a = .error 7 := by simp [madeP, hk, h1]
    have ff := And.intro hk h1
    refine runRp14_3 (x := ?_)
    clear ff
    exact hK _ (.err hmd (f0.trans fr))
  · have hmd : madeP s b a = .ok { s with invites := del fI s.invites b } := by simp [madeP, hk, h1]
    have ff := And.intro hk h1
    refine runRp14_3 (x := ?_)
    clear ff
    exact hK _ (.ok hmd (f0.trans fr) w2)
set_option maxHeartbeats 2000000 in
theorem more_13 (d : Mx κ G c xb s b a m vt vp vs vi va vb wt wp a.e env p3 p4 p5 p6 p7) (f0 : Fr κ0 H0 κ G) (hs : Srt s) (ms : mayS s = true) (ok : Okd s b a) (hk : a.kind = 13#8) (hK : ∀ r, DoR κ0 H0 c (madeP s b a) r → K r) : wC Tryz.prog cx80 n80_3 (retW (fun s => (bnd (some (s.env.get 2)) fun v => bnd (some []) fun vs => some (v :: vs))) K) ⟨env, G⟩ := by
  have sx0 := blk_of d.x.st
  have wb0 := blk_of d.x.w.cell
  have wc0 := d.x.w.cells
  have d0 := d
  obtain ⟨x, c3, c4, c5, c6, c7, e0, e3, e4, e5, e6, e7⟩ := d
  have hm := ok.adm (by simp [hk])
  have b5 := c5.blk0
  have b6 := c6.blk0
  have b7 := c7.blk0
  have ff := And.intro sx0 (And.intro hk (And.intro b5 (And.intro b6 (And.intro b7 (And.intro e0 (And.intro e5 (And.intro e6 e7)))))))
  refine runRp14_1 (x := ?_)
  clear ff
  refine SpecQ.step (c69 x.w hs) ?_
  rintro _ ⟨y, κ', H', q, rfl, _, w2, fr⟩
  cases h1 : hasP fA s.asks a.e
  · have hmd : madeP s b a = .error 7 := by simp [madeP, hk, hm, h1]
    have ff := And.intro hk h1
    refine runRp14_4 (x := ?_)
    clear ff
    exact hK _ (.err hmd (f0.trans fr))
  · have hmd : madeP s b a = .ok { s with asks := del fA s.asks a.e } := by simp [madeP, hk, hm, h1]
    have ff := And.intro hk h1
    refine runRp14_4 (x := ?_)
    clear ff
    exact hK _ (.ok hmd (f0.trans fr) w2)
set_option maxHeartbeats 2000000 in
theorem more_15 (d : Mx κ G c xb s b a m vt vp vs vi va vb wt wp a.e env p3 p4 p5 p6 p7) (f0 : Fr κ0 H0 κ G) (hs : Srt s) (ms : mayS s = true) (ok : Okd s b a) (hk : a.kind = 15#8) (hK : ∀ r, DoR κ0 H0 c (madeP s b a) r → K r) : wC Tryz.prog cx80 n80_3 (retW (fun s => (bnd (some (s.env.get 2)) fun v => bnd (some []) fun vs => some (v :: vs))) K) ⟨env, G⟩ := by
  have sx0 := blk_of d.x.st
  have wb0 := blk_of d.x.w.cell
  have wc0 := d.x.w.cells
  have d0 := d
  obtain ⟨x, c3, c4, c5, c6, c7, e0, e3, e4, e5, e6, e7⟩ := d
  have hm := ok.adm (by simp [hk])
  have b5 := c5.blk0
  have b6 := c6.blk0
  have b7 := c7.blk0
  have ff := And.intro sx0 (And.intro hk (And.intro b5 (And.intro b6 (And.intro b7 (And.intro e0 (And.intro e5 (And.intro e6 e7)))))))
  refine runRp14_1 (x := ?_)
  clear ff
  refine SpecQ.step (c112 x.w hs) ?_
  rintro _ ⟨y, κ', H', q, rfl, _, w2, fr⟩
  cases h1 : hasP fB s.bans a.e
  · have hmd : madeP s b a = .error 7 := by simp [madeP, hk, hm, h1]
    have ff := And.intro hk h1
    refine runRp14_5 (x := ?_)
    clear ff
    exact hK _ (.err hmd (f0.trans fr))
  · have hmd : madeP s b a = .ok { s with bans := del fB s.bans a.e } := by simp [madeP, hk, hm, h1]
    have ff := And.intro hk h1
    refine runRp14_5 (x := ?_)
    clear ff
    exact hK _ (.ok hmd (f0.trans fr) w2)
set_option maxHeartbeats 2000000 in
theorem more_11 (d : Mx κ G c xb s b a m vt vp vs vi va vb wt wp a.e env p3 p4 p5 p6 p7) (f0 : Fr κ0 H0 κ G) (hs : Srt s) (ms : mayS s = true) (ok : Okd s b a) (h6 : κ p7 = 6) (hp7 : H0.length ≤ p7) (h57 : p5 ≠ p7) (hk : a.kind = 11#8) (hK : ∀ r, DoR κ0 H0 c (madeP s b a) r → K r) : wC Tryz.prog cx80 n80_3 (retW (fun s => (bnd (some (s.env.get 2)) fun v => bnd (some []) fun vs => some (v :: vs))) K) ⟨env, G⟩ := by
  have sx0 := blk_of d.x.st
  have wb0 := blk_of d.x.w.cell
  have wc0 := d.x.w.cells
  have d0 := d
  obtain ⟨x, c3, c4, c5, c6, c7, e0, e3, e4, e5, e6, e7⟩ := d
  have b7 := c7.blk0
  obtain ⟨G1, hG1⟩ : ∃ G1, G.set p7 ⟨pt b, 0, .own⟩ = G1 := ⟨_, rfl⟩
  have ff := And.intro sx0 (And.intro hk (And.intro b7 (And.intro hG1 (And.intro e0 e7))))
  refine runRp14_1 (x := ?_)
  clear ff
  have x1 := x.wr h6 ⟨pt b, 0, .own⟩
  have c51 := c5.wr (q := p7) (fun q => h57 q.symm) ⟨pt b, 0, .own⟩
  have c71 := c7.set (pt b)
  have f1 := f0.wr hp7 ⟨pt b, 0, .own⟩
  rw [hG1] at x1 c51 c71 f1
  have b51 := c51.blk0
  have b71 := c71.blk0
  have ff := And.intro b51 (And.intro b71 (And.intro hk (And.intro e5 e7)))
  refine runRp14_1 (x := ?_)
  clear ff
  refine SpecQ.step (c69 x1.w hs) ?_
  rintro _ ⟨y, κ', H', q, rfl, _, w2, fr⟩
  cases h1 : hasP fA s.asks b
  · have hmd : madeP s b a = .error 7 := by simp [madeP, hk, h1]
    have ff := And.intro hk h1
    refine runRp14_4 (x := ?_)
    clear ff
    exact hK _ (.err hmd (f1.trans fr))
  · have hmd : madeP s b a = .ok { s with asks := del fA s.asks b } := by simp [madeP, hk, h1]
    have ff := And.intro hk h1
    refine runRp14_4 (x := ?_)
    clear ff
    exact hK _ (.ok hmd (f1.trans fr) w2)
set_option maxHeartbeats 2000000 in
theorem more_16 (d : Mx κ G c xb s b a m vt vp vs vi va vb wt wp a.e env p3 p4 p5 p6 p7) (f0 : Fr κ0 H0 κ G) (hs : Srt s) (ms : mayS s = true) (ok : Okd s b a) (hk : a.kind = 16#8) (hK : ∀ r, DoR κ0 H0 c (madeP s b a) r → K r) : wC Tryz.prog cx80 n80_3 (retW (fun s => (bnd (some (s.env.get 2)) fun v => bnd (some []) fun vs => some (v :: vs))) K) ⟨env, G⟩ := by
  have sx0 := blk_of d.x.st
  have wb0 := blk_of d.x.w.cell
  have wc0 := d.x.w.cells
  have d0 := d
  obtain ⟨x, c3, c4, c5, c6, c7, e0, e3, e4, e5, e6, e7⟩ := d
  have hm := ok.tit (by simp [hk])
  have wt0 := x.ra.cells
  have hmd : madeP s b a = .ok { s with title := a.title } := by simp [madeP, hk]; simpa using hm
  obtain ⟨w2, fr⟩ := x.w.put (s' := { s with title := a.title }) x.ra.t x.w.fp x.kt x.w.kp x.w.fs x.w.fi x.w.fa x.w.fb
  obtain ⟨G1, hG1⟩ : ∃ G1, G.set c ⟨eStH s.version s.key s.acc wt vp vs vi va vb, 0, .own⟩ = G1 := ⟨_, rfl⟩
  have ff := And.intro sx0 (And.intro wb0 (And.intro wc0 (And.intro wt0 (And.intro hk (And.intro hG1 e0)))))
  refine runRp14_1 (x := ?_)
  clear ff
  rw [← hG1]
  exact hK _ (.ok hmd (f0.trans fr) w2)
set_option maxHeartbeats 2000000 in
theorem more_17 (d : Mx κ G c xb s b a m vt vp vs vi va vb wt wp a.e env p3 p4 p5 p6 p7) (f0 : Fr κ0 H0 κ G) (hs : Srt s) (ms : mayS s = true) (ok : Okd s b a) (hk : a.kind = 17#8) (hK : ∀ r, DoR κ0 H0 c (madeP s b a) r → K r) : wC Tryz.prog cx80 n80_3 (retW (fun s => (bnd (some (s.env.get 2)) fun v => bnd (some []) fun vs => some (v :: vs))) K) ⟨env, G⟩ := by
  have sx0 := blk_of d.x.st
  have wb0 := blk_of d.x.w.cell
  have wc0 := d.x.w.cells
  have d0 := d
  obtain ⟨x, c3, c4, c5, c6, c7, e0, e3, e4, e5, e6, e7⟩ := d
  have hm := ok.adm (by simp [hk])
  have hmd : madeP s b a = .ok { s with acc := a.acc } := by simp [madeP, hk, hm]
  obtain ⟨w2, fr⟩ := x.w.put (s' := { s with acc := a.acc }) x.w.ft x.w.fp x.w.kt x.w.kp x.w.fs x.w.fi x.w.fa x.w.fb
  obtain ⟨G1, hG1⟩ : ∃ G1, G.set c ⟨eStH s.version s.key a.acc vt vp vs vi va vb, 0, .own⟩ = G1 := ⟨_, rfl⟩
  have ff := And.intro sx0 (And.intro wb0 (And.intro wc0 (And.intro hk (And.intro hG1 e0))))
  refine runRp14_1 (x := ?_)
  clear ff
  rw [← hG1]
  exact hK _ (.ok hmd (f0.trans fr) w2)
set_option maxHeartbeats 2000000 in
theorem more_18 (d : Mx κ G c xb s b a m vt vp vs vi va vb wt wp a.e env p3 p4 p5 p6 p7) (f0 : Fr κ0 H0 κ G) (hs : Srt s) (ms : mayS s = true) (ok : Okd s b a) (hk : a.kind = 18#8) (hK : ∀ r, DoR κ0 H0 c (madeP s b a) r → K r) : wC Tryz.prog cx80 n80_3 (retW (fun s => (bnd (some (s.env.get 2)) fun v => bnd (some []) fun vs => some (v :: vs))) K) ⟨env, G⟩ := by
  have sx0 := blk_of d.x.st
  have wb0 := blk_of d.x.w.cell
  have wc0 := d.x.w.cells
  have d0 := d
  obtain ⟨x, c3, c4, c5, c6, c7, e0, e3, e4, e5, e6, e7⟩ := d
  have hm := ok.adm (by simp [hk])
  have wt0 := x.ra.cells
  have hmd : madeP s b a = .ok { s with pass := a.pass } := by simp [madeP, hk, hm]
  obtain ⟨w2, fr⟩ := x.w.put (s' := { s with pass := a.pass }) x.w.ft x.ra.p x.w.kt x.kp x.w.fs x.w.fi x.w.fa x.w.fb
  obtain ⟨G1, hG1⟩ : ∃ G1, G.set c ⟨eStH s.version s.key s.acc vt wp vs vi va vb, 0, .own⟩ = G1 := ⟨_, rfl⟩
  have ff := And.intro sx0 (And.intro wb0 (And.intro wc0 (And.intro wt0 (And.intro hk (And.intro hG1 e0)))))
  refine runRp14_1 (x := ?_)
  clear ff
  rw [← hG1]
  exact hK _ (.ok hmd (f0.trans fr) w2)
set_option maxHeartbeats 2000000 in
theorem more_12 (d : Mx κ G c xb s b a m vt vp vs vi va vb wt wp a.e env p3 p4 p5 p6 p7) (f0 : Fr κ0 H0 κ G) (hs : Srt s) (ms : mayS s = true) (ok : Okd s b a) (hk : a.kind = 12#8) (hK : ∀ r, DoR κ0 H0 c (madeP s b a) r → K r) : wC Tryz.prog cx80 n80_3 (retW (fun s => (bnd (some (s.env.get 2)) fun v => bnd (some []) fun vs => some (v :: vs))) K) ⟨env, G⟩ := by
  have sx0 := blk_of d.x.st
  have wb0 := blk_of d.x.w.cell
  have wc0 := d.x.w.cells
  have d0 := d
  obtain ⟨x, c3, c4, c5, c6, c7, e0, e3, e4, e5, e6, e7⟩ := d
  have hA := ok.add (by simp [hk])
  have b5 := c5.blk0
  have b7 := c7.blk0
  have hl := (may_lens ms).1
  have ff := And.intro sx0 (And.intro hk (And.intro b5 (And.intro b7 (And.intro e0 (And.intro e5 e7)))))
  refine runRp14_1 (x := ?_)
  clear ff
  refine SpecQ.step (c69 x.w hs) ?_
  rintro _ ⟨y, κ', H', q, rfl, hy, w2, fr⟩
  have d1 := d0.next fr w2
  have b31 := d1.c3.blk
  have sx1 := d1.x.blk
  cases h1 : hasP fA s.asks a.e
  · have hmd : madeP s b a = .error 7 := by simp [madeP, hk, hA, hasP_fnd h1]
    have ff := And.intro hk h1
    refine runRp14_1 (x := ?_)
    clear ff
    exact hK _ (.err hmd (f0.trans (fr.trans (Fr.refl _ _).app)))
  obtain ⟨_, _, hf⟩ := low_yes hs.a h1
  have hyf := hy _ hf
  rw [← hyf] at hf
  by_cases h3 : 40 ≤ s.seats.length
  · have hmd : madeP s b a = .error 9 := by simp [madeP, hk, hA, hf, h3]
    have ff := And.intro hk (And.intro h1 (And.intro h3 (And.intro b31 e3)))
    refine runRp14_6 (x := ?_)
    clear ff
    exact hK _ (.err hmd (f0.trans (fr.trans (Fr.refl _ _).app)))
  have hmd : madeP s b a = .ok { s with asks := del fA s.asks a.e, seats := ins fS s.seats ⟨y.who, a.role, a.version⟩ } := by simp [madeP, hk, hA, hf, h3]
  have ff := And.intro sx1 (And.intro hk (And.intro h1 (And.intro h3 (And.intro b31 (And.intro e0 e3)))))
  refine runRp14_6 (x := ?_)
  clear ff
  refine SpecQ.step (c70 (d1.x.app _) (hs.a' _) (by simp only; omega)) ?_
  rintro _ ⟨κ3, H3, q3, rfl, w3, fr3⟩
  have ff := hk
  refine runRp14_1 (x := ?_)
  clear ff
  exact hK _ (.ok hmd (f0.trans (fr.trans fr3.app)) w3)
end
end Go.Vab

/-
  A step is done, for oneself, or to what waits: accept, ban; walked.
-/
namespace Go.Vab
open Go Go.Proofs
theorem runRp15_0 {G X : Prop} (f : Hd X → G := by
  intro xX
  repeat' (first | ((with_reducible refine evs_of (a := ?_) ?_ ?_); rotate_left; (focus ((conv => lhs; simp (disch := omega) [ff]); done)); try dsimp only) | ((with_reducible refine gW_do ?_ ?_); (focus (simp (disch := omega) [ff]; done))) | ((with_reducible refine gW_no ?_ ?_); (focus (simp (disch := omega) [ff]; done)); try dsimp only) | ((with_reducible refine gW_un ?_ ?_); (focus (simp (disch := omega) [ff]; done)); try dsimp only) | ((with_reducible refine cndW_T ?_ ?_); (focus (simp (disch := omega) [ff] <;> omega))) | ((with_reducible refine cndW_F ?_ ?_); (focus (simp (disch := omega) [ff] <;> omega))) | ((with_reducible refine stabP_i ?_ ?_); (focus (simp (disch := omega) [ff]; done))) | (with_reducible refine bothP_i ?_ ?_) | (with_reducible refine wL_i ?_) | ((with_reducible refine ValW_do ?_ ?_); (focus (simp (disch := omega) [ff]; done)); try dsimp only) | ((with_reducible refine ValW_no ?_ ?_); (focus (simp (disch := omega) [ff]; done)); try dsimp only) | ((with_reducible refine ValW_un ?_ ?_); (focus (simp (disch := omega) [ff]; done)); try dsimp only) | ((with_reducible refine SpecA_i (args' := ?_) ?_ ?_); rotate_left; (focus ((conv => lhs; simp (disch := omega) [ff]); done))) | ((with_reducible refine ValA_i (args' := ?_) ?_ ?_); rotate_left; (focus ((conv => lhs; simp (disch := omega) [ff]); done))) | ((with_reducible refine stabA_i (args' := ?_) ?_ ?_); rotate_left; (focus ((conv => lhs; simp (disch := omega) [ff]); done))) | ((with_reducible refine ValA_fn (g := ?_) (caps := ?_) ?_ ?_); rotate_left; rotate_left; (focus ((conv => lhs; simp (disch := omega) [ff]); done))) | ((with_reducible refine stabA_fn (g := ?_) (caps := ?_) ?_ ?_); rotate_left; rotate_left; (focus ((conv => lhs; simp (disch := omega) [ff]); done))) | ((with_reducible refine stab_do ?_ ?_); (focus (simp (disch := omega) [ff]; done))) | (simp (decide := true) only [sn80, sqW_nrm, sqW_exit, sqW_ret, inBlk_nrm, inBlk_ret, inBlk_same, inBlk_exit, if_true, if_false, retW_nrm, retW_ret]))
  exact xX.get) (x : X) : G := f ⟨x⟩
theorem runRp15_1 {G X : Prop} (f : Hd X → G := by
  intro xX
  repeat' (first | ((with_reducible refine evs_of (a := ?_) ?_ ?_); rotate_left; (focus ((conv => lhs; simp (disch := omega) [ff]); done)); try dsimp only) | ((with_reducible refine gW_do ?_ ?_); (focus (simp (disch := omega) [ff]; done))) | ((with_reducible refine gW_no ?_ ?_); (focus (simp (disch := omega) [ff]; done)); try dsimp only) | ((with_reducible refine gW_un ?_ ?_); (focus (simp (disch := omega) [ff]; done)); try dsimp only) | ((with_reducible refine cndW_T ?_ ?_); (focus (simp (disch := omega) [ff] <;> omega))) | ((with_reducible refine cndW_F ?_ ?_); (focus (simp (disch := omega) [ff] <;> omega))) | ((with_reducible refine stabP_i ?_ ?_); (focus (simp (disch := omega) [ff]; done))) | (with_reducible refine bothP_i ?_ ?_) | (with_reducible refine wL_i ?_) | ((with_reducible refine ValW_do ?_ ?_); (focus (simp (disch := omega) [ff]; done)); try dsimp only) | ((with_reducible refine ValW_no ?_ ?_); (focus (simp (disch := omega) [ff]; done)); try dsimp only) | ((with_reducible refine ValW_un ?_ ?_); (focus (simp (disch := omega) [ff]; done)); try dsimp only) | ((with_reducible refine SpecA_i (args' := ?_) ?_ ?_); rotate_left; (focus ((conv => lhs; simp (disch := omega) [ff]); done))) | ((with_reducible refine ValA_i (args' := ?_) ?_ ?_); rotate_left; (focus ((conv => lhs; simp (disch := omega) [ff]); done))) | ((with_reducible refine stabA_i (args' := ?_) ?_ ?_); rotate_left; (focus ((conv => lhs; simp (disch := omega) [ff]); done))) | ((with_reducible refine ValA_fn (g := ?_) (caps := ?_) ?_ ?_); rotate_left; rotate_left; (focus ((conv => lhs; simp (disch := omega) [ff]); done))) | ((with_reducible refine stabA_fn (g := ?_) (caps := ?_) ?_ ?_); rotate_left; rotate_left; (focus ((conv => lhs; simp (disch := omega) [ff]); done))) | ((with_reducible refine stab_do ?_ ?_); (focus (simp (disch := omega) [ff]; done))) | (simp (decide := true) only [sn80, sqW_nrm, sqW_exit, sqW_ret, inBlk_nrm, inBlk_ret, inBlk_same, inBlk_exit, if_true, if_false, retW_nrm, retW_ret]) | (with_reducible refine n80_98_w _ _ _ ?_) | (with_reducible refine n80_109_w _ _ _ ?_) | (with_reducible refine n80_117_w _ _ _ ?_) | (with_reducible refine n80_147_w _ _ _ ?_) | (with_reducible refine n80_151_w _ _ _ ?_) | (with_reducible refine n80_166_w _ _ _ ?_) | (with_reducible refine n80_199_w _ _ _ ?_) | (with_reducible refine n80_201_w _ _ _ ?_) | (with_reducible refine n80_203_w _ _ _ ?_) | (with_reducible refine n80_1_w _ _ _ ?_))
  exact xX.get) (x : X) : G := f ⟨x⟩
theorem runRp15_2 {G X : Prop} (f : Hd X → G := by
  intro xX
  repeat' (first | ((with_reducible refine evs_of (a := ?_) ?_ ?_); rotate_left; (focus ((conv => lhs; simp (disch := omega) [ff]); done)); try dsimp only) | ((with_reducible refine gW_do ?_ ?_); (focus (simp (disch := omega) [ff]; done))) | ((with_reducible refine gW_no ?_ ?_); (focus (simp (disch := omega) [ff]; done)); try dsimp only) | ((with_reducible refine gW_un ?_ ?_); (focus (simp (disch := omega) [ff]; done)); try dsimp only) | ((with_reducible refine cndW_T ?_ ?_); (focus (simp (disch := omega) [ff] <;> omega))) | ((with_reducible refine cndW_F ?_ ?_); (focus (simp (disch := omega) [ff] <;> omega))) | ((with_reducible refine stabP_i ?_ ?_); (focus (simp (disch := omega) [ff]; done))) | (with_reducible refine bothP_i ?_ ?_) | (with_reducible refine wL_i ?_) | ((with_reducible refine ValW_do ?_ ?_); (focus (simp (disch := omega) [ff]; done)); try dsimp only) | ((with_reducible refine ValW_no ?_ ?_); (focus (simp (disch := omega) [ff]; done)); try dsimp only) | ((with_reducible refine ValW_un ?_ ?_); (focus (simp (disch := omega) [ff]; done)); try dsimp only) | (with_reducible refine ValW_i (c67 (d1.x.w.app _)) ?_; try dsimp only) | (with_reducible refine SpecQ.step (c67 (d1.x.w.app _)) ?_; rintro _ rfl; try dsimp only) | (with_reducible refine stabP_i (c67 (d1.x.w.app _)) ?_) | ((with_reducible refine SpecA_i (args' := ?_) ?_ ?_); rotate_left; (focus ((conv => lhs; simp (disch := omega) [ff]); done))) | ((with_reducible refine ValA_i (args' := ?_) ?_ ?_); rotate_left; (focus ((conv => lhs; simp (disch := omega) [ff]); done))) | ((with_reducible refine stabA_i (args' := ?_) ?_ ?_); rotate_left; (focus ((conv => lhs; simp (disch := omega) [ff]); done))) | ((with_reducible refine ValA_fn (g := ?_) (caps := ?_) ?_ ?_); rotate_left; rotate_left; (focus ((conv => lhs; simp (disch := omega) [ff]); done))) | ((with_reducible refine stabA_fn (g := ?_) (caps := ?_) ?_ ?_); rotate_left; rotate_left; (focus ((conv => lhs; simp (disch := omega) [ff]); done))) | ((with_reducible refine stab_do ?_ ?_); (focus (simp (disch := omega) [ff]; done))) | (simp (decide := true) only [sn80, sqW_nrm, sqW_exit, sqW_ret, inBlk_nrm, inBlk_ret, inBlk_same, inBlk_exit, if_true, if_false, retW_nrm, retW_ret]) | (with_reducible refine n80_98_w _ _ _ ?_) | (with_reducible refine n80_109_w _ _ _ ?_) | (with_reducible refine n80_117_w _ _ _ ?_) | (with_reducible refine n80_147_w _ _ _ ?_) | (with_reducible refine n80_151_w _ _ _ ?_) | (with_reducible refine n80_166_w _ _ _ ?_) | (with_reducible refine n80_199_w _ _ _ ?_) | (with_reducible refine n80_201_w _ _ _ ?_) | (with_reducible refine n80_203_w _ _ _ ?_) | (with_reducible refine n80_1_w _ _ _ ?_))
  exact xX.get) (x : X) : G := f ⟨x⟩
theorem runRp15_3 {G X : Prop} (f : Hd X → G := by
  intro xX
  repeat' (first | ((with_reducible refine evs_of (a := ?_) ?_ ?_); rotate_left; (focus ((conv => lhs; simp (disch := omega) [ff]); done)); try dsimp only) | ((with_reducible refine gW_do ?_ ?_); (focus (simp (disch := omega) [ff]; done))) | ((with_reducible refine gW_no ?_ ?_); (focus (simp (disch := omega) [ff]; done)); try dsimp only) | ((with_reducible refine gW_un ?_ ?_); (focus (simp (disch := omega) [ff]; done)); try dsimp only) | ((with_reducible refine cndW_T ?_ ?_); (focus (simp (disch := omega) [ff] <;> omega))) | ((with_reducible refine cndW_F ?_ ?_); (focus (simp (disch := omega) [ff] <;> omega))) | ((with_reducible refine stabP_i ?_ ?_); (focus (simp (disch := omega) [ff]; done))) | (with_reducible refine bothP_i ?_ ?_) | (with_reducible refine wL_i ?_) | ((with_reducible refine ValW_do ?_ ?_); (focus (simp (disch := omega) [ff]; done)); try dsimp only) | ((with_reducible refine ValW_no ?_ ?_); (focus (simp (disch := omega) [ff]; done)); try dsimp only) | ((with_reducible refine ValW_un ?_ ?_); (focus (simp (disch := omega) [ff]; done)); try dsimp only) | (with_reducible refine ValW_i (c67 d4.x.w) ?_; try dsimp only) | (with_reducible refine SpecQ.step (c67 d4.x.w) ?_; rintro _ rfl; try dsimp only) | (with_reducible refine stabP_i (c67 d4.x.w) ?_) | ((with_reducible refine SpecA_i (args' := ?_) ?_ ?_); rotate_left; (focus ((conv => lhs; simp (disch := omega) [ff]); done))) | ((with_reducible refine ValA_i (args' := ?_) ?_ ?_); rotate_left; (focus ((conv => lhs; simp (disch := omega) [ff]); done))) | ((with_reducible refine stabA_i (args' := ?_) ?_ ?_); rotate_left; (focus ((conv => lhs; simp (disch := omega) [ff]); done))) | ((with_reducible refine ValA_fn (g := ?_) (caps := ?_) ?_ ?_); rotate_left; rotate_left; (focus ((conv => lhs; simp (disch := omega) [ff]); done))) | ((with_reducible refine stabA_fn (g := ?_) (caps := ?_) ?_ ?_); rotate_left; rotate_left; (focus ((conv => lhs; simp (disch := omega) [ff]); done))) | ((with_reducible refine stab_do ?_ ?_); (focus (simp (disch := omega) [ff]; done))) | (simp (decide := true) only [sn80, sqW_nrm, sqW_exit, sqW_ret, inBlk_nrm, inBlk_ret, inBlk_same, inBlk_exit, if_true, if_false, retW_nrm, retW_ret]) | (with_reducible refine n80_98_w _ _ _ ?_) | (with_reducible refine n80_109_w _ _ _ ?_) | (with_reducible refine n80_117_w _ _ _ ?_) | (with_reducible refine n80_147_w _ _ _ ?_) | (with_reducible refine n80_151_w _ _ _ ?_) | (with_reducible refine n80_166_w _ _ _ ?_) | (with_reducible refine n80_199_w _ _ _ ?_) | (with_reducible refine n80_201_w _ _ _ ?_) | (with_reducible refine n80_203_w _ _ _ ?_) | (with_reducible refine n80_1_w _ _ _ ?_))
  exact xX.get) (x : X) : G := f ⟨x⟩
theorem runRp15_4 {G X : Prop} (f : Hd X → G := by
  intro xX
  repeat' (first | ((with_reducible refine evs_of (a := ?_) ?_ ?_); rotate_left; (focus ((conv => lhs; simp (disch := omega) [ff]); done)); try dsimp only) | ((with_reducible refine gW_do ?_ ?_); (focus (simp (disch := omega) [ff]; done))) | ((with_reducible refine gW_no ?_ ?_); (focus (simp (disch := omega) [ff]; done)); try dsimp only) | ((with_reducible refine gW_un ?_ ?_); (focus (simp (disch := omega) [ff]; done)); try dsimp only) | ((with_reducible refine cndW_T ?_ ?_); (focus (simp (disch := omega) [ff] <;> omega))) | ((with_reducible refine cndW_F ?_ ?_); (focus (simp (disch := omega) [ff] <;> omega))) | ((with_reducible refine stabP_i ?_ ?_); (focus (simp (disch := omega) [ff]; done))) | (with_reducible refine bothP_i ?_ ?_) | (with_reducible refine wL_i ?_) | ((with_reducible refine ValW_do ?_ ?_); (focus (simp (disch := omega) [ff]; done)); try dsimp only) | ((with_reducible refine ValW_no ?_ ?_); (focus (simp (disch := omega) [ff]; done)); try dsimp only) | ((with_reducible refine ValW_un ?_ ?_); (focus (simp (disch := omega) [ff]; done)); try dsimp only) | (with_reducible refine ValW_i (c95 x.w hs) ?_; try dsimp only) | (with_reducible refine SpecQ.step (c95 x.w hs) ?_; rintro _ rfl; try dsimp only) | (with_reducible refine stabP_i (c95 x.w hs) ?_) | ((with_reducible refine SpecA_i (args' := ?_) ?_ ?_); rotate_left; (focus ((conv => lhs; simp (disch := omega) [ff]); done))) | ((with_reducible refine ValA_i (args' := ?_) ?_ ?_); rotate_left; (focus ((conv => lhs; simp (disch := omega) [ff]); done))) | ((with_reducible refine stabA_i (args' := ?_) ?_ ?_); rotate_left; (focus ((conv => lhs; simp (disch := omega) [ff]); done))) | ((with_reducible refine ValA_fn (g := ?_) (caps := ?_) ?_ ?_); rotate_left; rotate_left; (focus ((conv => lhs; simp (disch := omega) [ff]); done))) | ((with_reducible refine stabA_fn (g := ?_) (caps := ?_) ?_ ?_); rotate_left; rotate_left; (focus ((conv => lhs; simp (disch := omega) [ff]); done))) | ((with_reducible refine stab_do ?_ ?_); (focus (simp (disch := omega) [ff]; done))) | (simp (decide := true) only [sn80, sqW_nrm, sqW_exit, sqW_ret, inBlk_nrm, inBlk_ret, inBlk_same, inBlk_exit, if_true, if_false, retW_nrm, retW_ret]) | (with_reducible refine n80_98_w _ _ _ ?_) | (with_reducible refine n80_109_w _ _ _ ?_) | (with_reducible refine n80_117_w _ _ _ ?_) | (with_reducible refine n80_147_w _ _ _ ?_) | (with_reducible refine n80_151_w _ _ _ ?_) | (with_reducible refine n80_166_w _ _ _ ?_) | (with_reducible refine n80_199_w _ _ _ ?_) | (with_reducible refine n80_201_w _ _ _ ?_) | (with_reducible refine n80_203_w _ _ _ ?_) | (with_reducible refine n80_1_w _ _ _ ?_))
  exact xX.get) (x : X) : G := f ⟨x⟩
theorem runRp15_5 {G X : Prop} (f : Hd X → G := by
  intro xX
  repeat' (first | ((with_reducible refine evs_of (a := ?_) ?_ ?_); rotate_left; (focus ((conv => lhs; simp (disch := omega) [ff]); done)); try dsimp only) | ((with_reducible refine gW_do ?_ ?_); (focus (simp (disch := omega) [ff]; done))) | ((with_reducible refine gW_no ?_ ?_); (focus (simp (disch := omega) [ff]; done)); try dsimp only) | ((with_reducible refine gW_un ?_ ?_); (focus (simp (disch := omega) [ff]; done)); try dsimp only) | ((with_reducible refine cndW_T ?_ ?_); (focus (simp (disch := omega) [ff] <;> omega))) | ((with_reducible refine cndW_F ?_ ?_); (focus (simp (disch := omega) [ff] <;> omega))) | ((with_reducible refine stabP_i ?_ ?_); (focus (simp (disch := omega) [ff]; done))) | (with_reducible refine bothP_i ?_ ?_) | (with_reducible refine wL_i ?_) | ((with_reducible refine ValW_do ?_ ?_); (focus (simp (disch := omega) [ff]; done)); try dsimp only) | ((with_reducible refine ValW_no ?_ ?_); (focus (simp (disch := omega) [ff]; done)); try dsimp only) | ((with_reducible refine ValW_un ?_ ?_); (focus (simp (disch := omega) [ff]; done)); try dsimp only) | (with_reducible refine ValW_i (c95 x.w hs) ?_; try dsimp only) | (with_reducible refine SpecQ.step (c95 x.w hs) ?_; rintro _ rfl; try dsimp only) | (with_reducible refine stabP_i (c95 x.w hs) ?_) | (with_reducible refine ValW_i (c73 x hs hme) ?_; try dsimp only) | (with_reducible refine SpecQ.step (c73 x hs hme) ?_; rintro _ rfl; try dsimp only) | (with_reducible refine stabP_i (c73 x hs hme) ?_) | ((with_reducible refine SpecA_i (args' := ?_) ?_ ?_); rotate_left; (focus ((conv => lhs; simp (disch := omega) [ff]); done))) | ((with_reducible refine ValA_i (args' := ?_) ?_ ?_); rotate_left; (focus ((conv => lhs; simp (disch := omega) [ff]); done))) | ((with_reducible refine stabA_i (args' := ?_) ?_ ?_); rotate_left; (focus ((conv => lhs; simp (disch := omega) [ff]); done))) | ((with_reducible refine ValA_fn (g := ?_) (caps := ?_) ?_ ?_); rotate_left; rotate_left; (focus ((conv => lhs; simp (disch := omega) [ff]); done))) | ((with_reducible refine stabA_fn (g := ?_) (caps := ?_) ?_ ?_); rotate_left; rotate_left; (focus ((conv => lhs; simp (disch := omega) [ff]); done))) | ((with_reducible refine stab_do ?_ ?_); (focus (simp (disch := omega) [ff]; done))) | (simp (decide := true) only [sn80, sqW_nrm, sqW_exit, sqW_ret, inBlk_nrm, inBlk_ret, inBlk_same, inBlk_exit, if_true, if_false, retW_nrm, retW_ret]) | (with_reducible refine n80_98_w _ _ _ ?_) | (with_reducible refine n80_109_w _ _ _ ?_) | (with_reducible refine n80_117_w _ _ _ ?_) | (with_reducible refine n80_147_w _ _ _ ?_) | (with_reducible refine n80_151_w _ _ _ ?_) | (with_reducible refine n80_166_w _ _ _ ?_) | (with_reducible refine n80_199_w _ _ _ ?_) | (with_reducible refine n80_201_w _ _ _ ?_) | (with_reducible refine n80_203_w _ _ _ ?_) | (with_reducible refine n80_1_w _ _ _ ?_))
  exact xX.get) (x : X) : G := f ⟨x⟩
theorem runRp15_6 {G X : Prop} (f : Hd X → G := by
  intro xX
  repeat' (first | ((with_reducible refine evs_of (a := ?_) ?_ ?_); rotate_left; (focus ((conv => lhs; simp (disch := omega) [ff]); done)); try dsimp only) | ((with_reducible refine gW_do ?_ ?_); (focus (simp (disch := omega) [ff]; done))) | ((with_reducible refine gW_no ?_ ?_); (focus (simp (disch := omega) [ff]; done)); try dsimp only) | ((with_reducible refine gW_un ?_ ?_); (focus (simp (disch := omega) [ff]; done)); try dsimp only) | ((with_reducible refine cndW_T ?_ ?_); (focus (simp (disch := omega) [ff] <;> omega))) | ((with_reducible refine cndW_F ?_ ?_); (focus (simp (disch := omega) [ff] <;> omega))) | ((with_reducible refine stabP_i ?_ ?_); (focus (simp (disch := omega) [ff]; done))) | (with_reducible refine bothP_i ?_ ?_) | (with_reducible refine wL_i ?_) | ((with_reducible refine ValW_do ?_ ?_); (focus (simp (disch := omega) [ff]; done)); try dsimp only) | ((with_reducible refine ValW_no ?_ ?_); (focus (simp (disch := omega) [ff]; done)); try dsimp only) | ((with_reducible refine ValW_un ?_ ?_); (focus (simp (disch := omega) [ff]; done)); try dsimp only) | (with_reducible refine ValW_i (c113 (d3.x.w.app _)) ?_; try dsimp only) | (with_reducible refine SpecQ.step (c113 (d3.x.w.app _)) ?_; rintro _ rfl; try dsimp only) | (with_reducible refine stabP_i (c113 (d3.x.w.app _)) ?_) | ((with_reducible refine SpecA_i (args' := ?_) ?_ ?_); rotate_left; (focus ((conv => lhs; simp (disch := omega) [ff]); done))) | ((with_reducible refine ValA_i (args' := ?_) ?_ ?_); rotate_left; (focus ((conv => lhs; simp (disch := omega) [ff]); done))) | ((with_reducible refine stabA_i (args' := ?_) ?_ ?_); rotate_left; (focus ((conv => lhs; simp (disch := omega) [ff]); done))) | ((with_reducible refine ValA_fn (g := ?_) (caps := ?_) ?_ ?_); rotate_left; rotate_left; (focus ((conv => lhs; simp (disch := omega) [ff]); done))) | ((with_reducible refine stabA_fn (g := ?_) (caps := ?_) ?_ ?_); rotate_left; rotate_left; (focus ((conv => lhs; simp (disch := omega) [ff]); done))) | ((with_reducible refine stab_do ?_ ?_); (focus (simp (disch := omega) [ff]; done))) | (simp (decide := true) only [sn80, sqW_nrm, sqW_exit, sqW_ret, inBlk_nrm, inBlk_ret, inBlk_same, inBlk_exit, if_true, if_false, retW_nrm, retW_ret]) | (with_reducible refine n80_98_w _ _ _ ?_) | (with_reducible refine n80_109_w _ _ _ ?_) | (with_reducible refine n80_117_w _ _ _ ?_) | (with_reducible refine n80_147_w _ _ _ ?_) | (with_reducible refine n80_151_w _ _ _ ?_) | (with_reducible refine n80_166_w _ _ _ ?_) | (with_reducible refine n80_199_w _ _ _ ?_) | (with_reducible refine n80_201_w _ _ _ ?_) | (with_reducible refine n80_203_w _ _ _ ?_) | (with_reducible refine n80_1_w _ _ _ ?_))
  exact xX.get) (x : X) : G := f ⟨x⟩
theorem Srt.s' {s : Stt} (h : Srt s) (e : Pt) : Srt { s with seats := del fS s.seats e } := ⟨srt_del h.s, h.i, h.a, h.b⟩
section
variable {κ κ0 : Nat → Nat} {G H0 : Heap} {c xb : Nat} {s : Stt} {b : Pt} {a : Actn} {m : BitVec 8} {vt vp vs vi va vb wt wp : AV} {pe : Pt} {env : Env} {p3 p4 p5 p6 p7 : Nat} {K : AV × Heap → Prop}
theorem Mx.scr (d : Mx κ G c xb s b a m vt vp vs vi va vb wt wp pe env p3 p4 p5 p6 p7) (v : Blk) : Mx (Go.Vab.scr κ G.length) (G ++ [v]) c xb s b a m vt vp vs vi va vb wt wp pe env p3 p4 p5 p6 p7 :=
  ⟨d.x.scr v, d.c3.scr v, d.c4.scr v, d.c5.scr v, d.c6.scr v, d.c7.scr v, d.e0, d.e3, d.e4, d.e5, d.e6, d.e7⟩
theorem Mx.wr (d : Mx κ G c xb s b a m vt vp vs vi va vb wt wp pe env p3 p4 p5 p6 p7) {p : Nat} (hp : κ p = 6) (h3 : p ≠ p3) (h4 : p ≠ p4) (h5 : p ≠ p5) (h6 : p ≠ p6) (h7 : p ≠ p7) (v : Blk) : Mx κ (G.set p v) c xb s b a m vt vp vs vi va vb wt wp pe env p3 p4 p5 p6 p7 :=
  ⟨d.x.wr hp v, d.c3.wr h3 v, d.c4.wr h4 v, d.c5.wr h5 v, d.c6.wr h6 v, d.c7.wr h7 v, d.e0, d.e3, d.e4, d.e5, d.e6, d.e7⟩
set_option maxHeartbeats 8000000 in
theorem more_7 (d : Mx κ G c xb s b a m vt vp vs vi va vb wt wp a.e env p3 p4 p5 p6 p7) (f0 : Fr κ0 H0 κ G) (hs : Srt s) (ms : mayS s = true) (ok : Okd s b a) (hk : a.kind = 7#8) (hK : ∀ r, DoR κ0 H0 c (madeP s b a) r → K r) : wC Tryz.prog cx80 n80_3 (retW (fun s => (bnd (some (s.env.get 2)) fun v => bnd (some []) fun vs => some (v :: vs))) K) ⟨env, G⟩ := by
  have sx0 := blk_of d.x.st
  have wb0 := blk_of d.x.w.cell
  have wc0 := d.x.w.cells
  have d0 := d
  obtain ⟨x, c3, c4, c5, c6, c7, e0, e3, e4, e5, e6, e7⟩ := d
  have b4 := c4.blk0
  have b4l := c4.blk
  have sxl := d0.x.blk
  have hl := (may_lens ms).1
  have ff := And.intro sx0 (And.intro hk (And.intro b4 (And.intro e0 e4)))
  refine runRp15_0 (x := ?_)
  clear ff
  refine n80_117_w _ _ _ ?_
  repeat' (first | ((with_reducible refine evs_of (a := ?_) ?_ ?_); rotate_left; (focus ((conv => lhs; simp (disch := omega) [sx0, sxl, hk, b4, b4l, e0, e4]); done)); try dsimp only) | ((with_reducible refine gW_do ?_ ?_); (focus (simp (disch := omega) [sx0, sxl, hk, b4, b4l, e0, e4]; done))) | ((with_reducible refine gW_no ?_ ?_); (focus (simp (disch := omega) [sx0, sxl, hk, b4, b4l, e0, e4]; done)); try dsimp only) | ((with_reducible refine gW_un ?_ ?_); (focus (simp (disch := omega) [sx0, sxl, hk, b4, b4l, e0, e4]; done)); try dsimp only) | ((with_reducible refine cndW_T ?_ ?_); (focus (simp (disch := omega) [sx0, sxl, hk, b4, b4l, e0, e4] <;> omega))) | ((with_reducible refine cndW_F ?_ ?_); (focus (simp (disch := omega) [sx0, sxl, hk, b4, b4l, e0, e4] <;> omega))) | ((with_reducible refine stabP_i ?_ ?_); (focus (simp (disch := omega) [sx0, sxl, hk, b4, b4l, e0, e4]; done))) | (with_reducible refine bothP_i ?_ ?_) | (with_reducible refine wL_i ?_) | ((with_reducible refine ValW_do ?_ ?_); (focus (simp (disch := omega) [sx0, sxl, hk, b4, b4l, e0, e4]; done)); try dsimp only) | ((with_reducible refine ValW_no ?_ ?_); (focus (simp (disch := omega) [sx0, sxl, hk, b4, b4l, e0, e4]; done)); try dsimp only) | ((with_reducible refine ValW_un ?_ ?_); (focus (simp (disch := omega) [sx0, sxl, hk, b4, b4l, e0, e4]; done)); try dsimp only) | ((with_reducible refine SpecA_i (args' := ?_) ?_ ?_); rotate_left; (focus ((conv => lhs; simp (disch := omega) [sx0, sxl, hk, b4, b4l, e0, e4]); done))) | ((with_reducible refine ValA_i (args' := ?_) ?_ ?_); rotate_left; (focus ((conv => lhs; simp (disch := omega) [sx0, sxl, hk, b4, b4l, e0, e4]); done))) | ((with_reducible refine stabA_i (args' := ?_) ?_ ?_); rotate_left; (focus ((conv => lhs; simp (disch := omega) [sx0, sxl, hk, b4, b4l, e0, e4]); done))) | ((with_reducible refine ValA_fn (g := ?_) (caps := ?_) ?_ ?_); rotate_left; rotate_left; (focus ((conv => lhs; simp (disch := omega) [sx0, sxl, hk, b4, b4l, e0, e4]); done))) | ((with_reducible refine stabA_fn (g := ?_) (caps := ?_) ?_ ?_); rotate_left; rotate_left; (focus ((conv => lhs; simp (disch := omega) [sx0, sxl, hk, b4, b4l, e0, e4]); done))) | ((with_reducible refine stab_do ?_ ?_); (focus (simp (disch := omega) [sx0, sxl, hk, b4, b4l, e0, e4]; done))) | (simp (decide := true) only [sn80, sqW_nrm, sqW_exit, sqW_ret, inBlk_nrm, inBlk_ret, inBlk_same, inBlk_exit, if_true, if_false, retW_nrm, retW_ret]) | ((with_reducible refine cndW_splitE (b := ?_) ?_ ?_ ?_); rotate_left; (focus ((conv => lhs; simp (disch := omega) [sx0, sxl, hk, b4, b4l, e0, e4]); done)); all_goals ((intro hb; try simp only [Bool.not_true, Bool.not_false] at hb); try simp only [hb])) | ((with_reducible refine gv_splitE (b := ?_) ?_ ?_ ?_); rotate_left; (focus ((conv => lhs; simp (disch := omega) [sx0, sxl, hk, b4, b4l, e0, e4]); done)); all_goals ((intro hb; try simp only [Bool.not_true, Bool.not_false] at hb); try simp only [hb])) | ((with_reducible refine gW_splitE (b := ?_) ?_ ?_ ?_); rotate_left; (focus ((conv => lhs; simp (disch := omega) [sx0, sxl, hk, b4, b4l, e0, e4]); done)); all_goals ((intro hb; try simp only [Bool.not_true, Bool.not_false] at hb); try simp only [hb])) | (with_reducible refine gv_split ?_ ?_ <;> (intro hb; try simp only [Bool.not_true, Bool.not_false] at hb) <;> try simp only [hb]) | (with_reducible refine gW_split ?_ ?_ <;> (intro hb; try simp only [Bool.not_true, Bool.not_false] at hb) <;> try simp only [hb]) | (with_reducible refine cndW_split ?_ ?_ <;> (intro hb; try simp only [Bool.not_true, Bool.not_false] at hb) <;> try simp only [hb]) | (with_reducible refine ValW_split ?_ ?_ <;> (intro hb; try simp only [Bool.not_true, Bool.not_false] at hb) <;> try simp only [hb]))
  · refine SpecQ.step (c68 x.w hs) ?_
    rintro _ ⟨y, κ', H', q, rfl, hy, w2, fr⟩
    have d1 := d0.next fr w2
    have b31 := d1.c3.blk
    have b41 := d1.c4.blk
    have sx1 := d1.x.blk
    have ff := And.intro b41 (And.intro sx1 e4)
    refine runRp15_0 (x := ?_)
    clear ff
    cases h1 : hasP fI s.invites b
    · have hmd : madeP s b a = .error 7 := by simp [madeP, hk, hasP_fnd h1]
      have ff := And.intro b31 (And.intro sx1 (And.intro hk h1))
      refine runRp15_1 (x := ?_)
      clear ff
      exact hK _ (.err hmd (f0.trans (fr.trans (Fr.refl _ _).app)))
    obtain ⟨_, _, hf⟩ := low_yes hs.i h1
    have hyf := hy _ hf
    rw [← hyf] at hf
    by_cases h3 : 40 ≤ s.seats.length
    · have hmd : madeP s b a = .error 9 := by simp [madeP, hk, hf, h3]
      have ff := And.intro b31 (And.intro sx1 (And.intro hk (And.intro h1 (And.intro h3 e3))))
      refine runRp15_2 (x := ?_)
      clear ff
      exact hK _ (.err hmd (f0.trans (fr.trans (Fr.refl _ _).app)))
    have hmd : madeP s b a = .ok { s with invites := del fI s.invites b, seats := ins fS s.seats ⟨y.who, y.role, a.version⟩ } := by simp [madeP, hk, hf, h3]
    have ff := And.intro b31 (And.intro sx1 (And.intro hk (And.intro h1 (And.intro h3 (And.intro e0 e3)))))
    refine runRp15_2 (x := ?_)
    clear ff
    refine SpecQ.step (c70 (d1.x.app _) (hs.i' _) (by simp only; omega)) ?_
    rintro _ ⟨κ3, H3, q3, rfl, w3, fr3⟩
    have ff := hk
    refine runRp15_1 (x := ?_)
    clear ff
    exact hK _ (.ok hmd (f0.trans (fr.trans fr3.app)) w3)
  · have d2 := d0.scr ⟨eInv ⟨ci0, 0#8, ci0⟩, 0, .own⟩
    refine SpecQ.step (c68 d2.x.w hs) ?_
    rintro _ ⟨y, κ', H', q, rfl, hy, w2, fr⟩
    have d3 := d2.next fr w2
    have c10 := (Cel.own κ G (eInv ⟨ci0, 0#8, ci0⟩)).next fr
    have b10 := c10.blk0
    have k10 : κ' G.length = 6 := by rw [fr.old _ (by simp), scr_self]
    obtain ⟨H2, hH2⟩ : ∃ H2, H'.set G.length ⟨eInv y, 0, .own⟩ = H2 := ⟨_, rfl⟩
    have ff := And.intro b10 hH2
    refine runRp15_0 (x := ?_)
    clear ff
    have n3 := c3.lt
    have n4 := c4.lt
    have n5 := c5.lt
    have n6 := c6.lt
    have n7 := c7.lt
    have d4 := d3.wr k10 (by omega) (by omega) (by omega) (by omega) (by omega) ⟨eInv y, 0, .own⟩
    have c11 := c10.set (eInv y)
    have f4 : Fr κ G κ' (H'.set G.length ⟨eInv y, 0, .own⟩) := (Fr.scr fr (Nat.le_refl _)).wr (Nat.le_refl _) _
    rw [hH2] at d4 c11 f4
    have b31 := d4.c3.blk0
    have sx1 := blk_of d4.x.st
    have b11 := c11.blk0
    cases h1 : hasP fI s.invites b
    · have hmd : madeP s b a = .error 7 := by simp [madeP, hk, hasP_fnd h1]
      have ff := And.intro b31 (And.intro sx1 (And.intro b11 (And.intro hk h1)))
      refine runRp15_1 (x := ?_)
      clear ff
      exact hK _ (.err hmd (f0.trans f4))
    obtain ⟨_, _, hf⟩ := low_yes hs.i h1
    have hyf := hy _ hf
    rw [← hyf] at hf
    by_cases h3 : 40 ≤ s.seats.length
    · have hmd : madeP s b a = .error 9 := by simp [madeP, hk, hf, h3]
      have ff := And.intro b31 (And.intro sx1 (And.intro b11 (And.intro hk (And.intro h1 (And.intro h3 e3)))))
      refine runRp15_3 (x := ?_)
      clear ff
      exact hK _ (.err hmd (f0.trans f4))
    have hmd : madeP s b a = .ok { s with invites := del fI s.invites b, seats := ins fS s.seats ⟨y.who, y.role, a.version⟩ } := by simp [madeP, hk, hf, h3]
    have ff := And.intro b31 (And.intro sx1 (And.intro b11 (And.intro hk (And.intro h1 (And.intro h3 (And.intro e0 e3))))))
    refine runRp15_3 (x := ?_)
    clear ff
    refine SpecQ.step (c70 d4.x (hs.i' _) (by simp only; omega)) ?_
    rintro _ ⟨κ3, H3, q3, rfl, w3, fr3⟩
    have ff := hk
    refine runRp15_1 (x := ?_)
    clear ff
    exact hK _ (.ok hmd (f0.trans (f4.trans fr3)) w3)
set_option maxHeartbeats 8000000 in
theorem more_14 (d : Mx κ G c xb s b a m vt vp vs vi va vb wt wp a.e env p3 p4 p5 p6 p7) (f0 : Fr κ0 H0 κ G) (hs : Srt s) (ms : mayS s = true) (ok : Okd s b a) (hk : a.kind = 14#8) (hK : ∀ r, DoR κ0 H0 c (madeP s b a) r → K r) : wC Tryz.prog cx80 n80_3 (retW (fun s => (bnd (some (s.env.get 2)) fun v => bnd (some []) fun vs => some (v :: vs))) K) ⟨env, G⟩ := by
  have sx0 := blk_of d.x.st
  have wb0 := blk_of d.x.w.cell
  have wc0 := d.x.w.cells
  have d0 := d
  obtain ⟨x, c3, c4, c5, c6, c7, e0, e3, e4, e5, e6, e7⟩ := d
  have hm := ok.adm (by simp [hk])
  have hme := role_has ms (b := b) (by rw [hm]; decide)
  have b3 := c3.blk
  have b60 := c6.blk0
  have b7 := c7.blk
  have b70 := c7.blk0
  have hl := (may_lens ms).2.2.2
  by_cases hb : a.e = b
  · have hmd : madeP s b a = .error 195 := by simp [madeP, hk, hm, hb]
    have ff := And.intro sx0 (And.intro hk (And.intro hb (And.intro b70 (And.intro e0 e7))))
    refine runRp15_1 (x := ?_)
    clear ff
    exact hK _ (.err hmd f0)
  cases h1 : hasP fB s.bans a.e
  rotate_left
  · have hmd : madeP s b a = .error 8 := by simp [madeP, hk, hm, hb, h1]
    have ff := And.intro sx0 (And.intro hk (And.intro hb (And.intro h1 (And.intro b60 (And.intro b70 (And.intro e0 (And.intro e6 e7)))))))
    refine runRp15_4 (x := ?_)
    clear ff
    exact hK _ (.err hmd f0)
  have ff := And.intro sx0 (And.intro hk (And.intro hb (And.intro h1 (And.intro b3 (And.intro b60 (And.intro b7 (And.intro b70 (And.intro e0 (And.intro e3 (And.intro e6 e7))))))))))
  refine runRp15_5 (x := ?_)
  clear ff
  have d2 := d0.scr ⟨eBan ⟨ci0, meOf s b⟩, 0, .own⟩
  refine SpecQ.step (c77 d2.x.w hs) ?_
  rintro _ ⟨y, κ1, H1, q1, rfl, hy, w1, fr1⟩
  have d1 := d2.next fr1 w1
  have c14 := (Cel.own κ G (eBan ⟨ci0, meOf s b⟩)).next fr1
  have k14 : κ1 G.length = 6 := by rw [fr1.old _ (by simp), scr_self]
  have f1 : Fr κ G κ1 H1 := Fr.scr fr1 (Nat.le_refl _)
  have n3 := c3.lt
  have n4 := c4.lt
  have n5 := c5.lt
  have n6 := c6.lt
  have n7 := c7.lt
  cases hS : hasP fS s.seats a.e
  rotate_left
  · obtain ⟨_, _, hf⟩ := low_yes hs.s hS
    have hyf := hy _ hf
    rw [← hyf] at hf
    have hwho : whoOf s a.e = some y.who := by simp [whoOf, hf]
    obtain ⟨hI, hA, _⟩ := (apart ms a.e).1 hS
    have ff := And.intro hk hS
    refine runRp15_1 (x := ?_)
    clear ff
    obtain ⟨H2, hH2⟩ : ∃ H2, H1.set G.length ⟨eBan ⟨y.who, meOf s b⟩, 0, .own⟩ = H2 := ⟨_, rfl⟩
    have st14 : ∀ l v, (H1 ++ l).set G.length v = H1.set G.length v ++ l := fun l v => set_appL c14.1 l v
    have b14 := c14.blk
    have ff := And.intro hk (And.intro b14 (And.intro st14 hH2))
    refine runRp15_1 (x := ?_)
    clear ff
    have d3 := d1.wr k14 (by omega) (by omega) (by omega) (by omega) (by omega) ⟨eBan ⟨y.who, meOf s b⟩, 0, .own⟩
    have c14n := c14.set (eBan ⟨y.who, meOf s b⟩)
    have f3 := f1.wr (p := G.length) (Nat.le_refl _) ⟨eBan ⟨y.who, meOf s b⟩, 0, .own⟩
    rw [hH2] at d3 c14n f3
    have b62 := d3.c6.blk
    have b14n := c14n.blk
    by_cases h40 : 40 ≤ s.bans.length
    · have hmd : madeP s b a = .error 9 := by simp [madeP, hk, hm, hb, h1, hwho, h40]
      have ff := And.intro hk (And.intro h40 (And.intro b62 (And.intro b14n e6)))
      refine runRp15_6 (x := ?_)
      clear ff
      exact hK _ (.err hmd (f0.trans (f3.trans (Fr.refl _ _).app)))
    have hmd : madeP s b a = .ok { s with seats := del fS s.seats a.e, invites := s.invites, asks := s.asks, bans := ins fB s.bans ⟨y.who, meOf s b⟩ } := by simp [madeP, hk, hm, hb, h1, hwho, h40, del_no hI, del_no hA]
    have ff := And.intro hk (And.intro h40 (And.intro b62 (And.intro b14n e6)))
    refine runRp15_6 (x := ?_)
    clear ff
    refine SpecQ.step (c114 (x := ⟨y.who, meOf s b⟩) (d3.x.w.app _) (hs.s' _) (by simp only; omega)) ?_
    rintro _ ⟨_, κ9, H9, q9, rfl, w9, fr9⟩
    have ff := hk
    refine runRp15_1 (x := ?_)
    clear ff
    exact hK _ (.ok hmd (f0.trans (f3.trans fr9.app)) w9)
  have b41 := d1.c4.blk
  have b71 := d1.c7.blk
  have ff := And.intro hk (And.intro hS (And.intro b41 (And.intro b71 (And.intro e4 e7))))
  refine runRp15_1 (x := ?_)
  clear ff
  refine SpecQ.step (c68 (d1.x.w.app _) (hs.s' _)) ?_
  rintro _ ⟨y2, κ2, H2', q2, rfl, hy2, w2, fr2⟩
  have d12 := d1.next fr2.app w2
  have c142 := c14.next fr2.app
  have k142 : κ2 G.length = 6 := by rw [fr2.app.old _ c14.lt]; exact k14
  have f2 : Fr κ G κ2 H2' := f1.trans fr2.app
  cases hI : hasP fI s.invites a.e
  rotate_left
  · obtain ⟨_, _, hf⟩ := low_yes hs.i hI
    have hyf := hy2 _ hf
    rw [← hyf] at hf
    have hwho : whoOf s a.e = some y2.who := by simp [whoOf, hasP_fnd hS, hf]
    obtain ⟨hA, _⟩ := (apart ms a.e).2.1 hI
    have ff := And.intro hk hI
    refine runRp15_1 (x := ?_)
    clear ff
    obtain ⟨H2, hH2⟩ : ∃ H2, H2'.set G.length ⟨eBan ⟨y2.who, meOf s b⟩, 0, .own⟩ = H2 := ⟨_, rfl⟩
    have st14 : ∀ l v, (H2' ++ l).set G.length v = H2'.set G.length v ++ l := fun l v => set_appL c142.1 l v
    have b14 := c142.blk
    have ff := And.intro hk (And.intro b14 (And.intro st14 hH2))
    refine runRp15_1 (x := ?_)
    clear ff
    have d3 := d12.wr k142 (by omega) (by omega) (by omega) (by omega) (by omega) ⟨eBan ⟨y2.who, meOf s b⟩, 0, .own⟩
    have c14n := c142.set (eBan ⟨y2.who, meOf s b⟩)
    have f3 := f2.wr (p := G.length) (Nat.le_refl _) ⟨eBan ⟨y2.who, meOf s b⟩, 0, .own⟩
    rw [hH2] at d3 c14n f3
    have b62 := d3.c6.blk
    have b14n := c14n.blk
    by_cases h40 : 40 ≤ s.bans.length
    · have hmd : madeP s b a = .error 9 := by simp [madeP, hk, hm, hb, h1, hwho, h40]
      have ff := And.intro hk (And.intro h40 (And.intro b62 (And.intro b14n e6)))
      refine runRp15_6 (x := ?_)
      clear ff
      exact hK _ (.err hmd (f0.trans (f3.trans (Fr.refl _ _).app)))
    have hmd : madeP s b a = .ok { s with seats := del fS s.seats a.e, invites := del fI s.invites a.e, asks := s.asks, bans := ins fB s.bans ⟨y2.who, meOf s b⟩ } := by simp [madeP, hk, hm, hb, h1, hwho, h40, del_no hA]
    have ff := And.intro hk (And.intro h40 (And.intro b62 (And.intro b14n e6)))
    refine runRp15_6 (x := ?_)
    clear ff
    refine SpecQ.step (c114 (x := ⟨y2.who, meOf s b⟩) (d3.x.w.app _) ((hs.s' _).i' _) (by simp only; omega)) ?_
    rintro _ ⟨_, κ9, H9, q9, rfl, w9, fr9⟩
    have ff := hk
    refine runRp15_1 (x := ?_)
    clear ff
    exact hK _ (.ok hmd (f0.trans (f3.trans fr9.app)) w9)
  have b52 := d12.c5.blk
  have b72 := d12.c7.blk
  have ff := And.intro hk (And.intro hI (And.intro b52 (And.intro b72 (And.intro e5 e7))))
  refine runRp15_1 (x := ?_)
  clear ff
  refine SpecQ.step (c69 (d12.x.w.app _) ((hs.s' _).i' _)) ?_
  rintro _ ⟨y3, κ3, H3', q3, rfl, hy3, w3, fr3⟩
  have d13 := d12.next fr3.app w3
  have c143 := c142.next fr3.app
  have k143 : κ3 G.length = 6 := by rw [fr3.app.old _ c142.lt]; exact k142
  have f4 : Fr κ G κ3 H3' := f2.trans fr3.app
  cases hA : hasP fA s.asks a.e
  · have hwho : whoOf s a.e = none := by simp [whoOf, hasP_fnd hS, hasP_fnd hI, hasP_fnd hA]
    have hmd : madeP s b a = .error 7 := by simp [madeP, hk, hm, hb, h1, hwho]
    have ff := And.intro hk hA
    refine runRp15_1 (x := ?_)
    clear ff
    exact hK _ (.err hmd (f0.trans (f4.trans (Fr.refl _ _).app)))
  obtain ⟨_, _, hf⟩ := low_yes hs.a hA
  have hyf := hy3 _ hf
  rw [← hyf] at hf
  have hwho : whoOf s a.e = some y3.who := by simp [whoOf, hasP_fnd hS, hasP_fnd hI, hf]
  have ff := And.intro hk hA
  refine runRp15_1 (x := ?_)
  clear ff
  obtain ⟨H2, hH2⟩ : ∃ H2, H3'.set G.length ⟨eBan ⟨y3.who, meOf s b⟩, 0, .own⟩ = H2 := ⟨_, rfl⟩
  have st14 : ∀ l v, (H3' ++ l).set G.length v = H3'.set G.length v ++ l := fun l v => set_appL c143.1 l v
  have b14 := c143.blk
  have ff := And.intro hk (And.intro b14 (And.intro st14 hH2))
  refine runRp15_1 (x := ?_)
  clear ff
  have d3 := d13.wr k143 (by omega) (by omega) (by omega) (by omega) (by omega) ⟨eBan ⟨y3.who, meOf s b⟩, 0, .own⟩
  have c14n := c143.set (eBan ⟨y3.who, meOf s b⟩)
  have f3 := f4.wr (p := G.length) (Nat.le_refl _) ⟨eBan ⟨y3.who, meOf s b⟩, 0, .own⟩
  rw [hH2] at d3 c14n f3
  have b62 := d3.c6.blk
  have b14n := c14n.blk
  by_cases h40 : 40 ≤ s.bans.length
  · have hmd : madeP s b a = .error 9 := by simp [madeP, hk, hm, hb, h1, hwho, h40]
    have ff := And.intro hk (And.intro h40 (And.intro b62 (And.intro b14n e6)))
    refine runRp15_6 (x := ?_)
    clear ff
    exact hK _ (.err hmd (f0.trans (f3.trans (Fr.refl _ _).app)))
  have hmd : madeP s b a = .ok { s with seats := del fS s.seats a.e, invites := del fI s.invites a.e, asks := del fA s.asks a.e, bans := ins fB s.bans ⟨y3.who, meOf s b⟩ } := by simp [madeP, hk, hm, hb, h1, hwho, h40]
  have ff := And.intro hk (And.intro h40 (And.intro b62 (And.intro b14n e6)))
  refine runRp15_6 (x := ?_)
  clear ff
  refine SpecQ.step (c114 (x := ⟨y3.who, meOf s b⟩) (d3.x.w.app _) (((hs.s' _).i' _).a' _) (by simp only; omega)) ?_
  rintro _ ⟨_, κ9, H9, q9, rfl, w9, fr9⟩
  have ff := hk
  refine runRp15_1 (x := ?_)
  clear ff
  exact hK _ (.ok hmd (f0.trans (f3.trans fr9.app)) w9)
end
end Go.Vab

/-
  A step is done: all kinds, joined.
-/
namespace Go.Vab
open Go Go.Proofs
theorem runRp16_0 {G X : Prop} (f : Hd X → G := by
  intro xX
  repeat' (first | refine stp (x := ?_) | (with_reducible refine bothP_i ?_ ?_) | (simp (decide := true) only [sn33, snB, if_true, if_false]) | (with_reducible refine n33_12_w _ _ _ ?_) | (with_reducible refine n33_51_w _ _ _ ?_) | (with_reducible refine n33_67_w _ _ _ ?_) | (with_reducible refine n33_77_w _ _ _ ?_) | (with_reducible refine n33_92_w _ _ _ ?_) | (with_reducible refine n33_101_w _ _ _ ?_) | (with_reducible refine n33_2_w _ _ _ ?_) | (with_reducible refine n33_1_w _ _ _ ?_))
  exact xX.get) (x : X) : G := f ⟨x⟩
section
variable {κ : Nat → Nat} {H : Heap} {c xb : Nat} {s : Stt} {b : Pt} {a : Actn} {m : BitVec 8} {vt vp vs vi va vb wt wp : AV}
theorem c80 (x : Sx κ H c xb s b a m vt vp vs vi va vb wt wp) (hs : Srt s) (ms : mayS s = true) (ok : Okd s b a) (hmm : m = roleOf s b)
    (hk : a.kind = 4#8 ∨ a.kind = 6#8 ∨ a.kind = 7#8 ∨ a.kind = 8#8 ∨ a.kind = 11#8 ∨ a.kind = 12#8 ∨ a.kind = 13#8 ∨ a.kind = 14#8 ∨ a.kind = 15#8 ∨ a.kind = 16#8 ∨ a.kind = 17#8 ∨ a.kind = 18#8) :
    SpecQ Tryz.prog 80 [.ptr xb 0 [] tLstep] H (DoR κ H c (madeP s b a)) := by
  refine q80 fun env g0 => ?_
  refine more_start x g0 fun κ' env' G p3 p4 p5 p6 p7 d f0 h6 hp7 h57 => ?_
  rcases hk with hk | hk | hk | hk | hk | hk | hk | hk | hk | hk | hk | hk
  · exact more_4 d f0 hs ms ok hmm hk fun r h => h
  · exact more_6 d f0 hs ms ok hmm hk fun r h => h
  · exact more_7 d f0 hs ms ok hk fun r h => h
  · exact more_8 d f0 hs ms ok hk fun r h => h
  · exact more_11 d f0 hs ms ok h6 hp7 h57 hk fun r h => h
  · exact more_12 d f0 hs ms ok hk fun r h => h
  · exact more_13 d f0 hs ms ok hk fun r h => h
  · exact more_14 d f0 hs ms ok hk fun r h => h
  · exact more_15 d f0 hs ms ok hk fun r h => h
  · exact more_16 d f0 hs ms ok hk fun r h => h
  · exact more_17 d f0 hs ms ok hk fun r h => h
  · exact more_18 d f0 hs ms ok hk fun r h => h
theorem DoR.nat {κ : Nat → Nat} {H : Heap} {c : Nat} {x : Except Nat Stt} {r : AV × Heap} (h : DoR κ H c x r) : ∃ k, r.1 = nat k ∧ (x = .error k ∨ ∃ t, x = .ok t ∧ k = 0) := by
  obtain ⟨κ', H', _, h⟩ := h
  cases x with
  | error k => exact ⟨k, by rw [h], .inl rfl⟩
  | ok t => exact ⟨0, by rw [h.1], .inr ⟨t, rfl, rfl⟩⟩
set_option maxHeartbeats 1000000 in
theorem c33 (x : Sx κ H c xb s b a m vt vp vs vi va vb wt wp) (hs : Srt s) (ms : mayS s = true) (ha : mayA a = true) (ok : Okd s b a) (hmm : m = roleOf s b) : SpecQ Tryz.prog 33 [.ptr xb 0 [] tLstep] H (DoR κ H c (madeP s b a)) := by
  refine q33 fun env g0 => ?_
  refine do_start x g0 fun env' u p3 p4 p5 p6 p7 d => ?_
  rcases mayA_kind ha with hk | hk | hk | hk | hk | hk | hk | hk | hk | hk | hk | hk | hk | hk | hk | hk | hk | hk
  · exact do_1 d hs ms ok hk fun r h => h.app
  · exact do_2 d hs ok hk fun r h => h.app
  · exact do_3 d hs ms ok hk fun r h => h.app
  · have sx0 := blk_of d.x.st
    have e0 := d.e0
    have ff := And.intro sx0 (And.intro hk e0)
    refine runRp16_0 (x := ?_)
    clear ff
    refine SpecQ.step (c80 d.x hs ms ok hmm (by simp [hk])) ?_
    rintro ⟨v, H'⟩ hr
    obtain ⟨k, hv, _⟩ := hr.nat
    subst hv
    have ff := hk
    refine runRp16_0 (x := ?_)
    clear ff
    exact hr.app
  · exact do_5 d hs ms ok hk fun r h => h.app
  · have sx0 := blk_of d.x.st
    have e0 := d.e0
    have ff := And.intro sx0 (And.intro hk e0)
    refine runRp16_0 (x := ?_)
    clear ff
    refine SpecQ.step (c80 d.x hs ms ok hmm (by simp [hk])) ?_
    rintro ⟨v, H'⟩ hr
    obtain ⟨k, hv, _⟩ := hr.nat
    subst hv
    have ff := hk
    refine runRp16_0 (x := ?_)
    clear ff
    exact hr.app
  · have sx0 := blk_of d.x.st
    have e0 := d.e0
    have ff := And.intro sx0 (And.intro hk e0)
    refine runRp16_0 (x := ?_)
    clear ff
    refine SpecQ.step (c80 d.x hs ms ok hmm (by simp [hk])) ?_
    rintro ⟨v, H'⟩ hr
    obtain ⟨k, hv, _⟩ := hr.nat
    subst hv
    have ff := hk
    refine runRp16_0 (x := ?_)
    clear ff
    exact hr.app
  · have sx0 := blk_of d.x.st
    have e0 := d.e0
    have ff := And.intro sx0 (And.intro hk e0)
    refine runRp16_0 (x := ?_)
    clear ff
    refine SpecQ.step (c80 d.x hs ms ok hmm (by simp [hk])) ?_
    rintro ⟨v, H'⟩ hr
    obtain ⟨k, hv, _⟩ := hr.nat
    subst hv
    have ff := hk
    refine runRp16_0 (x := ?_)
    clear ff
    exact hr.app
  · exact do_9 d hs ms ok hk fun r h => h.app
  · exact do_10 d hs ms ok hk fun r h => h.app
  · have sx0 := blk_of d.x.st
    have e0 := d.e0
    have ff := And.intro sx0 (And.intro hk e0)
    refine runRp16_0 (x := ?_)
    clear ff
    refine SpecQ.step (c80 d.x hs ms ok hmm (by simp [hk])) ?_
    rintro ⟨v, H'⟩ hr
    obtain ⟨k, hv, _⟩ := hr.nat
    subst hv
    have ff := hk
    refine runRp16_0 (x := ?_)
    clear ff
    exact hr.app
  · have sx0 := blk_of d.x.st
    have e0 := d.e0
    have ff := And.intro sx0 (And.intro hk e0)
    refine runRp16_0 (x := ?_)
    clear ff
    refine SpecQ.step (c80 d.x hs ms ok hmm (by simp [hk])) ?_
    rintro ⟨v, H'⟩ hr
    obtain ⟨k, hv, _⟩ := hr.nat
    subst hv
    have ff := hk
    refine runRp16_0 (x := ?_)
    clear ff
    exact hr.app
  · have sx0 := blk_of d.x.st
    have e0 := d.e0
    have ff := And.intro sx0 (And.intro hk e0)
    refine runRp16_0 (x := ?_)
    clear ff
    refine SpecQ.step (c80 d.x hs ms ok hmm (by simp [hk])) ?_
    rintro ⟨v, H'⟩ hr
    obtain ⟨k, hv, _⟩ := hr.nat
    subst hv
    have ff := hk
    refine runRp16_0 (x := ?_)
    clear ff
    exact hr.app
  · have sx0 := blk_of d.x.st
    have e0 := d.e0
    have ff := And.intro sx0 (And.intro hk e0)
    refine runRp16_0 (x := ?_)
    clear ff
    refine SpecQ.step (c80 d.x hs ms ok hmm (by simp [hk])) ?_
    rintro ⟨v, H'⟩ hr
    obtain ⟨k, hv, _⟩ := hr.nat
    subst hv
    have ff := hk
    refine runRp16_0 (x := ?_)
    clear ff
    exact hr.app
  · have sx0 := blk_of d.x.st
    have e0 := d.e0
    have ff := And.intro sx0 (And.intro hk e0)
    refine runRp16_0 (x := ?_)
    clear ff
    refine SpecQ.step (c80 d.x hs ms ok hmm (by simp [hk])) ?_
    rintro ⟨v, H'⟩ hr
    obtain ⟨k, hv, _⟩ := hr.nat
    subst hv
    have ff := hk
    refine runRp16_0 (x := ?_)
    clear ff
    exact hr.app
  · have sx0 := blk_of d.x.st
    have e0 := d.e0
    have ff := And.intro sx0 (And.intro hk e0)
    refine runRp16_0 (x := ?_)
    clear ff
    refine SpecQ.step (c80 d.x hs ms ok hmm (by simp [hk])) ?_
    rintro ⟨v, H'⟩ hr
    obtain ⟨k, hv, _⟩ := hr.nat
    subst hv
    have ff := hk
    refine runRp16_0 (x := ?_)
    clear ff
    exact hr.app
  · have sx0 := blk_of d.x.st
    have e0 := d.e0
    have ff := And.intro sx0 (And.intro hk e0)
    refine runRp16_0 (x := ?_)
    clear ff
    refine SpecQ.step (c80 d.x hs ms ok hmm (by simp [hk])) ?_
    rintro ⟨v, H'⟩ hr
    obtain ⟨k, hv, _⟩ := hr.nat
    subst hv
    have ff := hk
    refine runRp16_0 (x := ?_)
    clear ff
    exact hr.app
  · have sx0 := blk_of d.x.st
    have e0 := d.e0
    have ff := And.intro sx0 (And.intro hk e0)
    refine runRp16_0 (x := ?_)
    clear ff
    refine SpecQ.step (c80 d.x hs ms ok hmm (by simp [hk])) ?_
    rintro ⟨v, H'⟩ hr
    obtain ⟨k, hv, _⟩ := hr.nat
    subst hv
    have ff := hk
    refine runRp16_0 (x := ?_)
    clear ff
    exact hr.app
end
end Go.Vab

/- How the code of a function is read. Printed by wip/tools/gen2.py and gen3.py (own work). -/
namespace Go.Vab
open Go Go.Proofs
def cx17 : Ctx := ⟨fun _ _ _ => none,TT,22,[7,12,13,14,15,16,17,19,20,21]⟩
noncomputable def n17_0 := bodyOf Tryz.f17
noncomputable def n17_1 := cR n17_0
noncomputable def n17_2 := cL n17_1
noncomputable def n17_3 := cR n17_2
noncomputable def n17_4 := cB n17_3
noncomputable def n17_5 := cB n17_4
noncomputable def n17_6 := cR n17_5
noncomputable def n17_7 := cL n17_6
noncomputable def n17_8 := cL n17_7
noncomputable def n17_9 := cR n17_7
noncomputable def n17_10 := cR n17_6
noncomputable def n17_11 := cL n17_10
noncomputable def n17_12 := cB n17_11
noncomputable def n17_13 := cR n17_12
noncomputable def n17_14 := cR n17_13
noncomputable def n17_15 := cL n17_14
noncomputable def n17_16 := cR n17_15
noncomputable def n17_17 := cR n17_14
noncomputable def n17_18 := cR n17_10
noncomputable def n17_19 := cR n17_1
noncomputable def n17_20 := cR n17_19
def q17 := zQ2 cx17 17 Tryz.f17 n17_0 fun s => (bnd (some (s.env.get 4)) fun v => bnd (some []) fun vs => some (v :: vs))
set_option maxRecDepth 20000
set_option maxHeartbeats 4000000
def sn17 := zAll cx17 [[n17_8],[n17_9],[n17_8,n17_9,n17_7],[n17_16],[n17_16,n17_15],[n17_17],[n17_15,n17_17,n17_14],[n17_14,n17_13],[n17_13,n17_12],[n17_12,n17_11],[n17_18],[n17_11,n17_18,n17_10],[n17_7,n17_10,n17_6],[n17_6,n17_5],[n17_5,n17_4],[n17_4,n17_3],[n17_3,n17_2],[n17_20],[n17_20,n17_19],[n17_2,n17_19,n17_1],[n17_1,n17_0]]
-- words: cndW wL
-- draws: 
end Go.Vab

/-
  The program's look at a state: somebody's role, walked.
-/
namespace Go.Vab
open Go Go.Proofs
theorem runRp1_0 {G X : Prop} (f : Hd X → G := by
  intro xX
  repeat' (first | refine stp (x := ?_) | (simp (decide := true) only [sn17, snB, if_true, if_false]))
  exact xX.get) (x : X) : G := f ⟨x⟩
section
variable {X : Type} (f : X → Pt)
theorem fnd_yes {l : List X} {e : Pt} {i : Nat} (hi : i < l.length) (hq : f l[i] = e) (hne : ∀ j (hj : j < l.length), j < i → f l[j] ≠ e) : fnd f l e = some l[i] := by
  unfold fnd
  rw [List.find?_eq_some_iff_getElem]
  exact ⟨by simp [hq], i, hi, rfl, fun j hj => by simp [hne j (by omega) hj]⟩
theorem fnd_no {l : List X} {e : Pt} (hne : ∀ j (hj : j < l.length), f l[j] ≠ e) : fnd f l e = none := by
  unfold fnd
  rw [List.find?_eq_none]
  intro x hx
  obtain ⟨j, hj, rfl⟩ := List.mem_iff_getElem.1 hx
  simp [hne j hj]
end
theorem c17 {h : Heap} {s : Stt} {vt vp vs vi va vb : AV} {e : Pt} (ra : StR h s vt vp vs vi va vb) : SpecQ Tryz.prog 17 [eSt s vt vp vs vi va vb, pt e] h fun r => r = (u8 (roleOf s e), h) := by
  have ta := ra.cells
  have lx := ra.fs.len
  have bx := ra.fs.bound
  rw [List.length_map] at lx bx
  refine SpecQ.drop1 rfl (q17 fun env g0 g1 => ?_)
  have ff := And.intro g0 (And.intro g1 (And.intro ta lx))
  refine runRp1_0 (x := ?_)
  clear ff
  refine loop_up s.seats.length (fun i st => ∃ env' t, st = ⟨env', h ++ ⟨eSt s vt vp vs vi va vb, 0, .own⟩ :: ⟨pt e, 0, .own⟩ :: t⟩ ∧ env'.get 2 = .ptr h.length 0 [] tState ∧ env'.get 3 = .ptr (h.length + 1) 0 [] (.arr 32 (.int .u8)) ∧ env'.get 8 = vs ∧ env'.get 9 = nat s.seats.length ∧ env'.get 10 = nat i ∧ ∀ j (hj : j < s.seats.length), j < i → fS s.seats[j] ≠ e) ?_ ?_ ⟨_, [], rfl, by simp, by simp, by simp, by simp, by simp, fun j _ hj => absurd hj (by omega)⟩
  · rintro i st hi ⟨env', t, rfl, e2, e3, e8, e9, e10, hne⟩
    obtain ⟨pb, pv, pp, bb, p1, p2, p3, p4⟩ := ra.fs.idxE hi
    by_cases hq : s.seats[i].who.e = e
    · have ff := And.intro e2 (And.intro e3 (And.intro e8 (And.intro e9 (And.intro e10 (And.intro ta (And.intro lx (And.intro hi (And.intro p1 (And.intro p2 (And.intro p3 (And.intro p4 hq)))))))))))
      refine runRp1_0 (x := ?_)
      clear ff
      refine .inr ⟨by simp, ?_⟩
      have ff := e10
      refine runRp1_0 (x := ?_)
      clear ff
      exact ⟨_, (by simp only [roleOf, fnd_yes fS hi hq hne]; rfl)⟩
    · have ff := And.intro e2 (And.intro e3 (And.intro e8 (And.intro e9 (And.intro e10 (And.intro ta (And.intro lx (And.intro hi (And.intro p1 (And.intro p2 (And.intro p3 (And.intro p4 hq)))))))))))
      refine runRp1_0 (x := ?_)
      clear ff
      refine .inl ⟨by simp, _, _, rfl, by simp [e2], by simp [e3], by simp [e8], by simp [e9], by simp, fun j hj hji => ?_⟩
      by_cases hji' : j = i
      · subst hji'; exact hq
      · exact hne j hj (by omega)
  · rintro st ⟨env', t, rfl, e2, e3, e8, e9, e10, hne⟩
    have ff := And.intro e2 (And.intro e8 (And.intro e9 (And.intro e10 (And.intro lx ta))))
    refine runRp1_0 (x := ?_)
    clear ff
    refine ⟨by simp, ?_⟩
    have ff := e2
    refine runRp1_0 (x := ?_)
    clear ff
    exact ⟨_, (by simp only [roleOf, fnd_no fS fun j hj => hne j hj hj]; rfl)⟩
end Go.Vab

/- How the code of a function is read. Printed by wip/tools/gen2.py and gen3.py (own work). -/
namespace Go.Vab
open Go Go.Proofs
def cx59 : Ctx := ⟨fun _ _ _ => none,TT,8,[3,5,6,7]⟩
noncomputable def n59_0 := bodyOf Tryz.f59
noncomputable def n59_1 := cR n59_0
noncomputable def n59_2 := cL n59_1
noncomputable def n59_3 := cR n59_2
noncomputable def n59_4 := cL n59_3
noncomputable def n59_5 := cR n59_4
noncomputable def n59_6 := cR n59_3
noncomputable def n59_7 := cR n59_1
noncomputable def n59_8 := cR n59_7
def q59 := zQ1 cx59 59 Tryz.f59 n59_0 fun s => (bnd (some (s.env.get 2)) fun v => bnd (some []) fun vs => some (v :: vs))
set_option maxRecDepth 20000
set_option maxHeartbeats 4000000
def sn59 := zAll cx59 [[n59_5],[n59_5,n59_4],[n59_6],[n59_4,n59_6,n59_3],[n59_3,n59_2],[n59_8],[n59_8,n59_7],[n59_2,n59_7,n59_1],[n59_1,n59_0]]
-- words: appA cndW wL
-- draws: 
end Go.Vab

/- How the code of a function is read. Printed by wip/tools/gen2.py and gen3.py (own work). -/
namespace Go.Vab
open Go Go.Proofs
def cx60 : Ctx := ⟨fun _ _ _ => none,TT,8,[3,5,6,7]⟩
noncomputable def n60_0 := bodyOf Tryz.f60
noncomputable def n60_1 := cR n60_0
noncomputable def n60_2 := cL n60_1
noncomputable def n60_3 := cR n60_2
noncomputable def n60_4 := cL n60_3
noncomputable def n60_5 := cR n60_4
noncomputable def n60_6 := cR n60_3
noncomputable def n60_7 := cR n60_1
noncomputable def n60_8 := cR n60_7
def q60 := zQ1 cx60 60 Tryz.f60 n60_0 fun s => (bnd (some (s.env.get 2)) fun v => bnd (some []) fun vs => some (v :: vs))
set_option maxRecDepth 20000
set_option maxHeartbeats 4000000
def sn60 := zAll cx60 [[n60_5],[n60_5,n60_4],[n60_6],[n60_4,n60_6,n60_3],[n60_3,n60_2],[n60_8],[n60_8,n60_7],[n60_2,n60_7,n60_1],[n60_1,n60_0]]
-- words: appA cndW wL
-- draws: 
end Go.Vab

/- How the code of a function is read. Printed by wip/tools/gen2.py and gen3.py (own work). -/
namespace Go.Vab
open Go Go.Proofs
def cx61 : Ctx := ⟨fun _ _ _ => none,TT,8,[3,5,6,7]⟩
noncomputable def n61_0 := bodyOf Tryz.f61
noncomputable def n61_1 := cR n61_0
noncomputable def n61_2 := cL n61_1
noncomputable def n61_3 := cR n61_2
noncomputable def n61_4 := cL n61_3
noncomputable def n61_5 := cR n61_4
noncomputable def n61_6 := cR n61_3
noncomputable def n61_7 := cR n61_1
noncomputable def n61_8 := cR n61_7
def q61 := zQ1 cx61 61 Tryz.f61 n61_0 fun s => (bnd (some (s.env.get 2)) fun v => bnd (some []) fun vs => some (v :: vs))
set_option maxRecDepth 20000
set_option maxHeartbeats 4000000
def sn61 := zAll cx61 [[n61_5],[n61_5,n61_4],[n61_6],[n61_4,n61_6,n61_3],[n61_3,n61_2],[n61_8],[n61_8,n61_7],[n61_2,n61_7,n61_1],[n61_1,n61_0]]
-- words: appA cndW wL
-- draws: 
end Go.Vab

/- How the code of a function is read. Printed by wip/tools/gen2.py and gen3.py (own work). -/
namespace Go.Vab
open Go Go.Proofs
def cx62 : Ctx := ⟨fun _ _ _ => none,TT,8,[3,5,6,7]⟩
noncomputable def n62_0 := bodyOf Tryz.f62
noncomputable def n62_1 := cR n62_0
noncomputable def n62_2 := cL n62_1
noncomputable def n62_3 := cR n62_2
noncomputable def n62_4 := cL n62_3
noncomputable def n62_5 := cR n62_4
noncomputable def n62_6 := cR n62_3
noncomputable def n62_7 := cR n62_1
noncomputable def n62_8 := cR n62_7
def q62 := zQ1 cx62 62 Tryz.f62 n62_0 fun s => (bnd (some (s.env.get 2)) fun v => bnd (some []) fun vs => some (v :: vs))
set_option maxRecDepth 20000
set_option maxHeartbeats 4000000
def sn62 := zAll cx62 [[n62_5],[n62_5,n62_4],[n62_6],[n62_4,n62_6,n62_3],[n62_3,n62_2],[n62_8],[n62_8,n62_7],[n62_2,n62_7,n62_1],[n62_1,n62_0]]
-- words: appA cndW wL
-- draws: 
end Go.Vab

/- How the code of a function is read. Printed by wip/tools/gen2.py and gen3.py (own work). -/
namespace Go.Vab
open Go Go.Proofs
def cx31 : Ctx := ⟨fun _ _ _ => none,TT,8,[3,5,6,7]⟩
noncomputable def n31_0 := bodyOf Tryz.f31
noncomputable def n31_1 := cR n31_0
noncomputable def n31_2 := cL n31_1
noncomputable def n31_3 := cR n31_2
noncomputable def n31_4 := cL n31_3
noncomputable def n31_5 := cR n31_4
noncomputable def n31_6 := cR n31_3
noncomputable def n31_7 := cR n31_1
noncomputable def n31_8 := cR n31_7
def q31 := zQ1 cx31 31 Tryz.f31 n31_0 fun s => (bnd (some (s.env.get 2)) fun v => bnd (some []) fun vs => some (v :: vs))
set_option maxRecDepth 20000
set_option maxHeartbeats 4000000
def sn31 := zAll cx31 [[n31_5],[n31_5,n31_4],[n31_6],[n31_4,n31_6,n31_3],[n31_3,n31_2],[n31_8],[n31_8,n31_7],[n31_2,n31_7,n31_1],[n31_1,n31_0]]
-- words: appA cndW wL
-- draws: 
end Go.Vab

/- How the code of a function is read. Printed by wip/tools/gen2.py and gen3.py (own work). -/
namespace Go.Vab
open Go Go.Proofs
def cx30 : Ctx := ⟨fun _ _ _ => none,TT,28,[3,4,5,6,7,8,9,10,11,12,13,14,15,16,17,18,19,20,21,22,23,24,25,26,27]⟩
noncomputable def n30_0 := bodyOf Tryz.f30
noncomputable def n30_1 := cR n30_0
noncomputable def n30_2 := cR n30_1
noncomputable def n30_3 := cR n30_2
noncomputable def n30_4 := cR n30_3
def q30 := zQ1 cx30 30 Tryz.f30 n30_0 fun s => (bnd (mLoad tState (s.env.get 2) s.heap) fun v => bnd (some []) fun vs => some (v :: vs))
set_option maxRecDepth 20000
set_option maxHeartbeats 4000000
def n30_2_w := zDr cx30 [n30_3,n30_2] [2,5,8,11,13,15,17,19] [0,1,3,0,8,31,0,64,255,0,512,2047,1759,8191,16383,32767,65535,131071,262143,524287] [0,1,3,4,6,7,9,10] (.o 2 [12] [4,7,10] (.o 5 [] [7,10] (.o 8 [] [10] (.o 11 [] [] (.o 13 [14] [] (.o 15 [16] [] (.o 17 [18] [] (.o 19 [] [] .f))))))))
def n30_1_w := zDr cx30 [n30_2,n30_1] [2,5,7,9] [0,1,3,0,8,31,31,127,255,511] [0,1,3,4] (.o 2 [6] [4] (.o 5 [] [] (.o 7 [8] [] (.o 9 [] [] .f))))
def sn30 := zAll cx30 [[n30_4],[n30_4,n30_3],[n30_1,n30_0]]
-- words: SpecA stabP
-- draws: n30_2 n30_1
end Go.Vab

/-
  Clones; a state in memory of its own; walked.
-/
namespace Go.Vab
open Go Go.Proofs
theorem runRp17_0 {G X : Prop} (f : Hd X → G := by
  intro xX
  repeat' (first | refine stp (x := ?_) | (simp (decide := true) only [sn59, snB, if_true, if_false]))
  exact xX.get) (x : X) : G := f ⟨x⟩
theorem runRp17_1 {G X : Prop} (f : Hd X → G := by
  intro xX
  repeat' (first | refine stp (x := ?_) | (simp (decide := true) only [sn60, snB, if_true, if_false]))
  exact xX.get) (x : X) : G := f ⟨x⟩
theorem runRp17_2 {G X : Prop} (f : Hd X → G := by
  intro xX
  repeat' (first | refine stp (x := ?_) | (simp (decide := true) only [sn61, snB, if_true, if_false]))
  exact xX.get) (x : X) : G := f ⟨x⟩
theorem runRp17_3 {G X : Prop} (f : Hd X → G := by
  intro xX
  repeat' (first | refine stp (x := ?_) | (simp (decide := true) only [sn62, snB, if_true, if_false]))
  exact xX.get) (x : X) : G := f ⟨x⟩
theorem runRp17_4 {G X : Prop} (f : Hd X → G := by
  intro xX
  repeat' (first | refine stp (x := ?_) | (simp (decide := true) only [sn31, snB, if_true, if_false]))
  exact xX.get) (x : X) : G := f ⟨x⟩
theorem runRp17_5 {G X : Prop} (f : Hd X → G := by
  intro xX
  repeat' (first | refine stp (x := ?_) | (simp (decide := true) only [sn30, snB, if_true, if_false]) | (with_reducible refine n30_2_w _ _ _ ?_) | (with_reducible refine n30_1_w _ _ _ ?_))
  exact xX.get) (x : X) : G := f ⟨x⟩
theorem slice_or {t : Ty} {h : Heap} {x : AV} {vs : List AV} (hx : Row t h x vs) : x = .nilslice ∨ (mBinS .eql x .nilslice = some (.bool false)) := by
  have h2 := hx.2.1
  cases x with
  | nilslice => exact .inl rfl
  | slice i ver path t' off len cap => exact .inr rfl
  | _ => exact h2.elim
theorem bslice_or {h : Heap} {x : AV} {l : Bs} (hx : BytL h x l) : (x = .nilslice ∧ l = []) ∨ (mBinS .eql x .nilslice = some (.bool false)) := by
  have h2 := hx.1.2
  cases x with
  | nilslice => exact .inl ⟨rfl, List.eq_nil_of_length_eq_zero h2⟩
  | slice i ver path t' off len cap => exact .inr rfl
  | _ => unfold slOk at h2; simp at h2
theorem c59 {κ : Nat → Nat} {k : Nat} {H : Heap} {x : AV} {l : List Seat} (hx : Row tSeat H x (l.map eSeat)) (hl : l.length ≤ 1000) (top : ∀ i, H.length ≤ i → κ i = 0) : SpecQ Tryz.prog 59 [x] H fun r => ∃ x' H' κ', r = (x', H') ∧ KRow κ' k tSeat eSeat H' x' l ∧ Chg κ k H κ' H' := by
  refine q59 fun env g0 => ?_
  rcases slice_or hx with rfl | hn
  · have hl0 : l = [] := by have := hx.2.1; simp only [rowOk, List.length_map] at this; exact List.eq_nil_of_length_eq_zero this
    subst hl0
    have ff := g0
    refine runRp17_0 (x := ?_)
    clear ff
    refine ⟨_, H, κ, rfl, ⟨by simp, .inl ⟨rfl, hx, rfl, fun b hb => by cases hb⟩⟩, Nat.le_refl _, fun _ _ => rfl, fun _ _ _ => rfl, fun h => h⟩
  · have ff := And.intro g0 hn
    refine runRp17_0 (x := ?_)
    clear ff
    refine clone_k (k := k) (E := eSeat) (t := tSeat) (z := (⟨ci0, 0#8, 0#32⟩ : Seat)) (fun _ => rfl) top (hx.app _).1 hl ?_ fun x' H' κ' w1 w2 => ?_
    · decide
    have ff := g0
    refine runRp17_0 (x := ?_)
    clear ff
    exact ⟨x', H', κ', rfl, w1, w2⟩
theorem c60 {κ : Nat → Nat} {k : Nat} {H : Heap} {x : AV} {l : List Inv} (hx : Row tInvite H x (l.map eInv)) (hl : l.length ≤ 1000) (top : ∀ i, H.length ≤ i → κ i = 0) : SpecQ Tryz.prog 60 [x] H fun r => ∃ x' H' κ', r = (x', H') ∧ KRow κ' k tInvite eInv H' x' l ∧ Chg κ k H κ' H' := by
  refine q60 fun env g0 => ?_
  rcases slice_or hx with rfl | hn
  · have hl0 : l = [] := by have := hx.2.1; simp only [rowOk, List.length_map] at this; exact List.eq_nil_of_length_eq_zero this
    subst hl0
    have ff := g0
    refine runRp17_1 (x := ?_)
    clear ff
    refine ⟨_, H, κ, rfl, ⟨by simp, .inl ⟨rfl, hx, rfl, fun b hb => by cases hb⟩⟩, Nat.le_refl _, fun _ _ => rfl, fun _ _ _ => rfl, fun h => h⟩
  · have ff := And.intro g0 hn
    refine runRp17_1 (x := ?_)
    clear ff
    refine clone_k (k := k) (E := eInv) (t := tInvite) (z := (⟨ci0, 0#8, ci0⟩ : Inv)) (fun _ => rfl) top (hx.app _).1 hl ?_ fun x' H' κ' w1 w2 => ?_
    · decide
    have ff := g0
    refine runRp17_1 (x := ?_)
    clear ff
    exact ⟨x', H', κ', rfl, w1, w2⟩
theorem c61 {κ : Nat → Nat} {k : Nat} {H : Heap} {x : AV} {l : List Ask} (hx : Row tAsk H x (l.map eAsk)) (hl : l.length ≤ 1000) (top : ∀ i, H.length ≤ i → κ i = 0) : SpecQ Tryz.prog 61 [x] H fun r => ∃ x' H' κ', r = (x', H') ∧ KRow κ' k tAsk eAsk H' x' l ∧ Chg κ k H κ' H' := by
  refine q61 fun env g0 => ?_
  rcases slice_or hx with rfl | hn
  · have hl0 : l = [] := by have := hx.2.1; simp only [rowOk, List.length_map] at this; exact List.eq_nil_of_length_eq_zero this
    subst hl0
    have ff := g0
    refine runRp17_2 (x := ?_)
    clear ff
    refine ⟨_, H, κ, rfl, ⟨by simp, .inl ⟨rfl, hx, rfl, fun b hb => by cases hb⟩⟩, Nat.le_refl _, fun _ _ => rfl, fun _ _ _ => rfl, fun h => h⟩
  · have ff := And.intro g0 hn
    refine runRp17_2 (x := ?_)
    clear ff
    refine clone_k (k := k) (E := eAsk) (t := tAsk) (z := (⟨ci0, 0#32⟩ : Ask)) (fun _ => rfl) top (hx.app _).1 hl ?_ fun x' H' κ' w1 w2 => ?_
    · decide
    have ff := g0
    refine runRp17_2 (x := ?_)
    clear ff
    exact ⟨x', H', κ', rfl, w1, w2⟩
theorem c62 {κ : Nat → Nat} {k : Nat} {H : Heap} {x : AV} {l : List Ban} (hx : Row tBan H x (l.map eBan)) (hl : l.length ≤ 1000) (top : ∀ i, H.length ≤ i → κ i = 0) : SpecQ Tryz.prog 62 [x] H fun r => ∃ x' H' κ', r = (x', H') ∧ KRow κ' k tBan eBan H' x' l ∧ Chg κ k H κ' H' := by
  refine q62 fun env g0 => ?_
  rcases slice_or hx with rfl | hn
  · have hl0 : l = [] := by have := hx.2.1; simp only [rowOk, List.length_map] at this; exact List.eq_nil_of_length_eq_zero this
    subst hl0
    have ff := g0
    refine runRp17_3 (x := ?_)
    clear ff
    refine ⟨_, H, κ, rfl, ⟨by simp, .inl ⟨rfl, hx, rfl, fun b hb => by cases hb⟩⟩, Nat.le_refl _, fun _ _ => rfl, fun _ _ _ => rfl, fun h => h⟩
  · have ff := And.intro g0 hn
    refine runRp17_3 (x := ?_)
    clear ff
    refine clone_k (k := k) (E := eBan) (t := tBan) (z := (⟨ci0, ci0⟩ : Ban)) (fun _ => rfl) top (hx.app _).1 hl ?_ fun x' H' κ' w1 w2 => ?_
    · decide
    have ff := g0
    refine runRp17_3 (x := ?_)
    clear ff
    exact ⟨x', H', κ', rfl, w1, w2⟩
theorem c31 {H : Heap} {x : AV} {l : Bs} (hx : BytL H x l) : SpecQ Tryz.prog 31 [x] H fun r => ∃ y t, r = (y, H ++ t) ∧ BytL (H ++ t) y l ∧ ∀ b, rb y = some b → H.length ≤ b := by
  refine q31 fun env g0 => ?_
  rcases bslice_or hx with ⟨rfl, rfl⟩ | hn
  · have ff := g0
    refine runRp17_4 (x := ?_)
    clear ff
    exact ⟨_, [], by simp [oneOrTuple], BytL.nil _, fun b hb => by cases hb⟩
  · have ff := And.intro g0 hn
    refine runRp17_4 (x := ?_)
    clear ff
    refine copyB0 (by simp [mElems_slc]) (hx.app _) (Nat.le_refl _) fun y e f => ?_
    have ff := g0
    refine runRp17_4 (x := ?_)
    clear ff
    exact ⟨y, _, rfl, f.at_ rfl, f.rb_ge⟩
set_option maxHeartbeats 4000000 in
theorem c30 {κ : Nat → Nat} {H : Heap} {s : Stt} {vt vp vs vi va vb : AV} (ra : StR H s vt vp vs vi va vb) (top : ∀ i, H.length ≤ i → κ i = 0) (hz : ∀ i, i < H.length → κ i = 0 ∨ 6 ≤ κ i) (l1 : s.seats.length ≤ 1000) (l2 : s.invites.length ≤ 1000) (l3 : s.asks.length ≤ 1000) (l4 : s.bans.length ≤ 1000) :
    SpecQ Tryz.prog 30 [eSt s vt vp vs vi va vb] H fun r => ∃ κ' H' ut up us ui ua ub, r = (eSt s ut up us ui ua ub, H') ∧ Wp κ' H' s ut up us ui ua ub ∧ Fr κ H κ' H' := by
  have ta := ra.cells
  have lt := ra.rb_lt
  refine q30 fun env g0 => ?_
  have ff := And.intro g0 ta
  refine runRp17_5 (x := ?_)
  clear ff
  refine SpecQ.step (c31 (ra.ft.app _)) ?_
  rintro _ ⟨ut, t1, rfl, f1, r1⟩
  have y1 := f1.cell
  simp only [List.append_assoc, List.cons_append, List.nil_append] at f1 ⊢
  have ff := And.intro g0 (And.intro ta y1)
  refine runRp17_5 (x := ?_)
  clear ff
  refine SpecQ.step (c31 (ra.fp.app _)) ?_
  rintro _ ⟨up, t2, rfl, f2, r2⟩
  have y2 := f2.cell
  simp only [List.append_assoc, List.cons_append, List.nil_append] at f2 ⊢
  have ff := And.intro g0 (And.intro ta (And.intro y1 y2))
  refine runRp17_5 (x := ?_)
  clear ff
  obtain ⟨G, hG⟩ : ∃ G, G = H ++ ⟨eStH s.version s.key s.acc ut up vs vi va vb, 0, .own⟩ :: ⟨eStH 0#32 ci0 acc0 .nilslice .nilslice .nilslice .nilslice .nilslice .nilslice, 0, .own⟩ :: (t1 ++ t2) := ⟨_, rfl⟩
  rw [← hG]
  have gl : G.length = H.length + (2 + (t1 ++ t2).length) := by rw [hG]; simp; omega
  obtain ⟨κ1, hκ⟩ : ∃ κ1 : Nat → Nat, κ1 = fun i => if i = H.length ∨ i = H.length + 1 then 6 else if H.length ≤ i ∧ i < G.length then 7 else κ i := ⟨_, rfl⟩
  have kold : ∀ i, i < H.length → κ1 i = κ i := fun i hi => by rw [hκ]; simp only; rw [if_neg (by omega), if_neg (by omega)]
  have k0 : κ1 H.length = 6 := by rw [hκ]; simp
  have k1 : κ1 (H.length + 1) = 6 := by rw [hκ]; simp
  have kb : ∀ i, H.length + 2 ≤ i → i < G.length → κ1 i = 7 := fun i h1 h2 => by rw [hκ]; simp only; rw [if_neg (by omega), if_pos (by omega)]
  have top1 : ∀ i, G.length ≤ i → κ1 i = 0 := fun i hi => by rw [hκ]; simp only; rw [if_neg (by omega), if_neg (by omega)]; exact top i (by omega)
  have fr0 : Fr κ H κ1 G := ⟨by omega, kold, fun i hi _ => by rw [hG, List.getElem?_append_left hi]⟩
  have cell0 : G[H.length]? = some ⟨eStH s.version s.key s.acc ut up vs vi va vb, 0, .own⟩ := by rw [hG]; simp
  have cell1 : G[H.length + 1]? = some ⟨eStH 0#32 ci0 acc0 .nilslice .nilslice .nilslice .nilslice .nilslice .nilslice, 0, .own⟩ := by rw [hG, List.getElem?_append_right (by omega)]; simp
  have ft : BytL G ut s.title := by
    refine (f1.app t2).other fun b hb => ?_
    have hb2 := r1 b hb
    simp only [List.length_append, List.length_cons, List.length_nil] at hb2
    have e : ∀ c0 c1 : Blk, H ++ c0 :: c1 :: t1 ++ t2 = H ++ ([] ++ c0 :: (c1 :: (t1 ++ t2))) := fun c0 c1 => by simp
    rw [hG, e]
    exact cell_ne (A := []) (by simp; omega)
  have fp : BytL G up s.pass := by
    refine f2.other fun b hb => ?_
    have hb2 := r2 b hb
    simp only [List.length_append, List.length_cons] at hb2
    rw [hG]
    exact cell_ne (A := []) (by simp; omega)
  have kt : ∀ b, rb ut = some b → κ1 b = 7 := fun b hb => kb b (by have := r1 b hb; simp only [List.length_append, List.length_cons, List.length_nil] at this; omega) (ft.rb_lt' b hb)
  have kp : ∀ b, rb up = some b → κ1 b = 7 := fun b hb => kb b (by have := r2 b hb; simp only [List.length_append, List.length_cons] at this; omega) (fp.rb_lt' b hb)
  have rG : StR G s vt vp vs vi va vb := ra.other fun y hy b hb => by rw [hG, List.getElem?_append_left (lt y hy b hb)]
  have nk : ∀ y ∈ [vt, vp, vs, vi, va, vb], ∀ b, rb y = some b → κ1 b = 0 ∨ 6 ≤ κ1 b := fun y hy b hb => by rw [kold b (lt y hy b hb)]; exact hz b (lt y hy b hb)
  refine SpecQ.step (c59 (k := 2) rG.fs l1 top1) ?_
  rintro _ ⟨us, H1, κ2, rfl, ks, ch1⟩
  have g1 : Fr κ1 G κ2 H1 := ch1.fr (by decide)
  have b1 := blk_of (g1.blk cell0 (.inr (by rw [k0]; decide)))
  have ff := b1
  refine runRp17_5 (x := ?_)
  clear ff
  refine SpecQ.step (c60 (k := 3) (rG.fi.fr g1 (nk vi (by simp))) l2 (ch1.top top1)) ?_
  rintro _ ⟨ui, H2, κ3, rfl, ki, ch2⟩
  have g2 : Fr κ1 G κ3 H2 := g1.trans (ch2.fr (by decide))
  have b2 := blk_of (g2.blk cell0 (.inr (by rw [k0]; decide)))
  have ff := b2
  refine runRp17_5 (x := ?_)
  clear ff
  refine SpecQ.step (c61 (k := 4) (rG.fa.fr g2 (nk va (by simp))) l3 (ch2.top (ch1.top top1))) ?_
  rintro _ ⟨ua, H3, κ4, rfl, ka, ch3⟩
  have g3 : Fr κ1 G κ4 H3 := g2.trans (ch3.fr (by decide))
  have b3 := blk_of (g3.blk cell0 (.inr (by rw [k0]; decide)))
  have ff := b3
  refine runRp17_5 (x := ?_)
  clear ff
  refine SpecQ.step (c62 (k := 5) (rG.fb.fr g3 (nk vb (by simp))) l4 (ch3.top (ch2.top (ch1.top top1)))) ?_
  rintro _ ⟨ub, H4, κ5, rfl, kbn, ch4⟩
  have g4 : Fr κ1 G κ5 H4 := g3.trans (ch4.fr (by decide))
  have q4 := g4.blk cell0 (.inr (by rw [k0]; decide))
  have q5 := g4.blk cell1 (.inr (by rw [k1]; decide))
  have b4 := blk_of q4
  have bs : ∀ v, blkAt (H4.set H.length ⟨v, 0, .own⟩) H.length 0 = some ⟨v, 0, .own⟩ := fun v => blk_of (List.getElem?_set_self (List.getElem?_eq_some_iff.1 q4).1)
  have bs1 : ∀ v, blkAt (H4.set H.length v) (H.length + 1) 0 = some ⟨eStH 0#32 ci0 acc0 .nilslice .nilslice .nilslice .nilslice .nilslice .nilslice, 0, .own⟩ := fun v => blk_of (by rw [List.getElem?_set_ne (by omega)]; exact q5)
  have l5 : H.length + 1 < (H4.set H.length (⟨eSt s ut up us ui ua ub, 0, .own⟩ : Blk)).length := by rw [List.length_set]; exact (List.getElem?_eq_some_iff.1 q5).1
  have bs2 : ∀ v : AV, blkAt ((H4.set H.length ⟨eSt s ut up us ui ua ub, 0, .own⟩).set (H.length + 1) ⟨v, 0, .own⟩) (H.length + 1) 0 = some ⟨v, 0, .own⟩ := fun v => blk_of (List.getElem?_set_self l5)
  have x1 := ks.cell
  have x2 := ki.cell
  have x3 := ka.cell
  have x4 := kbn.cell
  have ff := And.intro b4 (And.intro bs (And.intro bs1 (And.intro bs2 (And.intro ta (And.intro y1 (And.intro y2 (And.intro x1 (And.intro x2 (And.intro x3 x4)))))))))
  refine runRp17_5 (x := ?_)
  clear ff
  have kk : κ5 H.length = 6 := (g4.old _ (by omega)).trans k0
  have kk1 : κ5 (H.length + 1) = 6 := (g4.old _ (by omega)).trans k1
  have wp : Wp κ5 H4 s ut up us ui ua ub := ⟨ch4.top (ch3.top (ch2.top (ch1.top top1))), ft.fr g4 (fun b hb => .inr (by rw [kt b hb]; decide)), fp.fr g4 (fun b hb => .inr (by rw [kp b hb]; decide)), fun b hb => (g4.old b (ft.rb_lt' b hb)).trans (kt b hb), fun b hb => (g4.old b (fp.rb_lt' b hb)).trans (kp b hb),
    ((ks.chg ch2 (by decide) (by decide)).chg ch3 (by decide) (by decide)).chg ch4 (by decide) (by decide), (ki.chg ch3 (by decide) (by decide)).chg ch4 (by decide) (by decide), ka.chg ch4 (by decide) (by decide), kbn⟩
  exact ⟨κ5, _, ut, up, us, ui, ua, ub, rfl, (wp.wr (.inl kk) _).wr (.inl kk1) _, ((fr0.trans g4).wr (Nat.le_refl _) _).wr (by omega) _⟩
end Go.Vab

/- How the code of a function is read. Printed by wip/tools/gen2.py and gen3.py (own work). -/
namespace Go.Vab
open Go Go.Proofs
def cx32 : Ctx := ⟨fun _ _ _ => none,TT,78,[4,5,6,7,10,11,12,13,14,15,16,17,18,19,20,21,22,23,24,26,27,28,29,30,31,32,33,35,36,37,38,39,40,41,42,43,45,46,48,49,50,52,53,54,55,56,57,58,59,60,61,62,63,65,66,67,68,69,70,71,72,73,74,75,76]⟩
noncomputable def n32_0 := bodyOf Tryz.f32
noncomputable def n32_1 := cR n32_0
noncomputable def n32_2 := cR n32_1
noncomputable def n32_3 := cL n32_2
noncomputable def n32_4 := cR n32_3
noncomputable def n32_5 := cB n32_4
noncomputable def n32_6 := cL n32_5
noncomputable def n32_7 := cR n32_6
noncomputable def n32_8 := cL n32_7
noncomputable def n32_9 := cR n32_7
noncomputable def n32_10 := cR n32_9
noncomputable def n32_11 := cL n32_10
noncomputable def n32_12 := cR n32_10
noncomputable def n32_13 := cR n32_5
noncomputable def n32_14 := cL n32_13
noncomputable def n32_15 := cL n32_14
noncomputable def n32_16 := cR n32_15
noncomputable def n32_17 := cL n32_16
noncomputable def n32_18 := cR n32_17
noncomputable def n32_19 := cR n32_16
noncomputable def n32_20 := cR n32_14
noncomputable def n32_21 := cR n32_13
noncomputable def n32_22 := cR n32_21
noncomputable def n32_23 := cL n32_22
noncomputable def n32_24 := cR n32_22
noncomputable def n32_25 := cL n32_24
noncomputable def n32_26 := cR n32_25
noncomputable def n32_27 := cL n32_26
noncomputable def n32_28 := cR n32_26
noncomputable def n32_29 := cR n32_24
noncomputable def n32_30 := cL n32_29
noncomputable def n32_31 := cR n32_29
noncomputable def n32_32 := cL n32_31
noncomputable def n32_33 := cR n32_32
noncomputable def n32_34 := cL n32_33
noncomputable def n32_35 := cR n32_33
noncomputable def n32_36 := cR n32_35
noncomputable def n32_37 := cL n32_36
noncomputable def n32_38 := cR n32_36
noncomputable def n32_39 := cR n32_31
noncomputable def n32_40 := cL n32_39
noncomputable def n32_41 := cR n32_40
noncomputable def n32_42 := cR n32_39
noncomputable def n32_43 := cL n32_42
noncomputable def n32_44 := cR n32_43
noncomputable def n32_45 := cL n32_44
noncomputable def n32_46 := cR n32_44
noncomputable def n32_47 := cR n32_42
noncomputable def n32_48 := cL n32_47
noncomputable def n32_49 := cL n32_48
noncomputable def n32_50 := cR n32_49
noncomputable def n32_51 := cL n32_50
noncomputable def n32_52 := cR n32_51
noncomputable def n32_53 := cR n32_50
noncomputable def n32_54 := cR n32_48
noncomputable def n32_55 := cR n32_54
noncomputable def n32_56 := cR n32_47
noncomputable def n32_57 := cR n32_2
noncomputable def n32_58 := cL n32_57
noncomputable def n32_59 := cR n32_58
noncomputable def n32_60 := cL n32_59
noncomputable def n32_61 := cR n32_60
noncomputable def n32_62 := cR n32_59
noncomputable def n32_63 := cR n32_57
noncomputable def n32_64 := cR n32_63
def q32 := zQ1 cx32 32 Tryz.f32 n32_0 fun s => (bnd (some (s.env.get 2)) fun v => bnd (some []) fun vs => some (v :: vs))
set_option maxRecDepth 20000
set_option maxHeartbeats 4000000
def n32_49_w := zDr cx32 [n32_50,n32_49] [] [0,1,3,7,15,31,0,64,192,448,1023] [0,1,2,3,4,5,6,7,8,9,10] .f
def sn32 := zAll cx32 [[n32_8],[n32_11],[n32_12],[n32_11,n32_12,n32_10],[n32_10,n32_9],[n32_8,n32_9,n32_7],[n32_7,n32_6],[n32_18],[n32_18,n32_17],[n32_19],[n32_17,n32_19,n32_16],[n32_16,n32_15],[n32_20],[n32_15,n32_20,n32_14],[n32_23],[n32_27],[n32_28],[n32_27,n32_28,n32_26],[n32_26,n32_25],[n32_30],[n32_34],[n32_37],[n32_38],[n32_37,n32_38,n32_36],[n32_36,n32_35],[n32_34,n32_35,n32_33],[n32_33,n32_32],[n32_41],[n32_41,n32_40],[n32_45],[n32_46],[n32_45,n32_46,n32_44],[n32_44,n32_43],[n32_52],[n32_52,n32_51],[n32_53],[n32_51,n32_53,n32_50],[n32_55],[n32_55,n32_54],[n32_49,n32_54,n32_48],[n32_56],[n32_48,n32_56,n32_47],[n32_43,n32_47,n32_42],[n32_40,n32_42,n32_39],[n32_32,n32_39,n32_31],[n32_30,n32_31,n32_29],[n32_25,n32_29,n32_24],[n32_23,n32_24,n32_22],[n32_22,n32_21],[n32_14,n32_21,n32_13],[n32_6,n32_13,n32_5],[n32_5,n32_4],[n32_4,n32_3],[n32_61],[n32_61,n32_60],[n32_62],[n32_60,n32_62,n32_59],[n32_59,n32_58],[n32_64],[n32_64,n32_63],[n32_58,n32_63,n32_57],[n32_3,n32_57,n32_2],[n32_2,n32_1],[n32_1,n32_0]]
-- words: cndW gv wL
-- draws: n32_49
end Go.Vab

/-
  A step: whether who asks has the right; walked.
-/
namespace Go.Vab
open Go Go.Proofs
theorem runRp10_0 {G X : Prop} (f : Hd X → G := by
  intro xX
  repeat' (first | refine stp (x := ?_) | (simp (decide := true) only [sn32, snB, if_true, if_false]) | (with_reducible refine n32_49_w _ _ _ ?_))
  exact xX.get) (x : X) : G := f ⟨x⟩
theorem lt1 {m : BitVec 8} (h : ¬ m = 0#8) : ¬ m < 1#8 := by
  rw [BitVec.lt_def]
  intro q
  exact h (BitVec.eq_of_toNat_eq (by simpa using q))
set_option maxHeartbeats 4000000 in
theorem c32 {κ : Nat → Nat} {H : Heap} {c xb : Nat} {s : Stt} {b : Pt} {a : Actn} {m : BitVec 8} {vt vp vs vi va vb wt wp : AV} (x : Sx κ H c xb s b a m vt vp vs vi va vb wt wp) : SpecQ Tryz.prog 32 [.ptr xb 0 [] tLstep] H fun r => r = (nat (mayWhy m s b a), H) := by
  refine q32 fun env g0 => ?_
  have sx0 := blk_of x.st
  have wb0 := blk_of x.w.cell
  by_cases k7 : a.kind = 7#8
  · have ff := And.intro g0 (And.intro sx0 (And.intro wb0 k7))
    refine runRp10_0 (x := ?_)
    clear ff
    first | (simp only [mayWhy, k7]; rfl) | simp [mayWhy, oneOrTuple, k7]
  by_cases k8 : a.kind = 8#8
  · have ff := And.intro g0 (And.intro sx0 (And.intro wb0 k8))
    refine runRp10_0 (x := ?_)
    clear ff
    first | (simp only [mayWhy, k8]; rfl) | simp [mayWhy, oneOrTuple, k8]
  by_cases k11 : a.kind = 11#8
  · have ff := And.intro g0 (And.intro sx0 (And.intro wb0 k11))
    refine runRp10_0 (x := ?_)
    clear ff
    first | (simp only [mayWhy, k11]; rfl) | simp [mayWhy, oneOrTuple, k11]
  by_cases k9 : a.kind = 9#8
  · by_cases hw : a.who.e = b
    · have ff := And.intro g0 (And.intro sx0 (And.intro wb0 (And.intro k9 hw)))
      refine runRp10_0 (x := ?_)
      clear ff
      first | (simp only [mayWhy, k9, hw]; rfl) | simp [mayWhy, oneOrTuple, k9, hw]
    · have ff := And.intro g0 (And.intro sx0 (And.intro wb0 (And.intro k9 hw)))
      refine runRp10_0 (x := ?_)
      clear ff
      first | (simp only [mayWhy, k9, hw]; rfl) | simp [mayWhy, oneOrTuple, k9, hw]
  by_cases k10 : a.kind = 10#8
  · by_cases hw : a.who.e = b
    · have ff := And.intro g0 (And.intro sx0 (And.intro wb0 (And.intro k10 hw)))
      refine runRp10_0 (x := ?_)
      clear ff
      first | (simp only [mayWhy, k10, hw]; rfl) | simp [mayWhy, oneOrTuple, k10, hw]
    · have ff := And.intro g0 (And.intro sx0 (And.intro wb0 (And.intro k10 hw)))
      refine runRp10_0 (x := ?_)
      clear ff
      first | (simp only [mayWhy, k10, hw]; rfl) | simp [mayWhy, oneOrTuple, k10, hw]
  by_cases k1 : a.kind = 1#8
  · by_cases m0 : m = 0#8
    · subst m0
      by_cases r2 : a.role = 2#8
      · have ff := And.intro g0 (And.intro sx0 (And.intro wb0 (And.intro k1 r2)))
        refine runRp10_0 (x := ?_)
        clear ff
        first | (simp only [mayWhy, k1, r2]; rfl) | simp [mayWhy, oneOrTuple, k1, r2]
      · have ff := And.intro g0 (And.intro sx0 (And.intro wb0 (And.intro k1 r2)))
        refine runRp10_0 (x := ?_)
        clear ff
        first | (simp only [mayWhy, k1, r2]; rfl) | simp [mayWhy, oneOrTuple, k1, r2]
    · by_cases r2 : a.role = 2#8
      · by_cases m2 : m = 2#8
        · subst m2
          by_cases ml : 2#8 < s.acc.members
          · have ff := And.intro g0 (And.intro sx0 (And.intro wb0 (And.intro k1 (And.intro r2 ml))))
            refine runRp10_0 (x := ?_)
            clear ff
            first | (simp only [mayWhy, k1, r2, ml]; rfl) | simp [mayWhy, oneOrTuple, k1, r2, ml]
          · have ff := And.intro g0 (And.intro sx0 (And.intro wb0 (And.intro k1 (And.intro r2 ml))))
            refine runRp10_0 (x := ?_)
            clear ff
            first | (simp only [mayWhy, k1, r2, ml]; rfl) | simp [mayWhy, oneOrTuple, k1, r2, ml]
        · have ff := And.intro g0 (And.intro sx0 (And.intro wb0 (And.intro k1 (And.intro r2 (And.intro m0 m2)))))
          refine runRp10_0 (x := ?_)
          clear ff
          first | (simp only [mayWhy, k1, r2, m0, m2]; rfl) | simp [mayWhy, oneOrTuple, k1, r2, m0, m2]
      · by_cases ml : m < s.acc.members
        · have ff := And.intro g0 (And.intro sx0 (And.intro wb0 (And.intro k1 (And.intro r2 (And.intro m0 ml)))))
          refine runRp10_0 (x := ?_)
          clear ff
          first | (simp only [mayWhy, k1, r2, m0, ml]; rfl) | simp [mayWhy, oneOrTuple, k1, r2, m0, ml]
        · have ff := And.intro g0 (And.intro sx0 (And.intro wb0 (And.intro k1 (And.intro r2 (And.intro m0 ml)))))
          refine runRp10_0 (x := ?_)
          clear ff
          first | (simp only [mayWhy, k1, r2, m0, ml]; rfl) | simp [mayWhy, oneOrTuple, k1, r2, m0, ml]
  by_cases k5 : a.kind = 5#8
  · by_cases m0 : m = 0#8
    · subst m0
      by_cases r2 : a.role = 2#8
      · have ff := And.intro g0 (And.intro sx0 (And.intro wb0 (And.intro k5 r2)))
        refine runRp10_0 (x := ?_)
        clear ff
        first | (simp only [mayWhy, k5, r2]; rfl) | simp [mayWhy, oneOrTuple, k5, r2]
      · have ff := And.intro g0 (And.intro sx0 (And.intro wb0 (And.intro k5 r2)))
        refine runRp10_0 (x := ?_)
        clear ff
        first | (simp only [mayWhy, k5, r2]; rfl) | simp [mayWhy, oneOrTuple, k5, r2]
    · by_cases r2 : a.role = 2#8
      · by_cases m2 : m = 2#8
        · subst m2
          by_cases ml : 2#8 < s.acc.members
          · have ff := And.intro g0 (And.intro sx0 (And.intro wb0 (And.intro k5 (And.intro r2 ml))))
            refine runRp10_0 (x := ?_)
            clear ff
            first | (simp only [mayWhy, k5, r2, ml]; rfl) | simp [mayWhy, oneOrTuple, k5, r2, ml]
          · have ff := And.intro g0 (And.intro sx0 (And.intro wb0 (And.intro k5 (And.intro r2 ml))))
            refine runRp10_0 (x := ?_)
            clear ff
            first | (simp only [mayWhy, k5, r2, ml]; rfl) | simp [mayWhy, oneOrTuple, k5, r2, ml]
        · have ff := And.intro g0 (And.intro sx0 (And.intro wb0 (And.intro k5 (And.intro r2 (And.intro m0 m2)))))
          refine runRp10_0 (x := ?_)
          clear ff
          first | (simp only [mayWhy, k5, r2, m0, m2]; rfl) | simp [mayWhy, oneOrTuple, k5, r2, m0, m2]
      · by_cases ml : m < s.acc.members
        · have ff := And.intro g0 (And.intro sx0 (And.intro wb0 (And.intro k5 (And.intro r2 (And.intro m0 ml)))))
          refine runRp10_0 (x := ?_)
          clear ff
          first | (simp only [mayWhy, k5, r2, m0, ml]; rfl) | simp [mayWhy, oneOrTuple, k5, r2, m0, ml]
        · have ff := And.intro g0 (And.intro sx0 (And.intro wb0 (And.intro k5 (And.intro r2 (And.intro m0 ml)))))
          refine runRp10_0 (x := ?_)
          clear ff
          first | (simp only [mayWhy, k5, r2, m0, ml]; rfl) | simp [mayWhy, oneOrTuple, k5, r2, m0, ml]
  by_cases k12 : a.kind = 12#8
  · by_cases m0 : m = 0#8
    · subst m0
      by_cases r2 : a.role = 2#8
      · have ff := And.intro g0 (And.intro sx0 (And.intro wb0 (And.intro k12 r2)))
        refine runRp10_0 (x := ?_)
        clear ff
        first | (simp only [mayWhy, k12, r2]; rfl) | simp [mayWhy, oneOrTuple, k12, r2]
      · have ff := And.intro g0 (And.intro sx0 (And.intro wb0 (And.intro k12 r2)))
        refine runRp10_0 (x := ?_)
        clear ff
        first | (simp only [mayWhy, k12, r2]; rfl) | simp [mayWhy, oneOrTuple, k12, r2]
    · by_cases r2 : a.role = 2#8
      · by_cases m2 : m = 2#8
        · subst m2
          by_cases ml : 2#8 < s.acc.members
          · have ff := And.intro g0 (And.intro sx0 (And.intro wb0 (And.intro k12 (And.intro r2 ml))))
            refine runRp10_0 (x := ?_)
            clear ff
            first | (simp only [mayWhy, k12, r2, ml]; rfl) | simp [mayWhy, oneOrTuple, k12, r2, ml]
          · have ff := And.intro g0 (And.intro sx0 (And.intro wb0 (And.intro k12 (And.intro r2 ml))))
            refine runRp10_0 (x := ?_)
            clear ff
            first | (simp only [mayWhy, k12, r2, ml]; rfl) | simp [mayWhy, oneOrTuple, k12, r2, ml]
        · have ff := And.intro g0 (And.intro sx0 (And.intro wb0 (And.intro k12 (And.intro r2 (And.intro m0 m2)))))
          refine runRp10_0 (x := ?_)
          clear ff
          first | (simp only [mayWhy, k12, r2, m0, m2]; rfl) | simp [mayWhy, oneOrTuple, k12, r2, m0, m2]
      · by_cases ml : m < s.acc.members
        · have ff := And.intro g0 (And.intro sx0 (And.intro wb0 (And.intro k12 (And.intro r2 (And.intro m0 ml)))))
          refine runRp10_0 (x := ?_)
          clear ff
          first | (simp only [mayWhy, k12, r2, m0, ml]; rfl) | simp [mayWhy, oneOrTuple, k12, r2, m0, ml]
        · have ff := And.intro g0 (And.intro sx0 (And.intro wb0 (And.intro k12 (And.intro r2 (And.intro m0 ml)))))
          refine runRp10_0 (x := ?_)
          clear ff
          first | (simp only [mayWhy, k12, r2, m0, ml]; rfl) | simp [mayWhy, oneOrTuple, k12, r2, m0, ml]
  by_cases m0 : m = 0#8
  · subst m0
    by_cases k4 : a.kind = 4#8
    · have ff := And.intro g0 (And.intro sx0 (And.intro wb0 k4))
      refine runRp10_0 (x := ?_)
      clear ff
      first | (simp only [mayWhy, k4]; rfl) | simp [mayWhy, oneOrTuple, k4]
    by_cases k6 : a.kind = 6#8
    · have ff := And.intro g0 (And.intro sx0 (And.intro wb0 k6))
      refine runRp10_0 (x := ?_)
      clear ff
      first | (simp only [mayWhy, k6]; rfl) | simp [mayWhy, oneOrTuple, k6]
    by_cases k16 : a.kind = 16#8
    · have ff := And.intro g0 (And.intro sx0 (And.intro wb0 k16))
      refine runRp10_0 (x := ?_)
      clear ff
      first | (simp only [mayWhy, k16]; rfl) | simp [mayWhy, oneOrTuple, k16]
    have ff := And.intro g0 (And.intro sx0 (And.intro wb0 (And.intro k1 (And.intro k4 (And.intro k5 (And.intro k6 (And.intro k7 (And.intro k8 (And.intro k9 (And.intro k10 (And.intro k11 (And.intro k12 k16))))))))))))
    refine runRp10_0 (x := ?_)
    clear ff
    first | (simp only [mayWhy, k1, k4, k5, k6, k7, k8, k9, k10, k11, k12, k16, false_and, or_self, if_false, if_true]; rfl) | simp [mayWhy, oneOrTuple, k1, k4, k5, k6, k7, k8, k9, k10, k11, k12, k16, false_and, or_self, if_false, if_true]
  have m1 := lt1 m0
  by_cases k4 : a.kind = 4#8
  · have ff := And.intro g0 (And.intro sx0 (And.intro wb0 (And.intro k4 (And.intro m0 m1))))
    refine runRp10_0 (x := ?_)
    clear ff
    simp [mayWhy, oneOrTuple, k4, m0, m1]
  by_cases k6 : a.kind = 6#8
  · have ff := And.intro g0 (And.intro sx0 (And.intro wb0 (And.intro k6 (And.intro m0 m1))))
    refine runRp10_0 (x := ?_)
    clear ff
    simp [mayWhy, oneOrTuple, k6, m0, m1]
  by_cases k16 : a.kind = 16#8
  · by_cases ml : m < s.acc.title
    · have ff := And.intro g0 (And.intro sx0 (And.intro wb0 (And.intro k16 (And.intro m0 ml))))
      refine runRp10_0 (x := ?_)
      clear ff
      first | (simp only [mayWhy, k16, m0, ml]; rfl) | simp [mayWhy, oneOrTuple, k16, m0, ml]
    · have ff := And.intro g0 (And.intro sx0 (And.intro wb0 (And.intro k16 (And.intro m0 ml))))
      refine runRp10_0 (x := ?_)
      clear ff
      first | (simp only [mayWhy, k16, m0, ml]; rfl) | simp [mayWhy, oneOrTuple, k16, m0, ml]
  by_cases ml : m < 2#8
  · have ff := And.intro g0 (And.intro sx0 (And.intro wb0 (And.intro k1 (And.intro k4 (And.intro k5 (And.intro k6 (And.intro k7 (And.intro k8 (And.intro k9 (And.intro k10 (And.intro k11 (And.intro k12 (And.intro k16 (And.intro m0 ml))))))))))))))
    refine runRp10_0 (x := ?_)
    clear ff
    first | (simp only [mayWhy, k1, k4, k5, k6, k7, k8, k9, k10, k11, k12, k16, m0, ml, false_and, or_self, if_false, if_true]; rfl) | simp [mayWhy, oneOrTuple, k1, k4, k5, k6, k7, k8, k9, k10, k11, k12, k16, m0, ml, false_and, or_self, if_false, if_true]
  · have ff := And.intro g0 (And.intro sx0 (And.intro wb0 (And.intro k1 (And.intro k4 (And.intro k5 (And.intro k6 (And.intro k7 (And.intro k8 (And.intro k9 (And.intro k10 (And.intro k11 (And.intro k12 (And.intro k16 (And.intro m0 ml))))))))))))))
    refine runRp10_0 (x := ?_)
    clear ff
    first | (simp only [mayWhy, k1, k4, k5, k6, k7, k8, k9, k10, k11, k12, k16, m0, ml, false_and, or_self, if_false, if_true]; rfl) | simp [mayWhy, oneOrTuple, k1, k4, k5, k6, k7, k8, k9, k10, k11, k12, k16, m0, ml, false_and, or_self, if_false, if_true]
end Go.Vab

/- How the code of a function is read. Printed by wip/tools/gen2.py and gen3.py (own work). -/
namespace Go.Vab
open Go Go.Proofs
def cx55 : Ctx := ⟨fun _ _ _ => none,TT,9,[3,4,5,6,7,8]⟩
noncomputable def n55_0 := bodyOf Tryz.f55
noncomputable def n55_1 := cR n55_0
noncomputable def n55_2 := cR n55_1
def q55 := zQ1 cx55 55 Tryz.f55 n55_0 fun s => (bnd (some (s.env.get 2)) fun v => bnd (some []) fun vs => some (v :: vs))
set_option maxRecDepth 20000
set_option maxHeartbeats 4000000
def sn55 := zAll cx55 [[n55_2],[n55_2,n55_1],[n55_1,n55_0]]
-- words: gv
-- draws: 
end Go.Vab

/- How the code of a function is read. Printed by wip/tools/gen2.py and gen3.py (own work). -/
namespace Go.Vab
open Go Go.Proofs
def cx44 : Ctx := ⟨fun _ _ _ => none,TT,16,[3,4,5,6,7,8,9,10,11,12,13,14,15]⟩
noncomputable def n44_0 := bodyOf Tryz.f44
noncomputable def n44_1 := cR n44_0
noncomputable def n44_2 := cR n44_1
def q44 := zQ1 cx44 44 Tryz.f44 n44_0 fun s => (bnd (some (s.env.get 2)) fun v => bnd (some []) fun vs => some (v :: vs))
set_option maxRecDepth 20000
set_option maxHeartbeats 4000000
def sn44 := zAll cx44 [[n44_2],[n44_2,n44_1],[n44_1,n44_0]]
-- words: SpecA gW gv
-- draws: 
end Go.Vab

/- How the code of a function is read. Printed by wip/tools/gen2.py and gen3.py (own work). -/
namespace Go.Vab
open Go Go.Proofs
def cx58 : Ctx := ⟨fun _ _ _ => none,TT,34,[5,6,8,9,11,13,14,16,17,18,19,20,22,24,25,26,27,28,29,30,31,32,33]⟩
noncomputable def n58_0 := bodyOf Tryz.f58
noncomputable def n58_1 := cR n58_0
noncomputable def n58_2 := cL n58_1
noncomputable def n58_3 := cR n58_2
noncomputable def n58_4 := cB n58_3
noncomputable def n58_5 := cL n58_4
noncomputable def n58_6 := cB n58_5
noncomputable def n58_7 := cL n58_6
noncomputable def n58_8 := cB n58_7
noncomputable def n58_9 := cL n58_8
noncomputable def n58_10 := cB n58_9
noncomputable def n58_11 := cL n58_10
noncomputable def n58_12 := cB n58_11
noncomputable def n58_13 := cL n58_12
noncomputable def n58_14 := cB n58_13
noncomputable def n58_15 := cL n58_14
noncomputable def n58_16 := cB n58_15
noncomputable def n58_17 := cL n58_16
noncomputable def n58_18 := cB n58_17
noncomputable def n58_19 := cL n58_18
noncomputable def n58_20 := cL n58_19
noncomputable def n58_21 := cL n58_20
noncomputable def n58_22 := cR n58_21
noncomputable def n58_23 := cL n58_22
noncomputable def n58_24 := cR n58_22
noncomputable def n58_25 := cR n58_20
noncomputable def n58_26 := cL n58_25
noncomputable def n58_27 := cR n58_25
noncomputable def n58_28 := cR n58_19
noncomputable def n58_29 := cL n58_28
noncomputable def n58_30 := cL n58_29
noncomputable def n58_31 := cR n58_30
noncomputable def n58_32 := cL n58_31
noncomputable def n58_33 := cR n58_31
noncomputable def n58_34 := cR n58_29
noncomputable def n58_35 := cL n58_34
noncomputable def n58_36 := cR n58_34
noncomputable def n58_37 := cR n58_28
noncomputable def n58_38 := cL n58_37
noncomputable def n58_39 := cR n58_38
noncomputable def n58_40 := cL n58_39
noncomputable def n58_41 := cR n58_39
noncomputable def n58_42 := cR n58_37
noncomputable def n58_43 := cL n58_42
noncomputable def n58_44 := cL n58_43
noncomputable def n58_45 := cR n58_44
noncomputable def n58_46 := cL n58_45
noncomputable def n58_47 := cR n58_45
noncomputable def n58_48 := cR n58_43
noncomputable def n58_49 := cL n58_48
noncomputable def n58_50 := cR n58_48
noncomputable def n58_51 := cR n58_42
noncomputable def n58_52 := cL n58_51
noncomputable def n58_53 := cL n58_52
noncomputable def n58_54 := cR n58_53
noncomputable def n58_55 := cL n58_54
noncomputable def n58_56 := cR n58_54
noncomputable def n58_57 := cR n58_56
noncomputable def n58_58 := cL n58_57
noncomputable def n58_59 := cR n58_57
noncomputable def n58_60 := cR n58_59
noncomputable def n58_61 := cL n58_60
noncomputable def n58_62 := cR n58_60
noncomputable def n58_63 := cR n58_62
noncomputable def n58_64 := cL n58_63
noncomputable def n58_65 := cR n58_63
noncomputable def n58_66 := cR n58_52
noncomputable def n58_67 := cL n58_66
noncomputable def n58_68 := cR n58_66
noncomputable def n58_69 := cR n58_51
noncomputable def n58_70 := cL n58_69
noncomputable def n58_71 := cR n58_70
noncomputable def n58_72 := cL n58_71
noncomputable def n58_73 := cR n58_71
noncomputable def n58_74 := cR n58_69
noncomputable def n58_75 := cR n58_74
noncomputable def n58_76 := cL n58_75
noncomputable def n58_77 := cR n58_75
noncomputable def n58_78 := cR n58_18
noncomputable def n58_79 := cR n58_16
noncomputable def n58_80 := cR n58_79
noncomputable def n58_81 := cR n58_14
noncomputable def n58_82 := cR n58_12
noncomputable def n58_83 := cR n58_82
noncomputable def n58_84 := cR n58_10
noncomputable def n58_85 := cR n58_8
noncomputable def n58_86 := cR n58_85
noncomputable def n58_87 := cR n58_6
noncomputable def n58_88 := cR n58_87
noncomputable def n58_89 := cR n58_4
noncomputable def n58_90 := cR n58_89
noncomputable def n58_91 := cR n58_1
noncomputable def n58_92 := cR n58_91
def q58 := zQ1 cx58 58 Tryz.f58 n58_0 fun s => (bnd (mLoad tLhas (s.env.get 2) s.heap) fun v => bnd (some []) fun vs => some (v :: vs))
set_option maxRecDepth 20000
set_option maxHeartbeats 4000000
def sn58 := zAll cx58 [[n58_23],[n58_24],[n58_23,n58_24,n58_22],[n58_22,n58_21],[n58_26],[n58_27],[n58_26,n58_27,n58_25],[n58_21,n58_25,n58_20],[n58_32],[n58_33],[n58_32,n58_33,n58_31],[n58_31,n58_30],[n58_35],[n58_36],[n58_35,n58_36,n58_34],[n58_30,n58_34,n58_29],[n58_40],[n58_41],[n58_40,n58_41,n58_39],[n58_39,n58_38],[n58_46],[n58_47],[n58_46,n58_47,n58_45],[n58_45,n58_44],[n58_49],[n58_50],[n58_49,n58_50,n58_48],[n58_44,n58_48,n58_43],[n58_55],[n58_58],[n58_61],[n58_64],[n58_65],[n58_64,n58_65,n58_63],[n58_63,n58_62],[n58_61,n58_62,n58_60],[n58_60,n58_59],[n58_58,n58_59,n58_57],[n58_57,n58_56],[n58_55,n58_56,n58_54],[n58_54,n58_53],[n58_67],[n58_68],[n58_67,n58_68,n58_66],[n58_53,n58_66,n58_52],[n58_72],[n58_73],[n58_72,n58_73,n58_71],[n58_71,n58_70],[n58_76],[n58_77],[n58_76,n58_77,n58_75],[n58_75,n58_74],[n58_70,n58_74,n58_69],[n58_52,n58_69,n58_51],[n58_43,n58_51,n58_42],[n58_38,n58_42,n58_37],[n58_29,n58_37,n58_28],[n58_20,n58_28,n58_19],[n58_78],[n58_19,n58_78,n58_18],[n58_18,n58_17],[n58_80],[n58_80,n58_79],[n58_17,n58_79,n58_16],[n58_16,n58_15],[n58_81],[n58_15,n58_81,n58_14],[n58_14,n58_13],[n58_83],[n58_83,n58_82],[n58_13,n58_82,n58_12],[n58_12,n58_11],[n58_84],[n58_11,n58_84,n58_10],[n58_10,n58_9],[n58_86],[n58_86,n58_85],[n58_9,n58_85,n58_8],[n58_8,n58_7],[n58_88],[n58_88,n58_87],[n58_7,n58_87,n58_6],[n58_6,n58_5],[n58_90],[n58_90,n58_89],[n58_5,n58_89,n58_4],[n58_4,n58_3],[n58_3,n58_2],[n58_92],[n58_92,n58_91],[n58_2,n58_91,n58_1],[n58_1,n58_0]]
-- words: cndW wL
-- draws: 
end Go.Vab

/- How the code of a function is read. Printed by wip/tools/gen2.py and gen3.py (own work). -/
namespace Go.Vab
open Go Go.Proofs
def cx29 : Ctx := ⟨fun _ _ _ => none,TT,116,[5,6,7,9,10,11,12,13,14,15,16,17,18,19,20,21,22,24,25,26,27,28,29,30,31,32,33,34,35,36,37,38,39,40,41,42,43,44,45,46,47,48,49,50,51,52,53,54,55,56,57,58,59,60,61,63,64,65,66,67,68,69,70,71,72,73,74,75,76,77,78,79,80,81,82,83,84,85,86,87,88,89,90,91,92,93,94,95,96,97,98,99,100,101,102,103,104,105,106,107,108,109,110,111,112,113,114,115]⟩
noncomputable def n29_0 := bodyOf Tryz.f29
noncomputable def n29_1 := cR n29_0
noncomputable def n29_2 := cR n29_1
noncomputable def n29_3 := cL n29_2
noncomputable def n29_4 := cB n29_3
noncomputable def n29_5 := cR n29_4
noncomputable def n29_6 := cL n29_5
noncomputable def n29_7 := cR n29_6
noncomputable def n29_8 := cR n29_5
noncomputable def n29_9 := cR n29_8
noncomputable def n29_10 := cL n29_9
noncomputable def n29_11 := cR n29_10
noncomputable def n29_12 := cR n29_9
noncomputable def n29_13 := cR n29_12
noncomputable def n29_14 := cL n29_13
noncomputable def n29_15 := cR n29_14
noncomputable def n29_16 := cR n29_13
noncomputable def n29_17 := cR n29_2
noncomputable def n29_18 := cR n29_17
noncomputable def n29_19 := cR n29_18
def q29 := zQ1 cx29 29 Tryz.f29 n29_0 fun s => (bnd (some (s.env.get 2)) fun v => bnd (some []) fun vs => some (v :: vs))
set_option maxRecDepth 20000
set_option maxHeartbeats 4000000
def n29_8_w := zDr cx29 [n29_9,n29_8] [] [0,1,3,7,15,31,15,127,255,511,1023,2047,4095,8191,16383,32767,16383,131071,262143,524287,1048575,2097151,4194303,2097151,10485759,27262975,67108863,134217727,268435455,536870911,1073741823,2147483647,4294967295,8589934591,17179869183,34359738367,68719476735,137438953471,274877906943] [0,1,2,3,4,5,6,7,8,9,10,11,12,13,14,15,16,17,18,19,20,21,22,23,24,25,26,27,28,29,30,31,32,33,34,35,36,37,38] .f
def sn29 := zAll cx29 [[n29_7],[n29_7,n29_6],[n29_11],[n29_11,n29_10],[n29_15],[n29_15,n29_14],[n29_16],[n29_14,n29_16,n29_13],[n29_13,n29_12],[n29_10,n29_12,n29_9],[n29_6,n29_8,n29_5],[n29_5,n29_4],[n29_4,n29_3],[n29_19],[n29_19,n29_18],[n29_18,n29_17],[n29_3,n29_17,n29_2],[n29_2,n29_1],[n29_1,n29_0]]
-- words: SpecA ValW cndW gW gv wL
-- draws: n29_8
end Go.Vab
