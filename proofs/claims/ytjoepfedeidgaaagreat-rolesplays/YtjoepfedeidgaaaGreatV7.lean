/-
  The program's first state of a group; what is known; walked.
-/
import Derived.Test.YtjoepfedeidgaaaGreatV2
import Derived.Test.YtjoepfedeidgaaaGreatV3
import Derived.Test.YtjoepfedeidgaaaGreatV6
import Derived.Test.YtjoepfedeidgaaaGreatV4
set_option linter.all false
set_option linter.unusedSectionVars false
namespace Go.Vab
open Go Go.Proofs
theorem runRp19_0 {G X : Prop} (f : Hd X → G := by
 intro xX
 repeat' (first | refine stp (x := ?_) | (simp (decide := true) only [sn20, snB, if_true, if_false]))
 exact xX.get) (x : X) : G := f ⟨x⟩
theorem runRp19_1 {G X : Prop} (f : Hd X → G := by
 intro xX
 repeat' (first | refine stp (x := ?_) | (simp (decide := true) only [sn27, snB, if_true, if_false]))
 exact xX.get) (x : X) : G := f ⟨x⟩
theorem runRp19_2 {G X : Prop} (f : Hd X → G := by
 intro xX
 repeat' (first | refine stp (x := ?_) | (simp (decide := true) only [sn9, snB, if_true, if_false]))
 exact xX.get) (x : X) : G := f ⟨x⟩
theorem runRp19_3 {G X : Prop} (f : Hd X → G := by
 intro xX
 repeat' (first | refine stp (x := ?_) | (with_reducible refine SpecQ.step (c27) ?_; rintro _ rfl; try dsimp only) | (simp (decide := true) only [sn22, snB, if_true, if_false]))
 exact xX.get) (x : X) : G := f ⟨x⟩
theorem runRp19_4 {G X : Prop} (f : Hd X → G := by
 intro xX
 repeat' (first | refine stp (x := ?_) | (simp (decide := true) only [sn22, snB, if_true, if_false]))
 exact xX.get) (x : X) : G := f ⟨x⟩
theorem runRp19_5 {G X : Prop} (f : Hd X → G := by
 intro xX
 repeat' (first | refine stp (x := ?_) | (with_reducible refine bothP_i ?_ ?_) | (with_reducible refine ValW_i (c27) ?_; try dsimp only) | (with_reducible refine SpecQ.step (c27) ?_; rintro _ rfl; try dsimp only) | (with_reducible refine stabP_i (c27) ?_) | (simp (decide := true) only [sn10, snB, if_true, if_false]) | (with_reducible refine n10_4_w _ _ _ ?_) | (with_reducible refine n10_3_w _ _ _ ?_) | (with_reducible refine n10_2_w _ _ _ ?_))
 exact xX.get) (x : X) : G := f ⟨x⟩
theorem runRp19_6 {G X : Prop} (f : Hd X → G := by
 intro xX
 repeat' (first | refine stp (x := ?_) | (with_reducible refine bothP_i ?_ ?_) | (with_reducible refine ValW_i (c27) ?_; try dsimp only) | (with_reducible refine SpecQ.step (c27) ?_; rintro _ rfl; try dsimp only) | (with_reducible refine stabP_i (c27) ?_) | (simp (decide := true) only [sn10, snB, if_true, if_false]))
 exact xX.get) (x : X) : G := f ⟨x⟩
theorem runRp19_7 {G X : Prop} (f : Hd X → G := by
 intro xX
 repeat' (first | refine stp0 (x := ?_) | (with_reducible refine bothP_i ?_ ?_) | (simp (decide := true) only [sn10, snB, if_true, if_false]) | (with_reducible refine n10_4_w _ _ _ ?_) | (with_reducible refine n10_3_w _ _ _ ?_) | (with_reducible refine n10_2_w _ _ _ ?_))
 exact xX.get) (x : X) : G := f ⟨x⟩
theorem runRp19_8 {G X : Prop} (f : Hd X → G := by
 intro xX
 repeat' (first | refine stp (x := ?_) | (with_reducible refine bothP_i ?_ ?_) | (simp (decide := true) only [sn10, snB, if_true, if_false]))
 exact xX.get) (x : X) : G := f ⟨x⟩
@[simp] theorem eCi_put00 (z : Ci) (c : BitVec 8) : (eCi z).put [0, 0] (u8 c) = some (eCi ⟨set0 z.e c, z.f⟩) := by simp [eCi, -fold_eCi]
@[simp] theorem eCi_put10 (z : Ci) (c : BitVec 8) : (eCi z).put [1, 0] (u8 c) = some (eCi ⟨z.e, set0 z.f c⟩) := by simp [eCi, -fold_eCi]
@[simp] theorem ifY_bs {α : Type} (x : Option α) : ifY Tryz.prog 27 x = x := ifY_pos ⟨5, by kernel_rfl, by kernel_rfl⟩ x
@[simp] theorem fillAcc2 (a b : BitVec 8) : fillRow tAccess (eAcc acc0) [(0, u8 a), (1, u8 b)] = some (eAcc ⟨a, b, 0#8⟩) := by simp [fillRow, eAcc, acc0, -fold_eAcc, -acc0_fold]
@[simp] theorem eAct_put1 (v : BitVec 32) (k r k' : BitVec 8) (w : Ci) (e : Pt) (c : Acc) (x y : AV) : (eActH v k w e r c x y).put [1] (u8 k') = some (eActH v k' w e r c x y) := by simp [eActH, -fold_eAct]
@[simp] theorem eCi_fld0 (c : Ci) : mField tCipher (eCi c) 0 = some (pt c.e) := by simp [eCi, -fold_eCi]
@[simp] theorem fillAct4 (v : BitVec 32) (k r : BitVec 8) (w : Ci) : fillRow tAction (eActH 0#32 0#8 ci0 pt0 0#8 acc0 .nilslice .nilslice) [(0, u32 v), (1, u8 k), (2, eCi w), (4, u8 r)] = some (eActH v k w pt0 r acc0 .nilslice .nilslice) := by
 simp [fillRow]
theorem nilRow {T : Ty} {ts : List Ty} (hT : T = .struct ts) (H : Heap) : Row T H .nilslice [] := by subst hT; exact ⟨by simp [mElems], rfl, by simp⟩
theorem oneSeat {H : Heap} {b : Nat} {x : Seat} (h : H[b]? = some ⟨.node [eSeat x], 0, .own⟩) : Row tSeat H (.slice b 0 [] tSeat 0 1 (some 1)) [eSeat x] := by
 have := elems_k (t := tSeat) (E := eSeat) (b := b) (off := 0) (n := 1) (c := some 1) (xs := [x]) h (by simp)
 exact ⟨by simpa using this, ⟨rfl, by simp, rfl⟩, by simp⟩
set_option maxHeartbeats 8000000 in
theorem c20 {h : Heap} {k c : Ci} {t p : Bs} {ac : Acc} {vt vp : AV} (rt : BytL h vt t) (rp : BytL h vp p) : SpecQ Tryz.prog 20 [eCi k, vt, eAcc ac, vp, eCi c] h (PR h (firstP k t ac p c)) := by
 have t1 := rt.cell
 have t2 := rp.cell
 refine q20 fun env g0 g1 g2 g3 g4 => ?_
 have ff := aI g0 (aI g1 (aI g2 (aI g3 (aI g4 (aI t1 t2)))))
 refine runRp19_0 (x := ?_)
 clear ff
 obtain ⟨l, hl⟩ : ∃ l : Heap, l = [⟨eCi k, 0, .own⟩, ⟨eAcc ac, 0, .own⟩, ⟨eCi c, 0, .own⟩, ⟨eSt0, 0, .own⟩, ⟨.node [eSeat ⟨c, 2#8, 0#32⟩], 0, .own⟩, ⟨eStH 0#32 k ac vt vp (.slice (h.length + 4) 0 [] tSeat 0 1 (some 1)) .nilslice .nilslice .nilslice, 0, .own⟩] := ⟨_, rfl⟩
 have hb : (h ++ l)[h.length + 4]? = some ⟨.node [eSeat ⟨c, 2#8, 0#32⟩], 0, .own⟩ := by rw [List.getElem?_append_right (by omega), hl]; simp
 have rs : StR (h ++ l) (firstS k t ac p c) vt vp (.slice (h.length + 4) 0 [] tSeat 0 1 (some 1)) .nilslice .nilslice .nilslice := ⟨rt.app _, rp.app _, oneSeat hb, nilRow tInvite_x _, nilRow tAsk_x _, nilRow tBan_x _⟩
 rw [hl] at rs
 refine SpecQ.step (c28 rs) ?_
 rintro _ rfl
 dsimp only
 cases hm : mayS (firstS k t ac p c)
 ·have e : firstP k t ac p c = .error 2 := by simp [firstP, hm]
  rw [e]
  have ff := aI g0 (aI t1 t2)
  refine runRp19_0 (x := ?_)
  clear ff
  exact ⟨_, rfl⟩
 ·have e : firstP k t ac p c = .ok (firstS k t ac p c) := by simp [firstP, hm]
  rw [e]
  have ff := aI g0 (aI t1 t2)
  refine runRp19_0 (x := ?_)
  clear ff
  obtain ⟨n, hn⟩ : ∃ n, n = h.length + 3 := ⟨_, rfl⟩
  obtain ⟨κ0, hκ⟩ : ∃ κ0 : Nat → Nat, κ0 = fun i => if i = n then 6 else 0 := ⟨_, rfl⟩
  refine SpecQ.step (c30 (κ := κ0) rs (fun i hi => by rw [hκ]; simp only [List.length_append, List.length_cons, List.length_nil] at hi ⊢; rw [if_neg (by omega)]) (fun i _ => by rw [hκ]; simp only; split <;> simp) (by simp) (by simp) (by simp) (by simp)) ?_
  rintro _ ⟨κ1, H1, ut, up, us, ui, ua, ub, rfl, wp1, f1⟩
  have F0 : Fr (fun _ => 0) h κ0 (h ++ l) := ⟨by simp, fun i hi => by rw [hκ]; simp only; rw [if_neg (by omega)], fun i hi _ => List.getElem?_append_left hi⟩
  rw [← hl] at f1
  have F1 := F0.trans f1
  have c3 := f1.blk (i := n) (b := ⟨eSt0, 0, .own⟩) (by rw [hn, List.getElem?_append_right (by omega), hl]; simp) (.inr (by rw [hκ]; simp))
  have k1 : κ1 n = 6 := (f1.old _ (by rw [hn, hl]; simp)).trans (by rw [hκ]; simp)
  have tu := wp1.str.cells
  have b3 := blk_of c3
  have b4 : ∀ v : AV, blkAt (H1.set n ⟨v, 0, .own⟩) n 0 = some ⟨v, 0, .own⟩ := fun v => blk_of (get_eq c3 _)
  rw [← hn]
  have ff := aI b3 (aI b4 tu)
  refine runRp19_0 (x := ?_)
  clear ff
  obtain ⟨u, hu⟩ := (F1.wr (p := n) (by omega) (⟨eSt (firstS k t ac p c) ut up us ui ua ub, 0, .own⟩ : Blk)).pre (H := h) fun _ _ => rfl
  have wf := wp1.wr (.inl k1) (⟨eSt (firstS k t ac p c) ut up us ui ua ub, 0, .own⟩ : Blk)
  exact ⟨κ1, u, ut, up, us, ui, ua, ub, by rw [← hu]; rfl, by rw [← hu]; exact wf, fun i hi => F1.old i hi⟩
theorem c27 {h : Heap} {c : BitVec 8} : SpecQ Tryz.prog 27 [u8 c] h fun r => r = (eCi (personP c), h) := by
 refine SpecQ.drop1 rfl (q27 fun env g0 => ?_)
 have ff := g0
 refine runRp19_1 (x := ?_)
 clear ff
 exact ⟨_, rfl⟩
theorem c9 {h : Heap} {s : Stt} {vt vp vs vi va vb : AV} {a : Actn} {wt wp : AV} (ra : StR h s vt vp vs vi va vb) (rc : ActR h a wt wp) : SpecQ Tryz.prog 9 [eSt s vt vp vs vi va vb, eAct a wt wp] h fun r => r = (.bool (largeP s a), h) := by
 have ta := ra.cells
 have tc := rc.cells
 have l1 := ra.fs.len
 have l2 := ra.fi.len
 have l3 := ra.fa.len
 have l4 := ra.fb.len
 have l5 := ra.ft.len
 have l6 := ra.fp.len
 have l7 := rc.t.len
 have l8 := rc.p.len
 have m1 := ra.fs.bound
 have m2 := ra.fi.bound
 have m3 := ra.fa.bound
 have m4 := ra.fb.bound
 have m5 := ra.ft.bound
 have m6 := ra.fp.bound
 have m7 := rc.t.bound
 have m8 := rc.p.bound
 rw [List.length_map] at l1 l2 l3 l4 m1 m2 m3 m4
 have d1 : mBin .add (nat s.seats.length) (nat s.invites.length) = some (nat (s.seats.length + s.invites.length)) := nat_add (by omega)
 have d2 : mBin .add (nat (s.seats.length + s.invites.length)) (nat s.asks.length) = some (nat (s.seats.length + s.invites.length + s.asks.length)) := nat_add (by omega)
 have d3 : mBin .add (nat (s.seats.length + s.invites.length + s.asks.length)) (nat s.bans.length) = some (nat (s.seats.length + s.invites.length + s.asks.length + s.bans.length)) := nat_add (by omega)
 have d4 : mBin .add (nat s.title.length) (nat s.pass.length) = some (nat (s.title.length + s.pass.length)) := nat_add (by omega)
 have d5 : mBin .add (nat (s.title.length + s.pass.length)) (nat a.title.length) = some (nat (s.title.length + s.pass.length + a.title.length)) := nat_add (by omega)
 have d6 : mBin .add (nat (s.title.length + s.pass.length + a.title.length)) (nat a.pass.length) = some (nat (s.title.length + s.pass.length + a.title.length + a.pass.length)) := nat_add (by omega)
 clear m1 m2 m3 m4 m5 m6 m7 m8
 refine SpecQ.drop1 rfl (q9 fun env g0 g1 => ?_)
 by_cases h1 : 400 < s.seats.length + s.invites.length + s.asks.length + s.bans.length
 ·have ff := aI g0 (aI g1 (aI ta (aI tc (aI l1 (aI l2 (aI l3 (aI l4 (aI l5 (aI l6 (aI l7 (aI l8 (aI d1 (aI d2 (aI d3 (aI d4 (aI d5 (aI d6 h1)))))))))))))))))
  refine runRp19_2 (x := ?_)
  clear ff
  exact ⟨_, by simp only [largeP, h1, decide_true, Bool.true_or]; rfl⟩
 ·have ff := aI g0 (aI g1 (aI ta (aI tc (aI l1 (aI l2 (aI l3 (aI l4 (aI l5 (aI l6 (aI l7 (aI l8 (aI d1 (aI d2 (aI d3 (aI d4 (aI d5 (aI d6 h1)))))))))))))))))
  refine runRp19_2 (x := ?_)
  clear ff
  exact ⟨_, by simp only [largeP, h1, decide_false, Bool.false_or]; rfl⟩
set_option maxHeartbeats 4000000 in
theorem c22 {h : Heap} : SpecQ Tryz.prog 22 [] h fun r => ∃ t vt vp vs vi va vb, r = (.tuple [eSt gS vt vp vs vi va vb, .bool true], h ++ t) ∧ StR (h ++ t) gS vt vp vs vi va vb ∧ ∀ y ∈ [vt, vp, vs, vi, va, vb], ∀ b, rb y = some b → h.length ≤ b := by
 refine q22 fun env => ?_
 have mk : mMark (.slice (h.length + 1) 0 [] (.int .u8) 0 1 (some 1)) (h ++ [⟨eSt0, 0, .own⟩, ⟨arr 1 fun _ => 116#8, 0, .own⟩]) = some (.slice (h.length + 1) 0 [] (.int .u8) 0 1 (some 1), h ++ [⟨eSt0, 0, .own⟩, ⟨arr 1 fun _ => 116#8, 0, .ro⟩]) := by
  simp [mMark, mElems_slc, Ty.size]
 have ff := mk
 refine runRp19_3 (x := ?_)
 clear ff
 have hb : BytL (h ++ [⟨eSt0, 0, .own⟩, ⟨arr 1 fun _ => 116#8, 0, .ro⟩]) (.slice (h.length + 1) 0 [] (.int .u8) 0 1 (some 1)) [116#8] := by
  refine ⟨⟨?_, rfl, Nat.le_refl _, rfl⟩, by simp⟩
  simp [mElems_slc]
  exact arr_congr fun i hi => by have : i = 0 := by omega
                                 subst this; rfl
 refine SpecQ.step (c20 hb (BytL.nil _)) ?_
 rintro _ hr
 rw [first_g] at hr
 obtain ⟨κ, t, vt, vp, vs, vi, va, vb, rfl, w, h0⟩ := hr
 have tv := w.str.cells
 have ho := w.own h0
 have hs := w.str
 simp only [List.append_assoc, List.cons_append, List.nil_append] at hs ⊢
 have ff := tv
 refine runRp19_4 (x := ?_)
 clear ff
 refine ⟨_, vt, vp, vs, vi, va, vb, rfl, (hs.app [⟨eSt gS vt vp vs vi va vb, 0, .own⟩]).other fun y hy b hb => ?_, fun y hy b hb => ?_⟩
 ·have := ho y hy b hb
  simp at this
  have e : ∀ c0 c1 c2 : Blk, h ++ c0 :: c1 :: t ++ [c2] = h ++ ([] ++ c0 :: (c1 :: (t ++ [c2]))) := fun c0 c1 c2 => by simp
  rw [e]
  exact cell_ne (A := []) (by simp; omega)
 ·have := ho y hy b hb
  simp at this
  omega
theorem gT_v : gT.version = 1#32 := rfl
theorem gT_s : gT.seats = [⟨personP 97#8, 2#8, 0#32⟩, ⟨personP 98#8, 1#8, 1#32⟩] := rfl
structure Kn (H : Heap) (env : Env) (p : Nat) (vt vp vs vi va vb : AV) : Prop where
 e2 : env.get 2 = .bool true
 e3 : env.get 3 = .ptr p 0 [] tState
 e4 : env.get 4 = nat 0
 c : H[p]? = some ⟨eSt gT vt vp vs vi va vb, 0, .own⟩
 r : StR H gT vt vp vs vi va vb
set_option maxHeartbeats 4000000 in
theorem known_4 {H : Heap} {env : Env} {p : Nat} {vt vp vs vi va vb : AV} {Q : AV × Heap → Prop} (hQ : ∀ t, Q (.bool true, H ++ t)) (k : Kn H env p vt vp vs vi va vb) (e6 : env.get 6 = nat 191) :
  wC Tryz.prog cx10 n10_4 (retW (fun s => (bnd (some (s.env.get 0)) fun v => bnd (some []) fun vs => some (v :: vs))) Q) ⟨env, H⟩ := by
 obtain ⟨e2, e3, e4, c, r⟩ := k
 have b3 := blk_of c
 have lx := r.fs.len
 rw [gT_s] at lx
 simp only [List.map_cons, List.map_nil, List.length_cons, List.length_nil] at lx
 obtain ⟨pb, pv, pp, bb, i1, i2, i3, i4⟩ := r.fs.idxE (i := 1) (by rw [gT_s]; simp)
 have i20 : blkAt H pb pv = some bb := by simpa using i2 []
 have gv := gT_v
 have gs : gT.seats[1]'(by rw [gT_s]; simp) = ⟨personP 98#8, 1#8, 1#32⟩ := by simp [gT_s]
 rw [gs] at i3 i4
 have ff := aI e2 (aI e3 (aI e4 (aI e6 (aI b3 (aI lx (aI i1 (aI i20 (aI i4 gv))))))))
 refine runRp19_5 (x := ?_)
 clear ff
 have := hQ []
 rw [List.append_nil] at this
 exact this
set_option maxHeartbeats 4000000 in
theorem known_3 {H : Heap} {env : Env} {p : Nat} {vt vp vs vi va vb : AV} {Q : AV × Heap → Prop} (hQ : ∀ t, Q (.bool true, H ++ t)) (k : Kn H env p vt vp vs vi va vb) :
  wC Tryz.prog cx10 n10_3 (retW (fun s => (bnd (some (s.env.get 0)) fun v => bnd (some []) fun vs => some (v :: vs))) Q) ⟨env, H⟩ := by
 have b3 := blk_of k.c
 have b3l := fun u => blkAt_app (blk_of k.c) u
 have e2 := k.e2
 have e3 := k.e3
 have e4 := k.e4
 have tv := k.r.cells
 have hp : p < H.length := (List.getElem?_eq_some_iff.1 k.c).1
 refine n10_3_w _ _ _ ?_
 repeat' (first | ((with_reducible refine evs_of (a := ?_) ?_ ?_); rotate_left; (focus ((conv => lhs; simp (disch := omega) [e3, b3, b3l, tv]); done)); try dsimp only) | ((with_reducible refine gW_do ?_ ?_); (focus (simp (disch := omega) [e3, b3, b3l, tv]; done))) | ((with_reducible refine gW_no ?_ ?_); (focus (simp (disch := omega) [e3, b3, b3l, tv]; done)); try dsimp only) | ((with_reducible refine gW_un ?_ ?_); (focus (simp (disch := omega) [e3, b3, b3l, tv]; done)); try dsimp only) | ((with_reducible refine stabP_i ?_ ?_); (focus (simp (disch := omega) [e3, b3, b3l, tv]; done))) | (with_reducible refine bothP_i ?_ ?_) | ((with_reducible refine ValW_do ?_ ?_); (focus (simp (disch := omega) [e3, b3, b3l, tv]; done)); try dsimp only) | ((with_reducible refine ValW_no ?_ ?_); (focus (simp (disch := omega) [e3, b3, b3l, tv]; done)); try dsimp only) | ((with_reducible refine ValW_un ?_ ?_); (focus (simp (disch := omega) [e3, b3, b3l, tv]; done)); try dsimp only) | (with_reducible refine ValW_i (c27) ?_; try dsimp only) | (with_reducible refine SpecQ.step (c27) ?_; rintro _ rfl; try dsimp only) | (with_reducible refine stabP_i (c27) ?_) | ((with_reducible refine SpecA_i (args' := ?_) ?_ ?_); rotate_left; (focus ((conv => lhs; simp (disch := omega) [e3, b3, b3l, tv]); done))) | ((with_reducible refine ValA_i (args' := ?_) ?_ ?_); rotate_left; (focus ((conv => lhs; simp (disch := omega) [e3, b3, b3l, tv]); done))) | ((with_reducible refine stabA_i (args' := ?_) ?_ ?_); rotate_left; (focus ((conv => lhs; simp (disch := omega) [e3, b3, b3l, tv]); done))) | ((with_reducible refine ValA_fn (g := ?_) (caps := ?_) ?_ ?_); rotate_left; rotate_left; (focus ((conv => lhs; simp (disch := omega) [e3, b3, b3l, tv]); done))) | ((with_reducible refine stabA_fn (g := ?_) (caps := ?_) ?_ ?_); rotate_left; rotate_left; (focus ((conv => lhs; simp (disch := omega) [e3, b3, b3l, tv]); done))) | ((with_reducible refine stab_do ?_ ?_); (focus (simp (disch := omega) [e3, b3, b3l, tv]; done))) | (simp (decide := true) only [sn10, sqW_nrm, sqW_exit, sqW_ret, inBlk_nrm, inBlk_ret, inBlk_same, inBlk_exit, if_true, if_false, retW_nrm, retW_ret]) | ((with_reducible refine gv_splitE (b := ?_) ?_ ?_ ?_); rotate_left; (focus ((conv => lhs; simp (disch := omega) [e3, b3, b3l, tv]); done)); all_goals ((intro hb; try simp only [Bool.not_true, Bool.not_false] at hb); try simp only [hb])) | ((with_reducible refine gW_splitE (b := ?_) ?_ ?_ ?_); rotate_left; (focus ((conv => lhs; simp (disch := omega) [e3, b3, b3l, tv]); done)); all_goals ((intro hb; try simp only [Bool.not_true, Bool.not_false] at hb); try simp only [hb])) | (with_reducible refine gv_split ?_ ?_ <;> (intro hb; try simp only [Bool.not_true, Bool.not_false] at hb) <;> try simp only [hb]) | (with_reducible refine gW_split ?_ ?_ <;> (intro hb; try simp only [Bool.not_true, Bool.not_false] at hb) <;> try simp only [hb]) | (with_reducible refine ValW_split ?_ ?_ <;> (intro hb; try simp only [Bool.not_true, Bool.not_false] at hb) <;> try simp only [hb]))
 ·refine SpecQ.step (c13 (a := kA 2#32 99#8) k.r ⟨BytL.nil _, BytL.nil _⟩) ?_
  rintro _ hr
  rw [step_2] at hr
  obtain ⟨t, rfl⟩ := hr
  have ff := aI e3 (aI b3l tv)
  refine runRp19_6 (x := ?_)
  clear ff
  refine known_4 (env := env.put 6 (nat 191)) (H := H ++ (t ++ [⟨eSt0, 0, .own⟩])) (fun t' => ?_) ⟨by simp [e2], by simp [e3], by simp [e4], get_app k.c _, k.r.app _⟩ (by simp)
  rw [List.append_assoc]
  exact hQ _
 ·refine SpecQ.step (c13 (a := kA 2#32 99#8) (k.r.app [⟨eSt0, 0, .own⟩]) ⟨BytL.nil _, BytL.nil _⟩) ?_
  rintro _ hr
  rw [step_2] at hr
  obtain ⟨t, rfl⟩ := hr
  have ff := aI e3 (aI b3l tv)
  refine runRp19_6 (x := ?_)
  clear ff
  refine known_4 (env := env.put 6 (nat 191)) (H := H ++ ⟨eSt0, 0, .own⟩ :: t) (fun t' => ?_) ⟨by simp [e2], by simp [e3], by simp [e4], get_app k.c _, k.r.app _⟩ (by simp)
  rw [List.append_assoc]
  exact hQ _
set_option maxHeartbeats 4000000 in
theorem known_2 {H : Heap} {env : Env} {p : Nat} {vt vp vs vi va vb : AV} {Q : AV × Heap → Prop} (hQ : ∀ t, Q (.bool true, H ++ t)) (e1 : env.get 1 = .ptr p 0 [] tState) (e2 : env.get 2 = .bool true) (c : H[p]? = some ⟨eSt gS vt vp vs vi va vb, 0, .own⟩) (r : StR H gS vt vp vs vi va vb) :
  wC Tryz.prog cx10 n10_2 (retW (fun s => (bnd (some (s.env.get 0)) fun v => bnd (some []) fun vs => some (v :: vs))) Q) ⟨env, H⟩ := by
 have b3 := blk_of c
 have b3l := fun u => blkAt_app (blk_of c) u
 have tv := r.cells
 refine n10_2_w _ _ _ ?_
 repeat' (first | ((with_reducible refine evs_of (a := ?_) ?_ ?_); rotate_left; (focus ((conv => lhs; simp (disch := omega) [e1, e2, b3, b3l, tv]); done)); try dsimp only) | ((with_reducible refine gW_do ?_ ?_); (focus (simp (disch := omega) [e1, e2, b3, b3l, tv]; done))) | ((with_reducible refine gW_no ?_ ?_); (focus (simp (disch := omega) [e1, e2, b3, b3l, tv]; done)); try dsimp only) | ((with_reducible refine gW_un ?_ ?_); (focus (simp (disch := omega) [e1, e2, b3, b3l, tv]; done)); try dsimp only) | ((with_reducible refine stabP_i ?_ ?_); (focus (simp (disch := omega) [e1, e2, b3, b3l, tv]; done))) | (with_reducible refine bothP_i ?_ ?_) | ((with_reducible refine ValW_do ?_ ?_); (focus (simp (disch := omega) [e1, e2, b3, b3l, tv]; done)); try dsimp only) | ((with_reducible refine ValW_no ?_ ?_); (focus (simp (disch := omega) [e1, e2, b3, b3l, tv]; done)); try dsimp only) | ((with_reducible refine ValW_un ?_ ?_); (focus (simp (disch := omega) [e1, e2, b3, b3l, tv]; done)); try dsimp only) | (with_reducible refine ValW_i (c27) ?_; try dsimp only) | (with_reducible refine SpecQ.step (c27) ?_; rintro _ rfl; try dsimp only) | (with_reducible refine stabP_i (c27) ?_) | ((with_reducible refine SpecA_i (args' := ?_) ?_ ?_); rotate_left; (focus ((conv => lhs; simp (disch := omega) [e1, e2, b3, b3l, tv]); done))) | ((with_reducible refine ValA_i (args' := ?_) ?_ ?_); rotate_left; (focus ((conv => lhs; simp (disch := omega) [e1, e2, b3, b3l, tv]); done))) | ((with_reducible refine stabA_i (args' := ?_) ?_ ?_); rotate_left; (focus ((conv => lhs; simp (disch := omega) [e1, e2, b3, b3l, tv]); done))) | ((with_reducible refine ValA_fn (g := ?_) (caps := ?_) ?_ ?_); rotate_left; rotate_left; (focus ((conv => lhs; simp (disch := omega) [e1, e2, b3, b3l, tv]); done))) | ((with_reducible refine stabA_fn (g := ?_) (caps := ?_) ?_ ?_); rotate_left; rotate_left; (focus ((conv => lhs; simp (disch := omega) [e1, e2, b3, b3l, tv]); done))) | ((with_reducible refine stab_do ?_ ?_); (focus (simp (disch := omega) [e1, e2, b3, b3l, tv]; done))) | (simp (decide := true) only [sn10, sqW_nrm, sqW_exit, sqW_ret, inBlk_nrm, inBlk_ret, inBlk_same, inBlk_exit, if_true, if_false, retW_nrm, retW_ret]) | ((with_reducible refine gv_splitE (b := ?_) ?_ ?_ ?_); rotate_left; (focus ((conv => lhs; simp (disch := omega) [e1, e2, b3, b3l, tv]); done)); all_goals ((intro hb; try simp only [Bool.not_true, Bool.not_false] at hb); try simp only [hb])) | ((with_reducible refine gW_splitE (b := ?_) ?_ ?_ ?_); rotate_left; (focus ((conv => lhs; simp (disch := omega) [e1, e2, b3, b3l, tv]); done)); all_goals ((intro hb; try simp only [Bool.not_true, Bool.not_false] at hb); try simp only [hb])) | (with_reducible refine gv_split ?_ ?_ <;> (intro hb; try simp only [Bool.not_true, Bool.not_false] at hb) <;> try simp only [hb]) | (with_reducible refine gW_split ?_ ?_ <;> (intro hb; try simp only [Bool.not_true, Bool.not_false] at hb) <;> try simp only [hb]) | (with_reducible refine ValW_split ?_ ?_ <;> (intro hb; try simp only [Bool.not_true, Bool.not_false] at hb) <;> try simp only [hb]))
 ·refine SpecQ.step (c13 (a := kA 1#32 98#8) r ⟨BytL.nil _, BytL.nil _⟩) ?_
  rintro _ hr
  rw [step_1] at hr
  obtain ⟨κ, t, ut, up, us, ui, ua, ub, rfl, w, h0⟩ := hr
  have tu := w.str.cells
  have hs := w.str
  have ff := aI e1 (aI b3l (aI tv tu))
  refine runRp19_6 (x := ?_)
  clear ff
  refine known_3 (vt := ut) (vp := up) (vs := us) (vi := ui) (va := ua) (vb := ub) (p := H.length + t.length) (H := H ++ (t ++ [⟨eSt gT ut up us ui ua ub, 0, .own⟩])) (fun t' => ?_) ⟨?_, ?_, ?_, ?_, ?_⟩
  ·rw [List.append_assoc]
   exact hQ _
  ·simp [e2]
  ·simp
  ·simp
  ·rw [← List.append_assoc, List.getElem?_append_right (by simp)]
   simp
  ·rw [← List.append_assoc]
   exact hs.app _
 ·refine SpecQ.step (c13 (a := kA 1#32 98#8) (r.app [⟨eSt0, 0, .own⟩]) ⟨BytL.nil _, BytL.nil _⟩) ?_
  rintro _ hr
  rw [step_1] at hr
  obtain ⟨κ, t, ut, up, us, ui, ua, ub, rfl, w, h0⟩ := hr
  have tu := w.str.cells
  have hs := w.str
  have ho := w.own h0
  have ff := aI e1 (aI b3l (aI tv tu))
  refine runRp19_6 (x := ?_)
  clear ff
  refine known_3 (vt := ut) (vp := up) (vs := us) (vi := ui) (va := ua) (vb := ub) (p := H.length) (H := H ++ ⟨eSt gT ut up us ui ua ub, 0, .own⟩ :: t) (fun t' => ?_) ⟨?_, ?_, ?_, ?_, hs.other fun y hy b hb => ?_⟩
  ·rw [List.append_assoc]
   exact hQ _
  ·simp [e2]
  ·simp
  ·simp
  ·simp
  ·have := ho y hy b hb
   simp at this
   have e : ∀ c0 : Blk, H ++ c0 :: t = H ++ ([] ++ c0 :: t) := fun c0 => by simp
   rw [List.append_assoc, List.singleton_append, e, e]
   exact cell_ne (A := []) (by simp; omega)
set_option maxHeartbeats 4000000 in
theorem c10 {h : Heap} : SpecQ Tryz.prog 10 [] h fun r => r = (.bool true, h) := by
 refine SpecQ.drop1 rfl (q10 fun env => ?_)
 refine runRp19_7 (x := ?_)
 refine SpecQ.step c22 ?_
 rintro _ ⟨t, vt, vp, vs, vi, va, vb, rfl, r, -⟩
 have tv := r.cells
 have ff := tv
 refine runRp19_8 (x := ?_)
 clear ff
 refine known_2 (vt := vt) (vp := vp) (vs := vs) (vi := vi) (va := va) (vb := vb) (p := h.length + t.length) (H := h ++ (t ++ [⟨eSt gS vt vp vs vi va vb, 0, .own⟩])) (fun t' => ?_) ?_ ?_ ?_ ?_
 ·rw [List.append_assoc]
  exact ⟨_, rfl⟩
 ·simp
 ·simp
 ·rw [← List.append_assoc, List.getElem?_append_right (by simp)]
  simp
 ·rw [← List.append_assoc]
  exact r.app _
end Go.Vab

/- How the code of a function is read. Printed by wip/tools/gen2.py and gen3.py (own work). -/
namespace Go.Vab
open Go Go.Proofs
noncomputable section
def cx15 : Ctx := ⟨fun _ _ _ => none,TT,162,[13,14,15,16,17,18,19,20,21,22,23,24,25,26,27,28,29,30,31,32,33,34,35,36,37,38,39,40,41,42,43,44,45,46,47,48,49,50,51,52,53,54,55,56,57,58,59,60,61,62,63,64,65,66,67,68,69,70,71,72,73,74,75,76,77,78,79,80,81,82,83,84,86,87,88,89,91,92,93,94,95,96,97,98,99,100,101,102,103,104,106,107,108,109,111,112,113,114,115,116,117,118,119,120,121,122,123,124,126,127,128,129,131,132,133,134,135,136,137,138,139,140,141,142,144,145,146,147,149,150,151,152,153,154,155,156,157,158,159,160]⟩
def n15_0 := bodyOf Tryz.f15
def n15_1 := cR n15_0
def n15_2 := cL n15_1
def n15_3 := cR n15_2
def n15_4 := cL n15_3
def n15_5 := cR n15_4
def n15_6 := cR n15_3
def n15_7 := cR n15_1
def n15_8 := cL n15_7
def n15_9 := cR n15_8
def n15_10 := cB n15_9
def n15_11 := cB n15_10
def n15_12 := cL n15_11
def n15_13 := cR n15_12
def n15_14 := cL n15_13
def n15_15 := cR n15_13
def n15_16 := cR n15_11
def n15_17 := cL n15_16
def n15_18 := cB n15_17
def n15_19 := cR n15_18
def n15_20 := cR n15_19
def n15_21 := cL n15_20
def n15_22 := cR n15_21
def n15_23 := cR n15_20
def n15_24 := cR n15_16
def n15_25 := cR n15_7
def n15_26 := cL n15_25
def n15_27 := cR n15_26
def n15_28 := cB n15_27
def n15_29 := cB n15_28
def n15_30 := cL n15_29
def n15_31 := cR n15_30
def n15_32 := cL n15_31
def n15_33 := cR n15_31
def n15_34 := cR n15_29
def n15_35 := cL n15_34
def n15_36 := cB n15_35
def n15_37 := cR n15_36
def n15_38 := cR n15_37
def n15_39 := cL n15_38
def n15_40 := cR n15_39
def n15_41 := cR n15_38
def n15_42 := cR n15_34
def n15_43 := cR n15_25
def n15_44 := cL n15_43
def n15_45 := cR n15_44
def n15_46 := cB n15_45
def n15_47 := cB n15_46
def n15_48 := cL n15_47
def n15_49 := cR n15_48
def n15_50 := cL n15_49
def n15_51 := cR n15_49
def n15_52 := cR n15_47
def n15_53 := cL n15_52
def n15_54 := cB n15_53
def n15_55 := cR n15_54
def n15_56 := cL n15_55
def n15_57 := cR n15_56
def n15_58 := cR n15_55
def n15_59 := cR n15_52
def n15_60 := cR n15_43
def n15_61 := cL n15_60
def n15_62 := cR n15_61
def n15_63 := cB n15_62
def n15_64 := cB n15_63
def n15_65 := cL n15_64
def n15_66 := cR n15_65
def n15_67 := cL n15_66
def n15_68 := cR n15_66
def n15_69 := cR n15_64
def n15_70 := cL n15_69
def n15_71 := cB n15_70
def n15_72 := cR n15_71
def n15_73 := cL n15_72
def n15_74 := cR n15_73
def n15_75 := cR n15_72
def n15_76 := cR n15_69
def n15_77 := cR n15_60
def n15_78 := cR n15_77
def q15 := zQ2 cx15 15 Tryz.f15 n15_0 fun s => (bnd (some (s.env.get 4)) fun v => bnd (some []) fun vs => some (v :: vs))
set_option maxRecDepth 20000
set_option maxHeartbeats 4000000
def n15_18_w := zDr cx15 [n15_19,n15_18] [10,11,12,13] [0,1,0,7,15,0,32,0,224,480,0,0,3103,8191] [0,1,2,3,4,5,6,7,8,9] (.b 10 [] [1,4,6,9] (.o 11 [] [1,4,6,9] (.o 12 [] [6,9] (.o 13 [] [] .f))) (.o 11 [] [1,4,6,9] (.o 10 [] [1,4,6,9] (.o 12 [] [6,9] (.o 13 [] [] .f)))))
def n15_36_w := zDr cx15 [n15_37,n15_36] [10,11,12,13] [0,1,0,7,15,0,32,0,224,480,0,0,3103,8191] [0,1,2,3,4,5,6,7,8,9] (.b 10 [] [1,4,6,9] (.o 11 [] [1,4,6,9] (.o 12 [] [6,9] (.o 13 [] [] .f))) (.o 11 [] [1,4,6,9] (.o 10 [] [1,4,6,9] (.o 12 [] [6,9] (.o 13 [] [] .f)))))
def n15_54_w := zDr cx15 [n15_55,n15_54] [] [0,1,0,7,15,0,32,0,224,480,1023] [0,1,2,3,4,5,6,7,8,9,10] .f
def n15_71_w := zDr cx15 [n15_72,n15_71] [] [0,1,0,7,15,0,32,0,224,480,1023] [0,1,2,3,4,5,6,7,8,9,10] .f
def sn15 := zAll cx15 [[n15_5],[n15_5,n15_4],[n15_6],[n15_4,n15_6,n15_3],[n15_3,n15_2],[n15_14],[n15_15],[n15_14,n15_15,n15_13],[n15_13,n15_12],[n15_22],[n15_22,n15_21],[n15_23],[n15_21,n15_23,n15_20],[n15_20,n15_19],[n15_18,n15_17],[n15_24],[n15_17,n15_24,n15_16],[n15_12,n15_16,n15_11],[n15_11,n15_10],[n15_10,n15_9],[n15_9,n15_8],[n15_32],[n15_33],[n15_32,n15_33,n15_31],[n15_31,n15_30],[n15_40],[n15_40,n15_39],[n15_41],[n15_39,n15_41,n15_38],[n15_38,n15_37],[n15_36,n15_35],[n15_42],[n15_35,n15_42,n15_34],[n15_30,n15_34,n15_29],[n15_29,n15_28],[n15_28,n15_27],[n15_27,n15_26],[n15_50],[n15_51],[n15_50,n15_51,n15_49],[n15_49,n15_48],[n15_57],[n15_57,n15_56],[n15_58],[n15_56,n15_58,n15_55],[n15_54,n15_53],[n15_59],[n15_53,n15_59,n15_52],[n15_48,n15_52,n15_47],[n15_47,n15_46],[n15_46,n15_45],[n15_45,n15_44],[n15_67],[n15_68],[n15_67,n15_68,n15_66],[n15_66,n15_65],[n15_74],[n15_74,n15_73],[n15_75],[n15_73,n15_75,n15_72],[n15_71,n15_70],[n15_76],[n15_70,n15_76,n15_69],[n15_65,n15_69,n15_64],[n15_64,n15_63],[n15_63,n15_62],[n15_62,n15_61],[n15_78],[n15_78,n15_77],[n15_61,n15_77,n15_60],[n15_44,n15_60,n15_43],[n15_26,n15_43,n15_25],[n15_8,n15_25,n15_7],[n15_2,n15_7,n15_1],[n15_1,n15_0]]
end
end Go.Vab

/-
  The document's SameState, walked.
-/
namespace Go.Vab
open Go Go.Proofs
theorem runRSame_0 {G X Y : Prop} (f : Hd X → Hd Y → G := by
 intro xX yX
 repeat' (first | refine stp (x := ?_) | (with_reducible refine bothP_i ?_ ?_) | (simp (decide := true) only [sn15, snB, if_true, if_false]) | (with_reducible refine n15_18_w _ _ _ ?_) | (with_reducible refine n15_36_w _ _ _ ?_) | (with_reducible refine n15_54_w _ _ _ ?_) | (with_reducible refine n15_71_w _ _ _ ?_))
 ·exact xX.get
 ·exact yX.get) (x : X) (y : Y) : G := f ⟨x⟩ ⟨y⟩
theorem runRSame_1 {G X : Prop} (f : Hd X → G := by
 intro xX
 repeat' (first | refine stp (x := ?_) | (with_reducible refine bothP_i ?_ ?_) | (simp (decide := true) only [sn15, snB, if_true, if_false]) | (with_reducible refine n15_18_w _ _ _ ?_) | (with_reducible refine n15_36_w _ _ _ ?_) | (with_reducible refine n15_54_w _ _ _ ?_) | (with_reducible refine n15_71_w _ _ _ ?_))
 exact xX.get) (x : X) : G := f ⟨x⟩
theorem c15 {h : Heap} {a b : Stt} {at_ ap as_ ai aa ab bt bp bs bi ba bb : AV} (ra : StR h a at_ ap as_ ai aa ab) (rb : StR h b bt bp bs bi ba bb) :
  SpecQ Tryz.prog 15 [eSt a at_ ap as_ ai aa ab, eSt b bt bp bs bi ba bb] h fun r => r = (.bool (decide (a = b)), h) := by
 have ta := ra.cells
 have tb := rb.cells
 obtain ⟨A, hA⟩ : ∃ A, A = eSt a at_ ap as_ ai aa ab := ⟨_, rfl⟩
 obtain ⟨B, hB⟩ : ∃ B, B = eSt b bt bp bs bi ba bb := ⟨_, rfl⟩
 have sat := fun l => (ra.ft.app l).str
 have sap := fun l => (ra.fp.app l).str
 have sbt := fun l => (rb.ft.app l).str
 have sbp := fun l => (rb.fp.app l).str
 have las := ra.fs.len
 have lai := ra.fi.len
 have laa := ra.fa.len
 have lab := ra.fb.len
 have lbs := rb.fs.len
 have lbi := rb.fi.len
 have lba := rb.fa.len
 have lbb := rb.fb.len
 have bas := ra.fs.bound
 have bai := ra.fi.bound
 have baa := ra.fa.bound
 have bab := ra.fb.bound
 simp only [List.length_map] at las lai laa lab lbs lbi lba lbb bas bai baa bab
 refine SpecQ.drop1 rfl (q15 fun env g0 g1 => ?_)
 repeat' (first | ((with_reducible refine evs_of (a := ?_) ?_ ?_); rotate_left; (focus ((conv => lhs; simp (disch := omega) [g0, g1, ta, tb, sat, sap, sbt, sbp, las, lai, laa, lab, lbs, lbi, lba, lbb]); done)); try dsimp only) | ((with_reducible refine cndW_T ?_ ?_); (focus (simp (disch := omega) [g0, g1, ta, tb, sat, sap, sbt, sbp, las, lai, laa, lab, lbs, lbi, lba, lbb] <;> omega))) | ((with_reducible refine cndW_F ?_ ?_); (focus (simp (disch := omega) [g0, g1, ta, tb, sat, sap, sbt, sbp, las, lai, laa, lab, lbs, lbi, lba, lbb] <;> omega))) | ((with_reducible refine stabP_i ?_ ?_); (focus (simp (disch := omega) [g0, g1, ta, tb, sat, sap, sbt, sbp, las, lai, laa, lab, lbs, lbi, lba, lbb]; done))) | (with_reducible refine bothP_i ?_ ?_) | (with_reducible refine wL_i ?_) | ((with_reducible refine stabA_i (args' := ?_) ?_ ?_); rotate_left; (focus ((conv => lhs; simp (disch := omega) [g0, g1, ta, tb, sat, sap, sbt, sbp, las, lai, laa, lab, lbs, lbi, lba, lbb]); done))) | ((with_reducible refine stabA_fn (g := ?_) (caps := ?_) ?_ ?_); rotate_left; rotate_left; (focus ((conv => lhs; simp (disch := omega) [g0, g1, ta, tb, sat, sap, sbt, sbp, las, lai, laa, lab, lbs, lbi, lba, lbb]); done))) | ((with_reducible refine stab_do ?_ ?_); (focus (simp (disch := omega) [g0, g1, ta, tb, sat, sap, sbt, sbp, las, lai, laa, lab, lbs, lbi, lba, lbb]; done))) | (simp (decide := true) only [sn15, sqW_nrm, sqW_exit, sqW_ret, inBlk_nrm, inBlk_ret, inBlk_same, inBlk_exit, if_true, if_false, retW_nrm, retW_ret]) | (with_reducible refine n15_18_w _ _ _ ?_) | (with_reducible refine n15_36_w _ _ _ ?_) | (with_reducible refine n15_54_w _ _ _ ?_) | (with_reducible refine n15_71_w _ _ _ ?_) | ((with_reducible refine cndW_splitE (b := ?_) ?_ ?_ ?_); rotate_left; (focus ((conv => lhs; simp (disch := omega) [g0, g1, ta, tb, sat, sap, sbt, sbp, las, lai, laa, lab, lbs, lbi, lba, lbb]); done)); all_goals ((intro hb; try simp only [Bool.not_true, Bool.not_false] at hb); try simp only [hb])) | ((with_reducible refine gv_splitE (b := ?_) ?_ ?_ ?_); rotate_left; (focus ((conv => lhs; simp (disch := omega) [g0, g1, ta, tb, sat, sap, sbt, sbp, las, lai, laa, lab, lbs, lbi, lba, lbb]); done)); all_goals ((intro hb; try simp only [Bool.not_true, Bool.not_false] at hb); try simp only [hb])) | (with_reducible refine gv_split ?_ ?_ <;> (intro hb; try simp only [Bool.not_true, Bool.not_false] at hb) <;> try simp only [hb]) | (with_reducible refine cndW_split ?_ ?_ <;> (intro hb; try simp only [Bool.not_true, Bool.not_false] at hb) <;> try simp only [hb]))
 rotate_left
 all_goals try (refine fin_b (decide_eq_false ?_).symm; rintro rfl; simp_all; done)
 rename_i u1 u2 u3 u4 u5 u6 u7 u8
 simp only [Bool.not_eq_false', decide_eq_true_eq, Bool.or_eq_false_iff] at u1 u2 u3 u4 u5 u6 u7 u8 hb
 -- seats
 refine loop_up a.seats.length (fun i st => ∃ env' t, st = ⟨env', h ++ (⟨eSt a at_ ap as_ ai aa ab, 0, .own⟩ :: ⟨eSt b bt bp bs bi ba bb, 0, .own⟩ :: t)⟩ ∧ env'.get 2 = .ptr h.length 0 [] tState ∧ env'.get 3 = .ptr (h.length + 1) 0 [] tState ∧ env'.get 5 = nat i ∧ ∀ j, j < i → a.seats[j]? = b.seats[j]?) ?_ ?_ ⟨_, _, rfl, by simp [*], by simp [*], by simp, fun j hj => absurd hj (by omega)⟩
 ·rintro i st hi ⟨env', t, rfl, e2, e3, ei, hj⟩
  obtain ⟨p, p1, p2⟩ := ra.fs.idx (i := i) (by simpa using hi)
  obtain ⟨q, q1, q2⟩ := rb.fs.idx (i := i) (by simpa [← u6] using hi)
  simp only [List.getElem?_map, List.getElem?_eq_getElem hi, Option.map_some] at p2
  simp only [List.getElem?_map, List.getElem?_eq_getElem (show i < b.seats.length by omega), Option.map_some] at q2
  by_cases hab : a.seats[i] = b.seats[i]
  ·have ff := aI e2 (aI e3 (aI ei (aI p1 (aI p2 (aI q1 (aI q2 (aI hab las)))))))
   refine runRSame_0 (x := ?_) (y := ?_)
   all_goals clear ff
   all_goals
    refine .inl ⟨by simp, _, _, rfl, by simp [e2], by simp [e3], by simp, fun j hj' => ?_⟩
    by_cases hji : j = i
    ·subst hji
     rw [List.getElem?_eq_getElem hi, List.getElem?_eq_getElem (by omega), hab]
    ·exact hj j (by omega)
  ·have ff := aI e2 (aI e3 (aI ei (aI p1 (aI p2 (aI q1 (aI q2 (aI hab las)))))))
   refine runRSame_0 (x := ?_) (y := ?_)
   all_goals clear ff
   all_goals
    refine .inr ⟨by simp, ?_⟩
    have ff := aI e2 (aI e3 ei)
    refine runRSame_1 (x := ?_)
    clear ff
    refine fin_b (decide_eq_false ?_).symm
    rintro rfl
    exact hab rfl
 rintro st ⟨env', t, rfl, e2, e3, ei, hj⟩
 have ff := aI e2 (aI e3 (aI ei las))
 refine runRSame_1 (x := ?_)
 clear ff
 refine ⟨by simp, ?_⟩
 have ff := aI e2 (aI e3 (aI ei las))
 refine runRSame_1 (x := ?_)
 clear ff
 have w_seats : a.seats = b.seats := List.ext_getElem? fun j => by
  by_cases hj' : j < a.seats.length
  ·exact hj j hj'
  ·rw [List.getElem?_eq_none (by omega), List.getElem?_eq_none (by omega)]
 clear hj
 -- invites
 refine loop_up a.invites.length (fun i st => ∃ env' t, st = ⟨env', h ++ (⟨eSt a at_ ap as_ ai aa ab, 0, .own⟩ :: ⟨eSt b bt bp bs bi ba bb, 0, .own⟩ :: t)⟩ ∧ env'.get 2 = .ptr h.length 0 [] tState ∧ env'.get 3 = .ptr (h.length + 1) 0 [] tState ∧ env'.get 8 = nat i ∧ ∀ j, j < i → a.invites[j]? = b.invites[j]?) ?_ ?_ ⟨_, _, rfl, by simp [*], by simp [*], by simp, fun j hj => absurd hj (by omega)⟩
 ·rintro i st hi ⟨env', t, rfl, e2, e3, ei, hj⟩
  obtain ⟨p, p1, p2⟩ := ra.fi.idx (i := i) (by simpa using hi)
  obtain ⟨q, q1, q2⟩ := rb.fi.idx (i := i) (by simpa [← u7] using hi)
  simp only [List.getElem?_map, List.getElem?_eq_getElem hi, Option.map_some] at p2
  simp only [List.getElem?_map, List.getElem?_eq_getElem (show i < b.invites.length by omega), Option.map_some] at q2
  by_cases hab : a.invites[i] = b.invites[i]
  ·have ff := aI e2 (aI e3 (aI ei (aI p1 (aI p2 (aI q1 (aI q2 (aI hab lai)))))))
   refine runRSame_0 (x := ?_) (y := ?_)
   all_goals clear ff
   all_goals
    refine .inl ⟨by simp, _, _, rfl, by simp [e2], by simp [e3], by simp, fun j hj' => ?_⟩
    by_cases hji : j = i
    ·subst hji
     rw [List.getElem?_eq_getElem hi, List.getElem?_eq_getElem (by omega), hab]
    ·exact hj j (by omega)
  ·have ff := aI e2 (aI e3 (aI ei (aI p1 (aI p2 (aI q1 (aI q2 (aI hab lai)))))))
   refine runRSame_0 (x := ?_) (y := ?_)
   all_goals clear ff
   all_goals
    refine .inr ⟨by simp, ?_⟩
    have ff := aI e2 (aI e3 ei)
    refine runRSame_1 (x := ?_)
    clear ff
    refine fin_b (decide_eq_false ?_).symm
    rintro rfl
    exact hab rfl
 rintro st ⟨env', t, rfl, e2, e3, ei, hj⟩
 have ff := aI e2 (aI e3 (aI ei lai))
 refine runRSame_1 (x := ?_)
 clear ff
 refine ⟨by simp, ?_⟩
 have ff := aI e2 (aI e3 (aI ei lai))
 refine runRSame_1 (x := ?_)
 clear ff
 have w_invites : a.invites = b.invites := List.ext_getElem? fun j => by
  by_cases hj' : j < a.invites.length
  ·exact hj j hj'
  ·rw [List.getElem?_eq_none (by omega), List.getElem?_eq_none (by omega)]
 clear hj
 -- asks
 refine loop_up a.asks.length (fun i st => ∃ env' t, st = ⟨env', h ++ (⟨eSt a at_ ap as_ ai aa ab, 0, .own⟩ :: ⟨eSt b bt bp bs bi ba bb, 0, .own⟩ :: t)⟩ ∧ env'.get 2 = .ptr h.length 0 [] tState ∧ env'.get 3 = .ptr (h.length + 1) 0 [] tState ∧ env'.get 11 = nat i ∧ ∀ j, j < i → a.asks[j]? = b.asks[j]?) ?_ ?_ ⟨_, _, rfl, by simp [*], by simp [*], by simp, fun j hj => absurd hj (by omega)⟩
 ·rintro i st hi ⟨env', t, rfl, e2, e3, ei, hj⟩
  obtain ⟨p, p1, p2⟩ := ra.fa.idx (i := i) (by simpa using hi)
  obtain ⟨q, q1, q2⟩ := rb.fa.idx (i := i) (by simpa [← u8] using hi)
  simp only [List.getElem?_map, List.getElem?_eq_getElem hi, Option.map_some] at p2
  simp only [List.getElem?_map, List.getElem?_eq_getElem (show i < b.asks.length by omega), Option.map_some] at q2
  by_cases hab : a.asks[i] = b.asks[i]
  ·have ff := aI e2 (aI e3 (aI ei (aI p1 (aI p2 (aI q1 (aI q2 (aI hab laa)))))))
   refine runRSame_1 (x := ?_)
   clear ff
   all_goals
    refine .inl ⟨by simp, _, _, rfl, by simp [e2], by simp [e3], by simp, fun j hj' => ?_⟩
    by_cases hji : j = i
    ·subst hji
     rw [List.getElem?_eq_getElem hi, List.getElem?_eq_getElem (by omega), hab]
    ·exact hj j (by omega)
  ·have ff := aI e2 (aI e3 (aI ei (aI p1 (aI p2 (aI q1 (aI q2 (aI hab laa)))))))
   refine runRSame_1 (x := ?_)
   clear ff
   all_goals
    refine .inr ⟨by simp, ?_⟩
    have ff := aI e2 (aI e3 ei)
    refine runRSame_1 (x := ?_)
    clear ff
    refine fin_b (decide_eq_false ?_).symm
    rintro rfl
    exact hab rfl
 rintro st ⟨env', t, rfl, e2, e3, ei, hj⟩
 have ff := aI e2 (aI e3 (aI ei laa))
 refine runRSame_1 (x := ?_)
 clear ff
 refine ⟨by simp, ?_⟩
 have ff := aI e2 (aI e3 (aI ei laa))
 refine runRSame_1 (x := ?_)
 clear ff
 have w_asks : a.asks = b.asks := List.ext_getElem? fun j => by
  by_cases hj' : j < a.asks.length
  ·exact hj j hj'
  ·rw [List.getElem?_eq_none (by omega), List.getElem?_eq_none (by omega)]
 clear hj
 -- bans
 refine loop_up a.bans.length (fun i st => ∃ env' t, st = ⟨env', h ++ (⟨eSt a at_ ap as_ ai aa ab, 0, .own⟩ :: ⟨eSt b bt bp bs bi ba bb, 0, .own⟩ :: t)⟩ ∧ env'.get 2 = .ptr h.length 0 [] tState ∧ env'.get 3 = .ptr (h.length + 1) 0 [] tState ∧ env'.get 12 = nat i ∧ ∀ j, j < i → a.bans[j]? = b.bans[j]?) ?_ ?_ ⟨_, _, rfl, by simp [*], by simp [*], by simp, fun j hj => absurd hj (by omega)⟩
 ·rintro i st hi ⟨env', t, rfl, e2, e3, ei, hj⟩
  obtain ⟨p, p1, p2⟩ := ra.fb.idx (i := i) (by simpa using hi)
  obtain ⟨q, q1, q2⟩ := rb.fb.idx (i := i) (by simpa [← hb] using hi)
  simp only [List.getElem?_map, List.getElem?_eq_getElem hi, Option.map_some] at p2
  simp only [List.getElem?_map, List.getElem?_eq_getElem (show i < b.bans.length by omega), Option.map_some] at q2
  by_cases hab : a.bans[i] = b.bans[i]
  ·have ff := aI e2 (aI e3 (aI ei (aI p1 (aI p2 (aI q1 (aI q2 (aI hab lab)))))))
   refine runRSame_1 (x := ?_)
   clear ff
   all_goals
    refine .inl ⟨by simp, _, _, rfl, by simp [e2], by simp [e3], by simp, fun j hj' => ?_⟩
    by_cases hji : j = i
    ·subst hji
     rw [List.getElem?_eq_getElem hi, List.getElem?_eq_getElem (by omega), hab]
    ·exact hj j (by omega)
  ·have ff := aI e2 (aI e3 (aI ei (aI p1 (aI p2 (aI q1 (aI q2 (aI hab lab)))))))
   refine runRSame_1 (x := ?_)
   clear ff
   all_goals
    refine .inr ⟨by simp, ?_⟩
    have ff := aI e2 (aI e3 ei)
    refine runRSame_1 (x := ?_)
    clear ff
    refine fin_b (decide_eq_false ?_).symm
    rintro rfl
    exact hab rfl
 rintro st ⟨env', t, rfl, e2, e3, ei, hj⟩
 have ff := aI e2 (aI e3 (aI ei lab))
 refine runRSame_1 (x := ?_)
 clear ff
 refine ⟨by simp, ?_⟩
 have ff := aI e2 (aI e3 (aI ei lab))
 refine runRSame_1 (x := ?_)
 clear ff
 have w_bans : a.bans = b.bans := List.ext_getElem? fun j => by
  by_cases hj' : j < a.bans.length
  ·exact hj j hj'
  ·rw [List.getElem?_eq_none (by omega), List.getElem?_eq_none (by omega)]
 clear hj
 refine fin_b (decide_eq_true ?_).symm
 cases a
 cases b
 simp_all
end Go.Vab

/- How the code of a function is read. Printed by wip/tools/gen2.py and gen3.py (own work). -/
namespace Go.Vab
open Go Go.Proofs
noncomputable section
def cx6 : Ctx := ⟨fun _ _ _ => none,TT,87,[8,9,12,13,15,16,17,18,19,20,21,22,23,24,25,26,27,28,29,30,31,32,33,34,35,36,37,38,40,41,42,43,44,45,46,47,48,49,50,51,52,53,54,55,56,57,58,59,60,61,62,63,64,65,66,67,68,69,70,71,72,73,74,75,76,77,78,79,80,81,82,83,84,85,86]⟩
def n6_0 := bodyOf Tryz.f6
def n6_1 := cR n6_0
def n6_2 := cL n6_1
def n6_3 := cR n6_2
def n6_4 := cL n6_3
def n6_5 := cR n6_4
def n6_6 := cR n6_3
def n6_7 := cR n6_1
def n6_8 := cR n6_7
def n6_9 := cR n6_8
def n6_10 := cL n6_9
def n6_11 := cR n6_10
def n6_12 := cL n6_11
def n6_13 := cR n6_12
def n6_14 := cR n6_11
def n6_15 := cR n6_9
def n6_16 := cR n6_15
def q6 := zQ3 cx6 6 Tryz.f6 n6_0 fun s => (bnd (some (s.env.get 6)) fun v => bnd (some []) fun vs => some (v :: vs))
set_option maxRecDepth 20000
set_option maxHeartbeats 4000000
def sn6 := zAll cx6 [[n6_5],[n6_5,n6_4],[n6_6],[n6_4,n6_6,n6_3],[n6_3,n6_2],[n6_13],[n6_13,n6_12],[n6_14],[n6_12,n6_14,n6_11],[n6_11,n6_10],[n6_16],[n6_16,n6_15],[n6_10,n6_15,n6_9],[n6_9,n6_8],[n6_8,n6_7],[n6_2,n6_7,n6_1],[n6_1,n6_0]]
end
end Go.Vab

/-
  The program's own place, and what it does for those who stand nowhere; walked.
-/
namespace Go.Vab
open Go Go.Proofs
theorem runRp20_0 {G X : Prop} (f : Hd X → G := by
 intro xX
 repeat' (first | refine stp (x := ?_) | (with_reducible refine SpecQ.step (c9 (ra.app _) (rc.app _)) ?_; rintro _ rfl; try dsimp only) | (with_reducible refine SpecQ.step (c10) ?_; rintro _ rfl; try dsimp only) | (simp (decide := true) only [sn6, snB, if_true, if_false]))
 exact xX.get) (x : X) : G := f ⟨x⟩
theorem runRp20_1 {G X : Prop} (f : Hd X → G := by
 intro xX
 repeat' (first | refine stp (x := ?_) | (with_reducible refine SpecQ.step (c9 (ra.app _) (rc.app _)) ?_; rintro _ rfl; try dsimp only) | (with_reducible refine SpecQ.step (c26 (ra.app _)) ?_; rintro _ rfl; try dsimp only) | (simp (decide := true) only [sn6, snB, if_true, if_false]))
 exact xX.get) (x : X) : G := f ⟨x⟩
theorem runRp20_2 {G X : Prop} (f : Hd X → G := by
 intro xX
 repeat' (first | refine stp (x := ?_) | (with_reducible refine SpecQ.step (c10) ?_; rintro _ rfl; try dsimp only) | (simp (decide := true) only [sn6, snB, if_true, if_false]))
 exact xX.get) (x : X) : G := f ⟨x⟩
@[simp] theorem ePlace_0 (x : Nat × BitVec 64 × Pt) : mExtract (ePlace x) 0 = some (nat x.1) := rfl
@[simp] theorem ePlace_1 (x : Nat × BitVec 64 × Pt) : mExtract (ePlace x) 1 = some (u64 x.2.1) := rfl
@[simp] theorem ePlace_2 (x : Nat × BitVec 64 × Pt) : mExtract (ePlace x) 2 = some (pt x.2.2) := rfl
theorem stepP_err {s : Stt} {b : Pt} {a : Actn} {k : Nat} (h : stepP s b a = .error k) : k ≠ 0 := by
 unfold stepP at h
 split at h
 ·cases h; decide
 split at h
 ·cases h; decide
 split at h
 ·cases h; decide
 split at h
 ·rename_i e he
  cases h
  exact madeP_err he
 ·cases h
theorem placeP_le (s : Stt) (b : Pt) : (placeP s b).1 ≤ 4 := by
 unfold placeP
 repeat' split
 all_goals simp
theorem eSt0_st {H : Heap} : StR H st0 .nilslice .nilslice .nilslice .nilslice .nilslice .nilslice := ⟨BytL.nil _, BytL.nil _, nilRow tSeat_x _, nilRow tInvite_x _, nilRow tAsk_x _, nilRow tBan_x _⟩
theorem c6 {h : Heap} {s : Stt} {vt vp vs vi va vb : AV} {b : Pt} {a : Actn} {wt wp : AV} (ra : StR h s vt vp vs vi va vb) (rc : ActR h a wt wp) : SpecQ Tryz.prog 6 [eSt s vt vp vs vi va vb, pt b, eAct a wt wp] h fun r => r.1 = .bool true := by
 have ta := ra.cells
 have tc := rc.cells
 refine q6 fun env g0 g1 g2 => ?_
 cases hL : largeP s a
 rotate_left
 ·have ff := aI g0 (aI g1 (aI g2 (aI ta (aI tc hL))))
  refine runRp20_0 (x := ?_)
  clear ff
  rfl
 have ff := aI g0 (aI g1 (aI g2 (aI ta (aI tc hL))))
 refine runRp20_1 (x := ?_)
 clear ff
 refine SpecQ.step (c13 (ra.app _) (rc.app _)) ?_
 rintro _ hr
 have hp := placeP_le s b
 cases hs : stepP s b a with
 | error k =>
  rw [hs] at hr
  obtain ⟨t, rfl⟩ := hr
  have hk := stepP_err hs
  have ff := aI g0 (aI g1 (aI g2 (aI ta (aI tc hk))))
  refine runRp20_2 (x := ?_)
  clear ff
  refine SpecQ.step (c15 eSt0_st eSt0_st) ?_
  rintro _ rfl
  rw [decide_eq_true (rfl : st0 = st0)]
  have ff := g0
  refine runRp20_2 (x := ?_)
  clear ff
  rfl
 | ok z =>
  rw [hs] at hr
  obtain ⟨κ, t, ut, up, us, ui, ua, ub, rfl, w, h0⟩ := hr
  have tu := w.str.cells
  by_cases hq : 1 ≤ (placeP s b).1 ∧ (placeP s b).1 ≤ 3
  ·obtain ⟨hq1, hq2⟩ := hq
   have ff := aI g0 (aI g1 (aI g2 (aI ta (aI tc (aI tu (aI hq1 (aI hq2 hp)))))))
   refine runRp20_2 (x := ?_)
   clear ff
   rfl
  ·obtain ⟨a1, a2, a3, a4, a5⟩ := apart_law hs hq
   have sp := fun l => (ra.fp.app l).str
   have sq := fun l => (rc.p.app l).str
   have lp := ra.fp.len
   have bp := ra.fp.bound
   rcases a2 with a2 | a2
   ·have ff := aI g0 (aI g1 (aI g2 (aI ta (aI tc (aI tu (aI a1 (aI a2 (aI a3 (aI a4 (aI a5 (aI sp (aI sq (aI lp bp)))))))))))))
    refine runRp20_2 (x := ?_)
    clear ff
    rfl
   ·have ff := aI g0 (aI g1 (aI g2 (aI ta (aI tc (aI tu (aI a1 (aI a2 (aI a3 (aI a4 (aI a5 (aI sp (aI sq (aI lp bp)))))))))))))
    refine runRp20_2 (x := ?_)
    clear ff
    rfl
end Go.Vab

/- How the code of a function is read. Printed by wip/tools/gen2.py and gen3.py (own work). -/
namespace Go.Vab
open Go Go.Proofs
noncomputable section
def cx25 : Ctx := ⟨fun _ _ _ => none,TT,73,[8,9,10,11,13,14,15,16,17,18,19,20,21,22,23,24,25,26,27,29,30,31,32,33,34,35,36,37,38,39,40,41,42,43,45,46,47,48,49,50,51,52,53,54,55,56,57,58,59,61,62,63,64,65,66,67,68,69,70,71,72]⟩
def n25_0 := bodyOf Tryz.f25
def n25_1 := cR n25_0
def n25_2 := cR n25_1
def n25_3 := cL n25_2
def n25_4 := cR n25_3
def n25_5 := cB n25_4
def n25_6 := cB n25_5
def n25_7 := cL n25_6
def n25_8 := cR n25_7
def n25_9 := cL n25_8
def n25_10 := cR n25_8
def n25_11 := cR n25_6
def n25_12 := cL n25_11
def n25_13 := cB n25_12
def n25_14 := cR n25_11
def n25_15 := cR n25_2
def n25_16 := cL n25_15
def n25_17 := cR n25_16
def n25_18 := cB n25_17
def n25_19 := cB n25_18
def n25_20 := cL n25_19
def n25_21 := cR n25_20
def n25_22 := cL n25_21
def n25_23 := cR n25_21
def n25_24 := cR n25_19
def n25_25 := cL n25_24
def n25_26 := cB n25_25
def n25_27 := cR n25_24
def n25_28 := cR n25_15
def n25_29 := cL n25_28
def n25_30 := cR n25_29
def n25_31 := cB n25_30
def n25_32 := cB n25_31
def n25_33 := cL n25_32
def n25_34 := cR n25_33
def n25_35 := cL n25_34
def n25_36 := cR n25_34
def n25_37 := cR n25_32
def n25_38 := cL n25_37
def n25_39 := cB n25_38
def n25_40 := cR n25_37
def n25_41 := cR n25_28
def n25_42 := cL n25_41
def n25_43 := cR n25_42
def n25_44 := cB n25_43
def n25_45 := cB n25_44
def n25_46 := cL n25_45
def n25_47 := cR n25_46
def n25_48 := cL n25_47
def n25_49 := cR n25_47
def n25_50 := cR n25_45
def n25_51 := cL n25_50
def n25_52 := cB n25_51
def n25_53 := cR n25_50
def n25_54 := cR n25_41
def n25_55 := cR n25_54
def q25 := zQ1 cx25 25 Tryz.f25 n25_0 fun s => (bnd (some (s.env.get 2)) fun v => bnd (some []) fun vs => some (v :: vs))
set_option maxRecDepth 20000
set_option maxHeartbeats 4000000
def sn25 := zAll cx25 [[n25_9],[n25_10],[n25_9,n25_10,n25_8],[n25_8,n25_7],[n25_13],[n25_13,n25_12],[n25_14],[n25_12,n25_14,n25_11],[n25_7,n25_11,n25_6],[n25_6,n25_5],[n25_5,n25_4],[n25_4,n25_3],[n25_22],[n25_23],[n25_22,n25_23,n25_21],[n25_21,n25_20],[n25_26],[n25_26,n25_25],[n25_27],[n25_25,n25_27,n25_24],[n25_20,n25_24,n25_19],[n25_19,n25_18],[n25_18,n25_17],[n25_17,n25_16],[n25_35],[n25_36],[n25_35,n25_36,n25_34],[n25_34,n25_33],[n25_39],[n25_39,n25_38],[n25_40],[n25_38,n25_40,n25_37],[n25_33,n25_37,n25_32],[n25_32,n25_31],[n25_31,n25_30],[n25_30,n25_29],[n25_48],[n25_49],[n25_48,n25_49,n25_47],[n25_47,n25_46],[n25_52],[n25_52,n25_51],[n25_53],[n25_51,n25_53,n25_50],[n25_46,n25_50,n25_45],[n25_45,n25_44],[n25_44,n25_43],[n25_43,n25_42],[n25_55],[n25_55,n25_54],[n25_42,n25_54,n25_41],[n25_29,n25_41,n25_28],[n25_16,n25_28,n25_15],[n25_3,n25_15,n25_2],[n25_2,n25_1],[n25_1,n25_0]]
end
end Go.Vab

/- How the code of a function is read. Printed by wip/tools/gen2.py and gen3.py (own work). -/
namespace Go.Vab
open Go Go.Proofs
noncomputable section
def cx38 : Ctx := ⟨fun _ _ _ => none,TT,28,[8,9,10,11,13,14,15,16,17,18,19,20,21,22,23,24,25,26]⟩
def n38_0 := bodyOf Tryz.f38
def n38_1 := cR n38_0
def n38_2 := cL n38_1
def n38_3 := cR n38_2
def n38_4 := cB n38_3
def n38_5 := cB n38_4
def n38_6 := cL n38_5
def n38_7 := cR n38_6
def n38_8 := cL n38_7
def n38_9 := cR n38_7
def n38_10 := cR n38_5
def n38_11 := cL n38_10
def n38_12 := cB n38_11
def n38_13 := cR n38_12
def n38_14 := cL n38_13
def n38_15 := cR n38_14
def n38_16 := cR n38_13
def n38_17 := cR n38_10
def n38_18 := cR n38_1
def n38_19 := cR n38_18
def q38 := zQ3 cx38 38 Tryz.f38 n38_0 fun s => (bnd (some (s.env.get 6)) fun v => bnd (some []) fun vs => some (v :: vs))
set_option maxRecDepth 20000
set_option maxHeartbeats 4000000
def n38_12_w := zDr cx38 [n38_13,n38_12] [] [0,0,2,7,15,31,0,0,192,448,960,2047,4095] [0,1,2,3,4,5,6,7,8,9,10,11,12] .f
def sn38 := zAll cx38 [[n38_8],[n38_9],[n38_8,n38_9,n38_7],[n38_7,n38_6],[n38_15],[n38_15,n38_14],[n38_16],[n38_14,n38_16,n38_13],[n38_12,n38_11],[n38_17],[n38_11,n38_17,n38_10],[n38_6,n38_10,n38_5],[n38_5,n38_4],[n38_4,n38_3],[n38_3,n38_2],[n38_19],[n38_19,n38_18],[n38_2,n38_18,n38_1],[n38_1,n38_0]]
end
end Go.Vab

/- How the code of a function is read. Printed by wip/tools/gen2.py and gen3.py (own work). -/
namespace Go.Vab
open Go Go.Proofs
noncomputable section
def cx23 : Ctx := ⟨fun _ _ _ => none,TT,153,[12,13,14,15,16,17,18,19,20,21,22,23,24,25,26,27,28,29,30,31,32,34,35,36,37,38,39,40,41,42,43,44,45,46,47,48,49,50,51,52,53,54,55,56,57,58,60,61,62,63,64,65,66,67,68,69,70,71,72,73,74,75,76,77,78,79,80,81,82,83,84,85,86,87,88,89,90,91,92,93,94,95,96,97,98,99,100,101,102,103,105,106,107,109,110,111,112,114,115,116,117,118,119,120,121,122,123,124,125,127,128,130,131,132,133,134,135,136,137,138,140,141,143,144,145,146,147,148,149,150,151]⟩
def n23_0 := bodyOf Tryz.f23
def n23_1 := cR n23_0
def n23_2 := cL n23_1
def n23_3 := cR n23_2
def n23_4 := cL n23_3
def n23_5 := cR n23_4
def n23_6 := cR n23_3
def n23_7 := cR n23_1
def n23_8 := cR n23_7
def n23_9 := cL n23_8
def n23_10 := cR n23_9
def n23_11 := cL n23_10
def n23_12 := cR n23_11
def n23_13 := cR n23_10
def n23_14 := cR n23_8
def n23_15 := cR n23_14
def n23_16 := cL n23_15
def n23_17 := cR n23_16
def n23_18 := cL n23_17
def n23_19 := cR n23_18
def n23_20 := cR n23_17
def n23_21 := cR n23_15
def n23_22 := cL n23_21
def n23_23 := cR n23_22
def n23_24 := cB n23_23
def n23_25 := cB n23_24
def n23_26 := cL n23_25
def n23_27 := cR n23_26
def n23_28 := cL n23_27
def n23_29 := cR n23_27
def n23_30 := cR n23_25
def n23_31 := cL n23_30
def n23_32 := cB n23_31
def n23_33 := cR n23_32
def n23_34 := cB n23_33
def n23_35 := cB n23_34
def n23_36 := cL n23_35
def n23_37 := cR n23_36
def n23_38 := cL n23_37
def n23_39 := cR n23_37
def n23_40 := cR n23_35
def n23_41 := cL n23_40
def n23_42 := cB n23_41
def n23_43 := cR n23_42
def n23_44 := cL n23_43
def n23_45 := cR n23_44
def n23_46 := cR n23_43
def n23_47 := cR n23_40
def n23_48 := cR n23_30
def n23_49 := cR n23_21
def n23_50 := cL n23_49
def n23_51 := cR n23_50
def n23_52 := cB n23_51
def n23_53 := cB n23_52
def n23_54 := cL n23_53
def n23_55 := cR n23_54
def n23_56 := cL n23_55
def n23_57 := cR n23_55
def n23_58 := cR n23_53
def n23_59 := cL n23_58
def n23_60 := cB n23_59
def n23_61 := cR n23_60
def n23_62 := cL n23_61
def n23_63 := cR n23_62
def n23_64 := cR n23_61
def n23_65 := cR n23_58
def n23_66 := cR n23_49
def n23_67 := cL n23_66
def n23_68 := cR n23_67
def n23_69 := cB n23_68
def n23_70 := cB n23_69
def n23_71 := cL n23_70
def n23_72 := cR n23_71
def n23_73 := cL n23_72
def n23_74 := cR n23_72
def n23_75 := cR n23_70
def n23_76 := cL n23_75
def n23_77 := cB n23_76
def n23_78 := cR n23_77
def n23_79 := cL n23_78
def n23_80 := cR n23_79
def n23_81 := cR n23_78
def n23_82 := cR n23_75
def n23_83 := cR n23_66
def n23_84 := cR n23_83
def q23 := zQ1 cx23 23 Tryz.f23 n23_0 fun s => (bnd (some (s.env.get 2)) fun v => bnd (some []) fun vs => some (v :: vs))
set_option maxRecDepth 20000
set_option maxHeartbeats 4000000
def n23_42_w := zDr cx23 [n23_43,n23_42] [] [0,0,3,7,15,0,0,96,224,480,1023] [0,1,2,3,4,5,6,7,8,9,10] .f
def n23_7_w := zDr cx23 [n23_8,n23_7] [] [0,1,3,0,8,24,0,64,192,0,512,1536,7,4159,12799,32767] [0,1,2,3,4,5,6,7,8,9,10,11,12,13,14,15] .f
def sn23 := zAll cx23 [[n23_5],[n23_5,n23_4],[n23_6],[n23_4,n23_6,n23_3],[n23_3,n23_2],[n23_12],[n23_12,n23_11],[n23_13],[n23_11,n23_13,n23_10],[n23_10,n23_9],[n23_19],[n23_19,n23_18],[n23_20],[n23_18,n23_20,n23_17],[n23_17,n23_16],[n23_28],[n23_29],[n23_28,n23_29,n23_27],[n23_27,n23_26],[n23_38],[n23_39],[n23_38,n23_39,n23_37],[n23_37,n23_36],[n23_45],[n23_45,n23_44],[n23_46],[n23_44,n23_46,n23_43],[n23_42,n23_41],[n23_47],[n23_41,n23_47,n23_40],[n23_36,n23_40,n23_35],[n23_35,n23_34],[n23_34,n23_33],[n23_33,n23_32],[n23_32,n23_31],[n23_48],[n23_31,n23_48,n23_30],[n23_26,n23_30,n23_25],[n23_25,n23_24],[n23_24,n23_23],[n23_23,n23_22],[n23_56],[n23_57],[n23_56,n23_57,n23_55],[n23_55,n23_54],[n23_63],[n23_63,n23_62],[n23_64],[n23_62,n23_64,n23_61],[n23_61,n23_60],[n23_60,n23_59],[n23_65],[n23_59,n23_65,n23_58],[n23_54,n23_58,n23_53],[n23_53,n23_52],[n23_52,n23_51],[n23_51,n23_50],[n23_73],[n23_74],[n23_73,n23_74,n23_72],[n23_72,n23_71],[n23_80],[n23_80,n23_79],[n23_81],[n23_79,n23_81,n23_78],[n23_78,n23_77],[n23_77,n23_76],[n23_82],[n23_76,n23_82,n23_75],[n23_71,n23_75,n23_70],[n23_70,n23_69],[n23_69,n23_68],[n23_68,n23_67],[n23_84],[n23_84,n23_83],[n23_67,n23_83,n23_66],[n23_50,n23_66,n23_49],[n23_22,n23_49,n23_21],[n23_16,n23_21,n23_15],[n23_15,n23_14],[n23_9,n23_14,n23_8],[n23_2,n23_7,n23_1],[n23_1,n23_0]]
end
end Go.Vab

/-
  The document's look at states, walked.
-/
namespace Go.Vab
open Go Go.Proofs
theorem runRf3_0 {G X : Prop} (f : Hd X → G := by
 intro xX
 repeat' (first | refine stp (x := ?_) | (simp (decide := true) only [sn25, snB, if_true, if_false]))
 exact xX.get) (x : X) : G := f ⟨x⟩
theorem runRf3_1 {G X : Prop} (f : Hd X → G := by
 intro xX
 repeat' (first | refine stp (x := ?_) | (simp (decide := true) only [sn38, snB, if_true, if_false]) | (with_reducible refine n38_12_w _ _ _ ?_))
 exact xX.get) (x : X) : G := f ⟨x⟩
theorem runRf3_2 {G X : Prop} (f : Hd X → G := by
 intro xX
 repeat' (first | refine stp (x := ?_) | (with_reducible refine ValW_i (c86) ?_; try dsimp only) | (with_reducible refine SpecQ.step (c86) ?_; rintro _ rfl; try dsimp only) | (simp (decide := true) only [sn38, snB, if_true, if_false]) | (with_reducible refine n38_12_w _ _ _ ?_))
 exact xX.get) (x : X) : G := f ⟨x⟩
theorem runRf3_3 {G X : Prop} (f : Hd X → G := by
 intro xX
 repeat' (first | refine stp (x := ?_) | (with_reducible refine SpecQ.step (c37) ?_; rintro _ rfl; try dsimp only) | (simp (decide := true) only [sn23, snB, if_true, if_false]) | (with_reducible refine n23_42_w _ _ _ ?_) | (with_reducible refine n23_7_w _ _ _ ?_))
 exact xX.get) (x : X) : G := f ⟨x⟩
theorem runRf3_4 {G X : Prop} (f : Hd X → G := by
 intro xX
 repeat' (first | refine stp (x := ?_) | (simp (decide := true) only [sn23, snB, if_true, if_false]) | (with_reducible refine n23_42_w _ _ _ ?_) | (with_reducible refine n23_7_w _ _ _ ?_))
 exact xX.get) (x : X) : G := f ⟨x⟩
theorem runRf3_5 {G X : Prop} (f : Hd X → G := by
 intro xX
 repeat' (first | refine stp (x := ?_) | (with_reducible refine SpecQ.step (c39) ?_; rintro _ rfl; try dsimp only) | (simp (decide := true) only [sn23, snB, if_true, if_false]) | (with_reducible refine n23_42_w _ _ _ ?_) | (with_reducible refine n23_7_w _ _ _ ?_))
 exact xX.get) (x : X) : G := f ⟨x⟩
def ciphers (s : Stt) : List Ci := s.seats.map (·.who) ++ s.invites.map (·.who) ++ s.asks.map (·.who) ++ s.bans.map (·.who)
def shortL (s : Stt) : Prop := s.seats.length ≤ 1000 ∧ s.invites.length ≤ 1000 ∧ s.asks.length ≤ 1000 ∧ s.bans.length ≤ 1000
theorem ciphers_len (s : Stt) : (ciphers s).length = s.seats.length + s.invites.length + s.asks.length + s.bans.length := by simp [ciphers]; omega
set_option maxHeartbeats 4000000 in
theorem c25 {h : Heap} {s : Stt} {vt vp vs vi va vb : AV} (ra : StR h s vt vp vs vi va vb) (hs : shortL s) : SpecQ Tryz.prog 25 [eSt s vt vp vs vi va vb] h fun r => ∃ y u, r = (y, h ++ ⟨eSt s vt vp vs vi va vb, 0, .own⟩ :: u) ∧ RnU tCipher (h.length + 1) u y ((ciphers s).map eCi) := by
 obtain ⟨s1, s2, s3, s4⟩ := hs
 have ta := ra.cells
 have l1 := ra.fs.len
 have l2 := ra.fi.len
 have l3 := ra.fa.len
 have l4 := ra.fb.len
 rw [List.length_map] at l1 l2 l3 l4
 refine q25 fun env g0 => ?_
 have ff := aI g0 (aI ta l1)
 refine runRf3_0 (x := ?_)
 clear ff
 refine loop_up s.seats.length (fun i st => ∃ env' u x, st = ⟨env', h ++ ⟨eSt s vt vp vs vi va vb, 0, .own⟩ :: u⟩ ∧ env'.get 1 = .ptr h.length 0 [] tState ∧ env'.get 3 = x ∧ env'.get 4 = nat i ∧ RnU tCipher (h.length + 1) u x ((([] : List Ci) ++ (s.seats.take i).map Seat.who).map eCi)) ?_ ?_ ⟨_, [], _, (by simp; rfl), by simp, rfl, by simp, (by simp; exact RnU.nil _ _ _)⟩
 ·rintro i st hi ⟨env', u, x, rfl, e1, e3, e4, hr⟩
  obtain ⟨pb, pv, pp, bb, p1, p2, p3, p4⟩ := ra.fs.idxE hi
  have ff := aI e1 (aI e3 (aI e4 (aI ta (aI l1 (aI l2 (aI l3 (aI l4 (aI p1 (aI p2 (aI p3 p4))))))))))
  refine runRf3_0 (x := ?_)
  clear ff
  have hnext : (([] : List Ci) ++ (s.seats.take i).map Seat.who).map eCi ++ [eCi s.seats[i].who] = (([] : List Ci) ++ (s.seats.take (i + 1)).map Seat.who).map eCi := by
   simp only [List.take_add_one, List.getElem?_eq_getElem hi, Option.toList, List.map_append, List.map_cons, List.map_nil, List.append_assoc]
  have hH : h ++ ⟨eSt s vt vp vs vi va vb, 0, .own⟩ :: (u ++ [⟨.node [eCi s.seats[i].who], 0, .own⟩]) = (h ++ [⟨eSt s vt vp vs vi va vb, 0, .own⟩]) ++ (u ++ [⟨.node [eCi s.seats[i].who], 0, .own⟩]) := by simp
  rw [hH]
  refine appW_rnU (new := [eCi s.seats[i].who]) tCipher_x (fun _ => rfl) (by simp) hr (by rw [← hH, mElems_row]; simp) (by simp; omega) (by omega) fun x' u' g1 g2 g3 g4 => ?_
  rw [hnext] at g1
  simp only [List.append_assoc, List.cons_append, List.nil_append]
  have ff := aI e1 (aI e3 (aI e4 (aI ta (aI l1 (aI l2 (aI l3 l4))))))
  refine runRf3_0 (x := ?_)
  clear ff
  exact .inl ⟨by simp, _, u', x', rfl, by simp [e1], by simp, by simp, by simpa only [List.append_assoc, List.nil_append] using g1⟩
 rintro st ⟨env', u, x, rfl, e1, e3, e4, hr⟩
 rw [List.take_length] at hr
 have ff := aI e1 (aI e3 (aI e4 (aI ta (aI l1 (aI l2 (aI l3 l4))))))
 refine runRf3_0 (x := ?_)
 clear ff
 refine ⟨by simp, ?_⟩
 have ff := aI e1 (aI e3 (aI e4 (aI ta (aI l1 (aI l2 (aI l3 l4))))))
 refine runRf3_0 (x := ?_)
 clear ff
 refine loop_up s.invites.length (fun i st => ∃ env' u x, st = ⟨env', h ++ ⟨eSt s vt vp vs vi va vb, 0, .own⟩ :: u⟩ ∧ env'.get 1 = .ptr h.length 0 [] tState ∧ env'.get 3 = x ∧ env'.get 5 = nat i ∧ RnU tCipher (h.length + 1) u x ((s.seats.map (·.who) ++ (s.invites.take i).map Inv.who).map eCi)) ?_ ?_ ⟨_, u, _, rfl, by simp [e1], rfl, by simp, (by simpa [e3] using hr)⟩
 ·rintro i st hi ⟨env', u, x, rfl, e1, e3, e4, hr⟩
  obtain ⟨pb, pv, pp, bb, p1, p2, p3, p4⟩ := ra.fi.idxE hi
  have ff := aI e1 (aI e3 (aI e4 (aI ta (aI l1 (aI l2 (aI l3 (aI l4 (aI p1 (aI p2 (aI p3 p4))))))))))
  refine runRf3_0 (x := ?_)
  clear ff
  have hnext : (s.seats.map (·.who) ++ (s.invites.take i).map Inv.who).map eCi ++ [eCi s.invites[i].who] = (s.seats.map (·.who) ++ (s.invites.take (i + 1)).map Inv.who).map eCi := by
   simp only [List.take_add_one, List.getElem?_eq_getElem hi, Option.toList, List.map_append, List.map_cons, List.map_nil, List.append_assoc]
  have hH : h ++ ⟨eSt s vt vp vs vi va vb, 0, .own⟩ :: (u ++ [⟨.node [eCi s.invites[i].who], 0, .own⟩]) = (h ++ [⟨eSt s vt vp vs vi va vb, 0, .own⟩]) ++ (u ++ [⟨.node [eCi s.invites[i].who], 0, .own⟩]) := by simp
  rw [hH]
  refine appW_rnU (new := [eCi s.invites[i].who]) tCipher_x (fun _ => rfl) (by simp) hr (by rw [← hH, mElems_row]; simp) (by simp; omega) (by omega) fun x' u' g1 g2 g3 g4 => ?_
  rw [hnext] at g1
  simp only [List.append_assoc, List.cons_append, List.nil_append]
  have ff := aI e1 (aI e3 (aI e4 (aI ta (aI l1 (aI l2 (aI l3 l4))))))
  refine runRf3_0 (x := ?_)
  clear ff
  exact .inl ⟨by simp, _, u', x', rfl, by simp [e1], by simp, by simp, by simpa only [List.append_assoc, List.nil_append] using g1⟩
 rintro st ⟨env', u, x, rfl, e1, e3, e4, hr⟩
 rw [List.take_length] at hr
 have ff := aI e1 (aI e3 (aI e4 (aI ta (aI l1 (aI l2 (aI l3 l4))))))
 refine runRf3_0 (x := ?_)
 clear ff
 refine ⟨by simp, ?_⟩
 have ff := aI e1 (aI e3 (aI e4 (aI ta (aI l1 (aI l2 (aI l3 l4))))))
 refine runRf3_0 (x := ?_)
 clear ff
 refine loop_up s.asks.length (fun i st => ∃ env' u x, st = ⟨env', h ++ ⟨eSt s vt vp vs vi va vb, 0, .own⟩ :: u⟩ ∧ env'.get 1 = .ptr h.length 0 [] tState ∧ env'.get 3 = x ∧ env'.get 6 = nat i ∧ RnU tCipher (h.length + 1) u x ((s.seats.map (·.who) ++ s.invites.map (·.who) ++ (s.asks.take i).map Ask.who).map eCi)) ?_ ?_ ⟨_, u, _, rfl, by simp [e1], rfl, by simp, (by simpa [e3] using hr)⟩
 ·rintro i st hi ⟨env', u, x, rfl, e1, e3, e4, hr⟩
  obtain ⟨pb, pv, pp, bb, p1, p2, p3, p4⟩ := ra.fa.idxE hi
  have ff := aI e1 (aI e3 (aI e4 (aI ta (aI l1 (aI l2 (aI l3 (aI l4 (aI p1 (aI p2 (aI p3 p4))))))))))
  refine runRf3_0 (x := ?_)
  clear ff
  have hnext : (s.seats.map (·.who) ++ s.invites.map (·.who) ++ (s.asks.take i).map Ask.who).map eCi ++ [eCi s.asks[i].who] = (s.seats.map (·.who) ++ s.invites.map (·.who) ++ (s.asks.take (i + 1)).map Ask.who).map eCi := by
   simp only [List.take_add_one, List.getElem?_eq_getElem hi, Option.toList, List.map_append, List.map_cons, List.map_nil, List.append_assoc]
  have hH : h ++ ⟨eSt s vt vp vs vi va vb, 0, .own⟩ :: (u ++ [⟨.node [eCi s.asks[i].who], 0, .own⟩]) = (h ++ [⟨eSt s vt vp vs vi va vb, 0, .own⟩]) ++ (u ++ [⟨.node [eCi s.asks[i].who], 0, .own⟩]) := by simp
  rw [hH]
  refine appW_rnU (new := [eCi s.asks[i].who]) tCipher_x (fun _ => rfl) (by simp) hr (by rw [← hH, mElems_row]; simp) (by simp; omega) (by omega) fun x' u' g1 g2 g3 g4 => ?_
  rw [hnext] at g1
  simp only [List.append_assoc, List.cons_append, List.nil_append]
  have ff := aI e1 (aI e3 (aI e4 (aI ta (aI l1 (aI l2 (aI l3 l4))))))
  refine runRf3_0 (x := ?_)
  clear ff
  exact .inl ⟨by simp, _, u', x', rfl, by simp [e1], by simp, by simp, by simpa only [List.append_assoc, List.nil_append] using g1⟩
 rintro st ⟨env', u, x, rfl, e1, e3, e4, hr⟩
 rw [List.take_length] at hr
 have ff := aI e1 (aI e3 (aI e4 (aI ta (aI l1 (aI l2 (aI l3 l4))))))
 refine runRf3_0 (x := ?_)
 clear ff
 refine ⟨by simp, ?_⟩
 have ff := aI e1 (aI e3 (aI e4 (aI ta (aI l1 (aI l2 (aI l3 l4))))))
 refine runRf3_0 (x := ?_)
 clear ff
 refine loop_up s.bans.length (fun i st => ∃ env' u x, st = ⟨env', h ++ ⟨eSt s vt vp vs vi va vb, 0, .own⟩ :: u⟩ ∧ env'.get 1 = .ptr h.length 0 [] tState ∧ env'.get 3 = x ∧ env'.get 7 = nat i ∧ RnU tCipher (h.length + 1) u x ((s.seats.map (·.who) ++ s.invites.map (·.who) ++ s.asks.map (·.who) ++ (s.bans.take i).map Ban.who).map eCi)) ?_ ?_ ⟨_, u, _, rfl, by simp [e1], rfl, by simp, (by simpa [e3] using hr)⟩
 ·rintro i st hi ⟨env', u, x, rfl, e1, e3, e4, hr⟩
  obtain ⟨pb, pv, pp, bb, p1, p2, p3, p4⟩ := ra.fb.idxE hi
  have ff := aI e1 (aI e3 (aI e4 (aI ta (aI l1 (aI l2 (aI l3 (aI l4 (aI p1 (aI p2 (aI p3 p4))))))))))
  refine runRf3_0 (x := ?_)
  clear ff
  have hnext : (s.seats.map (·.who) ++ s.invites.map (·.who) ++ s.asks.map (·.who) ++ (s.bans.take i).map Ban.who).map eCi ++ [eCi s.bans[i].who] = (s.seats.map (·.who) ++ s.invites.map (·.who) ++ s.asks.map (·.who) ++ (s.bans.take (i + 1)).map Ban.who).map eCi := by
   simp only [List.take_add_one, List.getElem?_eq_getElem hi, Option.toList, List.map_append, List.map_cons, List.map_nil, List.append_assoc]
  have hH : h ++ ⟨eSt s vt vp vs vi va vb, 0, .own⟩ :: (u ++ [⟨.node [eCi s.bans[i].who], 0, .own⟩]) = (h ++ [⟨eSt s vt vp vs vi va vb, 0, .own⟩]) ++ (u ++ [⟨.node [eCi s.bans[i].who], 0, .own⟩]) := by simp
  rw [hH]
  refine appW_rnU (new := [eCi s.bans[i].who]) tCipher_x (fun _ => rfl) (by simp) hr (by rw [← hH, mElems_row]; simp) (by simp; omega) (by omega) fun x' u' g1 g2 g3 g4 => ?_
  rw [hnext] at g1
  simp only [List.append_assoc, List.cons_append, List.nil_append]
  have ff := aI e1 (aI e3 (aI e4 (aI ta (aI l1 (aI l2 (aI l3 l4))))))
  refine runRf3_0 (x := ?_)
  clear ff
  exact .inl ⟨by simp, _, u', x', rfl, by simp [e1], by simp, by simp, by simpa only [List.append_assoc, List.nil_append] using g1⟩
 rintro st ⟨env', u, x, rfl, e1, e3, e4, hr⟩
 rw [List.take_length] at hr
 have ff := aI e1 (aI e3 (aI e4 (aI ta (aI l1 (aI l2 (aI l3 l4))))))
 refine runRf3_0 (x := ?_)
 clear ff
 refine ⟨by simp, ?_⟩
 have ff := aI e1 (aI e3 (aI e4 (aI ta (aI l1 (aI l2 (aI l3 l4))))))
 refine runRf3_0 (x := ?_)
 clear ff
 exact ⟨x, u, by simp [oneOrTuple, e3], hr⟩
theorem ciphers_pts (s : Stt) : (ciphers s).map (·.e) = pts s := by
 simp only [ciphers, pts, sE, iE, aE, bE, List.map_append, List.map_map]; rfl
theorem pts_get {s : Stt} {i : Nat} (hi : i < (ciphers s).length) : (pts s).getD i pt0 = (ciphers s)[i].e := by
 rw [← ciphers_pts, List.getD_eq_getElem?_getD, List.getElem?_map, List.getElem?_eq_getElem hi]; rfl
theorem c38 {h : Heap} {x : AV} {s : Stt} {a b : Nat} (hx : Row tCipher h x ((ciphers s).map eCi)) (hb : b ≤ (ciphers s).length) (ha : a ≤ b) : SpecQ Tryz.prog 38 [x, nat a, nat b] h fun r => r = (.bool (adjB (pts s) a b), h) := by
 have bx := hx.bound
 rw [List.length_map] at bx
 refine SpecQ.drop1 rfl (q38 fun env g0 g1 g2 => ?_)
 have ff := aI g0 (aI g1 g2)
 refine runRf3_1 (x := ?_)
 clear ff
 refine loop_up (b - (a + 1)) (fun i st => ∃ env', st = ⟨env', h⟩ ∧ env'.get 0 = x ∧ env'.get 2 = nat b ∧ env'.get 7 = nat (a + 1 + i) ∧ ∀ j, a < j → j < a + 1 + i → adjAt (pts s) j = true) ?_ ?_ ⟨_, rfl, by simp [g0], by simp [g2], by simp, fun j h1 h2 => absurd h1 (by omega)⟩
 ·rintro i st hi ⟨env', rfl, e0, e2, e7, hgood⟩
  obtain ⟨m, hm⟩ : ∃ m, a + 1 + i = m + 1 := ⟨a + i, by omega⟩
  rw [hm] at e7 hgood
  have hlt : m + 1 < b := by omega
  obtain ⟨pb, pv, pp, bb, p1, p2, p3, p4⟩ := hx.idxE (i := m + 1) (by omega)
  obtain ⟨qb, qv, qp, cc, q1, q2, q3, q4⟩ := hx.idxE (i := m) (by omega)
  have p2' := p2 []
  have q2' := q2 []
  rw [List.append_nil] at p2' q2'
  have hadj : adjAt (pts s) (m + 1) = ltP (ciphers s)[m].e (ciphers s)[m + 1].e := by
   unfold adjAt; rw [Nat.add_sub_cancel, pts_get (by omega), pts_get (by omega)]
  have hnx : a + 1 + (i + 1) = m + 1 + 1 := by omega
  rw [hnx]
  cases hl : ltP (ciphers s)[m].e (ciphers s)[m + 1].e
  ·rw [hl] at hadj
   have ff := aI e0 (aI e2 (aI e7 (aI hlt (aI p1 (aI p2' (aI p3 (aI p4 (aI q1 (aI q2' (aI q3 (aI q4 hl)))))))))))
   refine runRf3_2 (x := ?_)
   clear ff
   refine .inr ⟨by simp, ?_⟩
   have ff := e0
   refine runRf3_1 (x := ?_)
   clear ff
   have : adjB (pts s) a b = false := all_no hlt (by rw [hadj, Bool.or_false, decide_eq_false_iff_not]; omega)
   exact ⟨[], by simp [oneOrTuple, this]⟩
  ·rw [hl] at hadj
   have ff := aI e0 (aI e2 (aI e7 (aI hlt (aI p1 (aI p2' (aI p3 (aI p4 (aI q1 (aI q2' (aI q3 (aI q4 hl)))))))))))
   refine runRf3_2 (x := ?_)
   clear ff
   refine .inl ⟨by simp, _, rfl, by simp [e0], by simp [e2], by simp, fun j h1 h2 => ?_⟩
   by_cases hj : j = m + 1
   ·rw [hj]; exact hadj
   ·exact hgood j h1 (by omega)
 ·rintro st ⟨env', rfl, e0, e2, e7, hgood⟩
  have hnl : ¬ (a + 1 + (b - (a + 1)) < b) := by omega
  have ff := aI e0 (aI e2 (aI e7 hnl))
  refine runRf3_1 (x := ?_)
  clear ff
  refine ⟨by simp, ?_⟩
  have ff := e0
  refine runRf3_1 (x := ?_)
  clear ff
  have : adjB (pts s) a b = true := all_yes fun i hi => by
   by_cases hle : i ≤ a
   ·simp [hle]
   ·simp [hgood i (by omega) (by omega)]
  exact ⟨[], by simp [oneOrTuple, this]⟩
set_option maxHeartbeats 8000000 in
set_option maxRecDepth 20000 in
theorem c23 {h : Heap} {s : Stt} {vt vp vs vi va vb : AV} (ra : StR h s vt vp vs vi va vb) (hsh : shortL s) : SpecQ Tryz.prog 23 [eSt s vt vp vs vi va vb] h fun r => r = (.bool (mayS s), h) := by
 have ta := ra.cells
 have lt := ra.ft.len
 have lp := ra.fp.len
 have l1 := ra.fs.len
 have l2 := ra.fi.len
 have l3 := ra.fa.len
 have l4 := ra.fb.len
 rw [List.length_map] at l1 l2 l3 l4
 rw [← mayR_eq]
 have hcl := ciphers_len s
 have hpl := pts_len s
 refine SpecQ.drop1 rfl (q23 fun env g0 => ?_)
 cases hs : shapeR s
 ·have hm : mayR s = false := by unfold mayR; rw [hs]; rfl
  rw [hm]
  unfold shapeR at hs
  simp only [Bool.not_eq_false'] at hs
  repeat' (first | ((with_reducible refine evs_of (a := ?_) ?_ ?_); rotate_left; (focus ((conv => lhs; simp (disch := omega) [g0, ta, lt, lp]); done)); try dsimp only) | ((with_reducible refine gW_do ?_ ?_); (focus (simp (disch := omega) [g0, ta, lt, lp]; done))) | ((with_reducible refine gW_no ?_ ?_); (focus (simp (disch := omega) [g0, ta, lt, lp]; done)); try dsimp only) | ((with_reducible refine gW_un ?_ ?_); (focus (simp (disch := omega) [g0, ta, lt, lp]; done)); try dsimp only) | ((with_reducible refine cndW_T ?_ ?_); (focus (simp (disch := omega) [g0, ta, lt, lp] <;> omega))) | ((with_reducible refine cndW_F ?_ ?_); (focus (simp (disch := omega) [g0, ta, lt, lp] <;> omega))) | (with_reducible refine wL_i ?_) | (with_reducible refine SpecQ.step (c37) ?_; rintro _ rfl; try dsimp only) | ((with_reducible refine SpecA_i (args' := ?_) ?_ ?_); rotate_left; (focus ((conv => lhs; simp (disch := omega) [g0, ta, lt, lp]); done))) | (simp (decide := true) only [sn23, sqW_nrm, sqW_exit, sqW_ret, inBlk_nrm, inBlk_ret, inBlk_same, inBlk_exit, if_true, if_false, retW_nrm, retW_ret]) | (with_reducible refine n23_42_w _ _ _ ?_) | (with_reducible refine n23_7_w _ _ _ ?_) | ((with_reducible refine cndW_splitE (b := ?_) ?_ ?_ ?_); rotate_left; (focus ((conv => lhs; simp (disch := omega) [g0, ta, lt, lp]); done)); all_goals ((intro hb; try simp only [Bool.not_true, Bool.not_false] at hb); try simp only [hb])) | ((with_reducible refine gv_splitE (b := ?_) ?_ ?_ ?_); rotate_left; (focus ((conv => lhs; simp (disch := omega) [g0, ta, lt, lp]); done)); all_goals ((intro hb; try simp only [Bool.not_true, Bool.not_false] at hb); try simp only [hb])) | ((with_reducible refine gW_splitE (b := ?_) ?_ ?_ ?_); rotate_left; (focus ((conv => lhs; simp (disch := omega) [g0, ta, lt, lp]); done)); all_goals ((intro hb; try simp only [Bool.not_true, Bool.not_false] at hb); try simp only [hb])) | (with_reducible refine gv_split ?_ ?_ <;> (intro hb; try simp only [Bool.not_true, Bool.not_false] at hb) <;> try simp only [hb]) | (with_reducible refine gW_split ?_ ?_ <;> (intro hb; try simp only [Bool.not_true, Bool.not_false] at hb) <;> try simp only [hb]) | (with_reducible refine cndW_split ?_ ?_ <;> (intro hb; try simp only [Bool.not_true, Bool.not_false] at hb) <;> try simp only [hb]))
  all_goals first
   | exact fin_b rfl
   | (exfalso; simp_all; done)
 ·have hs' := hs
  simp only [shapeR, Bool.not_eq_true', Bool.or_eq_false_iff, Bool.and_eq_false_iff, decide_eq_false_iff_not, Bool.not_eq_false', decide_eq_true_eq] at hs'
  obtain ⟨⟨s1, s2⟩, s3⟩ := hs'
  rcases s2 with s2 | s2
  all_goals
   cases hl : lensR s
   ·have hm : mayR s = false := by unfold mayR; rw [hl, Bool.false_and, Bool.and_false]
    rw [hm]
    unfold lensR at hl
    simp only [Bool.not_eq_false'] at hl
    repeat' (first | ((with_reducible refine evs_of (a := ?_) ?_ ?_); rotate_left; (focus ((conv => lhs; simp (disch := omega) [g0, ta, lt, lp, l1, l2, l3, l4, s1, s2, s3]); done)); try dsimp only) | ((with_reducible refine gW_do ?_ ?_); (focus (simp (disch := omega) [g0, ta, lt, lp, l1, l2, l3, l4, s1, s2, s3]; done))) | ((with_reducible refine gW_no ?_ ?_); (focus (simp (disch := omega) [g0, ta, lt, lp, l1, l2, l3, l4, s1, s2, s3]; done)); try dsimp only) | ((with_reducible refine gW_un ?_ ?_); (focus (simp (disch := omega) [g0, ta, lt, lp, l1, l2, l3, l4, s1, s2, s3]; done)); try dsimp only) | ((with_reducible refine cndW_T ?_ ?_); (focus (simp (disch := omega) [g0, ta, lt, lp, l1, l2, l3, l4, s1, s2, s3] <;> omega))) | ((with_reducible refine cndW_F ?_ ?_); (focus (simp (disch := omega) [g0, ta, lt, lp, l1, l2, l3, l4, s1, s2, s3] <;> omega))) | (with_reducible refine wL_i ?_) | (with_reducible refine SpecQ.step (c37) ?_; rintro _ rfl; try dsimp only) | ((with_reducible refine SpecA_i (args' := ?_) ?_ ?_); rotate_left; (focus ((conv => lhs; simp (disch := omega) [g0, ta, lt, lp, l1, l2, l3, l4, s1, s2, s3]); done))) | (simp (decide := true) only [sn23, sqW_nrm, sqW_exit, sqW_ret, inBlk_nrm, inBlk_ret, inBlk_same, inBlk_exit, if_true, if_false, retW_nrm, retW_ret]) | (with_reducible refine n23_42_w _ _ _ ?_) | (with_reducible refine n23_7_w _ _ _ ?_) | ((with_reducible refine cndW_splitE (b := ?_) ?_ ?_ ?_); rotate_left; (focus ((conv => lhs; simp (disch := omega) [g0, ta, lt, lp, l1, l2, l3, l4, s1, s2, s3]); done)); all_goals ((intro hb; try simp only [Bool.not_true, Bool.not_false] at hb); try simp only [hb])) | ((with_reducible refine gv_splitE (b := ?_) ?_ ?_ ?_); rotate_left; (focus ((conv => lhs; simp (disch := omega) [g0, ta, lt, lp, l1, l2, l3, l4, s1, s2, s3]); done)); all_goals ((intro hb; try simp only [Bool.not_true, Bool.not_false] at hb); try simp only [hb])) | ((with_reducible refine gW_splitE (b := ?_) ?_ ?_ ?_); rotate_left; (focus ((conv => lhs; simp (disch := omega) [g0, ta, lt, lp, l1, l2, l3, l4, s1, s2, s3]); done)); all_goals ((intro hb; try simp only [Bool.not_true, Bool.not_false] at hb); try simp only [hb])) | (with_reducible refine gv_split ?_ ?_ <;> (intro hb; try simp only [Bool.not_true, Bool.not_false] at hb) <;> try simp only [hb]) | (with_reducible refine gW_split ?_ ?_ <;> (intro hb; try simp only [Bool.not_true, Bool.not_false] at hb) <;> try simp only [hb]) | (with_reducible refine cndW_split ?_ ?_ <;> (intro hb; try simp only [Bool.not_true, Bool.not_false] at hb) <;> try simp only [hb]))
    all_goals first
     | exact fin_b rfl
     | (exfalso; simp_all; done)
   ·have hl' := hl
    simp only [lensR, Bool.not_eq_true', Bool.or_eq_false_iff, decide_eq_false_iff_not] at hl'
    obtain ⟨⟨⟨n1, n2⟩, n3⟩, n4⟩ := hl'
    have ff := aI g0 (aI ta (aI lt (aI lp (aI l1 (aI l2 (aI l3 (aI l4 (aI s1 (aI s2 (aI s3 (aI n1 (aI n2 (aI n3 n4)))))))))))))
    refine runRf3_3 (x := ?_)
    clear ff
    refine SpecQ.step (c25 (ra.app _) hsh) ?_
    rintro ⟨y, h2⟩ ⟨y', u, e, hr⟩
    cases e
    have hx : Row tCipher (h ++ ⟨eSt s vt vp vs vi va vb, 0, .own⟩ :: ⟨eSt s vt vp vs vi va vb, 0, .own⟩ :: u) y ((ciphers s).map eCi) := by
     have := hr.row (F := h ++ [⟨eSt s vt vp vs vi va vb, 0, .own⟩] ++ [⟨eSt s vt vp vs vi va vb, 0, .own⟩]) (l := []) tCipher_x (by simp)
     simpa using this
    simp only [List.append_assoc, List.cons_append, List.nil_append]
    have ly := hx.len
    rw [List.length_map] at ly
    have ff := aI g0 (aI ta (aI lt (aI lp (aI l1 (aI l2 (aI l3 l4))))))
    refine runRf3_4 (x := ?_)
    clear ff
    refine SpecQ.step (c38 (s := s) (a := 0) (b := s.seats.length) hx (by omega) (by omega)) ?_
    rintro _ rfl
    cases b0 : adjB (pts s) 0 s.seats.length
    ·have ff := aI g0 (aI ta (aI lt (aI lp (aI l1 (aI l2 (aI l3 l4))))))
     refine runRf3_4 (x := ?_)
     clear ff
     refine fin_b ?_
     unfold mayR adjR; rw [b0]; simp
    have ff := aI g0 (aI ta (aI lt (aI lp (aI l1 (aI l2 (aI l3 l4))))))
    refine runRf3_4 (x := ?_)
    clear ff
    refine SpecQ.step (c38 (s := s) (a := s.seats.length) (b := s.seats.length + s.invites.length) hx (by omega) (by omega)) ?_
    rintro _ rfl
    cases b1 : adjB (pts s) s.seats.length (s.seats.length + s.invites.length)
    ·have ff := aI g0 (aI ta (aI lt (aI lp (aI l1 (aI l2 (aI l3 l4))))))
     refine runRf3_4 (x := ?_)
     clear ff
     refine fin_b ?_
     unfold mayR adjR; rw [b0, b1]; simp
    have ff := aI g0 (aI ta (aI lt (aI lp (aI l1 (aI l2 (aI l3 l4))))))
    refine runRf3_4 (x := ?_)
    clear ff
    refine SpecQ.step (c38 (s := s) (a := s.seats.length + s.invites.length) (b := s.seats.length + s.invites.length + s.asks.length) hx (by omega) (by omega)) ?_
    rintro _ rfl
    cases b2 : adjB (pts s) (s.seats.length + s.invites.length) (s.seats.length + s.invites.length + s.asks.length)
    ·have ff := aI g0 (aI ta (aI lt (aI lp (aI l1 (aI l2 (aI l3 l4))))))
     refine runRf3_4 (x := ?_)
     clear ff
     refine fin_b ?_
     unfold mayR adjR; rw [b0, b1, b2]; simp
    have ff := aI g0 (aI ta (aI lt (aI lp (aI l1 (aI l2 (aI l3 l4))))))
    refine runRf3_4 (x := ?_)
    clear ff
    refine SpecQ.step (c38 (s := s) (a := s.seats.length + s.invites.length + s.asks.length) (b := s.seats.length + s.invites.length + s.asks.length + s.bans.length) hx (by omega) (by omega)) ?_
    rintro _ rfl
    cases b3 : adjB (pts s) (s.seats.length + s.invites.length + s.asks.length) (s.seats.length + s.invites.length + s.asks.length + s.bans.length)
    ·have ff := aI g0 (aI ta (aI lt (aI lp (aI l1 (aI l2 (aI l3 l4))))))
     refine runRf3_4 (x := ?_)
     clear ff
     refine fin_b ?_
     unfold mayR adjR; rw [b0, b1, b2, b3]; simp
    have hadj : adjR s = true := by unfold adjR; rw [b0, b1, b2, b3]; rfl
    have ff := aI g0 (aI ta (aI lt (aI lp (aI l1 (aI l2 (aI l3 l4))))))
    refine runRf3_4 (x := ?_)
    clear ff
    clear hr
    obtain ⟨T, hT⟩ : ∃ T, (⟨eSt s vt vp vs vi va vb, 0, .own⟩ :: ⟨eSt s vt vp vs vi va vb, 0, .own⟩ :: u : Heap) = T := ⟨_, rfl⟩
    have cst : blkAt (h ++ T) h.length 0 = some ⟨eSt s vt vp vs vi va vb, 0, .own⟩ := by rw [← hT]; simp
    rw [hT] at hx ⊢
    clear hT
    have hbound := hx.bound
    rw [List.length_map] at hbound
    refine loop_up (ciphers s).length (fun i st => ∃ env', st = ⟨env', h ++ T⟩ ∧ env'.get 1 = .ptr h.length 0 [] tState ∧ env'.get 3 = nat s.seats.length ∧ env'.get 4 = nat s.invites.length ∧ env'.get 7 = y ∧ env'.get 8 = nat i ∧ ∀ j, j < i → nodAt (pts s) j = true) ?_ ?_ ⟨_, rfl, by simp, by simp, by simp, by simp, by simp, fun j hj => absurd hj (by omega)⟩
    ·rintro i st hi ⟨env', rfl, e1, e3, e4, e7, e8, hgood⟩
     have ff := aI e1 (aI e3 (aI e4 (aI e7 (aI e8 ly))))
     refine runRf3_4 (x := ?_)
     clear ff
     refine loop_up i (fun k st => ∃ env', st = ⟨env', h ++ T⟩ ∧ env'.get 1 = .ptr h.length 0 [] tState ∧ env'.get 3 = nat s.seats.length ∧ env'.get 4 = nat s.invites.length ∧ env'.get 7 = y ∧ env'.get 8 = nat i ∧ env'.get 9 = nat k ∧ ∀ j, j < k → (pts s).getD i pt0 ≠ (pts s).getD j pt0) ?_ ?_ ⟨_, rfl, by simp [e1], by simp [e3], by simp [e4], by simp [e7], by simp [e8], by simp, fun j hj => absurd hj (by omega)⟩
     ·rintro k st hk ⟨env', rfl, e1, e3, e4, e7, e8, e9, hne⟩
      obtain ⟨pb, pv, pp, bb, p1, p2, p3, p4⟩ := hx.idxE hi
      obtain ⟨qb, qv, qp, cc, q1, q2, q3, q4⟩ := hx.idxE (i := k) (by omega)
      have p2' := p2 []
      have q2' := q2 []
      rw [List.append_nil] at p2' q2'
      by_cases hq : (ciphers s)[i].e = (ciphers s)[k].e
      ·have hno : nodB (pts s) = false := all_no (i := i) (by omega) (by
        unfold nodAt
        exact all_no hk (by rw [pts_get hi, pts_get (by omega), hq]; simp))
       have ff := aI e1 (aI e3 (aI e4 (aI e7 (aI e8 (aI e9 (aI p1 (aI p2' (aI p3 (aI p4 (aI q1 (aI q2' (aI q3 (aI q4 hq)))))))))))))
       refine runRf3_4 (x := ?_)
       clear ff
       refine .inr ⟨by simp, ?_⟩
       have ff := e1
       refine runRf3_4 (x := ?_)
       clear ff
       refine .inr ⟨by simp, ?_⟩
       have ff := e1
       refine runRf3_4 (x := ?_)
       clear ff
       refine fin_b ?_
       unfold mayR; rw [hno]; simp
      ·have ff := aI e1 (aI e3 (aI e4 (aI e7 (aI e8 (aI e9 (aI p1 (aI p2' (aI p3 (aI p4 (aI q1 (aI q2' (aI q3 (aI q4 hq)))))))))))))
       refine runRf3_4 (x := ?_)
       clear ff
       refine .inl ⟨by simp, _, rfl, by simp [e1], by simp [e3], by simp [e4], by simp [e7], by simp [e8], by simp, fun j hj => ?_⟩
       by_cases hji : j = k
       ·rw [hji, pts_get hi, pts_get (by omega)]; exact hq
       ·exact hne j (by omega)
     ·rintro st ⟨env', rfl, e1, e3, e4, e7, e8, e9, hne⟩
      have ff := aI e1 (aI e3 (aI e4 (aI e7 (aI e8 e9))))
      refine runRf3_4 (x := ?_)
      clear ff
      refine ⟨by simp, ?_⟩
      have ff := aI e1 (aI e3 (aI e4 (aI e7 (aI e8 e9))))
      refine runRf3_4 (x := ?_)
      clear ff
      refine .inl ⟨by simp, _, rfl, by simp [e1], by simp [e3], by simp [e4], by simp [e7], by simp, fun j hj => ?_⟩
      by_cases hji : j = i
      ·subst hji
       unfold nodAt
       exact all_yes fun k hk => by simpa using hne k hk
      ·exact hgood j (by omega)
    rintro st ⟨env', rfl, e1, e3, e4, e7, e8, hgood⟩
    have hnod : nodB (pts s) = true := all_yes fun i hi => hgood i (by omega)
    have ff := aI e1 (aI e3 (aI e4 (aI e7 (aI e8 ly))))
    refine runRf3_4 (x := ?_)
    clear ff
    refine ⟨by simp, ?_⟩
    have ff := aI e1 (aI e3 (aI e4 (aI e7 (aI e8 ly))))
    refine runRf3_4 (x := ?_)
    clear ff
    refine loop_up s.seats.length (fun i st => ∃ env', st = ⟨env', h ++ T⟩ ∧ env'.get 1 = .ptr h.length 0 [] tState ∧ env'.get 3 = nat s.seats.length ∧ env'.get 4 = nat s.invites.length ∧ env'.get 10 = nat i ∧ ∀ j (hj : j < s.seats.length), j < i → roleOk s.seats[j].role = true) ?_ ?_ ⟨_, rfl, by simp [e1], by simp [e3], by simp [e4], by simp, fun j _ hj => absurd hj (by omega)⟩
    ·rintro i st hi ⟨env', rfl, e1, e3, e4, e10, hgood⟩
     obtain ⟨pb, pv, pp, bb, p1, p2, p3, p4⟩ := ra.fs.idxE hi
     cases hr : roleOk s.seats[i].role
     ·have ff := aI e1 (aI e3 (aI e4 (aI e10 (aI ta (aI cst (aI p1 (aI p2 (aI p3 (aI p4 hr)))))))))
      refine runRf3_5 (x := ?_)
      clear ff
      refine .inr ⟨by simp, ?_⟩
      have ff := e1
      refine runRf3_4 (x := ?_)
      clear ff
      refine fin_b ?_
      have : (s.seats.all fun x => roleOk x.role) = false := by
       rw [List.all_eq_false]; exact ⟨_, List.getElem_mem hi, by simp [hr]⟩
      unfold mayR; rw [this]; simp
     ·have ff := aI e1 (aI e3 (aI e4 (aI e10 (aI ta (aI cst (aI p1 (aI p2 (aI p3 (aI p4 hr)))))))))
      refine runRf3_5 (x := ?_)
      clear ff
      refine .inl ⟨by simp, _, rfl, by simp [e1], by simp [e3], by simp [e4], by simp, fun j hj hji => ?_⟩
      by_cases hq : j = i
      ·subst hq; exact hr
      ·exact hgood j hj (by omega)
    rintro st ⟨env', rfl, e1, e3, e4, e10, hgood⟩
    have hr1 : (s.seats.all fun x => roleOk x.role) = true := by
     rw [List.all_eq_true]
     intro x hx
     obtain ⟨j, hj, rfl⟩ := List.getElem_of_mem hx
     exact hgood j hj hj
    have ff := aI e1 (aI e3 (aI e4 e10))
    refine runRf3_4 (x := ?_)
    clear ff
    refine ⟨by simp, ?_⟩
    have ff := aI e1 (aI e3 (aI e4 e10))
    refine runRf3_4 (x := ?_)
    clear ff
    refine loop_up s.invites.length (fun i st => ∃ env', st = ⟨env', h ++ T⟩ ∧ env'.get 1 = .ptr h.length 0 [] tState ∧ env'.get 3 = nat s.seats.length ∧ env'.get 4 = nat s.invites.length ∧ env'.get 11 = nat i ∧ ∀ j (hj : j < s.invites.length), j < i → roleOk s.invites[j].role = true) ?_ ?_ ⟨_, rfl, by simp [e1], by simp [e3], by simp [e4], by simp, fun j _ hj => absurd hj (by omega)⟩
    ·rintro i st hi ⟨env', rfl, e1, e3, e4, e10, hgood⟩
     obtain ⟨pb, pv, pp, bb, p1, p2, p3, p4⟩ := ra.fi.idxE hi
     cases hr : roleOk s.invites[i].role
     ·have ff := aI e1 (aI e3 (aI e4 (aI e10 (aI ta (aI cst (aI p1 (aI p2 (aI p3 (aI p4 hr)))))))))
      refine runRf3_5 (x := ?_)
      clear ff
      refine .inr ⟨by simp, ?_⟩
      have ff := e1
      refine runRf3_4 (x := ?_)
      clear ff
      refine fin_b ?_
      have : (s.invites.all fun x => roleOk x.role) = false := by
       rw [List.all_eq_false]; exact ⟨_, List.getElem_mem hi, by simp [hr]⟩
      unfold mayR; rw [this]; simp
     ·have ff := aI e1 (aI e3 (aI e4 (aI e10 (aI ta (aI cst (aI p1 (aI p2 (aI p3 (aI p4 hr)))))))))
      refine runRf3_5 (x := ?_)
      clear ff
      refine .inl ⟨by simp, _, rfl, by simp [e1], by simp [e3], by simp [e4], by simp, fun j hj hji => ?_⟩
      by_cases hq : j = i
      ·subst hq; exact hr
      ·exact hgood j hj (by omega)
    rintro st ⟨env', rfl, e1, e3, e4, e10, hgood⟩
    have hr2 : (s.invites.all fun x => roleOk x.role) = true := by
     rw [List.all_eq_true]
     intro x hx
     obtain ⟨j, hj, rfl⟩ := List.getElem_of_mem hx
     exact hgood j hj hj
    have ff := aI e1 (aI e3 (aI e4 e10))
    refine runRf3_4 (x := ?_)
    clear ff
    refine ⟨by simp, ?_⟩
    have ff := aI e1 (aI e3 (aI e4 e10))
    refine runRf3_4 (x := ?_)
    clear ff
    refine fin_b ?_
    unfold mayR; rw [hs, hl, hadj, hnod, hr1, hr2]; rfl
end Go.Vab

/- How the code of a function is read. Printed by wip/tools/gen2.py and gen3.py (own work). -/
namespace Go.Vab
open Go Go.Proofs
noncomputable section
def cx5 : Ctx := ⟨fun _ _ _ => none,TT,157,[18,19,21,22,23,24,25,26,28,29,30,32,33,34,35,36,37,38,39,40,41,42,43,44,46,47,48,49,50,51,52,53,54,55,56,57,59,60,61,63,64,65,66,67,68,69,70,71,72,73,74,75,76,77,78,79,80,81,82,83,84,85,86,87,88,89,90,92,93,94,95,96,97,98,99,101,102,103,104,105,106,107,108,109,110,111,112,113,114,115,116,117,118,119,120,121,122,123,124,125,126,128,129,130,131,132,133,134,135,136,137,138,139,140,141,142,143,144,145,146,147,148,149,150,151,152,153,155,156]⟩
def n5_0 := bodyOf Tryz.f5
def n5_1 := cR n5_0
def n5_2 := cL n5_1
def n5_3 := cR n5_2
def n5_4 := cL n5_3
def n5_5 := cR n5_4
def n5_6 := cR n5_3
def n5_7 := cR n5_1
def n5_8 := cR n5_7
def n5_9 := cL n5_8
def n5_10 := cR n5_9
def n5_11 := cL n5_10
def n5_12 := cR n5_11
def n5_13 := cR n5_10
def n5_14 := cR n5_8
def n5_15 := cL n5_14
def n5_16 := cR n5_15
def n5_17 := cB n5_16
def n5_18 := cB n5_17
def n5_19 := cL n5_18
def n5_20 := cR n5_19
def n5_21 := cL n5_20
def n5_22 := cR n5_20
def n5_23 := cR n5_18
def n5_24 := cL n5_23
def n5_25 := cB n5_24
def n5_26 := cR n5_25
def n5_27 := cR n5_26
def n5_28 := cL n5_27
def n5_29 := cR n5_28
def n5_30 := cL n5_29
def n5_31 := cR n5_29
def n5_32 := cR n5_27
def n5_33 := cR n5_32
def n5_34 := cL n5_33
def n5_35 := cR n5_34
def n5_36 := cL n5_35
def n5_37 := cL n5_36
def n5_38 := cR n5_37
def n5_39 := cL n5_38
def n5_40 := cR n5_39
def n5_41 := cR n5_38
def n5_42 := cR n5_36
def n5_43 := cR n5_35
def n5_44 := cR n5_33
def n5_45 := cL n5_44
def n5_46 := cR n5_45
def n5_47 := cL n5_46
def n5_48 := cR n5_47
def n5_49 := cR n5_46
def n5_50 := cR n5_44
def n5_51 := cR n5_50
def n5_52 := cL n5_51
def n5_53 := cR n5_52
def n5_54 := cB n5_53
def n5_55 := cB n5_54
def n5_56 := cL n5_55
def n5_57 := cR n5_56
def n5_58 := cL n5_57
def n5_59 := cR n5_57
def n5_60 := cR n5_55
def n5_61 := cL n5_60
def n5_62 := cB n5_61
def n5_63 := cR n5_62
def n5_64 := cL n5_63
def n5_65 := cR n5_64
def n5_66 := cL n5_65
def n5_67 := cR n5_65
def n5_68 := cR n5_63
def n5_69 := cR n5_68
def n5_70 := cR n5_69
def n5_71 := cR n5_70
def n5_72 := cL n5_71
def n5_73 := cR n5_72
def n5_74 := cR n5_71
def n5_75 := cR n5_60
def n5_76 := cR n5_51
def n5_77 := cR n5_23
def n5_78 := cR n5_14
def n5_79 := cR n5_78
theorem fn5 : Tryz.prog.funcs[5]? = some Tryz.f5 := by kernel_rfl
def q5 := zQ1 cx5 5 Tryz.f5 n5_0 fun s => (bnd (some (s.env.get 2)) fun v => bnd (some []) fun vs => some (v :: vs))
set_option maxRecDepth 20000
set_option maxHeartbeats 4000000
def n5_64_w := zDr cx5 [n5_65,n5_64] [] [0,0,0,6,14,30,63,127,255,255,767,2047,4095,8191,16383,16383,49151,114687,262143,524287] [0,1,2,3,4,5,6,7,8,9,10,11,12,13,14,15,16,17,18,19] .f
def n5_50_w := zDr cx5 [n5_51,n5_50] [1,3,4] [0,1,0,7,15,31] [0,2] (.o 1 [] [2] (.o 3 [] [] (.o 4 [5] [] .f)))
def n5_32_w := zDr cx5 [n5_33,n5_32] [7,11,12] [0,0,0,6,14,30,0,127,255,511,511,0,3071,8191] [0,1,2,3,4,5,6] (.b 7 [8,9,10] [] (.o 11 [] [0,5,6] (.o 12 [13] [] .f)) (.o 11 [] [0,5,6] (.o 7 [8,9,10] [] (.o 12 [13] [] .f))))
def sn5 := zAll cx5 [[n5_5],[n5_5,n5_4],[n5_6],[n5_4,n5_6,n5_3],[n5_3,n5_2],[n5_12],[n5_12,n5_11],[n5_13],[n5_11,n5_13,n5_10],[n5_10,n5_9],[n5_21],[n5_22],[n5_21,n5_22,n5_20],[n5_20,n5_19],[n5_30],[n5_31],[n5_30,n5_31,n5_29],[n5_29,n5_28],[n5_40],[n5_40,n5_39],[n5_41],[n5_39,n5_41,n5_38],[n5_38,n5_37],[n5_42],[n5_37,n5_42,n5_36],[n5_43],[n5_36,n5_43,n5_35],[n5_35,n5_34],[n5_48],[n5_48,n5_47],[n5_49],[n5_47,n5_49,n5_46],[n5_46,n5_45],[n5_58],[n5_59],[n5_58,n5_59,n5_57],[n5_57,n5_56],[n5_66],[n5_67],[n5_66,n5_67,n5_65],[n5_73],[n5_73,n5_72],[n5_74],[n5_72,n5_74,n5_71],[n5_71,n5_70],[n5_70,n5_69],[n5_69,n5_68],[n5_64,n5_68,n5_63],[n5_63,n5_62],[n5_62,n5_61],[n5_75],[n5_61,n5_75,n5_60],[n5_56,n5_60,n5_55],[n5_55,n5_54],[n5_54,n5_53],[n5_53,n5_52],[n5_76],[n5_52,n5_76,n5_51],[n5_45,n5_50,n5_44],[n5_34,n5_44,n5_33],[n5_28,n5_32,n5_27],[n5_27,n5_26],[n5_26,n5_25],[n5_25,n5_24],[n5_77],[n5_24,n5_77,n5_23],[n5_19,n5_23,n5_18],[n5_18,n5_17],[n5_17,n5_16],[n5_16,n5_15],[n5_79],[n5_79,n5_78],[n5_15,n5_78,n5_14],[n5_9,n5_14,n5_8],[n5_8,n5_7],[n5_2,n5_7,n5_1],[n5_1,n5_0]]
end
end Go.Vab

/-
  A group's life, action by action; walked.
-/
namespace Go.Vab
open Go Go.Proofs
theorem runRp23_0 {G X : Prop} (f : Hd X → G := by
 intro xX
 repeat' (first | refine stp (x := ?_) | (with_reducible refine bothP_i ?_ ?_) | (simp (decide := true) only [sn5, snB, if_true, if_false]) | (with_reducible refine n5_64_w _ _ _ ?_) | (with_reducible refine n5_50_w _ _ _ ?_) | (with_reducible refine n5_32_w _ _ _ ?_))
 exact xX.get) (x : X) : G := f ⟨x⟩
theorem runRp23_1 {G X : Prop} (f : Hd X → G := by
 intro xX
 repeat' (first | refine stp (x := ?_) | (with_reducible refine bothP_i ?_ ?_) | (with_reducible refine SpecQ.step (c26 (ra.app _)) ?_; rintro _ rfl; try dsimp only) | (with_reducible refine stabP_i (c26 (ra.app _)) ?_) | (with_reducible refine SpecQ.step (c26 (rz.app _)) ?_; rintro _ rfl; try dsimp only) | (with_reducible refine stabP_i (c26 (rz.app _)) ?_) | (simp (decide := true) only [sn5, snB, if_true, if_false]) | (with_reducible refine n5_64_w _ _ _ ?_) | (with_reducible refine n5_50_w _ _ _ ?_) | (with_reducible refine n5_32_w _ _ _ ?_))
 exact xX.get) (x : X) : G := f ⟨x⟩
theorem runRp23_2 {G X : Prop} (f : Hd X → G := by
 intro xX
 repeat' (first | refine stp (x := ?_) | (with_reducible refine bothP_i ?_ ?_) | (simp (decide := true) only [snB, if_true, if_false]) | (with_reducible refine n5_50_w _ _ _ ?_))
 exact xX.get) (x : X) : G := f ⟨x⟩
theorem runRp23_3 {G X : Prop} (f : Hd X → G := by
 intro xX
 repeat' (first | refine stp (x := ?_) | (with_reducible refine bothP_i ?_ ?_) | (simp (decide := true) only [snB, if_true, if_false]))
 exact xX.get) (x : X) : G := f ⟨x⟩
theorem runRp23_4 {G X : Prop} (f : Hd X → G := by
 intro xX
 repeat' (first | refine stp0 (x := ?_) | (with_reducible refine bothP_i ?_ ?_) | (simp (decide := true) only [snPl, snB, if_true, if_false]))
 exact xX.get) (x : X) : G := f ⟨x⟩
theorem runRp23_5 {G X : Prop} (f : Hd X → G := by
 intro xX
 repeat' (first | refine stp (x := ?_) | (with_reducible refine bothP_i ?_ ?_) | (simp (decide := true) only [snPl2, snB, if_true, if_false]))
 exact xX.get) (x : X) : G := f ⟨x⟩
theorem runRp23_6 {G X : Prop} (f : Hd X → G := by
 intro xX
 repeat' (first | refine stp (x := ?_) | (with_reducible refine bothP_i ?_ ?_) | (simp (decide := true) only [snPl3, snB, if_true, if_false]))
 exact xX.get) (x : X) : G := f ⟨x⟩
theorem runRp23_7 {G X : Prop} (f : Hd X → G := by
 intro xX
 repeat' (first | refine stp0 (x := ?_) | (with_reducible refine bothP_i ?_ ?_) | (simp (decide := true) only [snPl3, snB, if_true, if_false]))
 exact xX.get) (x : X) : G := f ⟨x⟩
theorem runRp23_8 {G X : Prop} (f : Hd X → G := by
 intro xX
 repeat' (first | refine stp (x := ?_) | (with_reducible refine bothP_i ?_ ?_) | (with_reducible refine SpecQ.step (c23 rzH (short_may mz)) ?_; rintro _ rfl; try dsimp only) | (with_reducible refine stabP_i (c23 rzH (short_may mz)) ?_) | (with_reducible refine SpecQ.step (c24 rzH) ?_; rintro _ rfl; try dsimp only) | (with_reducible refine stabP_i (c24 rzH) ?_) | (simp (decide := true) only [snPl3, snB, if_true, if_false]))
 exact xX.get) (x : X) : G := f ⟨x⟩
theorem runRp23_9 {G X : Prop} (f : Hd X → G := by
 intro xX
 repeat' (first | refine stp (x := ?_) | (with_reducible refine bothP_i ?_ ?_) | (with_reducible refine SpecQ.step (c10) ?_; rintro _ rfl; try dsimp only) | (with_reducible refine stabP_i (c10) ?_) | (simp (decide := true) only [snPl4, snB, if_true, if_false]))
 exact xX.get) (x : X) : G := f ⟨x⟩
theorem runRp23_10 {G X : Prop} (f : Hd X → G := by
 intro xX
 repeat' (first | refine stp (x := ?_) | (with_reducible refine bothP_i ?_ ?_) | (simp (decide := true) only [snPl4, snB, if_true, if_false]))
 exact xX.get) (x : X) : G := f ⟨x⟩
theorem runRp23_11 {G X Y : Prop} (f : Hd X → Hd Y → G := by
 intro xX yX
 repeat' (first | refine stp (x := ?_) | (with_reducible refine bothP_i ?_ ?_) | (simp (decide := true) only [snPl4, snB, if_true, if_false]) | (with_reducible refine n5_32_w _ _ _ ?_))
 ·exact xX.get
 ·exact yX.get) (x : X) (y : Y) : G := f ⟨x⟩ ⟨y⟩
theorem runRp23_12 {G X : Prop} (f : Hd X → G := by
 intro xX
 repeat' (first | refine stp (x := ?_) | (with_reducible refine bothP_i ?_ ?_) | (simp (decide := true) only [snPl4, snB, if_true, if_false]) | (with_reducible refine n5_32_w _ _ _ ?_))
 exact xX.get) (x : X) : G := f ⟨x⟩
theorem short_may {s : Stt} (h : mayS s = true) : shortL s := by
 obtain ⟨h1, h2, h3, h4⟩ := may_lens h
 exact ⟨by omega, by omega, by omega, by omega⟩
structure MvR (h : Heap) (x : AV) (us : List AV) : Prop where
 row : Row tMove h x us
 el : ∀ i (hi : i < us.length), ∃ (b : Pt) (a : Actn) (wt wp : AV), us[i] = .node [pt b, eAct a wt wp] ∧ ActR h a wt wp
set_option maxHeartbeats 4000000 in
theorem plays_in {G K junk : Heap} {env : Env} {s z : Stt} {vt vp vs vi va vb ut up us ui ua ub : AV} {b : Pt} {a : Actn} {wt wp lv x : AV} {p3 p6 p7 i : Nat} {ms : List AV} {es : List Ci} {Q : Ex × St → Prop} (hG : G = K ++ junk)
  (ra : StR K s vt vp vs vi va vb) (rz : StR K z ut up us ui ua ub) (rm : Row tMove K lv ms) (hi : i < ms.length) (hm : ms[i].get [0] = some (pt b)) (tc : hasTy wt .cell = true ∧ hasTy wp .cell = true) (rx : Row tCipher K x (es.map eCi))
  (e0 : env.get 0 = lv) (e3 : env.get 3 = .ptr p3 0 [] tState) (e5 : env.get 5 = nat i) (e6 : env.get 6 = .ptr p6 0 [] tAction) (e7 : env.get 7 = .ptr p7 0 [] tState) (e9 : env.get 9 = x)
  (c3 : K[p3]? = some ⟨eSt s vt vp vs vi va vb, 0, .own⟩) (c6 : K[p6]? = some ⟨eAct a wt wp, 0, .own⟩) (c7 : K[p7]? = some ⟨eSt z ut up us ui ua ub, 0, .own⟩)
  (keep : ∀ e : Pt, e ≠ b → e ≠ a.e → e ≠ a.who.e → placeP z e = placeP s e)
  (hQ : ∀ env' u, env'.get 0 = lv → env'.get 3 = .ptr p3 0 [] tState → env'.get 5 = nat i → env'.get 7 = .ptr p7 0 [] tState → Q (.nrm, ⟨env', K ++ u⟩)) :
  wC Tryz.prog cx5 n5_52 Q ⟨env, G⟩ := by
 subst hG
 have ta := ra.cells
 have tz := rz.cells
 have b3 := fun u => blkAt_app (blk_of c3) u
 have b6 := fun u => blkAt_app (blk_of c6) u
 have b7 := fun u => blkAt_app (blk_of c7) u
 have lx := rx.len
 have bx := rx.bound
 rw [List.length_map] at lx bx
 obtain ⟨pb, pv, pp, bb, p1, p2, p4, p5⟩ := rm.idxP hi
 have m0 : bb.v.get (pp ++ [0]) = some (pt b) := by rw [p5, hm]
 have ff := aI e0 (aI e3 (aI e5 (aI e6 (aI e7 e9))))
 refine runRp23_0 (x := ?_)
 clear ff
 refine loop_up es.length (fun k st => ∃ env' u, st = ⟨env', K ++ u⟩ ∧ env'.get 0 = lv ∧ env'.get 3 = .ptr p3 0 [] tState ∧ env'.get 5 = nat i ∧ env'.get 6 = .ptr p6 0 [] tAction ∧ env'.get 7 = .ptr p7 0 [] tState ∧ env'.get 9 = x ∧ env'.get 10 = nat k) ?_ ?_ ⟨_, junk, rfl, by simp [e0], by simp [e3], by simp [e5], by simp [e6], by simp [e7], by simp [e9], by simp⟩
 ·rintro k st hk ⟨env', u, rfl, e0, e3, e5, e6, e7, e9, e10⟩
  obtain ⟨qb, qv, qp, cc, q1, q2, q3, q4⟩ := rx.idxE hk
  have n0 : cc.v.get (qp ++ [0]) = some (pt es[k].e) := by rw [q4]; simp
  by_cases h1 : es[k].e = b
  ·have ff := aI e0 (aI e3 (aI e5 (aI e6 (aI e7 (aI e9 (aI e10 (aI lx (aI bx (aI q1 (aI q2 (aI n0 (aI p1 (aI p2 (aI m0 (aI b3 (aI b6 (aI b7 (aI tc (aI hk h1)))))))))))))))))))
   refine runRp23_0 (x := ?_)
   clear ff
   exact .inl ⟨by simp, _, _, rfl, by simp [e0], by simp [e3], by simp [e5], by simp [e6], by simp [e7], by simp [e9], by simp⟩
  by_cases h2 : es[k].e = a.e
  ·have g1 : ¬ a.e = b := fun q => h1 (h2.trans q)
   have ff := aI e0 (aI e3 (aI e5 (aI e6 (aI e7 (aI e9 (aI e10 (aI lx (aI bx (aI q1 (aI q2 (aI n0 (aI p1 (aI p2 (aI m0 (aI b3 (aI b6 (aI b7 (aI tc (aI hk (aI g1 h2))))))))))))))))))))
   refine runRp23_0 (x := ?_)
   clear ff
   exact .inl ⟨by simp, _, _, rfl, by simp [e0], by simp [e3], by simp [e5], by simp [e6], by simp [e7], by simp [e9], by simp⟩
  by_cases h3 : es[k].e = a.who.e
  ·have g1 : ¬ a.who.e = b := fun q => h1 (h3.trans q)
   have g2 : ¬ a.who.e = a.e := fun q => h2 (h3.trans q)
   have ff := aI e0 (aI e3 (aI e5 (aI e6 (aI e7 (aI e9 (aI e10 (aI lx (aI bx (aI q1 (aI q2 (aI n0 (aI p1 (aI p2 (aI m0 (aI b3 (aI b6 (aI b7 (aI tc (aI hk (aI g1 (aI g2 h3)))))))))))))))))))))
   refine runRp23_0 (x := ?_)
   clear ff
   exact .inl ⟨by simp, _, _, rfl, by simp [e0], by simp [e3], by simp [e5], by simp [e6], by simp [e7], by simp [e9], by simp⟩
  have hk' := keep _ h1 h2 h3
  have ff := aI e0 (aI e3 (aI e5 (aI e6 (aI e7 (aI e9 (aI e10 (aI lx (aI bx (aI q1 (aI q2 (aI n0 (aI p1 (aI p2 (aI m0 (aI b3 (aI b6 (aI b7 (aI ta (aI tz (aI tc (aI hk (aI h1 (aI h2 (aI h3 hk'))))))))))))))))))))))))
  refine runRp23_1 (x := ?_)
  clear ff
  exact .inl ⟨by simp, _, _, rfl, by simp [e0], by simp [e3], by simp [e5], by simp [e6], by simp [e7], by simp [e9], by simp⟩
 ·rintro st ⟨env', u, rfl, e0, e3, e5, e6, e7, e9, e10⟩
  have ff := aI e0 (aI e3 (aI e5 (aI e6 (aI e7 (aI e9 (aI e10 lx))))))
  refine runRp23_0 (x := ?_)
  clear ff
  exact ⟨by simp, hQ _ _ (by simp [e0]) (by simp [e3]) (by simp [e5]) (by simp [e7])⟩
set_option maxRecDepth 20000
def snPl := zAll cx5 [[n5_52,n5_76,n5_51]]
def snPl2 := zAll cx5 [[n5_76]]
theorem StR.cellz {G B : Heap} {c c' : Blk} {z : Stt} {ut up us ui ua ub : AV} (rz : StR (G ++ c :: B) z ut up us ui ua ub) (oz : ∀ y ∈ [ut, up, us, ui, ua, ub], ∀ b, rb y = some b → b ≠ G.length) : StR (G ++ c' :: B) z ut up us ui ua ub := rz.other fun y hy b hb => by
 have := oz y hy b hb
 have e : ∀ c0 : Blk, G ++ c0 :: B = G ++ ([] ++ c0 :: B) := fun c0 => by simp
 rw [e, e]
 exact cell_ne (A := []) (by simpa using this)
set_option maxHeartbeats 4000000 in
theorem plays_50 {G B : Heap} {env : Env} {s z : Stt} {vt vp vs vi va vb ut up us ui ua ub : AV} {b : Pt} {a : Actn} {wt wp lv : AV} {p6 p7 i : Nat} {ms : List AV} {Q : Ex × St → Prop}
  (ra : StR (G ++ ⟨eSt s vt vp vs vi va vb, 0, .own⟩ :: B) s vt vp vs vi va vb) (rz : StR (G ++ ⟨eSt s vt vp vs vi va vb, 0, .own⟩ :: B) z ut up us ui ua ub) (oz : ∀ y ∈ [ut, up, us, ui, ua, ub], ∀ b, rb y = some b → b ≠ G.length)
  (rm : Row tMove G lv ms) (hi : i < ms.length) (hm : ms[i].get [0] = some (pt b)) (tc : hasTy wt .cell = true ∧ hasTy wp .cell = true) (hss : shortL s) (hsz : shortL z)
  (e0 : env.get 0 = lv) (e3 : env.get 3 = .ptr G.length 0 [] tState) (e5 : env.get 5 = nat i) (e6 : env.get 6 = .ptr p6 0 [] tAction) (e7 : env.get 7 = .ptr p7 0 [] tState)
  (c6 : (G ++ ⟨eSt s vt vp vs vi va vb, 0, .own⟩ :: B)[p6]? = some ⟨eAct a wt wp, 0, .own⟩) (c7 : (G ++ ⟨eSt s vt vp vs vi va vb, 0, .own⟩ :: B)[p7]? = some ⟨eSt z ut up us ui ua ub, 0, .own⟩)
  (keep : ∀ e : Pt, e ≠ b → e ≠ a.e → e ≠ a.who.e → placeP z e = placeP s e)
  (hQ : ∀ env' B', env'.get 0 = lv → env'.get 3 = .ptr G.length 0 [] tState → env'.get 5 = nat i → StR (G ++ ⟨eSt z ut up us ui ua ub, 0, .own⟩ :: B') z ut up us ui ua ub → Q (.nrm, ⟨env', G ++ ⟨eSt z ut up us ui ua ub, 0, .own⟩ :: B'⟩)) :
  wC Tryz.prog cx5 n5_50 Q ⟨env, G ++ ⟨eSt s vt vp vs vi va vb, 0, .own⟩ :: B⟩ := by
 have ta := ra.cells
 have tz := rz.cells
 obtain ⟨H, hH⟩ : ∃ H, H = G ++ ⟨eSt s vt vp vs vi va vb, 0, .own⟩ :: B := ⟨_, rfl⟩
 have c3 : H[G.length]? = some ⟨eSt s vt vp vs vi va vb, 0, .own⟩ := by rw [hH]; simp
 have rmH : Row tMove H lv ms := hH ▸ rm.app _
 rw [← hH] at ra rz c6 c7 ⊢
 have b3 := blk_of c3
 have b70 := blk_of c7
 have b7 := fun u => blkAt_app (blk_of c7) u
 have ff := aI e3 (aI e7 (aI ta (aI tz (aI b3 b70))))
 refine runRp23_2 (x := ?_)
 clear ff
 refine SpecQ.step (c25 ra hss) ?_
 rintro _ ⟨x1, u1, rfl, r1⟩
 have ff := aI e3 (aI e7 (aI ta (aI tz (aI b3 b7))))
 refine runRp23_3 (x := ?_)
 clear ff
 refine SpecQ.step (c25 (rz.app _) hsz) ?_
 rintro _ ⟨x2, u2, rfl, r2⟩
 have ff := aI e3 (aI e7 (aI ta (aI tz (aI b3 b7))))
 refine runRp23_3 (x := ?_)
 clear ff
 have hls : ∀ {s : Stt}, shortL s → (ciphers s).length ≤ 4000 := fun {s} h => by
  rw [ciphers_len]
  obtain ⟨h1, h2, h3, h4⟩ := h
  omega
 have l1 := hls hss
 have l2 := hls hsz
 have hH2 : H ++ ⟨eSt s vt vp vs vi va vb, 0, .own⟩ :: u1 ++ ⟨eSt z ut up us ui ua ub, 0, .own⟩ :: u2 = (H ++ [⟨eSt s vt vp vs vi va vb, 0, .own⟩]) ++ (u1 ++ ⟨eSt z ut up us ui ua ub, 0, .own⟩ :: u2) := by simp
 have he : mElems tCipher x2 (H ++ ⟨eSt s vt vp vs vi va vb, 0, .own⟩ :: u1 ++ ⟨eSt z ut up us ui ua ub, 0, .own⟩ :: u2) = some (.node ((ciphers z).map eCi)) := by
  have := (r2.row tCipher_x (F := H ++ ⟨eSt s vt vp vs vi va vb, 0, .own⟩ :: u1 ++ [⟨eSt z ut up us ui ua ub, 0, .own⟩]) (l := []) (by simp; omega)).1
  simpa using this
 rw [hH2] at he ⊢
 refine appW_rnU (new := (ciphers z).map eCi) tCipher_x (fun _ => rfl) (by simp) r1 he (by simp; omega) (by omega) fun x' u' g1 _ _ _ => ?_
 rw [← List.map_append] at g1
 have rx : Row tCipher (H ++ ⟨eSt s vt vp vs vi va vb, 0, .own⟩ :: u') x' ((ciphers s ++ ciphers z).map eCi) := by
  have := g1.row tCipher_x (F := H ++ [⟨eSt s vt vp vs vi va vb, 0, .own⟩]) (l := []) (by simp)
  simpa using this
 refine runRp23_4 (x := ?_)
 refine plays_in (K := H ++ ⟨eSt s vt vp vs vi va vb, 0, .own⟩ :: u') (junk := []) (by simp) (ra.app _) (rz.app _) (rmH.app _) hi hm tc rx (by simp [e0]) (by simp [e3]) (by simp [e5]) (by simp [e6]) (by simp [e7]) (by simp) (get_app c3 _) (get_app c6 _) (get_app c7 _) keep fun env' u f0 f3 f5 f7 => ?_
 subst hH
 have b7' : ∀ u, blkAt (G ++ ⟨eSt s vt vp vs vi va vb, 0, .own⟩ :: (B ++ u)) p7 0 = some ⟨eSt z ut up us ui ua ub, 0, .own⟩ := fun u => by simpa using b7 u
 have ff := aI f3 (aI f7 (aI b7' tz))
 refine runRp23_5 (x := ?_)
 clear ff
 exact hQ env' _ f0 f3 f5 (StR.cellz (c := ⟨eSt s vt vp vs vi va vb, 0, .own⟩) (by simpa using rz.app (⟨eSt s vt vp vs vi va vb, 0, .own⟩ :: (u' ++ u))) oz)
def snPl3 := zAll cx5 [[n5_40],[n5_40,n5_39],[n5_41],[n5_39,n5_41,n5_38],[n5_38,n5_37],[n5_42],[n5_37,n5_42,n5_36],[n5_43],[n5_36,n5_43,n5_35],[n5_35,n5_34],[n5_48],[n5_48,n5_47],[n5_49],[n5_47,n5_49,n5_46],[n5_46,n5_45],[n5_45,n5_50,n5_44],[n5_34,n5_44,n5_33]]
theorem plays_err {H : Heap} {env : Env} {k p7 : Nat} {Q : Ex × St → Prop} (hk : k ≠ 0) (e7 : env.get 7 = .ptr p7 0 [] tState) (e8 : env.get 8 = nat k) (c7 : H[p7]? = some ⟨eSt0, 0, .own⟩)
  (hQ : ∀ env', env'.get 0 = env.get 0 → env'.get 3 = env.get 3 → env'.get 5 = env.get 5 → Q (.exit 1, ⟨env', H⟩)) : wC Tryz.prog cx5 n5_33 Q ⟨env, H⟩ := by
 have b7 := blk_of c7
 have ff := aI e7 (aI e8 (aI b7 hk))
 refine runRp23_6 (x := ?_)
 clear ff
 refine SpecQ.step (c15 eSt0_st eSt0_st) ?_
 rintro _ rfl
 rw [decide_eq_true (rfl : st0 = st0)]
 refine runRp23_7 (x := ?_)
 exact hQ _ (by simp) (by simp) (by simp)
set_option maxHeartbeats 4000000 in
theorem plays_ok {G B : Heap} {env : Env} {s z : Stt} {vt vp vs vi va vb ut up us ui ua ub : AV} {b : Pt} {a : Actn} {wt wp lv : AV} {p6 p7 i : Nat} {ms : List AV} {Q : Ex × St → Prop} (hs : stepP s b a = .ok z) (had : hasAdmin s = true) (hv : a.version = s.version + 1#32)
  (ra : StR (G ++ ⟨eSt s vt vp vs vi va vb, 0, .own⟩ :: B) s vt vp vs vi va vb) (rz : StR (G ++ ⟨eSt s vt vp vs vi va vb, 0, .own⟩ :: B) z ut up us ui ua ub) (oz : ∀ y ∈ [ut, up, us, ui, ua, ub], ∀ b, rb y = some b → b ≠ G.length)
  (rm : Row tMove G lv ms) (hi : i < ms.length) (hm : ms[i].get [0] = some (pt b)) (tc : hasTy wt .cell = true ∧ hasTy wp .cell = true)
  (e0 : env.get 0 = lv) (e3 : env.get 3 = .ptr G.length 0 [] tState) (e5 : env.get 5 = nat i) (e6 : env.get 6 = .ptr p6 0 [] tAction) (e7 : env.get 7 = .ptr p7 0 [] tState) (e8 : env.get 8 = nat 0)
  (c6 : (G ++ ⟨eSt s vt vp vs vi va vb, 0, .own⟩ :: B)[p6]? = some ⟨eAct a wt wp, 0, .own⟩) (c7 : (G ++ ⟨eSt s vt vp vs vi va vb, 0, .own⟩ :: B)[p7]? = some ⟨eSt z ut up us ui ua ub, 0, .own⟩)
  (hQ : ∀ env' B', env'.get 0 = lv → env'.get 3 = .ptr G.length 0 [] tState → env'.get 5 = nat i → StR (G ++ ⟨eSt z ut up us ui ua ub, 0, .own⟩ :: B') z ut up us ui ua ub → Q (.nrm, ⟨env', G ++ ⟨eSt z ut up us ui ua ub, 0, .own⟩ :: B'⟩)) :
  wC Tryz.prog cx5 n5_33 Q ⟨env, G ++ ⟨eSt s vt vp vs vi va vb, 0, .own⟩ :: B⟩ := by
 have ta := ra.cells
 have tz := rz.cells
 obtain ⟨k1, k2, k3⟩ := key_keep hs
 have mz := may_step hs
 have hz := admin_keep hs had
 have l1 := ra.fs.len
 rw [List.length_map] at l1
 rw [hv] at k2
 obtain ⟨H, hH⟩ : ∃ H, H = G ++ ⟨eSt s vt vp vs vi va vb, 0, .own⟩ :: B := ⟨_, rfl⟩
 have b3 : blkAt H G.length 0 = some ⟨eSt s vt vp vs vi va vb, 0, .own⟩ := blk_of (by rw [hH]; simp)
 have b7 : blkAt H p7 0 = some ⟨eSt z ut up us ui ua ub, 0, .own⟩ := blk_of (by rw [hH]; exact c7)
 have rzH : StR H z ut up us ui ua ub := hH ▸ rz
 rw [← hH]
 have ff := aI e3 (aI e7 (aI e8 (aI b3 (aI b7 (aI ta (aI tz (aI l1 (aI k1 (aI k2 (aI k3 (aI mz hz)))))))))))
 refine runRp23_8 (x := ?_)
 clear ff
 subst hH
 exact plays_50 ra rz oz rm hi hm tc (short_may (stepP_ok hs).1) (short_may mz) (by simp [e0]) (by simp [e3]) (by simp [e5]) (by simp [e6]) (by simp [e7]) c6 c7 (fun e h1 h2 h3 => place_keep hs h1 h2 h3) hQ
theorem at_6 {G B : Heap} (c c6 : Blk) (l : Heap) : (G ++ c :: (B ++ c6 :: l))[G.length + (B.length + 1)]? = some c6 := by
 rw [show G ++ c :: (B ++ c6 :: l) = (G ++ c :: B) ++ c6 :: l by simp, List.getElem?_append_right (by simp)]
 simp
theorem at_7 {G B t : Heap} (c c6 c7 : Blk) (l : Heap) : (G ++ c :: (B ++ c6 :: (t ++ c7 :: l)))[G.length + (B.length + (t.length + 2))]? = some c7 := by
 rw [show G ++ c :: (B ++ c6 :: (t ++ c7 :: l)) = (G ++ c :: (B ++ c6 :: t)) ++ c7 :: l by simp, List.getElem?_append_right (by simp; omega)]
 rw [show G.length + (B.length + (t.length + 2)) - (G ++ c :: (B ++ c6 :: t)).length = 0 by simp; omega]
 rfl
theorem at_7' {G B : Heap} (c c6 c7 : Blk) (l : Heap) : (G ++ c :: (B ++ c6 :: c7 :: l))[G.length + (B.length + 2)]? = some c7 := at_7 (t := []) c c6 c7 l
def snPl4 := zAll cx5 [[n5_5],[n5_5,n5_4],[n5_6],[n5_4,n5_6,n5_3],[n5_3,n5_2],[n5_12],[n5_12,n5_11],[n5_13],[n5_11,n5_13,n5_10],[n5_10,n5_9],[n5_21],[n5_22],[n5_21,n5_22,n5_20],[n5_20,n5_19],[n5_30],[n5_31],[n5_30,n5_31,n5_29],[n5_29,n5_28],[n5_28,n5_32,n5_27],[n5_27,n5_26],[n5_26,n5_25],[n5_25,n5_24],[n5_77],[n5_24,n5_77,n5_23],[n5_19,n5_23,n5_18],[n5_18,n5_17],[n5_17,n5_16],[n5_16,n5_15],[n5_79],[n5_79,n5_78],[n5_15,n5_78,n5_14],[n5_9,n5_14,n5_8],[n5_8,n5_7],[n5_2,n5_7,n5_1],[n5_1,n5_0]]
set_option maxHeartbeats 8000000 in
theorem c5 {h : Heap} {lv : AV} {ms : List AV} (rm : MvR h lv ms) : SpecQ Tryz.prog 5 [lv] h fun r => r.1 = .bool true := by
 have lm := rm.row.len
 have cm := rm.row.cell
 have bm := rm.row.bound
 refine q5 fun env g0 => ?_
 by_cases hn : 150 < ms.length
 ·have ff := aI g0 (aI lm (aI bm hn))
  refine runRp23_9 (x := ?_)
  clear ff
  rfl
 have ff := aI g0 (aI lm (aI bm hn))
 refine runRp23_10 (x := ?_)
 clear ff
 refine SpecQ.step c22 ?_
 rintro _ ⟨t, vt, vp, vs, vi, va, vb, rfl, r, hown⟩
 have tv := r.cells
 have ff := aI g0 (aI lm tv)
 refine runRp23_10 (x := ?_)
 clear ff
 obtain ⟨G, hG⟩ : ∃ G, G = h ++ t := ⟨_, rfl⟩
 have rG : MvR G lv ms := hG ▸ ⟨rm.row.app _, fun i hi => by obtain ⟨b, a, wt, wp, h1, h2⟩ := rm.el i hi; exact ⟨b, a, wt, wp, h1, h2.t.app _, h2.p.app _⟩⟩
 have hGl : h.length + t.length = G.length := by rw [hG]; simp
 rw [← hG] at r
 rw [← List.append_assoc, ← hG]
 refine loop_up ms.length (fun i st => ∃ env' B s vt vp vs vi va vb, st = ⟨env', G ++ ⟨eSt s vt vp vs vi va vb, 0, .own⟩ :: B⟩ ∧ env'.get 0 = lv ∧ env'.get 3 = .ptr G.length 0 [] tState ∧ env'.get 5 = nat i ∧ hasAdmin s = true ∧ StR (G ++ ⟨eSt s vt vp vs vi va vb, 0, .own⟩ :: B) s vt vp vs vi va vb) ?_ ?_ ⟨_, [], gS, vt, vp, vs, vi, va, vb, rfl, by simp [g0], by simp [hGl], by simp, rfl, r.app _⟩
 ·rintro i st hi ⟨env', B, s, vt, vp, vs, vi, va, vb, rfl, e0, e3, e5, had, ra⟩
  obtain ⟨b, a0, wt, wp, hm, ha⟩ := rG.el i hi
  have ta := ra.cells
  have tc := ha.cells
  obtain ⟨pb, pv, pp, bb, p1, p2, p4, p5⟩ := rG.row.idxP hi
  have m0 : bb.v.get (pp ++ [0]) = some (pt b) := by rw [p5, hm]; simp
  have m1 : bb.v.get (pp ++ [1]) = some (eAct a0 wt wp) := by rw [p5, hm]; simp
  have h0 : ms[i].get [0] = some (pt b) := by rw [hm]; simp
  obtain ⟨a, haa⟩ : ∃ a : Actn, a = { a0 with version := s.version + 1#32 } := ⟨_, rfl⟩
  have ha1 : eActH (s.version + 1#32) a0.kind a0.who a0.e a0.role a0.acc wt wp = eAct a wt wp := by rw [haa]
  have hav : a.version = s.version + 1#32 := by rw [haa]
  have rl : ∀ l, StR (G ++ ⟨eSt s vt vp vs vi va vb, 0, .own⟩ :: (B ++ l)) s vt vp vs vi va vb := fun l => by simpa using ra.app l
  have hac : ∀ l, ActR (G ++ l) a wt wp := fun l => by rw [haa]; exact ⟨ha.t.app l, ha.p.app l⟩
  have lb : G.length < G.length + 1 := by omega
  have ff := aI e0 (aI e3 (aI e5 (aI lm (aI bm (aI hi (aI p1 (aI p2 (aI m1 (aI ta tc)))))))))
  refine runRp23_10 (x := ?_)
  clear ff
  rw [ha1]
  refine SpecQ.step (c9 (rl _) (hac _)) ?_
  rintro _ rfl
  cases hL : largeP s a
  rotate_left
  ·have ff := aI e5 (aI bm hi)
   refine runRp23_10 (x := ?_)
   clear ff
   exact .inl ⟨by simp, _, _, s, _, _, _, _, _, _, rfl, by simp [e0], by simp [e3], by simp, had, rl _⟩
  have ff := aI e0 (aI e3 (aI e5 (aI ta (aI tc (aI p1 (aI p2 m0))))))
  refine runRp23_11 (x := ?_) (y := ?_)
  all_goals clear ff
  ·refine SpecQ.step (c13 (a := a) (rl _) (hac _)) ?_
   rintro _ hr
   cases hs : stepP s b a with
   | error k =>
    rw [hs] at hr
    obtain ⟨t2, rfl⟩ := hr
    have ff := aI e0 (aI e3 (aI e5 (aI ta (aI tc (aI p1 (aI p2 m0))))))
    refine runRp23_12 (x := ?_)
    clear ff
    refine plays_err (p7 := G.length + (B.length + (t2.length + 2))) (stepP_err hs) (by simp <;> omega) (by simp) (at_7 _ _ _ _) fun env2 f0 f3 f5 => ?_
    have k0 : env2.get 0 = lv := by rw [f0]; simp [e0]
    have k3 : env2.get 3 = .ptr G.length 0 [] tState := by rw [f3]; simp [e3]
    have k5 : env2.get 5 = nat i := by rw [f5]; simp [e5]
    have ff := aI k5 (aI bm hi)
    refine runRp23_10 (x := ?_)
    clear ff
    exact .inl ⟨by simp, _, _, s, _, _, _, _, _, _, rfl, by simp [k0], by simp [k3], by simp, had, rl _⟩
   | ok z =>
    rw [hs] at hr
    obtain ⟨κ, t2, ut, up, us, ui, ua, ub, rfl, w, hw0⟩ := hr
    have tz := w.str.cells
    have ho := w.own hw0
    have ff := aI e0 (aI e3 (aI e5 (aI ta (aI tz (aI tc (aI p1 (aI p2 m0)))))))
    refine runRp23_12 (x := ?_)
    clear ff
    refine plays_ok (p6 := G.length + (B.length + 1)) (p7 := G.length + (B.length + (t2.length + 2))) hs had hav (rl _) (by simpa using w.str.app [⟨eSt z ut up us ui ua ub, 0, .own⟩]) (fun y hy b hb => by have := ho y hy b hb; simp at this; omega) rG.row hi h0 tc (by simp [e0]) (by simp [e3]) (by simp [e5]) (by simp <;> omega) (by simp <;> omega) (by simp) (at_6 _ _ _) (at_7 _ _ _ _) fun env2 B2 f0 f3 f5 r2 => ?_
    have ff := aI f5 (aI bm hi)
    refine runRp23_10 (x := ?_)
    clear ff
    exact .inl ⟨by simp, _, _, z, _, _, _, _, _, _, rfl, by simp [f0], by simp [f3], by simp, admin_keep hs had, r2⟩
  ·refine SpecQ.step (c13 (a := a) (rl _) (hac _)) ?_
   rintro _ hr
   cases hs : stepP s b a with
   | error k =>
    rw [hs] at hr
    obtain ⟨t2, rfl⟩ := hr
    have ff := aI e0 (aI e3 (aI e5 (aI ta (aI tc (aI p1 (aI p2 m0))))))
    refine runRp23_12 (x := ?_)
    clear ff
    refine plays_err (p7 := G.length + (B.length + 2)) (stepP_err hs) (by simp <;> omega) (by simp) (at_7' _ _ _ _) fun env2 f0 f3 f5 => ?_
    have k0 : env2.get 0 = lv := by rw [f0]; simp [e0]
    have k3 : env2.get 3 = .ptr G.length 0 [] tState := by rw [f3]; simp [e3]
    have k5 : env2.get 5 = nat i := by rw [f5]; simp [e5]
    have ff := aI k5 (aI bm hi)
    refine runRp23_10 (x := ?_)
    clear ff
    exact .inl ⟨by simp, _, _, s, _, _, _, _, _, _, rfl, by simp [k0], by simp [k3], by simp, had, rl _⟩
   | ok z =>
    rw [hs] at hr
    obtain ⟨κ, t2, ut, up, us, ui, ua, ub, rfl, w, hw0⟩ := hr
    have tz := w.str.cells
    have ho := w.own hw0
    have rz : StR (G ++ ⟨eSt s vt vp vs vi va vb, 0, .own⟩ :: (B ++ ⟨eAct a wt wp, 0, .own⟩ :: ⟨eSt z ut up us ui ua ub, 0, .own⟩ :: t2)) z ut up us ui ua ub := by
     have := StR.cellz (G := G ++ ⟨eSt s vt vp vs vi va vb, 0, .own⟩ :: (B ++ [⟨eAct a wt wp, 0, .own⟩])) (B := t2) (c := ⟨eSt0, 0, .own⟩) (c' := ⟨eSt z ut up us ui ua ub, 0, .own⟩) (by simpa using w.str) (fun y hy b hb => by have := ho y hy b hb; simp at this ⊢; omega)
     simpa using this
    have ff := aI e0 (aI e3 (aI e5 (aI ta (aI tz (aI tc (aI p1 (aI p2 m0)))))))
    refine runRp23_12 (x := ?_)
    clear ff
    refine plays_ok (p6 := G.length + (B.length + 1)) (p7 := G.length + (B.length + 2)) hs had hav (rl _) rz (fun y hy b hb => by have := ho y hy b hb; simp at this; omega) rG.row hi h0 tc (by simp [e0]) (by simp [e3]) (by simp [e5]) (by simp <;> omega) (by simp <;> omega) (by simp) (at_6 _ _ _) (at_7' _ _ _ _) fun env2 B2 f0 f3 f5 r2 => ?_
    have ff := aI f5 (aI bm hi)
    refine runRp23_10 (x := ?_)
    clear ff
    exact .inl ⟨by simp, _, _, z, _, _, _, _, _, _, rfl, by simp [f0], by simp [f3], by simp, admin_keep hs had, r2⟩
 ·rintro st ⟨env', B, s, vt, vp, vs, vi, va, vb, rfl, e0, e3, e5, had, ra⟩
  have ff := aI e0 (aI e3 (aI e5 (aI lm bm)))
  refine runRp23_10 (x := ?_)
  clear ff
  refine ⟨by simp, ?_⟩
  have ff := e0
  refine runRp23_9 (x := ?_)
  clear ff
  rfl
end Go.Vab

/-
  How a row of moves is read.
-/
namespace Go.Vas
open Go Go.Vab Go.Proofs
theorem rdMv {P : Program} {tt : Nat → Option TI} {t e p ac : TypeId} {h : Heap} {n : Nat} {a : AV} (hu : P.underlying t = some (.slice e)) (hb : 0 < P.bytesOf e) (hte : ∀ el, tt e = some el → el.ty = tMove) (hf : ftys P e = some [p, ac]) (hp : Reads P tt p (.arr 32 (.int .u8)) pt)
  (hact : ∀ (n : Nat) (a : AV), hasTy a tAction = true → Rd P tt h n ac a → ∃ (x : Actn) (vt vp : AV), a = eAct x vt vp ∧ ActR h x vt vp) (hr : Rd P tt h n t a) : ∃ ms, MvR h a ms := by
 cases n with
 | zero => exact hr.elim
 | succ n =>
  simp only [Rd, hu] at hr
  rcases hr with rfl | ⟨i, el, row, mo, len, cap, rfl, h2, h3, h4, h5, h6, hw, h7⟩
  ·exact ⟨[], nilRow tMove_x _, fun i hi => absurd hi (by simp)⟩
  ·have e1 := hte _ h2
   rw [e1] at h4 ⊢
   have hrow : ∃ us, row = .node us ∧ us.length = cap ∧ ∀ x ∈ us, hasTy x tMove = true := by
    cases row <;> simp only [tMove, hasTy, Bool.false_eq_true] at h4
    rename_i us
    simp only [Bool.and_eq_true, decide_eq_true_eq, hasTyAll_iff] at h4
    exact ⟨us, rfl, h4.1, h4.2⟩
   obtain ⟨us, rfl, hl, hty⟩ := hrow
   have hlen : (us.take len).length = len := by rw [List.length_take]; omega
   refine ⟨us.take len, ⟨?_, ?_, ?_⟩, fun j hj => ?_⟩
   ·rw [mElems_row]
    have : blkAt h i 0 = some ⟨.node us, 0, mo.1⟩ := by unfold blkAt; rw [h3]; simp [mo.2]
    rw [this, bnd_some, get_nil, bnd_some]
    simp only [AV.cut, Nat.zero_add]
    rw [if_pos (by omega), List.drop_zero]
   ·rw [hlen]; exact ⟨rfl, h5, rfl⟩
   ·rw [hlen]
    have : len * 1 ≤ len * P.bytesOf e := Nat.mul_le_mul_left _ hb
    unfold reachBytes at hw
    omega
   ·have hjl : j < us.length := by omega
    obtain ⟨y, hy, hd⟩ := h7 j (by omega)
    simp only [get_node, List.getElem?_eq_getElem hjl] at hy
    simp at hy
    have hty := hty us[j] (List.getElem_mem _)
    rw [List.getElem_take]
    rw [hy] at hty ⊢
    obtain ⟨vs, m, rfl, hv⟩ := rdS hf hd
    obtain ⟨x0, vs, rfl, t0, ht⟩ := hasTys_c (by simpa using hty)
    obtain ⟨x1, vs, rfl, t1, ht⟩ := hasTys_c ht
    obtain rfl := hasTys_n ht
    obtain ⟨_, e0, r0⟩ := hv 0 _ rfl
    obtain ⟨_, e1, r1⟩ := hv 1 _ rfl
    cases e0; cases e1
    obtain ⟨y0, rfl⟩ := hp _ _ _ t0 r0
    obtain ⟨y1, wt, wp, rfl, k1⟩ := hact _ _ t1 r1
    exact ⟨y0, y1, wt, wp, rfl, k1⟩
def okV3 : List TypeId := [5, 22, 24, 26, 27, 28, 29, 31, 32, 33, 34, 35, 37, 38, 40, 42, 57, 61, 73, 82, 84, 86]
theorem plainV3 : plainB Tryz.prog TT okV3 = true := by kernel_rfl
theorem und_mvs : Tryz.prog.underlying 57 = some (.slice 61) := by kernel_rfl
theorem ft_mv : ftys Tryz.prog 61 = some [24, 42] := by kernel_rfl
theorem rd_mvs {h : Heap} {n : Nat} {a : AV} (hr : Rd Tryz.prog TT h n 57 a) : ∃ ms, MvR h a ms :=
 rdMv und_mvs (of_decide_eq_true (by kernel_rfl)) (fun _ h => tyOf (by kernel_rfl) h) ft_mv rd_pt (fun _ _ ht hr => rdAction ft_act und_u32 und_kind rd_ci rd_pt und_role rd_bs rd_acc ht hr) hr
end Go.Vas
