/- How the code of a function is read. Printed by wip/tools/gen2.py (own work). -/
import Derived.Test.YtdmcbbeebjcagaaV4
import Derived.Test.YtdmcbbeebjcagaaV3
import Derived.Test.YtdmcbbeebjcagaaV6
import Derived.Test.YtdmcbbeebjcagaaV5
import Derived.WideWitness
set_option linter.all false
set_option linter.unusedSectionVars false
namespace Go.Vab
open Go Go.Proofs
/-! vestry/vestryref18.CopyState -/
def cx12 : Ctx := ⟨fun _ _ _ => none, TT, 36, [4, 5, 6, 7, 8, 9, 10, 11, 12, 13, 14, 15, 16, 17, 18, 19, 20, 21, 22, 23, 24, 25, 26, 27, 28, 29, 30, 31, 32, 33, 34, 35]⟩
noncomputable def n12_0 : Code := bodyOf Try.f12
noncomputable def n12_1 : Code := cR n12_0
noncomputable def n12_2 : Code := cR n12_1
noncomputable def n12_3 : Code := cR n12_2
noncomputable def n12_4 : Code := cR n12_3
noncomputable def n12_5 : Code := cR n12_4
noncomputable def n12_6 : Code := cR n12_5
noncomputable def n12_7 : Code := cR n12_6
noncomputable def n12_8 : Code := cR n12_7
noncomputable def n12_9 : Code := cR n12_8
theorem n12_9_eq (Q : Ex × St → Prop) (s : St) : wC Try.prog cx12 n12_9 Q s = Q (.ret, s) := yE
theorem n12_8_eq (Q : Ex × St → Prop) (env : Env) (h : Heap) : wC Try.prog cx12 n12_8 Q ⟨env, h⟩ = (Evs (mLoad tState (env.get 3) h) fun v0 => Evs (stU tState (env.get 2) v0 h) fun r1 => wC Try.prog cx12 n12_9 Q ⟨env, r1.2⟩) := (ySR 8 (cOps (cL n12_8)) (cR n12_8)).trans (by
  refine w0 ?_
  refine wP 35 fun v0 => ?_
  refine wHn fun r1 => ?_
  exact wE)
theorem n12_7_eq (Q : Ex × St → Prop) (env : Env) (h : Heap) : wC Try.prog cx12 n12_7 Q ⟨env, h⟩ = (Evs (mBuildSlice tBan (.node [(.node [(arr 32 fun _ => 0#8), (arr 32 fun _ => 0#8)]), (.node [(arr 32 fun _ => 0#8), (arr 32 fun _ => 0#8)])]) 0 [] h) fun r0 => Evs (mFieldAddr tState (env.get 1) 8) fun v1 => Evs (mLoad .cell v1 r0.2) fun v2 => appA tBan 128 (.node [(.node [(arr 32 fun _ => 0#8), (arr 32 fun _ => 0#8)]), (.node [(arr 32 fun _ => 0#8), (arr 32 fun _ => 0#8)])]) r0.1 v2 r0.2 fun r3 => Evs (mFieldAddr tState (env.get 3) 8) fun v4 => Evs (stU .cell v4 r3.1 r3.2) fun r5 => wC Try.prog cx12 n12_8 Q ⟨env, r5.2⟩) := (ySR 7 (cOps (cL n12_7)) (cR n12_7)).trans (by
  refine w0 ?_
  refine wH 30 fun r0 => ?_
  refine wP 31 fun v1 => ?_
  refine wP 32 fun v2 => ?_
  refine wH 33 fun r3 => ?_
  refine wP 34 fun v4 => ?_
  refine wHn fun r5 => ?_
  exact wE)
theorem n12_6_eq (Q : Ex × St → Prop) (env : Env) (h : Heap) : wC Try.prog cx12 n12_6 Q ⟨env, h⟩ = (Evs (mBuildSlice tAsk (.node [(.node [(arr 32 fun _ => 0#8), (arr 32 fun _ => 0#8)]), (u32 0#32)]) 0 [] h) fun r0 => Evs (mFieldAddr tState (env.get 1) 7) fun v1 => Evs (mLoad .cell v1 r0.2) fun v2 => appA tAsk 68 (.node [(.node [(arr 32 fun _ => 0#8), (arr 32 fun _ => 0#8)]), (u32 0#32)]) r0.1 v2 r0.2 fun r3 => Evs (mFieldAddr tState (env.get 3) 7) fun v4 => Evs (stU .cell v4 r3.1 r3.2) fun r5 => wC Try.prog cx12 n12_7 Q ⟨env, r5.2⟩) := (ySR 6 (cOps (cL n12_6)) (cR n12_6)).trans (by
  refine w0 ?_
  refine wH 25 fun r0 => ?_
  refine wP 26 fun v1 => ?_
  refine wP 27 fun v2 => ?_
  refine wH 28 fun r3 => ?_
  refine wP 29 fun v4 => ?_
  refine wHn fun r5 => ?_
  exact wE)
theorem n12_5_eq (Q : Ex × St → Prop) (env : Env) (h : Heap) : wC Try.prog cx12 n12_5 Q ⟨env, h⟩ = (Evs (mBuildSlice tInvite (.node [(.node [(arr 32 fun _ => 0#8), (arr 32 fun _ => 0#8)]), (u8 0#8), (.node [(arr 32 fun _ => 0#8), (arr 32 fun _ => 0#8)])]) 0 [] h) fun r0 => Evs (mFieldAddr tState (env.get 1) 6) fun v1 => Evs (mLoad .cell v1 r0.2) fun v2 => appA tInvite 129 (.node [(.node [(arr 32 fun _ => 0#8), (arr 32 fun _ => 0#8)]), (u8 0#8), (.node [(arr 32 fun _ => 0#8), (arr 32 fun _ => 0#8)])]) r0.1 v2 r0.2 fun r3 => Evs (mFieldAddr tState (env.get 3) 6) fun v4 => Evs (stU .cell v4 r3.1 r3.2) fun r5 => wC Try.prog cx12 n12_6 Q ⟨env, r5.2⟩) := (ySR 5 (cOps (cL n12_5)) (cR n12_5)).trans (by
  refine w0 ?_
  refine wH 20 fun r0 => ?_
  refine wP 21 fun v1 => ?_
  refine wP 22 fun v2 => ?_
  refine wH 23 fun r3 => ?_
  refine wP 24 fun v4 => ?_
  refine wHn fun r5 => ?_
  exact wE)
theorem n12_4_eq (Q : Ex × St → Prop) (env : Env) (h : Heap) : wC Try.prog cx12 n12_4 Q ⟨env, h⟩ = (Evs (mBuildSlice tSeat (.node [(.node [(arr 32 fun _ => 0#8), (arr 32 fun _ => 0#8)]), (u8 0#8), (u32 0#32)]) 0 [] h) fun r0 => Evs (mFieldAddr tState (env.get 1) 5) fun v1 => Evs (mLoad .cell v1 r0.2) fun v2 => appA tSeat 72 (.node [(.node [(arr 32 fun _ => 0#8), (arr 32 fun _ => 0#8)]), (u8 0#8), (u32 0#32)]) r0.1 v2 r0.2 fun r3 => Evs (mFieldAddr tState (env.get 3) 5) fun v4 => Evs (stU .cell v4 r3.1 r3.2) fun r5 => wC Try.prog cx12 n12_5 Q ⟨env, r5.2⟩) := (ySR 4 (cOps (cL n12_4)) (cR n12_4)).trans (by
  refine w0 ?_
  refine wH 15 fun r0 => ?_
  refine wP 16 fun v1 => ?_
  refine wP 17 fun v2 => ?_
  refine wH 18 fun r3 => ?_
  refine wP 19 fun v4 => ?_
  refine wHn fun r5 => ?_
  exact wE)
theorem n12_3_eq (Q : Ex × St → Prop) (env : Env) (h : Heap) : wC Try.prog cx12 n12_3 Q ⟨env, h⟩ = (Evs (mBuildSlice (.int .u8) (u8 0#8) 0 [] h) fun r0 => Evs (mFieldAddr tState (env.get 1) 4) fun v1 => Evs (mLoad .cell v1 r0.2) fun v2 => appA (.int .u8) 1 (u8 0#8) r0.1 v2 r0.2 fun r3 => Evs (mFieldAddr tState (env.get 3) 4) fun v4 => Evs (stU .cell v4 r3.1 r3.2) fun r5 => wC Try.prog cx12 n12_4 Q ⟨env, r5.2⟩) := (ySR 3 (cOps (cL n12_3)) (cR n12_3)).trans (by
  refine w0 ?_
  refine wH 10 fun r0 => ?_
  refine wP 11 fun v1 => ?_
  refine wP 12 fun v2 => ?_
  refine wH 13 fun r3 => ?_
  refine wP 14 fun v4 => ?_
  refine wHn fun r5 => ?_
  exact wE)
theorem n12_2_eq (Q : Ex × St → Prop) (env : Env) (h : Heap) : wC Try.prog cx12 n12_2 Q ⟨env, h⟩ = (Evs (mBuildSlice (.int .u8) (u8 0#8) 0 [] h) fun r0 => Evs (mFieldAddr tState (env.get 1) 2) fun v1 => Evs (mLoad .cell v1 r0.2) fun v2 => appA (.int .u8) 1 (u8 0#8) r0.1 v2 r0.2 fun r3 => Evs (mFieldAddr tState (env.get 3) 2) fun v4 => Evs (stU .cell v4 r3.1 r3.2) fun r5 => wC Try.prog cx12 n12_3 Q ⟨env, r5.2⟩) := (ySR 2 (cOps (cL n12_2)) (cR n12_2)).trans (by
  refine w0 ?_
  refine wH 5 fun r0 => ?_
  refine wP 6 fun v1 => ?_
  refine wP 7 fun v2 => ?_
  refine wH 8 fun r3 => ?_
  refine wP 9 fun v4 => ?_
  refine wHn fun r5 => ?_
  exact wE)
theorem n12_1_eq (Q : Ex × St → Prop) (env : Env) (h : Heap) : wC Try.prog cx12 n12_1 Q ⟨env, h⟩ = (Evs (mLoad tState (env.get 1) h) fun v0 => Evs (mNew tState (.node [(u32 0#32), (.node [(arr 32 fun _ => 0#8), (arr 32 fun _ => 0#8)]), .nilslice, (.node [(u8 0#8), (u8 0#8), (u8 0#8)]), .nilslice, .nilslice, .nilslice, .nilslice, .nilslice]) h) fun r1 => Evs (stU tState r1.1 v0 r1.2) fun r2 => wC Try.prog cx12 n12_2 Q ⟨(Env.put env 3 r1.1), r2.2⟩) := (ySR 1 (cOps (cL n12_1)) (cR n12_1)).trans (by
  refine w0 ?_
  refine wP 4 fun v0 => ?_
  refine wH 3 fun r1 => ?_
  refine wHn fun r2 => ?_
  exact wE)
theorem n12_0_eq (Q : Ex × St → Prop) (env : Env) (h : Heap) : wC Try.prog cx12 n12_0 Q ⟨env, h⟩ = (Evs (mNew tState (env.get 0) h) fun r0 => Evs (mNew tState (.node [(u32 0#32), (.node [(arr 32 fun _ => 0#8), (arr 32 fun _ => 0#8)]), .nilslice, (.node [(u8 0#8), (u8 0#8), (u8 0#8)]), .nilslice, .nilslice, .nilslice, .nilslice, .nilslice]) r0.2) fun r1 => wC Try.prog cx12 n12_1 Q ⟨(Env.put (Env.put env 1 r0.1) 2 r1.1), r1.2⟩) := (ySR 0 (cOps (cL n12_0)) (cR n12_0)).trans (by
  refine w0 ?_
  refine wH 1 fun r0 => ?_
  refine wH 2 fun r1 => ?_
  exact wE)
theorem fn12 : Try.prog.funcs[12]? = some Try.f12 := by kernel_rfl
theorem q12 {a0 : AV} {h : Heap} {K : AV × Heap → Prop} (H : ∀ env : Env, env.get 0 = a0 → wC Try.prog cx12 n12_0 (retW (fun s => (bnd (mLoad tState (s.env.get 2) s.heap) fun v => bnd (some []) fun vs => some (v :: vs))) K) ⟨env, h⟩) : SpecQ Try.prog 12 [a0] h K :=
  bodyW_sound (C := cx12) TT_ok mixed_ok fn12 (by kernel_rfl) (show _ = some n12_0 by kernel_rfl) (by kernel_rfl) (by kernel_rfl) (of_decide_eq_true (by kernel_rfl)) ((show wC Try.prog cx12 n12_0 (retW (fun s => resAll cx12 s Try.f12.results.toList) K) ⟨env0 cx12 [a0], h⟩ = wC Try.prog cx12 n12_0 (retW (fun s => (bnd (mLoad tState (s.env.get 2) s.heap) fun v => bnd (some []) fun vs => some (v :: vs))) K) ⟨[(0, a0), (1, .junk), (2, .junk), (3, .junk)], h⟩ by kernel_rfl).mpr (H [(0, a0), (1, .junk), (2, .junk), (3, .junk)] rfl))
def sn12 := And.intro n12_9_eq (And.intro n12_8_eq (And.intro n12_7_eq (And.intro n12_6_eq (And.intro n12_5_eq (And.intro n12_4_eq (And.intro n12_3_eq (And.intro n12_2_eq (And.intro n12_1_eq (n12_0_eq)))))))))
-- draws: 
end Go.Vab

/- How the code of a function is read. Printed by wip/tools/gen2.py (own work). -/
namespace Go.Vab
open Go Go.Proofs
/-! vestry/vestryref18.CopyAction -/
def cx35 : Ctx := ⟨fun _ _ _ => none, TT, 16, [4, 5, 6, 7, 8, 9, 10, 11, 12, 13, 14, 15]⟩
noncomputable def n35_0 : Code := bodyOf Try.f35
noncomputable def n35_1 : Code := cR n35_0
noncomputable def n35_2 : Code := cR n35_1
noncomputable def n35_3 : Code := cR n35_2
noncomputable def n35_4 : Code := cR n35_3
noncomputable def n35_5 : Code := cR n35_4
theorem n35_5_eq (Q : Ex × St → Prop) (s : St) : wC Try.prog cx35 n35_5 Q s = Q (.ret, s) := yE
theorem n35_4_eq (Q : Ex × St → Prop) (env : Env) (h : Heap) : wC Try.prog cx35 n35_4 Q ⟨env, h⟩ = (Evs (mLoad tAction (env.get 3) h) fun v0 => Evs (stU tAction (env.get 2) v0 h) fun r1 => wC Try.prog cx35 n35_5 Q ⟨env, r1.2⟩) := (ySR 4 (cOps (cL n35_4)) (cR n35_4)).trans (by
  refine w0 ?_
  refine wP 15 fun v0 => ?_
  refine wHn fun r1 => ?_
  exact wE)
theorem n35_3_eq (Q : Ex × St → Prop) (env : Env) (h : Heap) : wC Try.prog cx35 n35_3 Q ⟨env, h⟩ = (Evs (mBuildSlice (.int .u8) (u8 0#8) 0 [] h) fun r0 => Evs (mFieldAddr tAction (env.get 1) 7) fun v1 => Evs (mLoad .cell v1 r0.2) fun v2 => appA (.int .u8) 1 (u8 0#8) r0.1 v2 r0.2 fun r3 => Evs (mFieldAddr tAction (env.get 3) 7) fun v4 => Evs (stU .cell v4 r3.1 r3.2) fun r5 => wC Try.prog cx35 n35_4 Q ⟨env, r5.2⟩) := (ySR 3 (cOps (cL n35_3)) (cR n35_3)).trans (by
  refine w0 ?_
  refine wH 10 fun r0 => ?_
  refine wP 11 fun v1 => ?_
  refine wP 12 fun v2 => ?_
  refine wH 13 fun r3 => ?_
  refine wP 14 fun v4 => ?_
  refine wHn fun r5 => ?_
  exact wE)
theorem n35_2_eq (Q : Ex × St → Prop) (env : Env) (h : Heap) : wC Try.prog cx35 n35_2 Q ⟨env, h⟩ = (Evs (mBuildSlice (.int .u8) (u8 0#8) 0 [] h) fun r0 => Evs (mFieldAddr tAction (env.get 1) 5) fun v1 => Evs (mLoad .cell v1 r0.2) fun v2 => appA (.int .u8) 1 (u8 0#8) r0.1 v2 r0.2 fun r3 => Evs (mFieldAddr tAction (env.get 3) 5) fun v4 => Evs (stU .cell v4 r3.1 r3.2) fun r5 => wC Try.prog cx35 n35_3 Q ⟨env, r5.2⟩) := (ySR 2 (cOps (cL n35_2)) (cR n35_2)).trans (by
  refine w0 ?_
  refine wH 5 fun r0 => ?_
  refine wP 6 fun v1 => ?_
  refine wP 7 fun v2 => ?_
  refine wH 8 fun r3 => ?_
  refine wP 9 fun v4 => ?_
  refine wHn fun r5 => ?_
  exact wE)
theorem n35_1_eq (Q : Ex × St → Prop) (env : Env) (h : Heap) : wC Try.prog cx35 n35_1 Q ⟨env, h⟩ = (Evs (mLoad tAction (env.get 1) h) fun v0 => Evs (mNew tAction (.node [(u32 0#32), (u8 0#8), (.node [(arr 32 fun _ => 0#8), (arr 32 fun _ => 0#8)]), (arr 32 fun _ => 0#8), (u8 0#8), .nilslice, (.node [(u8 0#8), (u8 0#8), (u8 0#8)]), .nilslice]) h) fun r1 => Evs (stU tAction r1.1 v0 r1.2) fun r2 => wC Try.prog cx35 n35_2 Q ⟨(Env.put env 3 r1.1), r2.2⟩) := (ySR 1 (cOps (cL n35_1)) (cR n35_1)).trans (by
  refine w0 ?_
  refine wP 4 fun v0 => ?_
  refine wH 3 fun r1 => ?_
  refine wHn fun r2 => ?_
  exact wE)
theorem n35_0_eq (Q : Ex × St → Prop) (env : Env) (h : Heap) : wC Try.prog cx35 n35_0 Q ⟨env, h⟩ = (Evs (mNew tAction (env.get 0) h) fun r0 => Evs (mNew tAction (.node [(u32 0#32), (u8 0#8), (.node [(arr 32 fun _ => 0#8), (arr 32 fun _ => 0#8)]), (arr 32 fun _ => 0#8), (u8 0#8), .nilslice, (.node [(u8 0#8), (u8 0#8), (u8 0#8)]), .nilslice]) r0.2) fun r1 => wC Try.prog cx35 n35_1 Q ⟨(Env.put (Env.put env 1 r0.1) 2 r1.1), r1.2⟩) := (ySR 0 (cOps (cL n35_0)) (cR n35_0)).trans (by
  refine w0 ?_
  refine wH 1 fun r0 => ?_
  refine wH 2 fun r1 => ?_
  exact wE)
theorem fn35 : Try.prog.funcs[35]? = some Try.f35 := by kernel_rfl
theorem q35 {a0 : AV} {h : Heap} {K : AV × Heap → Prop} (H : ∀ env : Env, env.get 0 = a0 → wC Try.prog cx35 n35_0 (retW (fun s => (bnd (mLoad tAction (s.env.get 2) s.heap) fun v => bnd (some []) fun vs => some (v :: vs))) K) ⟨env, h⟩) : SpecQ Try.prog 35 [a0] h K :=
  bodyW_sound (C := cx35) TT_ok mixed_ok fn35 (by kernel_rfl) (show _ = some n35_0 by kernel_rfl) (by kernel_rfl) (by kernel_rfl) (of_decide_eq_true (by kernel_rfl)) ((show wC Try.prog cx35 n35_0 (retW (fun s => resAll cx35 s Try.f35.results.toList) K) ⟨env0 cx35 [a0], h⟩ = wC Try.prog cx35 n35_0 (retW (fun s => (bnd (mLoad tAction (s.env.get 2) s.heap) fun v => bnd (some []) fun vs => some (v :: vs))) K) ⟨[(0, a0), (1, .junk), (2, .junk), (3, .junk)], h⟩ by kernel_rfl).mpr (H [(0, a0), (1, .junk), (2, .junk), (3, .junk)] rfl))
def sn35 := And.intro n35_5_eq (And.intro n35_4_eq (And.intro n35_3_eq (And.intro n35_2_eq (And.intro n35_1_eq (n35_0_eq)))))
-- draws: 
end Go.Vab

/-
  CopyState and CopyAction, walked.
-/
namespace Go.Vab
open Go Go.Proofs

theorem BytFrom.up {n m : Nat} {A u e U : Heap} {y : AV} {b : Bs} (hr : BytFrom m u y b) (hk : m = n + A.length) (hU : A ++ (u ++ e) = U) : BytFrom n U y b := fun F l hF => by
  have h1 : F ++ (U ++ l) = (F ++ A) ++ (u ++ (e ++ l)) := by rw [← hU]; simp only [List.append_assoc]
  rw [h1]
  exact hr _ _ (by simp [hF, hk])
theorem RowFrom.up {n m : Nat} {A u e U : Heap} {t : Ty} {y : AV} {b : List AV} (hr : RowFrom m u t y b) (hk : m = n + A.length) (hU : A ++ (u ++ e) = U) : RowFrom n U t y b := fun F l hF => by
  have h1 : F ++ (U ++ l) = (F ++ A) ++ (u ++ (e ++ l)) := by rw [← hU]; simp only [List.append_assoc]
  rw [h1]
  exact hr _ _ (by simp [hF, hk])
/-- A state and an action, whatever lies ahead of them. -/
structure StF (m : Nat) (u : Heap) (s : Stt) (vt vp vs vi va vb : AV) : Prop where
  ft : BytFrom m u vt s.title
  fp : BytFrom m u vp s.pass
  fs : RowFrom m u tSeat vs (s.seats.map eSeat)
  fi : RowFrom m u tInvite vi (s.invites.map eInv)
  fa : RowFrom m u tAsk va (s.asks.map eAsk)
  fb : RowFrom m u tBan vb (s.bans.map eBan)
structure ActF (m : Nat) (u : Heap) (a : Actn) (vt vp : AV) : Prop where
  t : BytFrom m u vt a.title
  p : BytFrom m u vp a.pass
theorem StF.at_ {F u : Heap} {m : Nat} {s : Stt} {vt vp vs vi va vb : AV} (k : StF m u s vt vp vs vi va vb) (hF : F.length = m) : StR (F ++ u) s vt vp vs vi va vb := ⟨k.ft.at_ hF, k.fp.at_ hF, k.fs.at_ hF, k.fi.at_ hF, k.fa.at_ hF, k.fb.at_ hF⟩
theorem ActF.at_ {F u : Heap} {m : Nat} {a : Actn} {vt vp : AV} (k : ActF m u a vt vp) (hF : F.length = m) : ActR (F ++ u) a vt vp := ⟨k.t.at_ hF, k.p.at_ hF⟩

/-- Lists that are short enough to be copied. -/
def short (s : Stt) : Prop := s.title.length ≤ 100000 ∧ s.pass.length ≤ 100000 ∧ s.seats.length ≤ 100000 ∧ s.invites.length ≤ 100000 ∧ s.asks.length ≤ 100000 ∧ s.bans.length ≤ 100000

theorem c12f {h : Heap} {a : Stt} {vt vp vs vi va vb : AV} (ra : StR h a vt vp vs vi va vb) (hs : short a) :
    SpecQ Try.prog 12 [eSt a vt vp vs vi va vb] h fun r => ∃ vt' vp' vs' vi' va' vb' t, r = (eSt a vt' vp' vs' vi' va' vb', h ++ t) ∧ StF h.length t a vt' vp' vs' vi' va' vb' := by
  obtain ⟨b1, b2, b3, b4, b5, b6⟩ := hs
  have ta := ra.cells
  refine q12 fun env g0 => ?_
  repeat' (first
    | ((with_reducible apply evs_of); (focus ((conv => lhs; simp (disch := omega) [g0, ta]); done)); try dsimp only)
    | ((with_reducible apply appA_i); (focus ((conv => lhs; simp (disch := omega) [g0, ta]); done)); (focus ((conv => lhs; simp (disch := omega) [g0, ta]); done)))
    | (simp (decide := true) only [sn12, sqW_nrm, sqW_exit, sqW_ret, inBlk_nrm, inBlk_ret, inBlk_same, inBlk_exit, if_true, if_false, retW_nrm, retW_ret]))
  refine copyB3 (by simp [mElems_slc]) (ra.ft.app _) (by simp) fun y1 e1 f1 => ?_
  have c1 := f1.cell
  repeat' (first
    | ((with_reducible apply evs_of); (focus ((conv => lhs; simp (disch := omega) [g0, ta, c1]); done)); try dsimp only)
    | ((with_reducible apply appA_i); (focus ((conv => lhs; simp (disch := omega) [g0, ta, c1]); done)); (focus ((conv => lhs; simp (disch := omega) [g0, ta, c1]); done)))
    | (simp (decide := true) only [sn12, sqW_nrm, sqW_exit, sqW_ret, inBlk_nrm, inBlk_ret, inBlk_same, inBlk_exit, if_true, if_false, retW_nrm, retW_ret]))
  refine copyB3 (by simp [mElems_slc]) (ra.fp.app _) (by simp) fun y2 e2 f2 => ?_
  have c2 := f2.cell
  repeat' (first
    | ((with_reducible apply evs_of); (focus ((conv => lhs; simp (disch := omega) [g0, ta, c1, c2]); done)); try dsimp only)
    | ((with_reducible apply appA_i); (focus ((conv => lhs; simp (disch := omega) [g0, ta, c1, c2]); done)); (focus ((conv => lhs; simp (disch := omega) [g0, ta, c1, c2]); done)))
    | (simp (decide := true) only [sn12, sqW_nrm, sqW_exit, sqW_ret, inBlk_nrm, inBlk_ret, inBlk_same, inBlk_exit, if_true, if_false, retW_nrm, retW_ret]))
  refine copyR3 (fun _ => rfl) (by simp [mElems_row]) (ra.fs.app _) (by simp [roomBound]; omega) (by omega) (by simp) fun y3 e3 f3 => ?_
  have c3 := f3.cell
  repeat' (first
    | ((with_reducible apply evs_of); (focus ((conv => lhs; simp (disch := omega) [g0, ta, c1, c2, c3]); done)); try dsimp only)
    | ((with_reducible apply appA_i); (focus ((conv => lhs; simp (disch := omega) [g0, ta, c1, c2, c3]); done)); (focus ((conv => lhs; simp (disch := omega) [g0, ta, c1, c2, c3]); done)))
    | (simp (decide := true) only [sn12, sqW_nrm, sqW_exit, sqW_ret, inBlk_nrm, inBlk_ret, inBlk_same, inBlk_exit, if_true, if_false, retW_nrm, retW_ret]))
  refine copyR3 (fun _ => rfl) (by simp [mElems_row]) (ra.fi.app _) (by simp [roomBound]; omega) (by omega) (by simp) fun y4 e4 f4 => ?_
  have c4 := f4.cell
  repeat' (first
    | ((with_reducible apply evs_of); (focus ((conv => lhs; simp (disch := omega) [g0, ta, c1, c2, c3, c4]); done)); try dsimp only)
    | ((with_reducible apply appA_i); (focus ((conv => lhs; simp (disch := omega) [g0, ta, c1, c2, c3, c4]); done)); (focus ((conv => lhs; simp (disch := omega) [g0, ta, c1, c2, c3, c4]); done)))
    | (simp (decide := true) only [sn12, sqW_nrm, sqW_exit, sqW_ret, inBlk_nrm, inBlk_ret, inBlk_same, inBlk_exit, if_true, if_false, retW_nrm, retW_ret]))
  refine copyR3 (fun _ => rfl) (by simp [mElems_row]) (ra.fa.app _) (by simp [roomBound]; omega) (by omega) (by simp) fun y5 e5 f5 => ?_
  have c5 := f5.cell
  repeat' (first
    | ((with_reducible apply evs_of); (focus ((conv => lhs; simp (disch := omega) [g0, ta, c1, c2, c3, c4, c5]); done)); try dsimp only)
    | ((with_reducible apply appA_i); (focus ((conv => lhs; simp (disch := omega) [g0, ta, c1, c2, c3, c4, c5]); done)); (focus ((conv => lhs; simp (disch := omega) [g0, ta, c1, c2, c3, c4, c5]); done)))
    | (simp (decide := true) only [sn12, sqW_nrm, sqW_exit, sqW_ret, inBlk_nrm, inBlk_ret, inBlk_same, inBlk_exit, if_true, if_false, retW_nrm, retW_ret]))
  refine copyR3 (fun _ => rfl) (by simp [mElems_row]) (ra.fb.app _) (by simp [roomBound]; omega) (by omega) (by simp) fun y6 e6 f6 => ?_
  have c6 := f6.cell
  repeat' (first
    | ((with_reducible apply evs_of); (focus ((conv => lhs; simp (disch := omega) [g0, ta, c1, c2, c3, c4, c5, c6]); done)); try dsimp only)
    | ((with_reducible apply appA_i); (focus ((conv => lhs; simp (disch := omega) [g0, ta, c1, c2, c3, c4, c5, c6]); done)); (focus ((conv => lhs; simp (disch := omega) [g0, ta, c1, c2, c3, c4, c5, c6]); done)))
    | (simp (decide := true) only [sn12, sqW_nrm, sqW_exit, sqW_ret, inBlk_nrm, inBlk_ret, inBlk_same, inBlk_exit, if_true, if_false, retW_nrm, retW_ret]))
  exact ⟨y1, y2, y3, y4, y5, y6, _, rfl, ⟨f1.up (A := [_, _, _]) (by simp) (by simp only [List.append_assoc, List.cons_append, List.nil_append]; rfl), f2.up (A := [_, _, _]) (by simp) (by simp only [List.append_assoc, List.cons_append, List.nil_append]; rfl), f3.up (A := [_, _, _]) (by simp) (by simp only [List.append_assoc, List.cons_append, List.nil_append]; rfl), f4.up (A := [_, _, _]) (by simp) (by simp only [List.append_assoc, List.cons_append, List.nil_append]; rfl), f5.up (A := [_, _, _]) (by simp) (by simp only [List.append_assoc, List.cons_append, List.nil_append]; rfl), f6.up (A := [_, _, _]) (e := []) (by simp) (by simp only [List.append_assoc, List.cons_append, List.nil_append, List.append_nil]; rfl)⟩⟩

theorem c12 {h : Heap} {a : Stt} {vt vp vs vi va vb : AV} (ra : StR h a vt vp vs vi va vb) (hs : short a) :
    SpecQ Try.prog 12 [eSt a vt vp vs vi va vb] h fun r => ∃ vt' vp' vs' vi' va' vb' t, r = (eSt a vt' vp' vs' vi' va' vb', h ++ t) ∧ StR (h ++ t) a vt' vp' vs' vi' va' vb' :=
  (c12f ra hs).mono fun _ ⟨vt', vp', vs', vi', va', vb', t, e, k⟩ => ⟨vt', vp', vs', vi', va', vb', t, e, k.at_ rfl⟩

def shortA (a : Actn) : Prop := a.title.length ≤ 100000 ∧ a.pass.length ≤ 100000

theorem c35f {h : Heap} {a : Actn} {vt vp : AV} (ra : ActR h a vt vp) (hs : shortA a) :
    SpecQ Try.prog 35 [eAct a vt vp] h fun r => ∃ vt' vp' t, r = (eAct a vt' vp', h ++ t) ∧ ActF h.length t a vt' vp' := by
  obtain ⟨b1, b2⟩ := hs
  have ta := ra.cells
  refine q35 fun env g0 => ?_
  repeat' (first
    | ((with_reducible apply evs_of); (focus ((conv => lhs; simp (disch := omega) [g0, ta]); done)); try dsimp only)
    | ((with_reducible apply appA_i); (focus ((conv => lhs; simp (disch := omega) [g0, ta]); done)); (focus ((conv => lhs; simp (disch := omega) [g0, ta]); done)))
    | (simp (decide := true) only [sn35, sqW_nrm, sqW_exit, sqW_ret, inBlk_nrm, inBlk_ret, inBlk_same, inBlk_exit, if_true, if_false, retW_nrm, retW_ret]))
  refine copyB3 (by simp [mElems_slc]) (ra.t.app _) (by simp) fun y1 e1 f1 => ?_
  have c1 := f1.cell
  repeat' (first
    | ((with_reducible apply evs_of); (focus ((conv => lhs; simp (disch := omega) [g0, ta, c1]); done)); try dsimp only)
    | ((with_reducible apply appA_i); (focus ((conv => lhs; simp (disch := omega) [g0, ta, c1]); done)); (focus ((conv => lhs; simp (disch := omega) [g0, ta, c1]); done)))
    | (simp (decide := true) only [sn35, sqW_nrm, sqW_exit, sqW_ret, inBlk_nrm, inBlk_ret, inBlk_same, inBlk_exit, if_true, if_false, retW_nrm, retW_ret]))
  refine copyB3 (by simp [mElems_slc]) (ra.p.app _) (by simp) fun y2 e2 f2 => ?_
  have c2 := f2.cell
  repeat' (first
    | ((with_reducible apply evs_of); (focus ((conv => lhs; simp (disch := omega) [g0, ta, c1, c2]); done)); try dsimp only)
    | ((with_reducible apply appA_i); (focus ((conv => lhs; simp (disch := omega) [g0, ta, c1, c2]); done)); (focus ((conv => lhs; simp (disch := omega) [g0, ta, c1, c2]); done)))
    | (simp (decide := true) only [sn35, sqW_nrm, sqW_exit, sqW_ret, inBlk_nrm, inBlk_ret, inBlk_same, inBlk_exit, if_true, if_false, retW_nrm, retW_ret]))
  exact ⟨y1, y2, _, rfl, ⟨f1.up (A := [_, _, _]) (by simp) (by simp only [List.append_assoc, List.cons_append, List.nil_append]; rfl), f2.up (A := [_, _, _]) (e := []) (by simp) (by simp only [List.append_assoc, List.cons_append, List.nil_append, List.append_nil]; rfl)⟩⟩

end Go.Vab

/- How the code of a function is read. Printed by wip/tools/gen2.py (own work). -/
namespace Go.Vab
open Go Go.Proofs
/-! vestry/vestryref14.CopyProof -/
def cx36 : Ctx := ⟨fun _ _ _ => none, TT, 10, [3, 4, 5, 6, 7, 8, 9]⟩
noncomputable def n36_0 : Code := bodyOf Try.f36
noncomputable def n36_1 : Code := cR n36_0
noncomputable def n36_2 : Code := cR n36_1
theorem n36_2_eq (Q : Ex × St → Prop) (s : St) : wC Try.prog cx36 n36_2 Q s = Q (.ret, s) := yE
theorem n36_1_ok : treeOk (cOps (cL n36_1)).toList [2, 5, 7] [0, 1, 0, 0, 8, 28, 63, 127] = true := by kernel_rfl
theorem n36_1_w (Q : Ex × St → Prop) (env : Env) (h : Heap) (H : Evs (mFieldAddr tProof (env.get 1) 0) fun v0_1 => Evs (mLoad (.arr 32 (.int .u8)) v0_1 h) fun v1_2 => Evs (mFieldAddr tProof (env.get 1) 1) fun v3_3 => Evs (mLoad .cell v3_3 h) fun v4_4 => Evs (mBuildSlice (.arr 32 (.int .u8)) (arr 32 fun _ => 0#8) 0 [] h) fun r2_5 => stabP (mLoad (.arr 32 (.int .u8)) v0_1 r2_5.2 = some v1_2) (stabP (mLoad .cell v3_3 r2_5.2 = some v4_4) (appA (.arr 32 (.int .u8)) 32 (arr 32 fun _ => 0#8) r2_5.1 v4_4 r2_5.2 fun r5_6 => stabP (mLoad (.arr 32 (.int .u8)) v0_1 r5_6.2 = some v1_2) (Evs (fillRow tProof (.node [(arr 32 fun _ => 0#8), .nilslice]) [(0, v1_2), (1, r5_6.1)]) fun v6_7 => Evs (stU tProof (env.get 2) v6_7 r5_6.2) fun r7_8 => wC Try.prog cx36 n36_2 Q ⟨env, r7_8.2⟩)))) : wC Try.prog cx36 n36_1 Q ⟨env, h⟩ := by
  refine ySD 1 (cOps (cL n36_1)) (cR n36_1) [2, 5, 7] [0, 1, 0, 0, 8, 28, 63, 127] [0, 1, 3, 4] n36_1_ok ?_
  refine rP H 3 fun v0_1 H => ?_
  refine rP H 4 fun v1_2 H => ?_
  refine rP H 6 fun v3_3 H => ?_
  refine rP H 7 fun v4_4 H => ?_
  refine rE ?_
  refine tN 2 [] ?_
  refine aN1 ?_
  refine tH H 5 [] [1, 4] (fun r2_5 H => ?_)
  refine sP v1_2 4 H (fun H => ?_) (by kernel_rfl) (by kernel_rfl) (by kernel_rfl)
  refine sP v4_4 7 H (fun H => ?_) (by kernel_rfl) (by kernel_rfl) (by kernel_rfl)
  refine ⟨sNil, ?_⟩
  refine rE ?_
  refine tN 5 [] ?_
  refine aN1 ?_
  refine tH H 8 [6] [1] (fun r5_6 H => ?_)
  refine sP v1_2 4 H (fun H => ?_) (by kernel_rfl) (by kernel_rfl) (by kernel_rfl)
  refine ⟨sNil, ?_⟩
  refine rP H 9 fun v6_7 H => ?_
  refine rE ?_
  refine tN 7 [] ?_
  refine aN1 ?_
  refine tHn H [] [] (fun r7_8 H => ?_)
  refine ⟨sNil, ?_⟩
  refine rE ?_
  exact tE H
theorem n36_0_eq (Q : Ex × St → Prop) (env : Env) (h : Heap) : wC Try.prog cx36 n36_0 Q ⟨env, h⟩ = (Evs (mNew tProof (env.get 0) h) fun r0 => Evs (mNew tProof (.node [(arr 32 fun _ => 0#8), .nilslice]) r0.2) fun r1 => wC Try.prog cx36 n36_1 Q ⟨(Env.put (Env.put env 1 r0.1) 2 r1.1), r1.2⟩) := (ySR 0 (cOps (cL n36_0)) (cR n36_0)).trans (by
  refine w0 ?_
  refine wH 1 fun r0 => ?_
  refine wH 2 fun r1 => ?_
  exact wE)
theorem fn36 : Try.prog.funcs[36]? = some Try.f36 := by kernel_rfl
theorem q36 {a0 : AV} {h : Heap} {K : AV × Heap → Prop} (H : ∀ env : Env, env.get 0 = a0 → wC Try.prog cx36 n36_0 (retW (fun s => (bnd (mLoad tProof (s.env.get 2) s.heap) fun v => bnd (some []) fun vs => some (v :: vs))) K) ⟨env, h⟩) : SpecQ Try.prog 36 [a0] h K :=
  bodyW_sound (C := cx36) TT_ok mixed_ok fn36 (by kernel_rfl) (show _ = some n36_0 by kernel_rfl) (by kernel_rfl) (by kernel_rfl) (of_decide_eq_true (by kernel_rfl)) ((show wC Try.prog cx36 n36_0 (retW (fun s => resAll cx36 s Try.f36.results.toList) K) ⟨env0 cx36 [a0], h⟩ = wC Try.prog cx36 n36_0 (retW (fun s => (bnd (mLoad tProof (s.env.get 2) s.heap) fun v => bnd (some []) fun vs => some (v :: vs))) K) ⟨[(0, a0), (1, .junk), (2, .junk)], h⟩ by kernel_rfl).mpr (H [(0, a0), (1, .junk), (2, .junk)] rfl))
def sn36 := And.intro n36_2_eq (n36_0_eq)
-- draws: n36_1
end Go.Vab

/- How the code of a function is read. Printed by wip/tools/gen2.py (own work). -/
namespace Go.Vab
open Go Go.Proofs
/-! vestry/vestryref18.CopyRequest -/
def cx19 : Ctx := ⟨fun _ _ _ => none, TT, 42, [4, 5, 6, 7, 8, 9, 10, 11, 12, 13, 14, 15, 16, 17, 18, 19, 20, 21, 22, 23, 24, 25, 26, 27, 28, 29, 30, 31, 32, 33, 34, 35, 36, 37, 38, 39, 40, 41]⟩
noncomputable def n19_0 : Code := bodyOf Try.f19
noncomputable def n19_1 : Code := cR n19_0
noncomputable def n19_2 : Code := cR n19_1
noncomputable def n19_3 : Code := cR n19_2
noncomputable def n19_4 : Code := cR n19_3
noncomputable def n19_5 : Code := cR n19_4
noncomputable def n19_6 : Code := cR n19_5
noncomputable def n19_7 : Code := cR n19_6
noncomputable def n19_8 : Code := cR n19_7
noncomputable def n19_9 : Code := cR n19_8
theorem n19_9_eq (Q : Ex × St → Prop) (s : St) : wC Try.prog cx19 n19_9 Q s = Q (.ret, s) := yE
theorem n19_8_eq (Q : Ex × St → Prop) (env : Env) (h : Heap) : wC Try.prog cx19 n19_8 Q ⟨env, h⟩ = (Evs (mLoad tRequest (env.get 3) h) fun v0 => Evs (stU tRequest (env.get 2) v0 h) fun r1 => wC Try.prog cx19 n19_9 Q ⟨env, r1.2⟩) := (ySR 8 (cOps (cL n19_8)) (cR n19_8)).trans (by
  refine w0 ?_
  refine wP 41 fun v0 => ?_
  refine wHn fun r1 => ?_
  exact wE)
theorem n19_7_eq (Q : Ex × St → Prop) (env : Env) (h : Heap) : wC Try.prog cx19 n19_7 Q ⟨env, h⟩ = (Evs (mFieldAddr tRequest (env.get 1) 11) fun v0 => Evs (mFieldAddr tVoucher v0 5) fun v1 => Evs (mLoad tProof v1 h) fun v2 => SpecA Try.prog 36 [v2] h fun r3 => Evs (mFieldAddr tRequest (env.get 3) 11) fun v4 => Evs (mFieldAddr tVoucher v4 5) fun v5 => Evs (stU tProof v5 r3.1 r3.2) fun r6 => wC Try.prog cx19 n19_8 Q ⟨env, r6.2⟩) := (ySR 7 (cOps (cL n19_7)) (cR n19_7)).trans (by
  refine w0 ?_
  refine wP 35 fun v0 => ?_
  refine wP 36 fun v1 => ?_
  refine wP 37 fun v2 => ?_
  refine wH 38 fun r3 => ?_
  refine wP 39 fun v4 => ?_
  refine wP 40 fun v5 => ?_
  refine wHn fun r6 => ?_
  exact wE)
theorem n19_6_eq (Q : Ex × St → Prop) (env : Env) (h : Heap) : wC Try.prog cx19 n19_6 Q ⟨env, h⟩ = (Evs (mFieldAddr tRequest (env.get 1) 10) fun v0 => Evs (mFieldAddr tShown v0 1) fun v1 => Evs (mFieldAddr tTied v1 1) fun v2 => Evs (mLoad tProof v2 h) fun v3 => SpecA Try.prog 36 [v3] h fun r4 => Evs (mFieldAddr tRequest (env.get 3) 10) fun v5 => Evs (mFieldAddr tShown v5 1) fun v6 => Evs (mFieldAddr tTied v6 1) fun v7 => Evs (stU tProof v7 r4.1 r4.2) fun r8 => wC Try.prog cx19 n19_7 Q ⟨env, r8.2⟩) := (ySR 6 (cOps (cL n19_6)) (cR n19_6)).trans (by
  refine w0 ?_
  refine wP 27 fun v0 => ?_
  refine wP 28 fun v1 => ?_
  refine wP 29 fun v2 => ?_
  refine wP 30 fun v3 => ?_
  refine wH 31 fun r4 => ?_
  refine wP 32 fun v5 => ?_
  refine wP 33 fun v6 => ?_
  refine wP 34 fun v7 => ?_
  refine wHn fun r8 => ?_
  exact wE)
theorem n19_5_eq (Q : Ex × St → Prop) (env : Env) (h : Heap) : wC Try.prog cx19 n19_5 Q ⟨env, h⟩ = (Evs (mFieldAddr tRequest (env.get 1) 10) fun v0 => Evs (mFieldAddr tShown v0 0) fun v1 => Evs (mFieldAddr tPass v1 3) fun v2 => Evs (mLoad tProof v2 h) fun v3 => SpecA Try.prog 36 [v3] h fun r4 => Evs (mFieldAddr tRequest (env.get 3) 10) fun v5 => Evs (mFieldAddr tShown v5 0) fun v6 => Evs (mFieldAddr tPass v6 3) fun v7 => Evs (stU tProof v7 r4.1 r4.2) fun r8 => wC Try.prog cx19 n19_6 Q ⟨env, r8.2⟩) := (ySR 5 (cOps (cL n19_5)) (cR n19_5)).trans (by
  refine w0 ?_
  refine wP 19 fun v0 => ?_
  refine wP 20 fun v1 => ?_
  refine wP 21 fun v2 => ?_
  refine wP 22 fun v3 => ?_
  refine wH 23 fun r4 => ?_
  refine wP 24 fun v5 => ?_
  refine wP 25 fun v6 => ?_
  refine wP 26 fun v7 => ?_
  refine wHn fun r8 => ?_
  exact wE)
theorem n19_4_eq (Q : Ex × St → Prop) (env : Env) (h : Heap) : wC Try.prog cx19 n19_4 Q ⟨env, h⟩ = (Evs (mFieldAddr tRequest (env.get 1) 8) fun v0 => Evs (mLoad tAction v0 h) fun v1 => SpecA Try.prog 35 [v1] h fun r2 => Evs (mFieldAddr tRequest (env.get 3) 8) fun v3 => Evs (stU tAction v3 r2.1 r2.2) fun r4 => wC Try.prog cx19 n19_5 Q ⟨env, r4.2⟩) := (ySR 4 (cOps (cL n19_4)) (cR n19_4)).trans (by
  refine w0 ?_
  refine wP 15 fun v0 => ?_
  refine wP 16 fun v1 => ?_
  refine wH 17 fun r2 => ?_
  refine wP 18 fun v3 => ?_
  refine wHn fun r4 => ?_
  exact wE)
theorem n19_3_eq (Q : Ex × St → Prop) (env : Env) (h : Heap) : wC Try.prog cx19 n19_3 Q ⟨env, h⟩ = (Evs (mBuildSlice (.int .u8) (u8 0#8) 0 [] h) fun r0 => Evs (mFieldAddr tRequest (env.get 1) 7) fun v1 => Evs (mLoad .cell v1 r0.2) fun v2 => appA (.int .u8) 1 (u8 0#8) r0.1 v2 r0.2 fun r3 => Evs (mFieldAddr tRequest (env.get 3) 7) fun v4 => Evs (stU .cell v4 r3.1 r3.2) fun r5 => wC Try.prog cx19 n19_4 Q ⟨env, r5.2⟩) := (ySR 3 (cOps (cL n19_3)) (cR n19_3)).trans (by
  refine w0 ?_
  refine wH 10 fun r0 => ?_
  refine wP 11 fun v1 => ?_
  refine wP 12 fun v2 => ?_
  refine wH 13 fun r3 => ?_
  refine wP 14 fun v4 => ?_
  refine wHn fun r5 => ?_
  exact wE)
theorem n19_2_eq (Q : Ex × St → Prop) (env : Env) (h : Heap) : wC Try.prog cx19 n19_2 Q ⟨env, h⟩ = (Evs (mBuildSlice (.int .u8) (u8 0#8) 0 [] h) fun r0 => Evs (mFieldAddr tRequest (env.get 1) 4) fun v1 => Evs (mLoad .cell v1 r0.2) fun v2 => appA (.int .u8) 1 (u8 0#8) r0.1 v2 r0.2 fun r3 => Evs (mFieldAddr tRequest (env.get 3) 4) fun v4 => Evs (stU .cell v4 r3.1 r3.2) fun r5 => wC Try.prog cx19 n19_3 Q ⟨env, r5.2⟩) := (ySR 2 (cOps (cL n19_2)) (cR n19_2)).trans (by
  refine w0 ?_
  refine wH 5 fun r0 => ?_
  refine wP 6 fun v1 => ?_
  refine wP 7 fun v2 => ?_
  refine wH 8 fun r3 => ?_
  refine wP 9 fun v4 => ?_
  refine wHn fun r5 => ?_
  exact wE)
theorem n19_1_eq (Q : Ex × St → Prop) (env : Env) (h : Heap) : wC Try.prog cx19 n19_1 Q ⟨env, h⟩ = (Evs (mLoad tRequest (env.get 1) h) fun v0 => Evs (mNew tRequest (.node [(u8 0#8), (arr 16 fun _ => 0#8), (u32 0#32), (.node [(arr 32 fun _ => 0#8), (arr 32 fun _ => 0#8)]), .nilslice, (.node [(u8 0#8), (u8 0#8), (u8 0#8)]), (.node [(arr 32 fun _ => 0#8), (arr 32 fun _ => 0#8)]), .nilslice, (.node [(u32 0#32), (u8 0#8), (.node [(arr 32 fun _ => 0#8), (arr 32 fun _ => 0#8)]), (arr 32 fun _ => 0#8), (u8 0#8), .nilslice, (.node [(u8 0#8), (u8 0#8), (u8 0#8)]), .nilslice]), (u32 0#32), (.node [(.node [(arr 32 fun _ => 0#8), (arr 32 fun _ => 0#8), (arr 32 fun _ => 0#8), (.node [(arr 32 fun _ => 0#8), .nilslice])]), (.node [(arr 32 fun _ => 0#8), (.node [(arr 32 fun _ => 0#8), .nilslice])])]), (.node [(arr 32 fun _ => 0#8), (arr 32 fun _ => 0#8), (arr 32 fun _ => 0#8), (arr 32 fun _ => 0#8), (arr 32 fun _ => 0#8), (.node [(arr 32 fun _ => 0#8), .nilslice])])]) h) fun r1 => Evs (stU tRequest r1.1 v0 r1.2) fun r2 => wC Try.prog cx19 n19_2 Q ⟨(Env.put env 3 r1.1), r2.2⟩) := (ySR 1 (cOps (cL n19_1)) (cR n19_1)).trans (by
  refine w0 ?_
  refine wP 4 fun v0 => ?_
  refine wH 3 fun r1 => ?_
  refine wHn fun r2 => ?_
  exact wE)
theorem n19_0_eq (Q : Ex × St → Prop) (env : Env) (h : Heap) : wC Try.prog cx19 n19_0 Q ⟨env, h⟩ = (Evs (mNew tRequest (env.get 0) h) fun r0 => Evs (mNew tRequest (.node [(u8 0#8), (arr 16 fun _ => 0#8), (u32 0#32), (.node [(arr 32 fun _ => 0#8), (arr 32 fun _ => 0#8)]), .nilslice, (.node [(u8 0#8), (u8 0#8), (u8 0#8)]), (.node [(arr 32 fun _ => 0#8), (arr 32 fun _ => 0#8)]), .nilslice, (.node [(u32 0#32), (u8 0#8), (.node [(arr 32 fun _ => 0#8), (arr 32 fun _ => 0#8)]), (arr 32 fun _ => 0#8), (u8 0#8), .nilslice, (.node [(u8 0#8), (u8 0#8), (u8 0#8)]), .nilslice]), (u32 0#32), (.node [(.node [(arr 32 fun _ => 0#8), (arr 32 fun _ => 0#8), (arr 32 fun _ => 0#8), (.node [(arr 32 fun _ => 0#8), .nilslice])]), (.node [(arr 32 fun _ => 0#8), (.node [(arr 32 fun _ => 0#8), .nilslice])])]), (.node [(arr 32 fun _ => 0#8), (arr 32 fun _ => 0#8), (arr 32 fun _ => 0#8), (arr 32 fun _ => 0#8), (arr 32 fun _ => 0#8), (.node [(arr 32 fun _ => 0#8), .nilslice])])]) r0.2) fun r1 => wC Try.prog cx19 n19_1 Q ⟨(Env.put (Env.put env 1 r0.1) 2 r1.1), r1.2⟩) := (ySR 0 (cOps (cL n19_0)) (cR n19_0)).trans (by
  refine w0 ?_
  refine wH 1 fun r0 => ?_
  refine wH 2 fun r1 => ?_
  exact wE)
theorem fn19 : Try.prog.funcs[19]? = some Try.f19 := by kernel_rfl
theorem q19 {a0 : AV} {h : Heap} {K : AV × Heap → Prop} (H : ∀ env : Env, env.get 0 = a0 → wC Try.prog cx19 n19_0 (retW (fun s => (bnd (mLoad tRequest (s.env.get 2) s.heap) fun v => bnd (some []) fun vs => some (v :: vs))) K) ⟨env, h⟩) : SpecQ Try.prog 19 [a0] h K :=
  bodyW_sound (C := cx19) TT_ok mixed_ok fn19 (by kernel_rfl) (show _ = some n19_0 by kernel_rfl) (by kernel_rfl) (by kernel_rfl) (of_decide_eq_true (by kernel_rfl)) ((show wC Try.prog cx19 n19_0 (retW (fun s => resAll cx19 s Try.f19.results.toList) K) ⟨env0 cx19 [a0], h⟩ = wC Try.prog cx19 n19_0 (retW (fun s => (bnd (mLoad tRequest (s.env.get 2) s.heap) fun v => bnd (some []) fun vs => some (v :: vs))) K) ⟨[(0, a0), (1, .junk), (2, .junk), (3, .junk)], h⟩ by kernel_rfl).mpr (H [(0, a0), (1, .junk), (2, .junk), (3, .junk)] rfl))
def sn19 := And.intro n19_9_eq (And.intro n19_8_eq (And.intro n19_7_eq (And.intro n19_6_eq (And.intro n19_5_eq (And.intro n19_4_eq (And.intro n19_3_eq (And.intro n19_2_eq (And.intro n19_1_eq (n19_0_eq)))))))))
-- draws: 
end Go.Vab

/-
  CopyProof and CopyRequest, walked.
-/
namespace Go.Vab
open Go Go.Proofs

@[simp] theorem build0_Pt (p : Pt) (h : Heap) : mBuildSlice tPt (pt p) 0 [] h = some (.slice h.length 0 [] tPt 0 0 (some 0), h ++ [⟨.node [], 0, .own⟩]) := rfl
theorem fold_ePrf (c : Pt) (x : AV) : AV.node [pt c, x] = ePrf c x := rfl

theorem fillP (c : Pt) {y : AV} (hy : hasTy y .cell = true) : fillRow tProof (AV.node [pt pt0, AV.nilslice]) [(0, pt c), (1, y)] = some (ePrf c y) := by
  simp [fillRow, hy, ePrf, arr_zero]

theorem c36 {h : Heap} {p : Prf} {vs : AV} (ra : Pts h vs p.s) (hs : p.s.length ≤ 100000) :
    SpecQ Try.prog 36 [ePf p vs] h fun r => ∃ vs' t, r = (ePf p vs', h ++ t) ∧ RowFrom h.length t tPt vs' (p.s.map pt) := by
  have ta := ra.cell
  refine q36 fun env g0 => ?_
  repeat' (first
    | ((with_reducible apply evs_of); (focus ((conv => lhs; simp (disch := omega) [g0, ta]); done)); try dsimp only)
    | ((with_reducible apply stabP_i); (focus (simp (disch := omega) [g0, ta]; done)))
    | ((with_reducible apply stabA_i); (focus ((conv => lhs; simp (disch := omega) [g0, ta]); done)))
    | ((with_reducible apply stabA_fn); (focus ((conv => lhs; simp (disch := omega) [g0, ta]); done)))
    | ((with_reducible apply appA_i); (focus ((conv => lhs; simp (disch := omega) [g0, ta]); done)); (focus ((conv => lhs; simp (disch := omega) [g0, ta]); done)))
    | ((with_reducible apply stab_do); (focus (simp (disch := omega) [g0, ta]; done)))
    | (simp (decide := true) only [sn36, sqW_nrm, sqW_exit, sqW_ret, inBlk_nrm, inBlk_ret, inBlk_same, inBlk_exit, if_true, if_false, retW_nrm, retW_ret])
    | (with_reducible refine n36_1_w _ _ _ ?_))
  refine copyR2 (fun _ => rfl) (by simp [mElems_row]) (ra.app _) (by simp [roomBound]; omega) (by omega) (by simp) fun y1 e1 f1 => ?_
  have c1 := f1.cell
  have hf := fillP p.c c1
  have hz : (AV.node [pt pt0, .nilslice]).put [] (ePrf p.c y1) = some (ePrf p.c y1) := rfl
  repeat' (first
    | ((with_reducible apply evs_of); (focus ((conv => lhs; simp (disch := omega) [g0, ta, c1, hf]); done)); try dsimp only)
    | ((with_reducible apply stabP_i); (focus (simp (disch := omega) [g0, ta, c1, hf]; done)))
    | ((with_reducible apply stabA_i); (focus ((conv => lhs; simp (disch := omega) [g0, ta, c1, hf]); done)))
    | ((with_reducible apply stabA_fn); (focus ((conv => lhs; simp (disch := omega) [g0, ta, c1, hf]); done)))
    | ((with_reducible apply appA_i); (focus ((conv => lhs; simp (disch := omega) [g0, ta, c1, hf]); done)); (focus ((conv => lhs; simp (disch := omega) [g0, ta, c1, hf]); done)))
    | ((with_reducible apply stab_do); (focus (simp (disch := omega) [g0, ta, c1, hf]; done)))
    | (simp (decide := true) only [sn36, sqW_nrm, sqW_exit, sqW_ret, inBlk_nrm, inBlk_ret, inBlk_same, inBlk_exit, if_true, if_false, retW_nrm, retW_ret])
    | (with_reducible refine n36_1_w _ _ _ ?_))
  exact ⟨y1, _, rfl, f1.up (A := [_, _]) (e := []) (by simp) (by simp only [List.append_assoc, List.cons_append, List.nil_append, List.append_nil]; rfl)⟩

/-- Points, whatever lies ahead of them. -/
abbrev PtsF (m : Nat) (u : Heap) (v : AV) (l : List Pt) : Prop := RowFrom m u tPt v (l.map pt)
def shortR (r : Req) : Prop := r.title.length ≤ 100000 ∧ r.pass.length ≤ 100000 ∧ shortA r.act ∧ r.shown.pas.prf.s.length ≤ 100000 ∧ r.shown.tie.prf.s.length ≤ 100000 ∧ r.vou.prf.s.length ≤ 100000

set_option maxRecDepth 20000 in
theorem c19 {h : Heap} {a : Req} {vt vp at_ ap s1 s2 s3 : AV} (ra : ReqR h a vt vp at_ ap s1 s2 s3) (hs : shortR a) :
    SpecQ Try.prog 19 [eReq a vt vp at_ ap s1 s2 s3] h fun r => ∃ vt' vp' at' ap' s1' s2' s3' t, r = (eReq a vt' vp' at' ap' s1' s2' s3', h ++ t) ∧ ReqR (h ++ t) a vt' vp' at' ap' s1' s2' s3' := by
  obtain ⟨b1, b2, b3, b4, b5, b6⟩ := hs
  have ta := ra.cells
  refine q19 fun env g0 => ?_
  repeat' (first
    | ((with_reducible apply evs_of); (focus ((conv => lhs; simp (disch := omega) [g0, ta]); done)); try dsimp only)
    | ((with_reducible apply SpecA_i); (focus ((conv => lhs; simp (disch := omega) [g0, ta]); done)))
    | ((with_reducible apply appA_i); (focus ((conv => lhs; simp (disch := omega) [g0, ta]); done)); (focus ((conv => lhs; simp (disch := omega) [g0, ta]); done)))
    | (simp (decide := true) only [sn19, sqW_nrm, sqW_exit, sqW_ret, inBlk_nrm, inBlk_ret, inBlk_same, inBlk_exit, if_true, if_false, retW_nrm, retW_ret]))
  refine copyB3 (by simp [mElems_slc]) (ra.t.app _) (by simp) fun y1 e1 f1 => ?_
  have c1 := f1.cell
  repeat' (first
    | ((with_reducible apply evs_of); (focus ((conv => lhs; simp (disch := omega) [g0, ta, c1]); done)); try dsimp only)
    | ((with_reducible apply SpecA_i); (focus ((conv => lhs; simp (disch := omega) [g0, ta, c1]); done)))
    | ((with_reducible apply appA_i); (focus ((conv => lhs; simp (disch := omega) [g0, ta, c1]); done)); (focus ((conv => lhs; simp (disch := omega) [g0, ta, c1]); done)))
    | (simp (decide := true) only [sn19, sqW_nrm, sqW_exit, sqW_ret, inBlk_nrm, inBlk_ret, inBlk_same, inBlk_exit, if_true, if_false, retW_nrm, retW_ret]))
  refine copyB3 (by simp [mElems_slc]) (ra.p.app _) (by simp) fun y2 e2 f2 => ?_
  have c2 := f2.cell
  repeat' (first
    | ((with_reducible apply evs_of); (focus ((conv => lhs; simp (disch := omega) [g0, ta, c1, c2]); done)); try dsimp only)
    | ((with_reducible apply SpecA_i); (focus ((conv => lhs; simp (disch := omega) [g0, ta, c1, c2]); done)))
    | ((with_reducible apply appA_i); (focus ((conv => lhs; simp (disch := omega) [g0, ta, c1, c2]); done)); (focus ((conv => lhs; simp (disch := omega) [g0, ta, c1, c2]); done)))
    | (simp (decide := true) only [sn19, sqW_nrm, sqW_exit, sqW_ret, inBlk_nrm, inBlk_ret, inBlk_same, inBlk_exit, if_true, if_false, retW_nrm, retW_ret]))
  refine SpecQ.step (c35f (ra.a.app _) b3) ?_
  rintro ⟨v, h2⟩ ⟨at', ap', t3, e, f3⟩
  cases e
  have c3 := f3.t.cell
  have c3' := f3.p.cell
  simp only [List.append_assoc, List.cons_append, List.nil_append]
  repeat' (first
    | ((with_reducible apply evs_of); (focus ((conv => lhs; simp (disch := omega) [g0, ta, c1, c2, c3, c3']); done)); try dsimp only)
    | ((with_reducible apply SpecA_i); (focus ((conv => lhs; simp (disch := omega) [g0, ta, c1, c2, c3, c3']); done)))
    | ((with_reducible apply appA_i); (focus ((conv => lhs; simp (disch := omega) [g0, ta, c1, c2, c3, c3']); done)); (focus ((conv => lhs; simp (disch := omega) [g0, ta, c1, c2, c3, c3']); done)))
    | (simp (decide := true) only [sn19, sqW_nrm, sqW_exit, sqW_ret, inBlk_nrm, inBlk_ret, inBlk_same, inBlk_exit, if_true, if_false, retW_nrm, retW_ret]))
  refine SpecQ.step (c36 (ra.x.app _) b4) ?_
  rintro ⟨v, h2⟩ ⟨z0, t4, e, f4⟩
  cases e
  have c4 := f4.cell
  simp only [List.append_assoc, List.cons_append, List.nil_append]
  repeat' (first
    | ((with_reducible apply evs_of); (focus ((conv => lhs; simp (disch := omega) [g0, ta, c1, c2, c3, c3', c4]); done)); try dsimp only)
    | ((with_reducible apply SpecA_i); (focus ((conv => lhs; simp (disch := omega) [g0, ta, c1, c2, c3, c3', c4]); done)))
    | ((with_reducible apply appA_i); (focus ((conv => lhs; simp (disch := omega) [g0, ta, c1, c2, c3, c3', c4]); done)); (focus ((conv => lhs; simp (disch := omega) [g0, ta, c1, c2, c3, c3', c4]); done)))
    | (simp (decide := true) only [sn19, sqW_nrm, sqW_exit, sqW_ret, inBlk_nrm, inBlk_ret, inBlk_same, inBlk_exit, if_true, if_false, retW_nrm, retW_ret]))
  refine SpecQ.step (c36 (ra.y.app _) b5) ?_
  rintro ⟨v, h2⟩ ⟨z1, t5, e, f5⟩
  cases e
  have c5 := f5.cell
  simp only [List.append_assoc, List.cons_append, List.nil_append]
  repeat' (first
    | ((with_reducible apply evs_of); (focus ((conv => lhs; simp (disch := omega) [g0, ta, c1, c2, c3, c3', c4, c5]); done)); try dsimp only)
    | ((with_reducible apply SpecA_i); (focus ((conv => lhs; simp (disch := omega) [g0, ta, c1, c2, c3, c3', c4, c5]); done)))
    | ((with_reducible apply appA_i); (focus ((conv => lhs; simp (disch := omega) [g0, ta, c1, c2, c3, c3', c4, c5]); done)); (focus ((conv => lhs; simp (disch := omega) [g0, ta, c1, c2, c3, c3', c4, c5]); done)))
    | (simp (decide := true) only [sn19, sqW_nrm, sqW_exit, sqW_ret, inBlk_nrm, inBlk_ret, inBlk_same, inBlk_exit, if_true, if_false, retW_nrm, retW_ret]))
  refine SpecQ.step (c36 (ra.z.app _) b6) ?_
  rintro ⟨v, h2⟩ ⟨z2, t6, e, f6⟩
  cases e
  have c6 := f6.cell
  simp only [List.append_assoc, List.cons_append, List.nil_append]
  repeat' (first
    | ((with_reducible apply evs_of); (focus ((conv => lhs; simp (disch := omega) [g0, ta, c1, c2, c3, c3', c4, c5, c6]); done)); try dsimp only)
    | ((with_reducible apply SpecA_i); (focus ((conv => lhs; simp (disch := omega) [g0, ta, c1, c2, c3, c3', c4, c5, c6]); done)))
    | ((with_reducible apply appA_i); (focus ((conv => lhs; simp (disch := omega) [g0, ta, c1, c2, c3, c3', c4, c5, c6]); done)); (focus ((conv => lhs; simp (disch := omega) [g0, ta, c1, c2, c3, c3', c4, c5, c6]); done)))
    | (simp (decide := true) only [sn19, sqW_nrm, sqW_exit, sqW_ret, inBlk_nrm, inBlk_ret, inBlk_same, inBlk_exit, if_true, if_false, retW_nrm, retW_ret]))
  exact ⟨y1, y2, at', ap', z0, z1, z2, _, rfl, (f1.up (n := h.length) (A := [_, _, _]) (by simp) (by simp only [List.append_assoc, List.cons_append, List.nil_append, List.append_nil]; rfl)).at_ rfl, (f2.up (n := h.length) (A := [_, _, _]) (by simp) (by simp only [List.append_assoc, List.cons_append, List.nil_append, List.append_nil]; rfl)).at_ rfl,
    ⟨(f3.t.up (n := h.length) (A := [_, _, _, _] ++ (e1 ++ ([_] ++ e2))) (by simp <;> omega) (by simp only [List.append_assoc, List.cons_append, List.nil_append, List.append_nil]; rfl)).at_ rfl, (f3.p.up (n := h.length) (A := [_, _, _, _] ++ (e1 ++ ([_] ++ e2))) (by simp <;> omega) (by simp only [List.append_assoc, List.cons_append, List.nil_append, List.append_nil]; rfl)).at_ rfl⟩,
    (f4.up (n := h.length) (A := [_, _, _, _] ++ (e1 ++ ([_] ++ (e2 ++ t3)))) (by simp <;> omega) (by simp only [List.append_assoc, List.cons_append, List.nil_append, List.append_nil]; rfl)).at_ rfl,
    (f5.up (n := h.length) (A := [_, _, _, _] ++ (e1 ++ ([_] ++ (e2 ++ (t3 ++ t4))))) (by simp <;> omega) (by simp only [List.append_assoc, List.cons_append, List.nil_append, List.append_nil]; rfl)).at_ rfl,
    (f6.up (n := h.length) (A := [_, _, _, _] ++ (e1 ++ ([_] ++ (e2 ++ (t3 ++ (t4 ++ t5)))))) (e := []) (by simp <;> omega) (by simp only [List.append_assoc, List.cons_append, List.nil_append, List.append_nil]; rfl)).at_ rfl⟩

end Go.Vab

/-
  A slice of structs that grows by append, beside a cell of its own.
-/
namespace Go.Vab
open Go

/-- A row that is being built: nothing, or a block of its own with room behind. -/
def Rn (t : Ty) (H : Heap) (x : AV) (es : List AV) : Prop := es.length ≤ 1000000 ∧ ((x = .nilslice ∧ es = []) ∨
  ∃ b c us, x = .slice b 0 [] t 0 es.length (some c) ∧ H[b]? = some ⟨.node us, 0, .own⟩ ∧ us.length = c ∧ es.length ≤ c ∧ us.take es.length = es)

theorem Rn.mono {t : Ty} {H H' : Heap} {x : AV} {es : List AV} (hr : Rn t H x es) (hk : ∀ b c, rb x = some b → H[b]? = some c → H'[b]? = some c) : Rn t H' x es := by
  obtain ⟨hl, h1 | h1⟩ := hr
  · exact ⟨hl, .inl h1⟩
  · obtain ⟨b, c, us, rfl, h2, h3⟩ := h1
    exact ⟨hl, .inr ⟨b, c, us, rfl, hk _ _ rfl h2, h3⟩⟩
theorem Rn.row {ts : List Ty} {H : Heap} {x : AV} {es : List AV} (hr : Rn (.struct ts) H x es) : Row (.struct ts) H x es := by
  obtain ⟨hl, ⟨rfl, rfl⟩ | ⟨b, c, us, rfl, h2, h3, h4, h5⟩⟩ := hr
  · exact ⟨by simp [mElems], rfl, by simp⟩
  · refine ⟨?_, ⟨rfl, h4, rfl⟩, by omega⟩
    rw [mElems_row]
    have : blkAt H b 0 = some ⟨.node us, 0, .own⟩ := by unfold blkAt; rw [h2]; rfl
    rw [this, bnd_some, get_nil, bnd_some, cut_node_eq, Nat.zero_add, if_pos (by omega), List.drop_zero, h5]
theorem Rn.lt {t : Ty} {H : Heap} {x : AV} {es : List AV} (hr : Rn t H x es) : ∀ b, rb x = some b → b < H.length := by
  intro b hb
  obtain ⟨hl, ⟨rfl, rfl⟩ | ⟨b', c, us, rfl, h2, h3, h4, h5⟩⟩ := hr
  · cases hb
  · cases hb; exact (List.getElem?_eq_some_iff.1 h2).1

/-- One more element. -/
theorem appW_rn {t : Ty} {ts : List Ty} {bytes : Nat} {zero e : AV} {H : Heap} {x y : AV} {es : List AV} {K : AV × Heap → Prop} (ht : t = .struct ts) (hz : ∀ m, zeroRow m zero = .node (List.replicate m zero)) (hr : Rn t H x es) (hy : mElems t y H = some (.node [e])) (hn : es.length < 1000000)
    (hb : bytes ≤ 10000)
    (hK : ∀ x' H', Rn t H' x' (es ++ [e]) → H.length ≤ H'.length → (∀ i, rb x ≠ some i → i < H.length → H'[i]? = H[i]?) → (∀ b, rb x' = some b → rb x = some b ∨ H.length ≤ b) → K (x', H')) : appW t bytes zero x y H K := by
  subst ht
  have hrb : roomBound = roomBound := rfl
  have hmul : (es.length + 1) * bytes ≤ 1000000 * 10000 := Nat.mul_le_mul (by omega) hb
  refine ⟨_, 1, hy, rfl, ?_⟩
  obtain ⟨hl, h1 | h1⟩ := hr
  · obtain ⟨rfl, rfl⟩ := h1
    refine .inr ⟨by omega, by unfold roomBound; omega, by unfold roomBound; omega, by omega, fun c row hc hrow => ?_⟩
    rw [padRow_node hz] at hrow
    cases hrow
    refine hK _ _ ⟨by simp, .inr ⟨H.length, c, [e] ++ List.replicate (c - 1) zero, rfl, by simp, by simp; omega, by simpa using hc, by simp⟩⟩ (by simp) (fun i _ hi => by rw [List.getElem?_append_left hi]) (fun b hb => by cases hb; exact .inr (Nat.le_refl _))
  · obtain ⟨b, c, us, rfl, h2, h3, h4, h5⟩ := h1
    have hbk : blkAt H b 0 = some ⟨.node us, 0, .own⟩ := by unfold blkAt; rw [h2]; rfl
    have hold : mElems (.struct ts) (.slice b 0 [] (.struct ts) 0 es.length (some c)) H = some (.node es) := by
      rw [mElems_row, hbk, bnd_some, get_nil, bnd_some, cut_node_eq, Nat.zero_add, if_pos (by omega), List.drop_zero, h5]
    have hbi : b < H.length := (List.getElem?_eq_some_iff.1 h2).1
    refine ⟨_, _, hold, rfl, ?_⟩
    by_cases hroom : es.length + 1 ≤ c
    · refine .inr (.inl ⟨by omega, hroom, _, _, .node (us.take es.length ++ ([e] ++ us.drop (es.length + 1))), _, hbk, by simp, get_nil _, ?_, put_nil _ _, ?_⟩)
      · simp only [AV.splice, Nat.zero_add]
        rw [if_pos (by simp; omega)]
        simp
      · refine hK _ _ ⟨by simp; omega, .inr ⟨b, c, us.take es.length ++ ([e] ++ us.drop (es.length + 1)), by simp, by rw [List.getElem?_set_self hbi], by simp; omega, by simpa using hroom, ?_⟩⟩ (by simp) (fun i hi _ => ?_) (fun b' hb' => .inl hb')
        · rw [h5, List.length_append, ← List.append_assoc]
          exact List.take_left' (by simp)
        · rw [List.getElem?_set_ne (fun e => hi (by rw [← e]; rfl))]
    · refine .inr (.inr ⟨by omega, by omega, by unfold roomBound; omega, by unfold roomBound; omega, by omega, fun c' row hc hrow => ?_⟩)
      rw [padRow_node hz] at hrow
      cases hrow
      refine hK _ _ ⟨by simp; omega, .inr ⟨H.length, c', es ++ [e] ++ List.replicate (c' - (es.length + 1)) zero, by simp, by simp, by simp; omega, by simpa using hc, List.take_left' (by simp)⟩⟩ (by simp) (fun i _ hi => by rw [List.getElem?_append_left hi]) (fun b' hb' => by cases hb'; exact .inr (Nat.le_refl _))

theorem BytFrom.rb_ge {m : Nat} {u : Heap} {y : AV} {l : Bs} (k : BytFrom m u y l) : ∀ i, rb y = some i → m ≤ i := by
  intro i hi
  cases y with
  | slice b ver path t off len cap =>
    cases hi
    refine Nat.le_of_not_lt fun hlt => ?_
    have h1 := (k (List.replicate m ⟨.undef, 0, .own⟩) [] (by simp)).1.1
    simp only [mElems] at h1
    split at h1
    · obtain ⟨bb, g1, g2⟩ := bnd_eq_some.1 h1
      obtain ⟨g3, g4⟩ := blkAt_spec g1
      rw [List.getElem?_append_left (by simpa using hlt)] at g3
      simp only [List.getElem?_replicate, hlt, if_true, Option.some.injEq] at g3
      subst g3
      obtain ⟨r, g5, g6⟩ := bnd_eq_some.1 g2
      cases path with
      | nil => simp at g5; subst g5; simp [AV.cut] at g6
      | cons p q => simp [AV.get] at g5
    · cases h1
  | _ => cases hi
theorem RowFrom.rb_ge {m : Nat} {u : Heap} {t : Ty} {y : AV} {l : List AV} (k : RowFrom m u t y l) : ∀ i, rb y = some i → m ≤ i := by
  intro i hi
  cases y with
  | slice b ver path t off len cap =>
    cases hi
    refine Nat.le_of_not_lt fun hlt => ?_
    have h1 := (k (List.replicate m ⟨.undef, 0, .own⟩) [] (by simp)).1
    simp only [mElems] at h1
    split at h1
    · obtain ⟨bb, g1, g2⟩ := bnd_eq_some.1 h1
      obtain ⟨g3, g4⟩ := blkAt_spec g1
      rw [List.getElem?_append_left (by simpa using hlt)] at g3
      simp only [List.getElem?_replicate, hlt, if_true, Option.some.injEq] at g3
      subst g3
      obtain ⟨r, g5, g6⟩ := bnd_eq_some.1 g2
      cases path with
      | nil => simp at g5; subst g5; simp [AV.cut] at g6
      | cons p q => simp [AV.get] at g5
    · cases h1
  | _ => cases hi
theorem BytL.rb_lt' {h : Heap} {y : AV} {m : Bs} (hy : BytL h y m) : ∀ b, rb y = some b → b < h.length := by
  intro b hb
  cases y with
  | slice b' ver path t off len cap =>
    cases hb
    have h1 := hy.1.1
    simp only [mElems] at h1
    split at h1
    · obtain ⟨bb, g1, g2⟩ := bnd_eq_some.1 h1
      exact (List.getElem?_eq_some_iff.1 (blkAt_spec g1).1).1
    · cases h1
  | _ => cases hb
theorem Row.rb_lt {h : Heap} {t : Ty} {y : AV} {m : List AV} (hy : Row t h y m) : ∀ b, rb y = some b → b < h.length := by
  intro b hb
  cases y with
  | slice b' ver path t off len cap =>
    cases hb
    have h1 := hy.1
    simp only [mElems] at h1
    split at h1
    · obtain ⟨bb, g1, g2⟩ := bnd_eq_some.1 h1
      exact (List.getElem?_eq_some_iff.1 (blkAt_spec g1).1).1
    · cases h1
  | _ => cases hb

/-- The third of three cells is written. -/
theorem KeepW.cell3 {h u : Heap} {A0 A1 A2 B2 : Blk} {x : AV} : KeepW (h ++ A0 :: A1 :: A2 :: u) (h ++ A0 :: A1 :: B2 :: u) (h.length + 2) x x := by
  refine ⟨by simp, fun i c hi hw _ => ?_, fun b hb => .inl hb⟩
  by_cases h1 : i < h.length
  · rw [List.getElem?_append_left h1] at hi ⊢; exact hi
  · rw [List.getElem?_append_right (by omega)] at hi ⊢
    obtain ⟨k, hk⟩ : ∃ k, i - h.length = k := ⟨_, rfl⟩
    rw [hk] at hi ⊢
    match k with
    | 0 => exact hi
    | 1 => exact hi
    | 2 => omega
    | k + 3 => simpa using hi
theorem cell3_get {h u : Heap} {A0 A1 A2 B2 : Blk} {i : Nat} (hi : i ≠ h.length + 2) : (h ++ A0 :: A1 :: B2 :: u)[i]? = (h ++ A0 :: A1 :: A2 :: u)[i]? := by
  by_cases h1 : i < h.length
  · rw [List.getElem?_append_left h1, List.getElem?_append_left h1]
  · rw [List.getElem?_append_right (by omega), List.getElem?_append_right (by omega)]
    obtain ⟨k, hk⟩ : ∃ k, i - h.length = k := ⟨_, rfl⟩
    rw [hk]
    match k with
    | 0 => rfl
    | 1 => rfl
    | 2 => omega
    | k + 3 => simp
/-- The second of three cells is written. -/
theorem KeepW.cell2 {h u : Heap} {A0 A1 A2 B1 : Blk} {x : AV} : KeepW (h ++ A0 :: A1 :: A2 :: u) (h ++ A0 :: B1 :: A2 :: u) (h.length + 1) x x := by
  refine ⟨by simp, fun i c hi hw _ => ?_, fun b hb => .inl hb⟩
  by_cases h1 : i < h.length
  · rw [List.getElem?_append_left h1] at hi ⊢; exact hi
  · rw [List.getElem?_append_right (by omega)] at hi ⊢
    obtain ⟨k, hk⟩ : ∃ k, i - h.length = k := ⟨_, rfl⟩
    rw [hk] at hi ⊢
    match k with
    | 0 => exact hi
    | 1 => omega
    | k + 2 => simpa using hi
theorem BytL.cells {h u : Heap} {A0 A1 A2 B1 B2 : Blk} {y : AV} {l : Bs} (t : Heap) (hy : BytL (h ++ A0 :: A1 :: A2 :: u) y l) (hl : ∀ b, rb y = some b → h.length + 3 ≤ b) : BytL (h ++ A0 :: B1 :: B2 :: (u ++ t)) y l := by
  have h1 := hy.keep (KeepW.cell3 (B2 := B2) (x := .nilslice)) fun b hb => ⟨hy.rb_lt' b hb, by have := hl b hb; omega, fun e => by cases e⟩
  have h2 := h1.keep (KeepW.cell2 (B1 := B1) (x := .nilslice)) fun b hb => ⟨h1.rb_lt' b hb, by have := hl b hb; omega, fun e => by cases e⟩
  simpa using h2.app t
theorem Row.cells {h u : Heap} {A0 A1 A2 B1 B2 : Blk} {y : AV} {ty : Ty} {l : List AV} (t : Heap) (hy : Row ty (h ++ A0 :: A1 :: A2 :: u) y l) (hl : ∀ b, rb y = some b → h.length + 3 ≤ b) : Row ty (h ++ A0 :: B1 :: B2 :: (u ++ t)) y l := by
  have h1 := hy.keep (KeepW.cell3 (B2 := B2) (x := .nilslice)) fun b hb => ⟨hy.rb_lt b hb, by have := hl b hb; omega, fun e => by cases e⟩
  have h2 := h1.keep (KeepW.cell2 (B1 := B1) (x := .nilslice)) fun b hb => ⟨h1.rb_lt b hb, by have := hl b hb; omega, fun e => by cases e⟩
  simpa using h2.app t
/-- What stays of three cells, whatever grows behind. -/
theorem cells3 {h u H' : Heap} {A0 A1 A2 : Blk} (hl : (h ++ A0 :: A1 :: A2 :: u).length ≤ H'.length) (hk : ∀ i, i < h.length + 3 → H'[i]? = (h ++ A0 :: A1 :: A2 :: u)[i]?) : ∃ u', H' = h ++ A0 :: A1 :: A2 :: u' := by
  refine ⟨H'.drop (h.length + 3), ?_⟩
  have e : H'.take (h.length + 3) = h ++ [A0, A1, A2] := by
    apply List.ext_getElem?
    intro i
    by_cases hi : i < h.length + 3
    · rw [List.getElem?_take_of_lt hi, hk i hi]
      rw [show h ++ A0 :: A1 :: A2 :: u = (h ++ [A0, A1, A2]) ++ u by simp, List.getElem?_append_left (by simpa using hi)]
    · simp at hl
      rw [List.getElem?_eq_none (by simp; omega), List.getElem?_eq_none (by simp; omega)]
  have := List.take_append_drop (h.length + 3) H'
  rw [e] at this
  rw [← this]
  simp

end Go.Vab

/- How the code of a function is read. Printed by wip/tools/gen2.py (own work). -/
namespace Go.Vab
open Go Go.Proofs
/-! vestry/vestryref18.CopyReply -/
def cx20 : Ctx := ⟨fun _ _ _ => none, TT, 45, [5, 6, 7, 8, 9, 10, 11, 12, 13, 14, 16, 17, 18, 19, 20, 21, 22, 23, 24, 25, 26, 27, 28, 29, 30, 31, 32, 33, 34, 35, 36, 37, 38, 39, 40, 41, 42, 43, 44]⟩
noncomputable def n20_0 : Code := bodyOf Try.f20
noncomputable def n20_1 : Code := cR n20_0
noncomputable def n20_2 : Code := cR n20_1
noncomputable def n20_3 : Code := cR n20_2
noncomputable def n20_4 : Code := cR n20_3
noncomputable def n20_5 : Code := cL n20_4
noncomputable def n20_6 : Code := cR n20_5
noncomputable def n20_7 : Code := cB n20_6
noncomputable def n20_8 : Code := cB n20_7
noncomputable def n20_9 : Code := cL n20_8
noncomputable def n20_10 : Code := cR n20_9
noncomputable def n20_11 : Code := cL n20_10
noncomputable def n20_12 : Code := cR n20_10
noncomputable def n20_13 : Code := cR n20_8
noncomputable def n20_14 : Code := cL n20_13
noncomputable def n20_15 : Code := cB n20_14
noncomputable def n20_16 : Code := cR n20_13
noncomputable def n20_17 : Code := cR n20_4
noncomputable def n20_18 : Code := cR n20_17
noncomputable def n20_19 : Code := cR n20_18
theorem n20_11_eq (Q : Ex × St → Prop) (s : St) : wC Try.prog cx20 n20_11 Q s = Q (.nrm, s) := yK
theorem n20_12_eq (Q : Ex × St → Prop) (s : St) : wC Try.prog cx20 n20_12 Q s = Q (.exit 0, s) := yX 0
theorem n20_10_eq (Q : Ex × St → Prop) (s : St) : wC Try.prog cx20 n20_10 Q s = cndW (s.env.get 15) (wL Try.prog cx20 n20_11 Q s) (wL Try.prog cx20 n20_12 Q s) := yC 15 _ _
theorem n20_9_eq (Q : Ex × St → Prop) (env : Env) (h : Heap) : wC Try.prog cx20 n20_9 Q ⟨env, h⟩ = (Evs (mFieldAddr tReply (env.get 1) 3) fun v1 => Evs (mLoad .cell v1 h) fun v2 => Evs (mLenS v2) fun v3 => Evs (mBin .lss (env.get 4) v3) fun v4 => wC Try.prog cx20 n20_10 Q ⟨(Env.put env 15 v4), h⟩) := (ySR 5 (cOps (cL n20_9)) (cR n20_9)).trans (by
  refine w0 ?_
  refine wT 11 (env.get 4) ?_
  refine wP 12 fun v1 => ?_
  refine wP 13 fun v2 => ?_
  refine wP 14 fun v3 => ?_
  refine wP 15 fun v4 => ?_
  exact wE)
theorem n20_15_ok : treeOk (cOps n20_15).toList [2, 9, 17, 18, 20] [0, 1, 0, 0, 8, 0, 56, 120, 248, 508, 0, 1024, 0, 7168, 15360, 31744, 65532, 131068, 262143, 524287, 1048575] = true := by kernel_rfl
theorem n20_15_w (Q : Ex × St → Prop) (env : Env) (h : Heap) (H : Evs (mFieldAddr tReply (env.get 3) 3) fun v0_1 => Evs (mLoad .cell v0_1 h) fun v1_2 => Evs (mFieldAddr tReply (env.get 1) 3) fun v3_3 => Evs (mLoad .cell v3_3 h) fun v4_4 => Evs (mIdxS tDelta v4_4 (env.get 4)) fun v6_5 => Evs (mFieldAddr tDelta v6_5 0) fun v7_6 => Evs (mLoad .cell v7_6 h) fun v8_7 => Evs (mFieldAddr tReply (env.get 1) 3) fun v10_8 => Evs (mLoad .cell v10_8 h) fun v11_9 => Evs (mIdxS tDelta v11_9 (env.get 4)) fun v13_10 => Evs (mFieldAddr tDelta v13_10 1) fun v14_11 => Evs (mLoad tSignature v14_11 h) fun v15_12 => Evs (mBuildSlice (.int .u8) (u8 0#8) 0 [] h) fun r2_13 => stabP (mLoad .cell v0_1 r2_13.2 = some v1_2) (stabP (mLoad .cell v3_3 r2_13.2 = some v4_4) (stabP (mLoad .cell v7_6 r2_13.2 = some v8_7) (stabP (mLoad .cell v10_8 r2_13.2 = some v11_9) (stabP (mLoad tSignature v14_11 r2_13.2 = some v15_12) (appA (.int .u8) 1 (u8 0#8) r2_13.1 v8_7 r2_13.2 fun r9_14 => stabP (mLoad .cell v0_1 r9_14.2 = some v1_2) (stabP (mLoad .cell v10_8 r9_14.2 = some v11_9) (stabP (mLoad tSignature v14_11 r9_14.2 = some v15_12) (Evs (fillRow tDelta (.node [.nilslice, (.node [(arr 32 fun _ => 0#8), (arr 32 fun _ => 0#8)])]) [(0, r9_14.1), (1, v15_12)]) fun v16_15 => Evs (mBuildSlice tDelta (.node [.nilslice, (.node [(arr 32 fun _ => 0#8), (arr 32 fun _ => 0#8)])]) 1 [(0, v16_15)] r9_14.2) fun r17_16 => stabP (mLoad .cell v0_1 r17_16.2 = some v1_2) (appA tDelta 88 (.node [.nilslice, (.node [(arr 32 fun _ => 0#8), (arr 32 fun _ => 0#8)])]) v1_2 r17_16.1 r17_16.2 fun r18_17 => Evs (mFieldAddr tReply (env.get 3) 3) fun v19_18 => Evs (stU .cell v19_18 r18_17.1 r18_17.2) fun r20_19 => Q (.nrm, ⟨env, r20_19.2⟩))))))))))) : wC Try.prog cx20 n20_15 Q ⟨env, h⟩ := by
  refine yD 7 (cOps n20_15) [2, 9, 17, 18, 20] [0, 1, 0, 0, 8, 0, 56, 120, 248, 508, 0, 1024, 0, 7168, 15360, 31744, 65532, 131068, 262143, 524287, 1048575] [0, 1, 3, 4, 5, 6, 7, 8, 10, 11, 12, 13, 14, 15] n20_15_ok ?_
  refine rP H 18 fun v0_1 H => ?_
  refine rP H 19 fun v1_2 H => ?_
  refine rP H 21 fun v3_3 H => ?_
  refine rP H 22 fun v4_4 H => ?_
  refine rT 23 (env.get 4) ?_
  refine rP H 24 fun v6_5 H => ?_
  refine rP H 25 fun v7_6 H => ?_
  refine rP H 26 fun v8_7 H => ?_
  refine rP H 28 fun v10_8 H => ?_
  refine rP H 29 fun v11_9 H => ?_
  refine rT 30 (env.get 4) ?_
  refine rP H 31 fun v13_10 H => ?_
  refine rP H 32 fun v14_11 H => ?_
  refine rP H 33 fun v15_12 H => ?_
  refine rE ?_
  refine tN 2 [] ?_
  refine aN1 ?_
  refine tH H 20 [] [1, 4, 8, 11, 15] (fun r2_13 H => ?_)
  refine sP v1_2 19 H (fun H => ?_) (by kernel_rfl) (by kernel_rfl) (by kernel_rfl)
  refine sP v4_4 22 H (fun H => ?_) (by kernel_rfl) (by kernel_rfl) (by kernel_rfl)
  refine sP v8_7 26 H (fun H => ?_) (by kernel_rfl) (by kernel_rfl) (by kernel_rfl)
  refine sP v11_9 29 H (fun H => ?_) (by kernel_rfl) (by kernel_rfl) (by kernel_rfl)
  refine sP v15_12 33 H (fun H => ?_) (by kernel_rfl) (by kernel_rfl) (by kernel_rfl)
  refine ⟨sNil, ?_⟩
  refine rE ?_
  refine tN 9 [] ?_
  refine aN1 ?_
  refine tH H 27 [16] [1, 11, 15] (fun r9_14 H => ?_)
  refine sP v1_2 19 H (fun H => ?_) (by kernel_rfl) (by kernel_rfl) (by kernel_rfl)
  refine sP v11_9 29 H (fun H => ?_) (by kernel_rfl) (by kernel_rfl) (by kernel_rfl)
  refine sP v15_12 33 H (fun H => ?_) (by kernel_rfl) (by kernel_rfl) (by kernel_rfl)
  refine ⟨sNil, ?_⟩
  refine rP H 34 fun v16_15 H => ?_
  refine rE ?_
  refine tN 17 [] ?_
  refine aN1 ?_
  refine tH H 35 [] [1] (fun r17_16 H => ?_)
  refine sP v1_2 19 H (fun H => ?_) (by kernel_rfl) (by kernel_rfl) (by kernel_rfl)
  refine ⟨sNil, ?_⟩
  refine rE ?_
  refine tN 18 [] ?_
  refine aN1 ?_
  refine tH H 36 [19] [] (fun r18_17 H => ?_)
  refine ⟨sNil, ?_⟩
  refine rP H 37 fun v19_18 H => ?_
  refine rE ?_
  refine tN 20 [] ?_
  refine aN1 ?_
  refine tHn H [] [] (fun r20_19 H => ?_)
  refine ⟨sNil, ?_⟩
  refine rE ?_
  exact tE H
theorem n20_14_eq (Q : Ex × St → Prop) (s : St) : wC Try.prog cx20 n20_14 Q s = wC Try.prog cx20 n20_15 (fun r => Q (inBlk 1 r)) s := yB 1 _
theorem n20_16_eq (Q : Ex × St → Prop) (env : Env) (h : Heap) : wC Try.prog cx20 n20_16 Q ⟨env, h⟩ = (Evs (mBin .add (env.get 4) (nat 1)) fun v1 => Q (.nrm, ⟨(Env.put env 4 v1), h⟩)) := (yR 6 (cOps n20_16)).trans (by
  refine w0 ?_
  refine wT 16 (env.get 4) ?_
  refine wP 17 fun v1 => ?_
  refine wT 4 v1 ?_
  exact wE)
theorem n20_13_eq (Q : Ex × St → Prop) (s : St) : wC Try.prog cx20 n20_13 Q s = wC Try.prog cx20 n20_14 (sqW (wC Try.prog cx20 n20_16) Q) s := yS _ _
theorem n20_8_eq (Q : Ex × St → Prop) (s : St) : wC Try.prog cx20 n20_8 Q s = wC Try.prog cx20 n20_9 (sqW (wC Try.prog cx20 n20_13) Q) s := yS _ _
theorem n20_7_eq (Q : Ex × St → Prop) (s : St) : wC Try.prog cx20 n20_7 Q s = loopW (wC Try.prog cx20 n20_8) Q s := yL _
theorem n20_6_eq (Q : Ex × St → Prop) (s : St) : wC Try.prog cx20 n20_6 Q s = wC Try.prog cx20 n20_7 (fun r => Q (inBlk 0 r)) s := yB 0 _
theorem n20_5_eq (Q : Ex × St → Prop) (env : Env) (h : Heap) : wC Try.prog cx20 n20_5 Q ⟨env, h⟩ = ( wC Try.prog cx20 n20_6 Q ⟨(Env.put env 4 (nat 0)), h⟩) := (ySR 4 (cOps (cL n20_5)) (cR n20_5)).trans (by
  refine w0 ?_
  refine wT 4 (nat 0) ?_
  exact wE)
theorem n20_19_eq (Q : Ex × St → Prop) (s : St) : wC Try.prog cx20 n20_19 Q s = Q (.ret, s) := yE
theorem n20_18_eq (Q : Ex × St → Prop) (env : Env) (h : Heap) : wC Try.prog cx20 n20_18 Q ⟨env, h⟩ = (Evs (mLoad tReply (env.get 3) h) fun v0 => Evs (stU tReply (env.get 2) v0 h) fun r1 => wC Try.prog cx20 n20_19 Q ⟨env, r1.2⟩) := (ySR 9 (cOps (cL n20_18)) (cR n20_18)).trans (by
  refine w0 ?_
  refine wP 44 fun v0 => ?_
  refine wHn fun r1 => ?_
  exact wE)
theorem n20_17_eq (Q : Ex × St → Prop) (env : Env) (h : Heap) : wC Try.prog cx20 n20_17 Q ⟨env, h⟩ = (Evs (mFieldAddr tReply (env.get 1) 4) fun v0 => Evs (mFieldAddr tGrant v0 1) fun v1 => Evs (mLoad tProof v1 h) fun v2 => SpecA Try.prog 36 [v2] h fun r3 => Evs (mFieldAddr tReply (env.get 3) 4) fun v4 => Evs (mFieldAddr tGrant v4 1) fun v5 => Evs (stU tProof v5 r3.1 r3.2) fun r6 => wC Try.prog cx20 n20_18 Q ⟨env, r6.2⟩) := (ySR 8 (cOps (cL n20_17)) (cR n20_17)).trans (by
  refine w0 ?_
  refine wP 38 fun v0 => ?_
  refine wP 39 fun v1 => ?_
  refine wP 40 fun v2 => ?_
  refine wH 41 fun r3 => ?_
  refine wP 42 fun v4 => ?_
  refine wP 43 fun v5 => ?_
  refine wHn fun r6 => ?_
  exact wE)
theorem n20_4_eq (Q : Ex × St → Prop) (s : St) : wC Try.prog cx20 n20_4 Q s = wC Try.prog cx20 n20_5 (sqW (wC Try.prog cx20 n20_17) Q) s := yS _ _
theorem n20_3_eq (Q : Ex × St → Prop) (env : Env) (h : Heap) : wC Try.prog cx20 n20_3 Q ⟨env, h⟩ = (Evs (mFieldAddr tReply (env.get 3) 3) fun v0 => Evs (stU .cell v0 .nilslice h) fun r1 => wC Try.prog cx20 n20_4 Q ⟨env, r1.2⟩) := (ySR 3 (cOps (cL n20_3)) (cR n20_3)).trans (by
  refine w0 ?_
  refine wP 10 fun v0 => ?_
  refine wHn fun r1 => ?_
  exact wE)
theorem n20_2_eq (Q : Ex × St → Prop) (env : Env) (h : Heap) : wC Try.prog cx20 n20_2 Q ⟨env, h⟩ = (Evs (mFieldAddr tReply (env.get 1) 2) fun v0 => Evs (mLoad tState v0 h) fun v1 => SpecA Try.prog 12 [v1] h fun r2 => Evs (mFieldAddr tReply (env.get 3) 2) fun v3 => Evs (stU tState v3 r2.1 r2.2) fun r4 => wC Try.prog cx20 n20_3 Q ⟨env, r4.2⟩) := (ySR 2 (cOps (cL n20_2)) (cR n20_2)).trans (by
  refine w0 ?_
  refine wP 6 fun v0 => ?_
  refine wP 7 fun v1 => ?_
  refine wH 8 fun r2 => ?_
  refine wP 9 fun v3 => ?_
  refine wHn fun r4 => ?_
  exact wE)
theorem n20_1_eq (Q : Ex × St → Prop) (env : Env) (h : Heap) : wC Try.prog cx20 n20_1 Q ⟨env, h⟩ = (Evs (mLoad tReply (env.get 1) h) fun v0 => Evs (mNew tReply (.node [(nat 0), (u8 0#8), (.node [(u32 0#32), (.node [(arr 32 fun _ => 0#8), (arr 32 fun _ => 0#8)]), .nilslice, (.node [(u8 0#8), (u8 0#8), (u8 0#8)]), .nilslice, .nilslice, .nilslice, .nilslice, .nilslice]), .nilslice, (.node [(.node [(arr 32 fun _ => 0#8), (arr 32 fun _ => 0#8)]), (.node [(arr 32 fun _ => 0#8), .nilslice])])]) h) fun r1 => Evs (stU tReply r1.1 v0 r1.2) fun r2 => wC Try.prog cx20 n20_2 Q ⟨(Env.put env 3 r1.1), r2.2⟩) := (ySR 1 (cOps (cL n20_1)) (cR n20_1)).trans (by
  refine w0 ?_
  refine wP 5 fun v0 => ?_
  refine wH 3 fun r1 => ?_
  refine wHn fun r2 => ?_
  exact wE)
theorem n20_0_eq (Q : Ex × St → Prop) (env : Env) (h : Heap) : wC Try.prog cx20 n20_0 Q ⟨env, h⟩ = (Evs (mNew tReply (env.get 0) h) fun r0 => Evs (mNew tReply (.node [(nat 0), (u8 0#8), (.node [(u32 0#32), (.node [(arr 32 fun _ => 0#8), (arr 32 fun _ => 0#8)]), .nilslice, (.node [(u8 0#8), (u8 0#8), (u8 0#8)]), .nilslice, .nilslice, .nilslice, .nilslice, .nilslice]), .nilslice, (.node [(.node [(arr 32 fun _ => 0#8), (arr 32 fun _ => 0#8)]), (.node [(arr 32 fun _ => 0#8), .nilslice])])]) r0.2) fun r1 => wC Try.prog cx20 n20_1 Q ⟨(Env.put (Env.put env 1 r0.1) 2 r1.1), r1.2⟩) := (ySR 0 (cOps (cL n20_0)) (cR n20_0)).trans (by
  refine w0 ?_
  refine wH 1 fun r0 => ?_
  refine wH 2 fun r1 => ?_
  exact wE)
theorem fn20 : Try.prog.funcs[20]? = some Try.f20 := by kernel_rfl
theorem q20 {a0 : AV} {h : Heap} {K : AV × Heap → Prop} (H : ∀ env : Env, env.get 0 = a0 → wC Try.prog cx20 n20_0 (retW (fun s => (bnd (mLoad tReply (s.env.get 2) s.heap) fun v => bnd (some []) fun vs => some (v :: vs))) K) ⟨env, h⟩) : SpecQ Try.prog 20 [a0] h K :=
  bodyW_sound (C := cx20) TT_ok mixed_ok fn20 (by kernel_rfl) (show _ = some n20_0 by kernel_rfl) (by kernel_rfl) (by kernel_rfl) (of_decide_eq_true (by kernel_rfl)) ((show wC Try.prog cx20 n20_0 (retW (fun s => resAll cx20 s Try.f20.results.toList) K) ⟨env0 cx20 [a0], h⟩ = wC Try.prog cx20 n20_0 (retW (fun s => (bnd (mLoad tReply (s.env.get 2) s.heap) fun v => bnd (some []) fun vs => some (v :: vs))) K) ⟨[(0, a0), (1, .junk), (2, .junk), (3, .junk), (4, .junk), (15, .junk)], h⟩ by kernel_rfl).mpr (H [(0, a0), (1, .junk), (2, .junk), (3, .junk), (4, .junk), (15, .junk)] rfl))
def sn20 := And.intro n20_11_eq (And.intro n20_12_eq (And.intro n20_10_eq (And.intro n20_9_eq (And.intro n20_14_eq (And.intro n20_16_eq (And.intro n20_13_eq (And.intro n20_8_eq (And.intro n20_7_eq (And.intro n20_6_eq (And.intro n20_5_eq (And.intro n20_19_eq (And.intro n20_18_eq (And.intro n20_17_eq (And.intro n20_4_eq (And.intro n20_3_eq (And.intro n20_2_eq (And.intro n20_1_eq (n20_0_eq))))))))))))))))))
-- draws: n20_15
end Go.Vab

/-
  CopyReply, walked.
-/
namespace Go.Vab
open Go Go.Proofs

def shortP (r : Rep) : Prop := short r.state ∧ r.deltas.length ≤ 100000 ∧ r.grant.prf.s.length ≤ 100000

theorem fillD (s : Ci) {y : AV} (hy : hasTy y .cell = true) : fillRow tDelta (AV.node [AV.nilslice, eCi ci0]) [(0, y), (1, eCi s)] = some (eDel y s) := by
  simp [fillRow, hy, eDel]
theorem bslD (s : Ci) {y : AV} (H : Heap) (hy : hasTy y .cell = true) : mBuildSlice tDelta (AV.node [AV.nilslice, eCi ci0]) 1 [(0, eDel y s)] H = some (.slice H.length 0 [] tDelta 0 1 (some 1), H ++ [⟨.node [eDel y s], 0, .own⟩]) := by
  simp [mBuildSlice, fillRow, zeroRow, hasTyAll, hy]

structure CI (n0 : Nat) (H : Heap) (a : Rep) (y1 y2 y3 y4 y5 y6 vd : AV) (es : List AV) (i : Nat) : Prop where
  rn : Rn tDelta H vd es
  len : es.length = i
  lo : ∀ b, rb vd = some b → n0 + 3 ≤ b
  st : StR H a.state y1 y2 y3 y4 y5 y6
  ap : ∀ y ∈ [y1, y2, y3, y4, y5, y6], Ap H y (n0 + 2) vd
  ap3 : ∀ y ∈ [y1, y2, y3, y4, y5, y6], ∀ b, rb y = some b → n0 + 3 ≤ b
  ent : ∀ (j : Nat) d, j < i → a.deltas[j]? = some d → ∃ w, es[j]? = some (eDel w d.sign) ∧ BytL H w d.entry ∧ Ap H w (n0 + 2) vd ∧ ∀ b, rb w = some b → n0 + 3 ≤ b
theorem Rn.row' {H : Heap} {x : AV} {es : List AV} (hr : Rn tDelta H x es) : Row tDelta H x es := by
  unfold tDelta at hr ⊢
  exact hr.row
theorem CI.step {n0 : Nat} {H H' : Heap} {a : Rep} {y1 y2 y3 y4 y5 y6 vd vd' y : AV} {es : List AV} {i : Nat} {d : Del} (c : CI n0 H a y1 y2 y3 y4 y5 y6 vd es i) (hd : a.deltas[i]? = some d) (k : KeepW H H' (n0 + 2) vd vd')
    (hl : n0 + 3 ≤ H.length) (rn : Rn tDelta H' vd' (es ++ [eDel y d.sign])) (hy : BytL H' y d.entry) (ha : Ap H' y (n0 + 2) vd') (h3 : ∀ b, rb y = some b → n0 + 3 ≤ b) : CI n0 H' a y1 y2 y3 y4 y5 y6 vd' (es ++ [eDel y d.sign]) (i + 1) where
  rn := rn
  len := by simp [c.len]
  lo b hb := by
    rcases k.row b hb with h1 | h1
    · exact c.lo b h1
    · omega
  st := ⟨c.st.ft.keep k (c.ap _ (by simp)), c.st.fp.keep k (c.ap _ (by simp)), c.st.fs.keep k (c.ap _ (by simp)), c.st.fi.keep k (c.ap _ (by simp)), c.st.fa.keep k (c.ap _ (by simp)), c.st.fb.keep k (c.ap _ (by simp))⟩
  ap y hy := (c.ap y hy).step k
  ap3 := c.ap3
  ent j d' hj hd' := by
    by_cases hji : j = i
    · subst hji
      rw [hd] at hd'
      cases hd'
      exact ⟨y, by rw [List.getElem?_append_right (by rw [c.len]; omega), c.len]; simp, hy, ha, h3⟩
    · obtain ⟨w, w1, w2, w3, w4⟩ := c.ent j d' (by omega) hd'
      exact ⟨w, by rw [List.getElem?_append_left (by rw [c.len]; omega)]; exact w1, w2.keep k w3, w3.step k, w4⟩

set_option maxRecDepth 20000 in
theorem c20 {h : Heap} {a : Rep} {vt vp vs vi va vb vd sg : AV} (ra : RepR h a vt vp vs vi va vb vd sg) (hs : shortP a) :
    SpecQ Try.prog 20 [eRep a vt vp vs vi va vb vd sg] h fun r => ∃ vt' vp' vs' vi' va' vb' vd' sg' t, r = (eRep a vt' vp' vs' vi' va' vb' vd' sg', h ++ t) ∧ RepR (h ++ t) a vt' vp' vs' vi' va' vb' vd' sg' := by
  obtain ⟨b1, b2, b3⟩ := hs
  have ta := ra.cells
  have ld := ra.d.len
  refine q20 fun env g0 => ?_
  repeat' (first
    | ((with_reducible apply evs_of); (focus ((conv => lhs; simp (disch := omega) [g0, ta]); done)); try dsimp only)
    | ((with_reducible apply cndW_T); (focus (simp (disch := omega) [g0, ta] <;> omega)))
    | ((with_reducible apply cndW_F); (focus (simp (disch := omega) [g0, ta] <;> omega)))
    | ((with_reducible apply stabP_i); (focus (simp (disch := omega) [g0, ta]; done)))
    | (with_reducible apply wL_i)
    | ((with_reducible apply SpecA_i); (focus ((conv => lhs; simp (disch := omega) [g0, ta]); done)))
    | ((with_reducible apply stabA_i); (focus ((conv => lhs; simp (disch := omega) [g0, ta]); done)))
    | ((with_reducible apply stabA_fn); (focus ((conv => lhs; simp (disch := omega) [g0, ta]); done)))
    | ((with_reducible apply appA_i); (focus ((conv => lhs; simp (disch := omega) [g0, ta]); done)); (focus ((conv => lhs; simp (disch := omega) [g0, ta]); done)))
    | ((with_reducible apply stab_do); (focus (simp (disch := omega) [g0, ta]; done)))
    | (simp (decide := true) only [sn20, sqW_nrm, sqW_exit, sqW_ret, inBlk_nrm, inBlk_ret, inBlk_same, inBlk_exit, if_true, if_false, retW_nrm, retW_ret])
    | (with_reducible refine n20_15_w _ _ _ ?_))
  refine SpecQ.step (c12f (ra.s.app _) b1) ?_
  rintro ⟨v, h2⟩ ⟨y1, y2, y3, y4, y5, y6, u, e, f⟩
  cases e
  have ft := f.ft.cell
  have fp := f.fp.cell
  have fs := f.fs.cell
  have fi := f.fi.cell
  have fa := f.fa.cell
  have fb := f.fb.cell
  simp only [List.append_assoc, List.cons_append, List.nil_append]
  repeat' (first
    | ((with_reducible apply evs_of); (focus ((conv => lhs; simp (disch := omega) [g0, ta, ft, fp, fs, fi, fa, fb]); done)); try dsimp only)
    | ((with_reducible apply cndW_T); (focus (simp (disch := omega) [g0, ta, ft, fp, fs, fi, fa, fb] <;> omega)))
    | ((with_reducible apply cndW_F); (focus (simp (disch := omega) [g0, ta, ft, fp, fs, fi, fa, fb] <;> omega)))
    | ((with_reducible apply stabP_i); (focus (simp (disch := omega) [g0, ta, ft, fp, fs, fi, fa, fb]; done)))
    | (with_reducible apply wL_i)
    | ((with_reducible apply SpecA_i); (focus ((conv => lhs; simp (disch := omega) [g0, ta, ft, fp, fs, fi, fa, fb]); done)))
    | ((with_reducible apply stabA_i); (focus ((conv => lhs; simp (disch := omega) [g0, ta, ft, fp, fs, fi, fa, fb]); done)))
    | ((with_reducible apply stabA_fn); (focus ((conv => lhs; simp (disch := omega) [g0, ta, ft, fp, fs, fi, fa, fb]); done)))
    | ((with_reducible apply appA_i); (focus ((conv => lhs; simp (disch := omega) [g0, ta, ft, fp, fs, fi, fa, fb]); done)); (focus ((conv => lhs; simp (disch := omega) [g0, ta, ft, fp, fs, fi, fa, fb]); done)))
    | ((with_reducible apply stab_do); (focus (simp (disch := omega) [g0, ta, ft, fp, fs, fi, fa, fb]; done)))
    | (simp (decide := true) only [sn20, sqW_nrm, sqW_exit, sqW_ret, inBlk_nrm, inBlk_ret, inBlk_same, inBlk_exit, if_true, if_false, retW_nrm, retW_ret])
    | (with_reducible refine n20_15_w _ _ _ ?_))
  refine loop_up a.deltas.length (fun i st => ∃ env' u vd' es v1, st = ⟨env', h ++ ⟨eRep a vt vp vs vi va vb vd sg, 0, .own⟩ :: ⟨v1, 0, .own⟩ :: ⟨eRepH a.errno a.has (eSt a.state y1 y2 y3 y4 y5 y6) vd' (eGr a.grant sg), 0, .own⟩ :: u⟩ ∧
    env'.get 1 = .ptr h.length 0 [] tReply ∧ env'.get 2 = .ptr (h.length + 1) 0 [] tReply ∧ env'.get 3 = .ptr (h.length + 2) 0 [] tReply ∧ env'.get 4 = nat i ∧
    CI h.length (h ++ ⟨eRep a vt vp vs vi va vb vd sg, 0, .own⟩ :: ⟨v1, 0, .own⟩ :: ⟨eRepH a.errno a.has (eSt a.state y1 y2 y3 y4 y5 y6) vd' (eGr a.grant sg), 0, .own⟩ :: u) a y1 y2 y3 y4 y5 y6 vd' es i) ?_ ?_ ⟨_, _, _, [], _, rfl, by simp, by simp, by simp, by simp, ?_⟩
  · rintro i st hi ⟨env', u, vd', es, v1, rfl, e1, e2, e3, e4, ci⟩
    obtain ⟨pb, pv, pp, vt0, p1, p2, p3, p4, p5⟩ := ra.d.idx (i := i) hi
    have cd := ci.rn.row'.cell
    repeat' (first
      | ((with_reducible apply evs_of); (focus ((conv => lhs; simp (disch := omega) [e1, e2, e3, e4, ta, ld, p1, p4, p5, ft, fp, fs, fi, fa, fb, cd]); done)); try dsimp only)
      | ((with_reducible apply cndW_T); (focus (simp (disch := omega) [e1, e2, e3, e4, ta, ld, p1, p4, p5, ft, fp, fs, fi, fa, fb, cd] <;> omega)))
      | ((with_reducible apply cndW_F); (focus (simp (disch := omega) [e1, e2, e3, e4, ta, ld, p1, p4, p5, ft, fp, fs, fi, fa, fb, cd] <;> omega)))
      | ((with_reducible apply stabP_i); (focus (simp (disch := omega) [e1, e2, e3, e4, ta, ld, p1, p4, p5, ft, fp, fs, fi, fa, fb, cd]; done)))
      | (with_reducible apply wL_i)
      | ((with_reducible apply SpecA_i); (focus ((conv => lhs; simp (disch := omega) [e1, e2, e3, e4, ta, ld, p1, p4, p5, ft, fp, fs, fi, fa, fb, cd]); done)))
      | ((with_reducible apply stabA_i); (focus ((conv => lhs; simp (disch := omega) [e1, e2, e3, e4, ta, ld, p1, p4, p5, ft, fp, fs, fi, fa, fb, cd]); done)))
      | ((with_reducible apply stabA_fn); (focus ((conv => lhs; simp (disch := omega) [e1, e2, e3, e4, ta, ld, p1, p4, p5, ft, fp, fs, fi, fa, fb, cd]); done)))
      | ((with_reducible apply appA_i); (focus ((conv => lhs; simp (disch := omega) [e1, e2, e3, e4, ta, ld, p1, p4, p5, ft, fp, fs, fi, fa, fb, cd]); done)); (focus ((conv => lhs; simp (disch := omega) [e1, e2, e3, e4, ta, ld, p1, p4, p5, ft, fp, fs, fi, fa, fb, cd]); done)))
      | ((with_reducible apply stab_do); (focus (simp (disch := omega) [e1, e2, e3, e4, ta, ld, p1, p4, p5, ft, fp, fs, fi, fa, fb, cd]; done)))
      | (simp (decide := true) only [sn20, sqW_nrm, sqW_exit, sqW_ret, inBlk_nrm, inBlk_ret, inBlk_same, inBlk_exit, if_true, if_false, retW_nrm, retW_ret])
      | (with_reducible refine n20_15_w _ _ _ ?_))
    refine appW_copyB (F := h ++ ⟨eRep a vt vp vs vi va vb vd sg, 0, .own⟩ :: ⟨v1, 0, .own⟩ :: ⟨eRepH a.errno a.has (eSt a.state y1 y2 y3 y4 y5 y6) vd' (eGr a.grant sg), 0, .own⟩ :: u) (u := [⟨.ints .u8 [], 0, .own⟩]) (by simp) (by simp [mElems_slc]) (p2.app _) (by simp) fun y e f1 => ?_
    have fy := f1.cell
    have k1 := fillD a.deltas[i].sign fy
    have k2 := fun H => bslD a.deltas[i].sign H fy
    simp only [List.append_assoc, List.cons_append, List.nil_append]
    repeat' (first
      | ((with_reducible apply evs_of); (focus ((conv => lhs; simp (disch := omega) [e1, e2, e3, e4, ta, ld, p1, p4, p5, ft, fp, fs, fi, fa, fb, cd, fy, k1, k2]); done)); try dsimp only)
      | ((with_reducible apply cndW_T); (focus (simp (disch := omega) [e1, e2, e3, e4, ta, ld, p1, p4, p5, ft, fp, fs, fi, fa, fb, cd, fy, k1, k2] <;> omega)))
      | ((with_reducible apply cndW_F); (focus (simp (disch := omega) [e1, e2, e3, e4, ta, ld, p1, p4, p5, ft, fp, fs, fi, fa, fb, cd, fy, k1, k2] <;> omega)))
      | ((with_reducible apply stabP_i); (focus (simp (disch := omega) [e1, e2, e3, e4, ta, ld, p1, p4, p5, ft, fp, fs, fi, fa, fb, cd, fy, k1, k2]; done)))
      | (with_reducible apply wL_i)
      | ((with_reducible apply SpecA_i); (focus ((conv => lhs; simp (disch := omega) [e1, e2, e3, e4, ta, ld, p1, p4, p5, ft, fp, fs, fi, fa, fb, cd, fy, k1, k2]); done)))
      | ((with_reducible apply stabA_i); (focus ((conv => lhs; simp (disch := omega) [e1, e2, e3, e4, ta, ld, p1, p4, p5, ft, fp, fs, fi, fa, fb, cd, fy, k1, k2]); done)))
      | ((with_reducible apply stabA_fn); (focus ((conv => lhs; simp (disch := omega) [e1, e2, e3, e4, ta, ld, p1, p4, p5, ft, fp, fs, fi, fa, fb, cd, fy, k1, k2]); done)))
      | ((with_reducible apply appA_i); (focus ((conv => lhs; simp (disch := omega) [e1, e2, e3, e4, ta, ld, p1, p4, p5, ft, fp, fs, fi, fa, fb, cd, fy, k1, k2]); done)); (focus ((conv => lhs; simp (disch := omega) [e1, e2, e3, e4, ta, ld, p1, p4, p5, ft, fp, fs, fi, fa, fb, cd, fy, k1, k2]); done)))
      | ((with_reducible apply stab_do); (focus (simp (disch := omega) [e1, e2, e3, e4, ta, ld, p1, p4, p5, ft, fp, fs, fi, fa, fb, cd, fy, k1, k2]; done)))
      | (simp (decide := true) only [sn20, sqW_nrm, sqW_exit, sqW_ret, inBlk_nrm, inBlk_ret, inBlk_same, inBlk_exit, if_true, if_false, retW_nrm, retW_ret])
      | (with_reducible refine n20_15_w _ _ _ ?_))
    have hE : h ++ ⟨eRep a vt vp vs vi va vb vd sg, 0, .own⟩ :: ⟨v1, 0, .own⟩ :: ⟨eRepH a.errno a.has (eSt a.state y1 y2 y3 y4 y5 y6) vd' (eGr a.grant sg), 0, .own⟩ :: (u ++ ⟨.ints .u8 [], 0, .own⟩ :: (e ++ [⟨.node [eDel y a.deltas[i].sign], 0, .own⟩])) = (h ++ ⟨eRep a vt vp vs vi va vb vd sg, 0, .own⟩ :: ⟨v1, 0, .own⟩ :: ⟨eRepH a.errno a.has (eSt a.state y1 y2 y3 y4 y5 y6) vd' (eGr a.grant sg), 0, .own⟩ :: u) ++ (([⟨.ints .u8 [], 0, .own⟩] ++ e) ++ [⟨.node [eDel y a.deltas[i].sign], 0, .own⟩]) := by simp
    have K1 := KeepW.ext (h ++ ⟨eRep a vt vp vs vi va vb vd sg, 0, .own⟩ :: ⟨v1, 0, .own⟩ :: ⟨eRepH a.errno a.has (eSt a.state y1 y2 y3 y4 y5 y6) vd' (eGr a.grant sg), 0, .own⟩ :: u) (([⟨.ints .u8 [], 0, .own⟩] ++ e) ++ [⟨.node [eDel y a.deltas[i].sign], 0, .own⟩]) (h.length + 2) vd'
    rw [← hE] at K1
    have hy := f1 _ [⟨.node [eDel y a.deltas[i].sign], 0, .own⟩] rfl
    rw [← hE] at hy
    have hlen : (h ++ ⟨eRep a vt vp vs vi va vb vd sg, 0, .own⟩ :: ⟨v1, 0, .own⟩ :: ⟨eRepH a.errno a.has (eSt a.state y1 y2 y3 y4 y5 y6) vd' (eGr a.grant sg), 0, .own⟩ :: u).length = h.length + 3 + u.length := by simp; omega
    have hap : Ap (h ++ ⟨eRep a vt vp vs vi va vb vd sg, 0, .own⟩ :: ⟨v1, 0, .own⟩ :: ⟨eRepH a.errno a.has (eSt a.state y1 y2 y3 y4 y5 y6) vd' (eGr a.grant sg), 0, .own⟩ :: (u ++ ⟨.ints .u8 [], 0, .own⟩ :: (e ++ [⟨.node [eDel y a.deltas[i].sign], 0, .own⟩]))) y (h.length + 2) vd' := fun b hb => by
      have g1 := f1.rb_ge b hb
      refine ⟨hy.rb_lt' b hb, by omega, fun e => ?_⟩
      have := ci.rn.lt b e
      omega
    refine appW_rn (es := es) (e := eDel y a.deltas[i].sign) tDelta_x (fun _ => rfl) (ci.rn.mono fun b c _ hb => ?_) ?_ (by have := ci.len; omega) (by omega) fun x' H' g1 g2 g3 g4 => ?_
    · rw [hE, List.getElem?_append_left (List.getElem?_eq_some_iff.1 hb).1]; exact hb
    · rw [mElems_row]; simp
    have K2 : KeepW _ H' (h.length + 2) vd' x' := ⟨g2, fun i c hi _ hx => by rw [g3 i hx (List.getElem?_eq_some_iff.1 hi).1]; exact hi, g4⟩
    obtain ⟨u', rfl⟩ := cells3 g2 (fun i hi => g3 i (fun e => by have := ci.lo i e; omega) (by simp; omega))
    have cx := g1.row'.cell
    repeat' (first
      | ((with_reducible apply evs_of); (focus ((conv => lhs; simp (disch := omega) [e1, e2, e3, e4, ta, ld, p1, p4, p5, ft, fp, fs, fi, fa, fb, cd, fy, k1, k2, cx]); done)); try dsimp only)
      | ((with_reducible apply cndW_T); (focus (simp (disch := omega) [e1, e2, e3, e4, ta, ld, p1, p4, p5, ft, fp, fs, fi, fa, fb, cd, fy, k1, k2, cx] <;> omega)))
      | ((with_reducible apply cndW_F); (focus (simp (disch := omega) [e1, e2, e3, e4, ta, ld, p1, p4, p5, ft, fp, fs, fi, fa, fb, cd, fy, k1, k2, cx] <;> omega)))
      | ((with_reducible apply stabP_i); (focus (simp (disch := omega) [e1, e2, e3, e4, ta, ld, p1, p4, p5, ft, fp, fs, fi, fa, fb, cd, fy, k1, k2, cx]; done)))
      | (with_reducible apply wL_i)
      | ((with_reducible apply SpecA_i); (focus ((conv => lhs; simp (disch := omega) [e1, e2, e3, e4, ta, ld, p1, p4, p5, ft, fp, fs, fi, fa, fb, cd, fy, k1, k2, cx]); done)))
      | ((with_reducible apply stabA_i); (focus ((conv => lhs; simp (disch := omega) [e1, e2, e3, e4, ta, ld, p1, p4, p5, ft, fp, fs, fi, fa, fb, cd, fy, k1, k2, cx]); done)))
      | ((with_reducible apply stabA_fn); (focus ((conv => lhs; simp (disch := omega) [e1, e2, e3, e4, ta, ld, p1, p4, p5, ft, fp, fs, fi, fa, fb, cd, fy, k1, k2, cx]); done)))
      | ((with_reducible apply appA_i); (focus ((conv => lhs; simp (disch := omega) [e1, e2, e3, e4, ta, ld, p1, p4, p5, ft, fp, fs, fi, fa, fb, cd, fy, k1, k2, cx]); done)); (focus ((conv => lhs; simp (disch := omega) [e1, e2, e3, e4, ta, ld, p1, p4, p5, ft, fp, fs, fi, fa, fb, cd, fy, k1, k2, cx]); done)))
      | ((with_reducible apply stab_do); (focus (simp (disch := omega) [e1, e2, e3, e4, ta, ld, p1, p4, p5, ft, fp, fs, fi, fa, fb, cd, fy, k1, k2, cx]; done)))
      | (simp (decide := true) only [sn20, sqW_nrm, sqW_exit, sqW_ret, inBlk_nrm, inBlk_ret, inBlk_same, inBlk_exit, if_true, if_false, retW_nrm, retW_ret])
      | (with_reducible refine n20_15_w _ _ _ ?_))
    have K3 := KeepW.cell3 (h := h) (u := u') (A0 := ⟨eRep a vt vp vs vi va vb vd sg, 0, .own⟩) (A1 := ⟨v1, 0, .own⟩) (A2 := ⟨eRepH a.errno a.has (eSt a.state y1 y2 y3 y4 y5 y6) vd' (eGr a.grant sg), 0, .own⟩) (B2 := ⟨eRepH a.errno a.has (eSt a.state y1 y2 y3 y4 y5 y6) x' (eGr a.grant sg), 0, .own⟩) (x := x')
    refine .inl ⟨trivial, _, u', x', es ++ [eDel y a.deltas[i].sign], v1, rfl, by simp [e1], by simp [e2], by simp [e3], by simp, ci.step (List.getElem?_eq_getElem hi) ((K1.trans K2).trans K3) (by omega) (g1.mono fun b c hb hc => ?_) ((hy.keep K2 hap).keep K3 (hap.step K2)) ((hap.step K2).step K3) (fun b hb => by have := f1.rb_ge b hb; omega)⟩
    rw [cell3_get ?_]
    · exact hc
    · rcases g4 b hb with h1 | h1
      · have := ci.lo b h1; omega
      · rw [hE, List.length_append] at h1; omega
  · rintro st ⟨env', u, vd', es, v1, rfl, e1, e2, e3, e4, ci⟩
    have cd := ci.rn.row'.cell
    repeat' (first
      | ((with_reducible apply evs_of); (focus ((conv => lhs; simp (disch := omega) [e1, e2, e3, e4, ta, ld, ft, fp, fs, fi, fa, fb, cd]); done)); try dsimp only)
      | ((with_reducible apply cndW_T); (focus (simp (disch := omega) [e1, e2, e3, e4, ta, ld, ft, fp, fs, fi, fa, fb, cd] <;> omega)))
      | ((with_reducible apply cndW_F); (focus (simp (disch := omega) [e1, e2, e3, e4, ta, ld, ft, fp, fs, fi, fa, fb, cd] <;> omega)))
      | ((with_reducible apply stabP_i); (focus (simp (disch := omega) [e1, e2, e3, e4, ta, ld, ft, fp, fs, fi, fa, fb, cd]; done)))
      | (with_reducible apply wL_i)
      | ((with_reducible apply SpecA_i); (focus ((conv => lhs; simp (disch := omega) [e1, e2, e3, e4, ta, ld, ft, fp, fs, fi, fa, fb, cd]); done)))
      | ((with_reducible apply stabA_i); (focus ((conv => lhs; simp (disch := omega) [e1, e2, e3, e4, ta, ld, ft, fp, fs, fi, fa, fb, cd]); done)))
      | ((with_reducible apply stabA_fn); (focus ((conv => lhs; simp (disch := omega) [e1, e2, e3, e4, ta, ld, ft, fp, fs, fi, fa, fb, cd]); done)))
      | ((with_reducible apply appA_i); (focus ((conv => lhs; simp (disch := omega) [e1, e2, e3, e4, ta, ld, ft, fp, fs, fi, fa, fb, cd]); done)); (focus ((conv => lhs; simp (disch := omega) [e1, e2, e3, e4, ta, ld, ft, fp, fs, fi, fa, fb, cd]); done)))
      | ((with_reducible apply stab_do); (focus (simp (disch := omega) [e1, e2, e3, e4, ta, ld, ft, fp, fs, fi, fa, fb, cd]; done)))
      | (simp (decide := true) only [sn20, sqW_nrm, sqW_exit, sqW_ret, inBlk_nrm, inBlk_ret, inBlk_same, inBlk_exit, if_true, if_false, retW_nrm, retW_ret])
      | (with_reducible refine n20_15_w _ _ _ ?_))
    refine ⟨by simp, ?_⟩
    repeat' (first
      | ((with_reducible apply evs_of); (focus ((conv => lhs; simp (disch := omega) [e1, e2, e3, e4, ta, ld, ft, fp, fs, fi, fa, fb, cd]); done)); try dsimp only)
      | ((with_reducible apply cndW_T); (focus (simp (disch := omega) [e1, e2, e3, e4, ta, ld, ft, fp, fs, fi, fa, fb, cd] <;> omega)))
      | ((with_reducible apply cndW_F); (focus (simp (disch := omega) [e1, e2, e3, e4, ta, ld, ft, fp, fs, fi, fa, fb, cd] <;> omega)))
      | ((with_reducible apply stabP_i); (focus (simp (disch := omega) [e1, e2, e3, e4, ta, ld, ft, fp, fs, fi, fa, fb, cd]; done)))
      | (with_reducible apply wL_i)
      | ((with_reducible apply SpecA_i); (focus ((conv => lhs; simp (disch := omega) [e1, e2, e3, e4, ta, ld, ft, fp, fs, fi, fa, fb, cd]); done)))
      | ((with_reducible apply stabA_i); (focus ((conv => lhs; simp (disch := omega) [e1, e2, e3, e4, ta, ld, ft, fp, fs, fi, fa, fb, cd]); done)))
      | ((with_reducible apply stabA_fn); (focus ((conv => lhs; simp (disch := omega) [e1, e2, e3, e4, ta, ld, ft, fp, fs, fi, fa, fb, cd]); done)))
      | ((with_reducible apply appA_i); (focus ((conv => lhs; simp (disch := omega) [e1, e2, e3, e4, ta, ld, ft, fp, fs, fi, fa, fb, cd]); done)); (focus ((conv => lhs; simp (disch := omega) [e1, e2, e3, e4, ta, ld, ft, fp, fs, fi, fa, fb, cd]); done)))
      | ((with_reducible apply stab_do); (focus (simp (disch := omega) [e1, e2, e3, e4, ta, ld, ft, fp, fs, fi, fa, fb, cd]; done)))
      | (simp (decide := true) only [sn20, sqW_nrm, sqW_exit, sqW_ret, inBlk_nrm, inBlk_ret, inBlk_same, inBlk_exit, if_true, if_false, retW_nrm, retW_ret])
      | (with_reducible refine n20_15_w _ _ _ ?_))
    refine SpecQ.step (c36 (ra.g.app _) b3) ?_
    rintro ⟨v, h2⟩ ⟨z, t, e, fz⟩
    cases e
    have cz := fz.cell
    simp only [List.append_assoc, List.cons_append, List.nil_append]
    repeat' (first
      | ((with_reducible apply evs_of); (focus ((conv => lhs; simp (disch := omega) [e1, e2, e3, e4, ta, ld, ft, fp, fs, fi, fa, fb, cd, cz]); done)); try dsimp only)
      | ((with_reducible apply cndW_T); (focus (simp (disch := omega) [e1, e2, e3, e4, ta, ld, ft, fp, fs, fi, fa, fb, cd, cz] <;> omega)))
      | ((with_reducible apply cndW_F); (focus (simp (disch := omega) [e1, e2, e3, e4, ta, ld, ft, fp, fs, fi, fa, fb, cd, cz] <;> omega)))
      | ((with_reducible apply stabP_i); (focus (simp (disch := omega) [e1, e2, e3, e4, ta, ld, ft, fp, fs, fi, fa, fb, cd, cz]; done)))
      | (with_reducible apply wL_i)
      | ((with_reducible apply SpecA_i); (focus ((conv => lhs; simp (disch := omega) [e1, e2, e3, e4, ta, ld, ft, fp, fs, fi, fa, fb, cd, cz]); done)))
      | ((with_reducible apply stabA_i); (focus ((conv => lhs; simp (disch := omega) [e1, e2, e3, e4, ta, ld, ft, fp, fs, fi, fa, fb, cd, cz]); done)))
      | ((with_reducible apply stabA_fn); (focus ((conv => lhs; simp (disch := omega) [e1, e2, e3, e4, ta, ld, ft, fp, fs, fi, fa, fb, cd, cz]); done)))
      | ((with_reducible apply appA_i); (focus ((conv => lhs; simp (disch := omega) [e1, e2, e3, e4, ta, ld, ft, fp, fs, fi, fa, fb, cd, cz]); done)); (focus ((conv => lhs; simp (disch := omega) [e1, e2, e3, e4, ta, ld, ft, fp, fs, fi, fa, fb, cd, cz]); done)))
      | ((with_reducible apply stab_do); (focus (simp (disch := omega) [e1, e2, e3, e4, ta, ld, ft, fp, fs, fi, fa, fb, cd, cz]; done)))
      | (simp (decide := true) only [sn20, sqW_nrm, sqW_exit, sqW_ret, inBlk_nrm, inBlk_ret, inBlk_same, inBlk_exit, if_true, if_false, retW_nrm, retW_ret])
      | (with_reducible refine n20_15_w _ _ _ ?_))
    refine ⟨y1, y2, y3, y4, y5, y6, vd', z, _, rfl, ⟨ci.st.ft.cells t (ci.ap3 _ (by simp)), ci.st.fp.cells t (ci.ap3 _ (by simp)), ci.st.fs.cells t (ci.ap3 _ (by simp)), ci.st.fi.cells t (ci.ap3 _ (by simp)), ci.st.fa.cells t (ci.ap3 _ (by simp)), ci.st.fb.cells t (ci.ap3 _ (by simp))⟩,
      ⟨es, ci.rn.row'.cells t ci.lo, ci.len, fun i d hd => ?_⟩, ?_⟩
    · obtain ⟨w, w1, w2, _, w4⟩ := ci.ent i d (List.getElem?_eq_some_iff.1 hd).1 hd
      exact ⟨w, w1, w2.cells t w4⟩
    · have := fz.at_ (F := h ++ (⟨eRep a vt vp vs vi va vb vd sg, 0, .own⟩ : Blk) :: (⟨eRep a y1 y2 y3 y4 y5 y6 vd' z, 0, .own⟩ : Blk) :: (⟨eRep a y1 y2 y3 y4 y5 y6 vd' z, 0, .own⟩ : Blk) :: u) (by simp)
      simpa using this
  · have f : StF (h.length + 3) u a.state y1 y2 y3 y4 y5 y6 := by simpa using f
    have hst := f.at_ (F := h ++ [⟨eRep a vt vp vs vi va vb vd sg, 0, .own⟩, ⟨AV.node [nat 0, u8 0#8, eStH (0#32) ci0 acc0 AV.nilslice AV.nilslice AV.nilslice AV.nilslice AV.nilslice AV.nilslice, AV.nilslice, AV.node [eCi ci0, AV.node [pt pt0, AV.nilslice]]], 0, .own⟩, ⟨eRepH a.errno a.has (eSt a.state y1 y2 y3 y4 y5 y6) AV.nilslice (eGr a.grant sg), 0, .own⟩]) (by simp)
    simp only [List.append_assoc, List.cons_append, List.nil_append] at hst
    have h3 : ∀ y ∈ [y1, y2, y3, y4, y5, y6], ∀ b, rb y = some b → h.length + 3 ≤ b := by
      intro y hy
      simp only [List.mem_cons, List.not_mem_nil, or_false] at hy
      rcases hy with rfl | rfl | rfl | rfl | rfl | rfl
      · exact f.ft.rb_ge
      · exact f.fp.rb_ge
      · exact f.fs.rb_ge
      · exact f.fi.rb_ge
      · exact f.fa.rb_ge
      · exact f.fb.rb_ge
    refine ⟨⟨by simp, .inl ⟨rfl, rfl⟩⟩, rfl, fun b hb => (by cases hb), hst, fun y hy b hb => ?_, h3, fun j d hj => absurd hj (by omega)⟩
    have g := h3 y hy b hb
    refine ⟨?_, by omega, fun e => (by cases e)⟩
    simp only [List.mem_cons, List.not_mem_nil, or_false] at hy
    rcases hy with rfl | rfl | rfl | rfl | rfl | rfl
    · exact hst.ft.rb_lt' b hb
    · exact hst.fp.rb_lt' b hb
    · exact hst.fs.rb_lt b hb
    · exact hst.fi.rb_lt b hb
    · exact hst.fa.rb_lt b hb
    · exact hst.fb.rb_lt b hb

end Go.Vab

/- How the code of a function is read. Printed by wip/tools/gen2.py (own work). -/
namespace Go.Vab
open Go Go.Proofs
/-! vestry/vestrylaw18.thick -/
def cx14 : Ctx := ⟨fun _ _ _ => none, TT, 46, [5, 6, 7, 8, 9, 10, 11, 12, 14, 15, 16, 17, 18, 19, 20, 21, 22, 23, 24, 25, 26, 27, 28, 29, 30, 31, 32, 33, 34, 35, 36, 37, 38, 39, 40, 41, 42, 43, 44, 45]⟩
noncomputable def n14_0 : Code := bodyOf Try.f14
noncomputable def n14_1 : Code := cR n14_0
noncomputable def n14_2 : Code := cR n14_1
noncomputable def n14_3 : Code := cL n14_2
noncomputable def n14_4 : Code := cR n14_3
noncomputable def n14_5 : Code := cB n14_4
noncomputable def n14_6 : Code := cB n14_5
noncomputable def n14_7 : Code := cL n14_6
noncomputable def n14_8 : Code := cR n14_7
noncomputable def n14_9 : Code := cL n14_8
noncomputable def n14_10 : Code := cR n14_8
noncomputable def n14_11 : Code := cR n14_6
noncomputable def n14_12 : Code := cL n14_11
noncomputable def n14_13 : Code := cB n14_12
noncomputable def n14_14 : Code := cR n14_11
noncomputable def n14_15 : Code := cR n14_2
noncomputable def n14_16 : Code := cR n14_15
theorem n14_9_eq (Q : Ex × St → Prop) (s : St) : wC Try.prog cx14 n14_9 Q s = Q (.nrm, s) := yK
theorem n14_10_eq (Q : Ex × St → Prop) (s : St) : wC Try.prog cx14 n14_10 Q s = Q (.exit 0, s) := yX 0
theorem n14_8_eq (Q : Ex × St → Prop) (s : St) : wC Try.prog cx14 n14_8 Q s = cndW (s.env.get 13) (wL Try.prog cx14 n14_9 Q s) (wL Try.prog cx14 n14_10 Q s) := yC 13 _ _
theorem n14_7_eq (Q : Ex × St → Prop) (env : Env) (h : Heap) : wC Try.prog cx14 n14_7 Q ⟨env, h⟩ = (Evs (mFieldAddr tReply (env.get 1) 3) fun v1 => Evs (mLoad .cell v1 h) fun v2 => Evs (mLenS v2) fun v3 => Evs (mBin .lss (env.get 4) v3) fun v4 => Evs (gv v4 true (some (env.get 4))) fun v6 => Evs (gv v4 true (mBin .lss v6 (nat 30))) fun v7 => Evs (mPick v4 v7 (.bool false)) fun v8 => wC Try.prog cx14 n14_8 Q ⟨(Env.put env 13 v8), h⟩) := (ySR 3 (cOps (cL n14_7)) (cR n14_7)).trans (by
  refine w0 ?_
  refine wT 5 (env.get 4) ?_
  refine wP 6 fun v1 => ?_
  refine wP 7 fun v2 => ?_
  refine wP 8 fun v3 => ?_
  refine wP 9 fun v4 => ?_
  refine wT 10 v4 ?_
  refine wG 11 fun v6 => ?_
  refine wG 12 fun v7 => ?_
  refine wP 13 fun v8 => ?_
  exact wE)
theorem n14_13_eq (Q : Ex × St → Prop) (env : Env) (h : Heap) : wC Try.prog cx14 n14_13 Q ⟨env, h⟩ = (Evs (mFieldAddr tReply (env.get 1) 3) fun v1 => Evs (mLoad .cell v1 h) fun v2 => Evs (mIdxS tDelta v2 (env.get 4)) fun v4 => Evs (mFieldAddr tDelta v4 0) fun v5 => Evs (mLoad .cell v5 h) fun v6 => Evs (mLenS v6) fun v7 => Evs (mBin .add (env.get 3) v7) fun v8 => Q (.nrm, ⟨(Env.put env 3 v8), h⟩)) := (yR 5 (cOps n14_13)).trans (by
  refine w0 ?_
  refine wT 16 (env.get 3) ?_
  refine wP 17 fun v1 => ?_
  refine wP 18 fun v2 => ?_
  refine wT 19 (env.get 4) ?_
  refine wP 20 fun v4 => ?_
  refine wP 21 fun v5 => ?_
  refine wP 22 fun v6 => ?_
  refine wP 23 fun v7 => ?_
  refine wP 24 fun v8 => ?_
  refine wT 3 v8 ?_
  exact wE)
theorem n14_12_eq (Q : Ex × St → Prop) (s : St) : wC Try.prog cx14 n14_12 Q s = wC Try.prog cx14 n14_13 (fun r => Q (inBlk 1 r)) s := yB 1 _
theorem n14_14_eq (Q : Ex × St → Prop) (env : Env) (h : Heap) : wC Try.prog cx14 n14_14 Q ⟨env, h⟩ = (Evs (mBin .add (env.get 4) (nat 1)) fun v1 => Q (.nrm, ⟨(Env.put env 4 v1), h⟩)) := (yR 4 (cOps n14_14)).trans (by
  refine w0 ?_
  refine wT 14 (env.get 4) ?_
  refine wP 15 fun v1 => ?_
  refine wT 4 v1 ?_
  exact wE)
theorem n14_11_eq (Q : Ex × St → Prop) (s : St) : wC Try.prog cx14 n14_11 Q s = wC Try.prog cx14 n14_12 (sqW (wC Try.prog cx14 n14_14) Q) s := yS _ _
theorem n14_6_eq (Q : Ex × St → Prop) (s : St) : wC Try.prog cx14 n14_6 Q s = wC Try.prog cx14 n14_7 (sqW (wC Try.prog cx14 n14_11) Q) s := yS _ _
theorem n14_5_eq (Q : Ex × St → Prop) (s : St) : wC Try.prog cx14 n14_5 Q s = loopW (wC Try.prog cx14 n14_6) Q s := yL _
theorem n14_4_eq (Q : Ex × St → Prop) (s : St) : wC Try.prog cx14 n14_4 Q s = wC Try.prog cx14 n14_5 (fun r => Q (inBlk 0 r)) s := yB 0 _
theorem n14_3_eq (Q : Ex × St → Prop) (env : Env) (h : Heap) : wC Try.prog cx14 n14_3 Q ⟨env, h⟩ = ( wC Try.prog cx14 n14_4 Q ⟨(Env.put env 4 (nat 0)), h⟩) := (ySR 2 (cOps (cL n14_3)) (cR n14_3)).trans (by
  refine w0 ?_
  refine wT 4 (nat 0) ?_
  exact wE)
theorem n14_16_eq (Q : Ex × St → Prop) (s : St) : wC Try.prog cx14 n14_16 Q s = Q (.ret, s) := yE
theorem n14_15_eq (Q : Ex × St → Prop) (env : Env) (h : Heap) : wC Try.prog cx14 n14_15 Q ⟨env, h⟩ = (Evs (mFieldAddr tReply (env.get 1) 2) fun v0 => Evs (mLoad tState v0 h) fun v1 => SpecA Try.prog 6 [v1] h fun r2 => Evs (gv r2.1 false (mFieldAddr tReply (env.get 1) 3)) fun v4 => Evs (gv r2.1 false (mLoad .cell v4 r2.2)) fun v5 => Evs (gv r2.1 false (mLenS v5)) fun v6 => Evs (gv r2.1 false (mBin .gtr v6 (nat 20))) fun v7 => Evs (mPick r2.1 (.bool true) v7) fun v8 => Evs (gv v8 false (some (env.get 3))) fun v10 => Evs (gv v8 false (mBin .gtr v10 (nat 300000))) fun v11 => Evs (mPick v8 (.bool true) v11) fun v12 => Evs (gv v12 false (mFieldAddr tReply (env.get 1) 4)) fun v14 => Evs (gv v12 false (mFieldAddr tGrant v14 1)) fun v15 => Evs (gv v12 false (mFieldAddr tProof v15 1)) fun v16 => Evs (gv v12 false (mLoad .cell v16 r2.2)) fun v17 => Evs (gv v12 false (mLenS v17)) fun v18 => Evs (gv v12 false (mBin .gtr v18 (nat 200))) fun v19 => Evs (mPick v12 (.bool true) v19) fun v20 => wC Try.prog cx14 n14_16 Q ⟨(Env.put env 2 v20), r2.2⟩) := (ySR 6 (cOps (cL n14_15)) (cR n14_15)).trans (by
  refine w0 ?_
  refine wP 25 fun v0 => ?_
  refine wP 26 fun v1 => ?_
  refine wH 27 fun r2 => ?_
  refine wT 28 r2.1 ?_
  refine wG 29 fun v4 => ?_
  refine wG 30 fun v5 => ?_
  refine wG 31 fun v6 => ?_
  refine wG 32 fun v7 => ?_
  refine wP 33 fun v8 => ?_
  refine wT 34 v8 ?_
  refine wG 35 fun v10 => ?_
  refine wG 36 fun v11 => ?_
  refine wP 37 fun v12 => ?_
  refine wT 38 v12 ?_
  refine wG 39 fun v14 => ?_
  refine wG 40 fun v15 => ?_
  refine wG 41 fun v16 => ?_
  refine wG 42 fun v17 => ?_
  refine wG 43 fun v18 => ?_
  refine wG 44 fun v19 => ?_
  refine wP 45 fun v20 => ?_
  refine wT 2 v20 ?_
  exact wE)
theorem n14_2_eq (Q : Ex × St → Prop) (s : St) : wC Try.prog cx14 n14_2 Q s = wC Try.prog cx14 n14_3 (sqW (wC Try.prog cx14 n14_15) Q) s := yS _ _
theorem n14_1_eq (Q : Ex × St → Prop) (env : Env) (h : Heap) : wC Try.prog cx14 n14_1 Q ⟨env, h⟩ = ( wC Try.prog cx14 n14_2 Q ⟨(Env.put env 3 (nat 0)), h⟩) := (ySR 1 (cOps (cL n14_1)) (cR n14_1)).trans (by
  refine w0 ?_
  refine wT 3 (nat 0) ?_
  exact wE)
theorem n14_0_eq (Q : Ex × St → Prop) (env : Env) (h : Heap) : wC Try.prog cx14 n14_0 Q ⟨env, h⟩ = (Evs (mNew tReply (env.get 0) h) fun r0 => wC Try.prog cx14 n14_1 Q ⟨(Env.put (Env.put env 1 r0.1) 2 (.bool false)), r0.2⟩) := (ySR 0 (cOps (cL n14_0)) (cR n14_0)).trans (by
  refine w0 ?_
  refine wH 1 fun r0 => ?_
  refine wT 2 (.bool false) ?_
  exact wE)
theorem fn14 : Try.prog.funcs[14]? = some Try.f14 := by kernel_rfl
theorem q14 {a0 : AV} {h : Heap} {K : AV × Heap → Prop} (H : ∀ env : Env, env.get 0 = a0 → wC Try.prog cx14 n14_0 (retW (fun s => (bnd (some (s.env.get 2)) fun v => bnd (some []) fun vs => some (v :: vs))) K) ⟨env, h⟩) : SpecQ Try.prog 14 [a0] h K :=
  bodyW_sound (C := cx14) TT_ok mixed_ok fn14 (by kernel_rfl) (show _ = some n14_0 by kernel_rfl) (by kernel_rfl) (by kernel_rfl) (of_decide_eq_true (by kernel_rfl)) ((show wC Try.prog cx14 n14_0 (retW (fun s => resAll cx14 s Try.f14.results.toList) K) ⟨env0 cx14 [a0], h⟩ = wC Try.prog cx14 n14_0 (retW (fun s => (bnd (some (s.env.get 2)) fun v => bnd (some []) fun vs => some (v :: vs))) K) ⟨[(0, a0), (1, .junk), (2, .junk), (3, .junk), (4, .junk), (13, .junk)], h⟩ by kernel_rfl).mpr (H [(0, a0), (1, .junk), (2, .junk), (3, .junk), (4, .junk), (13, .junk)] rfl))
def sn14 := And.intro n14_9_eq (And.intro n14_10_eq (And.intro n14_8_eq (And.intro n14_7_eq (And.intro n14_13_eq (And.intro n14_12_eq (And.intro n14_14_eq (And.intro n14_11_eq (And.intro n14_6_eq (And.intro n14_5_eq (And.intro n14_4_eq (And.intro n14_3_eq (And.intro n14_16_eq (And.intro n14_15_eq (And.intro n14_2_eq (And.intro n14_1_eq (n14_0_eq))))))))))))))))
-- draws: 
end Go.Vab

/-
  Replies of bulk, walked.
-/
namespace Go.Vab
open Go Go.Proofs

def bulk (ds : List Del) (i : Nat) : Nat := ((ds.take i).map fun d => d.entry.length).sum
theorem bulk_succ {ds : List Del} {i : Nat} (hi : i < ds.length) : bulk ds (i + 1) = bulk ds i + ds[i].entry.length := by
  unfold bulk
  rw [List.take_add_one, List.getElem?_eq_getElem hi]
  simp only [Option.toList, List.map_append, List.sum_append, List.map_cons, List.map_nil, List.sum_cons, List.sum_nil, Nat.add_zero]
def thickR (a : Rep) : Bool := largeS a.state || decide (20 < a.deltas.length) || decide (300000 < bulk a.deltas (min a.deltas.length 30)) || decide (200 < a.grant.prf.s.length)

theorem c14 {h : Heap} {a : Rep} {vt vp vs vi va vb vd sg : AV} (ra : RepR h a vt vp vs vi va vb vd sg) :
    SpecQ Try.prog 14 [eRep a vt vp vs vi va vb vd sg] h fun r => r = (.bool (thickR a), h) := by
  have ta := ra.cells
  have ld := ra.d.len
  have lg := ra.g.len
  have bd := ra.d.bound
  have bg := ra.g.bound
  rw [List.length_map] at lg bg
  refine SpecQ.drop1 rfl (q14 fun env g0 => ?_)
  repeat' (first
    | ((with_reducible apply evs_of); (focus ((conv => lhs; simp (disch := omega) [g0, ta]); done)); try dsimp only)
    | ((with_reducible apply cndW_T); (focus (simp (disch := omega) [g0, ta] <;> omega)))
    | ((with_reducible apply cndW_F); (focus (simp (disch := omega) [g0, ta] <;> omega)))
    | (with_reducible apply wL_i)
    | ((with_reducible apply SpecA_i); (focus ((conv => lhs; simp (disch := omega) [g0, ta]); done)))
    | (simp (decide := true) only [sn14, sqW_nrm, sqW_exit, sqW_ret, inBlk_nrm, inBlk_ret, inBlk_same, inBlk_exit, if_true, if_false, retW_nrm, retW_ret]))
  refine loop_up (min a.deltas.length 30) (fun i st => ∃ env', st = ⟨env', h ++ [⟨eRep a vt vp vs vi va vb vd sg, 0, .own⟩]⟩ ∧ env'.get 1 = .ptr h.length 0 [] tReply ∧ env'.get 3 = nat (bulk a.deltas i) ∧ env'.get 4 = nat i ∧ bulk a.deltas i ≤ i * 140737488355328) ?_ ?_ ⟨_, rfl, by simp, by simp [bulk], by simp, by simp [bulk]⟩
  · rintro i st hi ⟨env', rfl, e1, e3, e4, hbk⟩
    obtain ⟨pb, pv, pp, w, p1, p2, p3, p4, p5⟩ := ra.d.idx (i := i) (by omega)
    have lw := p2.len
    have bw := p2.bound
    have h1 : i < a.deltas.length := by omega
    have h2 : i < 30 := by omega
    repeat' (first
      | ((with_reducible apply evs_of); (focus ((conv => lhs; simp (disch := omega) [e1, e3, e4, ta, ld, p1, p4, lw, h1, h2]); done)); try dsimp only)
      | ((with_reducible apply cndW_T); (focus (simp (disch := omega) [e1, e3, e4, ta, ld, p1, p4, lw, h1, h2] <;> omega)))
      | ((with_reducible apply cndW_F); (focus (simp (disch := omega) [e1, e3, e4, ta, ld, p1, p4, lw, h1, h2] <;> omega)))
      | (with_reducible apply wL_i)
      | ((with_reducible apply SpecA_i); (focus ((conv => lhs; simp (disch := omega) [e1, e3, e4, ta, ld, p1, p4, lw, h1, h2]); done)))
      | (simp (decide := true) only [sn14, sqW_nrm, sqW_exit, sqW_ret, inBlk_nrm, inBlk_ret, inBlk_same, inBlk_exit, if_true, if_false, retW_nrm, retW_ret]))
    refine .inl ⟨by simp, _, rfl, by simp [e1], by simp [bulk_succ h1], by simp, ?_⟩
    rw [bulk_succ h1]
    omega
  · rintro st ⟨env', rfl, e1, e3, e4, hbk⟩
    by_cases h1 : a.deltas.length ≤ 30
    · have hn : min a.deltas.length 30 = a.deltas.length := Nat.min_eq_left h1
      rw [hn] at e3 e4 hbk
      repeat' (first
        | ((with_reducible apply evs_of); (focus ((conv => lhs; simp (disch := omega) [e1, e3, e4, ta, ld]); done)); try dsimp only)
        | ((with_reducible apply cndW_T); (focus (simp (disch := omega) [e1, e3, e4, ta, ld] <;> omega)))
        | ((with_reducible apply cndW_F); (focus (simp (disch := omega) [e1, e3, e4, ta, ld] <;> omega)))
        | (with_reducible apply wL_i)
        | ((with_reducible apply SpecA_i); (focus ((conv => lhs; simp (disch := omega) [e1, e3, e4, ta, ld]); done)))
        | (simp (decide := true) only [sn14, sqW_nrm, sqW_exit, sqW_ret, inBlk_nrm, inBlk_ret, inBlk_same, inBlk_exit, if_true, if_false, retW_nrm, retW_ret]))
      refine ⟨by simp, ?_⟩
      repeat' (first
        | ((with_reducible apply evs_of); (focus ((conv => lhs; simp (disch := omega) [e1, e3, ta, ld, lg]); done)); try dsimp only)
        | ((with_reducible apply cndW_T); (focus (simp (disch := omega) [e1, e3, ta, ld, lg] <;> omega)))
        | ((with_reducible apply cndW_F); (focus (simp (disch := omega) [e1, e3, ta, ld, lg] <;> omega)))
        | (with_reducible apply wL_i)
        | (with_reducible refine SpecQ.step (c6 (ra.s.app _)) ?_; rintro _ rfl; try dsimp only)
        | ((with_reducible apply SpecA_i); (focus ((conv => lhs; simp (disch := omega) [e1, e3, ta, ld, lg]); done)))
        | (simp (decide := true) only [sn14, sqW_nrm, sqW_exit, sqW_ret, inBlk_nrm, inBlk_ret, inBlk_same, inBlk_exit, if_true, if_false, retW_nrm, retW_ret])
        | ((with_reducible apply cndW_splitE); (focus ((conv => lhs; simp (disch := omega) [e1, e3, ta, ld, lg]); done)); all_goals ((intro hb; try simp only [Bool.not_true, Bool.not_false] at hb); try simp only [hb]))
        | (with_reducible refine gv_split ?_ ?_ <;> (intro hb; try simp only [Bool.not_true, Bool.not_false] at hb) <;> try simp only [hb])
        | (with_reducible refine cndW_split ?_ ?_ <;> (intro hb; try simp only [Bool.not_true, Bool.not_false] at hb) <;> try simp only [hb]))
      all_goals refine fin_b ?_
      all_goals (unfold thickR; rw [hn]; clear e1 e3 e4 hbk ra ta ld lg g0 bd bg; simp_all; try omega)
    · have hn : min a.deltas.length 30 = 30 := Nat.min_eq_right (by omega)
      have h2 : 30 < a.deltas.length := by omega
      rw [hn] at e3 e4 hbk
      repeat' (first
        | ((with_reducible apply evs_of); (focus ((conv => lhs; simp (disch := omega) [e1, e3, e4, ta, ld, h2]); done)); try dsimp only)
        | ((with_reducible apply cndW_T); (focus (simp (disch := omega) [e1, e3, e4, ta, ld, h2] <;> omega)))
        | ((with_reducible apply cndW_F); (focus (simp (disch := omega) [e1, e3, e4, ta, ld, h2] <;> omega)))
        | (with_reducible apply wL_i)
        | ((with_reducible apply SpecA_i); (focus ((conv => lhs; simp (disch := omega) [e1, e3, e4, ta, ld, h2]); done)))
        | (simp (decide := true) only [sn14, sqW_nrm, sqW_exit, sqW_ret, inBlk_nrm, inBlk_ret, inBlk_same, inBlk_exit, if_true, if_false, retW_nrm, retW_ret]))
      refine ⟨by simp, ?_⟩
      repeat' (first
        | ((with_reducible apply evs_of); (focus ((conv => lhs; simp (disch := omega) [e1, e3, ta, ld, lg]); done)); try dsimp only)
        | ((with_reducible apply cndW_T); (focus (simp (disch := omega) [e1, e3, ta, ld, lg] <;> omega)))
        | ((with_reducible apply cndW_F); (focus (simp (disch := omega) [e1, e3, ta, ld, lg] <;> omega)))
        | (with_reducible apply wL_i)
        | (with_reducible refine SpecQ.step (c6 (ra.s.app _)) ?_; rintro _ rfl; try dsimp only)
        | ((with_reducible apply SpecA_i); (focus ((conv => lhs; simp (disch := omega) [e1, e3, ta, ld, lg]); done)))
        | (simp (decide := true) only [sn14, sqW_nrm, sqW_exit, sqW_ret, inBlk_nrm, inBlk_ret, inBlk_same, inBlk_exit, if_true, if_false, retW_nrm, retW_ret])
        | ((with_reducible apply cndW_splitE); (focus ((conv => lhs; simp (disch := omega) [e1, e3, ta, ld, lg]); done)); all_goals ((intro hb; try simp only [Bool.not_true, Bool.not_false] at hb); try simp only [hb]))
        | (with_reducible refine gv_split ?_ ?_ <;> (intro hb; try simp only [Bool.not_true, Bool.not_false] at hb) <;> try simp only [hb])
        | (with_reducible refine cndW_split ?_ ?_ <;> (intro hb; try simp only [Bool.not_true, Bool.not_false] at hb) <;> try simp only [hb]))
      all_goals refine fin_b ?_
      all_goals (unfold thickR; rw [hn]; clear e1 e3 e4 hbk ra ta ld lg g0 bd bg; simp_all; try omega)

end Go.Vab

/- How the code of a function is read. Printed by wip/tools/gen2.py (own work). -/
namespace Go.Vab
open Go Go.Proofs
/-! vestry/vestrylaw18.FormsAlike -/
def cx4 : Ctx := ⟨fun _ _ _ => none, TT, 55, [9, 10, 11, 12, 13, 14, 15, 16, 17, 18, 19, 20, 21, 23, 24, 25, 26, 27, 28, 29, 30, 31, 32, 33, 34, 35, 36, 37, 38, 39, 40, 41, 42, 43, 44, 45, 46, 47, 48, 49, 50, 51, 52, 53, 54]⟩
noncomputable def n4_0 : Code := bodyOf Try.f4
noncomputable def n4_1 : Code := cR n4_0
noncomputable def n4_2 : Code := cL n4_1
noncomputable def n4_3 : Code := cR n4_2
noncomputable def n4_4 : Code := cL n4_3
noncomputable def n4_5 : Code := cR n4_4
noncomputable def n4_6 : Code := cR n4_3
noncomputable def n4_7 : Code := cR n4_1
noncomputable def n4_8 : Code := cR n4_7
theorem n4_5_eq (Q : Ex × St → Prop) (s : St) : wC Try.prog cx4 n4_5 Q s = Q (.ret, s) := yE
theorem n4_4_eq (Q : Ex × St → Prop) (env : Env) (h : Heap) : wC Try.prog cx4 n4_4 Q ⟨env, h⟩ = (SpecA Try.prog 7 [] h fun r0 => wC Try.prog cx4 n4_5 Q ⟨(Env.put env 8 r0.1), r0.2⟩) := (ySR 2 (cOps (cL n4_4)) (cR n4_4)).trans (by
  refine w0 ?_
  refine wH 23 fun r0 => ?_
  refine wT 8 r0.1 ?_
  exact wE)
theorem n4_6_eq (Q : Ex × St → Prop) (s : St) : wC Try.prog cx4 n4_6 Q s = Q (.nrm, s) := yK
theorem n4_3_eq (Q : Ex × St → Prop) (s : St) : wC Try.prog cx4 n4_3 Q s = cndW (s.env.get 22) (wL Try.prog cx4 n4_4 Q s) (wL Try.prog cx4 n4_6 Q s) := yC 22 _ _
theorem n4_2_eq (Q : Ex × St → Prop) (env : Env) (h : Heap) : wC Try.prog cx4 n4_2 Q ⟨env, h⟩ = (Evs (mLoad tRequest (env.get 4) h) fun v0 => SpecA Try.prog 13 [v0] h fun r1 => Evs (gv r1.1 false (mLoad tRequest (env.get 5) r1.2)) fun v3 => gW r1.1 false (SpecA Try.prog 13 [v3] r1.2) r1.2 fun r4 => Evs (mPick r1.1 (.bool true) r4.1) fun v5 => Evs (gv v5 false (mLoad tReply (env.get 6) r4.2)) fun v7 => gW v5 false (SpecA Try.prog 14 [v7] r4.2) r4.2 fun r8 => Evs (mPick v5 (.bool true) r8.1) fun v9 => Evs (gv v9 false (mLoad tReply (env.get 7) r8.2)) fun v11 => gW v9 false (SpecA Try.prog 14 [v11] r8.2) r8.2 fun r12 => Evs (mPick v9 (.bool true) r12.1) fun v13 => wC Try.prog cx4 n4_3 Q ⟨(Env.put env 22 v13), r12.2⟩) := (ySR 1 (cOps (cL n4_2)) (cR n4_2)).trans (by
  refine w0 ?_
  refine wP 9 fun v0 => ?_
  refine wH 10 fun r1 => ?_
  refine wT 11 r1.1 ?_
  refine wG 12 fun v3 => ?_
  refine wH 13 fun r4 => ?_
  refine wP 14 fun v5 => ?_
  refine wT 15 v5 ?_
  refine wG 16 fun v7 => ?_
  refine wH 17 fun r8 => ?_
  refine wP 18 fun v9 => ?_
  refine wT 19 v9 ?_
  refine wG 20 fun v11 => ?_
  refine wH 21 fun r12 => ?_
  refine wP 22 fun v13 => ?_
  exact wE)
theorem n4_8_eq (Q : Ex × St → Prop) (s : St) : wC Try.prog cx4 n4_8 Q s = Q (.ret, s) := yE
theorem n4_7_ok : treeOk (cOps (cL n4_7)).toList [19, 25] [0, 0, 3, 0, 0, 31, 63, 127, 255, 255, 1023, 255, 255, 8191, 16383, 32767, 65535, 131071, 131071, 393215, 1048575, 2097151, 4194303, 8388607, 8388607, 25165823, 67108863, 134217727, 268435455, 536870911, 1073741823, 2147483647] = true := by kernel_rfl
theorem n4_7_w (Q : Ex × St → Prop) (env : Env) (h : Heap) (H : Evs (mLoad tRequest (env.get 4) h) fun v0_1 => Evs (mLoad tRequest (env.get 5) h) fun v1_2 => ValW (SpecA Try.prog 15 [v0_1, v1_2] h) h fun v2_3 => Evs (mLoad tRequest (env.get 4) h) fun v3_4 => Evs (mLoad tRequest (env.get 5) h) fun v4_5 => ValW (SpecA Try.prog 16 [v3_4, v4_5] h) h fun v5_6 => Evs (mBinB .eql v2_3 v5_6) fun v6_7 => Evs (gv v6_7 true (mLoad tReply (env.get 6) h)) fun v8_8 => Evs (gv v6_7 true (mLoad tReply (env.get 7) h)) fun v9_9 => ValW (gW v6_7 true (SpecA Try.prog 17 [v8_8, v9_9] h) h) h fun v10_10 => Evs (gv v6_7 true (mLoad tReply (env.get 6) h)) fun v11_11 => Evs (gv v6_7 true (mLoad tReply (env.get 7) h)) fun v12_12 => ValW (gW v6_7 true (SpecA Try.prog 18 [v11_11, v12_12] h) h) h fun v13_13 => Evs (gv v6_7 true (mBinB .eql v10_10 v13_13)) fun v14_14 => Evs (mPick v6_7 v14_14 (.bool false)) fun v15_15 => Evs (gv v15_15 true (mLoad tRequest (env.get 4) h)) fun v17_16 => Evs (gv v15_15 true (mLoad tRequest (env.get 4) h)) fun v18_17 => gW v15_15 true (SpecA Try.prog 19 [v18_17] h) h fun r19_18 => stabP (gv v15_15 true (mLoad tRequest (env.get 4) r19_18.2) = some v17_16) (ValW (gW v15_15 true (SpecA Try.prog 15 [v17_16, r19_18.1] r19_18.2) r19_18.2) r19_18.2 fun v20_19 => Evs (mPick v15_15 v20_19 (.bool false)) fun v21_20 => Evs (gv v21_20 true (mLoad tReply (env.get 6) r19_18.2)) fun v23_21 => Evs (gv v21_20 true (mLoad tReply (env.get 6) r19_18.2)) fun v24_22 => gW v21_20 true (SpecA Try.prog 20 [v24_22] r19_18.2) r19_18.2 fun r25_23 => stabP (gv v21_20 true (mLoad tReply (env.get 6) r25_23.2) = some v23_21) (ValW (gW v21_20 true (SpecA Try.prog 17 [v23_21, r25_23.1] r25_23.2) r25_23.2) r25_23.2 fun v26_24 => Evs (mPick v21_20 v26_24 (.bool false)) fun v27_25 => ValW (gW v27_25 true (SpecA Try.prog 7 [] r25_23.2) r25_23.2) r25_23.2 fun v29_26 => Evs (mPick v27_25 v29_26 (.bool false)) fun v30_27 => wC Try.prog cx4 n4_8 Q ⟨(Env.put env 8 v30_27), r25_23.2⟩))) : wC Try.prog cx4 n4_7 Q ⟨env, h⟩ := by
  refine ySD 3 (cOps (cL n4_7)) (cR n4_7) [19, 25] [0, 0, 3, 0, 0, 31, 63, 127, 255, 255, 1023, 255, 255, 8191, 16383, 32767, 65535, 131071, 131071, 393215, 1048575, 2097151, 4194303, 8388607, 8388607, 25165823, 67108863, 134217727, 268435455, 536870911, 1073741823, 2147483647] [0, 1, 2, 3, 4, 5, 6, 7, 8, 9, 10, 11, 12, 13, 14, 15, 16, 17, 18] n4_7_ok ?_
  refine rP H 24 fun v0_1 H => ?_
  refine rP H 25 fun v1_2 H => ?_
  refine rF H 26 (fun v2_3 H => ?_)
  refine rP H 27 fun v3_4 H => ?_
  refine rP H 28 fun v4_5 H => ?_
  refine rF H 29 (fun v5_6 H => ?_)
  refine rP H 30 fun v6_7 H => ?_
  refine rT 31 v6_7 ?_
  refine rG H 32 fun v8_8 H => ?_
  refine rG H 33 fun v9_9 H => ?_
  refine rF H 34 (fun v10_10 H => ?_)
  refine rG H 35 fun v11_11 H => ?_
  refine rG H 36 fun v12_12 H => ?_
  refine rF H 37 (fun v13_13 H => ?_)
  refine rG H 38 fun v14_14 H => ?_
  refine rP H 39 fun v15_15 H => ?_
  refine rT 40 v15_15 ?_
  refine rG H 41 fun v17_16 H => ?_
  refine rG H 42 fun v18_17 H => ?_
  refine rE ?_
  refine tN 19 [] ?_
  refine aN1 ?_
  refine tH H 43 [20, 21, 22, 23, 24] [17] (fun r19_18 H => ?_)
  refine sG v17_16 41 H (fun H => ?_) (by kernel_rfl) (by kernel_rfl) (by kernel_rfl)
  refine ⟨sNil, ?_⟩
  refine rF H 44 (fun v20_19 H => ?_)
  refine rP H 45 fun v21_20 H => ?_
  refine rT 46 v21_20 ?_
  refine rG H 47 fun v23_21 H => ?_
  refine rG H 48 fun v24_22 H => ?_
  refine rE ?_
  refine tN 25 [] ?_
  refine aN1 ?_
  refine tH H 49 [26, 27, 28, 29, 30, 31] [23] (fun r25_23 H => ?_)
  refine sG v23_21 47 H (fun H => ?_) (by kernel_rfl) (by kernel_rfl) (by kernel_rfl)
  refine ⟨sNil, ?_⟩
  refine rF H 50 (fun v26_24 H => ?_)
  refine rP H 51 fun v27_25 H => ?_
  refine rT 52 v27_25 ?_
  refine rF H 53 (fun v29_26 H => ?_)
  refine rP H 54 fun v30_27 H => ?_
  refine rT 8 v30_27 ?_
  refine rE ?_
  exact tE H
theorem n4_1_eq (Q : Ex × St → Prop) (s : St) : wC Try.prog cx4 n4_1 Q s = wC Try.prog cx4 n4_2 (sqW (wC Try.prog cx4 n4_7) Q) s := yS _ _
theorem n4_0_eq (Q : Ex × St → Prop) (env : Env) (h : Heap) : wC Try.prog cx4 n4_0 Q ⟨env, h⟩ = (Evs (mNew tRequest (env.get 0) h) fun r0 => Evs (mNew tRequest (env.get 1) r0.2) fun r1 => Evs (mNew tReply (env.get 2) r1.2) fun r2 => Evs (mNew tReply (env.get 3) r2.2) fun r3 => wC Try.prog cx4 n4_1 Q ⟨(Env.put (Env.put (Env.put (Env.put (Env.put env 4 r0.1) 5 r1.1) 6 r2.1) 7 r3.1) 8 (.bool false)), r3.2⟩) := (ySR 0 (cOps (cL n4_0)) (cR n4_0)).trans (by
  refine w0 ?_
  refine wH 4 fun r0 => ?_
  refine wH 5 fun r1 => ?_
  refine wH 6 fun r2 => ?_
  refine wH 7 fun r3 => ?_
  refine wT 8 (.bool false) ?_
  exact wE)
theorem fn4 : Try.prog.funcs[4]? = some Try.f4 := by kernel_rfl
theorem q4 {a0 a1 a2 a3 : AV} {h : Heap} {K : AV × Heap → Prop} (H : ∀ env : Env, env.get 0 = a0 → env.get 1 = a1 → env.get 2 = a2 → env.get 3 = a3 → wC Try.prog cx4 n4_0 (retW (fun s => (bnd (some (s.env.get 8)) fun v => bnd (some []) fun vs => some (v :: vs))) K) ⟨env, h⟩) : SpecQ Try.prog 4 [a0, a1, a2, a3] h K :=
  bodyW_sound (C := cx4) TT_ok mixed_ok fn4 (by kernel_rfl) (show _ = some n4_0 by kernel_rfl) (by kernel_rfl) (by kernel_rfl) (of_decide_eq_true (by kernel_rfl)) ((show wC Try.prog cx4 n4_0 (retW (fun s => resAll cx4 s Try.f4.results.toList) K) ⟨env0 cx4 [a0, a1, a2, a3], h⟩ = wC Try.prog cx4 n4_0 (retW (fun s => (bnd (some (s.env.get 8)) fun v => bnd (some []) fun vs => some (v :: vs))) K) ⟨[(0, a0), (1, a1), (2, a2), (3, a3), (4, .junk), (5, .junk), (6, .junk), (7, .junk), (8, .junk), (22, .junk)], h⟩ by kernel_rfl).mpr (H [(0, a0), (1, a1), (2, a2), (3, a3), (4, .junk), (5, .junk), (6, .junk), (7, .junk), (8, .junk), (22, .junk)] rfl rfl rfl rfl))
def sn4 := And.intro n4_5_eq (And.intro n4_4_eq (And.intro n4_6_eq (And.intro n4_3_eq (And.intro n4_2_eq (And.intro n4_8_eq (And.intro n4_1_eq (n4_0_eq)))))))
-- draws: n4_7
end Go.Vab

/-
  FormsAlike, walked.
-/
namespace Go.Vab
open Go Go.Proofs

theorem wide_short {a : Req} (h : wideR a = false) : shortR a := by
  simp only [wideR, Bool.or_eq_false_iff, decide_eq_false_iff_not] at h
  unfold shortR shortA
  omega
theorem thick_short {a : Rep} (h : thickR a = false) : shortP a := by
  simp only [thickR, largeS, Bool.or_eq_false_iff, decide_eq_false_iff_not] at h
  unfold shortP short
  omega

theorem c4 {h : Heap} {a b : Req} {c d : Rep} {vt vp at_ ap s1 s2 s3 wt wp_ bt bp u1 u2 u3 ct cp cs ci ca cb cd cg dt dp ds di da db dd dg : AV} (ra : ReqR h a vt vp at_ ap s1 s2 s3) (rb : ReqR h b wt wp_ bt bp u1 u2 u3) (rc : RepR h c ct cp cs ci ca cb cd cg) (rd : RepR h d dt dp ds di da db dd dg) :
    SpecQ Try.prog 4 [eReq a vt vp at_ ap s1 s2 s3, eReq b wt wp_ bt bp u1 u2 u3, eRep c ct cp cs ci ca cb cd cg, eRep d dt dp ds di da db dd dg] h fun r => r.1 = .bool true := by
  have ta := ra.cells
  have tb := rb.cells
  have tc := rc.cells
  have td := rd.cells
  refine q4 fun env g0 g1 g2 g3 => ?_
  repeat' (first
    | ((with_reducible apply evs_of); (focus ((conv => lhs; simp (disch := omega) [g0, g1, g2, g3, ta, tb, tc, td]); done)); try dsimp only)
    | ((with_reducible apply gW_do); (focus (simp (disch := omega) [g0, g1, g2, g3, ta, tb, tc, td]; done)))
    | ((with_reducible apply gW_no); (focus (simp (disch := omega) [g0, g1, g2, g3, ta, tb, tc, td]; done)); try dsimp only)
    | ((with_reducible apply gW_un); (focus (simp (disch := omega) [g0, g1, g2, g3, ta, tb, tc, td]; done)); try dsimp only)
    | ((with_reducible apply cndW_T); (focus (simp (disch := omega) [g0, g1, g2, g3, ta, tb, tc, td] <;> omega)))
    | ((with_reducible apply cndW_F); (focus (simp (disch := omega) [g0, g1, g2, g3, ta, tb, tc, td] <;> omega)))
    | ((with_reducible apply stabP_i); (focus (simp (disch := omega) [g0, g1, g2, g3, ta, tb, tc, td]; done)))
    | (with_reducible apply wL_i)
    | ((with_reducible apply ValW_do); (focus (simp (disch := omega) [g0, g1, g2, g3, ta, tb, tc, td]; done)); try dsimp only)
    | ((with_reducible apply ValW_no); (focus (simp (disch := omega) [g0, g1, g2, g3, ta, tb, tc, td]; done)); try dsimp only)
    | ((with_reducible apply ValW_un); (focus (simp (disch := omega) [g0, g1, g2, g3, ta, tb, tc, td]; done)); try dsimp only)
    | (with_reducible refine ValW_i (c13 (ra.app _)) ?_; try dsimp only)
    | (with_reducible refine SpecQ.step (c13 (ra.app _)) ?_; rintro _ rfl; try dsimp only)
    | (with_reducible refine stabP_i (c13 (ra.app _)) ?_)
    | (with_reducible refine ValW_i (c13 (rb.app _)) ?_; try dsimp only)
    | (with_reducible refine SpecQ.step (c13 (rb.app _)) ?_; rintro _ rfl; try dsimp only)
    | (with_reducible refine stabP_i (c13 (rb.app _)) ?_)
    | (with_reducible refine ValW_i (c14 (rc.app _)) ?_; try dsimp only)
    | (with_reducible refine SpecQ.step (c14 (rc.app _)) ?_; rintro _ rfl; try dsimp only)
    | (with_reducible refine stabP_i (c14 (rc.app _)) ?_)
    | (with_reducible refine ValW_i (c14 (rd.app _)) ?_; try dsimp only)
    | (with_reducible refine SpecQ.step (c14 (rd.app _)) ?_; rintro _ rfl; try dsimp only)
    | (with_reducible refine stabP_i (c14 (rd.app _)) ?_)
    | (with_reducible refine ValW_i (c7) ?_; try dsimp only)
    | (with_reducible refine SpecQ.step (c7) ?_; rintro _ rfl; try dsimp only)
    | (with_reducible refine stabP_i (c7) ?_)
    | (with_reducible refine ValW_i (c15 (ra.app _) (rb.app _)) ?_; try dsimp only)
    | (with_reducible refine SpecQ.step (c15 (ra.app _) (rb.app _)) ?_; rintro _ rfl; try dsimp only)
    | (with_reducible refine stabP_i (c15 (ra.app _) (rb.app _)) ?_)
    | (with_reducible refine ValW_i (c16 (ra.app _) (rb.app _)) ?_; try dsimp only)
    | (with_reducible refine SpecQ.step (c16 (ra.app _) (rb.app _)) ?_; rintro _ rfl; try dsimp only)
    | (with_reducible refine stabP_i (c16 (ra.app _) (rb.app _)) ?_)
    | (with_reducible refine ValW_i (c17 (rc.app _) (rd.app _)) ?_; try dsimp only)
    | (with_reducible refine SpecQ.step (c17 (rc.app _) (rd.app _)) ?_; rintro _ rfl; try dsimp only)
    | (with_reducible refine stabP_i (c17 (rc.app _) (rd.app _)) ?_)
    | (with_reducible refine ValW_i (c18 (rc.app _) (rd.app _)) ?_; try dsimp only)
    | (with_reducible refine SpecQ.step (c18 (rc.app _) (rd.app _)) ?_; rintro _ rfl; try dsimp only)
    | (with_reducible refine stabP_i (c18 (rc.app _) (rd.app _)) ?_)
    | ((with_reducible apply SpecA_i); (focus ((conv => lhs; simp (disch := omega) [g0, g1, g2, g3, ta, tb, tc, td]); done)))
    | ((with_reducible apply ValA_i); (focus ((conv => lhs; simp (disch := omega) [g0, g1, g2, g3, ta, tb, tc, td]); done)))
    | ((with_reducible apply stabA_i); (focus ((conv => lhs; simp (disch := omega) [g0, g1, g2, g3, ta, tb, tc, td]); done)))
    | ((with_reducible apply ValA_fn); (focus ((conv => lhs; simp (disch := omega) [g0, g1, g2, g3, ta, tb, tc, td]); done)))
    | ((with_reducible apply stabA_fn); (focus ((conv => lhs; simp (disch := omega) [g0, g1, g2, g3, ta, tb, tc, td]); done)))
    | ((with_reducible apply stab_do); (focus (simp (disch := omega) [g0, g1, g2, g3, ta, tb, tc, td]; done)))
    | (simp (decide := true) only [sn4, sqW_nrm, sqW_exit, sqW_ret, inBlk_nrm, inBlk_ret, inBlk_same, inBlk_exit, if_true, if_false, retW_nrm, retW_ret])
    | (with_reducible refine n4_7_w _ _ _ ?_)
    | ((with_reducible apply cndW_splitE); (focus ((conv => lhs; simp (disch := omega) [g0, g1, g2, g3, ta, tb, tc, td]); done)); all_goals ((intro hb; try simp only [Bool.not_true, Bool.not_false] at hb); try simp only [hb]))
    | (with_reducible refine gv_split ?_ ?_ <;> (intro hb; try simp only [Bool.not_true, Bool.not_false] at hb) <;> try simp only [hb])
    | (with_reducible refine gW_split ?_ ?_ <;> (intro hb; try simp only [Bool.not_true, Bool.not_false] at hb) <;> try simp only [hb])
    | (with_reducible refine cndW_split ?_ ?_ <;> (intro hb; try simp only [Bool.not_true, Bool.not_false] at hb) <;> try simp only [hb])
    | (with_reducible refine ValW_split ?_ ?_ <;> (intro hb; try simp only [Bool.not_true, Bool.not_false] at hb) <;> try simp only [hb]))
  all_goals try (simp only [oneOrTuple]; done)
  rename_i q1 q2 q3
  refine SpecQ.step (c19 (ra.app _) (wide_short q1)) ?_
  rintro ⟨v, h2⟩ ⟨z1, z2, z3, z4, z5, z6, z7, t, e, rz⟩
  cases e
  simp only [List.append_assoc]
  simp only [List.append_assoc] at rz
  repeat' (first
    | ((with_reducible apply evs_of); (focus ((conv => lhs; simp (disch := omega) [g0, g1, g2, g3, ta, tb, tc, td, List.append_assoc]); done)); try dsimp only)
    | ((with_reducible apply gW_do); (focus (simp (disch := omega) [g0, g1, g2, g3, ta, tb, tc, td, List.append_assoc]; done)))
    | ((with_reducible apply gW_no); (focus (simp (disch := omega) [g0, g1, g2, g3, ta, tb, tc, td, List.append_assoc]; done)); try dsimp only)
    | ((with_reducible apply gW_un); (focus (simp (disch := omega) [g0, g1, g2, g3, ta, tb, tc, td, List.append_assoc]; done)); try dsimp only)
    | ((with_reducible apply cndW_T); (focus (simp (disch := omega) [g0, g1, g2, g3, ta, tb, tc, td, List.append_assoc] <;> omega)))
    | ((with_reducible apply cndW_F); (focus (simp (disch := omega) [g0, g1, g2, g3, ta, tb, tc, td, List.append_assoc] <;> omega)))
    | ((with_reducible apply stabP_i); (focus (simp (disch := omega) [g0, g1, g2, g3, ta, tb, tc, td, List.append_assoc]; done)))
    | (with_reducible apply wL_i)
    | ((with_reducible apply ValW_do); (focus (simp (disch := omega) [g0, g1, g2, g3, ta, tb, tc, td, List.append_assoc]; done)); try dsimp only)
    | ((with_reducible apply ValW_no); (focus (simp (disch := omega) [g0, g1, g2, g3, ta, tb, tc, td, List.append_assoc]; done)); try dsimp only)
    | ((with_reducible apply ValW_un); (focus (simp (disch := omega) [g0, g1, g2, g3, ta, tb, tc, td, List.append_assoc]; done)); try dsimp only)
    | (with_reducible refine ValW_i (c15 (ra.app _) rz) ?_; try dsimp only)
    | (with_reducible refine SpecQ.step (c15 (ra.app _) rz) ?_; rintro _ rfl; try dsimp only)
    | (with_reducible refine stabP_i (c15 (ra.app _) rz) ?_)
    | ((with_reducible apply SpecA_i); (focus ((conv => lhs; simp (disch := omega) [g0, g1, g2, g3, ta, tb, tc, td, List.append_assoc]); done)))
    | ((with_reducible apply ValA_i); (focus ((conv => lhs; simp (disch := omega) [g0, g1, g2, g3, ta, tb, tc, td, List.append_assoc]); done)))
    | ((with_reducible apply stabA_i); (focus ((conv => lhs; simp (disch := omega) [g0, g1, g2, g3, ta, tb, tc, td, List.append_assoc]); done)))
    | ((with_reducible apply ValA_fn); (focus ((conv => lhs; simp (disch := omega) [g0, g1, g2, g3, ta, tb, tc, td, List.append_assoc]); done)))
    | ((with_reducible apply stabA_fn); (focus ((conv => lhs; simp (disch := omega) [g0, g1, g2, g3, ta, tb, tc, td, List.append_assoc]); done)))
    | ((with_reducible apply stab_do); (focus (simp (disch := omega) [g0, g1, g2, g3, ta, tb, tc, td, List.append_assoc]; done)))
    | (simp (decide := true) only [sn4, sqW_nrm, sqW_exit, sqW_ret, inBlk_nrm, inBlk_ret, inBlk_same, inBlk_exit, if_true, if_false, retW_nrm, retW_ret])
    | (with_reducible refine n4_7_w _ _ _ ?_))
  refine SpecQ.step (c20 (rc.app _) (thick_short q3)) ?_
  rintro ⟨v, h2⟩ ⟨w1, w2, w3, w4, w5, w6, w7, w8, t2, e, rw_⟩
  cases e
  simp only [List.append_assoc]
  simp only [List.append_assoc] at rw_
  repeat' (first
    | ((with_reducible apply evs_of); (focus ((conv => lhs; simp (disch := omega) [g0, g1, g2, g3, ta, tb, tc, td, List.append_assoc]); done)); try dsimp only)
    | ((with_reducible apply gW_do); (focus (simp (disch := omega) [g0, g1, g2, g3, ta, tb, tc, td, List.append_assoc]; done)))
    | ((with_reducible apply gW_no); (focus (simp (disch := omega) [g0, g1, g2, g3, ta, tb, tc, td, List.append_assoc]; done)); try dsimp only)
    | ((with_reducible apply gW_un); (focus (simp (disch := omega) [g0, g1, g2, g3, ta, tb, tc, td, List.append_assoc]; done)); try dsimp only)
    | ((with_reducible apply cndW_T); (focus (simp (disch := omega) [g0, g1, g2, g3, ta, tb, tc, td, List.append_assoc] <;> omega)))
    | ((with_reducible apply cndW_F); (focus (simp (disch := omega) [g0, g1, g2, g3, ta, tb, tc, td, List.append_assoc] <;> omega)))
    | ((with_reducible apply stabP_i); (focus (simp (disch := omega) [g0, g1, g2, g3, ta, tb, tc, td, List.append_assoc]; done)))
    | (with_reducible apply wL_i)
    | ((with_reducible apply ValW_do); (focus (simp (disch := omega) [g0, g1, g2, g3, ta, tb, tc, td, List.append_assoc]; done)); try dsimp only)
    | ((with_reducible apply ValW_no); (focus (simp (disch := omega) [g0, g1, g2, g3, ta, tb, tc, td, List.append_assoc]; done)); try dsimp only)
    | ((with_reducible apply ValW_un); (focus (simp (disch := omega) [g0, g1, g2, g3, ta, tb, tc, td, List.append_assoc]; done)); try dsimp only)
    | (with_reducible refine ValW_i (c17 (rc.app _) rw_) ?_; try dsimp only)
    | (with_reducible refine SpecQ.step (c17 (rc.app _) rw_) ?_; rintro _ rfl; try dsimp only)
    | (with_reducible refine stabP_i (c17 (rc.app _) rw_) ?_)
    | (with_reducible refine ValW_i (c7) ?_; try dsimp only)
    | (with_reducible refine SpecQ.step (c7) ?_; rintro _ rfl; try dsimp only)
    | (with_reducible refine stabP_i (c7) ?_)
    | ((with_reducible apply SpecA_i); (focus ((conv => lhs; simp (disch := omega) [g0, g1, g2, g3, ta, tb, tc, td, List.append_assoc]); done)))
    | ((with_reducible apply ValA_i); (focus ((conv => lhs; simp (disch := omega) [g0, g1, g2, g3, ta, tb, tc, td, List.append_assoc]); done)))
    | ((with_reducible apply stabA_i); (focus ((conv => lhs; simp (disch := omega) [g0, g1, g2, g3, ta, tb, tc, td, List.append_assoc]); done)))
    | ((with_reducible apply ValA_fn); (focus ((conv => lhs; simp (disch := omega) [g0, g1, g2, g3, ta, tb, tc, td, List.append_assoc]); done)))
    | ((with_reducible apply stabA_fn); (focus ((conv => lhs; simp (disch := omega) [g0, g1, g2, g3, ta, tb, tc, td, List.append_assoc]); done)))
    | ((with_reducible apply stab_do); (focus (simp (disch := omega) [g0, g1, g2, g3, ta, tb, tc, td, List.append_assoc]; done)))
    | (simp (decide := true) only [sn4, sqW_nrm, sqW_exit, sqW_ret, inBlk_nrm, inBlk_ret, inBlk_same, inBlk_exit, if_true, if_false, retW_nrm, retW_ret])
    | (with_reducible refine n4_7_w _ _ _ ?_))
  all_goals simp [oneOrTuple]

end Go.Vab

/-
  An argument's cells are well typed: looked at one behind the other.
-/
namespace Go.Vas
open Go Go.RowKit Go.WideShapes Go.ChangeShapes

def okW (P : Program) (w : World) : List TypeId → List Value → Bool
  | [], [] => true
  | t :: ts, v :: vs => Cell.okWideB P w t v && okW P w ts vs
  | _, _ => false

theorem okW_spec {P : Program} {w : World} : ∀ {ts : List TypeId} {vs : List Value}, okW P w ts vs = true → vs.length = ts.length ∧ ∀ (i : Nat) v, vs[i]? = some v → ∃ u, ts[i]? = some u ∧ Cell.okWideB P w u v = true
  | [], [], _ => ⟨rfl, fun i v h => by simp at h⟩
  | t :: ts, v :: vs, h => by
    simp only [okW, Bool.and_eq_true] at h
    obtain ⟨h1, h2⟩ := okW_spec h.2
    refine ⟨by simp [h1], fun i x hx => ?_⟩
    cases i with
    | zero => simp at hx; subst hx; exact ⟨t, rfl, h.1⟩
    | succ i => exact h2 i x (by simpa using hx)
  | [], _ :: _, h => by simp [okW] at h
  | _ :: _, [], h => by simp [okW] at h

theorem okWide_of_okW {P : Program} {w : World} {base : Nat} {t : TypeId} {cs : List Value} (hs : (match P.underlying t with | some (.struct _) => true | _ => false) = true) (hn : decide (cs.length = P.cellsOf t) = true)
    (h : (match P.cellTypes P.depth t with | some ts => okW P w ts cs | none => false) = true) : Value.okWide P w .any base t (.agg cs.toArray) := by
  unfold Value.okWide
  cases hu : P.underlying t with
  | none => rw [hu] at hs; cases hs
  | some d =>
    rw [hu] at hs
    cases d <;> try (cases hs; done)
    refine ⟨_, rfl, by simpa using of_decide_eq_true hn, ?_⟩
    cases hts : P.cellTypes P.depth t with
    | none => rw [hts] at h; cases h
    | some ts =>
      rw [hts] at h
      obtain ⟨h1, h2⟩ := okW_spec h
      refine ⟨ts, hts, ⟨1, by simp [h1]⟩, fun i v hv => ?_⟩
      have hv' : cs[i]? = some v := by simpa using hv
      obtain ⟨u, h3, h4⟩ := h2 i v hv'
      have : i < ts.length := (List.getElem?_eq_some_iff.1 h3).1
      rw [Nat.mod_eq_of_lt this]
      exact ⟨u, h3, Cell.okWide_of_okWideB h4⟩

/-- A law's four arguments. -/
theorem okWide4 {P : Program} {w : World} {base : Nat} {f : FuncId} {fn : Func} {a b c d : TypeId} {x y z u : Value} (h0 : P.inits.idxOf? f = none) (hf : P.funcs[f]? = some fn) (h1 : fn.body.isSome = true) (h2 : fn.ours = false) (h3 : fn.nfree = 0) (hp : fn.params = #[a, b, c, d])
    (hx : Value.okWide P w .any base a x) (hy : Value.okWide P w .any base b y) (hz : Value.okWide P w .any base c z) (hu : Value.okWide P w .any base d u) : Input.okWide P w .any base f ⟨#[], #[x, y, z, u], []⟩ := by
  refine ⟨fun o ho => by simp at ho, fun o ho => by simp at ho, h0, fn, hf, h1, h2, h3, by rw [hp]; rfl, fun j t v hj hv => ?_⟩
  rw [hp] at hj
  match j with
  | 0 => simp at hj hv; subst hj; subst hv; exact hx
  | 1 => simp at hj hv; subst hj; subst hv; exact hy
  | 2 => simp at hj hv; subst hj; subst hv; exact hz
  | 3 => simp at hj hv; subst hj; subst hv; exact hu
  | j + 4 => simp at hj

end Go.Vas
