/-
  What code comes to, by relation: operations in a world, lists of them, code, bodies.
-/
import Derived.Test.YtjoepfedeidgaaaGreatV1
import Derived.KernelRfl
import Derived.SizedLaws
import Derived.Test.YtjoepfedeidgaaaGreatProg
import Derived.Lib.Bytealg
import Derived.Laws.Externs
import Derived.DeepKeys4
set_option linter.all false
set_option linter.unusedSectionVars false
namespace Go.Vab
open Go
section
variable {P : Program} {C : Ctx} (T : TTok P C.tt) {E : Gh} {h : Heap} {w : World} (R : RelHeap E h w)
include T R
theorem opW_wp {V : Operand → AV} {a : Act} (hV : ∀ x, VRel E (V x) (a.eval x)) {o : Oper} {K : AV × Heap → Prop} (he : opW P C V h o.op K) {K' : Act → World → Prop} {Q : Exit → Act → World → Prop}
  (hK : ∀ r E' w' x, K r → VRel E' r.1 x → Moves E h w E' r.2 w' → K' (a.put o.dst x) w') : o.wp P a w K' Q := by
 have plain : (∀ c, o.op ≠ .call c) → Evs (evOp C false V h o.op) K → o.wp P a w K' Q := by
  rintro hnc ⟨r, hr, hk⟩
  obtain ⟨E', w', n, x, h1, h2, h3, h4⟩ := evOp_sound T R hV (show evOp C false V h o.op = some (r.1, r.2) from hr) (fun c f hc => absurd hc (hnc c))
  unfold Oper.wp
  rw [h1]
  rcases h2 with rfl | ⟨rfl, rfl⟩
  ·rw [Oper.upon_value]; exact hK r E' w' x hk h3 h4
  ·rw [Oper.upon_skip]; exact hK r E' w' _ hk h3 h4
 cases hop : o.op with
 | call c =>
  rw [hop] at he
  simp only [opW] at he
  cases hc : c.callee with
  | value f =>
   rw [hc] at he
   have hf := hV f
   cases hfv : V f with
   | fn g caps =>
    simp only [hfv] at he
    rw [hfv] at hf
    simp only [VRel] at hf
    obtain ⟨cs, hcs, hr⟩ := hf
    have e : (c.args.toList.map a.eval ++ cs).toArray = c.args.map a.eval ++ cs.toArray := by apply Array.ext'; simp
    rcases he E w _ R (VRc.app _ _ _ _ (VRc.map hV c.args.toList) hr) with ⟨⟨fn, hfn, hname, hbody⟩, hcalls⟩ | ⟨x, w', r, E', h1, h2, h3, h4⟩
    ·unfold Oper.wp
     have hrun : (execOp a.eval o).run P w = .ok (.enter g (c.args.map a.eval ++ cs.toArray)) w := by
      simp only [execOp, hop, resolve, hc, hcs, Deferred.ofValue, Sem.run_bind, Sem.run_pure, Result.andThen_ok, invoke, callFunc, run_program, hfn, hname, hbody, Bool.false_eq_true, if_false, Array.empty_append]
     rw [hrun, Oper.upon_enter, ← e]
     refine hcalls.mono fun en w' hp => ?_
     obtain ⟨r, E', x, h1, rfl, h2, h3⟩ := hp
     exact hK r E' w' x h1 h2 h3
    ·unfold Oper.wp
     have hrun : (execOp a.eval o).run P w = .ok (.value x) w' := by
      simp only [execOp, hop, resolve, hc, hcs, Deferred.ofValue, Sem.run_bind, Sem.run_pure, Result.andThen_ok, invoke, Array.empty_append]
      rw [← e]; exact h1
     rw [hrun, Oper.upon_value]
     exact hK r E' w' x h2 h3 h4
   | _ => simp only [hfv] at he
  | builtin b =>
   rw [hc] at he
   obtain ⟨r, E', w', y, h1, h2, h3, h4⟩ := bW_sound T R (ty := o.type) (consts := c.args.map fun | .const _ => true | _ => false) (makeFunc_rel hV _) he
   unfold Oper.wp
   have hrun : (execOp a.eval o).run P w = .ok (.value y) w' := by
    simp only [execOp, hop, resolve, hc, Sem.run_bind, Sem.run_pure, Result.andThen_ok, invoke]
    have e : (c.args.toList.map a.eval).toArray = c.args.map a.eval := by apply Array.ext'; simp
    rw [e] at h1
    exact h1
   rw [hrun, Oper.upon_value]
   exact hK r E' w' y h2 h3 h4
  | _ => rw [hc] at he; exact he.elim
 | makeMap t r =>
  cases r with
  | some r => exact plain (by rw [hop]; simp) (by rw [hop] at he ⊢; exact he)
  | none =>
   rw [hop] at he
   obtain ⟨r, hr, hk⟩ := he
   obtain ⟨hT, hr⟩ := ifT_some hr
   obtain ⟨E', h1, h2⟩ := mkMap_sound R hr
   unfold Oper.wp
   have hrun : (execOp a.eval o).run P w = .ok (.value (.map (some w.heap.size))) (w.alloc (.map #[] 0)) := by
    simp only [execOp, hop, Option.map_none, Sem.run_bind, Go.RowKit.run_makeMap, Result.andThen_ok, Sem.run_pure]
   rw [hrun, Oper.upon_value]
   exact hK r E' _ _ hk h1 h2
 | lookup t m k ok =>
  cases ok with
  | true => exact plain (by rw [hop]; simp) (by rw [hop] at he ⊢; exact he)
  | false =>
   rw [hop] at he
   obtain ⟨r, hr, hk⟩ := he
   unfold pureV at hr
   obtain ⟨v, hv, e⟩ := bnd_eq_some.1 hr
   cases e
   obtain ⟨hT, hv⟩ := ifT_some hv
   obtain ⟨x, h1, h2⟩ := look_sound R hT (hV m) (hV k) hv
   unfold Oper.wp
   have hrun : (execOp a.eval o).run P w = .ok (.value x) w := by
    simp only [execOp, hop, Sem.run_bind, h1, Result.andThen_ok, Sem.run_pure]
   rw [hrun, Oper.upon_value]
   exact hK _ E w x hk h2 (Moves.refl R)
 | mapUpdate t m k x =>
  rw [hop] at he
  obtain ⟨r, hr, hk⟩ := he
  obtain ⟨hT, hr⟩ := ifT_some hr
  obtain ⟨h0, w', h1, h2⟩ := upd_sound R hT (hV m) (hV k) (hV x) hr
  unfold Oper.wp
  have hrun : (execOp a.eval o).run P w = .ok .skip w' := by
   simp only [execOp, hop, Sem.run_bind, h1, Result.andThen_ok, Sem.run_pure]
  rw [hrun, Oper.upon_skip]
  exact hK r E w' _ hk (by rw [h0]; simp only [VRel]) h2
 | convert f t x =>
  rw [hop] at he
  simp only [opW] at he
  split at he
  ·rename_i hc
   obtain ⟨rfl, _⟩ := hc
   obtain ⟨r, hr, hk⟩ := he
   obtain ⟨⟨e, hf, hu⟩, hr⟩ := ifY_some hr
   obtain ⟨w', h1, h2, h3⟩ := mark_sound R hf hu (hV x) hr
   unfold Oper.wp
   have hrun : (execOp a.eval o).run P w = .ok (.value (a.eval x)) w' := by
    simp only [execOp, hop, Sem.run_bind, h1, Result.andThen_ok, Sem.run_pure]
   rw [hrun, Oper.upon_value]
   exact hK r E w' _ hk (by rw [h2]; exact hV x) h3
  ·exact plain (by rw [hop]; simp) (by rw [hop]; exact he)
 | _ => exact plain (by rw [hop]; simp) (by rw [hop] at he ⊢; exact he)
theorem oneW_wp {ops : Array Oper} {o : Oper} {σ : Nat → AV} {a : Act} (hL : ∀ t, VRel E (σ t) (a.tmps.getD t Go.undef)) {K : AV × Heap → Prop} (he : oneW P C ops.toList o σ h K)
  {K' : Act → World → Prop} {Q : Exit → Act → World → Prop} (hK : ∀ r E' w' x, K r → VRel E' r.1 x → Moves E h w E' r.2 w' → K' (a.put o.dst x) w') :
  if Region.wanted o (yielded ops a.tmps) then o.wp P a w K' Q ∨ (o.asks P a w ∧ LetsOut Q) else K' (a.put o.dst Go.undef) w := by
 have hV := opvF_rel hL
 have skip : K (.undef, h) → K' (a.put o.dst Go.undef) w := fun h1 => hK _ E w _ h1 (by simp only [VRel]) (Moves.refl R)
 cases hg : o.guard with
 | none =>
  simp only [Region.wanted, hg, if_true]
  simp only [oneW, hg] at he
  exact .inl (opW_wp T R hV he hK)
 | some p =>
  obtain ⟨j, want⟩ := p
  simp only [oneW, hg] at he
  cases hd : dstOf ops.toList j with
  | none => rw [hd] at he; exact he.elim
  | some d =>
   rw [hd] at he
   have hy : yielded ops a.tmps j = match a.tmps[d]? with | some (.bool b) => some b | _ => none := by
    unfold dstOf at hd
    rw [Array.getElem?_toList] at hd
    unfold yielded
    cases hj : ops[j]? with
    | none => rw [hj] at hd; cases hd
    | some oj =>
     rw [hj] at hd; simp only at hd; simp only [Option.bind_some, hd]
     cases a.tmps[d]? with
     | none => rfl
     | some z => cases z <;> rfl
   have hl := hL d
   replace he : gW (σ d) want (opW P C (opvF σ) h o.op) h K := he
   unfold gW at he
   split at he
   ·rename_i b hb
    rw [hb] at hl; simp only [VRel] at hl
    have hb2 : a.tmps[d]? = some (.bool b) := by
     rw [Array.getD_eq_getD_getElem?] at hl
     cases hq : a.tmps[d]? with
     | none => rw [hq] at hl; simp [Go.undef] at hl
     | some z => rw [hq] at hl; simp only [Option.getD_some] at hl; rw [hl]
    rw [hb2] at hy
    simp only at hy
    split at he
    ·rename_i hbw
     subst hbw
     simp only [Region.wanted, hg, hy, beq_self_eq_true, if_true]
     exact .inl (opW_wp T R hV he hK)
    ·rename_i hbw
     have : (some b == some want) = false := by simpa using hbw
     simp only [Region.wanted, hg, hy, this, Bool.false_eq_true, if_false]
     exact skip he
   ·rename_i hb
    rw [hb] at hl; simp only [VRel] at hl
    have hyn : yielded ops a.tmps j = none := by
     rw [hy]
     rw [Array.getD_eq_getD_getElem?] at hl
     cases hq : a.tmps[d]? with
     | none => rfl
     | some z => rw [hq] at hl; simp only [Option.getD_some] at hl; rw [hl]; rfl
    simp only [Region.wanted, hg, hyn]
    exact skip he
   ·cases he
end
def opsW (P : Program) (C : Ctx) (ops : List Oper) (k : Env → Heap → Prop) : List Oper → Env → Env → Heap → Prop
 | [], loc, env, h => k (commit C.vol loc env) h
 | o :: os, loc, env, h => oneW P C ops o (look loc env) h fun r => match o.dst with
  | some d => d < C.ntmps ∧ opsW P C ops k os ((d, r.1) :: loc) env r.2
  | none => opsW P C ops k os loc env r.2
theorem opsW_wp {P : Program} {C : Ctx} (T : TTok P C.tt) {ops : Array Oper} {Q : Exit → Act → World → Prop} {k : Env → Heap → Prop} : ∀ (os : List Oper) (loc env : Env) (E : Gh) (h : Heap) (w : World) (a : Act),
  RelHeap E h w → LocR E loc env a → VolFree C.vol env → a.tmps.size = C.ntmps → opsW P C ops.toList k os loc env h →
  (∀ e g E' w' a', k e g → EnvR E' e a' → VolFree C.vol e → Moves E h w E' g w' → a'.defers = a.defers → a'.tmps.size = C.ntmps → Q .normal a' w') → wpList P ops Q os a w
 | [], loc, env, E, h, w, a, R, hL, hv, hn, he, hQ => by
  obtain ⟨h1, h2⟩ := EnvR.commit hL hv
  exact hQ _ h E w a he h1 h2 (Moves.refl R) rfl hn
 | o :: os, loc, env, E, h, w, a, R, hL, hv, hn, he, hQ => by
  simp only [opsW] at he
  unfold wpList
  refine oneW_wp T R hL he (fun r E' w' x hk hx hm => ?_)
  cases hd : o.dst with
  | none =>
   rw [hd] at hk
   exact opsW_wp T os loc env E' r.2 w' _ hm.rel (hL.ext hm.ext) hv hn hk fun e g E'' w'' a'' g0 g1 g2 g3 g4 g5 => hQ e g E'' w'' a'' g0 g1 g2 (hm.trans g3) g4 g5
  | some d =>
   rw [hd] at hk
   obtain ⟨hlt, hk⟩ := hk
   exact opsW_wp T os ((d, r.1) :: loc) env E' r.2 w' _ hm.rel (hL.put hm.ext hx (by rw [hn]; exact hlt)) hv (by rw [Act.put_size]; exact hn) hk fun e g E'' w'' a'' g0 g1 g2 g3 g4 g5 => hQ e g E'' w'' a'' g0 g1 g2 (hm.trans g3) (by rw [g4, Act.put_defers]) g5
theorem opsW_mono {P : Program} {C : Ctx} {ops : List Oper} {k k' : Env → Heap → Prop} (hk : ∀ e g, k e g → k' e g) : ∀ (os : List Oper) (loc env : Env) (h : Heap), opsW P C ops k os loc env h → opsW P C ops k' os loc env h
 | [], _, _, _, h => hk _ _ h
 | o :: os, loc, env, h, he => by
  simp only [opsW] at he ⊢
  refine oneW_mono _ _ (fun r hr => ?_) he
  cases hd : o.dst with
  | none => rw [hd] at hr; exact opsW_mono hk os _ _ _ hr
  | some d => rw [hd] at hr; exact ⟨hr.1, opsW_mono hk os _ _ _ hr.2⟩
def AnyW (P : Program) (C : Ctx) (ops : Array Oper) (q : (Nat → AV) → Heap → Prop) : Nat → Array Bool → (Nat → AV) → Heap → Prop
 | 0, listed, σ, h => readyF ops listed = [] ∧ q σ h
 | n + 1, listed, σ, h => (readyF ops listed = [] → q σ h) ∧ ∀ i ∈ readyF ops listed, ∀ o, ops[i]? = some o →
   oneW P C ops.toList o σ h fun r => (match o.dst with | some d => d < C.ntmps | none => True) ∧ AnyW P C ops q n (listed.setIfInBounds i true) (setF σ o.dst r.1) r.2
theorem anyW_wp {P : Program} {C : Ctx} (T : TTok P C.tt) {ops : Array Oper} {Q : Exit → Act → World → Prop} {q : (Nat → AV) → Heap → Prop} : ∀ (n : Nat) (listed : Array Bool) (σ : Nat → AV) (h : Heap) (E : Gh) (w : World) (a : Act),
  RelHeap E h w → (∀ t, VRel E (σ t) (a.tmps.getD t Go.undef)) → a.tmps.size = C.ntmps → AnyW P C ops q n listed σ h →
  (∀ σ' h' E' w' a', q σ' h' → (∀ t, VRel E' (σ' t) (a'.tmps.getD t Go.undef)) → Moves E h w E' h' w' → a'.defers = a.defers → a'.tmps.size = C.ntmps → Q .normal a' w') → wpAny P .any ops Q n listed a w
 | 0, listed, σ, h, E, w, a, R, hL, hn, he, hQ => by
  simp only [AnyW] at he
  exact ⟨he.1, hQ σ h E w a he.2 hL (Moves.refl R) rfl hn⟩
 | n + 1, listed, σ, h, E, w, a, R, hL, hn, he, hQ => by
  simp only [AnyW] at he
  refine ⟨fun h0 => hQ σ h E w a (he.1 h0) hL (Moves.refl R) rfl hn, fun i hi => ?_⟩
  have hi2 := hi
  unfold wpOp
  cases ho : ops[i]? with
  | none =>
   exfalso
   unfold Region.ready at hi
   rw [List.mem_filter] at hi
   have := List.mem_range.1 hi.1
   rw [Array.getElem?_eq_none_iff] at ho
   omega
  | some o =>
   simp only
   refine oneW_wp T R hL (he.2 i hi2 o ho) (fun r E' w' x hk hx hm => ?_)
   obtain ⟨hlt, hk⟩ := hk
   refine anyW_wp T n _ _ r.2 E' w' _ hm.rel (fun t => ?_) (by rw [Act.put_size]; exact hn) hk fun σ' h' E'' w'' a'' g0 g1 g2 g3 g4 => hQ σ' h' E'' w'' a'' g0 g1 (hm.trans g2) (by rw [g3, Act.put_defers]) g4
   cases hd : o.dst with
   | none => exact VRel.mono hm.ext _ _ (hL t)
   | some d =>
    rw [hd] at hlt
    simp only at hlt
    simp only [setF, updF, Act.put]
    by_cases e : t = d
    ·subst e
     rw [if_pos rfl]
     have : t < a.tmps.size := by rw [hn]; exact hlt
     simpa [Array.getD, this] using hx
    ·rw [if_neg e]
     have e2 : (a.tmps.setIfInBounds d x).getD t Go.undef = a.tmps.getD t Go.undef := by
      simp only [Array.getD_eq_getD_getElem?]
      rw [Array.getElem?_setIfInBounds_ne (fun q => e q.symm)]
     rw [e2]; exact VRel.mono hm.ext _ _ (hL t)
def EndW (C : Ctx) (k : Env → Heap → Prop) (σ : Nat → AV) (h : Heap) : Prop := ∃ e, k e h ∧ VolFree C.vol e ∧ ∀ t, C.vol.contains t = false → σ t = e.get t
def drawW (P : Program) (C : Ctx) (ops : Array Oper) (k : Env → Heap → Prop) (env : Env) (h : Heap) : Prop := VolFree C.vol env → AnyW P C ops (EndW C k) ops.size (Array.replicate ops.size false) env.get h
theorem drawW_wp {P : Program} {C : Ctx} (T : TTok P C.tt) (hm : P.follows .mixedOrders = true) {ops : Array Oper} {Q : Exit → Act → World → Prop} {k : Env → Heap → Prop} {env : Env} {E : Gh} {h : Heap} {w : World} {a : Act} {id : Nat}
  (R : RelHeap E h w) (hL : EnvR E env a) (hv : VolFree C.vol env) (hn : a.tmps.size = C.ntmps) (hok : drawW P C ops k env h)
  (hQ : ∀ e g E' w' a', k e g → EnvR E' e a' → VolFree C.vol e → Moves E h w E' g w' → a'.defers = a.defers → a'.tmps.size = C.ntmps → Q .normal a' w') : (Code.region id ops true).wp P Q a w := by
 refine wp_region_any hm ?_
 have R' : RelHeap E h { w with drawn := w.drawn + 1 } := ⟨R.n, fun i b hb => ⟨(R.at_ i b hb).ver, (R.at_ i b hb).fits, (R.at_ i b hb).mp, (R.at_ i b hb).body, (R.at_ i b hb).grow⟩, R.inj⟩
 refine anyW_wp T ops.size _ env.get h E _ a R' hL hn (hok hv) fun σ' h' E' w' a' hs g1 g2 g3 g4 => ?_
 obtain ⟨e, q0, q1, q2⟩ := hs
 refine hQ e h' E' w' a' q0 (fun t => ?_) q1 ⟨g2.ext, g2.rel, g2.size, g2.keep, g2.img, g2.io.os, g2.io.tape, g2.io.output⟩ g3 g4
 by_cases ht : C.vol.contains t = true
 ·rw [q1 t ht]; simp only [VRel]
 ·have := g1 t
  rw [q2 t (by simpa using ht)] at this
  exact this
def sqW (g : (Ex × St → Prop) → St → Prop) (Q : Ex × St → Prop) (r : Ex × St) : Prop := match r.1 with
 | .nrm => g Q r.2
 | .exit id => Q (.exit id, r.2)
 | .ret => Q (.ret, r.2)
@[simp] theorem sqW_nrm (g : (Ex × St → Prop) → St → Prop) (Q : Ex × St → Prop) (s : St) : sqW g Q (.nrm, s) = g Q s := rfl
@[simp] theorem sqW_exit (g : (Ex × St → Prop) → St → Prop) (Q : Ex × St → Prop) (id : Nat) (s : St) : sqW g Q (.exit id, s) = Q (.exit id, s) := rfl
@[simp] theorem sqW_ret (g : (Ex × St → Prop) → St → Prop) (Q : Ex × St → Prop) (s : St) : sqW g Q (.ret, s) = Q (.ret, s) := rfl
def loopW (g : (Ex × St → Prop) → St → Prop) (Q : Ex × St → Prop) (s : St) : Prop :=
 ∃ (I : Nat → St → Prop) (n : Nat), I n s ∧ ∀ n s, I n s → g (fun r => (r.1 = .nrm ∧ ∃ m, m < n ∧ I m r.2) ∨ (r.1 ≠ .nrm ∧ Q r)) s
def cndW (v : AV) (x y : Prop) : Prop := match v with
 | .bool t => if t = true then x else y
 | _ => False
@[simp] theorem cndW_bool (t : Bool) (x y : Prop) : cndW (.bool t) x y = if t = true then x else y := rfl
def wC (P : Program) (C : Ctx) : Code → (Ex × St → Prop) → St → Prop
 | .skip, Q, s => Q (.nrm, s)
 | .region _ ops false, Q, s => opsW P C ops.toList (fun e g => Q (.nrm, ⟨e, g⟩)) ops.toList [] s.env s.heap
 | .region _ ops true, Q, s => drawW P C ops (fun e g => Q (.nrm, ⟨e, g⟩)) s.env s.heap
 | .seq a b, Q, s => wC P C a (sqW (wC P C b) Q) s
 | .cond c a b, Q, s => cndW (opv [] s.env c) (wC P C a Q s) (wC P C b Q s)
 | .block id c, Q, s => wC P C c (fun r => Q (inBlk id r)) s
 | .loop c, Q, s => loopW (wC P C c) Q s
 | .exit id, Q, s => Q (.exit id, s)
 | .ret, Q, s => Q (.ret, s)
 | _, _, _ => False
def PostW (C : Ctx) (E : Gh) (h : Heap) (w : World) (Q : Ex × St → Prop) (e : Exit) (a' : Act) (w' : World) : Prop :=
 ∃ ex s', Q (ex, s') ∧ Post C E h w ex s' e a' w'
theorem wC_sound {P : Program} {C : Ctx} (T : TTok P C.tt) (hm : P.follows .mixedOrders = true) : ∀ (c : Code) (Q : Ex × St → Prop) (s : St), wC P C c Q s →
  ∀ (E : Gh) (w : World) (a : Act), RelHeap E s.heap w → EnvR E s.env a → VolFree C.vol s.env → a.defers = [] → a.tmps.size = C.ntmps → c.wp P (PostW C E s.heap w Q) a w
 | .skip, Q, s, he, E, w, a, R, hL, hv, hd, hn => wp_skip ⟨.nrm, s, he, rfl, E, Moves.refl R, hL, hv, hd, hn⟩
 | .exit id, Q, s, he, E, w, a, R, hL, hv, hd, hn => wp_exit ⟨.exit id, s, he, rfl, E, Moves.refl R, hL, hv, hd, hn⟩
 | .ret, Q, s, he, E, w, a, R, hL, hv, hd, hn => wp_ret ⟨.ret, s, he, rfl, E, Moves.refl R, hL, hv, hd, hn⟩
 | .region id ops false, Q, s, he, E, w, a, R, hL, hv, hd, hn =>
  wp_region_list (opsW_wp T ops.toList [] s.env E s.heap w a R (fun t => by rw [look_nil]; exact hL t) hv hn he fun e g E' w' a' g0 g1 g2 g3 g4 g5 => ⟨.nrm, ⟨e, g⟩, g0, rfl, E', g3, g1, g2, by rw [g4, hd], g5⟩)
 | .region id ops true, Q, s, he, E, w, a, R, hL, hv, hd, hn =>
  drawW_wp T hm R hL hv hn he fun e g E' w' a' g0 g1 g2 g3 g4 g5 => ⟨.nrm, ⟨e, g⟩, g0, rfl, E', g3, g1, g2, by rw [g4, hd], g5⟩
 | .seq x y, Q, s, he, E, w, a, R, hL, hv, hd, hn => by
  refine wp_seq (wp_mono (wC_sound T hm x _ s he E w a R hL hv hd hn) fun e a' w' hp => ?_)
  obtain ⟨ex, s1, hq, rfl, E', m, g1, g2, g3, g4⟩ := hp
  cases ex with
  | nrm =>
   simp only [Ex.out, Exit.then]
   refine wp_mono (wC_sound T hm y Q s1 hq E' w' a' m.rel g1 g2 g3 g4) fun e2 a2 w2 hq => ?_
   obtain ⟨ex2, s2, q0, q1, E2, q2, q3⟩ := hq
   exact ⟨ex2, s2, q0, q1, E2, m.trans q2, q3⟩
  | exit id => exact ⟨.exit id, s1, hq, rfl, E', m, g1, g2, g3, g4⟩
  | ret => exact ⟨.ret, s1, hq, rfl, E', m, g1, g2, g3, g4⟩
 | .cond c x y, Q, s, he, E, w, a, R, hL, hv, hd, hn => by
  simp only [wC] at he
  unfold cndW at he
  split at he
  ·rename_i t ht
   have hc : a.eval c = .bool t := by
    have := opv_rel (loc := []) (fun t => by rw [look_nil]; exact hL t) c
    rw [ht] at this; simpa only [VRel] using this
   refine wp_cond hc ?_
   cases t
   ·simp only [Bool.false_eq_true, if_false] at he ⊢
    exact wC_sound T hm y Q s he E w a R hL hv hd hn
   ·simp only [if_true] at he ⊢
    exact wC_sound T hm x Q s he E w a R hL hv hd hn
  ·cases he
 | .block id c, Q, s, he, E, w, a, R, hL, hv, hd, hn => by
  refine wp_block (wp_mono (wC_sound T hm c _ s he E w a R hL hv hd hn) fun e a' w' hp => ?_)
  obtain ⟨ex, s1, hq, rfl, E', m, g1, g2, g3, g4⟩ := hp
  cases ex with
  | nrm => exact ⟨.nrm, s1, hq, rfl, E', m, g1, g2, g3, g4⟩
  | ret => exact ⟨.ret, s1, hq, rfl, E', m, g1, g2, g3, g4⟩
  | exit j =>
   simp only [Ex.out, Exit.inBlock]
   by_cases hj : j = id
   ·rw [if_pos hj]
    simp only [inBlk, if_pos hj] at hq
    exact ⟨.nrm, s1, hq, rfl, E', m, g1, g2, g3, g4⟩
   ·rw [if_neg hj]
    simp only [inBlk, if_neg hj] at hq
    exact ⟨.exit j, s1, hq, rfl, E', m, g1, g2, g3, g4⟩
 | .loop c, Q, s, he, E, w, a, R, hL, hv, hd, hn => by
  obtain ⟨I, n, hI, step⟩ := he
  obtain ⟨w0, hw0⟩ : ∃ w0, w0 = w := ⟨w, rfl⟩
  have key : ∀ (n : Nat) (s1 : St) (E1 : Gh) (w1 : World) (a1 : Act), I n s1 → Moves E s.heap w0 E1 s1.heap w1 → EnvR E1 s1.env a1 → VolFree C.vol s1.env → a1.defers = [] → a1.tmps.size = C.ntmps →
    Code.rounds P c (PostW C E s.heap w0 Q) (n + 1) a1 w1 := by
   intro n
   induction n using Nat.strongRecOn with
   | _ n ih =>
    intro s1 E1 w1 a1 hI1 m1 hL1 hv1 hd1 hn1
    rw [rounds_succ]
    refine wp_mono (wC_sound T hm c _ s1 (step n s1 hI1) E1 w1 a1 m1.rel hL1 hv1 hd1 hn1) fun e a' w' hp => ?_
    obtain ⟨ex, s2, hq, rfl, E', m, g1, g2, g3, g4⟩ := hp
    rcases hq with ⟨h1, k, hk, hI2⟩ | ⟨h1, hq⟩
    ·simp only at h1; subst h1
     simp only [Ex.out, Exit.then]
     have := ih k hk s2 E' w' a' hI2 (m1.trans m) g1 g2 g3 g4
     -- fewer rounds are some of more
     have mono : ∀ (j d : Nat) (a : Act) (w : World), Code.rounds P c (PostW C E s.heap w0 Q) j a w → Code.rounds P c (PostW C E s.heap w0 Q) (j + d) a w := by
      intro j
      induction j with
      | zero => intro d a w h; simp only [Code.rounds] at h
      | succ j ihj =>
       intro d a w h
       rw [show j + 1 + d = (j + d) + 1 by omega, rounds_succ]
       rw [rounds_succ] at h
       refine wp_mono h fun e a2 w2 hq => ?_
       cases e <;> simp only [Exit.then] at hq ⊢
       ·exact ihj d a2 w2 hq
       all_goals exact hq
     have := mono (k + 1) (n - (k + 1)) a' w' this
     rwa [show k + 1 + (n - (k + 1)) = n by omega] at this
    ·cases ex with
     | nrm => exact absurd rfl h1
     | exit id => exact ⟨.exit id, s2, hq, rfl, E', m1.trans m, g1, g2, g3, g4⟩
     | ret => exact ⟨.ret, s2, hq, rfl, E', m1.trans m, g1, g2, g3, g4⟩
  have fin := key n s E w a hI (by rw [hw0]; exact Moves.refl R) hL hv hd hn
  rw [hw0] at fin
  exact wp_loop_rounds (n + 1) fin
 | .rangeFunc .., _, _, he, _, _, _, _, _, _, _, _ => he.elim
 | .scope _, _, _, he, _, _, _, _, _, _, _, _ => he.elim
 | .label _, _, _, he, _, _, _, _, _, _, _, _ => he.elim
 | .goto _, _, _, he, _, _, _, _, _, _, _, _ => he.elim
 | .refuse _, _, _, he, _, _, _, _, _, _, _, _ => he.elim
def retW (rs : St → Option (List AV)) (K : AV × Heap → Prop) (r : Ex × St) : Prop := match r.1 with
 | .exit _ => False
 | _ => Evs (rs r.2) fun vs => K (oneOrTuple vs, r.2.heap)
@[simp] theorem retW_nrm (rs : St → Option (List AV)) (K : AV × Heap → Prop) (s : St) : retW rs K (.nrm, s) = Evs (rs s) fun vs => K (oneOrTuple vs, s.heap) := rfl
@[simp] theorem retW_ret (rs : St → Option (List AV)) (K : AV × Heap → Prop) (s : St) : retW rs K (.ret, s) = Evs (rs s) fun vs => K (oneOrTuple vs, s.heap) := rfl
theorem bodyW_sound {P : Program} {C : Ctx} (T : TTok P C.tt) (hm : P.follows .mixedOrders = true) {f : Nat} {fn : Func} {body : Code} (hf : P.funcs[f]? = some fn) (hname : (fn.name == "runtime.NumGoroutine") = false) (hb : fn.body = some body) (hnt : fn.ntmps = C.ntmps)
  {args : List AV} {h : Heap} {K : AV × Heap → Prop} (hvol : (C.vol.all fun t => decide (args.length ≤ t)) = true) (hlen : args.length ≤ C.ntmps)
  (he : wC P C body (retW (fun s => resAll C s fn.results.toList) K) ⟨env0 C args, h⟩) : SpecQ P f args h K := by
 intro E w xs R hxs
 have hxl := VRc.length args xs hxs
 refine .inl ⟨⟨fn, hf, hname, by rw [hb]; rfl⟩, calls_of_wp hf hb ?_⟩
 have hL : EnvR E (env0 C args) { tmps := xs.toArray ++ Array.replicate (fn.ntmps - xs.toArray.size) Go.undef, defers := [] } := by
  intro t
  rw [env0_get, enumFrom_get]
  simp only [Nat.zero_le, if_true, Nat.sub_zero]
  split
  ·rename_i v hv
   obtain ⟨y, hy, hr⟩ := VRc.get args xs t v hxs hv
   have : (xs.toArray ++ Array.replicate (fn.ntmps - xs.toArray.size) Go.undef).getD t Go.undef = y := by
    rw [Array.getD_eq_getD_getElem?, Array.getElem?_append_left (by simp; exact (List.getElem?_eq_some_iff.1 hy).1)]
    simp [hy]
   rw [this]; exact hr
  ·simp only [VRel]
 have hv : VolFree C.vol (env0 C args) := by
  intro t ht
  rw [env0_get, enumFrom_get]
  simp only [Nat.zero_le, if_true, Nat.sub_zero]
  have := (List.all_eq_true.1 hvol) t (by simpa using ht)
  rw [List.getElem?_eq_none (by simpa using this)]
 refine wp_mono (wC_sound T hm body _ _ he E w _ R hL hv rfl (by simp; omega)) fun e a' w' hp => ?_
 obtain ⟨ex, s, hq, rfl, E', m, g1, g2, g3, g4⟩ := hp
 have fin : ∀ vs, resAll C s fn.results.toList = some vs → K (oneOrTuple vs, s.heap) → ∃ x, (results fn a'.tmps).run P w' = .ok x w' ∧ VRel E' (oneOrTuple vs) x := by
  intro vs hvs _
  obtain ⟨ys, q1, q2⟩ := resAll_sound T m.rel g1 fn.results.toList vs hvs
  have hrun : (results fn a'.tmps).run P w' = .ok (if hs : ys.toArray.size = 1 then ys.toArray[0] else .tuple ys.toArray) w' := by
   have e1 : (fn.results.mapM (resFn a'.tmps)).run P w' = .ok ys.toArray w' := by
    rw [Array.mapM_eq_mapM_toList]
    simp [q1]
   have e2 : (results fn a'.tmps).run P w' = ((fn.results.mapM (resFn a'.tmps)).run P w').andThen fun vs w => .ok (if hs : vs.size = 1 then vs[0] else .tuple vs) w := by
    unfold results
    rw [Sem.run_bind]
    rfl
   rw [e2, e1]
   rfl
  refine ⟨_, hrun, ?_⟩
  match vs, ys, q2 with
  | [], ys, q2 => simp only [VRc] at q2; subst q2; simp only [oneOrTuple, VRel]; exact ⟨[], by simp, by simp only [VRc]⟩
  | [v], ys, q2 =>
   simp only [VRc] at q2
   obtain ⟨y, l, rfl, z1, rfl⟩ := q2
   simpa [oneOrTuple] using z1
  | v1 :: v2 :: vs, ys, q2 =>
   have := VRc.length _ _ q2
   have hne : ¬ ys.toArray.size = 1 := by simp at this ⊢; omega
   rw [dif_neg hne]
   simp only [oneOrTuple, VRel]; exact ⟨ys, rfl, q2⟩
 have fin2 : (Evs (resAll C s fn.results.toList) fun vs => K (oneOrTuple vs, s.heap)) → bodyPost P fn (fun e w' => ∃ r E' x, K r ∧ e = .returned x ∧ VRel E' r.1 x ∧ Moves E h w E' r.2 w') .normal a' w' := by
  rintro ⟨vs, h1, h2⟩
  obtain ⟨x, q1, q2⟩ := fin vs h1 h2
  exact ⟨g3, x, q1, _, E', x, h2, rfl, q2, m⟩
 cases ex with
 | exit id => exact hq.elim
 | nrm => exact fin2 hq
 | ret => exact fin2 hq
end Go.Vab

/-
  A statement whose order is open: effects in every order that may be, what is only read as early as may be, with a look whether it stays.
-/
namespace Go.Vab
open Go
theorem opW_congr {P : Program} {C : Ctx} {V V' : Operand → AV} {h : Heap} (op : Op) (hV : ∀ x ∈ op.operands.toList, V x = V' x) : opW P C V h op = opW P C V' h op := by
 cases op with
 | call c =>
  have hargs : c.args.toList.map V = c.args.toList.map V' := List.map_congr_left fun x hx => hV x (by simp only [Op.operands, Call.operands]; split <;> simp <;> simp at hx <;> simp [hx])
  simp only [opW, hargs]
  cases hc : c.callee with
  | value f =>
   have : V f = V' f := hV f (by simp [Op.operands, Call.operands, hc])
   simp only [this]
  | builtin b => rfl
  | _ => rfl
 | makeMap t r =>
  cases r with
  | none => rfl
  | some r => simp only [opW]; rw [evOp_congr _ hV]
 | lookup t m k ok =>
  cases ok with
  | true => simp only [opW]; rw [evOp_congr _ hV]
  | false => simp only [opW]; rw [hV m (by simp [Op.operands]), hV k (by simp [Op.operands])]
 | mapUpdate t m k x => simp only [opW]; rw [hV m (by simp [Op.operands]), hV k (by simp [Op.operands]), hV x (by simp [Op.operands])]
 | convert f t x => simp only [opW]; rw [hV x (by simp [Op.operands]), evOp_congr _ hV]
 | _ => simp only [opW]; rw [evOp_congr _ hV]
theorem oneW_congr {P : Program} {C : Ctx} {ops : List Oper} {o : Oper} {σ τ : Nat → AV} {h : Heap} (hr : ∀ t ∈ reads ops o, σ t = τ t) : oneW P C ops o σ h = oneW P C ops o τ h := by
 have hop : opW P C (opvF σ) h o.op = opW P C (opvF τ) h o.op := opW_congr _ fun x hx => opvF_congr fun t ht => hr t (by
  unfold reads
  refine List.mem_append_left _ (List.mem_filterMap.2 ⟨x, hx, ?_⟩)
  rw [ht])
 unfold oneW
 rw [hop]
 cases hg : o.guard with
 | none => rfl
 | some p =>
  obtain ⟨j, want⟩ := p
  simp only
  cases hd : dstOf ops j with
  | none => rfl
  | some d =>
   simp only
   rw [hr d (by unfold reads; rw [hg]; simp [hd])]
def valW (P : Program) (C : Ctx) (ops : List Oper) (o : Oper) (σ : Nat → AV) (h : Heap) (v : AV) : Prop := oneW P C ops o σ h fun r => r = (v, h)
theorem valW_pure {P : Program} {C : Ctx} {ops : List Oper} {o : Oper} {σ : Nat → AV} {h : Heap} {v : AV} (hk : kindOf false o.op = .pure) (hv : valW P C ops o σ h v) (g : Heap) : valW P C ops o σ g v := by
 have key : ∀ V : Operand → AV, opW P C V h o.op (fun r => r = (v, h)) → opW P C V g o.op fun r => r = (v, g) := by
  intro V hV
  have plain : Evs (evOp C false V h o.op) (fun r => r = (v, h)) → Evs (evOp C false V g o.op) fun r => r = (v, g) := by
   rintro ⟨r, h1, rfl⟩
   exact ⟨(v, g), (evOp_pure (C := C) (q := false) (V := V) o.op hk h v h h1).2 g, rfl⟩
  cases hop : o.op with
  | call c =>
   rw [hop] at hV hk plain
   simp only [opW] at hV ⊢
   simp only [kindOf] at hk
   cases hc : c.callee with
   | value f => rw [hc] at hk; simp at hk
   | builtin b =>
    simp only [hc] at hV hk ⊢
    simp only [evOp, hc] at plain
    cases b <;> simp at hk <;> exact plain hV
   | _ => rw [hc] at hk; simp at hk
  | makeMap t r => rw [hop] at hk; simp [kindOf] at hk
  | lookup t m k ok => rw [hop] at hk; simp [kindOf] at hk
  | mapUpdate t m k x => rw [hop] at hk; simp [kindOf] at hk
  | convert f t x => rw [hop] at hk; simp [kindOf] at hk
  | _ => rw [hop] at hV plain; exact plain hV
 unfold valW oneW at hv ⊢
 cases hg : o.guard with
 | none => rw [hg] at hv; exact key _ hv
 | some p =>
  obtain ⟨j, want⟩ := p
  rw [hg] at hv
  simp only at hv ⊢
  cases hd : dstOf ops j with
  | none => rw [hd] at hv; exact hv.elim
  | some d =>
   rw [hd] at hv
   simp only at hv ⊢
   cases hσ : σ d with
   | bool b =>
    rw [hσ] at hv
    simp only [gW] at hv ⊢
    split at hv
    ·rename_i hb; rw [if_pos hb]; exact key _ hv
    ·rename_i hb; rw [if_neg hb]; cases hv; rfl
   | undef => rw [hσ] at hv; simp only [gW] at hv ⊢; cases hv; rfl
   | _ => rw [hσ] at hv; simp [gW] at hv
def pushL (loc : Env) (d : Option Nat) (v : AV) : Env := match d with
 | some d => (d, v) :: loc
 | none => loc
theorem look_push (loc env : Env) (d : Option Nat) (v : AV) (t : Nat) : look (pushL loc d v) env t = setF (look loc env) d v t := by
 cases d with
 | none => rfl
 | some d => simp only [pushL, look_cons, setF, updF]
def opI (ops : List Oper) (i : Nat) : Oper := match ops[i]? with | some o => o | none => default
def dstLt (C : Ctx) (o : Oper) : Prop := match o.dst with | some d => d < C.ntmps | none => True
section
variable (P : Program) (C : Ctx) (ops : List Oper) (env : Env)
def readsW (h : Heap) (k : Env → Prop) : List Nat → Env → Prop
 | [], loc => k loc
 | p :: ps, loc => ∃ v, valW P C ops (opI ops p) (look loc env) h v ∧ dstLt C (opI ops p) ∧ readsW h k ps (pushL loc (opI ops p).dst v)
def stabW (h : Heap) (loc : Env) : List Nat → Prop
 | [] => True
 | p :: ps => (∃ v, valW P C ops (opI ops p) (look loc env) h v ∧ ∀ d, (opI ops p).dst = some d → look loc env d = v) ∧ stabW h loc ps
def enabled (n : Nat) (eff : List Nat) (bs : List Nat) (S : List Nat) : List Nat := (List.range n).filter fun p => !eff.contains p && eff.all fun e => !bef bs p e || S.contains e
def nextE (eff : List Nat) (bs : List Nat) (S : List Nat) : List Nat := eff.filter fun e => !S.contains e && eff.all fun e' => !bef bs e e' || S.contains e'
def newE (n : Nat) (eff : List Nat) (bs : List Nat) (S : List Nat) (e : Nat) : List Nat := (enabled n eff bs (e :: S)).filter fun p => !(enabled n eff bs S).contains p
def stabE (n : Nat) (eff : List Nat) (bs : List Nat) (S : List Nat) (e : Nat) : List Nat := (enabled n eff bs S).filter fun p => !bef bs e p && !decide (kindOf false (opI ops p).op = .pure)
def allW {α : Type} (f : α → Prop) : List α → Prop
 | [] => True
 | [a] => f a
 | a :: b :: l => f a ∧ allW f (b :: l)
def effW (eff : List Nat) (bs : List Nat) (T : List Nat → Env → Heap → Prop) (S : List Nat) (loc : Env) (h : Heap) (e : Nat) : Prop :=
 oneW P C ops (opI ops e) (look loc env) h fun r => dstLt C (opI ops e) ∧ stabW P C ops env r.2 (pushL loc (opI ops e).dst r.1) (stabE ops ops.length eff bs S e) ∧
  readsW P C ops env r.2 (fun loc' => T (e :: S) loc' r.2) (newE ops.length eff bs S e) (pushL loc (opI ops e).dst r.1)
def treeW (eff : List Nat) (bs : List Nat) (k : Env → Heap → Prop) : Nat → List Nat → Env → Heap → Prop
 | 0, S, loc, h => nextE eff bs S = [] ∧ k (commit C.vol loc env) h
 | n + 1, S, loc, h => match nextE eff bs S with
  | [] => k (commit C.vol loc env) h
  | l => allW (effW P C ops env eff bs (treeW eff bs k n) S loc h) l
end
theorem allW_iff {α : Type} (f : α → Prop) : ∀ l : List α, allW f l ↔ ∀ a ∈ l, f a
 | [] => by simp [allW]
 | [a] => by simp [allW]
 | a :: b :: l => by simp only [allW, allW_iff f (b :: l)]; simp
structure TreeFacts (ops : List Oper) (eff : List Nat) (bs : Nat → Nat → Prop) : Prop where
 lt : ∀ i o, ops[i]? = some o → ∀ e ∈ o.after.toList, Region.binds .any e = true → e.on < i
 up : ∀ i o, ops[i]? = some o → ∀ p, bs i p → p < i ∧ ∃ e ∈ o.after.toList, Region.binds .any e = true ∧ (e.on = p ∨ bs e.on p)
 tr : ∀ i j k, i < ops.length → bs i j → bs j k → bs i k
 rd : ∀ i j, i < ops.length → j < ops.length → i ∉ eff → ∀ d, (opI ops i).dst = some d → d ∈ reads ops (opI ops j) → bs j i
 re : ∀ i j, i < ops.length → j < ops.length → i ≠ j → ∀ d, (opI ops i).dst = some d → d ∈ reads ops (opI ops j) → bs j i ∨ bs i j
 dd : ∀ i j, i < ops.length → j < ops.length → ∀ d, (opI ops i).dst = some d → (opI ops j).dst = some d → i = j
 ef : ∀ e ∈ eff, e < ops.length
section
variable {P : Program} {C : Ctx} {ops : List Oper} {env : Env}
theorem setF_ne {σ : Nat → AV} {d : Option Nat} {v : AV} {t : Nat} (h : d ≠ some t) : setF σ d v t = σ t := by
 cases d with
 | none => rfl
 | some d => simp only [setF, updF]; rw [if_neg]; rintro rfl; exact h rfl
theorem setF_eq {σ : Nat → AV} {d : Nat} {v : AV} : setF σ (some d) v d = v := by simp [setF, updF]
theorem readsW_run {h : Heap} {k : Env → Prop} : ∀ (l : List Nat) (loc : Env), l.Pairwise (· < ·) →
  (∀ p ∈ l, ∀ q ∈ l, p ≤ q → ∀ d, (opI ops q).dst = some d → d ∉ reads ops (opI ops p)) → (∀ p ∈ l, ∀ q ∈ l, p < q → ∀ d, (opI ops q).dst = some d → (opI ops p).dst ≠ some d) →
  readsW P C ops env h k l loc → ∃ loc', k loc' ∧ (∀ t, (∀ p ∈ l, (opI ops p).dst ≠ some t) → look loc' env t = look loc env t) ∧
   ∀ p ∈ l, dstLt C (opI ops p) ∧ ∃ v, valW P C ops (opI ops p) (look loc' env) h v ∧ ∀ d, (opI ops p).dst = some d → look loc' env d = v
 | [], loc, _, _, _, hr => ⟨loc, hr, fun _ _ => rfl, fun p hp => by cases hp⟩
 | p :: ps, loc, hs, hd, hq, hr => by
  obtain ⟨v, hv, hlt, hr⟩ := hr
  rw [List.pairwise_cons] at hs
  have mem := fun q (h : q ∈ ps) => List.mem_cons_of_mem p h
  have self := List.mem_cons_self (a := p) (l := ps)
  obtain ⟨loc', h1, h2, h3⟩ := readsW_run ps _ hs.2 (fun a ha b hb => hd a (mem a ha) b (mem b hb)) (fun a ha b hb => hq a (mem a ha) b (mem b hb)) hr
  refine ⟨loc', h1, fun t ht => ?_, fun q hmq => ?_⟩
  ·rw [h2 t fun q hq => ht q (mem q hq), look_push, setF_ne (ht p self)]
  ·rcases List.mem_cons.1 hmq with rfl | hmq
   ·refine ⟨hlt, v, ?_, fun d hdq => ?_⟩
    ·unfold valW at hv ⊢
     rw [oneW_congr (τ := look loc env)]
     ·exact hv
     ·intro t ht
      rw [h2 t fun b hb hbd => hd q self b (mem b hb) (Nat.le_of_lt (hs.1 b hb)) t hbd ht, look_push, setF_ne]
      exact fun hbd => hd q self q self (Nat.le_refl _) t hbd ht
    ·rw [h2 d fun b hb hbd => hq q self b (mem b hb) (hs.1 b hb) d hbd hdq, look_push, hdq, setF_eq]
   ·exact h3 q hmq
theorem stabW_mem {h : Heap} {loc : Env} : ∀ {l : List Nat}, stabW P C ops env h loc l → ∀ p ∈ l, ∃ v, valW P C ops (opI ops p) (look loc env) h v ∧ ∀ d, (opI ops p).dst = some d → look loc env d = v
 | p :: ps, hs, q, hq => by
  rcases List.mem_cons.1 hq with rfl | hq
  ·exact hs.1
  ·exact stabW_mem hs.2 q hq
theorem enabled_mem {n : Nat} {eff bs S : List Nat} {p : Nat} : p ∈ enabled n eff bs S ↔ p < n ∧ p ∉ eff ∧ ∀ e ∈ eff, bef bs p e = true → e ∈ S := by
 unfold enabled
 simp only [List.mem_filter, List.mem_range, Bool.and_eq_true, Bool.not_eq_true', List.all_eq_true, Bool.or_eq_true, List.contains_eq_mem, decide_eq_true_eq, decide_eq_false_iff_not]
 constructor
 ·rintro ⟨h1, h2, h3⟩
  exact ⟨h1, h2, fun e he hb => by
   rcases h3 e he with h | h
   ·rw [hb] at h; cases h
   ·exact h⟩
 ·rintro ⟨h1, h2, h3⟩
  exact ⟨h1, h2, fun e he => by
   cases hb : bef bs p e
   ·exact .inl rfl
   ·exact .inr (h3 e he hb)⟩
theorem nextE_mem {eff bs S : List Nat} {e : Nat} : e ∈ nextE eff bs S ↔ e ∈ eff ∧ e ∉ S ∧ ∀ e' ∈ eff, bef bs e e' = true → e' ∈ S := by
 unfold nextE
 simp only [List.mem_filter, Bool.and_eq_true, Bool.not_eq_true', List.all_eq_true, Bool.or_eq_true, List.contains_eq_mem, decide_eq_true_eq, decide_eq_false_iff_not]
 constructor
 ·rintro ⟨h1, h2, h3⟩
  exact ⟨h1, h2, fun e' he hb => by
   rcases h3 e' he with h | h
   ·rw [hb] at h; cases h
   ·exact h⟩
 ·rintro ⟨h1, h2, h3⟩
  exact ⟨h1, h2, fun e' he => by
   cases hb : bef bs e e'
   ·exact .inl rfl
   ·exact .inr (h3 e' he hb)⟩
theorem newE_mem {n : Nat} {eff bs S : List Nat} {e p : Nat} : p ∈ newE n eff bs S e ↔ p ∈ enabled n eff bs (e :: S) ∧ p ∉ enabled n eff bs S := by
 unfold newE
 simp only [List.mem_filter, Bool.not_eq_true', List.contains_eq_mem, decide_eq_false_iff_not]
theorem stabE_mem {n : Nat} {eff bs S : List Nat} {e p : Nat} : p ∈ stabE ops n eff bs S e ↔ p ∈ enabled n eff bs S ∧ bef bs e p = false ∧ kindOf false (opI ops p).op ≠ .pure := by
 unfold stabE
 simp only [List.mem_filter, Bool.and_eq_true, Bool.not_eq_true', decide_eq_false_iff_not, ne_eq]
theorem range_filter_lt (n : Nat) (f : Nat → Bool) : ((List.range n).filter f).Pairwise (· < ·) := List.pairwise_lt_range.filter _
theorem opI_get {ops : Array Oper} {i : Nat} {o : Oper} (h : ops[i]? = some o) : opI ops.toList i = o := by
 unfold opI
 rw [Array.getElem?_toList, h]
theorem tree_any {ops : Array Oper} {eff bs : List Nat} (F : TreeFacts ops.toList eff (fun i p => bef bs i p = true)) {k : Env → Heap → Prop} (hv : VolFree C.vol env) : ∀ (fuel : Nat) (listed : Array Bool) (σ : Nat → AV) (h : Heap) (S : List Nat) (loc : Env) (m : Nat),
  listed.size = ops.size → (leftI ops.size listed).length ≤ fuel →
  (∀ e, e ∈ S ↔ e ∈ eff ∧ listed.getD e false = true) → treeW P C ops.toList env eff bs k m S loc h →
  (∀ t, (∃ p, p ∈ enabled ops.size eff bs S ∧ listed.getD p false = false ∧ (opI ops.toList p).dst = some t) ∨ σ t = look loc env t) →
  (∀ p, p ∈ enabled ops.size eff bs S → listed.getD p false = false → dstLt C (opI ops.toList p) ∧ ∃ v, valW P C ops.toList (opI ops.toList p) (look loc env) h v ∧ ∀ d, (opI ops.toList p).dst = some d → look loc env d = v) →
  (∀ i, listed.getD i false = true → i ∈ eff ∨ i ∈ enabled ops.size eff bs S) →
  (∀ i, listed.getD i false = true → ∀ p, bef bs i p = true → listed.getD p false = true) →
  AnyW P C ops (EndW C k) fuel listed σ h := by
 have fin : ∀ (listed : Array Bool) (σ : Nat → AV) (h : Heap) (S : List Nat) (loc : Env) (m : Nat), listed.size = ops.size → readyF ops listed = [] →
   (∀ e, e ∈ S ↔ e ∈ eff ∧ listed.getD e false = true) → treeW P C ops.toList env eff bs k m S loc h →
   (∀ t, (∃ p, p ∈ enabled ops.size eff bs S ∧ listed.getD p false = false ∧ (opI ops.toList p).dst = some t) ∨ σ t = look loc env t) → EndW C k σ h := by
  intro listed σ h S loc m hs hr hS htree hσ
  have all : ∀ i, i < ops.size → listed.getD i false = true := by
   intro i
   induction i using Nat.strongRecOn with
   | _ i ih =>
    intro hi
    cases hc : listed.getD i false with
    | true => rfl
    | false =>
     exfalso
     have : i ∈ readyF ops listed := readyF_mem.2 ⟨hi, by
      have h2 : i < listed.size := by omega
      simpa [Array.getD, h2] using hc, ops[i], Array.getElem?_eq_getElem hi, fun e he hb => by
      have := F.lt i ops[i] (by rw [Array.getElem?_toList]; exact Array.getElem?_eq_getElem hi) e he hb
      exact ih e.on this (by omega)⟩
     rw [hr] at this; cases this
  have hn : nextE eff bs S = [] := by
   rw [List.eq_nil_iff_forall_not_mem]
   intro e he
   obtain ⟨h1, h2, _⟩ := nextE_mem.1 he
   exact h2 ((hS e).2 ⟨h1, all e (by simpa using F.ef e h1)⟩)
  have hk : k (commit C.vol loc env) h := by
   cases m with
   | zero => exact htree.2
   | succ m => simp only [treeW, hn] at htree; exact htree
  refine ⟨_, hk, fun t ht => ?_, fun t ht => ?_⟩
  ·rw [commit_get, if_pos ht]; exact hv t ht
  ·rw [commit_get, if_neg (by simp only [ht]; simp)]
   rcases hσ t with ⟨p, h1, h2, _⟩ | h1
   ·have := all p (enabled_mem.1 h1).1
    rw [this] at h2; cases h2
   ·exact h1
 have noleft : ∀ (listed : Array Bool), listed.size = ops.size → leftI ops.size listed = [] → readyF ops listed = [] := by
  intro listed hs hl
  rw [List.eq_nil_iff_forall_not_mem]
  intro i hi
  obtain ⟨h1, h2, _⟩ := readyF_mem.1 hi
  have : i ∈ leftI ops.size listed := (leftI_mem hs).2 ⟨h1, by
   have h3 : i < listed.size := by omega
   simpa [Array.getD, h3] using h2⟩
  rw [hl] at this; cases this
 intro fuel
 induction fuel with
 | zero =>
  intro listed σ h S loc m hs hl hS htree hσ hval hin hcl
  have hr := noleft listed hs (List.length_eq_zero_iff.1 (Nat.le_zero.1 hl))
  exact ⟨hr, fin listed σ h S loc m hs hr hS htree hσ⟩
 | succ fuel ih =>
  intro listed σ h S loc m hs hl hS htree hσ hval hin hcl
  refine ⟨fun hr => fin listed σ h S loc m hs hr hS htree hσ, fun i hi o ho => ?_⟩
  obtain ⟨h1, h2, o', ho', hafter⟩ := readyF_mem.1 hi
  rw [ho] at ho'; cases ho'
  have hoI := opI_get ho
  have hilt : i < listed.size := by omega
  have hil : i < ops.toList.length := by simpa using h1
  have h2' : listed.getD i false = false := by simpa [Array.getD, hilt] using h2
  have hbs : ∀ p, bef bs i p = true → listed.getD p false = true := by
   intro p hp
   obtain ⟨_, e, he, hb, hor⟩ := F.up i o (by rw [Array.getElem?_toList]; exact ho) p hp
   have hle := hafter e he hb
   rcases hor with rfl | hor
   ·exact hle
   ·exact hcl e.on hle p hor
  have hcl' : ∀ j, (listed.setIfInBounds i true).getD j false = true → ∀ p, bef bs j p = true → (listed.setIfInBounds i true).getD p false = true := by
   intro j hj p hp
   rw [getD_set hilt] at hj ⊢
   split
   ·rfl
   ·split at hj
    ·rename_i e; subst e; exact hbs p hp
    ·exact hcl j hj p hp
  have hleft : (leftI ops.size (listed.setIfInBounds i true)).length ≤ fuel := by
   have hmem : i ∈ leftI ops.size listed := (leftI_mem hs).2 ⟨h1, h2'⟩
   obtain ⟨pre, post, hsplit⟩ := List.append_of_mem hmem
   rw [leftI_set hs h1 hsplit]
   rw [hsplit] at hl
   simp at hl ⊢; omega
  -- what it reads is what the run in the text's order has
  have hread : ∀ t ∈ reads ops.toList o, σ t = look loc env t := by
   intro t ht
   rcases hσ t with ⟨p, g1, g2, g3⟩ | g1
   ·exfalso
    obtain ⟨e1, e2, e3⟩ := enabled_mem.1 g1
    have := F.rd p i (by simpa using e1) hil e2 t g3 (by rw [hoI]; exact ht)
    rw [hbs p this] at g2; cases g2
   ·exact g1
  rw [oneW_congr hread]
  by_cases hie : i ∈ eff
  ·have hiS : i ∉ S := fun hx => by
    have := ((hS i).1 hx).2
    rw [h2'] at this; cases this
   have hnx : i ∈ nextE eff bs S := nextE_mem.2 ⟨hie, hiS, fun e' he' hb => (hS e').2 ⟨he', hbs e' hb⟩⟩
   cases m with
   | zero => rw [htree.1] at hnx; cases hnx
   | succ m =>
   have hstep : oneW P C ops.toList (opI ops.toList i) (look loc env) h fun r => dstLt C (opI ops.toList i) ∧ stabW P C ops.toList env r.2 (pushL loc (opI ops.toList i).dst r.1) (stabE ops.toList ops.toList.length eff bs S i) ∧
     readsW P C ops.toList env r.2 (fun loc' => treeW P C ops.toList env eff bs k m (i :: S) loc' r.2) (newE ops.toList.length eff bs S i) (pushL loc (opI ops.toList i).dst r.1) := by
    simp only [treeW] at htree
    cases hn : nextE eff bs S with
    | nil => rw [hn] at hnx; cases hnx
    | cons a l =>
     rw [hn] at htree hnx
     exact (allW_iff _ _).1 htree i hnx
   rw [hoI] at hstep
   refine oneW_mono _ _ (fun r hr => ?_) hstep
   obtain ⟨hlt, hstab, hreads⟩ := hr
   have hsz : ops.toList.length = ops.size := by simp
   rw [hsz] at hstab hreads
   have enab : ∀ p, p ∈ enabled ops.size eff bs S → p ∈ enabled ops.size eff bs (i :: S) := fun p hp => by
    obtain ⟨e1, e2, e3⟩ := enabled_mem.1 hp
    exact enabled_mem.2 ⟨e1, e2, fun e he hb => List.mem_cons_of_mem _ (e3 e he hb)⟩
   have lt_of : ∀ p q, p < ops.toList.length → bef bs p q = true → q < p := fun p q hp hb => by
    have := F.up p _ (List.getElem?_eq_getElem hp) q hb
    exact this.1
   obtain ⟨loc', hk, hkeep, hvals⟩ := readsW_run (newE ops.size eff bs S i) _ (by unfold newE enabled; exact (range_filter_lt _ _).filter _)
    (fun p hp q hq hpq d hdq hdr => by
     obtain ⟨a1, _⟩ := newE_mem.1 hp
     obtain ⟨b1, _⟩ := newE_mem.1 hq
     obtain ⟨c1, c2, _⟩ := enabled_mem.1 a1
     obtain ⟨d1, d2, _⟩ := enabled_mem.1 b1
     have := F.rd q p (by simpa using d1) (by simpa using c1) d2 d hdq hdr
     have := lt_of p q (by simpa using c1) this
     omega)
    (fun p hp q hq hpq d hdq hdp => by
     obtain ⟨a1, _⟩ := newE_mem.1 hp
     obtain ⟨b1, _⟩ := newE_mem.1 hq
     have := F.dd p q (by simpa using (enabled_mem.1 a1).1) (by simpa using (enabled_mem.1 b1).1) d hdp hdq
     omega) hreads
   refine ⟨hlt, ih (listed.setIfInBounds i true) _ r.2 (i :: S) loc' m (by simpa using hs) hleft ?_ hk ?_ ?_ ?_ hcl'⟩
   ·intro e
    rw [getD_set hilt, List.mem_cons, hS e]
    constructor
    ·rintro (rfl | ⟨g1, g2⟩)
     ·exact ⟨hie, if_pos rfl⟩
     ·exact ⟨g1, by split; rfl; exact g2⟩
    ·rintro ⟨g1, g2⟩
     split at g2
     ·exact .inl (by assumption)
     ·exact .inr ⟨g1, g2⟩
   ·intro t
    by_cases hnew : ∃ p ∈ newE ops.size eff bs S i, (opI ops.toList p).dst = some t
    ·obtain ⟨p, hp, hpt⟩ := hnew
     obtain ⟨a1, a2⟩ := newE_mem.1 hp
     refine .inl ⟨p, a1, ?_, hpt⟩
     rw [getD_set hilt]
     have : p ≠ i := by rintro rfl; exact (enabled_mem.1 a1).2.1 hie
     rw [if_neg this]
     cases hc : listed.getD p false with
     | false => rfl
     | true =>
      rcases hin p hc with h | h
      ·exact absurd h (enabled_mem.1 a1).2.1
      ·exact absurd h a2
    ·have e1 : look loc' env t = setF (look loc env) o.dst r.1 t := by
      rw [hkeep t fun p hp hpt => hnew ⟨p, hp, hpt⟩, look_push]
     by_cases hdt : o.dst = some t
     ·right
      rw [e1, hdt, setF_eq, setF_eq]
     ·rcases hσ t with ⟨p, g1, g2, g3⟩ | g1
      ·refine .inl ⟨p, enab p g1, ?_, g3⟩
       rw [getD_set hilt]
       have : p ≠ i := by rintro rfl; exact (enabled_mem.1 g1).2.1 hie
       rw [if_neg this]; exact g2
      ·right
       rw [e1, setF_ne hdt, setF_ne hdt, g1]
   ·intro p hp hpl
    rw [getD_set hilt] at hpl
    have hpi : p ≠ i := by
     rintro rfl; rw [if_pos rfl] at hpl; cases hpl
    rw [if_neg hpi] at hpl
    by_cases hpn : p ∈ newE ops.size eff bs S i
    ·exact hvals p hpn
    ·have hpS : p ∈ enabled ops.size eff bs S := Classical.byContradiction fun hx => hpn (newE_mem.2 ⟨hp, hx⟩)
     obtain ⟨c1, c2, c3⟩ := enabled_mem.1 hpS
     have hnb : bef bs i p = false := by
      cases hb : bef bs i p with
      | false => rfl
      | true => rw [hbs p hb] at hpl; cases hpl
     obtain ⟨g1, v, g2, g3⟩ := hval p hpS hpl
     have hdp : ∀ d, (opI ops.toList p).dst = some d → look loc' env d = look (pushL loc o.dst r.1) env d := fun d hd => hkeep d fun q hq hqd => by
      obtain ⟨b1, b2⟩ := newE_mem.1 hq
      have := F.dd p q (by simpa using c1) (by simpa using (enabled_mem.1 b1).1) d hd hqd
      subst this
      exact b2 hpS
     have hrp : ∀ t ∈ reads ops.toList (opI ops.toList p), look loc' env t = look (pushL loc o.dst r.1) env t := fun t ht => hkeep t fun q hq hqd => by
      obtain ⟨b1, b2⟩ := newE_mem.1 hq
      obtain ⟨d1, d2, d3⟩ := enabled_mem.1 b1
      have hb := F.rd q p (by simpa using d1) (by simpa using c1) d2 t hqd ht
      exact b2 (enabled_mem.2 ⟨d1, d2, fun e he hqe => c3 e he (F.tr p q e (by simpa using c1) hb hqe)⟩)
     refine ⟨g1, ?_⟩
     by_cases hpure : kindOf false (opI ops.toList p).op = .pure
     ·have hp0 : ∀ t ∈ reads ops.toList (opI ops.toList p), look (pushL loc o.dst r.1) env t = look loc env t := fun t ht => by
       rw [look_push, setF_ne]
       intro hd
       rcases F.re i p hil (by simpa using c1) (fun e => hpi e.symm) t (by rw [hoI]; exact hd) ht with hb | hb
       ·exact hiS (c3 i hie hb)
       ·rw [hnb] at hb; cases hb
      refine ⟨v, ?_, fun d hd => ?_⟩
      ·unfold valW
       rw [oneW_congr fun t ht => (hrp t ht).trans (hp0 t ht)]
       exact valW_pure hpure g2 r.2
      ·rw [hdp d hd, look_push, setF_ne, g3 d hd]
       intro hd2
       exact hpi (F.dd p i (by simpa using c1) hil d hd (by rw [hoI]; exact hd2))
     ·obtain ⟨v', q1, q2⟩ := stabW_mem hstab p (stabE_mem.2 ⟨hpS, hnb, hpure⟩)
      refine ⟨v', ?_, fun d hd => by rw [hdp d hd]; exact q2 d hd⟩
      unfold valW
      rw [oneW_congr hrp]
      exact q1
   ·intro j hj
    rw [getD_set hilt] at hj
    split at hj
    ·rename_i e; subst e; exact .inl hie
    ·exact (hin j hj).imp id (enab j)
  ·have hen : i ∈ enabled ops.size eff bs S := enabled_mem.2 ⟨h1, hie, fun e he hb => (hS e).2 ⟨he, hbs e hb⟩⟩
   obtain ⟨hlt, v, hv1, hv2⟩ := hval i hen h2'
   rw [hoI] at hv1 hv2 hlt
   refine oneW_mono _ _ (fun r hr => ?_) hv1
   subst hr
   refine ⟨hlt, ih (listed.setIfInBounds i true) _ h S loc m (by simpa using hs) hleft ?_ htree ?_ ?_ ?_ hcl'⟩
   ·intro e
    rw [getD_set hilt, hS e]
    constructor
    ·rintro ⟨g1, g2⟩; exact ⟨g1, by split; rfl; exact g2⟩
    ·rintro ⟨g1, g2⟩
     split at g2
     ·rename_i e; subst e; exact absurd g1 hie
     ·exact ⟨g1, g2⟩
   ·intro t
    by_cases hdt : o.dst = some t
    ·right
     rw [hdt, setF_eq, hv2 t hdt]
    ·rcases hσ t with ⟨p, g1, g2, g3⟩ | g1
     ·refine .inl ⟨p, g1, ?_, g3⟩
      rw [getD_set hilt, if_neg]
      ·exact g2
      ·rintro rfl; rw [hoI] at g3; exact hdt g3
     ·right
      show setF σ o.dst v t = _
      rw [setF_ne hdt, g1]
   ·intro p hp hpl
    rw [getD_set hilt] at hpl
    split at hpl
    ·cases hpl
    ·exact hval p hp hpl
   ·intro j hj
    rw [getD_set hilt] at hj
    split at hj
    ·rename_i e; subst e; exact .inr hen
    ·exact hin j hj
theorem draw_tree {ops : Array Oper} {eff bs : List Nat} (F : TreeFacts ops.toList eff (fun i p => bef bs i p = true)) {k : Env → Heap → Prop} {h : Heap}
  (he : readsW P C ops.toList env h (fun loc => treeW P C ops.toList env eff bs k eff.length [] loc h) (enabled ops.toList.length eff bs []) []) : drawW P C ops k env h := by
 intro hv
 have hsz : ops.toList.length = ops.size := by simp
 rw [hsz] at he
 have lt_of : ∀ p q, p < ops.toList.length → bef bs p q = true → q < p := fun p q hp hb => (F.up p _ (List.getElem?_eq_getElem hp) q hb).1
 obtain ⟨loc', hk, hkeep, hvals⟩ := readsW_run (enabled ops.size eff bs []) [] (by unfold enabled; exact range_filter_lt _ _)
  (fun p hp q hq hpq d hdq hdr => by
   obtain ⟨c1, c2, _⟩ := enabled_mem.1 hp
   obtain ⟨d1, d2, _⟩ := enabled_mem.1 hq
   have := F.rd q p (by simpa using d1) (by simpa using c1) d2 d hdq hdr
   have := lt_of p q (by simpa using c1) this
   omega)
  (fun p hp q hq hpq d hdq hdp => by
   have := F.dd p q (by simpa using (enabled_mem.1 hp).1) (by simpa using (enabled_mem.1 hq).1) d hdp hdq
   omega) he
 have none : ∀ i, (Array.replicate ops.size false).getD i false = false := fun i => by
  simp only [Array.getD_eq_getD_getElem?, Array.getElem?_replicate]
  split <;> rfl
 refine tree_any F hv ops.size (Array.replicate ops.size false) env.get h [] loc' eff.length (by simp) ?_ (fun e => by simp [none]) hk (fun t => ?_) (fun p hp _ => hvals p hp) (fun i hi => by rw [none] at hi; cases hi) (fun i hi => by rw [none] at hi; cases hi)
 ·unfold leftI
  refine Nat.le_trans (List.length_filter_le _ _) (by simp)
 ·by_cases hnew : ∃ p ∈ enabled ops.size eff bs [], (opI ops.toList p).dst = some t
  ·obtain ⟨p, hp, hpt⟩ := hnew
   exact .inl ⟨p, hp, none p, hpt⟩
  ·right
   rw [hkeep t fun p hp hpt => hnew ⟨p, hp, hpt⟩, look_nil]
end
end Go.Vab

/-
  The steps of the code's reading, shorter.
-/
namespace Go.Vab
open Go
section
variable {β : Type} {C : Ctx} {q : Bool} {L : List Oper} {k : Env → Heap → Option β} {i : Nat} {loc env : Env} {h : Heap}
end
section
variable {C : Ctx} {n : Code} {s : St} {env : Env} {h : Heap}
theorem xX (id : Nat) (hn : n = .exit id := by kernel_rfl) : evC C n s = some (.exit id, s) := ev_exit id hn
end
end Go.Vab

/-
  How code is read, by relation: a step for each operation.
-/
namespace Go.Vab
open Go
def treeOk (ops : List Oper) (eff bs : List Nat) : Bool :=
 (ops.zipIdx.all fun x => x.1.after.toList.all fun e => !Region.binds .any e || decide (e.on < x.2)) &&
 (ops.zipIdx.all fun x => (List.range ops.length).all fun p => !bef bs x.2 p || x.1.after.toList.any fun e => Region.binds .any e && (decide (e.on = p) || bef bs e.on p)) &&
 ((List.range ops.length).all fun i => (List.range ops.length).all fun j => !bef bs i j || (bs.getD i 0 ||| bs.getD j 0) == bs.getD i 0) &&
 (ops.zipIdx.all fun x => match x.1.dst with
  | none => true
  | some d => ops.zipIdx.all fun y => (!(reads ops y.1).contains d || bef bs y.2 x.2 || (eff.contains x.2 && (decide (x.2 = y.2) || bef bs x.2 y.2))) && (decide (x.2 = y.2) || decide (y.1.dst ≠ some d))) &&
 eff.all fun e => decide (e < ops.length)
theorem opI_of {ops : List Oper} {i : Nat} (h : i < ops.length) : ops[i]? = some (opI ops i) := by
 unfold opI
 rw [List.getElem?_eq_getElem h]
theorem treeOk_facts {ops : List Oper} {eff bs : List Nat} (h : treeOk ops eff bs = true) : TreeFacts ops eff (fun i p => bef bs i p = true) := by
 unfold treeOk at h
 simp only [Bool.and_eq_true] at h
 obtain ⟨⟨⟨⟨h1, h2⟩, h3⟩, h4⟩, h5⟩ := h
 simp only [List.all_eq_true, Bool.or_eq_true, Bool.not_eq_true', decide_eq_true_eq, Prod.forall, List.mem_zipIdx_iff_getElem?, List.mem_range, List.any_eq_true, Bool.and_eq_true] at h1 h2 h3 h4 h5
 have lt : ∀ i p, bef bs i p = true → p < i := fun i p hp => by unfold bef at hp; simp at hp; exact hp.1
 have key : ∀ i j, i < ops.length → j < ops.length → ∀ d, (opI ops i).dst = some d → (d ∉ reads ops (opI ops j) ∨ bef bs j i = true ∨ (i ∈ eff ∧ (i = j ∨ bef bs i j = true))) ∧ (i = j ∨ (opI ops j).dst ≠ some d) := by
  intro i j hi hj d hd
  have := h4 (opI ops i) i (opI_of hi)
  rw [hd] at this
  simp only [List.all_eq_true, Bool.or_eq_true, Bool.not_eq_true', decide_eq_true_eq, Prod.forall, List.mem_zipIdx_iff_getElem?, Bool.and_eq_true, List.contains_eq_mem, decide_eq_false_iff_not] at this
  obtain ⟨g1, g2⟩ := this (opI ops j) j (opI_of hj)
  refine ⟨?_, g2⟩
  rcases g1 with (g | g) | g
  ·exact .inl g
  ·exact .inr (.inl g)
  ·exact .inr (.inr g)
 refine ⟨fun i o ho e he hb => ?_, fun i o ho p hp => ⟨lt i p hp, ?_⟩, fun i j k hi hij hjk => ?_, fun i j hi hj hie d hd hr => ?_, fun i j hi hj hne d hd hr => ?_, fun i j hi hj d hd hd' => ?_, fun e he => h5 e he⟩
 ·rcases h1 o i ho e he with h | h
  ·rw [hb] at h; cases h
  ·exact h
 ·have hil : i < ops.length := (List.getElem?_eq_some_iff.1 ho).1
  rcases h2 o i ho p (Nat.lt_trans (lt i p hp) hil) with h | h
  ·rw [hp] at h; cases h
  ·exact h
 ·rcases h3 i hi j (Nat.lt_trans (lt i j hij) hi) with h | h
  ·rw [hij] at h; cases h
  ·have e := eq_of_beq h
   have l1 := lt i j hij
   have l2 := lt j k hjk
   unfold bef at hjk ⊢
   simp only [Bool.and_eq_true, decide_eq_true_eq] at hjk ⊢
   refine ⟨by omega, ?_⟩
   rw [← e, Nat.testBit_or, hjk.2, Bool.or_true]
 ·rcases (key i j hi hj d hd).1 with h | h | h
  ·exact absurd hr h
  ·exact h
  ·exact absurd h.1 hie
 ·rcases (key i j hi hj d hd).1 with h | h | h
  ·exact absurd hr h
  ·exact .inl h
  ·rcases h.2 with h | h
   ·exact absurd h hne
   ·exact .inr h
 ·rcases (key i j hi hj d hd).2 with h | h
  ·exact h
  ·exact absurd hd' h
def gv (y : AV) (want : Bool) (X : Option AV) : Option AV := match y with
 | .bool b => if b = want then X else some .undef
 | .undef => some .undef
 | _ => none
@[simp] theorem gv_bool (b want : Bool) (X : Option AV) : gv (.bool b) want X = if b = want then X else some .undef := rfl
@[simp] theorem gv_undef (want : Bool) (X : Option AV) : gv .undef want X = some .undef := rfl
@[simp] theorem gW_bool (b want : Bool) (X : (AV × Heap → Prop) → Prop) (h : Heap) (K : AV × Heap → Prop) : gW (.bool b) want X h K = if b = want then X K else K (.undef, h) := rfl
@[simp] theorem gW_undef (want : Bool) (X : (AV × Heap → Prop) → Prop) (h : Heap) (K : AV × Heap → Prop) : gW .undef want X h K = K (.undef, h) := rfl
theorem evs_some {α : Type} (a : α) (K : α → Prop) : Evs (some a) K = K a := propext (Iff.intro (fun ⟨r, h1, h2⟩ => by cases h1; exact h2) (fun h => ⟨a, rfl, h⟩))
theorem evs_pureV (h : Heap) (X : Option AV) (K : AV × Heap → Prop) : Evs (pureV h X) K = Evs X fun v => K (v, h) := by
 cases X with
 | none => exact propext (Iff.intro (fun ⟨r, h1, _⟩ => by cases h1) (fun ⟨r, h1, _⟩ => by cases h1))
 | some a => rw [evs_some]; exact evs_some (a, h) K
theorem gW_pureV (y : AV) (want : Bool) (h : Heap) (X : Option AV) (K : AV × Heap → Prop) : gW y want (Evs (pureV h X)) h K = Evs (gv y want X) fun v => K (v, h) := by
 cases y with
 | bool b =>
  simp only [gW_bool, gv_bool]
  split
  ·exact evs_pureV h X K
  ·rw [evs_some]
 | undef => simp only [gW_undef, gv_undef, evs_some]
 | _ => exact propext (Iff.intro (fun h => h.elim) (fun ⟨r, h1, _⟩ => by cases h1))
def fnW (P : Program) (f : AV) (args : List AV) (h : Heap) : (AV × Heap → Prop) → Prop := match f with
 | .fn g caps => SpecQ P g (args ++ caps) h
 | _ => fun _ => False
@[simp] theorem fnW_fn (P : Program) (g : Nat) (caps args : List AV) (h : Heap) (K : AV × Heap → Prop) : fnW P (.fn g caps) args h K = SpecQ P g (args ++ caps) h K := rfl
section
variable {P : Program} {C : Ctx} {L : List Oper} {k : Env → Heap → Prop} {i : Nat} {loc env : Env} {h : Heap}
theorem w0 {Y : Prop} (h1 : opsW P C L k (List.drop 0 L) [] env h = Y) : opsW P C L k L [] env h = Y := h1
end
def ValW (F : (AV × Heap → Prop) → Prop) (h : Heap) (Y : AV → Prop) : Prop := ∃ v, F (fun r => r = (v, h)) ∧ Y v
def stabP (p rest : Prop) : Prop := p ∧ rest
def bothP (p q : Prop) : Prop := p ∧ q
section
variable {P : Program} {C : Ctx} {L : List Oper} {env : Env} {k : Env → Prop} {p : Nat} {ps : List Nat} {loc : Env} {h : Heap}
theorem rG {y : AV} {want : Bool} {X : Option AV} {Y : AV → Prop} (H : Evs (gv y want X) Y) (d : Nat) (h2 : ∀ v, Y v → readsW P C L env h k ps ((d, v) :: loc)) (hd : (opI L p).dst = some d := by kernel_rfl) (hlt : decide (d < C.ntmps) = true := by kernel_rfl)
  (h1 : oneW P C L (opI L p) (look loc env) h = gW y want (Evs (pureV h X)) h := by kernel_rfl) : readsW P C L env h k (p :: ps) loc := by
 obtain ⟨v, e, hY⟩ := H
 refine ⟨v, ?_, ?_, ?_⟩
 ·unfold valW; rw [h1, gW_pureV, e, evs_some]
 ·unfold dstLt; rw [hd]; exact of_decide_eq_true hlt
 ·unfold pushL; rw [hd]; exact h2 v hY
end
section
variable {P : Program} {C : Ctx} {L : List Oper} {env : Env} {eff bs : List Nat} {k : Env → Heap → Prop} {loc : Env} {h : Heap} {m e : Nat} {S : List Nat}
end
section
variable {P : Program} {C : Ctx} {L : List Oper} {env : Env} {loc : Env} {h : Heap} {p : Nat} {ps : List Nat}
end
section
variable {P : Program} {C : Ctx} {n : Code} {s : St} {env : Env} {h : Heap} {Q : Ex × St → Prop}
def wL (P : Program) (C : Ctx) (n : Code) (Q : Ex × St → Prop) (s : St) : Prop := wC P C n Q s
theorem wL_i {P : Program} {C : Ctx} {n : Code} {Q : Ex × St → Prop} {s : St} (h : wC P C n Q s) : wL P C n Q s := h
theorem yX (id : Nat) (hn : n = .exit id := by kernel_rfl) : wC P C n Q s = Q (.exit id, s) := by subst hn; rfl
end
theorem evs_of {α : Type} {m : Option α} {a : α} {Q : α → Prop} (h : m = some a) (hq : Q a) : Evs m Q := ⟨a, h, hq⟩
theorem stabP_i {p rest : Prop} (h : p) (hr : rest) : stabP p rest := ⟨h, hr⟩
theorem bothP_i {p q : Prop} (h : p) (hr : q) : bothP p q := ⟨h, hr⟩
theorem cndW_T {v : AV} {x y : Prop} (h : v = .bool true) (hx : x) : cndW v x y := by subst h; exact hx
theorem cndW_F {v : AV} {x y : Prop} (h : v = .bool false) (hy : y) : cndW v x y := by subst h; exact hy
theorem gW_do {y : AV} {want : Bool} {X : (AV × Heap → Prop) → Prop} {h : Heap} {K : AV × Heap → Prop} (hy : y = .bool want) (hx : X K) : gW y want X h K := by subst hy; simpa using hx
theorem gW_no {y : AV} {want : Bool} {X : (AV × Heap → Prop) → Prop} {h : Heap} {K : AV × Heap → Prop} (hy : y = .bool (!want)) (hk : K (.undef, h)) : gW y want X h K := by subst hy; cases want <;> simpa using hk
theorem gW_un {y : AV} {want : Bool} {X : (AV × Heap → Prop) → Prop} {h : Heap} {K : AV × Heap → Prop} (hy : y = .undef) (hk : K (.undef, h)) : gW y want X h K := by subst hy; exact hk
theorem ValW_i {F : (AV × Heap → Prop) → Prop} {h : Heap} {Y : AV → Prop} {v : AV} (hF : F fun r => r = (v, h)) (hY : Y v) : ValW F h Y := ⟨v, hF, hY⟩
theorem SpecQ.step {P : Program} {g : Nat} {args : List AV} {h : Heap} {K K' : AV × Heap → Prop} (hs : SpecQ P g args h K) (hK : ∀ r, K r → K' r) : SpecQ P g args h K' := hs.mono hK
theorem loopW_up {g : (Ex × St → Prop) → St → Prop} {Q : Ex × St → Prop} (hg : ∀ Q Q' s, (∀ r, Q r → Q' r) → g Q s → g Q' s) (N : Nat) (I : Nat → St → Prop) (step : ∀ i s, i < N → I i s → g (fun r => (r.1 = .nrm ∧ I (i + 1) r.2) ∨ (r.1 ≠ .nrm ∧ Q r)) s)
  (last : ∀ s, I N s → g (fun r => r.1 ≠ .nrm ∧ Q r) s) {s : St} (h0 : I 0 s) : loopW g Q s := by
 refine ⟨fun n s => ∃ i, i + n = N ∧ I i s, N, ⟨0, by omega, h0⟩, fun n s ⟨i, hi, hs⟩ => ?_⟩
 by_cases h : i < N
 ·refine hg _ _ _ (fun r hr => ?_) (step i s h hs)
  rcases hr with ⟨h1, h2⟩ | h1
  ·exact .inl ⟨h1, n - 1, by omega, i + 1, by omega, h2⟩
  ·exact .inr h1
 ·have : i = N := by omega
  subst this
  exact hg _ _ _ (fun r hr => .inr hr) (last s hs)
end Go.Vab

/-
  Less is told; memory that nobody looks at any more is let go of.
-/
namespace Go.Vab
open Go
theorem AnyW_mono {P : Program} {C : Ctx} {ops : Array Oper} {q q' : (Nat → AV) → Heap → Prop} (hq : ∀ σ h, q σ h → q' σ h) : ∀ (n : Nat) (listed : Array Bool) (σ : Nat → AV) (h : Heap), AnyW P C ops q n listed σ h → AnyW P C ops q' n listed σ h
 | 0, _, _, _, h => ⟨h.1, hq _ _ h.2⟩
 | n + 1, _, _, _, h => ⟨fun h0 => hq _ _ (h.1 h0), fun i hi o ho => oneW_mono _ _ (fun _ hr => ⟨hr.1, AnyW_mono hq n _ _ _ hr.2⟩) (h.2 i hi o ho)⟩
theorem wC_mono {P : Program} {C : Ctx} : ∀ (c : Code) {Q Q' : Ex × St → Prop} {s : St}, (∀ r, Q r → Q' r) → wC P C c Q s → wC P C c Q' s
 | .skip, _, _, _, hQ, h => hQ _ h
 | .exit _, _, _, _, hQ, h => hQ _ h
 | .ret, _, _, _, hQ, h => hQ _ h
 | .region _ _ false, _, _, _, hQ, h => opsW_mono (fun _ _ hk => hQ _ hk) _ _ _ _ h
 | .region _ _ true, _, _, _, hQ, h => fun hv => AnyW_mono (fun _ _ ⟨e, h1, h2⟩ => ⟨e, hQ _ h1, h2⟩) _ _ _ _ (h hv)
 | .seq x y, Q, Q', s, hQ, h => by
  simp only [wC] at h ⊢
  refine wC_mono x (fun r hr => ?_) h
  obtain ⟨ex, s'⟩ := r
  cases ex with
  | nrm => exact wC_mono y hQ hr
  | exit id => exact hQ _ hr
  | ret => exact hQ _ hr
 | .cond c x y, Q, Q', s, hQ, h => by
  simp only [wC] at h ⊢
  unfold cndW at h ⊢
  split at h
  ·split at h
   ·rename_i hb; simp only [hb, if_true]; exact wC_mono x hQ h
   ·rename_i hb; simp only [hb]; exact wC_mono y hQ h
  ·cases h
 | .block id c, Q, Q', s, hQ, h => by
  simp only [wC] at h ⊢
  exact wC_mono c (fun r hr => hQ _ hr) h
 | .loop c, Q, Q', s, hQ, h => by
  obtain ⟨I, n, h0, step⟩ := h
  exact ⟨I, n, h0, fun m s hs => wC_mono c (fun r hr => hr.imp id fun ⟨a, b⟩ => ⟨a, hQ _ b⟩) (step m s hs)⟩
 | .rangeFunc .., _, _, _, _, h => h.elim
 | .scope _, _, _, _, _, h => h.elim
 | .label _, _, _, _, _, h => h.elim
 | .goto _, _, _, _, _, h => h.elim
 | .refuse _, _, _, _, _, h => h.elim
theorem loop_up {P : Program} {C : Ctx} {c : Code} {Q : Ex × St → Prop} (N : Nat) (I : Nat → St → Prop) (step : ∀ i s, i < N → I i s → wC P C c (fun r => (r.1 = .nrm ∧ I (i + 1) r.2) ∨ (r.1 ≠ .nrm ∧ Q r)) s)
  (last : ∀ s, I N s → wC P C c (fun r => r.1 ≠ .nrm ∧ Q r) s) {s : St} (h0 : I 0 s) : loopW (wC P C c) Q s :=
 loopW_up (g := wC P C c) (fun _ _ _ hq h => wC_mono c hq h) N I step last h0
theorem SpecQ.drop {P : Program} {f : Nat} {args : List AV} {h : Heap} {K : AV × Heap → Prop} (hs : SpecQ P f args h K) (K' : AV × Heap → Prop)
  (hK : ∀ r, K r → ∃ h1 t, r.2 = h1 ++ t ∧ h1.length = h.length ∧ (∀ (i : Nat) (b : Blk), h1[i]? = some b → (∃ c : Blk, h[i]? = some c ∧ c.v = b.v) ∨ b.v.under h.length = true) ∧ r.1.under h.length = true ∧ K' (r.1, h1)) : SpecQ P f args h K' := by
 intro E w xs R hxs
 rcases hs E w xs R hxs with ⟨h1, h2⟩ | ⟨x, w', r, E', h1, h2, h3, h4⟩
 ·refine .inl ⟨h1, h2.mono fun e w' hp => ?_⟩
  obtain ⟨r, E', x, g1, rfl, g2, g3⟩ := hp
  obtain ⟨h1, t, e, hl, hb, hv, hk⟩ := hK r g1
  rw [e] at g3
  exact ⟨(r.1, h1), E'.cut h.length, x, hk, rfl, VRel.cut _ _ hv g2, g3.cut R hl hb⟩
 ·obtain ⟨h1', t, e, hl, hb, hv, hk⟩ := hK r h2
  rw [e] at h4
  exact .inr ⟨x, w', (r.1, h1'), E'.cut h.length, h1, hk, VRel.cut _ _ hv h3, h4.cut R hl hb⟩
theorem SpecQ.drop1 {P : Program} {f : Nat} {args : List AV} {h : Heap} {v : AV} (hv : v.under h.length = true) (hs : SpecQ P f args h fun r => ∃ t, r = (v, h ++ t)) : SpecQ P f args h fun r => r = (v, h) :=
 hs.drop _ fun r ⟨t, e⟩ => ⟨h, t, by rw [e], rfl, fun i b hb => .inl ⟨b, hb, rfl⟩, by rw [e]; exact hv, by rw [e]⟩
def SpecA (P : Program) (g : Nat) (args : List AV) (h : Heap) (K : AV × Heap → Prop) : Prop := SpecQ P g args h K
def fnA (P : Program) (f : AV) (args : List AV) (h : Heap) (K : AV × Heap → Prop) : Prop := fnW P f args h K
def appA (t : Ty) (bytes : Nat) (zero s x : AV) (h : Heap) (K : AV × Heap → Prop) : Prop := appW t bytes zero s x h K
theorem SpecA_i {P : Program} {g : Nat} {args args' : List AV} {h : Heap} {K : AV × Heap → Prop} (e : args = args') (hs : SpecQ P g args' h K) : SpecA P g args h K := e ▸ hs
theorem ValA_i {P : Program} {g : Nat} {args args' : List AV} {h h0 : Heap} {Y : AV → Prop} (e : args = args') (hs : ValW (SpecQ P g args' h) h0 Y) : ValW (SpecA P g args h) h0 Y := e ▸ hs
theorem stabA_i {P : Program} {g : Nat} {args args' : List AV} {h : Heap} {K : AV × Heap → Prop} {rest : Prop} (e : args = args') (hs : stabP (SpecQ P g args' h K) rest) : stabP (SpecA P g args h K) rest := e ▸ hs
theorem stab_do {y : AV} {want : Bool} {X : (AV × Heap → Prop) → Prop} {h : Heap} {K : AV × Heap → Prop} {rest : Prop} (e : y = .bool want) (hs : stabP (X K) rest) : stabP (gW y want X h K) rest := ⟨gW_do e hs.1, hs.2⟩
theorem appA_i {t : Ty} {bytes : Nat} {zero s s' x x' : AV} {h : Heap} {K : AV × Heap → Prop} (e : s = s') (e' : x = x') (hs : appW t bytes zero s' x' h K) : appA t bytes zero s x h K := e ▸ e' ▸ hs
theorem ValW_do {y : AV} {want : Bool} {X : (AV × Heap → Prop) → Prop} {h : Heap} {Y : AV → Prop} (e : y = .bool want) (hs : ValW X h Y) : ValW (gW y want X h) h Y := by
 obtain ⟨v, h1, h2⟩ := hs
 exact ⟨v, gW_do e h1, h2⟩
theorem ValW_no {y : AV} {want : Bool} {X : (AV × Heap → Prop) → Prop} {h : Heap} {Y : AV → Prop} (e : y = .bool (!want)) (hs : Y .undef) : ValW (gW y want X h) h Y := ⟨.undef, gW_no e rfl, hs⟩
theorem ValW_un {y : AV} {want : Bool} {X : (AV × Heap → Prop) → Prop} {h : Heap} {Y : AV → Prop} (e : y = .undef) (hs : Y .undef) : ValW (gW y want X h) h Y := ⟨.undef, gW_un e rfl, hs⟩
theorem fnA_i {P : Program} {f : AV} {g : Nat} {caps args : List AV} {h : Heap} {K : AV × Heap → Prop} (e : f = .fn g caps) (hs : SpecA P g (args ++ caps) h K) : fnA P f args h K := by subst e; exact hs
theorem ValA_fn {P : Program} {f : AV} {g : Nat} {caps args : List AV} {h h0 : Heap} {Y : AV → Prop} (e : f = .fn g caps) (hs : ValW (SpecA P g (args ++ caps) h) h0 Y) : ValW (fnA P f args h) h0 Y := by subst e; exact hs
theorem stabA_fn {P : Program} {f : AV} {g : Nat} {caps args : List AV} {h : Heap} {K : AV × Heap → Prop} {rest : Prop} (e : f = .fn g caps) (hs : stabP (SpecA P g (args ++ caps) h K) rest) : stabP (fnA P f args h K) rest := by subst e; exact hs
theorem gv_split {b want : Bool} {X : Option AV} {K : AV → Prop} (h1 : b = want → Evs X K) (h2 : b = (!want) → K .undef) : Evs (gv (.bool b) want X) K := by
 rw [gv_bool]
 split
 ·exact h1 (by assumption)
 ·rename_i h; rw [evs_some]; exact h2 (by cases b <;> cases want <;> simp_all)
theorem gW_split {b want : Bool} {X : (AV × Heap → Prop) → Prop} {h : Heap} {K : AV × Heap → Prop} (h1 : b = want → X K) (h2 : b = (!want) → K (.undef, h)) : gW (.bool b) want X h K := by
 rw [gW_bool]
 split
 ·exact h1 (by assumption)
 ·rename_i h; exact h2 (by cases b <;> cases want <;> simp_all)
theorem cndW_split {b : Bool} {x y : Prop} (h1 : b = true → x) (h2 : b = false → y) : cndW (.bool b) x y := by
 rw [cndW_bool]
 cases b
 ·exact h2 rfl
 ·exact h1 rfl
theorem cndW_splitE {v : AV} {b : Bool} {x y : Prop} (h : v = .bool b) (h1 : b = true → x) (h2 : b = false → y) : cndW v x y := by subst h; exact cndW_split h1 h2
theorem gv_splitE {v : AV} {b want : Bool} {X : Option AV} {K : AV → Prop} (h : v = .bool b) (h1 : b = want → Evs X K) (h2 : b = (!want) → K .undef) : Evs (gv v want X) K := by subst h; exact gv_split h1 h2
theorem gW_splitE {v : AV} {b want : Bool} {X : (AV × Heap → Prop) → Prop} {h : Heap} {K : AV × Heap → Prop} (e : v = .bool b) (h1 : b = want → X K) (h2 : b = (!want) → K (.undef, h)) : gW v want X h K := by subst e; exact gW_split h1 h2
theorem ValW_split {b want : Bool} {F : (AV × Heap → Prop) → Prop} {h : Heap} {Y : AV → Prop} (h1 : b = want → ValW F h Y) (h2 : b = (!want) → Y .undef) : ValW (gW (.bool b) want F h) h Y := by
 by_cases hb : b = want
 ·obtain ⟨v, g1, g2⟩ := h1 hb
  exact ⟨v, by rw [gW_bool, if_pos hb]; exact g1, g2⟩
 ·exact ⟨.undef, by rw [gW_bool, if_neg hb], h2 (by cases b <;> cases want <;> simp_all)⟩
def u32 (x : BitVec 32) : AV := .int .u32 (x.toNat : Int)
section
variable (x y : BitVec 32)
@[simp] theorem hasTy_u32 : hasTy (u32 x) (.int .u32) = true := by simp [hasTy, u32]
@[simp] theorem u32_eql : mBin .eql (u32 x) (u32 y) = some (.bool (decide (x = y))) := by
 simp only [mBin, mBinI, u32, if_true]
 congr 2
 by_cases h : x = y
 ·subst h; simp
 ·have : ¬ ((x.toNat : Int) = (y.toNat : Int)) := fun e => h (BitVec.eq_of_toNat_eq (by omega))
  simp [h, this]
@[simp] theorem u32_neq : mBin .neq (u32 x) (u32 y) = some (.bool (decide (x ≠ y))) := by
 simp only [mBin, mBinI, u32, if_true]
 congr 2
 by_cases h : x = y
 ·subst h; simp
 ·have : ¬ ((x.toNat : Int) = (y.toNat : Int)) := fun e => h (BitVec.eq_of_toNat_eq (by omega))
  simp [h, this]
@[simp] theorem u32_add : mBin .add (u32 x) (u32 y) = some (u32 (x + y)) := by
 simp only [mBin, mBinI, u32, if_true]
 congr 2
@[simp] theorem u32_u64 : mConv .u64 (u32 x) = some (u64 (x.setWidth 64)) := by
 simp only [mConv, u32, u64]
 congr 2
 unfold IntKind.wrap
 have := x.isLt
 simp [IntKind.bits, IntKind.signed]
@[simp] theorem eqv_u32 : eqv (u32 x) (u32 y) = some (decide (x = y)) := by
 simp only [eqv, u32, if_true]
 congr 1
 by_cases h : x = y
 ·subst h; simp
 ·have : ¬ ((x.toNat : Int) = (y.toNat : Int)) := fun e => h (BitVec.eq_of_toNat_eq (by omega))
  simp [h, this]
end
end Go.Vab

/-
  The reading of the arguments again, with the form's own reach beside each slice.
-/
namespace Go.Vas
open Go Go.Vab
def Rd (P : Program) (tt : Nat → Option TI) (h : Heap) : Nat → TypeId → AV → Prop
 | 0, _, _ => False
 | n + 1, t, v => match P.underlying t with
  | some .bool => ∃ b, v = .bool b
  | some (.int k) => ∃ x, v = .int k x ∧ (Lit.int k x).wf = true
  | some .string => ∃ s, v = .str s ∧ s.size ≤ maxLen
  | some (.slice e) => v = .nilslice ∨ ∃ i el row, ∃ m : {m : Vab.Mode // m ≠ Vab.Mode.mp}, ∃ len cap, v = .slice i 0 [] el.ty 0 len (some cap) ∧ tt e = some el ∧ h[i]? = some ⟨row, 0, m.1⟩ ∧ hasTy row (.arr cap el.ty) = true ∧ len ≤ cap ∧ cap ≤ maxLen ∧ len * P.bytesOf e ≤ reachBytes ∧
    ∀ j, j < cap → ∃ x, row.get [j] = some x ∧ Rd P tt h n e x
  | some (.struct fs) => ∃ vs, v = .node vs ∧ ∀ (f : Nat) x, fs[f]? = some x → ∃ y, vs[f]? = some y ∧ Rd P tt h n x.type y
  | some (.array m e) => ∀ j, j < m → ∃ x, v.get [j] = some x ∧ Rd P tt h n e x
  | _ => False
theorem Rd.app {P : Program} {tt : Nat → Option TI} {h : Heap} (l : Heap) : ∀ (n : Nat) (t : TypeId) (v : AV), Rd P tt h n t v → Rd P tt (h ++ l) n t v
 | 0, _, _, hr => hr
 | n + 1, t, v, hr => by
  unfold Rd at hr ⊢
  split at hr
  ·exact hr
  ·exact hr
  ·exact hr
  ·rcases hr with hr | ⟨i, el, row, m, len, cap, h1, h2, h3, h4, h5, h6, hw, h7⟩
   ·exact .inl hr
   ·exact .inr ⟨i, el, row, m, len, cap, h1, h2, by rw [List.getElem?_append_left (List.getElem?_eq_some_iff.1 h3).1]; exact h3, h4, h5, h6, hw, fun j hj => let ⟨x, hx, hy⟩ := h7 j hj; ⟨x, hx, Rd.app l n _ _ hy⟩⟩
  ·obtain ⟨vs, h1, h2⟩ := hr
   exact ⟨vs, h1, fun f x hx => let ⟨y, hy, hz⟩ := h2 f x hx; ⟨y, hy, Rd.app l n _ _ hz⟩⟩
  ·intro j hj
   obtain ⟨x, hx, hy⟩ := hr j hj
   exact ⟨x, hx, Rd.app l n _ _ hy⟩
  ·exact hr
section
variable {H : Type} {enc : TypeId × Value → H} {P : Program} {tt : Nat → Option TI} {ok : List TypeId} {w : World}
theorem mem_weightsAll {e : TypeId} {d : DataW H} : ∀ {l : List (DataW H)}, d ∈ l → ∀ {m : Nat}, m ∈ DataW.weights P e d → m ∈ DataW.weightsAll P e l
 | x :: l, hd, m, hm => by
  simp only [DataW.weightsAll, List.mem_append]
  rcases List.mem_cons.1 hd with rfl | h
  ·exact .inl hm
  ·exact .inr (mem_weightsAll h hm)
theorem mem_weightsEach {d : DataW H} {t : TypeId} : ∀ {ts : List TypeId} {l : List (DataW H)} {i : Nat}, ts[i]? = some t → l[i]? = some d → ∀ {m : Nat}, m ∈ DataW.weights P t d → m ∈ DataW.weightsEach P ts l
 | t' :: ts, x :: l, 0, ht, hd, m, hm => by
  simp at ht hd
  subst ht hd
  simp only [DataW.weightsEach, List.mem_append]
  exact .inl hm
 | t' :: ts, x :: l, i + 1, ht, hd, m, hm => by
  simp only [DataW.weightsEach, List.mem_append]
  exact .inr (mem_weightsEach (i := i) (by simpa using ht) (by simpa using hd) hm)
 | [], _, _, ht, _, _, _ => by simp at ht
 | _ :: _, [], _, _, hd, _, _ => by simp at hd
def Read (P : Program) (tt : Nat → Option TI) (w : World) (n : Nat) (t : TypeId) (cs : List Value) : Prop :=
 ∀ E h, RelHeap E h w → NoOwn E h → ∀ i, tt t = some i → ∃ E' l v, RelHeap E' (h ++ l) w ∧ NoOwn E' (h ++ l) ∧ Ext E E' ∧ VRl E' v cs ∧ hasTy v i.ty = true ∧ Rd P tt (h ++ l) n t v
theorem Read.list {n : Nat} : ∀ (items : List (TypeId × List Value)), (∀ x ∈ items, Read P tt w n x.1 x.2) → (∀ x ∈ items, ∃ i, tt x.1 = some i) →
  ∀ E h, RelHeap E h w → NoOwn E h → ∃ E' l vs, RelHeap E' (h ++ l) w ∧ NoOwn E' (h ++ l) ∧ Ext E E' ∧ VRs E' vs (items.flatMap (·.2)) ∧ vs.length = items.length ∧
   ∀ (j : Nat) x, items[j]? = some x → ∃ v i, vs[j]? = some v ∧ tt x.1 = some i ∧ hasTy v i.ty = true ∧ VRl E' v x.2 ∧ Rd P tt (h ++ l) n x.1 v
 | [], _, _, E, h, R, N => ⟨E, [], [], by simpa using R, by simpa using N, Ext.refl E, by simp [VRs], rfl, fun j x hx => by simp at hx⟩
 | x :: items, hr, ht, E, h, R, N => by
  obtain ⟨i, hi⟩ := ht x (List.mem_cons_self ..)
  obtain ⟨E1, l1, v, R1, N1, X1, V1, T1, D1⟩ := hr x (List.mem_cons_self ..) E h R N i hi
  obtain ⟨E2, l2, vs, R2, N2, X2, V2, L2, D2⟩ := Read.list items (fun y hy => hr y (List.mem_cons_of_mem _ hy)) (fun y hy => ht y (List.mem_cons_of_mem _ hy)) E1 (h ++ l1) R1 N1
  refine ⟨E2, l1 ++ l2, v :: vs, by rw [← List.append_assoc]; exact R2, by rw [← List.append_assoc]; exact N2, X1.trans X2, ?_, by simp [L2], fun j y hy => ?_⟩
  ·rw [List.flatMap_cons]; exact VRs.cons (VRl.mono X2 _ _ V1) V2
  ·rw [← List.append_assoc]
   cases j with
   | zero =>
    simp at hy; subst hy
    exact ⟨v, i, rfl, hi, T1, VRl.mono X2 _ _ V1, Rd.app l2 _ _ _ D1⟩
   | succ j =>
    simp only [List.getElem?_cons_succ] at hy ⊢
    exact D2 j y hy
theorem read_ok (T : TTok P tt) (hok : plainB P tt ok = true) : ∀ (n : Nat) (t : TypeId) (cs : List Value) (x : DataW H × List MemPlace), ok.contains t = true →
  DataW.trod enc P w 0 (fun _ => true) true n t cs = some x → (∀ m ∈ DataW.weights P t x.1, m ≤ reachBytes) → Read P tt w n t cs
 | 0, t, cs, x, _, h, _ => by simp [DataW.trod] at h
 | n + 1, t, cs, x, hm, h, hwt => by
  intro E hp R N i hi
  have hok2 := hok
  simp only [plainB, Bool.and_eq_true, List.all_eq_true] at hok
  have hb := hok.1 t (by simpa using hm)
  unfold plainTypeB at hb
  rw [hi] at hb
  have keep : ∀ v : AV, VRl E v cs → hasTy v i.ty = true → Rd P tt (hp ++ []) (n + 1) t v → ∃ E' l v, RelHeap E' (hp ++ l) w ∧ NoOwn E' (hp ++ l) ∧ Ext E E' ∧ VRl E' v cs ∧ hasTy v i.ty = true ∧ Rd P tt (hp ++ l) (n + 1) t v :=
   fun v h1 h2 h3 => ⟨E, [], v, by simpa using R, by simpa using N, Ext.refl E, h1, h2, h3⟩
  cases hu : P.underlying t with
  | none => rw [hu] at hb; simp at hb
  | some d =>
   rw [hu] at hb
   cases d <;> try (simp only [Bool.false_eq_true] at hb; done)
   case bool =>
    obtain ⟨b, rfl, _⟩ := DataW.trod_bool hu h
    have hty := Ty.beq_eq _ _ hb
    exact keep (.bool b) (by simp only [VRl]) (by rw [hty]; rfl) (by simp only [Rd, hu]; exact ⟨_, rfl⟩)
   case string =>
    obtain ⟨b, rfl, _, hm⟩ := DataW.trod_string hu h
    have hty := Ty.beq_eq _ _ hb
    exact keep (.str b) (by simp only [VRl]) (by rw [hty]; rfl) (by simp only [Rd, hu]; exact ⟨_, rfl, hm⟩)
   case int k =>
    obtain ⟨b, rfl, _, hm⟩ := DataW.trod_int hu h
    have hty := Ty.beq_eq _ _ hb
    exact keep (.int k b) (by simp only [VRl]) (by rw [hty]; simp [hasTy]) (by simp only [Rd, hu]; exact ⟨_, rfl, hm⟩)
   case slice e =>
    simp only [Bool.and_eq_true] at hb
    obtain ⟨⟨hty, he⟩, hoe⟩ := hb
    have hty := Ty.beq_eq _ _ hty
    cases hel : tt e with
    | none => rw [hel] at he; cases he
    | some el =>
     rw [hel] at he
     simp only [Bool.and_eq_true, decide_eq_true_eq] at he
     obtain ⟨hsz, hcz⟩ := he
     rcases DataW.trod_slice hu h with ⟨rfl, _⟩ | ⟨a, len, cap, elems, rest, n', hn, rfl, rfl, _, hl, hmx, hlen, hel1, hel2, _⟩
     ·exact keep .nilslice (by simp only [VRl]) (by rw [hty]; rfl) (by simp only [Rd, hu]; exact .inl trivial)
     ·have hn' : n = n' := by omega
      subst hn'
      have hw0 : ((elems.map (·.1)).length + (rest.map (·.1)).length) * P.bytesOf e ≤ reachBytes := hwt _ (by simp [DataW.weights, hu])
      have hw1 : len * P.bytesOf e ≤ reachBytes := Nat.le_trans (Nat.mul_le_mul_right _ (by simp only [List.length_map]; omega)) hw0
      have hwe : ∀ y ∈ elems ++ rest, ∀ m ∈ DataW.weights P e y.1, m ≤ reachBytes := fun y hy m hm => hwt m (by
       simp only [DataW.weights, hu, List.mem_cons, List.mem_append]
       rcases List.mem_append.1 hy with hy | hy
       ·exact .inr (.inl (mem_weightsAll (List.mem_map_of_mem hy) hm))
       ·exact .inr (.inr (mem_weightsAll (List.mem_map_of_mem hy) hm)))
      have hall : ∀ k, k < cap → ∃ cs' y, w.cells? 0 (a.add (k * P.cellsOf e)) (P.cellsOf e) = some cs' ∧ DataW.trod enc P w 0 (fun _ => true) true n e cs' = some y ∧ y ∈ elems ++ rest := by
       intro k hk
       have key : ∃ y, (w.cells? 0 (a.add (k * P.cellsOf e)) (P.cellsOf e)).bind (DataW.trod enc P w 0 (fun _ => true) true n e) = some y ∧ y ∈ elems ++ rest := by
        by_cases hkl : k < len
        ·exact ⟨elems[k]'(by omega), by rw [hel1 k hkl, List.getElem?_eq_getElem (by omega)], List.mem_append_left _ (List.getElem_mem _)⟩
        ·obtain ⟨h1, h2⟩ := hel2 rfl
         have := h2 (k - len) (by omega)
         rw [show len + (k - len) = k by omega] at this
         exact ⟨rest[k - len]'(by omega), by rw [this, List.getElem?_eq_getElem (by omega)], List.mem_append_right _ (List.getElem_mem _)⟩
       obtain ⟨y, hy, hy2⟩ := key
       obtain ⟨cs', h1, h2⟩ := Option.bind_eq_some_iff.1 hy
       exact ⟨cs', y, h1, h2, hy2⟩
      rw [hcz] at hall
      let f : Nat → List Value := fun k => (w.cells? 0 (a.add (k * el.ty.size)) el.ty.size).getD []
      have hf : ∀ k, k < cap → w.cells? 0 (a.add (k * el.ty.size)) el.ty.size = some (f k) ∧ ∃ y, DataW.trod enc P w 0 (fun _ => true) true n e (f k) = some y ∧ y ∈ elems ++ rest := by
       intro k hk
       obtain ⟨cs', y, h1, h2, h3⟩ := hall k hk
       have : f k = cs' := by simp only [f, h1, Option.getD_some]
       rw [this]
       exact ⟨h1, y, h2, h3⟩
      obtain ⟨E1, l1, vs, R1, N1, X1, V1, L1, D1⟩ := Read.list (P := P) (tt := tt) (w := w) (n := n) ((List.range cap).map fun k => (e, f k))
       (fun y hy => by
        obtain ⟨k, hk, rfl⟩ := List.mem_map.1 hy
        obtain ⟨_, z, hz, hz2⟩ := hf k (List.mem_range.1 hk)
        exact read_ok T hok2 n e (f k) z hoe hz (hwe z hz2))
       (fun y hy => by obtain ⟨k, _, rfl⟩ := List.mem_map.1 hy; exact ⟨el, hel⟩) E hp R N
      rw [List.length_map, List.length_range] at L1
      have hcells : ((List.range cap).map fun k => (e, f k)).flatMap (·.2) = (List.range cap).flatMap f := by rw [List.flatMap_map]
      rw [hcells] at V1
      have helem : ∀ j, j < cap → ∃ v, vs[j]? = some v ∧ hasTy v el.ty = true ∧ Rd P tt (hp ++ l1) n e v := by
       intro j hj
       obtain ⟨v, i', hv, hi', ht, _, hr⟩ := D1 j (e, f j) (by simp [hj])
       rw [hel] at hi'
       simp only [Option.some.injEq] at hi'
       subst hi'
       exact ⟨v, hv, ht, hr⟩
      obtain ⟨W1, W2, W3, W4⟩ := mkRow_spec (u := el.ty) (fun v hv => by
       obtain ⟨j, hj⟩ := List.getElem?_of_mem hv
       obtain ⟨v', hv', ht, _⟩ := helem j (by have := (List.getElem?_eq_some_iff.1 hj).1; omega)
       rw [hj] at hv'
       simp only [Option.some.injEq] at hv'
       rw [hv']; exact ht) V1
      rw [L1] at W2
      have hres : ∀ (m : Vab.Mode) (many : Bool) (ty : Ty), RelHeap (E1.pushAt a.block a.off many ty) ((hp ++ l1) ++ [⟨mkRow el.ty vs, 0, m⟩]) w → NoOwn (E1.pushAt a.block a.off many ty) ((hp ++ l1) ++ [⟨mkRow el.ty vs, 0, m⟩]) →
        (∃ c, ty = .arr c el.ty) → (cap ≠ 0 → a.spot = none) → m ≠ Vab.Mode.mp →
        ∃ E' l v, RelHeap E' (hp ++ l) w ∧ NoOwn E' (hp ++ l) ∧ Ext E E' ∧ VRl E' v [.slice (some a) len cap] ∧ hasTy v i.ty = true ∧ Rd P tt (hp ++ l) (n + 1) t v := by
       intro m many ty R2 N2 ⟨c', hty'⟩ hsp hnm
       refine ⟨E1.pushAt a.block a.off many ty, l1 ++ [⟨mkRow el.ty vs, 0, m⟩], .slice (hp ++ l1).length 0 [] el.ty 0 len (some cap), by rw [← List.append_assoc]; exact R2, by rw [← List.append_assoc]; exact N2,
        X1.trans (Gh.pushAt_ext ..), ?_, by rw [hty]; rfl, ?_⟩
       ·simp only [VRl]
        have hE : (hp ++ l1).length = E1.n := R1.n.symm
        rw [hE]
        refine ⟨a, cap, rfl, by simp [Gh.pushAt], by simp, hl, by simp, by simp, fun _ => ⟨0, c', by simp [Gh.pushAt, hty', Ty.sub], fun hc => ?_, by simp⟩⟩
        have hs := hsp hc
        cases a
        simp only at hs
        simp [Gh.pushAt, hs]
       ·unfold Rd
        rw [hu]
        right
        refine ⟨_, el, mkRow el.ty vs, ⟨m, hnm⟩, len, cap, rfl, hel, ?_, W2, hl, hmx, hw1, fun j hj => ?_⟩
        ·rw [← List.append_assoc, List.getElem?_append_right (Nat.le_refl _)]; simp
        ·obtain ⟨v, hv, _, hr⟩ := helem j hj
         exact ⟨v, by rw [W3, hv], by rw [← List.append_assoc]; exact Rd.app _ _ _ _ hr⟩
      by_cases hc0 : cap = 0
      ·subst hc0
       have hz : vs = [] := List.eq_nil_of_length_eq_zero L1
       obtain ⟨R2, N2⟩ := rel_push R1 N1 ⟨mkRow el.ty vs, 0, Vab.Mode.open⟩ a.block a.off true (.arr 0 el.ty) rfl (by simp only [if_true]; exact ⟨0, el.ty, rfl, W2⟩) W1 (.inr ⟨rfl, rfl, rfl, by rw [W4, L1]⟩)
       exact hres Vab.Mode.open true _ R2 N2 ⟨0, rfl⟩ (fun h => absurd rfl h) (by simp)
      ·obtain ⟨arr, te, fr, pre, post, g1, g2, g3, g4⟩ := rows_block (w := w) (a := a) (Nat.pos_of_ne_zero hsz) (Nat.pos_of_ne_zero hc0) (fun k hk => (hf k hk).1)
       obtain ⟨R2, N2⟩ := rel_push R1 N1 ⟨mkRow el.ty vs, 0, Vab.Mode.ro⟩ a.block a.off false (.arr cap el.ty) rfl (by simpa using W2) W1 (.inl ⟨rfl, arr, te, fr, pre, post, g1, g3, g4⟩)
       exact hres Vab.Mode.ro false _ R2 N2 ⟨cap, rfl⟩ (fun _ => g2) (by simp)
   case struct fs =>
    simp only [Bool.and_eq_true, List.all_eq_true] at hb
    obtain ⟨hty, hfs⟩ := hb
    cases hit : i.ty with
    | struct ts =>
     obtain ⟨fs', hu', hsz, _, hfld⟩ := T.struct t i ts hi hit
     rw [hu] at hu'
     simp only [Option.some.injEq, TypeDesc.struct.injEq] at hu'
     subst hu'
     obtain ⟨xs, n', hn, rfl, hlen, hxl, hx⟩ := DataW.trod_struct hu h
     have hn' : n = n' := by omega
     subst hn'
     have hcell := hok.2 t (by simpa using hm)
     rw [hi] at hcell
     simp only [decide_eq_true_eq] at hcell
     rw [hcell, hit] at hlen
     simp only [Ty.size] at hlen
     have hch := chops ts cs hlen
     have hf : ∀ (f : Nat) (y : Field), fs[f]? = some y → ∃ j, tt y.type = some j ∧ ts[f]? = some j.ty ∧ (cs.drop y.offset).take (P.cellsOf y.type) = (cs.drop (Ty.sizes (ts.take f))).take (match ts[f]? with | some t => t.size | none => 0) ∧ Read P tt w n y.type ((cs.drop y.offset).take (P.cellsOf y.type)) := by
      intro f y hy
      obtain ⟨_, ho, j, hj, htf, _⟩ := hfld f y hy
      have hmem : y ∈ fs.toList := List.mem_of_getElem? (by simpa using hy)
      have h3 := hfs y hmem
      rw [hj] at h3
      simp only [decide_eq_true_eq] at h3
      refine ⟨j, hj, htf, ?_, ?_⟩
      ·rw [ho, h3.2, htf]
      ·have hlt : f < fs.size := (Array.getElem?_eq_some_iff.1 hy).1
       have h4 := hx f y hy
       rw [List.getElem?_eq_getElem (by omega)] at h4
       refine read_ok T hok2 n y.type _ _ h3.1 h4 (fun m hm => hwt m ?_)
       simp only [DataW.weights, hu]
       exact mem_weightsEach (i := f) (by simp [hy]) (by rw [List.getElem?_map, List.getElem?_eq_getElem (by omega)]; rfl) hm
     obtain ⟨E1, l1, vs, R1, N1, X1, V1, L1, D1⟩ := Read.list (P := P) (tt := tt) (w := w) (n := n) (fs.toList.map fun y => (y.type, (cs.drop y.offset).take (P.cellsOf y.type)))
      (fun z hz => by
       obtain ⟨y, hy, rfl⟩ := List.mem_map.1 hz
       obtain ⟨f, hfy⟩ := List.getElem?_of_mem hy
       obtain ⟨j, _, _, _, hr⟩ := hf f y (by simpa using hfy)
       exact hr)
      (fun z hz => by
       obtain ⟨y, hy, rfl⟩ := List.mem_map.1 hz
       obtain ⟨f, hfy⟩ := List.getElem?_of_mem hy
       obtain ⟨j, hj, _⟩ := hf f y (by simpa using hfy)
       exact ⟨j, hj⟩) E hp R N
     rw [List.length_map] at L1
     have L1 : vs.length = fs.size := by rw [L1]; simp
     have hcat : (fs.toList.map fun y => (y.type, (cs.drop y.offset).take (P.cellsOf y.type))).flatMap (·.2) = cs := by
      rw [List.flatMap_map]
      rw [flatMap_of_get (n := ts.length) (f := fun f => (cs.drop (Ty.sizes (ts.take f))).take (match ts[f]? with | some t => t.size | none => 0)) (by simpa using hsz) (fun f y hy => ?_)]
      ·exact hch
      ·obtain ⟨j, _, _, he, _⟩ := hf f y (by simpa using hy)
       exact he
     rw [hcat] at V1
     have hD : ∀ (f : Nat) (y : Field), fs[f]? = some y → ∃ v, ∃ j : TI, vs[f]? = some v ∧ ts[f]? = some j.ty ∧ hasTy v j.ty = true ∧ Rd P tt (hp ++ l1) n y.type v := by
      intro f y hy
      obtain ⟨v, j', hv, hj', ht, _, hr⟩ := D1 f (y.type, (cs.drop y.offset).take (P.cellsOf y.type)) (by rw [List.getElem?_map, Array.getElem?_toList, hy]; rfl)
      obtain ⟨j, hj, htf, _⟩ := hf f y hy
      rw [hj] at hj'
      simp only [Option.some.injEq] at hj'
      subst hj'
      exact ⟨v, j, hv, htf, ht, hr⟩
     refine ⟨E1, l1, .node vs, R1, N1, X1, by simpa only [VRl] using V1, ?_, ?_⟩
     ·simp only [hasTy]
      refine hasTys_of (by omega) (fun f v t' hv ht' => ?_)
      have hlt : f < fs.size := by have := (List.getElem?_eq_some_iff.1 hv).1; omega
      obtain ⟨v', j, hv', htf, ht, _⟩ := hD f fs[f] (Array.getElem?_eq_getElem hlt)
      rw [hv] at hv'; rw [ht'] at htf
      simp only [Option.some.injEq] at hv' htf
      rw [hv', htf]; exact ht
     ·unfold Rd
      rw [hu]
      exact ⟨vs, rfl, fun f y hy => by obtain ⟨v, j, hv, _, _, hr⟩ := hD f y hy; exact ⟨v, hv, hr⟩⟩
    | int k => rw [hit] at hty; cases hty
    | cell => rw [hit] at hty; cases hty
    | arr a b => rw [hit] at hty; cases hty
   case array m e =>
    simp only [Bool.and_eq_true] at hb
    obtain ⟨⟨hty, hoe⟩, hce⟩ := hb
    cases hit : i.ty with
    | arr m' u =>
     obtain ⟨e', el, hu', hel, hjt⟩ := T.arr t i m' u hi hit
     rw [hu] at hu'
     simp only [Option.some.injEq, TypeDesc.array.injEq] at hu'
     obtain ⟨rfl, rfl⟩ := hu'
     rw [hel] at hce
     simp only [decide_eq_true_eq] at hce
     obtain ⟨xs, n', hn, rfl, hlen, hxl, hx⟩ := DataW.trod_array hu h
     have hn' : n = n' := by omega
     subst hn'
     have hcell := hok.2 t (by simpa using hm)
     rw [hi] at hcell
     simp only [decide_eq_true_eq] at hcell
     rw [hcell, hit] at hlen
     simp only [Ty.size] at hlen
     rw [← hjt] at hlen
     have hch := chop el.ty.size m cs hlen
     rw [hce] at hx
     obtain ⟨E1, l1, vs, R1, N1, X1, V1, L1, D1⟩ := Read.list (P := P) (tt := tt) (w := w) (n := n) ((List.range m).map fun k => (e, (cs.drop (k * el.ty.size)).take el.ty.size))
      (fun y hy => by
       obtain ⟨k, hk, rfl⟩ := List.mem_map.1 hy
       have hk := List.mem_range.1 hk
       have h4 := hx k hk
       rw [List.getElem?_eq_getElem (by omega)] at h4
       refine read_ok T hok2 n e _ _ hoe h4 (fun m hm => hwt m ?_)
       simp only [DataW.weights, hu]
       exact mem_weightsAll (List.mem_map_of_mem (List.getElem_mem _)) hm)
      (fun y hy => by obtain ⟨k, _, rfl⟩ := List.mem_map.1 hy; exact ⟨el, hel⟩) E hp R N
     rw [List.length_map, List.length_range] at L1
     rw [List.flatMap_map, hch] at V1
     have helem : ∀ j, j < m → ∃ v, vs[j]? = some v ∧ hasTy v el.ty = true ∧ Rd P tt (hp ++ l1) n e v := by
      intro j hj
      obtain ⟨v, i', hv, hi', ht, _, hr⟩ := D1 j (e, (cs.drop (j * el.ty.size)).take el.ty.size) (by simp [hj])
      rw [hel] at hi'
      simp only [Option.some.injEq] at hi'
      subst hi'
      exact ⟨v, hv, ht, hr⟩
     obtain ⟨W1, W2, W3, W4⟩ := mkRow_spec (u := el.ty) (fun v hv => by
      obtain ⟨j, hj⟩ := List.getElem?_of_mem hv
      obtain ⟨v', hv', ht, _⟩ := helem j (by have := (List.getElem?_eq_some_iff.1 hj).1; omega)
      rw [hj] at hv'
      simp only [Option.some.injEq] at hv'
      rw [hv']; exact ht) V1
     rw [L1] at W2
     refine ⟨E1, l1, mkRow el.ty vs, R1, N1, X1, W1, by rw [← hjt]; exact W2, ?_⟩
     unfold Rd
     rw [hu]
     intro j hj
     obtain ⟨v, hv, _, hr⟩ := helem j hj
     exact ⟨v, by rw [W3, hv], hr⟩
    | int k => rw [hit] at hty; cases hty
    | cell => rw [hit] at hty; cases hty
    | struct b => rw [hit] at hty; cases hty
open Go.RowKit Go.WideShapes Go.ChangeShapes
theorem read_args (T : TTok P tt) (hok : plainB P tt ok = true) {W : World} {base : Nat} : ∀ (ts : List TypeId) (vs : List Value) (ds : List (DataW H)) (ps : List MemPlace), (∀ t ∈ ts, ok.contains t = true) → (∀ t ∈ ts, ∃ i, tt t = some i) →
  DataW.TrodAll enc P W 0 (fun _ => true) true ts vs ds ps → (∀ m ∈ DataW.weightsEach P ts ds, m ≤ reachBytes) → (∀ (j : Nat) t v, ts[j]? = some t → vs[j]? = some v → Value.okWide P W .any base t v) →
  ∀ E h, RelHeap E h W → NoOwn E h → ∃ E' l avs, RelHeap E' (h ++ l) W ∧ NoOwn E' (h ++ l) ∧ Ext E E' ∧ VRc E' avs vs ∧ avs.length = ts.length ∧ ∀ (j : Nat) t a, ts[j]? = some t → avs[j]? = some a → ∃ n i, tt t = some i ∧ hasTy a i.ty = true ∧ Rd P tt (h ++ l) n t a
 | [], [], [], ps, _, _, _, _, _, E, h, R, N => ⟨E, [], [], by simpa using R, by simpa using N, Ext.refl E, by simp [VRc], rfl, fun j t a hj => by simp at hj⟩
 | t :: ts, v :: vs, d :: ds, ps, ho, hi, hr, hwt, hv, E, h, R, N => by
  obtain ⟨p, q, ⟨n, h1⟩, h2, _⟩ := hr
  obtain ⟨i, hti⟩ := hi t (List.mem_cons_self ..)
  obtain ⟨E1, l1, a, R1, N1, X1, V1, T1, D1⟩ := read_ok T hok n t _ _ (ho t (List.mem_cons_self ..)) h1 (fun m hm => hwt m (by simp only [DataW.weightsEach]; exact List.mem_append_left _ hm)) E h R N i hti
  obtain ⟨E2, l2, avs, R2, N2, X2, V2, L2, D2⟩ := read_args T hok ts vs ds q (fun y hy => ho y (List.mem_cons_of_mem _ hy)) (fun y hy => hi y (List.mem_cons_of_mem _ hy)) h2 (fun m hm => hwt m (by simp only [DataW.weightsEach]; exact List.mem_append_right _ hm)) (fun j t v hj hjv => hv (j + 1) t v (by simpa using hj) (by simpa using hjv)) E1 (h ++ l1) R1 N1
  have hval := value_of_cells T hti (hv 0 t v rfl rfl)
  refine ⟨E2, l1 ++ l2, a :: avs, by rw [← List.append_assoc]; exact R2, by rw [← List.append_assoc]; exact N2, X1.trans X2, ?_, by simp [L2], fun j u b hj hb => ?_⟩
  ·simp only [VRc]
   refine ⟨v, vs, rfl, ?_, V2⟩
   rw [hval]
   exact VRel.mono X2 _ _ (VRel.of_cells T1 V1)
  ·rw [← List.append_assoc]
   cases j with
   | zero =>
    simp at hj hb; subst hj; subst hb
    exact ⟨n, i, hti, T1, Rd.app l2 _ _ _ D1⟩
   | succ j => exact D2 j u b (by simpa using hj) (by simpa using hb)
 | [], _ :: _, _, _, _, _, hr, _, _, _, _, _, _ => by simp [DataW.TrodAll] at hr
 | [], [], _ :: _, _, _, _, hr, _, _, _, _, _, _ => by simp [DataW.TrodAll] at hr
 | _ :: _, [], _, _, _, _, hr, _, _, _, _, _, _ => by simp [DataW.TrodAll] at hr
 | _ :: _, _ :: _, [], _, _, _, hr, _, _, _, _, _, _ => by simp [DataW.TrodAll] at hr
end
theorem SpecQ.calls {P : Program} {f : Nat} {fn : Func} {args : List AV} {h : Heap} {K : AV × Heap → Prop} (hs : SpecQ P f args h K) (hf : P.funcs[f]? = some fn) (hb : fn.body.isSome = true) (hn : (fn.name == "runtime.NumGoroutine") = false) :
  ∀ (E : Gh) (w : World) (xs : List Value), RelHeap E h w → VRc E args xs → Calls P f xs.toArray w fun e w' => ∃ r E' x, K r ∧ e = .returned x ∧ VRel E' r.1 x ∧ Moves E h w E' r.2 w' := by
 intro E w xs R V
 rcases hs E w xs R V with ⟨_, h2⟩ | ⟨x, w', r, E', h1, _⟩
 ·exact h2
 ·obtain ⟨c, hc⟩ := Option.isSome_iff_exists.1 hb
  have h3 : fn.name ≠ "runtime.NumGoroutine" := by simpa using hn
  simp [callFunc, hf, h3, hc] at h1
def Handed (P : Program) (tt : Nat → Option TI) (h : Heap) (ts : List TypeId) (avs : List AV) : Prop :=
 avs.length = ts.length ∧ ∀ (j : Nat) t a, ts[j]? = some t → avs[j]? = some a → ∃ n i, tt t = some i ∧ hasTy a i.ty = true ∧ Rd P tt h n t a
theorem law_lifted_sized {C : Checked} {tt : Nat → Option TI} {ok : List TypeId} {os : Os} {f : FuncId} {fn : Func} {s : ChangeSpec} {b : Nat} {H : Type} {enc : TypeId × Value → H} (T : TTok C.prog tt) (hok : plainB C.prog tt ok = true)
  (own : ownKnob C.prog.godebug = none) (hl : laidOutB C.prog = true) (started : os.Started) (noInit : C.prog.inits.idxOf? f = none) (hfn : C.prog.funcs[f]? = some fn) (hvars : s.vars = [])
  (hread : (fn.params.toList.all fun t => C.prog.readableRec t && decide (t < C.prog.types.size) && ok.contains t && (tt t).isSome) = true) (hres : fn.resultTypes = #[b]) (hbool : C.prog.underlying b = some .bool)
  (hs : ∀ ds : List (DataW H), ds.length = fn.params.size → s.fn H ds = { results := [.lit (.bool true)], args := ds })
  (witness : ∃ (w : World) (tape : Tape) (i : Input), w.os = os ∧ (w.forCall tape i).Shaped C.prog ∧ i.vars = [] ∧ Input.okWide C.prog (w.forCall tape i) .any w.heap.size f i ∧
   s.pre6 enc C.prog fn [] false (w.forCall tape i).memory i.args ∧ ({ modest := false } : Assume).holds C.prog (lone (Frame.enter C.prog f i.args .normal) [] (w.forCall tape i)))
  (hbody : fn.body.isSome = true) (hname : (fn.name == "runtime.NumGoroutine") = false)
  (spec : ∀ avs h, Handed C.prog tt h fn.params.toList avs → SpecQ C.prog f avs h fun r => r.1 = .bool true) :
  ReturnsInHanded {} C os f .any (s.pre6 enc C.prog fn [] false) (s.post enc C.prog fn false true false false) := by
 refine returnsInHanded_of_change_sized own started noInit hfn witness ?_
 intro W base args ds gs before hval hW _ hwt _
 simp only [List.all_eq_true, Bool.and_eq_true, decide_eq_true_eq] at hread
 have hW0 := hW
 obtain ⟨p, q, h1, h2, he, hz, hn⟩ := hW
 have hgs : gs = [] := by
  rw [hvars] at h2
  cases gs with
  | nil => rfl
  | cons _ _ => simp [DataW.TrodVars] at h2
 subst hgs
 have hwt' : ∀ m ∈ DataW.weightsEach C.prog fn.params.toList ds, m ≤ reachBytes := by
  have ev : s.plain.varTypes C.prog = [] := by
   unfold DataSpec.varTypes
   simp [ChangeSpec.plain, hvars]
  rw [ev, List.append_nil, List.append_nil] at hwt
  simpa using hwt
 obtain ⟨E, l, avs, R, N, X, V, L, D⟩ := read_args T hok fn.params.toList args.toList ds p (fun t ht => (hread t ht).1.2) (fun t ht => Option.isSome_iff_exists.1 (hread t ht).2) h1 hwt' (fun j t v hj hv => hval j t v (by simpa using hj) (by simpa using hv)) E00 [] (rel00 W) (fun i b hb => by simp at hb)
 simp only [List.nil_append] at R N D
 have hsp := SpecQ.calls (spec avs l ⟨L, D⟩) hfn hbody hname
 have hlen : ds.length = fn.params.size := by
  have : ∀ (ts : List TypeId) (vs : List Value) (ds : List (DataW H)) (ps : List MemPlace), DataW.TrodAll enc C.prog W 0 (fun _ => true) true ts vs ds ps → ds.length = ts.length := by
   intro ts
   induction ts with
   | nil =>
    intro vs ds ps h
    cases vs <;> cases ds <;> simp [DataW.TrodAll] at h ⊢
   | cons t ts ih =>
    intro vs ds ps h
    cases vs <;> cases ds <;> simp only [DataW.TrodAll] at h
    obtain ⟨_, _, _, h, _⟩ := h
    simp [ih _ _ _ h]
  rw [this _ _ _ _ h1]; simp
 have hc := hsp E W args.toList R V
 simp only [Array.toArray_toList] at hc
 refine hc.mono fun e W' hp => ?_
 obtain ⟨⟨rv, h'⟩, E', x, hrv, rfl, hx, m⟩ := hp
 dsimp only at hrv hx m
 subst hrv
 simp only [VRel] at hx
 subst hx
 exact ⟨_, rfl, post_true hl hvars (fun t ht => (hread t ht).1.1) hres hbool (hs ds hlen) hW0 (below_of_moves N m)⟩
end Go.Vas

/- The struct types of the seats. Printed by wip/tools/gen2.py (own work). -/
namespace Go.Vab
open Go
def tPublic : Ty := (.struct [(.arr 32 (.int .u8)), (.arr 32 (.int .u8))])
@[simp] theorem hasTy_tPublic (vs : List AV) : hasTy (.node vs) tPublic = hasTys vs [(.arr 32 (.int .u8)), (.arr 32 (.int .u8))] := rfl
@[simp] theorem size_tPublic : Ty.size tPublic = 64 := by rfl
@[simp] theorem mEq_tPublic (op : BinOp) (x y : AV) : mEq tPublic op x y = if hasTy x tPublic && hasTy y tPublic then (match op with | .eql => bnd (eqv x y) fun b => some (.bool b) | .neq => bnd (eqv x y) fun b => some (.bool !b) | _ => none) else none := rfl
@[simp] theorem hasTy_row_tPublic (vs : List AV) (n : Nat) : hasTy (.node vs) (.arr n tPublic) = (decide (vs.length = n) && hasTyAll vs tPublic) := rfl
@[simp] theorem mField_tPublic_0 (vs : List AV) : mField tPublic (.node vs) 0 = if hasTys vs [(.arr 32 (.int .u8)), (.arr 32 (.int .u8))] then vs[0]? else none := rfl
@[simp] theorem mField_tPublic_1 (vs : List AV) : mField tPublic (.node vs) 1 = if hasTys vs [(.arr 32 (.int .u8)), (.arr 32 (.int .u8))] then vs[1]? else none := rfl
def tAccess : Ty := (.struct [(.int .u8), (.int .u8), (.int .u8)])
@[simp] theorem hasTy_tAccess (vs : List AV) : hasTy (.node vs) tAccess = hasTys vs [(.int .u8), (.int .u8), (.int .u8)] := rfl
@[simp] theorem size_tAccess : Ty.size tAccess = 3 := by rfl
@[simp] theorem mEq_tAccess (op : BinOp) (x y : AV) : mEq tAccess op x y = if hasTy x tAccess && hasTy y tAccess then (match op with | .eql => bnd (eqv x y) fun b => some (.bool b) | .neq => bnd (eqv x y) fun b => some (.bool !b) | _ => none) else none := rfl
@[simp] theorem hasTy_row_tAccess (vs : List AV) (n : Nat) : hasTy (.node vs) (.arr n tAccess) = (decide (vs.length = n) && hasTyAll vs tAccess) := rfl
@[simp] theorem mFieldAddr_tAccess_0 (b ver : Nat) (path : List Nat) : mFieldAddr tAccess (.ptr b ver path tAccess) 0 = some (.ptr b ver (path ++ [0]) (.int .u8)) := by simp [mFieldAddr, tAccess]
@[simp] theorem mField_tAccess_0 (vs : List AV) : mField tAccess (.node vs) 0 = if hasTys vs [(.int .u8), (.int .u8), (.int .u8)] then vs[0]? else none := rfl
@[simp] theorem mFieldAddr_tAccess_1 (b ver : Nat) (path : List Nat) : mFieldAddr tAccess (.ptr b ver path tAccess) 1 = some (.ptr b ver (path ++ [1]) (.int .u8)) := by simp [mFieldAddr, tAccess]
@[simp] theorem mField_tAccess_1 (vs : List AV) : mField tAccess (.node vs) 1 = if hasTys vs [(.int .u8), (.int .u8), (.int .u8)] then vs[1]? else none := rfl
@[simp] theorem mFieldAddr_tAccess_2 (b ver : Nat) (path : List Nat) : mFieldAddr tAccess (.ptr b ver path tAccess) 2 = some (.ptr b ver (path ++ [2]) (.int .u8)) := by simp [mFieldAddr, tAccess]
@[simp] theorem mField_tAccess_2 (vs : List AV) : mField tAccess (.node vs) 2 = if hasTys vs [(.int .u8), (.int .u8), (.int .u8)] then vs[2]? else none := rfl
def tState : Ty := (.struct [(.int .u32), tPublic, .cell, tAccess, .cell, .cell, .cell, .cell, .cell])
@[simp] theorem hasTy_tState (vs : List AV) : hasTy (.node vs) tState = hasTys vs [(.int .u32), tPublic, .cell, tAccess, .cell, .cell, .cell, .cell, .cell] := rfl
@[simp] theorem size_tState : Ty.size tState = 74 := by rfl
@[simp] theorem mEq_tState (op : BinOp) (x y : AV) : mEq tState op x y = if hasTy x tState && hasTy y tState then (match op with | .eql => bnd (eqv x y) fun b => some (.bool b) | .neq => bnd (eqv x y) fun b => some (.bool !b) | _ => none) else none := rfl
@[simp] theorem hasTy_row_tState (vs : List AV) (n : Nat) : hasTy (.node vs) (.arr n tState) = (decide (vs.length = n) && hasTyAll vs tState) := rfl
@[simp] theorem mFieldAddr_tState_0 (b ver : Nat) (path : List Nat) : mFieldAddr tState (.ptr b ver path tState) 0 = some (.ptr b ver (path ++ [0]) (.int .u32)) := by simp [mFieldAddr, tState]
@[simp] theorem mField_tState_0 (vs : List AV) : mField tState (.node vs) 0 = if hasTys vs [(.int .u32), tPublic, .cell, tAccess, .cell, .cell, .cell, .cell, .cell] then vs[0]? else none := rfl
@[simp] theorem mFieldAddr_tState_1 (b ver : Nat) (path : List Nat) : mFieldAddr tState (.ptr b ver path tState) 1 = some (.ptr b ver (path ++ [1]) tPublic) := by simp [mFieldAddr, tState]
@[simp] theorem mField_tState_1 (vs : List AV) : mField tState (.node vs) 1 = if hasTys vs [(.int .u32), tPublic, .cell, tAccess, .cell, .cell, .cell, .cell, .cell] then vs[1]? else none := rfl
@[simp] theorem mFieldAddr_tState_2 (b ver : Nat) (path : List Nat) : mFieldAddr tState (.ptr b ver path tState) 2 = some (.ptr b ver (path ++ [2]) .cell) := by simp [mFieldAddr, tState]
@[simp] theorem mField_tState_2 (vs : List AV) : mField tState (.node vs) 2 = if hasTys vs [(.int .u32), tPublic, .cell, tAccess, .cell, .cell, .cell, .cell, .cell] then vs[2]? else none := rfl
@[simp] theorem mFieldAddr_tState_3 (b ver : Nat) (path : List Nat) : mFieldAddr tState (.ptr b ver path tState) 3 = some (.ptr b ver (path ++ [3]) tAccess) := by simp [mFieldAddr, tState]
@[simp] theorem mField_tState_3 (vs : List AV) : mField tState (.node vs) 3 = if hasTys vs [(.int .u32), tPublic, .cell, tAccess, .cell, .cell, .cell, .cell, .cell] then vs[3]? else none := rfl
@[simp] theorem mFieldAddr_tState_4 (b ver : Nat) (path : List Nat) : mFieldAddr tState (.ptr b ver path tState) 4 = some (.ptr b ver (path ++ [4]) .cell) := by simp [mFieldAddr, tState]
@[simp] theorem mField_tState_4 (vs : List AV) : mField tState (.node vs) 4 = if hasTys vs [(.int .u32), tPublic, .cell, tAccess, .cell, .cell, .cell, .cell, .cell] then vs[4]? else none := rfl
@[simp] theorem mFieldAddr_tState_5 (b ver : Nat) (path : List Nat) : mFieldAddr tState (.ptr b ver path tState) 5 = some (.ptr b ver (path ++ [5]) .cell) := by simp [mFieldAddr, tState]
@[simp] theorem mField_tState_5 (vs : List AV) : mField tState (.node vs) 5 = if hasTys vs [(.int .u32), tPublic, .cell, tAccess, .cell, .cell, .cell, .cell, .cell] then vs[5]? else none := rfl
@[simp] theorem mFieldAddr_tState_6 (b ver : Nat) (path : List Nat) : mFieldAddr tState (.ptr b ver path tState) 6 = some (.ptr b ver (path ++ [6]) .cell) := by simp [mFieldAddr, tState]
@[simp] theorem mField_tState_6 (vs : List AV) : mField tState (.node vs) 6 = if hasTys vs [(.int .u32), tPublic, .cell, tAccess, .cell, .cell, .cell, .cell, .cell] then vs[6]? else none := rfl
@[simp] theorem mFieldAddr_tState_7 (b ver : Nat) (path : List Nat) : mFieldAddr tState (.ptr b ver path tState) 7 = some (.ptr b ver (path ++ [7]) .cell) := by simp [mFieldAddr, tState]
@[simp] theorem mField_tState_7 (vs : List AV) : mField tState (.node vs) 7 = if hasTys vs [(.int .u32), tPublic, .cell, tAccess, .cell, .cell, .cell, .cell, .cell] then vs[7]? else none := rfl
@[simp] theorem mFieldAddr_tState_8 (b ver : Nat) (path : List Nat) : mFieldAddr tState (.ptr b ver path tState) 8 = some (.ptr b ver (path ++ [8]) .cell) := by simp [mFieldAddr, tState]
@[simp] theorem mField_tState_8 (vs : List AV) : mField tState (.node vs) 8 = if hasTys vs [(.int .u32), tPublic, .cell, tAccess, .cell, .cell, .cell, .cell, .cell] then vs[8]? else none := rfl
def tCipher : Ty := (.struct [(.arr 32 (.int .u8)), (.arr 32 (.int .u8))])
theorem tCipher_x : tCipher = (.struct [(.arr 32 (.int .u8)), (.arr 32 (.int .u8))]) := rfl
@[simp] theorem hasTy_tCipher (vs : List AV) : hasTy (.node vs) tCipher = hasTys vs [(.arr 32 (.int .u8)), (.arr 32 (.int .u8))] := rfl
@[simp] theorem size_tCipher : Ty.size tCipher = 64 := by rfl
@[simp] theorem mEq_tCipher (op : BinOp) (x y : AV) : mEq tCipher op x y = if hasTy x tCipher && hasTy y tCipher then (match op with | .eql => bnd (eqv x y) fun b => some (.bool b) | .neq => bnd (eqv x y) fun b => some (.bool !b) | _ => none) else none := rfl
@[simp] theorem hasTy_row_tCipher (vs : List AV) (n : Nat) : hasTy (.node vs) (.arr n tCipher) = (decide (vs.length = n) && hasTyAll vs tCipher) := rfl
@[simp] theorem mFieldAddr_tCipher_0 (b ver : Nat) (path : List Nat) : mFieldAddr tCipher (.ptr b ver path tCipher) 0 = some (.ptr b ver (path ++ [0]) (.arr 32 (.int .u8))) := by simp [mFieldAddr, tCipher]
@[simp] theorem mField_tCipher_0 (vs : List AV) : mField tCipher (.node vs) 0 = if hasTys vs [(.arr 32 (.int .u8)), (.arr 32 (.int .u8))] then vs[0]? else none := rfl
@[simp] theorem mFieldAddr_tCipher_1 (b ver : Nat) (path : List Nat) : mFieldAddr tCipher (.ptr b ver path tCipher) 1 = some (.ptr b ver (path ++ [1]) (.arr 32 (.int .u8))) := by simp [mFieldAddr, tCipher]
@[simp] theorem mField_tCipher_1 (vs : List AV) : mField tCipher (.node vs) 1 = if hasTys vs [(.arr 32 (.int .u8)), (.arr 32 (.int .u8))] then vs[1]? else none := rfl
def tAction : Ty := (.struct [(.int .u32), (.int .u8), tCipher, (.arr 32 (.int .u8)), (.int .u8), .cell, tAccess, .cell])
@[simp] theorem hasTy_tAction (vs : List AV) : hasTy (.node vs) tAction = hasTys vs [(.int .u32), (.int .u8), tCipher, (.arr 32 (.int .u8)), (.int .u8), .cell, tAccess, .cell] := rfl
@[simp] theorem size_tAction : Ty.size tAction = 104 := by rfl
@[simp] theorem mEq_tAction (op : BinOp) (x y : AV) : mEq tAction op x y = if hasTy x tAction && hasTy y tAction then (match op with | .eql => bnd (eqv x y) fun b => some (.bool b) | .neq => bnd (eqv x y) fun b => some (.bool !b) | _ => none) else none := rfl
@[simp] theorem hasTy_row_tAction (vs : List AV) (n : Nat) : hasTy (.node vs) (.arr n tAction) = (decide (vs.length = n) && hasTyAll vs tAction) := rfl
@[simp] theorem mFieldAddr_tAction_0 (b ver : Nat) (path : List Nat) : mFieldAddr tAction (.ptr b ver path tAction) 0 = some (.ptr b ver (path ++ [0]) (.int .u32)) := by simp [mFieldAddr, tAction]
@[simp] theorem mField_tAction_0 (vs : List AV) : mField tAction (.node vs) 0 = if hasTys vs [(.int .u32), (.int .u8), tCipher, (.arr 32 (.int .u8)), (.int .u8), .cell, tAccess, .cell] then vs[0]? else none := rfl
@[simp] theorem mFieldAddr_tAction_1 (b ver : Nat) (path : List Nat) : mFieldAddr tAction (.ptr b ver path tAction) 1 = some (.ptr b ver (path ++ [1]) (.int .u8)) := by simp [mFieldAddr, tAction]
@[simp] theorem mField_tAction_1 (vs : List AV) : mField tAction (.node vs) 1 = if hasTys vs [(.int .u32), (.int .u8), tCipher, (.arr 32 (.int .u8)), (.int .u8), .cell, tAccess, .cell] then vs[1]? else none := rfl
@[simp] theorem mFieldAddr_tAction_2 (b ver : Nat) (path : List Nat) : mFieldAddr tAction (.ptr b ver path tAction) 2 = some (.ptr b ver (path ++ [2]) tCipher) := by simp [mFieldAddr, tAction]
@[simp] theorem mField_tAction_2 (vs : List AV) : mField tAction (.node vs) 2 = if hasTys vs [(.int .u32), (.int .u8), tCipher, (.arr 32 (.int .u8)), (.int .u8), .cell, tAccess, .cell] then vs[2]? else none := rfl
@[simp] theorem mFieldAddr_tAction_3 (b ver : Nat) (path : List Nat) : mFieldAddr tAction (.ptr b ver path tAction) 3 = some (.ptr b ver (path ++ [3]) (.arr 32 (.int .u8))) := by simp [mFieldAddr, tAction]
@[simp] theorem mField_tAction_3 (vs : List AV) : mField tAction (.node vs) 3 = if hasTys vs [(.int .u32), (.int .u8), tCipher, (.arr 32 (.int .u8)), (.int .u8), .cell, tAccess, .cell] then vs[3]? else none := rfl
@[simp] theorem mFieldAddr_tAction_4 (b ver : Nat) (path : List Nat) : mFieldAddr tAction (.ptr b ver path tAction) 4 = some (.ptr b ver (path ++ [4]) (.int .u8)) := by simp [mFieldAddr, tAction]
@[simp] theorem mField_tAction_4 (vs : List AV) : mField tAction (.node vs) 4 = if hasTys vs [(.int .u32), (.int .u8), tCipher, (.arr 32 (.int .u8)), (.int .u8), .cell, tAccess, .cell] then vs[4]? else none := rfl
@[simp] theorem mFieldAddr_tAction_5 (b ver : Nat) (path : List Nat) : mFieldAddr tAction (.ptr b ver path tAction) 5 = some (.ptr b ver (path ++ [5]) .cell) := by simp [mFieldAddr, tAction]
@[simp] theorem mField_tAction_5 (vs : List AV) : mField tAction (.node vs) 5 = if hasTys vs [(.int .u32), (.int .u8), tCipher, (.arr 32 (.int .u8)), (.int .u8), .cell, tAccess, .cell] then vs[5]? else none := rfl
@[simp] theorem mFieldAddr_tAction_6 (b ver : Nat) (path : List Nat) : mFieldAddr tAction (.ptr b ver path tAction) 6 = some (.ptr b ver (path ++ [6]) tAccess) := by simp [mFieldAddr, tAction]
@[simp] theorem mField_tAction_6 (vs : List AV) : mField tAction (.node vs) 6 = if hasTys vs [(.int .u32), (.int .u8), tCipher, (.arr 32 (.int .u8)), (.int .u8), .cell, tAccess, .cell] then vs[6]? else none := rfl
@[simp] theorem mFieldAddr_tAction_7 (b ver : Nat) (path : List Nat) : mFieldAddr tAction (.ptr b ver path tAction) 7 = some (.ptr b ver (path ++ [7]) .cell) := by simp [mFieldAddr, tAction]
@[simp] theorem mField_tAction_7 (vs : List AV) : mField tAction (.node vs) 7 = if hasTys vs [(.int .u32), (.int .u8), tCipher, (.arr 32 (.int .u8)), (.int .u8), .cell, tAccess, .cell] then vs[7]? else none := rfl
def tSeat : Ty := (.struct [tCipher, (.int .u8), (.int .u32)])
theorem tSeat_x : tSeat = (.struct [tCipher, (.int .u8), (.int .u32)]) := rfl
@[simp] theorem hasTy_tSeat (vs : List AV) : hasTy (.node vs) tSeat = hasTys vs [tCipher, (.int .u8), (.int .u32)] := rfl
@[simp] theorem size_tSeat : Ty.size tSeat = 66 := by rfl
@[simp] theorem mEq_tSeat (op : BinOp) (x y : AV) : mEq tSeat op x y = if hasTy x tSeat && hasTy y tSeat then (match op with | .eql => bnd (eqv x y) fun b => some (.bool b) | .neq => bnd (eqv x y) fun b => some (.bool !b) | _ => none) else none := rfl
@[simp] theorem hasTy_row_tSeat (vs : List AV) (n : Nat) : hasTy (.node vs) (.arr n tSeat) = (decide (vs.length = n) && hasTyAll vs tSeat) := rfl
@[simp] theorem mFieldAddr_tSeat_0 (b ver : Nat) (path : List Nat) : mFieldAddr tSeat (.ptr b ver path tSeat) 0 = some (.ptr b ver (path ++ [0]) tCipher) := by simp [mFieldAddr, tSeat]
@[simp] theorem mField_tSeat_0 (vs : List AV) : mField tSeat (.node vs) 0 = if hasTys vs [tCipher, (.int .u8), (.int .u32)] then vs[0]? else none := rfl
@[simp] theorem mFieldAddr_tSeat_1 (b ver : Nat) (path : List Nat) : mFieldAddr tSeat (.ptr b ver path tSeat) 1 = some (.ptr b ver (path ++ [1]) (.int .u8)) := by simp [mFieldAddr, tSeat]
@[simp] theorem mField_tSeat_1 (vs : List AV) : mField tSeat (.node vs) 1 = if hasTys vs [tCipher, (.int .u8), (.int .u32)] then vs[1]? else none := rfl
@[simp] theorem mFieldAddr_tSeat_2 (b ver : Nat) (path : List Nat) : mFieldAddr tSeat (.ptr b ver path tSeat) 2 = some (.ptr b ver (path ++ [2]) (.int .u32)) := by simp [mFieldAddr, tSeat]
@[simp] theorem mField_tSeat_2 (vs : List AV) : mField tSeat (.node vs) 2 = if hasTys vs [tCipher, (.int .u8), (.int .u32)] then vs[2]? else none := rfl
def tInvite : Ty := (.struct [tCipher, (.int .u8), tCipher])
theorem tInvite_x : tInvite = (.struct [tCipher, (.int .u8), tCipher]) := rfl
@[simp] theorem hasTy_tInvite (vs : List AV) : hasTy (.node vs) tInvite = hasTys vs [tCipher, (.int .u8), tCipher] := rfl
@[simp] theorem size_tInvite : Ty.size tInvite = 129 := by rfl
@[simp] theorem mEq_tInvite (op : BinOp) (x y : AV) : mEq tInvite op x y = if hasTy x tInvite && hasTy y tInvite then (match op with | .eql => bnd (eqv x y) fun b => some (.bool b) | .neq => bnd (eqv x y) fun b => some (.bool !b) | _ => none) else none := rfl
@[simp] theorem hasTy_row_tInvite (vs : List AV) (n : Nat) : hasTy (.node vs) (.arr n tInvite) = (decide (vs.length = n) && hasTyAll vs tInvite) := rfl
@[simp] theorem mFieldAddr_tInvite_0 (b ver : Nat) (path : List Nat) : mFieldAddr tInvite (.ptr b ver path tInvite) 0 = some (.ptr b ver (path ++ [0]) tCipher) := by simp [mFieldAddr, tInvite]
@[simp] theorem mField_tInvite_0 (vs : List AV) : mField tInvite (.node vs) 0 = if hasTys vs [tCipher, (.int .u8), tCipher] then vs[0]? else none := rfl
@[simp] theorem mFieldAddr_tInvite_1 (b ver : Nat) (path : List Nat) : mFieldAddr tInvite (.ptr b ver path tInvite) 1 = some (.ptr b ver (path ++ [1]) (.int .u8)) := by simp [mFieldAddr, tInvite]
@[simp] theorem mField_tInvite_1 (vs : List AV) : mField tInvite (.node vs) 1 = if hasTys vs [tCipher, (.int .u8), tCipher] then vs[1]? else none := rfl
@[simp] theorem mFieldAddr_tInvite_2 (b ver : Nat) (path : List Nat) : mFieldAddr tInvite (.ptr b ver path tInvite) 2 = some (.ptr b ver (path ++ [2]) tCipher) := by simp [mFieldAddr, tInvite]
@[simp] theorem mField_tInvite_2 (vs : List AV) : mField tInvite (.node vs) 2 = if hasTys vs [tCipher, (.int .u8), tCipher] then vs[2]? else none := rfl
def tAsk : Ty := (.struct [tCipher, (.int .u32)])
theorem tAsk_x : tAsk = (.struct [tCipher, (.int .u32)]) := rfl
@[simp] theorem hasTy_tAsk (vs : List AV) : hasTy (.node vs) tAsk = hasTys vs [tCipher, (.int .u32)] := rfl
@[simp] theorem size_tAsk : Ty.size tAsk = 65 := by rfl
@[simp] theorem mEq_tAsk (op : BinOp) (x y : AV) : mEq tAsk op x y = if hasTy x tAsk && hasTy y tAsk then (match op with | .eql => bnd (eqv x y) fun b => some (.bool b) | .neq => bnd (eqv x y) fun b => some (.bool !b) | _ => none) else none := rfl
@[simp] theorem hasTy_row_tAsk (vs : List AV) (n : Nat) : hasTy (.node vs) (.arr n tAsk) = (decide (vs.length = n) && hasTyAll vs tAsk) := rfl
@[simp] theorem mFieldAddr_tAsk_0 (b ver : Nat) (path : List Nat) : mFieldAddr tAsk (.ptr b ver path tAsk) 0 = some (.ptr b ver (path ++ [0]) tCipher) := by simp [mFieldAddr, tAsk]
@[simp] theorem mField_tAsk_0 (vs : List AV) : mField tAsk (.node vs) 0 = if hasTys vs [tCipher, (.int .u32)] then vs[0]? else none := rfl
@[simp] theorem mFieldAddr_tAsk_1 (b ver : Nat) (path : List Nat) : mFieldAddr tAsk (.ptr b ver path tAsk) 1 = some (.ptr b ver (path ++ [1]) (.int .u32)) := by simp [mFieldAddr, tAsk]
@[simp] theorem mField_tAsk_1 (vs : List AV) : mField tAsk (.node vs) 1 = if hasTys vs [tCipher, (.int .u32)] then vs[1]? else none := rfl
def tBan : Ty := (.struct [tCipher, tCipher])
theorem tBan_x : tBan = (.struct [tCipher, tCipher]) := rfl
@[simp] theorem hasTy_tBan (vs : List AV) : hasTy (.node vs) tBan = hasTys vs [tCipher, tCipher] := rfl
@[simp] theorem size_tBan : Ty.size tBan = 128 := by rfl
@[simp] theorem mEq_tBan (op : BinOp) (x y : AV) : mEq tBan op x y = if hasTy x tBan && hasTy y tBan then (match op with | .eql => bnd (eqv x y) fun b => some (.bool b) | .neq => bnd (eqv x y) fun b => some (.bool !b) | _ => none) else none := rfl
@[simp] theorem hasTy_row_tBan (vs : List AV) (n : Nat) : hasTy (.node vs) (.arr n tBan) = (decide (vs.length = n) && hasTyAll vs tBan) := rfl
@[simp] theorem mFieldAddr_tBan_0 (b ver : Nat) (path : List Nat) : mFieldAddr tBan (.ptr b ver path tBan) 0 = some (.ptr b ver (path ++ [0]) tCipher) := by simp [mFieldAddr, tBan]
@[simp] theorem mField_tBan_0 (vs : List AV) : mField tBan (.node vs) 0 = if hasTys vs [tCipher, tCipher] then vs[0]? else none := rfl
@[simp] theorem mFieldAddr_tBan_1 (b ver : Nat) (path : List Nat) : mFieldAddr tBan (.ptr b ver path tBan) 1 = some (.ptr b ver (path ++ [1]) tCipher) := by simp [mFieldAddr, tBan]
@[simp] theorem mField_tBan_1 (vs : List AV) : mField tBan (.node vs) 1 = if hasTys vs [tCipher, tCipher] then vs[1]? else none := rfl
def tWriter : Ty := (.struct [.cell, (.int .i64)])
@[simp] theorem hasTy_tWriter (vs : List AV) : hasTy (.node vs) tWriter = hasTys vs [.cell, (.int .i64)] := rfl
@[simp] theorem size_tWriter : Ty.size tWriter = 2 := by rfl
@[simp] theorem mEq_tWriter (op : BinOp) (x y : AV) : mEq tWriter op x y = if hasTy x tWriter && hasTy y tWriter then (match op with | .eql => bnd (eqv x y) fun b => some (.bool b) | .neq => bnd (eqv x y) fun b => some (.bool !b) | _ => none) else none := rfl
@[simp] theorem hasTy_row_tWriter (vs : List AV) (n : Nat) : hasTy (.node vs) (.arr n tWriter) = (decide (vs.length = n) && hasTyAll vs tWriter) := rfl
@[simp] theorem mField_tWriter_0 (vs : List AV) : mField tWriter (.node vs) 0 = if hasTys vs [.cell, (.int .i64)] then vs[0]? else none := rfl
@[simp] theorem mField_tWriter_1 (vs : List AV) : mField tWriter (.node vs) 1 = if hasTys vs [.cell, (.int .i64)] then vs[1]? else none := rfl
def tLhas : Ty := (.struct [.cell, .cell, .cell, .cell, .cell, .cell])
@[simp] theorem hasTy_tLhas (vs : List AV) : hasTy (.node vs) tLhas = hasTys vs [.cell, .cell, .cell, .cell, .cell, .cell] := rfl
@[simp] theorem size_tLhas : Ty.size tLhas = 6 := by rfl
@[simp] theorem mEq_tLhas (op : BinOp) (x y : AV) : mEq tLhas op x y = if hasTy x tLhas && hasTy y tLhas then (match op with | .eql => bnd (eqv x y) fun b => some (.bool b) | .neq => bnd (eqv x y) fun b => some (.bool !b) | _ => none) else none := rfl
@[simp] theorem hasTy_row_tLhas (vs : List AV) (n : Nat) : hasTy (.node vs) (.arr n tLhas) = (decide (vs.length = n) && hasTyAll vs tLhas) := rfl
@[simp] theorem mFieldAddr_tLhas_0 (b ver : Nat) (path : List Nat) : mFieldAddr tLhas (.ptr b ver path tLhas) 0 = some (.ptr b ver (path ++ [0]) .cell) := by simp [mFieldAddr, tLhas]
@[simp] theorem mField_tLhas_0 (vs : List AV) : mField tLhas (.node vs) 0 = if hasTys vs [.cell, .cell, .cell, .cell, .cell, .cell] then vs[0]? else none := rfl
@[simp] theorem mFieldAddr_tLhas_1 (b ver : Nat) (path : List Nat) : mFieldAddr tLhas (.ptr b ver path tLhas) 1 = some (.ptr b ver (path ++ [1]) .cell) := by simp [mFieldAddr, tLhas]
@[simp] theorem mField_tLhas_1 (vs : List AV) : mField tLhas (.node vs) 1 = if hasTys vs [.cell, .cell, .cell, .cell, .cell, .cell] then vs[1]? else none := rfl
@[simp] theorem mFieldAddr_tLhas_2 (b ver : Nat) (path : List Nat) : mFieldAddr tLhas (.ptr b ver path tLhas) 2 = some (.ptr b ver (path ++ [2]) .cell) := by simp [mFieldAddr, tLhas]
@[simp] theorem mField_tLhas_2 (vs : List AV) : mField tLhas (.node vs) 2 = if hasTys vs [.cell, .cell, .cell, .cell, .cell, .cell] then vs[2]? else none := rfl
@[simp] theorem mFieldAddr_tLhas_3 (b ver : Nat) (path : List Nat) : mFieldAddr tLhas (.ptr b ver path tLhas) 3 = some (.ptr b ver (path ++ [3]) .cell) := by simp [mFieldAddr, tLhas]
@[simp] theorem mField_tLhas_3 (vs : List AV) : mField tLhas (.node vs) 3 = if hasTys vs [.cell, .cell, .cell, .cell, .cell, .cell] then vs[3]? else none := rfl
@[simp] theorem mFieldAddr_tLhas_4 (b ver : Nat) (path : List Nat) : mFieldAddr tLhas (.ptr b ver path tLhas) 4 = some (.ptr b ver (path ++ [4]) .cell) := by simp [mFieldAddr, tLhas]
@[simp] theorem mField_tLhas_4 (vs : List AV) : mField tLhas (.node vs) 4 = if hasTys vs [.cell, .cell, .cell, .cell, .cell, .cell] then vs[4]? else none := rfl
@[simp] theorem mFieldAddr_tLhas_5 (b ver : Nat) (path : List Nat) : mFieldAddr tLhas (.ptr b ver path tLhas) 5 = some (.ptr b ver (path ++ [5]) .cell) := by simp [mFieldAddr, tLhas]
@[simp] theorem mField_tLhas_5 (vs : List AV) : mField tLhas (.node vs) 5 = if hasTys vs [.cell, .cell, .cell, .cell, .cell, .cell] then vs[5]? else none := rfl
def tMove : Ty := (.struct [(.arr 32 (.int .u8)), tAction])
@[simp] theorem hasTy_tMove (vs : List AV) : hasTy (.node vs) tMove = hasTys vs [(.arr 32 (.int .u8)), tAction] := rfl
@[simp] theorem size_tMove : Ty.size tMove = 136 := by rfl
@[simp] theorem mEq_tMove (op : BinOp) (x y : AV) : mEq tMove op x y = if hasTy x tMove && hasTy y tMove then (match op with | .eql => bnd (eqv x y) fun b => some (.bool b) | .neq => bnd (eqv x y) fun b => some (.bool !b) | _ => none) else none := rfl
@[simp] theorem hasTy_row_tMove (vs : List AV) (n : Nat) : hasTy (.node vs) (.arr n tMove) = (decide (vs.length = n) && hasTyAll vs tMove) := rfl
@[simp] theorem mField_tMove_0 (vs : List AV) : mField tMove (.node vs) 0 = if hasTys vs [(.arr 32 (.int .u8)), tAction] then vs[0]? else none := rfl
@[simp] theorem mField_tMove_1 (vs : List AV) : mField tMove (.node vs) 1 = if hasTys vs [(.arr 32 (.int .u8)), tAction] then vs[1]? else none := rfl
def tLstep : Ty := (.struct [.cell, (.arr 32 (.int .u8)), tAction, (.int .u8)])
@[simp] theorem hasTy_tLstep (vs : List AV) : hasTy (.node vs) tLstep = hasTys vs [.cell, (.arr 32 (.int .u8)), tAction, (.int .u8)] := rfl
@[simp] theorem size_tLstep : Ty.size tLstep = 138 := by rfl
@[simp] theorem mEq_tLstep (op : BinOp) (x y : AV) : mEq tLstep op x y = if hasTy x tLstep && hasTy y tLstep then (match op with | .eql => bnd (eqv x y) fun b => some (.bool b) | .neq => bnd (eqv x y) fun b => some (.bool !b) | _ => none) else none := rfl
@[simp] theorem hasTy_row_tLstep (vs : List AV) (n : Nat) : hasTy (.node vs) (.arr n tLstep) = (decide (vs.length = n) && hasTyAll vs tLstep) := rfl
@[simp] theorem mFieldAddr_tLstep_0 (b ver : Nat) (path : List Nat) : mFieldAddr tLstep (.ptr b ver path tLstep) 0 = some (.ptr b ver (path ++ [0]) .cell) := by simp [mFieldAddr, tLstep]
@[simp] theorem mField_tLstep_0 (vs : List AV) : mField tLstep (.node vs) 0 = if hasTys vs [.cell, (.arr 32 (.int .u8)), tAction, (.int .u8)] then vs[0]? else none := rfl
@[simp] theorem mFieldAddr_tLstep_1 (b ver : Nat) (path : List Nat) : mFieldAddr tLstep (.ptr b ver path tLstep) 1 = some (.ptr b ver (path ++ [1]) (.arr 32 (.int .u8))) := by simp [mFieldAddr, tLstep]
@[simp] theorem mField_tLstep_1 (vs : List AV) : mField tLstep (.node vs) 1 = if hasTys vs [.cell, (.arr 32 (.int .u8)), tAction, (.int .u8)] then vs[1]? else none := rfl
@[simp] theorem mFieldAddr_tLstep_2 (b ver : Nat) (path : List Nat) : mFieldAddr tLstep (.ptr b ver path tLstep) 2 = some (.ptr b ver (path ++ [2]) tAction) := by simp [mFieldAddr, tLstep]
@[simp] theorem mField_tLstep_2 (vs : List AV) : mField tLstep (.node vs) 2 = if hasTys vs [.cell, (.arr 32 (.int .u8)), tAction, (.int .u8)] then vs[2]? else none := rfl
@[simp] theorem mFieldAddr_tLstep_3 (b ver : Nat) (path : List Nat) : mFieldAddr tLstep (.ptr b ver path tLstep) 3 = some (.ptr b ver (path ++ [3]) (.int .u8)) := by simp [mFieldAddr, tLstep]
@[simp] theorem mField_tLstep_3 (vs : List AV) : mField tLstep (.node vs) 3 = if hasTys vs [.cell, (.arr 32 (.int .u8)), tAction, (.int .u8)] then vs[3]? else none := rfl
def tRollSeat : Ty := (.struct [.cell, .cell])
@[simp] theorem hasTy_tRollSeat (vs : List AV) : hasTy (.node vs) tRollSeat = hasTys vs [.cell, .cell] := rfl
@[simp] theorem size_tRollSeat : Ty.size tRollSeat = 2 := by rfl
@[simp] theorem mEq_tRollSeat (op : BinOp) (x y : AV) : mEq tRollSeat op x y = if hasTy x tRollSeat && hasTy y tRollSeat then (match op with | .eql => bnd (eqv x y) fun b => some (.bool b) | .neq => bnd (eqv x y) fun b => some (.bool !b) | _ => none) else none := rfl
@[simp] theorem hasTy_row_tRollSeat (vs : List AV) (n : Nat) : hasTy (.node vs) (.arr n tRollSeat) = (decide (vs.length = n) && hasTyAll vs tRollSeat) := rfl
@[simp] theorem mFieldAddr_tRollSeat_0 (b ver : Nat) (path : List Nat) : mFieldAddr tRollSeat (.ptr b ver path tRollSeat) 0 = some (.ptr b ver (path ++ [0]) .cell) := by simp [mFieldAddr, tRollSeat]
@[simp] theorem mField_tRollSeat_0 (vs : List AV) : mField tRollSeat (.node vs) 0 = if hasTys vs [.cell, .cell] then vs[0]? else none := rfl
@[simp] theorem mFieldAddr_tRollSeat_1 (b ver : Nat) (path : List Nat) : mFieldAddr tRollSeat (.ptr b ver path tRollSeat) 1 = some (.ptr b ver (path ++ [1]) .cell) := by simp [mFieldAddr, tRollSeat]
@[simp] theorem mField_tRollSeat_1 (vs : List AV) : mField tRollSeat (.node vs) 1 = if hasTys vs [.cell, .cell] then vs[1]? else none := rfl
def tRollInvite : Ty := (.struct [.cell, .cell])
@[simp] theorem hasTy_tRollInvite (vs : List AV) : hasTy (.node vs) tRollInvite = hasTys vs [.cell, .cell] := rfl
@[simp] theorem size_tRollInvite : Ty.size tRollInvite = 2 := by rfl
@[simp] theorem mEq_tRollInvite (op : BinOp) (x y : AV) : mEq tRollInvite op x y = if hasTy x tRollInvite && hasTy y tRollInvite then (match op with | .eql => bnd (eqv x y) fun b => some (.bool b) | .neq => bnd (eqv x y) fun b => some (.bool !b) | _ => none) else none := rfl
@[simp] theorem hasTy_row_tRollInvite (vs : List AV) (n : Nat) : hasTy (.node vs) (.arr n tRollInvite) = (decide (vs.length = n) && hasTyAll vs tRollInvite) := rfl
@[simp] theorem mFieldAddr_tRollInvite_0 (b ver : Nat) (path : List Nat) : mFieldAddr tRollInvite (.ptr b ver path tRollInvite) 0 = some (.ptr b ver (path ++ [0]) .cell) := by simp [mFieldAddr, tRollInvite]
@[simp] theorem mField_tRollInvite_0 (vs : List AV) : mField tRollInvite (.node vs) 0 = if hasTys vs [.cell, .cell] then vs[0]? else none := rfl
@[simp] theorem mFieldAddr_tRollInvite_1 (b ver : Nat) (path : List Nat) : mFieldAddr tRollInvite (.ptr b ver path tRollInvite) 1 = some (.ptr b ver (path ++ [1]) .cell) := by simp [mFieldAddr, tRollInvite]
@[simp] theorem mField_tRollInvite_1 (vs : List AV) : mField tRollInvite (.node vs) 1 = if hasTys vs [.cell, .cell] then vs[1]? else none := rfl
def tRollAsk : Ty := (.struct [.cell, .cell])
@[simp] theorem hasTy_tRollAsk (vs : List AV) : hasTy (.node vs) tRollAsk = hasTys vs [.cell, .cell] := rfl
@[simp] theorem size_tRollAsk : Ty.size tRollAsk = 2 := by rfl
@[simp] theorem mEq_tRollAsk (op : BinOp) (x y : AV) : mEq tRollAsk op x y = if hasTy x tRollAsk && hasTy y tRollAsk then (match op with | .eql => bnd (eqv x y) fun b => some (.bool b) | .neq => bnd (eqv x y) fun b => some (.bool !b) | _ => none) else none := rfl
@[simp] theorem hasTy_row_tRollAsk (vs : List AV) (n : Nat) : hasTy (.node vs) (.arr n tRollAsk) = (decide (vs.length = n) && hasTyAll vs tRollAsk) := rfl
@[simp] theorem mFieldAddr_tRollAsk_0 (b ver : Nat) (path : List Nat) : mFieldAddr tRollAsk (.ptr b ver path tRollAsk) 0 = some (.ptr b ver (path ++ [0]) .cell) := by simp [mFieldAddr, tRollAsk]
@[simp] theorem mField_tRollAsk_0 (vs : List AV) : mField tRollAsk (.node vs) 0 = if hasTys vs [.cell, .cell] then vs[0]? else none := rfl
@[simp] theorem mFieldAddr_tRollAsk_1 (b ver : Nat) (path : List Nat) : mFieldAddr tRollAsk (.ptr b ver path tRollAsk) 1 = some (.ptr b ver (path ++ [1]) .cell) := by simp [mFieldAddr, tRollAsk]
@[simp] theorem mField_tRollAsk_1 (vs : List AV) : mField tRollAsk (.node vs) 1 = if hasTys vs [.cell, .cell] then vs[1]? else none := rfl
def tRollBan : Ty := (.struct [.cell, .cell])
@[simp] theorem hasTy_tRollBan (vs : List AV) : hasTy (.node vs) tRollBan = hasTys vs [.cell, .cell] := rfl
@[simp] theorem size_tRollBan : Ty.size tRollBan = 2 := by rfl
@[simp] theorem mEq_tRollBan (op : BinOp) (x y : AV) : mEq tRollBan op x y = if hasTy x tRollBan && hasTy y tRollBan then (match op with | .eql => bnd (eqv x y) fun b => some (.bool b) | .neq => bnd (eqv x y) fun b => some (.bool !b) | _ => none) else none := rfl
@[simp] theorem hasTy_row_tRollBan (vs : List AV) (n : Nat) : hasTy (.node vs) (.arr n tRollBan) = (decide (vs.length = n) && hasTyAll vs tRollBan) := rfl
@[simp] theorem mFieldAddr_tRollBan_0 (b ver : Nat) (path : List Nat) : mFieldAddr tRollBan (.ptr b ver path tRollBan) 0 = some (.ptr b ver (path ++ [0]) .cell) := by simp [mFieldAddr, tRollBan]
@[simp] theorem mField_tRollBan_0 (vs : List AV) : mField tRollBan (.node vs) 0 = if hasTys vs [.cell, .cell] then vs[0]? else none := rfl
@[simp] theorem mFieldAddr_tRollBan_1 (b ver : Nat) (path : List Nat) : mFieldAddr tRollBan (.ptr b ver path tRollBan) 1 = some (.ptr b ver (path ++ [1]) .cell) := by simp [mFieldAddr, tRollBan]
@[simp] theorem mField_tRollBan_1 (vs : List AV) : mField tRollBan (.node vs) 1 = if hasTys vs [.cell, .cell] then vs[1]? else none := rfl
end Go.Vab

/-
  A call within a statement whose order is open: tables of contracts.
-/
namespace Go.Vab
open Go
end Go.Vab

/-
  Rows of bytes and slices of them; memory of which one block is kept.
-/
namespace Go.Vab
open Go
@[simp] theorem arr_join (n m : Nat) (g f : Nat → BitVec 8) : (arr n g).join (arr m f) = some (arr (n + m) fun i => if i < n then g i else f (i - n)) := by
 simp only [arr, bytes, AV.join, if_true]
 congr 2
 rw [← List.map_append]
 congr 1
 apply List.ext_getElem?
 intro i
 rw [List.getElem?_append, range_map_getD, range_map_getD, range_map_getD, List.length_map, List.length_range]
 by_cases h : i < n
 ·simp [h, show i < n + m by omega]
 ·by_cases h2 : i - n < m
  ·simp [h, h2, show i < n + m by omega]
  ·simp [h, h2, show ¬ i < n + m by omega]
theorem get_append : ∀ (p : List Nat) (v : AV) (q : List Nat), v.get (p ++ q) = bnd (v.get p) fun r => r.get q
 | [], v, q => by simp
 | j :: p, .node vs, q => by
  simp only [List.cons_append, get_node]
  cases vs[j]? with
  | none => rfl
  | some v => simp only [bnd_some]; exact get_append p v q
 | j :: p, .ints k xs, q => by
  simp only [List.cons_append, AV.get]
  cases p with
  | nil =>
   cases q with
   | nil =>
    simp only [List.nil_append]
    cases xs[j]? <;> simp
   | cons a q =>
    simp only [List.nil_append]
    cases xs[j]? <;> simp [AV.get]
  | cons a p => simp
 | j :: p, .junk, q | j :: p, .undef, q | j :: p, .bool _, q | j :: p, .int _ _, q | j :: p, .str _, q | j :: p, .nilptr, q | j :: p, .ptr .., q | j :: p, .win .., q | j :: p, .nilslice, q | j :: p, .slice .., q
 | j :: p, .nilmap, q | j :: p, .map _, q | j :: p, .nilfn, q | j :: p, .fn .., q | j :: p, .tuple _, q => by simp [AV.get]
def slOk : AV → Nat → Prop
 | .nilslice, n => n = 0
 | .slice _ ver _ t off len none, n => len = n ∧ off + len ≤ ver ∧ t = .int .u8
 | .slice _ _ _ t _ len (some c), n => len = n ∧ len ≤ c ∧ t = .int .u8
 | _, _ => False
def Byt (h : Heap) (x : AV) (n : Nat) (g : Nat → BitVec 8) : Prop := mElems (.int .u8) x h = some (arr n g) ∧ slOk x n
theorem Byt.app {h : Heap} {x : AV} {n : Nat} {g : Nat → BitVec 8} (hb : Byt h x n g) (t : Heap) : Byt (h ++ t) x n g := ⟨mElems_app hb.1 t, hb.2⟩
theorem Byt.len {h : Heap} {x : AV} {n : Nat} {g : Nat → BitVec 8} (hb : Byt h x n g) : mLenS x = some (nat n) := by
 obtain ⟨_, h2⟩ := hb
 unfold slOk at h2
 split at h2
 ·subst h2; rfl
 ·rw [← h2.1]; rfl
 ·rw [← h2.1]; rfl
 ·cases h2
theorem Byt.congr {h : Heap} {x : AV} {n : Nat} {g f : Nat → BitVec 8} (hb : Byt h x n g) (e : ∀ i, i < n → g i = f i) : Byt h x n f := ⟨by rw [hb.1, arr_congr e], hb.2⟩
theorem Byt.nil (h : Heap) (g : Nat → BitVec 8) : Byt h .nilslice 0 g := ⟨by simp [mElems, arr, bytes], rfl⟩
theorem mElems_slc {i ver : Nat} {path : List Nat} {off len : Nat} {cap : Option Nat} {h : Heap} : mElems (.int .u8) (.slice i ver path (.int .u8) off len cap) h = bnd (blkAt h i ver) fun b => bnd (b.v.get path) fun r => r.cut off len := by simp [mElems]
@[simp] theorem mSliceA_all (n : Nat) (u : Ty) (b ver : Nat) (path : List Nat) : mSliceA (.arr n u) (.ptr b ver path (.arr n u)) none none none = some (.slice b ver path u 0 n (some n)) := by simp [mSliceA, optBound]
def strOf (n : Nat) (g : Nat → BitVec 8) : ByteArray := ⟨((List.range n).map fun i => UInt8.ofNat (g i).toNat).toArray⟩
theorem Byt.str {h : Heap} {x : AV} {n : Nat} {g : Nat → BitVec 8} (hb : Byt h x n g) : mStr x h = some (.str (strOf n g)) := by
 have key : ∀ y : AV, (∀ s, y ≠ .str s) → mElems (.int .u8) y h = some (arr n g) → mStr y h = some (.str (strOf n g)) := by
  intro y hy he
  unfold mStr
  split
  ·exact absurd rfl (hy _)
  ·rw [he]
   simp only [bnd_some, arr, bytes, strOf, List.map_map]
   congr 5
 refine key x ?_ hb.1
 intro s e
 have h2 := hb.2
 rw [e] at h2
 exact h2
theorem strOf_inj {n m : Nat} {g f : Nat → BitVec 8} (h : strOf n g = strOf m f) : n = m ∧ ∀ i, i < n → g i = f i := by
 unfold strOf at h
 have h1 : (List.range n).map (fun i => UInt8.ofNat (g i).toNat) = (List.range m).map fun i => UInt8.ofNat (f i).toNat := by
  have := congrArg ByteArray.data h
  simpa using this
 have hn : n = m := by simpa using congrArg List.length h1
 subst hn
 refine ⟨rfl, fun i hi => ?_⟩
 have := congrArg (fun l => l[i]?) h1
 rw [range_map_getD, range_map_getD, if_pos hi, if_pos hi, Option.some.injEq] at this
 have h3 := congrArg UInt8.toNat this
 have q : ∀ x : BitVec 8, (UInt8.ofNat x.toNat).toNat = x.toNat := fun x => by simp
 rw [q, q] at h3
 exact BitVec.eq_of_toNat_eq h3
section
variable {P : Program} {f : Nat} {args : List AV} {h : Heap} {ver : Nat} {path : List Nat} {ty : Ty} {off len : Nat} {cap : Option Nat}
end
end Go.Vab

/-
  The data of the layers, and how they lie in memory.
-/
namespace Go.Vab
open Go
@[simp] theorem eqv_u8 (x y : BitVec 8) : eqv (u8 x) (u8 y) = some (decide (x = y)) := by
 simp only [eqv, u8, if_true]
 congr 1
 by_cases h : x = y
 ·subst h; simp
 ·have : ¬ ((x.toNat : Int) = (y.toNat : Int)) := fun e => h (BitVec.eq_of_toNat_eq (by omega))
  simp [h, this]
abbrev Bs := List (BitVec 8)
def Bs.g (l : Bs) (i : Nat) : BitVec 8 := l.getD i 0#8
structure Pt where
 l : Bs
 h : l.length = 32
 deriving DecidableEq
def Pt.g (p : Pt) : Nat → BitVec 8 := Bs.g p.l
def pt (p : Pt) : AV := arr 32 p.g
theorem bs_ext {a b : Bs} (hl : a.length = b.length) (h : ∀ i, i < a.length → a.g i = b.g i) : a = b := by
 apply List.ext_getElem? 
 intro i
 by_cases hi : i < a.length
 ·have := h i hi
  unfold Bs.g at this
  rw [List.getD_eq_getElem?_getD, List.getD_eq_getElem?_getD, List.getElem?_eq_getElem hi, List.getElem?_eq_getElem (by omega)] at this
  rw [List.getElem?_eq_getElem hi, List.getElem?_eq_getElem (by omega)]
  simpa using this
 ·rw [List.getElem?_eq_none (by omega), List.getElem?_eq_none (by omega)]
theorem Pt.ext' {p q : Pt} (h : p.l = q.l) : p = q := by cases p; cases q; simp at h; subst h; rfl
theorem Pt.eq_iff {p q : Pt} : p = q ↔ ∀ i, i < 32 → p.g i = q.g i := by
 constructor
 ·rintro rfl _ _; rfl
 ·intro h
  exact Pt.ext' (bs_ext (by rw [p.h, q.h]) fun i hi => h i (by rw [p.h] at hi; exact hi))
@[simp] theorem arrEq_pt (p q : Pt) : arrEq 32 p.g q.g = decide (p = q) := by
 rw [Bool.eq_iff_iff, arrEq_iff, decide_eq_true_eq, Pt.eq_iff]
def Pt.of (f : Nat → BitVec 8) : Pt := ⟨(List.range 32).map f, by simp⟩
@[simp] theorem Pt.of_g (f : Nat → BitVec 8) {i : Nat} (h : i < 32) : (Pt.of f).g i = f i := by
 simp [Pt.of, Pt.g, Bs.g, List.getD_eq_getElem?_getD, h]
theorem arr_pt (f : Nat → BitVec 8) : arr 32 f = pt (Pt.of f) := arr_congr fun i hi => (Pt.of_g f hi).symm
@[simp] theorem hasTy_pt (p : Pt) (k : Nat) : hasTy (pt p) (.arr k (.int .u8)) = decide (32 = k) := hasTy_arr _ _ _
@[simp] theorem mEq_pt (p q : Pt) : mEq (.arr 32 (.int .u8)) .eql (pt p) (pt q) = some (.bool (decide (p = q))) := by
 unfold pt; rw [mEq_arr, arrEq_pt]
@[simp] theorem mNe_pt (p q : Pt) : mEq (.arr 32 (.int .u8)) .neq (pt p) (pt q) = some (.bool (!decide (p = q))) := by
 unfold pt; rw [mNe_arr, arrEq_pt]
@[simp] theorem eqv_pt (p q : Pt) : eqv (pt p) (pt q) = some (decide (p = q)) := by
 unfold pt; rw [eqv_arr2, arrEq_pt]
def pt0 : Pt := Pt.of fun _ => 0#8
@[simp] theorem arr_zero : arr 32 (fun _ => 0#8) = pt pt0 := arr_pt _
structure Ci where
 e : Pt
 f : Pt
 deriving DecidableEq
structure Seat where
 who : Ci
 role : BitVec 8
 joined : BitVec 32
 deriving DecidableEq
structure Inv where
 who : Ci
 role : BitVec 8
 by_ : Ci
 deriving DecidableEq
structure Ask where
 who : Ci
 at_ : BitVec 32
 deriving DecidableEq
structure Ban where
 who : Ci
 by_ : Ci
 deriving DecidableEq
structure Acc where
 title : BitVec 8
 members : BitVec 8
 link : BitVec 8
 deriving DecidableEq
structure Stt where
 version : BitVec 32
 key : Ci
 title : Bs
 acc : Acc
 pass : Bs
 seats : List Seat
 invites : List Inv
 asks : List Ask
 bans : List Ban
 deriving DecidableEq
structure Actn where
 version : BitVec 32
 kind : BitVec 8
 who : Ci
 e : Pt
 role : BitVec 8
 title : Bs
 acc : Acc
 pass : Bs
 deriving DecidableEq
def ci0 : Ci := ⟨pt0, pt0⟩
def acc0 : Acc := ⟨0#8, 0#8, 0#8⟩
def eCi (c : Ci) : AV := .node [pt c.e, pt c.f]
def eSeat (s : Seat) : AV := .node [eCi s.who, u8 s.role, u32 s.joined]
def eInv (s : Inv) : AV := .node [eCi s.who, u8 s.role, eCi s.by_]
def eAsk (s : Ask) : AV := .node [eCi s.who, u32 s.at_]
def eBan (s : Ban) : AV := .node [eCi s.who, eCi s.by_]
def eAcc (a : Acc) : AV := .node [u8 a.title, u8 a.members, u8 a.link]
section
variable (c d : Ci) (s s' : Seat) (i i' : Inv) (q q' : Ask) (b b' : Ban) (a a' : Acc) (p p' r r' : Pt)
@[simp] theorem hasTy_eCi : hasTy (eCi c) tCipher = true := by simp [eCi, hasTys]
@[simp] theorem hasTy_eSeat : hasTy (eSeat s) tSeat = true := by simp [eSeat, hasTys]
@[simp] theorem hasTy_eInv : hasTy (eInv i) tInvite = true := by simp [eInv, hasTys]
@[simp] theorem hasTy_eAsk : hasTy (eAsk q) tAsk = true := by simp [eAsk, hasTys]
@[simp] theorem hasTy_eBan : hasTy (eBan b) tBan = true := by simp [eBan, hasTys]
@[simp] theorem hasTy_eAcc : hasTy (eAcc a) tAccess = true := by simp [eAcc, hasTys]
@[simp] theorem hasTy_ePub : hasTy (eCi c) tPublic = true := by simp [eCi, hasTys]
theorem and_dec {A B : Prop} [Decidable A] [Decidable B] : (decide A && decide B) = decide (A ∧ B) := by simp
theorem dec_iff {A B : Prop} [Decidable A] [Decidable B] (h : A ↔ B) : decide A = decide B := by simp [h]
@[simp] theorem eqv_eCi : eqv (eCi c) (eCi d) = some (decide (c = d)) := by
 simp only [eCi, eqv, eqvs, eqv_pt, Bool.and_true, and_dec]
 congr 1
 apply dec_iff
 cases c; cases d; simp
@[simp] theorem eqv_eSeat : eqv (eSeat s) (eSeat s') = some (decide (s = s')) := by
 simp only [eSeat, eqv, eqvs, eqv_eCi, eqv_u8, eqv_u32, Bool.and_true, and_dec]
 congr 1; apply dec_iff
 cases s; cases s'; simp
@[simp] theorem eqv_eInv : eqv (eInv i) (eInv i') = some (decide (i = i')) := by
 simp only [eInv, eqv, eqvs, eqv_eCi, eqv_u8, Bool.and_true, and_dec]
 congr 1; apply dec_iff
 cases i; cases i'; simp
@[simp] theorem eqv_eAsk : eqv (eAsk q) (eAsk q') = some (decide (q = q')) := by
 simp only [eAsk, eqv, eqvs, eqv_eCi, eqv_u32, Bool.and_true, and_dec]
 congr 1; apply dec_iff
 cases q; cases q'; simp
@[simp] theorem eqv_eBan : eqv (eBan b) (eBan b') = some (decide (b = b')) := by
 simp only [eBan, eqv, eqvs, eqv_eCi, Bool.and_true, and_dec]
 congr 1; apply dec_iff
 cases b; cases b'; simp
@[simp] theorem eqv_eAcc : eqv (eAcc a) (eAcc a') = some (decide (a = a')) := by
 simp only [eAcc, eqv, eqvs, eqv_u8, Bool.and_true, and_dec]
 congr 1; apply dec_iff
 cases a; cases a'; simp
end
def BytL (h : Heap) (x : AV) (l : Bs) : Prop := Byt h x l.length (Bs.g l) ∧ l.length ≤ 140737488355328
theorem strOf_list (l : Bs) (m : Bs) : strOf l.length (Bs.g l) = strOf m.length (Bs.g m) ↔ l = m := by
 constructor
 ·intro h
  obtain ⟨h1, h2⟩ := strOf_inj h
  exact bs_ext h1 h2
 ·rintro rfl; rfl
def strL (l : Bs) : ByteArray := strOf l.length (Bs.g l)
theorem strL_inj {l m : Bs} : strL l = strL m ↔ l = m := strOf_list l m
theorem BytL.str {h : Heap} {x : AV} {l : Bs} (hb : BytL h x l) : mStr x h = some (.str (strL l)) := Byt.str hb.1
theorem BytL.len {h : Heap} {x : AV} {l : Bs} (hb : BytL h x l) : mLenS x = some (nat l.length) := Byt.len hb.1
theorem BytL.app {h : Heap} {x : AV} {l : Bs} (hb : BytL h x l) (t : Heap) : BytL (h ++ t) x l := ⟨Byt.app hb.1 t, hb.2⟩
theorem BytL.bound {h : Heap} {x : AV} {l : Bs} (hb : BytL h x l) : l.length ≤ 140737488355328 := hb.2
theorem BytL.nil (h : Heap) : BytL h .nilslice [] := ⟨Byt.nil h _, by simp⟩
theorem BytL.of {h : Heap} {x : AV} {n : Nat} {g : Nat → BitVec 8} (hb : Byt h x n g) (hn : n ≤ 140737488355328) : BytL h x ((List.range n).map g) := by
 unfold BytL
 rw [List.length_map, List.length_range]
 exact ⟨hb.congr fun i hi => by simp [Bs.g, List.getD_eq_getElem?_getD, hi], hn⟩
@[simp] theorem mBinT_eqL (l m : Bs) : mBinT .eql (.str (strL l)) (.str (strL m)) = some (.bool (decide (l = m))) := by
 simp only [mBinT]; congr 2; exact dec_iff strL_inj
@[simp] theorem mBinT_neL (l m : Bs) : mBinT .neq (.str (strL l)) (.str (strL m)) = some (.bool (!decide (l = m))) := by
 simp only [mBinT]; congr 3; exact dec_iff strL_inj
theorem BytL.cell {h : Heap} {x : AV} {l : Bs} (hb : BytL h x l) : hasTy x .cell = true := by
 have h2 := hb.1.2
 unfold slOk at h2
 split at h2
 ·rfl
 ·rfl
 ·rfl
 ·cases h2
def rowOk (t : Ty) : AV → Nat → Prop
 | .nilslice, n => n = 0
 | .slice _ _ _ t' _ len (some c), n => len = n ∧ len ≤ c ∧ t' = t
 | _, _ => False
def Row (t : Ty) (h : Heap) (x : AV) (vs : List AV) : Prop := mElems t x h = some (.node vs) ∧ rowOk t x vs.length ∧ vs.length ≤ 140737488355328
section
variable {t : Ty} {h : Heap} {x : AV} {vs : List AV}
theorem Row.len (hr : Row t h x vs) : mLenS x = some (nat vs.length) := by
 have h2 := hr.2.1
 unfold rowOk at h2
 split at h2
 ·rw [h2]; rfl
 ·rw [← h2.1]; rfl
 ·cases h2
theorem Row.app (hr : Row t h x vs) (l : Heap) : Row t (h ++ l) x vs := ⟨mElems_app hr.1 l, hr.2⟩
theorem Row.cell (hr : Row t h x vs) : hasTy x .cell = true := by
 have h2 := hr.2.1
 unfold rowOk at h2
 split at h2
 ·rfl
 ·rfl
 ·cases h2
theorem Row.bound (hr : Row t h x vs) : vs.length ≤ 140737488355328 := hr.2.2
theorem mElems_row {i ver : Nat} {path : List Nat} {off len : Nat} {cap : Option Nat} : mElems t (.slice i ver path t off len cap) h = bnd (blkAt h i ver) fun b => bnd (b.v.get path) fun r => r.cut off len := by simp [mElems]
theorem cut_node {r : AV} {off len : Nat} (hc : r.cut off len = some (.node vs)) : vs.length = len ∧ ∀ i, i < len → r.get [off + i] = vs[i]? := by
 cases r <;> simp only [AV.cut] at hc <;> try (cases hc; done)
 case ints k xs => split at hc <;> cases hc
 case node us =>
  split at hc
  ·rename_i hl
   simp only [Option.some.injEq, AV.node.injEq] at hc
   subst hc
   refine ⟨by simp; omega, fun i hi => ?_⟩
   simp only [get_node, List.getElem?_take, List.getElem?_drop, if_pos hi]
   cases us[off + i]? <;> simp
  ·cases hc
theorem Row.slc (hr : Row t h x vs) (h0 : vs ≠ []) : ∃ b ver path off c, x = .slice b ver path t off vs.length (some c) ∧ vs.length ≤ c := by
 have h2 := hr.2.1
 cases x with
 | nilslice => exact absurd (List.eq_nil_of_length_eq_zero h2) h0
 | slice b ver path t' off len cap =>
  cases cap with
  | none => exact h2.elim
  | some c =>
   obtain ⟨e1, e2, e3⟩ := h2
   subst e3; subst e1
   exact ⟨b, ver, path, off, c, rfl, e2⟩
 | _ => exact h2.elim
theorem Row.idx (hr : Row t h x vs) {i : Nat} (hi : i < vs.length) : ∃ p, mIdxS t x (nat i) = some p ∧ ∀ l, mLoad t p (h ++ l) = vs[i]? := by
 obtain ⟨b, ver, path, off, c, rfl, hc⟩ := hr.slc (by rintro rfl; simp at hi)
 have h1 := hr.1
 rw [mElems_row] at h1
 obtain ⟨bb, g1, g2⟩ := bnd_eq_some.1 h1
 obtain ⟨r, g3, g4⟩ := bnd_eq_some.1 g2
 refine ⟨.ptr b ver (path ++ [off + i]) t, by simp [mIdxS, hi], fun l => ?_⟩
 rw [mLoad_ptr, blkAt_app g1, bnd_some, get_append, g3, bnd_some]
 exact (cut_node g4).2 i hi
theorem Row.idx0 (hr : Row t h x vs) {i : Nat} (hi : i < vs.length) : ∃ p, mIdxS t x (nat i) = some p ∧ mLoad t p h = vs[i]? := by
 obtain ⟨p, h1, h2⟩ := hr.idx hi
 exact ⟨p, h1, by simpa using h2 []⟩
end
def eStH (v : BitVec 32) (k : Ci) (c : Acc) (vt vp vs vi va vb : AV) : AV := .node [u32 v, eCi k, vt, eAcc c, vp, vs, vi, va, vb]
abbrev eSt (s : Stt) : AV → AV → AV → AV → AV → AV → AV := eStH s.version s.key s.acc
structure StR (h : Heap) (s : Stt) (vt vp vs vi va vb : AV) : Prop where
 ft : BytL h vt s.title
 fp : BytL h vp s.pass
 fs : Row tSeat h vs (s.seats.map eSeat)
 fi : Row tInvite h vi (s.invites.map eInv)
 fa : Row tAsk h va (s.asks.map eAsk)
 fb : Row tBan h vb (s.bans.map eBan)
theorem StR.app {h : Heap} {s : Stt} {vt vp vs vi va vb : AV} (r : StR h s vt vp vs vi va vb) (l : Heap) : StR (h ++ l) s vt vp vs vi va vb :=
 ⟨r.ft.app l, r.fp.app l, r.fs.app l, r.fi.app l, r.fa.app l, r.fb.app l⟩
def eActH (v : BitVec 32) (k : BitVec 8) (w : Ci) (e : Pt) (r : BitVec 8) (c : Acc) (vt vp : AV) : AV := .node [u32 v, u8 k, eCi w, pt e, u8 r, vt, eAcc c, vp]
abbrev eAct (a : Actn) : AV → AV → AV := eActH a.version a.kind a.who a.e a.role a.acc
structure ActR (h : Heap) (a : Actn) (vt vp : AV) : Prop where
 t : BytL h vt a.title
 p : BytL h vp a.pass
theorem ActR.app {h : Heap} {a : Actn} {vt vp : AV} (r : ActR h a vt vp) (l : Heap) : ActR (h ++ l) a vt vp := ⟨r.t.app l, r.p.app l⟩
@[simp] theorem hasTy_nilslice : hasTy .nilslice .cell = true := rfl
@[simp] theorem hasTy_slice (i ver : Nat) (path : List Nat) (t : Ty) (off len : Nat) (cap : Option Nat) : hasTy (.slice i ver path t off len cap) .cell = true := rfl
@[simp] theorem hasTy_bool (b : Bool) : hasTy (.bool b) .cell = true := rfl
@[simp] theorem hasTy_ptr (i ver : Nat) (path : List Nat) (t : Ty) : hasTy (.ptr i ver path t) .cell = true := rfl
@[simp] theorem hasTy_nilptr : hasTy .nilptr .cell = true := rfl
@[simp] theorem hasTy_fn (f : Nat) (c : List AV) : hasTy (.fn f c) .cell = true := rfl
@[simp] theorem hasTy_eSt (v : BitVec 32) (k : Ci) (c : Acc) (vt vp vs vi va vb : AV) : hasTy (eStH v k c vt vp vs vi va vb) tState = (hasTy vt .cell && (hasTy vp .cell && (hasTy vs .cell && (hasTy vi .cell && (hasTy va .cell && hasTy vb .cell))))) := by
 simp [eStH, hasTys]
@[simp] theorem hasTy_eAct (v : BitVec 32) (k : BitVec 8) (w : Ci) (e : Pt) (r : BitVec 8) (c : Acc) (vt vp : AV) : hasTy (eActH v k w e r c vt vp) tAction = (hasTy vt .cell && hasTy vp .cell) := by
 simp [eActH, hasTys]
theorem StR.cells {h : Heap} {s : Stt} {vt vp vs vi va vb : AV} (r : StR h s vt vp vs vi va vb) : hasTy vt .cell = true ∧ hasTy vp .cell = true ∧ hasTy vs .cell = true ∧ hasTy vi .cell = true ∧ hasTy va .cell = true ∧ hasTy vb .cell = true :=
 ⟨r.ft.cell, r.fp.cell, r.fs.cell, r.fi.cell, r.fa.cell, r.fb.cell⟩
theorem ActR.cells {h : Heap} {a : Actn} {vt vp : AV} (r : ActR h a vt vp) : hasTy vt .cell = true ∧ hasTy vp .cell = true := ⟨r.t.cell, r.p.cell⟩
section
variable (i ver : Nat) (path : List Nat) (t : Ty) (off len : Nat) (cap : Option Nat)
@[simp] theorem binP_eq : mBinP .eql (.ptr i ver path t) .nilptr = some (.bool false) := rfl
@[simp] theorem binP_ne : mBinP .neq (.ptr i ver path t) .nilptr = some (.bool true) := rfl
@[simp] theorem binP_eq0 : mBinP .eql .nilptr .nilptr = some (.bool true) := rfl
@[simp] theorem binP_ne0 : mBinP .neq .nilptr .nilptr = some (.bool false) := rfl
@[simp] theorem binS_eq : mBinS .eql (.slice i ver path t off len cap) .nilslice = some (.bool false) := rfl
@[simp] theorem binS_ne : mBinS .neq (.slice i ver path t off len cap) .nilslice = some (.bool true) := rfl
@[simp] theorem binS_eq0 : mBinS .eql .nilslice .nilslice = some (.bool true) := rfl
@[simp] theorem binS_ne0 : mBinS .neq .nilslice .nilslice = some (.bool false) := rfl
@[simp] theorem nilCheck_fn (f : Nat) (c : List AV) : mNilCheck (.fn f c) = some (.fn f c) := rfl
@[simp] theorem extract_0 (a : AV) (l : List AV) : mExtract (.tuple (a :: l)) 0 = some a := rfl
@[simp] theorem extract_1 (a b : AV) (l : List AV) : mExtract (.tuple (a :: b :: l)) 1 = some b := rfl
@[simp] theorem extract_2 (a b c : AV) (l : List AV) : mExtract (.tuple (a :: b :: c :: l)) 2 = some c := rfl
@[simp] theorem extract_3 (a b c d : AV) (l : List AV) : mExtract (.tuple (a :: b :: c :: d :: l)) 3 = some d := rfl
end
attribute [simp] hasTys
@[simp] theorem mNew_if (t : Ty) (v : AV) (h : Heap) : mNew t v h = if hasTy v t = true then some (.ptr h.length 0 [] t, h ++ [⟨v, 0, .own⟩]) else none := rfl
@[simp] theorem stU_if (t : Ty) (i ver : Nat) (path : List Nat) (x : AV) (h : Heap) : stU t (.ptr i ver path t) x h = if hasTy x t = true then stR i ver path x h else none := by
 unfold stU mStore
 simp only [Ty.beq_self, Bool.true_and]
 split
 ·unfold stR
  cases blkAt h i ver with
  | none => rfl
  | some b =>
   simp only [bnd_some]
   split
   ·rfl
   ·cases b.v.put path x <;> rfl
 ·rfl
section
variable (v v' : BitVec 32) (k k' : Ci) (c c' : Acc) (vt vp vs vi va vb x : AV) (r : List Nat) (kd : BitVec 8) (w : Ci) (e : Pt) (ro : BitVec 8)
@[simp] theorem eSt_get0 : (eStH v k c vt vp vs vi va vb).get (0 :: r) = (u32 v).get r := by simp [eStH]
@[simp] theorem eSt_get1 : (eStH v k c vt vp vs vi va vb).get (1 :: r) = (eCi k).get r := by simp [eStH]
@[simp] theorem eSt_get2 : (eStH v k c vt vp vs vi va vb).get (2 :: r) = (vt).get r := by simp [eStH]
@[simp] theorem eSt_get3 : (eStH v k c vt vp vs vi va vb).get (3 :: r) = (eAcc c).get r := by simp [eStH]
@[simp] theorem eSt_get4 : (eStH v k c vt vp vs vi va vb).get (4 :: r) = (vp).get r := by simp [eStH]
@[simp] theorem eSt_get5 : (eStH v k c vt vp vs vi va vb).get (5 :: r) = (vs).get r := by simp [eStH]
@[simp] theorem eSt_get6 : (eStH v k c vt vp vs vi va vb).get (6 :: r) = (vi).get r := by simp [eStH]
@[simp] theorem eSt_get7 : (eStH v k c vt vp vs vi va vb).get (7 :: r) = (va).get r := by simp [eStH]
@[simp] theorem eSt_get8 : (eStH v k c vt vp vs vi va vb).get (8 :: r) = (vb).get r := by simp [eStH]
@[simp] theorem eSt_put0 : (eStH v k c vt vp vs vi va vb).put [0] (u32 v') = some (eStH v' k c vt vp vs vi va vb) := by simp [eStH]
@[simp] theorem eSt_put1 : (eStH v k c vt vp vs vi va vb).put [1] (eCi k') = some (eStH v k' c vt vp vs vi va vb) := by simp [eStH]
@[simp] theorem eSt_put2 : (eStH v k c vt vp vs vi va vb).put [2] x = some (eStH v k c x vp vs vi va vb) := by simp [eStH]
@[simp] theorem eSt_put3 : (eStH v k c vt vp vs vi va vb).put [3] (eAcc c') = some (eStH v k c' vt vp vs vi va vb) := by simp [eStH]
@[simp] theorem eSt_put4 : (eStH v k c vt vp vs vi va vb).put [4] x = some (eStH v k c vt x vs vi va vb) := by simp [eStH]
@[simp] theorem eSt_put5 : (eStH v k c vt vp vs vi va vb).put [5] x = some (eStH v k c vt vp x vi va vb) := by simp [eStH]
@[simp] theorem eSt_put6 : (eStH v k c vt vp vs vi va vb).put [6] x = some (eStH v k c vt vp vs x va vb) := by simp [eStH]
@[simp] theorem eSt_put7 : (eStH v k c vt vp vs vi va vb).put [7] x = some (eStH v k c vt vp vs vi x vb) := by simp [eStH]
@[simp] theorem eSt_put8 : (eStH v k c vt vp vs vi va vb).put [8] x = some (eStH v k c vt vp vs vi va x) := by simp [eStH]
@[simp] theorem eAct_get0 : (eActH v kd w e ro c vt vp).get (0 :: r) = (u32 v).get r := by simp [eActH]
@[simp] theorem eAct_get1 : (eActH v kd w e ro c vt vp).get (1 :: r) = (u8 kd).get r := by simp [eActH]
@[simp] theorem eAct_get2 : (eActH v kd w e ro c vt vp).get (2 :: r) = (eCi w).get r := by simp [eActH]
@[simp] theorem eAct_get3 : (eActH v kd w e ro c vt vp).get (3 :: r) = (pt e).get r := by simp [eActH]
@[simp] theorem eAct_get4 : (eActH v kd w e ro c vt vp).get (4 :: r) = (u8 ro).get r := by simp [eActH]
@[simp] theorem eAct_get5 : (eActH v kd w e ro c vt vp).get (5 :: r) = (vt).get r := by simp [eActH]
@[simp] theorem eAct_get6 : (eActH v kd w e ro c vt vp).get (6 :: r) = (eAcc c).get r := by simp [eActH]
@[simp] theorem eAct_get7 : (eActH v kd w e ro c vt vp).get (7 :: r) = (vp).get r := by simp [eActH]
@[simp] theorem eAct_put0 : (eActH v kd w e ro c vt vp).put [0] (u32 v') = some (eActH v' kd w e ro c vt vp) := by simp [eActH]
@[simp] theorem eAct_put5 : (eActH v kd w e ro c vt vp).put [5] x = some (eActH v kd w e ro c x vp) := by simp [eActH]
@[simp] theorem eAct_put7 : (eActH v kd w e ro c vt vp).put [7] x = some (eActH v kd w e ro c vt x) := by simp [eActH]
end
section
variable (r : List Nat)
variable (c : Ci) (z : Seat) (i : Inv) (q : Ask) (b : Ban) (k : Acc)
@[simp] theorem eCi_get0 : (eCi c).get (0 :: r) = (pt c.e).get r := by simp [eCi]
@[simp] theorem eSeat_get0 : (eSeat z).get (0 :: r) = (eCi z.who).get r := by simp [eSeat]
@[simp] theorem eSeat_get1 : (eSeat z).get (1 :: r) = (u8 z.role).get r := by simp [eSeat]
@[simp] theorem eSeat_get2 : (eSeat z).get (2 :: r) = (u32 z.joined).get r := by simp [eSeat]
@[simp] theorem eInv_get0 : (eInv i).get (0 :: r) = (eCi i.who).get r := by simp [eInv]
@[simp] theorem eInv_get1 : (eInv i).get (1 :: r) = (u8 i.role).get r := by simp [eInv]
@[simp] theorem eInv_get2 : (eInv i).get (2 :: r) = (eCi i.by_).get r := by simp [eInv]
@[simp] theorem eAsk_get0 : (eAsk q).get (0 :: r) = (eCi q.who).get r := by simp [eAsk]
@[simp] theorem eAsk_get1 : (eAsk q).get (1 :: r) = (u32 q.at_).get r := by simp [eAsk]
@[simp] theorem eBan_get0 : (eBan b).get (0 :: r) = (eCi b.who).get r := by simp [eBan]
@[simp] theorem eBan_get1 : (eBan b).get (1 :: r) = (eCi b.by_).get r := by simp [eBan]
@[simp] theorem eAcc_get0 : (eAcc k).get (0 :: r) = (u8 k.title).get r := by simp [eAcc]
@[simp] theorem eAcc_get1 : (eAcc k).get (1 :: r) = (u8 k.members).get r := by simp [eAcc]
@[simp] theorem eAcc_get2 : (eAcc k).get (2 :: r) = (u8 k.link).get r := by simp [eAcc]
end
section
variable (a b : Pt) (c d : Ci) (r r2 r3 : BitVec 8) (j : BitVec 32) (k : Acc) (vt vp vs vi va vb : AV)
@[simp] theorem fold_eCi : AV.node [pt a, pt b] = eCi ⟨a, b⟩ := rfl
@[simp] theorem fold_eSeat : AV.node [eCi c, u8 r, u32 j] = eSeat ⟨c, r, j⟩ := rfl
@[simp] theorem fold_eInv : AV.node [eCi c, u8 r, eCi d] = eInv ⟨c, r, d⟩ := rfl
@[simp] theorem fold_eAsk : AV.node [eCi c, u32 j] = eAsk ⟨c, j⟩ := rfl
@[simp] theorem fold_eBan : AV.node [eCi c, eCi d] = eBan ⟨c, d⟩ := rfl
@[simp] theorem fold_eSt (v : BitVec 32) : AV.node [u32 v, eCi c, vt, eAcc k, vp, vs, vi, va, vb] = eStH v c k vt vp vs vi va vb := rfl
@[simp] theorem fold_eAct (v : BitVec 32) (kd : BitVec 8) (e : Pt) : AV.node [u32 v, u8 kd, eCi c, pt e, u8 r, vt, eAcc k, vp] = eActH v kd c e r k vt vp := rfl
@[simp] theorem fold_eAcc : AV.node [u8 r, u8 r2, u8 r3] = eAcc ⟨r, r2, r3⟩ := rfl
end
theorem fin_b {h l : Heap} {b c : Bool} (hb : c = b) : ∃ t, (oneOrTuple [.bool c], h ++ l) = ((.bool b, h ++ t) : AV × Heap) := ⟨l, by simp [oneOrTuple, hb]⟩
theorem fin_v {h l : Heap} {v w : AV} (hb : v = w) : ∃ t, (oneOrTuple [v], h ++ l) = ((w, h ++ t) : AV × Heap) := ⟨l, by simp [oneOrTuple, hb]⟩
end Go.Vab

/-
  What was read, as data: numbers, rows of bytes, structs, slices.
-/
namespace Go.Vas
open Go Go.Vab
def ftys (P : Program) (t : TypeId) : Option (List TypeId) := match P.underlying t with
 | some (.struct fs) => some (fs.toList.map (·.type))
 | _ => none
variable {P : Program} {tt : Nat → Option TI}
def Reads (P : Program) (tt : Nat → Option TI) (t : TypeId) (T : Ty) {Y : Type} (enc : Y → AV) : Prop := ∀ (h : Heap) (n : Nat) (a : AV), hasTy a T = true → Rd P tt h n t a → ∃ y, a = enc y
theorem rdI8 {t : TypeId} {T : Ty} (hu : P.underlying t = some (.int .u8)) : Reads P tt t T u8 := by
 intro h n a _ hr
 cases n with
 | zero => exact hr.elim
 | succ n =>
  simp only [Rd, hu] at hr
  obtain ⟨x, rfl, hw⟩ := hr
  simp [Lit.wf, IntKind.min, IntKind.max, IntKind.signed, IntKind.bits] at hw
  refine ⟨BitVec.ofInt 8 x, ?_⟩
  unfold u8
  rw [BitVec.toNat_ofInt]
  congr 1
  have h2 : ((2 ^ 8 : Nat) : Int) = 256 := rfl
  omega
theorem row8 {h : Heap} {n m : Nat} {e : TypeId} {v : AV} (hu : P.underlying e = some (.int .u8)) (ht : hasTy v (.arr m (.int .u8)) = true) (hr : ∀ j, j < m → ∃ x, v.get [j] = some x ∧ Rd P tt h n e x) : ∃ g : Nat → BitVec 8, v = arr m g := by
 cases v <;> simp [hasTy] at ht
 rename_i k xs
 obtain ⟨rfl, hl⟩ := ht
 have he : ∀ j, j < m → ∃ b : BitVec 8, xs[j]? = some (b.toNat : Int) := by
  intro j hj
  obtain ⟨x, hx, hd⟩ := hr j hj
  have hx' := hx
  simp only [AV.get] at hx
  cases hxs : xs[j]? with
  | none => rw [hxs] at hx; cases hx
  | some y =>
   rw [hxs] at hx
   obtain ⟨b, rfl⟩ := rdI8 (T := .int .u8) hu h n (.int .u8 y) (by simp [hasTy]) (by simp only [Option.some.injEq] at hx; rw [hx]; exact hd) |> fun ⟨b, hb⟩ => (⟨b, by simpa [u8] using hb⟩ : ∃ b : BitVec 8, y = (b.toNat : Int))
   exact ⟨b, rfl⟩
 refine ⟨fun j => match xs[j]? with | some y => BitVec.ofInt 8 y | none => 0#8, ?_⟩
 unfold Vab.arr Vab.bytes
 congr 1
 apply List.ext_getElem?
 intro j
 rw [List.getElem?_map]
 by_cases hj : j < m
 ·obtain ⟨b, hb⟩ := he j hj
  rw [range_map_getD, if_pos hj, hb]
  simp
 ·rw [range_map_getD, if_neg hj, List.getElem?_eq_none (by omega)]; rfl
theorem rdArr {t e : TypeId} {m : Nat} (hu : P.underlying t = some (.array m e)) (he : P.underlying e = some (.int .u8)) : Reads P tt t (.arr m (.int .u8)) fun g => arr m g := by
 intro h n a ht hr
 cases n with
 | zero => exact hr.elim
 | succ n =>
  simp only [Rd, hu] at hr
  exact row8 he ht hr
theorem rdPt {t e : TypeId} (hu : P.underlying t = some (.array 32 e)) (he : P.underlying e = some (.int .u8)) : Reads P tt t (.arr 32 (.int .u8)) pt := by
 intro h n a ht hr
 obtain ⟨g, rfl⟩ := rdArr hu he h n a ht hr
 exact ⟨_, arr_pt g⟩
theorem rdS {t : TypeId} {us : List TypeId} {h : Heap} {n : Nat} {a : AV} (hf : ftys P t = some us) (hr : Rd P tt h n t a) : ∃ vs m, a = .node vs ∧ ∀ (f : Nat) u, us[f]? = some u → ∃ y, vs[f]? = some y ∧ Rd P tt h m u y := by
 cases n with
 | zero => exact hr.elim
 | succ n =>
  unfold ftys at hf
  cases hu : P.underlying t with
  | none => rw [hu] at hf; cases hf
  | some d =>
   rw [hu] at hf
   cases d <;> try (cases hf; done)
   rename_i fs
   simp only [Option.some.injEq] at hf
   subst hf
   unfold Rd at hr
   rw [hu] at hr
   obtain ⟨vs, h1, h2⟩ := hr
   refine ⟨vs, n, h1, fun f u hfu => ?_⟩
   rw [List.getElem?_map] at hfu
   cases hx : fs[f]? with
   | none => rw [Array.getElem?_toList, hx] at hfu; cases hfu
   | some x =>
    rw [Array.getElem?_toList, hx] at hfu
    simp only [Option.map_some, Option.some.injEq] at hfu
    subst hfu
    exact h2 f x hx
theorem hasTys_c {vs : List AV} {t : Ty} {ts : List Ty} (h : hasTys vs (t :: ts) = true) : ∃ v us, vs = v :: us ∧ hasTy v t = true ∧ hasTys us ts = true := by
 cases vs with
 | nil => simp [hasTys] at h
 | cons v us =>
  simp only [hasTys, Bool.and_eq_true] at h
  exact ⟨v, us, rfl, h.1, h.2⟩
theorem hasTys_n {vs : List AV} (h : hasTys vs [] = true) : vs = [] := by
 cases vs with
 | nil => rfl
 | cons v us => simp [hasTys] at h
theorem byt_own {h : Heap} {i ver n m c : Nat} {b : Blk} {f : Nat → BitVec 8} (hb : blkAt h i ver = some b) (hv : b.v = arr m f) (hl : n ≤ m) (hc : n ≤ c) : Byt h (.slice i ver [] (.int .u8) 0 n (some c)) n f := by
 refine ⟨?_, rfl, hc, rfl⟩
 rw [mElems_slc, hb, bnd_some, get_nil, bnd_some, hv, arr_cut, if_pos (by omega)]
 exact congrArg some (arr_congr fun i _ => by rw [Nat.zero_add])
theorem rdB {t e : TypeId} {h : Heap} {n : Nat} {a : AV} (hu : P.underlying t = some (.slice e)) (he : P.underlying e = some (.int .u8)) (hb : P.bytesOf e = 1) (hte : ∀ el, tt e = some el → el.ty = .int .u8) (hr : Rd P tt h n t a) : ∃ l, BytL h a l := by
 cases n with
 | zero => exact hr.elim
 | succ n =>
  simp only [Rd, hu] at hr
  rcases hr with rfl | ⟨i, el, row, mo, len, cap, rfl, h2, h3, h4, h5, h6, hw, h7⟩
  ·exact ⟨[], BytL.nil _⟩
  ·have e1 := hte _ h2
   rw [e1] at h4 ⊢
   obtain ⟨g, rfl⟩ := row8 he h4 h7
   rw [hb] at hw
   unfold reachBytes at hw
   exact ⟨_, BytL.of (byt_own (b := ⟨Vab.arr cap g, 0, mo.1⟩) (by unfold blkAt; rw [h3]; simp [mo.2]) rfl h5 h5) (by omega)⟩
theorem rdCi {t p : TypeId} (hf : ftys P t = some [p, p]) (hp : Reads P tt p (.arr 32 (.int .u8)) pt) : Reads P tt t tCipher eCi := by
 intro h n a ht hr
 obtain ⟨vs, m, rfl, hv⟩ := rdS hf hr
 obtain ⟨x0, vs, rfl, t0, ht⟩ := hasTys_c (by simpa using ht)
 obtain ⟨x1, vs, rfl, t1, ht⟩ := hasTys_c ht
 obtain rfl := hasTys_n ht
 obtain ⟨_, e0, r0⟩ := hv 0 _ rfl
 obtain ⟨_, e1, r1⟩ := hv 1 _ rfl
 cases e0; cases e1
 obtain ⟨y0, rfl⟩ := hp _ _ _ t0 r0
 obtain ⟨y1, rfl⟩ := hp _ _ _ t1 r1
 exact ⟨⟨y0, y1⟩, rfl⟩
theorem rdAcc {t b c : TypeId} (hf : ftys P t = some [b, b, c]) (hb : P.underlying b = some (.int .u8)) (hc : P.underlying c = some (.int .u8)) : Reads P tt t tAccess eAcc := by
 intro h n a ht hr
 obtain ⟨vs, m, rfl, hv⟩ := rdS hf hr
 obtain ⟨x0, vs, rfl, t0, ht⟩ := hasTys_c (by simpa using ht)
 obtain ⟨x1, vs, rfl, t1, ht⟩ := hasTys_c ht
 obtain ⟨x2, vs, rfl, t2, ht⟩ := hasTys_c ht
 obtain rfl := hasTys_n ht
 obtain ⟨_, e0, r0⟩ := hv 0 _ rfl
 obtain ⟨_, e1, r1⟩ := hv 1 _ rfl
 obtain ⟨_, e2, r2⟩ := hv 2 _ rfl
 cases e0; cases e1; cases e2
 obtain ⟨y0, rfl⟩ := rdI8 hb _ _ _ t0 r0
 obtain ⟨y1, rfl⟩ := rdI8 hb _ _ _ t1 r1
 obtain ⟨y2, rfl⟩ := rdI8 hc _ _ _ t2 r2
 exact ⟨⟨y0, y1, y2⟩, rfl⟩
def ReadsB (P : Program) (tt : Nat → Option TI) (t : TypeId) : Prop := ∀ (h : Heap) (n : Nat) (a : AV), Rd P tt h n t a → ∃ l, BytL h a l
end Go.Vas

/- The types of a seat. Printed by wip/tools/gen2.py (own work). -/
namespace Go.Vab
open Go Go.Proofs
def ttl : List (Nat × TI) := [
 (3, ⟨(.int .i64), 8, (nat 0), none, some .i64, false, none, false⟩),
 (4, ⟨.cell, 1, (.bool false), none, none, false, none, true⟩),
 (5, ⟨(.int .u8), 1, (u8 0#8), none, some .u8, false, none, false⟩),
 (9, ⟨.cell, 16, (.str .empty), none, none, true, none, false⟩),
 (22, ⟨(.int .u32), 4, (u32 0#32), none, some .u32, false, none, false⟩),
 (24, ⟨(.arr 32 (.int .u8)), 32, (arr 32 fun _ => 0#8), none, none, false, none, false⟩),
 (26, ⟨tPublic, 64, (.node [(arr 32 fun _ => 0#8), (arr 32 fun _ => 0#8)]), none, none, false, none, false⟩),
 (27, ⟨.cell, 24, .nilslice, some 5, none, false, none, false⟩),
 (28, ⟨(.int .u8), 1, (u8 0#8), none, some .u8, false, none, false⟩),
 (29, ⟨(.int .u8), 1, (u8 0#8), none, some .u8, false, none, false⟩),
 (31, ⟨tAccess, 3, (.node [(u8 0#8), (u8 0#8), (u8 0#8)]), none, none, false, none, false⟩),
 (32, ⟨.cell, 24, .nilslice, some 73, none, false, none, false⟩),
 (33, ⟨.cell, 24, .nilslice, some 82, none, false, none, false⟩),
 (34, ⟨.cell, 24, .nilslice, some 84, none, false, none, false⟩),
 (35, ⟨.cell, 24, .nilslice, some 86, none, false, none, false⟩),
 (37, ⟨tState, 224, (.node [(u32 0#32), (.node [(arr 32 fun _ => 0#8), (arr 32 fun _ => 0#8)]), .nilslice, (.node [(u8 0#8), (u8 0#8), (u8 0#8)]), .nilslice, .nilslice, .nilslice, .nilslice, .nilslice]), none, none, false, none, false⟩),
 (38, ⟨(.int .u8), 1, (u8 0#8), none, some .u8, false, none, false⟩),
 (40, ⟨tCipher, 64, (.node [(arr 32 fun _ => 0#8), (arr 32 fun _ => 0#8)]), none, none, false, none, false⟩),
 (42, ⟨tAction, 160, (.node [(u32 0#32), (u8 0#8), (.node [(arr 32 fun _ => 0#8), (arr 32 fun _ => 0#8)]), (arr 32 fun _ => 0#8), (u8 0#8), .nilslice, (.node [(u8 0#8), (u8 0#8), (u8 0#8)]), .nilslice]), none, none, false, none, false⟩),
 (47, ⟨(.int .i64), 8, (nat 0), none, some .i64, false, none, false⟩),
 (57, ⟨.cell, 24, .nilslice, some 61, none, false, none, false⟩),
 (61, ⟨tMove, 192, (.node [(arr 32 fun _ => 0#8), (.node [(u32 0#32), (u8 0#8), (.node [(arr 32 fun _ => 0#8), (arr 32 fun _ => 0#8)]), (arr 32 fun _ => 0#8), (u8 0#8), .nilslice, (.node [(u8 0#8), (u8 0#8), (u8 0#8)]), .nilslice])]), none, none, false, none, false⟩),
 (63, ⟨.cell, 24, .nilslice, some 40, none, false, none, false⟩),
 (65, ⟨(.int .u64), 8, (u64 0#64), none, some .u64, false, none, false⟩),
 (69, ⟨(.int .u64), 8, (u64 0#64), none, some .u64, false, none, false⟩),
 (73, ⟨tSeat, 72, (.node [(.node [(arr 32 fun _ => 0#8), (arr 32 fun _ => 0#8)]), (u8 0#8), (u32 0#32)]), none, none, false, none, false⟩),
 (77, ⟨.cell, 8, .nilptr, none, none, false, some 37, false⟩),
 (79, ⟨tLstep, 208, (.node [.nilptr, (arr 32 fun _ => 0#8), (.node [(u32 0#32), (u8 0#8), (.node [(arr 32 fun _ => 0#8), (arr 32 fun _ => 0#8)]), (arr 32 fun _ => 0#8), (u8 0#8), .nilslice, (.node [(u8 0#8), (u8 0#8), (u8 0#8)]), .nilslice]), (u8 0#8)]), none, none, false, none, false⟩),
 (82, ⟨tInvite, 129, (.node [(.node [(arr 32 fun _ => 0#8), (arr 32 fun _ => 0#8)]), (u8 0#8), (.node [(arr 32 fun _ => 0#8), (arr 32 fun _ => 0#8)])]), none, none, false, none, false⟩),
 (84, ⟨tAsk, 68, (.node [(.node [(arr 32 fun _ => 0#8), (arr 32 fun _ => 0#8)]), (u32 0#32)]), none, none, false, none, false⟩),
 (86, ⟨tBan, 128, (.node [(.node [(arr 32 fun _ => 0#8), (arr 32 fun _ => 0#8)]), (.node [(arr 32 fun _ => 0#8), (arr 32 fun _ => 0#8)])]), none, none, false, none, false⟩),
 (106, ⟨tLhas, 6, (.node [(.bool false), (.bool false), (.bool false), (.bool false), (.bool false), (.bool false)]), none, none, false, none, false⟩),
 (112, ⟨.cell, 8, .nilptr, none, none, false, some 32, false⟩),
 (113, ⟨.cell, 8, .nilfn, none, none, false, none, false⟩),
 (115, ⟨tRollSeat, 16, (.node [.nilptr, .nilfn]), none, none, false, none, false⟩),
 (117, ⟨.cell, 8, .nilptr, none, none, false, some 33, false⟩),
 (118, ⟨.cell, 8, .nilfn, none, none, false, none, false⟩),
 (120, ⟨tRollInvite, 16, (.node [.nilptr, .nilfn]), none, none, false, none, false⟩),
 (122, ⟨.cell, 8, .nilptr, none, none, false, some 34, false⟩),
 (123, ⟨.cell, 8, .nilfn, none, none, false, none, false⟩),
 (125, ⟨tRollAsk, 16, (.node [.nilptr, .nilfn]), none, none, false, none, false⟩),
 (154, ⟨.cell, 8, .nilptr, none, none, false, some 35, false⟩),
 (155, ⟨.cell, 8, .nilfn, none, none, false, none, false⟩),
 (157, ⟨tRollBan, 16, (.node [.nilptr, .nilfn]), none, none, false, none, false⟩)]
def TT : Nat → Option TI := tabOf ttl
theorem TT_ok : TTok Tryz.prog TT := ttB_ok (by kernel_rfl)
theorem mixed_ok : Tryz.prog.follows .mixedOrders = true := by kernel_rfl
end Go.Vab

/- How the seat's arguments are read. Printed by wip/tools/rd.py (own work). -/
namespace Go.Vas
open Go Go.Vab Go.Proofs
theorem ownV : ownKnob Tryz.prog.godebug = none := by kernel_rfl
theorem laidV : laidOutB Tryz.prog = true := by kernel_rfl
def okV : List TypeId := [5, 22, 24, 26, 27, 28, 29, 31, 32, 33, 34, 35, 37, 38, 40, 42, 73, 82, 84, 86]
theorem plainV : plainB Tryz.prog TT okV = true := by kernel_rfl
theorem boolV : Tryz.prog.underlying 4 = some .bool := by kernel_rfl
theorem tyOf {t : Nat} {i : TI} {u : Ty} (h : (match TT t with | some j => Ty.beq j.ty u | none => false) = true) (hti : TT t = some i) : i.ty = u := by
 rw [hti] at h
 exact Ty.beq_eq _ _ h
theorem und_u8 : Tryz.prog.underlying 5 = some (.int .u8) := by kernel_rfl
theorem und_role : Tryz.prog.underlying 28 = some (.int .u8) := by kernel_rfl
theorem und_link : Tryz.prog.underlying 29 = some (.int .u8) := by kernel_rfl
theorem und_pt : Tryz.prog.underlying 24 = some (.array 32 5) := by kernel_rfl
theorem und_bs : Tryz.prog.underlying 27 = some (.slice 5) := by kernel_rfl
theorem ft_pub : ftys Tryz.prog 26 = some [24, 24] := by kernel_rfl
theorem ft_ci : ftys Tryz.prog 40 = some [24, 24] := by kernel_rfl
theorem ft_acc : ftys Tryz.prog 31 = some [28, 28, 29] := by kernel_rfl
theorem rd_pt : Reads Tryz.prog TT 24 (.arr 32 (.int .u8)) pt := rdPt und_pt und_u8
theorem rd_pub : Reads Tryz.prog TT 26 tCipher eCi := rdCi ft_pub rd_pt
theorem rd_ci : Reads Tryz.prog TT 40 tCipher eCi := rdCi ft_ci rd_pt
theorem rd_acc : Reads Tryz.prog TT 31 tAccess eAcc := rdAcc ft_acc und_role und_link
theorem rd_bs : ReadsB Tryz.prog TT 27 := fun _ _ _ hr => rdB und_bs und_u8 (by kernel_rfl) (fun _ h => tyOf (by kernel_rfl) h) hr
end Go.Vas

/-
  A thing that is held back: a hypothesis that no tactic takes up by itself.
-/
namespace Go.Vab
structure Hd (X : Prop) : Prop where
 get : X
end Go.Vab

/-
  One step of a run: what every run has in common. Its steps are a default proof, made where it is used.
-/
namespace Go.Vab
def snB := aI @sqW_nrm (aI @sqW_exit (aI @sqW_ret (aI @inBlk_nrm (aI @inBlk_ret (aI @inBlk_same (aI @inBlk_exit (aI @retW_nrm @retW_ret)))))))
theorem stp {G X : Prop} (f : Hd X → G := by
 intro yX
 first
  | ((with_reducible refine evs_of (a := ?_) ?_ ?_); rotate_left; (focus ((conv => lhs; simp (disch := omega) [ff]); done)); try dsimp only)
  | ((with_reducible refine gW_do ?_ ?_); (focus (simp (disch := omega) [ff]; done)))
  | ((with_reducible refine gW_no ?_ ?_); (focus (simp (disch := omega) [ff]; done)); try dsimp only)
  | ((with_reducible refine gW_un ?_ ?_); (focus (simp (disch := omega) [ff]; done)); try dsimp only)
  | ((with_reducible refine cndW_T ?_ ?_); (focus (simp (disch := omega) [ff] <;> omega)))
  | ((with_reducible refine cndW_F ?_ ?_); (focus (simp (disch := omega) [ff] <;> omega)))
  | ((with_reducible refine stabP_i ?_ ?_); (focus (simp (disch := omega) [ff]; done)))
  | (with_reducible refine wL_i ?_)
  | ((with_reducible refine ValW_do ?_ ?_); (focus (simp (disch := omega) [ff]; done)); try dsimp only)
  | ((with_reducible refine ValW_no ?_ ?_); (focus (simp (disch := omega) [ff]; done)); try dsimp only)
  | ((with_reducible refine ValW_un ?_ ?_); (focus (simp (disch := omega) [ff]; done)); try dsimp only)
  | ((with_reducible refine SpecA_i (args' := ?_) ?_ ?_); rotate_left; (focus ((conv => lhs; simp (disch := omega) [ff]); done)))
  | ((with_reducible refine ValA_i (args' := ?_) ?_ ?_); rotate_left; (focus ((conv => lhs; simp (disch := omega) [ff]); done)))
  | ((with_reducible refine stabA_i (args' := ?_) ?_ ?_); rotate_left; (focus ((conv => lhs; simp (disch := omega) [ff]); done)))
  | ((with_reducible refine fnA_i (g := ?_) (caps := ?_) ?_ ?_); rotate_left; rotate_left; (focus ((conv => lhs; simp (disch := omega) [ff]); done)))
  | ((with_reducible refine ValA_fn (g := ?_) (caps := ?_) ?_ ?_); rotate_left; rotate_left; (focus ((conv => lhs; simp (disch := omega) [ff]); done)))
  | ((with_reducible refine stabA_fn (g := ?_) (caps := ?_) ?_ ?_); rotate_left; rotate_left; (focus ((conv => lhs; simp (disch := omega) [ff]); done)))
  | ((with_reducible refine appA_i (s' := ?_) (x' := ?_) ?_ ?_ ?_); rotate_left; rotate_left; (focus ((conv => lhs; simp (disch := omega) [ff]); done)); (focus ((conv => lhs; simp (disch := omega) [ff]); done)))
  | ((with_reducible refine stab_do ?_ ?_); (focus (simp (disch := omega) [ff]; done)))
 exact yX.get) (x : X) : G := f ⟨x⟩
theorem stp0 {G X : Prop} (f : Hd X → G := by
 intro yX
 first
  | ((with_reducible refine evs_of (a := ?_) ?_ ?_); rotate_left; (focus ((conv => lhs; simp (disch := omega)); done)); try dsimp only)
  | ((with_reducible refine gW_do ?_ ?_); (focus (simp (disch := omega); done)))
  | ((with_reducible refine gW_no ?_ ?_); (focus (simp (disch := omega); done)); try dsimp only)
  | ((with_reducible refine gW_un ?_ ?_); (focus (simp (disch := omega); done)); try dsimp only)
  | ((with_reducible refine cndW_T ?_ ?_); (focus (simp (disch := omega) <;> omega)))
  | ((with_reducible refine cndW_F ?_ ?_); (focus (simp (disch := omega) <;> omega)))
  | ((with_reducible refine stabP_i ?_ ?_); (focus (simp (disch := omega); done)))
  | (with_reducible refine wL_i ?_)
  | ((with_reducible refine ValW_do ?_ ?_); (focus (simp (disch := omega); done)); try dsimp only)
  | ((with_reducible refine ValW_no ?_ ?_); (focus (simp (disch := omega); done)); try dsimp only)
  | ((with_reducible refine ValW_un ?_ ?_); (focus (simp (disch := omega); done)); try dsimp only)
  | ((with_reducible refine SpecA_i (args' := ?_) ?_ ?_); rotate_left; (focus ((conv => lhs; simp (disch := omega)); done)))
  | ((with_reducible refine ValA_i (args' := ?_) ?_ ?_); rotate_left; (focus ((conv => lhs; simp (disch := omega)); done)))
  | ((with_reducible refine stabA_i (args' := ?_) ?_ ?_); rotate_left; (focus ((conv => lhs; simp (disch := omega)); done)))
  | ((with_reducible refine fnA_i (g := ?_) (caps := ?_) ?_ ?_); rotate_left; rotate_left; (focus ((conv => lhs; simp (disch := omega)); done)))
  | ((with_reducible refine ValA_fn (g := ?_) (caps := ?_) ?_ ?_); rotate_left; rotate_left; (focus ((conv => lhs; simp (disch := omega)); done)))
  | ((with_reducible refine stabA_fn (g := ?_) (caps := ?_) ?_ ?_); rotate_left; rotate_left; (focus ((conv => lhs; simp (disch := omega)); done)))
  | ((with_reducible refine appA_i (s' := ?_) (x' := ?_) ?_ ?_ ?_); rotate_left; rotate_left; (focus ((conv => lhs; simp (disch := omega)); done)); (focus ((conv => lhs; simp (disch := omega)); done)))
  | ((with_reducible refine stab_do ?_ ?_); (focus (simp (disch := omega); done)))
 exact yX.get) (x : X) : G := f ⟨x⟩
end Go.Vab

/-
  Rows that are copied: new memory behind.
-/
namespace Go.Vab
open Go
def BytFrom (m : Nat) (u : Heap) (y : AV) (b : Bs) : Prop := ∀ F l : Heap, F.length = m → BytL (F ++ (u ++ l)) y b
theorem BytFrom.at_ {m : Nat} {u : Heap} {y : AV} {b : Bs} (h : BytFrom m u y b) {F : Heap} (hF : F.length = m) : BytL (F ++ u) y b := by simpa using h F [] hF
theorem BytFrom.cell {m : Nat} {u : Heap} {y : AV} {b : Bs} (h : BytFrom m u y b) : hasTy y .cell = true := (h (List.replicate m ⟨.undef, 0, .own⟩) [] (by simp)).cell
theorem blkAt_behind {F F' u : Heap} {k ver : Nat} {b : Blk} (hF : F'.length = F.length) (hk : F.length ≤ k) (h : blkAt (F ++ u) k ver = some b) (l : Heap) : blkAt (F' ++ (u ++ l)) k ver = some b := by
 obtain ⟨k, rfl⟩ : ∃ j, k = F.length + j := ⟨k - F.length, by omega⟩
 rw [blkAt_new] at h
 rw [← hF, blkAt_new]
 exact blkAt_app h l
theorem mElems_behind {F F' u : Heap} {k ver : Nat} {path : List Nat} {t t' : Ty} {off len : Nat} {cap : Option Nat} {r : AV} (hF : F'.length = F.length) (hk : F.length ≤ k) (h : mElems t (.slice k ver path t' off len cap) (F ++ u) = some r) (l : Heap) :
  mElems t (.slice k ver path t' off len cap) (F' ++ (u ++ l)) = some r := by
 simp only [mElems] at h ⊢
 split at h
 ·rename_i hb
  rw [if_pos hb]
  obtain ⟨b, h1, h2⟩ := bnd_eq_some.1 h
  rw [blkAt_behind hF hk h1 l, bnd_some]
  exact h2
 ·cases h
@[simp] theorem rowLen_node (vs : List AV) : (AV.node vs).rowLen = some vs.length := rfl
@[simp] theorem join_node (vs us : List AV) : (AV.node vs).join (.node us) = some (.node (vs ++ us)) := rfl
@[simp] theorem cut_node_eq (vs : List AV) (off n : Nat) : (AV.node vs).cut off n = if off + n ≤ vs.length then some (.node ((vs.drop off).take n)) else none := rfl
@[simp] theorem cut_ints0 (k : IntKind) : (AV.ints k []).cut 0 0 = some (.ints k []) := rfl
theorem padRow_node {vs : List AV} {zero : AV} (hz : ∀ m, zeroRow m zero = .node (List.replicate m zero)) (m : Nat) : padRow (.node vs) zero m = some (.node (vs ++ List.replicate m zero)) := by
 unfold padRow; rw [hz]; rfl
theorem strip_arr (l : Bs) (m : Nat) : (arr l.length (Bs.g l)).join (.ints .u8 (List.replicate m 0)) = some (arr (l.length + m) fun i => if i < l.length then l.g i else 0#8) := by
 have : (AV.ints .u8 (List.replicate m 0)) = arr m fun _ => 0#8 := by
  simp [arr, bytes, List.map_const']
 rw [this, arr_join]
theorem fresh_fromB {F u : Heap} {l : Bs} {c m : Nat} (hc : l.length + m = c) (hb : l.length ≤ 140737488355328) :
  BytFrom F.length (u ++ [⟨arr (l.length + m) fun i => if i < l.length then l.g i else 0#8, 0, .own⟩]) (.slice (F ++ u).length 0 [] (.int .u8) 0 l.length (some c)) l := by
 intro F' e hF
 refine ⟨⟨?_, ⟨rfl, by omega, rfl⟩⟩, hb⟩
 rw [mElems_slc]
 have : blkAt (F' ++ (u ++ [⟨arr (l.length + m) fun i => if i < l.length then l.g i else 0#8, 0, .own⟩] ++ e)) (F ++ u).length 0 = some ⟨arr (l.length + m) fun i => if i < l.length then l.g i else 0#8, 0, .own⟩ := by
  rw [List.length_append, ← hF, blkAt_new, List.append_assoc, blkAt_new0]
  simp
 rw [this]
 simp only [bnd_some, get_nil, arr_cut, Nat.zero_add]
 rw [if_pos (by omega)]
 congr 1
 exact arr_congr fun i hi => by simp [hi]
theorem appW_copyB {H F u : Heap} {x : AV} {l : Bs} {k : Nat} {K : AV × Heap → Prop} (hH : H = F ++ u) (hs : mElems (.int .u8) (.slice k 0 [] (.int .u8) 0 0 (some 0)) H = some (.ints .u8 [])) (hx : BytL H x l) (hk : F.length ≤ k)
  (hK : ∀ y e, BytFrom F.length (u ++ e) y l → K (y, F ++ (u ++ e))) : appW (.int .u8) 1 (u8 0#8) (.slice k 0 [] (.int .u8) 0 0 (some 0)) x H K := by
 subst hH
 have hbd := hx.bound
 have e0 : (AV.ints .u8 []).join (arr l.length (Bs.g l)) = some (arr l.length (Bs.g l)) := by simp [AV.join, arr, bytes]
 refine ⟨arr l.length (Bs.g l), l.length, hx.1.1, arr_rowLen _ _, .ints .u8 [], _, hs, e0, ?_⟩
 by_cases h0 : l.length = 0
 ·have hv : l = [] := List.eq_nil_of_length_eq_zero h0
  subst hv
  refine .inl ⟨h0, Nat.le_refl _, ?_⟩
  have := hK (.slice k 0 [] (.int .u8) 0 0 (some 0)) [] fun F' e hF => ⟨⟨by simpa [arr, bytes] using mElems_behind hF hk hs e, ⟨rfl, Nat.le_refl _, rfl⟩⟩, by simp⟩
  simpa using this
 ·refine .inr (.inr ⟨by omega, by omega, by unfold roomBound; omega, by unfold roomBound; omega, by omega, fun c row hc hr => ?_⟩)
  unfold padRow zeroRow u8 at hr
  simp only [BitVec.toNat_ofNat, Nat.zero_mod, Int.ofNat_zero, Nat.zero_add] at hr
  have hr2 : (arr l.length (Bs.g l)).join (.ints .u8 (List.replicate (c - l.length) 0)) = some row := hr
  rw [strip_arr] at hr2
  cases hr2
  simp only [Nat.zero_add] at hc ⊢
  have := hK _ _ (fresh_fromB (F := F) (u := u) (l := l) (c := c) (m := c - l.length) (by omega) hbd)
  rw [List.append_assoc]
  exact this
theorem copyB0 {h u : Heap} {x : AV} {l : Bs} {k : Nat} {K : AV × Heap → Prop}
  (hs : mElems (.int .u8) (.slice k 0 [] (.int .u8) 0 0 (some 0)) (h ++ u) = some (.ints .u8 [])) (hx : BytL (h ++ u) x l) (hk : h.length ≤ k)
  (hK : ∀ y e, BytFrom h.length (u ++ e) y l → K (y, h ++ (u ++ e))) : appW (.int .u8) 1 (u8 0#8) (.slice k 0 [] (.int .u8) 0 0 (some 0)) x (h ++ u) K :=
 appW_copyB (F := h) (u := u) rfl hs hx hk hK
@[simp] theorem build0_u8 (h : Heap) : mBuildSlice (.int .u8) (u8 0#8) 0 [] h = some (.slice h.length 0 [] (.int .u8) 0 0 (some 0), h ++ [⟨.ints .u8 [], 0, .own⟩]) := by
 simp [mBuildSlice, fillRow, zeroRow, u8, hasTy]
section
variable (h : Heap) (z x : Seat) (z2 x2 : Inv) (z3 x3 : Ask) (z4 x4 : Ban)
@[simp] theorem build0_Seat : mBuildSlice tSeat (eSeat z) 0 [] h = some (.slice h.length 0 [] tSeat 0 0 (some 0), h ++ [⟨.node [], 0, .own⟩]) := rfl
@[simp] theorem build0_Inv : mBuildSlice tInvite (eInv z2) 0 [] h = some (.slice h.length 0 [] tInvite 0 0 (some 0), h ++ [⟨.node [], 0, .own⟩]) := rfl
@[simp] theorem build0_Ask : mBuildSlice tAsk (eAsk z3) 0 [] h = some (.slice h.length 0 [] tAsk 0 0 (some 0), h ++ [⟨.node [], 0, .own⟩]) := rfl
@[simp] theorem build0_Ban : mBuildSlice tBan (eBan z4) 0 [] h = some (.slice h.length 0 [] tBan 0 0 (some 0), h ++ [⟨.node [], 0, .own⟩]) := rfl
end
end Go.Vab

/-
  What may be: roles, access, actions.
-/
namespace Go.Vab
open Go
def roleOk (r : BitVec 8) : Bool := decide (r = 1#8) || decide (r = 2#8)
def accOk (a : Acc) : Bool := roleOk a.title && roleOk a.members && decide (a.link ≤ 2#8)
def hW (k : BitVec 8) : Bool := decide (k = 1#8) || decide (k = 5#8) || decide (k = 9#8) || decide (k = 10#8)
def hE (k : BitVec 8) : Bool := decide (k = 3#8) || decide (k = 12#8) || decide (k = 2#8) || decide (k = 6#8) || decide (k = 13#8) || decide (k = 14#8) || decide (k = 15#8)
def hR (k : BitVec 8) : Bool := decide (k = 1#8) || decide (k = 5#8) || decide (k = 3#8) || decide (k = 12#8)
def hT (k : BitVec 8) : Bool := decide (k = 16#8)
def hA (k : BitVec 8) : Bool := decide (k = 17#8)
def hP (k : BitVec 8) : Bool := decide (k = 9#8) || decide (k = 10#8) || decide (k = 18#8)
def eHas (w e r t a p : Bool) : AV := .node [.bool w, .bool e, .bool r, .bool t, .bool a, .bool p]
def hasV (k : BitVec 8) : AV := eHas (hW k) (hE k) (hR k) (hT k) (hA k) (hP k)
section
variable (w e r t a p x : Bool) (q : List Nat)
@[simp] theorem hasTy_eHas : hasTy (eHas w e r t a p) tLhas = true := by simp [eHas]
@[simp] theorem eHas_get0 : (eHas w e r t a p).get (0 :: q) = (AV.bool w).get q := by simp [eHas]
@[simp] theorem eHas_get1 : (eHas w e r t a p).get (1 :: q) = (AV.bool e).get q := by simp [eHas]
@[simp] theorem eHas_get2 : (eHas w e r t a p).get (2 :: q) = (AV.bool r).get q := by simp [eHas]
@[simp] theorem eHas_get3 : (eHas w e r t a p).get (3 :: q) = (AV.bool t).get q := by simp [eHas]
@[simp] theorem eHas_get4 : (eHas w e r t a p).get (4 :: q) = (AV.bool a).get q := by simp [eHas]
@[simp] theorem eHas_get5 : (eHas w e r t a p).get (5 :: q) = (AV.bool p).get q := by simp [eHas]
@[simp] theorem eHas_put0 : (eHas w e r t a p).put [0] (.bool x) = some (eHas x e r t a p) := by simp [eHas]
@[simp] theorem eHas_put1 : (eHas w e r t a p).put [1] (.bool x) = some (eHas w x r t a p) := by simp [eHas]
@[simp] theorem eHas_put2 : (eHas w e r t a p).put [2] (.bool x) = some (eHas w e x t a p) := by simp [eHas]
@[simp] theorem eHas_put3 : (eHas w e r t a p).put [3] (.bool x) = some (eHas w e r x a p) := by simp [eHas]
@[simp] theorem eHas_put4 : (eHas w e r t a p).put [4] (.bool x) = some (eHas w e r t x p) := by simp [eHas]
@[simp] theorem eHas_put5 : (eHas w e r t a p).put [5] (.bool x) = some (eHas w e r t a x) := by simp [eHas]
@[simp] theorem fold_eHas : AV.node [.bool w, .bool e, .bool r, .bool t, .bool a, .bool p] = eHas w e r t a p := rfl
end
def mayA (a : Actn) : Bool :=
 !(decide (a.kind < 1#8) || decide (18#8 < a.kind) || decide (200 < a.title.length)) &&
 !((!hW a.kind && !decide (a.who = ci0)) || (!hE a.kind && !decide (a.e = pt0)) || (!(hR a.kind == roleOk a.role)) || (!hR a.kind && !decide (a.role = 0#8))) &&
 !((!hT a.kind && decide (0 < a.title.length)) || (hA a.kind && !accOk a.acc) || (!hA a.kind && !decide (a.acc = acc0))) &&
 ((decide (a.pass.length = 0) && (!hP a.kind || decide (a.kind = 18#8))) || (decide (a.pass.length = 16) && hP a.kind))
@[simp] theorem mUn_not (b : Bool) : mUn .not (.bool b) = some (.bool !b) := rfl
theorem fin_b0 {h : Heap} {b c : Bool} (hb : c = b) : ∃ t, (oneOrTuple [.bool c], h) = ((.bool b, h ++ t) : AV × Heap) := ⟨[], by simp [oneOrTuple, hb]⟩
@[simp] theorem zero_Ci : AV.node [pt pt0, pt pt0] = eCi ci0 := rfl
@[simp] theorem ci0_fold : (⟨pt0, pt0⟩ : Ci) = ci0 := rfl
@[simp] theorem acc0_fold : (⟨0#8, 0#8, 0#8⟩ : Acc) = acc0 := rfl
@[simp] theorem fillRow_nil (t : Ty) (r : AV) : fillRow t r [] = some r := rfl
end Go.Vab

/-
  A writer: bytes that grow by append, in a cell of its own.
-/
namespace Go.Vab
open Go
def rb : AV → Option Nat
 | .slice b _ _ _ _ _ _ => some b
 | _ => none
@[simp] theorem build1_u8 (h : Heap) (b : BitVec 8) : mBuildSlice (.int .u8) (u8 0#8) 1 [(0, u8 b)] h = some (.slice h.length 0 [] (.int .u8) 0 1 (some 1), h ++ [⟨arr 1 fun _ => b, 0, .own⟩]) := by
 have e : zeroRow 1 (u8 0#8) = arr 1 fun _ => 0#8 := by simp [zeroRow, u8, arr, bytes]
 have e2 : upd (fun _ => 0#8) 0 b = upd (fun _ => 0#8) 0 b := rfl
 simp only [mBuildSlice, e, fillRow, arr_put, Nat.lt_irrefl]
 simp [Ty.size]
 exact arr_congr fun i hi => by
  have : i = 0 := by omega
  subst this; simp
def wp (wc : Nat) : AV := .ptr wc 0 [0] tWriter
end Go.Vab

/-
  Functions without a body: internal/bytealg.Compare.
-/
namespace Go.Vab
open Go
def cmpB : Bs → Bs → Int
 | [], [] => 0
 | [], _ :: _ => -1
 | _ :: _, [] => 1
 | a :: xs, b :: ys => if a < b then -1 else if b < a then 1 else cmpB xs ys
def by8 (l : Bs) : List UInt8 := l.map fun c => UInt8.ofNat c.toNat
theorem by8_lt (a b : BitVec 8) : UInt8.ofNat a.toNat < UInt8.ofNat b.toNat ↔ a < b := by
 rw [UInt8.lt_iff_toNat_lt, BitVec.lt_def]
 have := a.isLt
 have := b.isLt
 simp
theorem cmpB_eq : ∀ a b : Bs, Lib.compareBytes (by8 a) (by8 b) = cmpB a b
 | [], [] => rfl
 | [], _ :: _ => rfl
 | _ :: _, [] => rfl
 | a :: xs, b :: ys => by
  simp only [by8, List.map_cons, Lib.compareBytes, cmpB]
  by_cases h : a < b
  ·rw [if_pos ((by8_lt _ _).2 h), if_pos h]
  ·rw [if_neg (fun q => h ((by8_lt _ _).1 q)), if_neg h]
   by_cases h2 : b < a
   ·rw [if_pos ((by8_lt _ _).2 h2), if_pos h2]
   ·rw [if_neg (fun q => h2 ((by8_lt _ _).1 q)), if_neg h2]
    exact cmpB_eq xs ys
def bi (l : Bs) : List Int := l.map fun x => (x.toNat : Int)
theorem arr_bi (l : Bs) : arr l.length (Bs.g l) = .ints .u8 (bi l) := by
 unfold arr bytes bi
 congr 2
 apply List.ext_getElem?
 intro i
 rw [range_map_getD]
 split
 ·rename_i hi
  simp [Bs.g, List.getD_eq_getElem?_getD, List.getElem?_eq_getElem hi]
 ·rename_i hi
  rw [List.getElem?_eq_none (by omega)]
theorem run_loadB {P : Program} (w : World) : ∀ (l : Bs) (a : Addr) (acc : ByteArray), (∀ j x, (bi l)[j]? = some x → w.cell? (a.add j) = some (.int .u8 x)) →
  (Extern.Bytes.loadBytes a l.length acc).run P w = .ok ⟨acc.data ++ (by8 l).toArray⟩ w
 | [], a, acc, _ => by simp [Extern.Bytes.loadBytes, by8]
 | x :: l, a, acc, h => by
  have h0 : w.cell? a = some (.int .u8 (x.toNat : Int)) := by
   have := h 0 x.toNat rfl
   simpa [Addr.add] using this
  have ih := run_loadB (P := P) w l (a.add 1) (acc.push (x.toNat : Int).toNat.toUInt8) (fun j y hy => by
   have := h (j + 1) y (by simpa [bi] using hy)
   have e : (a.add 1).add j = a.add (j + 1) := by
    unfold Addr.add
    by_cases hj : j = 0
    ·subst hj; simp
    ·simp [hj]; omega
   rw [e]; exact this)
  simp only [List.length_cons, Extern.Bytes.loadBytes, Sem.run_bind, run_load, h0, Result.andThen]
  rw [ih]
  congr 1
  apply ByteArray.ext
  simp [ByteArray.push, by8]
section
variable {P : Program} {E : Gh} {h : Heap} {w : World} (R : RelHeap E h w)
include R
theorem elems_cells {i ver : Nat} {path : List Nat} {t t' : Ty} {off len : Nat} {cap : Option Nat} {new : AV} {y : Value} (he : mElems t (.slice i ver path t' off len cap) h = some new) (hx : VRel E (.slice i ver path t' off len cap) y) :
  ∃ a c l, y = .slice (some a) len c ∧ VRl E new l ∧ l.length = len * t.size ∧ ∀ k x, l[k]? = some x → w.cell? (a.add k) = some x := by
 simp only [mElems] at he
 split at he
 ·rename_i hbt
  have hte := Ty.beq_eq _ _ hbt
  subst hte
  obtain ⟨b, hb, he⟩ := bnd_eq_some.1 he
  obtain ⟨r, hg, he⟩ := bnd_eq_some.1 he
  simp only [VRel] at hx
  obtain ⟨a, c, rfl, hi, hv, hlen, hcap, hcn, hs⟩ := hx
  obtain ⟨hbi, hbv⟩ := blkAt_spec hb
  have hver : ver = E.ver i := by rw [← hbv]; exact (R.at_ i b hbi).ver
  obtain ⟨o, n, hsub, ha, hroom⟩ := hs hver
  obtain ⟨m, l, hm, hl, hc⟩ := cont_cells R hver hsub hb hg
  obtain ⟨k1, k2, k3⟩ := cut_spec he hm hl
  have hll := VRl.len new _ _ k1 k3
  simp only [Ty.size] at hll
  refine ⟨a, c, _, rfl, k3, hll, fun k x hk => ?_⟩
  by_cases hc0 : c = 0
  ·have : len = 0 := by omega
   subst this
   have hk1 := (List.getElem?_eq_some_iff.1 hk).1
   simp at hk1
  ·rw [ha hc0, add_mk]
   have hk1 := (List.getElem?_eq_some_iff.1 hk).1
   rw [List.getElem?_take_of_lt (by omega), List.getElem?_drop] at hk
   have := hc _ x hk
   rw [show E.base i + o + (off * t'.size + k) = E.base i + o + off * t'.size + k by omega] at this
   exact this
 ·cases he
theorem bytesOf_spec {x : AV} {l : Bs} {y : Value} (hb : BytL h x l) (hx : VRel E x y) : (Extern.Bytes.bytesOf y).run P w = .ok ⟨(by8 l).toArray⟩ w := by
 have h1 := hb.1.1
 have h2 := hb.1.2
 cases x with
 | nilslice =>
  have hl : l = [] := List.eq_nil_of_length_eq_zero h2
  subst hl
  simp only [VRel] at hx; subst hx
  rfl
 | slice i ver path t off len cap =>
  obtain ⟨a, c, m, rfl, hm, hlen, hc⟩ := elems_cells R h1 hx
  have hL : len = l.length := by
   unfold slOk at h2
   split at h2 <;> simp_all
  have hm' : m = (bi l).map (Value.int .u8) := by
   rw [arr_bi] at hm
   simpa only [VRl] using hm
  have key := run_loadB (P := P) w l a .empty fun j x hj => hc j _ (by rw [hm', List.getElem?_map, hj]; rfl)
  rw [hL]
  simp only [Extern.Bytes.bytesOf]
  rw [key]
  congr 1
  apply ByteArray.ext
  show #[] ++ _ = _
  simp
 | _ => unfold slOk at h2; split at h2 <;> first | exact h2.elim | (rename_i e; cases e)
end
theorem cmp_spec {P : Program} {f : Nat} {fn : Func} (hf : P.funcs[f]? = some fn) (hname : (fn.name == "runtime.NumGoroutine") = false) (hb : fn.body.isNone = true) (hn : Extern.findNext fn = none) (he : Extern.find fn = some Extern.BytealgCompare.compare)
  {h : Heap} {x y : AV} {a b : Bs} (hx : BytL h x a) (hy : BytL h y b) : SpecQ P f [x, y] h fun r => r = (.int .i64 (cmpB a b), h) := by
 intro E w xs R hxs
 simp only [VRc] at hxs
 obtain ⟨vx, xs1, rfl, h1, vy, xs2, rfl, h2, rfl⟩ := hxs
 refine .inr ⟨.int .i64 (cmpB a b), w, _, E, ?_, rfl, by simp only [VRel], Moves.refl R⟩
 rw [run_callFunc_extern hf hname hb hn he]
 have q1 := bytesOf_spec (P := P) R hx h1
 have q2 := bytesOf_spec (P := P) R hy h2
 have e : ∀ p q : Value, Extern.BytealgCompare.compare #[p, q] = (do pure (goInt (Extern.BytealgCompare.cmp (← Extern.Bytes.bytesOf p) (← Extern.Bytes.bytesOf q)))) := fun p q => rfl
 rw [e]
 simp only [Sem.run_bind, q1, q2, Result.andThen_ok, Sem.run_pure]
 rw [Lib.cmp_eq]
 show Result.ok (Next.value (Value.int .i64 _)) w = _
 rw [cmpB_eq]
end Go.Vab

/-
  Which types are maps of handles.
-/
namespace Go.Vab
open Go
theorem mapT_mk {P : Program} {tt : Nat → Option TI} (T : TTok P tt) {t k e b : Nat} (hl : laidOutB P = true) (h1 : P.underlying t = some (.map k e)) (h2 : P.underlying k = some (.array 32 b)) (h3 : P.underlying b = some (.int .u8))
  {el : TI} (hel : tt e = some el) (hez : el.zero = .int .i64 0) (hrow : k < P.types.size) (hkt : P.keyTypeAt 2 k = true) (hkt' : P.keyType k = true) (hc : P.cellsOf k = 32) (hc1 : P.cellsOf b = 1) : MapT P t := by
 refine ⟨k, e, h1, Maps.Keyed.of_law (deep_law_laid hl (m := 2) (by omega) hrow hkt (by rw [h2])), fun w => ?_, fun ks hok => ?_⟩
 ·obtain ⟨z, h4, h5⟩ := run_zero_tt T hel w
  have := h5 ⟨0, fun _ => 0, fun _ => 0, fun _ => 0, fun _ => 0, fun _ => false, fun _ => .cell⟩
  rw [hez] at this
  simp only [VRel] at this
  rw [h4, this]
 simp only [okKey, Bool.and_eq_true, decide_eq_true_eq, List.all_eq_true] at hok
 obtain ⟨hlen, hin⟩ := hok
 obtain ⟨m, hm⟩ : ∃ m, P.types.size = m + 1 := ⟨P.types.size - 1, by omega⟩
 unfold keyOf
 rw [h2]
 simp only [hkt', Bool.true_and]
 have hf : (keyVal ks).formed P k = true := by
  unfold Value.formed keyVal
  simp only [h2, hc]
  simp [hlen]
 rw [if_pos hf]
 have hlits : ∀ x ∈ ks, P.keyLits (m + 1) b [.int .u8 x] = some [.int .u8 x] := by
  intro x hx
  have := hin x hx
  unfold Program.keyLits
  simp only [h3]
  have hw : (Lit.int .u8 x).wf = true := by
   simp [Lit.wf, IntKind.min, IntKind.max, IntKind.signed, IntKind.bits]; omega
  simp [hw]
 have key : P.keyLits (P.types.size + 1) k (keyVal ks).cells.toList = some (ks.map (Lit.int .u8)) := by
  rw [hm]
  unfold Program.keyLits
  simp only [h2]
  have hcl : (keyVal ks).cells.toList = ks.map (Value.int .u8) := by simp [keyVal, Value.cells]
  rw [hcl, if_pos (by rw [hc]; simp [hlen])]
  have : ((List.range 32).mapM fun i => P.keyLits (m + 1) b (((ks.map (Value.int .u8)).drop (i * P.cellsOf b)).take (P.cellsOf b))) = some (ks.map fun x => [Lit.int .u8 x]) := by
   rw [hc1, ← hlen]
   clear hcl hf hin hlen
   have gen : ∀ (l pre : List Int), (∀ x ∈ l, P.keyLits (m + 1) b [.int .u8 x] = some [.int .u8 x]) →
     ((List.range' pre.length l.length).mapM fun i => P.keyLits (m + 1) b ((((pre ++ l).map (Value.int .u8)).drop (i * 1)).take 1)) = some (l.map fun x => [Lit.int .u8 x]) := by
    intro l
    induction l with
    | nil => intro pre _; rfl
    | cons x l ih =>
     intro pre hx
     rw [List.length_cons, List.range'_succ, List.mapM_cons]
     have h0 : (((pre ++ x :: l).map (Value.int .u8)).drop (pre.length * 1)).take 1 = [Value.int .u8 x] := by simp
     rw [h0, hx x (List.mem_cons_self ..)]
     have h1 := ih (pre ++ [x]) fun y hy => hx y (List.mem_cons_of_mem _ hy)
     simp only [List.length_append, List.length_singleton, List.append_assoc, List.singleton_append] at h1
     simp only [Option.bind_eq_bind, Option.bind_some]
     rw [h1]
     rfl
   have := gen ks [] hlits
   simpa [List.range_eq_range'] using this
  rw [this]
  simp only [Option.map_some, Option.some.injEq]
  clear hcl this hf hin hlen hlits
  induction ks with
  | nil => rfl
  | cons x l ih => simp only [List.map_cons, List.flatten_cons, ih]; rfl
 rw [key]
 exact ⟨_, rfl⟩
end Go.Vab

/-
  Maps of handles, and lists whose handles rise.
-/
namespace Go.Vab
open Go
def hasPt (p : Pt) (vs : List AV) : Bool := hasKey (bi p.l) vs
theorem pt_bi (p : Pt) : pt p = .ints .u8 (bi p.l) := by
 have := arr_bi p.l
 rw [p.h] at this
 exact this
theorem okKey_pt (p : Pt) : okKey (bi p.l) = true := by
 simp only [okKey, bi, List.length_map, p.h, decide_true, Bool.true_and, List.all_eq_true, decide_eq_true_eq, List.mem_map]
 rintro x ⟨c, _, rfl⟩
 have := c.isLt
 omega
theorem bi_inj {a b : Bs} (h : bi a = bi b) : a = b := by
 induction a generalizing b with
 | nil => cases b with
  | nil => rfl
  | cons y b => simp [bi] at h
 | cons x a ih => cases b with
  | nil => simp [bi] at h
  | cons y b =>
   simp only [bi, List.map_cons, List.cons.injEq] at h
   rw [BitVec.eq_of_toNat_eq (show x.toNat = y.toNat by omega), ih h.2]
@[simp] theorem hasPt_map (p : Pt) (seen : List Pt) : hasPt p (seen.map pt) = decide (p ∈ seen) := by
 unfold hasPt
 have : seen.map pt = (seen.map fun q => bi q.l).map (AV.ints .u8) := by
  rw [List.map_map]; exact List.map_congr_left fun q _ => pt_bi q
 rw [this, hasKey_map]
 refine dec_iff ⟨fun h => ?_, fun h => List.mem_map.2 ⟨p, h, rfl⟩⟩
 obtain ⟨q, hq, e⟩ := List.mem_map.1 h
 rw [← Pt.ext' (bi_inj e)]; exact hq
@[simp] theorem mLook_pt (i : Nat) (p : Pt) (h : Heap) : mLook (.map i) (pt p) h = bnd (mapAt h i) fun vs => some (nat (if hasPt p vs = true then 1 else 0)) := by
 rw [pt_bi]
 unfold mLook
 simp only [okKey_pt, if_true]
 congr 1
 funext vs
 unfold hasPt nat
 split <;> rfl
@[simp] theorem mUpd_pt (i : Nat) (p : Pt) (h : Heap) : mUpd (.map i) (pt p) (nat 1) h = bnd (mapAt h i) fun vs => some (.undef, h.set i ⟨.node (if hasPt p vs = true then vs else vs ++ [pt p]), 0, .mp⟩) := by
 rw [pt_bi]
 unfold mUpd nat
 simp only [okKey_pt, Int.natCast_one, and_self, if_true]
 rfl
theorem mapAt_app {h : Heap} {i : Nat} {vs : List AV} (hm : h[i]? = some ⟨.node vs, 0, .mp⟩) (l : Heap) : mapAt (h ++ l) i = some vs :=
 mapAt_of (by rw [List.getElem?_append_left (List.getElem?_eq_some_iff.1 hm).1]; exact hm)
theorem set_appL {h : Heap} {i : Nat} {b : Blk} (hm : h[i]? = some b) (l : Heap) (c : Blk) : (h ++ l).set i c = h.set i c ++ l := by
 rw [List.set_append, if_pos (List.getElem?_eq_some_iff.1 hm).1]
@[simp] theorem blkAt_setm (h l : Heap) (m : Nat) (b : Blk) (k ver : Nat) : blkAt (h.set m b ++ l) (h.length + k) ver = blkAt l k ver := by
 have := blkAt_new (h.set m b) l k ver
 rwa [List.length_set] at this
@[simp] theorem blkAt_setm0 (h l : Heap) (m : Nat) (b : Blk) (ver : Nat) : blkAt (h.set m b ++ l) h.length ver = blkAt l 0 ver := blkAt_setm h l m b 0 ver
@[simp] theorem set_setm (h l : Heap) (m : Nat) (b : Blk) (k : Nat) (c : Blk) : (h.set m b ++ l).set (h.length + k) c = h.set m b ++ l.set k c := by
 have := set_new (h.set m b) l k c
 rwa [List.length_set] at this
@[simp] theorem set_setm0 (h l : Heap) (m : Nat) (b c : Blk) : (h.set m b ++ l).set h.length c = h.set m b ++ l.set 0 c := set_setm h l m b 0 c
theorem mElems_setm {t : Ty} {x : AV} {h : Heap} {m : Nat} {b c : Blk} {r : AV} (hm : h[m]? = some b) (hb : b.mode = .mp) (he : mElems t x h = some r) : mElems t x (h.set m c) = some r := by
 cases x with
 | slice i ver path t' off len cap =>
  simp only [mElems] at he ⊢
  split at he
  ·rename_i ht
   rw [if_pos ht]
   obtain ⟨d, h1, h2⟩ := bnd_eq_some.1 he
   obtain ⟨h3, h4⟩ := blkAt_spec h1
   have hne : m ≠ i := by
    rintro rfl
    rw [hm] at h3; cases h3
    exact blkAt_mp h1 hb
   have : blkAt (h.set m c) i ver = some d := by
    unfold blkAt at h1 ⊢
    rw [List.getElem?_set_ne hne]; exact h1
   rw [this]; exact h2
  ·cases he
 | _ => exact he
theorem Row.setm {t : Ty} {x : AV} {h : Heap} {m : Nat} {b c : Blk} {vs : List AV} (r : Row t h x vs) (hm : h[m]? = some b) (hb : b.mode = .mp) : Row t (h.set m c) x vs := ⟨mElems_setm hm hb r.1, r.2⟩
theorem pt_bytA {h : Heap} {i : Nat} {path : List Nat} {p : Pt} (hb : (bnd (blkAt h i 0) fun b => b.v.get path) = some (pt p)) : BytL h (.slice i 0 path (.int .u8) 0 32 (some 32)) p.l := by
 obtain ⟨b, h1, h2⟩ := bnd_eq_some.1 hb
 refine ⟨⟨?_, by rw [p.h]; exact ⟨rfl, Nat.le_refl _, rfl⟩⟩, by rw [p.h]; omega⟩
 rw [mElems_slc, h1, bnd_some, h2, bnd_some, p.h]
 unfold pt
 rw [arr_cut, if_pos (by omega)]
 exact congrArg some (arr_congr fun i _ => by rw [Nat.zero_add]; rfl)
def goodAt (seen ps : List Pt) (i : Nat) : Bool := !decide (ps.getD i pt0 ∈ seen ++ ps.take i) && (decide (i = 0) || decide (cmpB (ps.getD (i - 1) pt0).l (ps.getD i pt0).l < 0))
def riseB (seen ps : List Pt) : Bool := (List.range ps.length).all (goodAt seen ps)
theorem riseB_no {seen ps : List Pt} {i : Nat} (hi : i < ps.length) (h : goodAt seen ps i = false) : riseB seen ps = false := by
 unfold riseB
 rw [List.all_eq_false]
 exact ⟨i, List.mem_range.2 hi, by simp [h]⟩
theorem riseB_yes {seen ps : List Pt} (h : ∀ i, i < ps.length → goodAt seen ps i = true) : riseB seen ps = true := by
 unfold riseB
 rw [List.all_eq_true]
 exact fun i hi => h i (List.mem_range.1 hi)
@[simp] theorem int_ge (a : Int) : mBin .geq (.int .i64 a) (nat 0) = some (.bool (decide (0 ≤ a))) := by simp [mBin, mBinI, nat]
theorem unders_pt (n : Nat) : ∀ l : List Pt, AV.unders n (l.map pt) = true
 | [] => rfl
 | p :: l => by simp only [List.map_cons, AV.unders, unders_pt n l, pt_bi, AV.under, Bool.and_self]
@[simp] theorem mMkMap_eq (h : Heap) : mMkMap h = some (.map h.length, h ++ [⟨.node [], 0, .mp⟩]) := rfl
theorem map_new {h : Heap} {c : Blk} {l : List Pt} : (h ++ [c, ⟨.node (l.map pt), 0, .mp⟩])[h.length + 1]? = some ⟨.node (l.map pt), 0, .mp⟩ := by
 rw [List.getElem?_append_right (by omega), Nat.add_sub_cancel_left]; rfl
theorem map_put {h : Heap} {c d e : Blk} : (h ++ [c, d]).set (h.length + 1) e = h ++ [c, e] := by simp
end Go.Vab

/-
  The forms tell actions and states apart: plain law.
-/
namespace Go.Vab
open Go
end Go.Vab
