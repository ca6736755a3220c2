/-
  Every operation but a call.
-/
import Derived.Test.YtjoepfedeidgaaaGreatV0
import Derived.LoopN
import Derived.Orders
import Derived.KernelRfl
import Derived.ProofKit
import Derived.OpenShut
import Derived.Maps.Keyed
import Derived.Carry
import Derived.Laws.LoneSync
import Derived.Laws.Externs
set_option linter.all false
set_option linter.unusedSectionVars false
namespace Go.Vab
open Go
def NextIs (n : Next) (x : Value) : Prop := n = .value x ∨ (n = .skip ∧ x = Go.undef)
theorem str_sound {P : Program} {tt : Nat → Option TI} (T : TTok P tt) {E : Gh} {h : Heap} {w : World} (R : RelHeap E h w) {s d e : Nat} {el : TI} (hs : P.underlying s = some (.slice e)) (hd : P.underlying d = some .string) (hel : tt e = some el)
  (hk : el.ty = .int .u8) {x v : AV} {xv : Value} (hx : VRel E x xv) (he0 : mStr x h = some v) :
  ∃ y, (convert s d xv).run P w = .ok y w ∧ VRel E v y := by
 have hns : ∀ b, x ≠ .str b := by rintro b rfl; simp [mStr] at he0
 have he : (bnd (mElems (.int .u8) x h) fun r => match r with | .ints _ xs => some (AV.str ⟨(xs.map fun n => UInt8.ofNat n.toNat).toArray⟩) | _ => none) = some v := by
  cases x <;> first | exact he0 | exact absurd rfl (hns _)
 obtain ⟨r, hr, he⟩ := bnd_eq_some.1 he
 obtain ⟨n, l, k1, k2, k3, k4, k5⟩ := elems_spec (P := P) R hr hx
 obtain ⟨_, hlr⟩ : True ∧ True := ⟨trivial, trivial⟩
 cases r with
 | ints k xs =>
  simp at he; subst he
  obtain ⟨hk8, hn⟩ := hasTy_ints_arr k2
  injection hk8 with hk8
  subst hk8
  simp only [VRl] at k3; subst k3
  have hue := T.int e el .u8 hel hk
  have conv : ∀ a l c, (convert s d (.slice a l c)).run P w = (Conv.bytesToString (.slice a l c)).run P w := fun a l c => run_convert_bytes_string w s d e a l c hs hue hd
  have hfc := k5 w rfl n (Nat.le_refl _)
  simp only [Ty.size, Nat.mul_one] at hfc
  rw [← hn, show xs.length = (xs.map (Value.int .u8)).length by simp, List.take_length] at hfc
  have fold : ∀ (ns : List Int) (s : ByteArray), (ns.foldl (fun r n => r.push (UInt8.ofNat n.toNat)) s).data.toList = s.data.toList ++ ns.map fun n => UInt8.ofNat n.toNat := by
   intro ns
   induction ns with
   | nil => intro s; simp
   | cons n ns ih => intro s; simp [ih]
  cases x with
  | nilslice =>
   simp only [VRel] at hx; subst hx
   simp [mElems] at hr
   subst hr
   refine ⟨.string .empty, ?_, ?_⟩
   ·rw [conv]; rfl
   ·simp only [VRel]; rfl
  | slice i ver path t' off len cap =>
   simp only [VRel] at hx
   obtain ⟨a, c, rfl, _⟩ := hx
   have hln : len = n := by
    simp only [Builtin.lenOf, Sem.run_pure] at k4
    injection k4
   refine ⟨.string (xs.foldl (fun r n => r.push (UInt8.ofNat n.toNat)) ByteArray.empty), ?_, ?_⟩
   ·rw [conv, run_bytesToString w a len c xs]
    simpa [Builtin.firstCells, ← hn, hln] using hfc
   ·simp only [VRel]
    congr 1
    have h1 := fold xs ByteArray.empty
    generalize List.foldl (fun r n => ByteArray.push r (UInt8.ofNat n.toNat)) ByteArray.empty xs = z at *
    cases z with
    | mk zd =>
     congr 1
     apply Array.ext'
     simpa using h1
  | str b => exact absurd rfl (hns b)
  | _ => simp [mElems] at hr
 | _ => simp at he
theorem make_sound {P : Program} {tt : Nat → Option TI} (T : TTok P tt) {E : Gh} {h : Heap} {w : World} (R : RelHeap E h w) {t e : Nat} {el : TI} (hu : P.underlying t = some (.slice e)) (hel : tt e = some el) (hne : el.ty.size ≠ 0)
  {l c v : AV} {lv cv : Value} {h' : Heap} (hl : VRel E l lv) (hc : VRel E c cv) (he : mMake el.ty el.bytes el.zero l c h = some (v, h')) :
  ∃ E' w' y, (Instr.makeSlice t lv cv).run P w = .ok y w' ∧ VRel E' v y ∧ Moves E h w E' h' w' := by
 unfold mMake at he
 split at he
 ·rename_i k1 n k2 m
  split at he
  ·rename_i hcond
   obtain ⟨h0, hnm, hmb, hmr, hzt⟩ := hcond
   simp only [VRel] at hl hc; subst hl; subst hc
   obtain ⟨n, rfl⟩ := Int.eq_ofNat_of_zero_le h0
   obtain ⟨m, rfl⟩ := Int.eq_ofNat_of_zero_le (show 0 ≤ m by omega)
   simp only [Int.toNat_natCast] at he
   obtain ⟨f, z, hf, hfs, hfb, hz, hzr⟩ := T.info e el hel
   have hzt := T.zero e el hel
   have hzc := VRel.cells hzt (hzr E)
   have hzl := VRl.len _ _ _ hzt hzc
   rw [Array.length_toList] at hzl
   have hti : ∀ w, (typeInfo e).run P w = .ok f w := fun w => by simp [typeInfo, hf]
   have hwm : IntKind.i64.wrap (m : Int) = m := by
    unfold roomBound at hmr
    unfold IntKind.wrap
    simp [IntKind.bits, IntKind.signed]; omega
   have hwn : IntKind.i64.wrap (n : Int) = n := by
    unfold roomBound at hmr
    unfold IntKind.wrap
    simp [IntKind.bits, IntKind.signed]; omega
   have hbytes : ¬ ((f.bytes : Int) * (m : Int) > 2 ^ 48) := by
    rw [hfb]
    unfold roomBound at hmb
    have : (m : Int) * (el.bytes : Int) = (el.bytes : Int) * (m : Int) := Int.mul_comm _ _
    omega
   -- the new cells
   have hrep : ∀ q : Nat, ∃ l, VRl E (match el.zero with | .int k z => .ints k (List.replicate q z) | z => .node (List.replicate q z)) l ∧ l.length = q * el.ty.size ∧
     hasTy (match el.zero with | .int k z => AV.ints k (List.replicate q z) | z => .node (List.replicate q z)) (.arr q el.ty) = true ∧ l = ((List.range (q * el.ty.size)).map fun x => z.cells[x % z.cells.size]!) := by
    intro q
    have hflat : ∀ q : Nat, (List.range (q * z.cells.size)).map (fun x => z.cells[x % z.cells.size]!) = (List.replicate q z.cells.toList).flatten := by
     intro q
     induction q with
     | zero => simp
     | succ q ih =>
      rw [Nat.succ_mul, Nat.add_comm, List.range_add, List.map_append, List.replicate_succ, List.flatten_cons]
      congr 1
      ·apply List.ext_getElem?
       intro k
       by_cases hk : k < z.cells.size
       ·simp [hk, Nat.mod_eq_of_lt hk]
       ·simp [hk]
      ·rw [← ih, List.map_map]
       apply List.map_congr_left
       intro x _
       simp [Nat.add_mod_left]
    cases hzz : el.zero with
    | int k z0 =>
     have hk : el.ty = .int k := by rw [hzz] at hzt; cases hx : el.ty <;> rw [hx] at hzt <;> simp [hasTy, AV.oneCell] at hzt; rw [hzt]
     have hzv : z = .int k z0 := by have := hzr E; rw [hzz] at this; simpa only [VRel] using this
     refine ⟨(List.replicate q z0).map (Value.int k), by simp only [VRl], by simp [hk, Ty.size], by rw [hk]; simp [hasTy], ?_⟩
     rw [hk, hzv]
     simp [Ty.size, Value.cells, Nat.mod_one]
     rw [List.map_const']; simp
    | _ =>
     have hnode : ∀ (zz : AV), el.zero = zz → (∀ k n, zz ≠ .int k n) → ∃ l, VRl E (.node (List.replicate q zz)) l ∧ l.length = q * el.ty.size ∧ hasTy (.node (List.replicate q zz)) (.arr q el.ty) = true ∧
       l = ((List.range (q * el.ty.size)).map fun x => z.cells[x % z.cells.size]!) := by
      intro zz hzz hni
      have hv : ∀ q, VRs E (List.replicate q zz) ((List.replicate q z.cells.toList).flatten) := by
       intro q
       induction q with
       | zero => simp [VRs]
       | succ q ih =>
        rw [List.replicate_succ, List.replicate_succ, List.flatten_cons]
        exact VRs.cons (by rw [← hzz]; exact hzc) ih
      refine ⟨(List.replicate q z.cells.toList).flatten, by simp only [VRl]; exact hv q, ?_, ?_, ?_⟩
      ·simp [hzl]
      ·have hall : hasTyAll (List.replicate q zz) el.ty = true := by
        rw [hasTyAll_iff]; intro v hv
        rw [List.eq_of_mem_replicate hv, ← hzz]; exact hzt
       rw [hzz] at hzt
       cases hx : el.ty with
       | int k =>
        rw [hx] at hzt
        cases zz <;> simp [hasTy] at hzt
        exact absurd rfl (hni _ _)
       | _ => rw [hx] at hall; simp only [hasTy, Bool.and_eq_true, decide_eq_true_eq]; exact ⟨by simp, hall⟩
      ·rw [← hzl]; exact (hflat q).symm
     exact hnode _ hzz (by simp)
   obtain ⟨cl, c1, c2, c3, c4⟩ := hrep m
   have he1 := Option.some.inj he
   obtain ⟨e1, e2⟩ := Prod.mk.inj he1
   subst e1; subst e2
   refine ⟨E.push w.heap.size cl.length 0 true (.arr 0 el.ty), { w with heap := w.heap.push (.cells cl.toArray e (0, 0)) }, .slice (some ⟨w.heap.size, 0, none⟩) n m, ?_, ?_, ?_⟩
   ·have htl : (decide ((m : Int) < 0) || decide ((f.bytes : Int) * (m : Int) > 2 ^ 48)) = false := by
     rw [Bool.or_eq_false_iff]; exact ⟨by simp, by simpa using hbytes⟩
    have hln : decide ((n : Int) < 0) = false := by simp
    have hgt : decide ((n : Int) > (m : Int)) = false := by simp; omega
    simp only [Instr.makeSlice, Sem.run_bind, run_underlying hu w, Result.andThen_ok, asInt, asIntOf, Sem.run_pure, hti, hwm, hwn, htl, hln, hgt, Bool.or_self, Bool.false_eq_true, if_false, run_askRoom, Int.toNat_natCast, run_sizeOf_tt T hel w]
    by_cases hz0 : m * el.ty.size = 0
    ·have hcl : cl = [] := List.eq_nil_of_length_eq_zero (by rw [c2]; exact hz0)
     subst hcl
     simp [hz0, newRow]
     congr 2
     apply Array.ext'
     simp
    ·have hzv : (zeroValue e).run P w = .ok z w := by simp [zeroValue, hti, hz]
     simp only [hz0, if_false, Sem.run_bind, hzv, Result.andThen_ok, Sem.run_pure, newRow, run_newObj]
     have : (Array.range (m * el.ty.size)).map (fun x => z.cells[x % z.cells.size]!) = cl.toArray := by
      apply Array.ext'
      rw [c4]; simp
     rw [this]
   ·simp only [VRel]
    refine ⟨_, m, rfl, by simp [Gh.push, R.n], by simp [Gh.push, R.n], by omega, fun x hx => by simpa using hx, fun hx => (by cases hx), fun _ => ⟨0, 0, by simp [Gh.push, R.n, Ty.sub], fun _ => by simp [Gh.push, R.n], fun hx => (by cases hx)⟩⟩
   ·exact moves_push R ⟨_, 0, .own⟩ cl.length true (.arr 0 el.ty) (by simp) (by simp only [if_true]; exact ⟨m, _, rfl, c3⟩) (by simp) c1 (.inl ⟨cl.toArray, e, (0, 0), [], rfl, by simp, by simp, by simp⟩) ⟨rfl, rfl, rfl⟩
  ·cases he
 ·cases he
end Go.Vab

/-
  Every operation but a call of a Go function, at the model's own step.
-/
namespace Go.Vab
open Go
section
variable {P : Program} {C : Ctx} (T : TTok P C.tt) {E : Gh} {h : Heap} {w : World} (R : RelHeap E h w)
theorem withTy_some {α : Type} {t : Nat} {f : TI → Option α} {a : α} (h : withTy C t f = some a) : ∃ i, C.tt t = some i ∧ f i = some a := by
 unfold withTy at h
 split at h
 ·exact ⟨_, by assumption, h⟩
 ·cases h
theorem pureV_some {h h' : Heap} {x : Option AV} {v : AV} (he : pureV h x = some (v, h')) : x = some v ∧ h' = h := by
 unfold pureV at he
 obtain ⟨a, h1, h2⟩ := bnd_eq_some.1 he
 simp at h2
 exact ⟨by rw [h1, h2.1], h2.2.symm⟩
theorem optRel_map {V : Operand → AV} {ev : Operand → Value} (hV : ∀ x, VRel E (V x) (ev x)) (o : Option Operand) : optRel E (o.map V) (o.map ev) := by
 cases o <;> simp [optRel, hV]
theorem partsRel_map {V : Operand → AV} {ev : Operand → Value} (hV : ∀ x, VRel E (V x) (ev x)) : ∀ (l : List (Nat × Operand)), partsRel E (l.map fun p => (p.1, V p.2)) (l.map fun p => (p.1, ev p.2))
 | [] => trivial
 | (_, x) :: l => ⟨rfl, hV x, partsRel_map hV l⟩
theorem un_sound {P : Program} {w : World} {E : Gh} {op : UnOp} {x v : AV} {xv : Value} (hx : VRel E x xv) (he : mUn op x = some v) : ∃ y, (Op.unary op xv).run P w = .ok y w ∧ VRel E v y := by
 cases op <;> cases x <;> simp [mUn] at he <;> subst he <;> simp only [VRel] at hx <;> subst hx <;> simp only [VRel] <;> refine ⟨_, ?_, rfl⟩ <;> simp [Op.unary, Op.intArith, Op.intBits]
theorem makeFunc_rel {V : Operand → AV} {ev : Operand → Value} (hV : ∀ x, VRel E (V x) (ev x)) : ∀ (l : List Operand), VRc E (l.map V) (l.map ev)
 | [] => by simp [VRc]
 | x :: l => by simp only [List.map_cons, VRc]; exact ⟨_, _, rfl, hV x, makeFunc_rel hV l⟩
include T R
theorem builtin_sound {b : Builtin} {ats : Array TypeId} {ty : TypeId} {consts : Array Bool} {as : List AV} {xs : List Value} (has : VRc E as xs) {v : AV} {h' : Heap} (he : evBuiltin C b ats as h = some (v, h')) :
  ∃ E' w' y, (builtin b ats ty consts xs.toArray).run P w = .ok (.value y) w' ∧ VRel E' v y ∧ Moves E h w E' h' w' := by
 unfold evBuiltin at he
 split at he
 ·-- len
  rename_i x
  simp only [VRc] at has
  obtain ⟨xv, l, rfl, hx, rfl⟩ := has
  split at he
  ·rename_i t ht
   obtain ⟨i, hi, he⟩ := withTy_some he
   have main : ∀ y, (Builtin.len_ ats ty #[xv]).run P w = .ok y w → VRel E v y → h' = h → ∃ E' w' y, (builtin .len ats ty consts #[xv]).run P w = .ok (.value y) w' ∧ VRel E' v y ∧ Moves E h w E' h' w' := by
    intro y h1 h2 h3
    subst h3
    exact ⟨E, w, y, by simp [builtin, h1], h2, Moves.refl R⟩
   have hat : ats[0]? = some t := ht
   split at he
   ·rename_i n u hty
    simp at he; obtain ⟨rfl, rfl⟩ := he
    obtain ⟨e, j, hu, _⟩ := T.arr t i n u hi hty
    exact main (goInt n) (by simp [Builtin.len_, hat, run_underlying hu w]) (by simp only [VRel]; rfl) rfl
   ·split at he
    ·rename_i e hel
     obtain ⟨h1, rfl⟩ := pureV_some he
     obtain ⟨hu, _⟩ := T.elem t i e hi hel
     cases x <;> simp [mLenS] at h1
     ·subst h1
      simp only [VRel] at hx; subst hx
      exact main (goInt 0) (by simp [Builtin.len_, hat, run_underlying hu w]) (by simp only [VRel]; rfl) rfl
     ·subst h1
      simp only [VRel] at hx
      obtain ⟨a, c, rfl, _⟩ := hx
      exact main _ (by simp [Builtin.len_, hat, run_underlying hu w]; rfl) (by simp only [VRel]; rfl) rfl
    ·split at he
     ·rename_i hstr
      obtain ⟨h1, rfl⟩ := pureV_some he
      have hu := T.str t i hi hstr
      cases x <;> simp [mLenT] at h1
      subst h1
      simp only [VRel] at hx; subst hx
      exact main _ (by simp [Builtin.len_, hat, run_underlying hu w]; rfl) (by simp only [VRel]; rfl) rfl
     ·cases he
  ·cases he
 ·-- append
  rename_i s x
  simp only [VRc] at has
  obtain ⟨sv, l, rfl, hs, xv, l, rfl, hx, rfl⟩ := has
  split at he
  ·rename_i t u ht hu'
   obtain ⟨i, hi, he⟩ := withTy_some he
   obtain ⟨j, hj, he⟩ := withTy_some he
   split at he
   ·rename_i e hel hjt
    obtain ⟨el, he1, he⟩ := withTy_some he
    obtain ⟨hu, el', hel', hne⟩ := T.elem t i e hi hel
    rw [he1] at hel'; injection hel' with hel'; subst hel'
    obtain ⟨d, hd, _, _, hdi, _⟩ := T.cell u j hj hjt
    obtain ⟨E', w', y, h1, h2, h3⟩ := append_sound T R (ats := ats) (ty := ty) ht hu' hu he1 hne hd hdi hs hx he
    exact ⟨E', w', y, by simp [builtin, h1], h2, h3⟩
   ·cases he
  ·cases he
 ·-- copy
  rename_i d x
  simp only [VRc] at has
  obtain ⟨dv, l, rfl, hd, xv, l, rfl, hx, rfl⟩ := has
  split at he
  ·rename_i t ht
   obtain ⟨i, hi, he⟩ := withTy_some he
   split at he
   ·rename_i e hel
    obtain ⟨el, he1, he⟩ := withTy_some he
    obtain ⟨hu, _⟩ := T.elem t i e hi hel
    obtain ⟨w', y, h1, h2, h3⟩ := copy_sound T R (ats := ats) (ty := ty) ht hu he1 hd hx he
    exact ⟨E, w', y, by simp [builtin, h1], h2, h3⟩
   ·cases he
  ·cases he
 ·-- min
  rename_i x y
  obtain ⟨h1, rfl⟩ := pureV_some he
  unfold mMin at h1
  split at h1
  ·rename_i k a k' b
   simp only [VRc, VRel] at has
   obtain ⟨_, l, rfl, rfl, _, l, rfl, rfl, rfl⟩ := has
   split at h1
   ·rename_i hk; subst hk
    simp at h1; subst h1
    refine ⟨E, w, .int k (if b < a then b else a), ?_, by simp only [VRel], Moves.refl R⟩
    simp [builtin, Builtin.min_, Builtin.min2]
   ·cases h1
  ·cases h1
 ·cases he
end
end Go.Vab

/-
  Every operation but a call of a Go function: joined.
-/
namespace Go.Vab
open Go
theorem evOp_sound {P : Program} {C : Ctx} (T : TTok P C.tt) {E : Gh} {h : Heap} {w : World} (R : RelHeap E h w) {quiet : Bool} {V : Operand → AV} {ev : Operand → Value} (hV : ∀ x, VRel E (V x) (ev x)) {o : Oper} {v : AV} {h' : Heap}
  (he : evOp C quiet V h o.op = some (v, h')) (hnc : ∀ c f, o.op = .call c → c.callee ≠ .value f) :
  ∃ E' w' n x, (execOp ev o).run P w = .ok n w' ∧ NextIs n x ∧ VRel E' v x ∧ Moves E h w E' h' w' := by
 have pure_ok : ∀ y, h' = h → VRel E v y → (execOp ev o).run P w = .ok (.value y) w → ∃ E' w' n x, (execOp ev o).run P w = .ok n w' ∧ NextIs n x ∧ VRel E' v x ∧ Moves E h w E' h' w' := by
  intro y h1 h2 h3
  subst h1
  exact ⟨E, w, _, y, h3, .inl rfl, h2, Moves.refl R⟩
 cases hop : o.op with
 | move x =>
  rw [hop] at he; simp [evOp] at he; obtain ⟨rfl, rfl⟩ := he
  exact pure_ok _ rfl (hV x) (by simp [execOp, hop])
 | assign x =>
  rw [hop] at he; simp [evOp] at he; obtain ⟨rfl, rfl⟩ := he
  exact pure_ok _ rfl (hV x) (by simp [execOp, hop])
 | pick c a b =>
  rw [hop] at he; simp only [evOp] at he
  obtain ⟨hp1, hh⟩ := pureV_some he
  clear he
  subst hh
  unfold mPick at hp1
  split at hp1
  ·rename_i t ht
   have hp2 := Option.some.inj hp1
   subst hp2
   have hc := hV c
   rw [ht] at hc; simp only [VRel] at hc
   cases t
   ·exact pure_ok (ev b) rfl (by simpa using hV b) (by simp [execOp, hop, hc, asBool])
   ·exact pure_ok (ev a) rfl (by simpa using hV a) (by simp [execOp, hop, hc, asBool])
  ·cases hp1
 | alloc e =>
  rw [hop] at he; simp only [evOp] at he
  obtain ⟨i, hi, he⟩ := withTy_some he
  obtain ⟨z, hz, hzr⟩ := run_zero_tt T hi w
  obtain ⟨E', w', a, h1, h2, h3⟩ := new_sound (P := P) R (t := e) (hzr E) he
  exact ⟨E', w', _, _, by simp [execOp, hop, Instr.alloc, hz, h1], .inl rfl, h2, h3⟩
 | box e x =>
  rw [hop] at he; simp only [evOp] at he
  obtain ⟨i, hi, he⟩ := withTy_some he
  obtain ⟨E', w', a, h1, h2, h3⟩ := new_sound (P := P) R (t := e) (hV x) he
  exact ⟨E', w', _, _, by simp [execOp, hop, Instr.box, h1], .inl rfl, h2, h3⟩
 | build t parts =>
  rw [hop] at he; simp only [evOp] at he
  obtain ⟨i, hi, he⟩ := withTy_some he
  obtain ⟨h1, hh⟩ := pureV_some he
  split at h1
  ·rename_i hagg
   obtain ⟨y, h2, h3⟩ := build_sound T (w := w) hi hagg (qs := parts.map fun (i, x) => (i, ev x)) (by rw [Array.toList_map]; exact partsRel_map hV _) h1
   exact pure_ok y hh h3 (by simp only [execOp, hop]; simp [h2])
  ·cases h1
 | buildSlice t len parts =>
  rw [hop] at he; simp only [evOp] at he
  obtain ⟨i, hi, he⟩ := withTy_some he
  split at he
  ·rename_i e hel
   obtain ⟨el, he1, he⟩ := withTy_some he
   unfold mBuildSlice at he
   obtain ⟨r, hr, he⟩ := bnd_eq_some.1 he
   split at he
   ·rename_i hcond
    rw [Bool.and_eq_true, decide_eq_true_eq] at hcond
    obtain ⟨hrow, hsm⟩ := hcond
    obtain ⟨hu, _⟩ := T.elem t i e hi hel
    obtain ⟨z, hz, hzr⟩ := run_zero_tt T he1 w
    have hzt := T.zero e el he1
    have hzc := VRel.cells hzt (hzr E)
    have hzl := VRl.len _ _ _ hzt hzc
    rw [Array.length_toList] at hzl
    -- the zero row's cells
    have hflat : ∀ q : Nat, (List.range (q * z.cells.size)).map (fun x => z.cells[x % z.cells.size]!) = (List.replicate q z.cells.toList).flatten := by
     intro q
     induction q with
     | zero => simp
     | succ q ih =>
      rw [Nat.succ_mul, Nat.add_comm, List.range_add, List.map_append, List.replicate_succ, List.flatten_cons]
      congr 1
      ·apply List.ext_getElem?
       intro k
       by_cases hk : k < z.cells.size
       ·simp [hk, Nat.mod_eq_of_lt hk]
       ·simp [hk]
      ·rw [← ih, List.map_map]
       apply List.map_congr_left
       intro x _
       simp [Nat.add_mod_left]
    have hrep : VRl E (zeroRow len el.zero) ((List.replicate len z.cells.toList).flatten) := by
     unfold zeroRow
     split
     ·rename_i k z0 hzz
      have hzv : z = .int k z0 := by have := hzr E; rw [hzz] at this; simpa only [VRel] using this
      simp only [VRl]
      rw [hzv]; simp [Value.cells]
     ·simp only [VRl]
      have hv : ∀ q, VRs E (List.replicate q el.zero) ((List.replicate q z.cells.toList).flatten) := by
       intro q
       induction q with
       | zero => simp [VRs]
       | succ q ih =>
        rw [List.replicate_succ, List.replicate_succ, List.flatten_cons]
        exact VRs.cons hzc ih
      exact hv len
    have key := fill_sound (E := E) (t := .arr len el.ty) (place := fun k => some (k * el.ty.size, el.ty.size)) (fun k o u' hs _ _ _ _ _ => by
     simp [Ty.sub] at hs
     obtain ⟨rfl, rfl⟩ := hs
     rfl) _ (parts.map fun (i, x) => (i, ev x)).toList _ _ ((Array.range (len * el.ty.size)).map fun x => z.cells[x % z.cells.size]!) hr hrow (by
      rw [Array.toList_map, Array.toList_range, ← hzl, hflat len]; exact hrep) (by rw [Array.toList_map]; exact partsRel_map hV _)
    obtain ⟨cells, g1, g2, g3⟩ := key
    have he3 := Prod.mk.inj (Option.some.inj he)
    obtain ⟨e1, e2⟩ := he3
    subst e1; subst e2
    refine ⟨E.push w.heap.size cells.size 0 true (.arr 0 el.ty), { w with heap := w.heap.push (.cells cells e (0, 0)) }, .value (.slice (some ⟨w.heap.size, 0, none⟩) len len), _, ?_, .inl rfl, ?_, ?_⟩
    ·have hns : ¬ (len * el.ty.size > 2 ^ 24) := by omega
     simp only [execOp, hop, Instr.buildSlice, Sem.run_bind, run_underlying hu w, Result.andThen_ok, run_sizeOf_tt T he1 w, hns, if_false]
     by_cases hz0 : len * el.ty.size = 0
     ·have hcells : ∀ (zz : Array Value), ((Array.range (len * el.ty.size)).map fun x => zz[x % zz.size]!) = ((Array.range (len * el.ty.size)).map fun x => z.cells[x % z.cells.size]!) := by
       intro zz
       apply Array.ext'
       simp [hz0]
      rw [if_pos hz0]
      simp only [Sem.run_bind, Sem.run_pure, Result.andThen_ok]
      rw [hcells #[], g1]
      simp only [newRow, Sem.run_bind, run_newObj, Result.andThen_ok, Sem.run_pure]
     ·simp only [hz0, if_false, Sem.run_bind, hz, Result.andThen_ok, Sem.run_pure, g1, newRow, run_newObj]
    ·simp only [VRel]
     refine ⟨_, len, rfl, by simp [Gh.push, R.n], by simp [Gh.push, R.n], Nat.le_refl _, fun x hx => by simpa using hx, fun hx => (by cases hx), fun _ => ⟨0, 0, by simp [Gh.push, R.n, Ty.sub], fun _ => by simp [Gh.push, R.n], fun hx => (by cases hx)⟩⟩
    ·exact moves_push R ⟨_, 0, .own⟩ cells.size true (.arr 0 el.ty) (by simp) (by simp only [if_true]; exact ⟨len, _, rfl, g2⟩) (by simp) g3 (.inl ⟨cells, e, (0, 0), [], rfl, by simp, by simp, by simp⟩) ⟨rfl, rfl, rfl⟩
   ·cases he
  ·cases he
 | load t p =>
  rw [hop] at he; simp only [evOp] at he
  obtain ⟨i, hi, he⟩ := withTy_some he
  obtain ⟨h1, hh⟩ := pureV_some he
  have hp := hV p
  cases hpv : V p with
  | win b ver path t' off n =>
   rw [hpv] at h1 hp
   simp only [mLoad] at h1
   split at h1
   ·rename_i hbt
    obtain ⟨y, h2, h3⟩ := win_load T R hi hbt hp h1
    exact pure_ok y hh h3 (by simp [execOp, hop, h2])
   ·cases h1
  | _ =>
   rw [hpv] at h1 hp
   obtain ⟨y, h2, h3⟩ := load_sound T R hi (by first | exact hp) h1 (by simp)
   exact pure_ok y hh h3 (by simp [execOp, hop, h2])
 | store t p x =>
  rw [hop] at he; simp only [evOp] at he
  obtain ⟨i, hi, he⟩ := withTy_some he
  unfold stU at he
  obtain ⟨h1, hs, he⟩ := bnd_eq_some.1 he
  simp at he; obtain ⟨rfl, rfl⟩ := he
  obtain ⟨w', h2, h3⟩ := store_sound T R hi (hV p) (hV x) hs
  exact ⟨E, w', .skip, Go.undef, by simp [execOp, hop, h2], .inr ⟨rfl, rfl⟩, by simp only [VRel], h3⟩
 | nilCheck x =>
  rw [hop] at he; simp only [evOp] at he
  obtain ⟨h1, hh⟩ := pureV_some he
  have hx := hV x
  cases hxv : V x <;> rw [hxv] at h1 hx <;> simp [mNilCheck] at h1
  ·subst h1
   have hx2 := hx
   simp only [VRel] at hx2
   obtain ⟨a, ha, _⟩ := hx2
   exact pure_ok (ev x) hh hx (by simp [execOp, hop, ha])
  ·subst h1
   have hx2 := hx
   simp only [VRel] at hx2
   obtain ⟨cs, ha, _⟩ := hx2
   exact pure_ok (ev x) hh hx (by simp [execOp, hop, ha])
 | binOp op t x y yt =>
  rw [hop] at he; simp only [evOp] at he
  obtain ⟨i, hi, he⟩ := withTy_some he
  obtain ⟨h1, hh⟩ := pureV_some he
  have fin : (∃ z, ((do eqGuard op t x y (ev x) (ev y); binOp op t (ev x) (ev y) : Sem Value)).run P w = .ok z w ∧ VRel E v z) → ∃ E' w' n x, (execOp ev o).run P w = .ok n w' ∧ NextIs n x ∧ VRel E' v x ∧ Moves E h w E' h' w' := by
   rintro ⟨z, h2, h3⟩
   refine pure_ok z hh h3 ?_
   simp only [execOp, hop]
   rw [Sem.run_bind, h2]
   rfl
  unfold binAny at h1
  split at h1
  ·rename_i n u hty; exact fin (eq_bin T hi (by rw [hty]; rfl) (hV x) (hV y) (by rw [hty]; exact h1))
  ·rename_i ts hty; exact fin (eq_bin T hi (by rw [hty]; rfl) (hV x) (hV y) (by rw [hty]; exact h1))
  ·exact fin (bin_int (hV x) (hV y) h1)
  ·split at h1
   ·rename_i e hel; exact fin (bin_slc (T.elem t i e hi hel).1 (hV x) (hV y) h1)
   ·split at h1
    ·rename_i a hpt; exact fin (bin_ptr (T.pt t i a hi hpt) (hV x) (hV y) h1)
    ·split at h1
     ·exact fin (bin_str (hV x) (hV y) h1)
     ·split at h1
      ·rename_i hb; exact fin (bin_bool (T.bool t i hi hb) (hV x) (hV y) h1)
      ·cases h1
 | unOp op t x =>
  rw [hop] at he; simp only [evOp] at he
  obtain ⟨h1, hh⟩ := pureV_some he
  obtain ⟨y, h2, h3⟩ := un_sound (P := P) (w := w) (hV x) h1
  exact pure_ok y hh h3 (by simp [execOp, hop, h2])
 | convert s t x =>
  rw [hop] at he; simp only [evOp] at he
  obtain ⟨i, hi, he⟩ := withTy_some he
  obtain ⟨j, hj, he⟩ := withTy_some he
  split at he
  ·rename_i k hk
   obtain ⟨h1, hh⟩ := pureV_some he
   have hu := T.int t i k hi (T.kind t i k hi hk)
   obtain ⟨d, hd, _⟩ := T.und hj
   cases hxv : V x <;> rw [hxv] at h1 <;> simp [mConv] at h1
   rename_i k' n
   subst h1
   have hx := hV x
   rw [hxv] at hx; simp only [VRel] at hx
   refine pure_ok (.int k (k.wrap n)) hh (by simp only [VRel]) ?_
   simp [execOp, hop, convert, run_underlying hd w, run_underlying hu w, hx, Conv.intToInt]
  ·split at he
   ·rename_i e hstr hel
    obtain ⟨el, he1, he⟩ := withTy_some he
    split at he
    ·rename_i hk8
     obtain ⟨h1, hh⟩ := pureV_some he
     obtain ⟨y, h2, h3⟩ := str_sound T R (T.elem s j e hj hel).1 (T.str t i hi hstr) he1 (T.kind e el .u8 he1 hk8) (hV x) h1
     exact pure_ok y hh h3 (by simp [execOp, hop, h2])
    ·cases he
   ·cases he
 | sliceToArrayPointer t x =>
  rw [hop] at he; simp only [evOp] at he
  obtain ⟨i, hi, he⟩ := withTy_some he
  split at he
  ·rename_i n u hty
   obtain ⟨h1, hh⟩ := pureV_some he
   obtain ⟨e, j, hu, _⟩ := T.arr t i n u hi hty
   have hx := hV x
   cases hxv : V x <;> rw [hxv] at h1 hx <;> simp [mArrayAt] at h1
   rename_i b ver path t' off len cap
   obtain ⟨⟨⟨hb, hle⟩, h0⟩, rfl⟩ := h1
   have hte := Ty.beq_eq _ _ hb
   subst hte
   simp only [VRel] at hx
   obtain ⟨a, c, ha, g1, g2, g3, g4, g5, g6⟩ := hx
   refine pure_ok (.pointer (some a)) hh ?_ ?_
   ·simp only [VRel]
    refine ⟨a, rfl, g1, g2, fun hv => ?_⟩
    obtain ⟨o, q, s1, s2, _⟩ := g6 hv
    exact ⟨o, q, s1, s2 (by omega)⟩
   ·have hnl : ¬ len < n := by omega
    simp [execOp, hop, Instr.arrayAt, run_underlying hu w, ha, hnl]
  ·cases he
 | makeFunc fn first caps =>
  rw [hop] at he; simp only [evOp] at he
  cases fn with
  | func f =>
   simp only at he
   split at he
   ·rename_i hf
    simp at he; obtain ⟨rfl, rfl⟩ := he
    have hfirst : first = #[] := Array.eq_empty_of_size_eq_zero hf
    subst hfirst
    refine pure_ok (.func (.func f) #[] (caps.map ev)) rfl ?_ (by simp only [execOp, hop, Instr.makeFunc, Sem.run_bind, Sem.run_pure, Result.andThen_ok, Array.map_empty])
    simp only [VRel]
    exact ⟨caps.toList.map ev, by congr 1; apply Array.ext'; simp, makeFunc_rel hV _⟩
   ·cases he
  | _ => simp at he
 | makeSlice t l c =>
  rw [hop] at he; simp only [evOp] at he
  obtain ⟨i, hi, he⟩ := withTy_some he
  split at he
  ·rename_i e hel
   obtain ⟨el, he1, he⟩ := withTy_some he
   obtain ⟨hu, j, hj, hne⟩ := T.elem t i e hi hel
   rw [he1] at hj; injection hj with hj; subst hj
   obtain ⟨E', w', y, h1, h2, h3⟩ := make_sound T R hu he1 hne (hV l) (hV c) he
   exact ⟨E', w', _, y, by simp [execOp, hop, h1], .inl rfl, h2, h3⟩
  ·cases he
 | slice t x lo hi mx =>
  rw [hop] at he; simp only [evOp] at he
  split at he
  ·cases he
  ·rename_i hsome
   obtain ⟨i, hi', he⟩ := withTy_some he
   have hsome' : ¬ ((mx.map V).isSome = true ∧ (hi.map V).isNone = true) := by simpa using hsome
   have hlo := optRel_map hV lo
   have hhi := optRel_map hV hi
   have hmx := optRel_map hV mx
   split at he
   ·rename_i n u hty
    obtain ⟨h1, hh⟩ := pureV_some he
    obtain ⟨e, j, hu, hej, hju⟩ := T.arr t i n u hi' hty
    obtain ⟨a, l, q, m, r1, r2, r3⟩ := sliceA_sound T (w := w) hlo hhi hmx hsome' rfl hej hju (hV x) h1
    refine pure_ok _ hh r3 ?_
    simp [execOp, hop, Instr.sliceAt, run_underlying hu w, r2, Instr.sureAddr, r1, run_sizeOf_tt T hej w]
   ·split at he
    ·rename_i e hel
     obtain ⟨el, he1, he⟩ := withTy_some he
     obtain ⟨h1, hh⟩ := pureV_some he
     obtain ⟨y, h2, h3⟩ := sliceS_sound T (w := w) hlo hhi hmx hsome' he1 (T.elem t i e hi' hel).1 (hV x) h1
     exact pure_ok y hh h3 (by simp [execOp, hop, h2])
    ·split at he
     ·rename_i a hpt
      obtain ⟨j, hj, he⟩ := withTy_some he
      obtain ⟨h1, hh⟩ := pureV_some he
      have hu := T.pt t i a hi' hpt
      cases hjt : j.ty with
      | arr n u =>
       obtain ⟨e, k, hua, hek, hku⟩ := T.arr a j n u hj hjt
       rw [hjt] at h1
       obtain ⟨a', l, q, m, r1, r2, r3⟩ := sliceA_sound T (w := w) hlo hhi hmx hsome' rfl hek hku (hV x) h1
       refine pure_ok _ hh r3 ?_
       simp [execOp, hop, Instr.sliceAt, Instr.slice, run_underlying hu w, run_underlying hua w, r2, asAddr, r1, run_sizeOf_tt T hek w]
      | _ => rw [hjt] at h1; cases hxv : V x <;> rw [hxv] at h1 <;> simp [mSliceA] at h1
     ·cases hstr : i.str with
      | false => rw [hstr] at he; simp at he
      | true =>
       rw [hstr] at he
       cases mx with
       | some _ => simp at he
       | none =>
       simp only at he
       obtain ⟨h1, hh⟩ := pureV_some he
       have hu := T.str t i hi' hstr
       have hx := hV x
       cases hxv : V x <;> rw [hxv] at h1 hx <;> simp only [mSliceT] at h1 <;> try (cases h1; done)
       rename_i s
       obtain ⟨q, hq, h1⟩ := bnd_eq_some.1 h1
       obtain ⟨l, hl, h1⟩ := bnd_eq_some.1 h1
       simp at h1; subst h1
       simp only [VRel] at hx
       obtain ⟨r1, _⟩ := bounds_run (P := P) (w := w) (isS := false) (len := s.size) (m := s.size) hlo hhi (mx := none) (mx' := none) trivial (by simp) (Nat.le_refl s.size) rfl (by simpa using hq) hl
       refine pure_ok (.string (s.extract l q)) hh (by simp only [VRel]) ?_
       simp [execOp, hop, Instr.sliceAt, Instr.slice, run_underlying hu w, hx, r1]
 | fieldAddr s x f =>
  rw [hop] at he; simp only [evOp] at he
  obtain ⟨i, hi, he⟩ := withTy_some he
  obtain ⟨h1, hh⟩ := pureV_some he
  obtain ⟨y, h2, h3⟩ := fieldAddr_sound T (w := w) hi (hV x) h1
  exact pure_ok y hh h3 (by simp [execOp, hop, h2])
 | field s x f =>
  rw [hop] at he; simp only [evOp] at he
  obtain ⟨i, hi, he⟩ := withTy_some he
  obtain ⟨h1, hh⟩ := pureV_some he
  obtain ⟨y, h2, h3⟩ := field_sound T (w := w) hi (hV x) h1
  exact pure_ok y hh h3 (by simp [execOp, hop, h2])
 | indexAddr t x ix =>
  rw [hop] at he; simp only [evOp] at he
  obtain ⟨i, hi, he⟩ := withTy_some he
  split at he
  ·rename_i n u hty
   obtain ⟨h1, hh⟩ := pureV_some he
   obtain ⟨y, h2, h3⟩ := idxA_sound T (w := w) hi hty (hV x) (hV ix) h1
   exact pure_ok y hh h3 (by simp [execOp, hop, h2])
  ·split at he
   ·rename_i e hel
    obtain ⟨el, he1, he⟩ := withTy_some he
    obtain ⟨h1, hh⟩ := pureV_some he
    obtain ⟨y, h2, h3⟩ := idxS_sound T (w := w) he1 (T.elem t i e hi hel).1 (hV x) (hV ix) h1
    exact pure_ok y hh h3 (by simp [execOp, hop, h2])
   ·cases he
 | index t x ix =>
  rw [hop] at he; simp only [evOp] at he
  obtain ⟨i, hi, he⟩ := withTy_some he
  split at he
  ·rename_i n u hty
   obtain ⟨h1, hh⟩ := pureV_some he
   obtain ⟨y, h2, h3⟩ := indexA_sound T (w := w) hi hty (hV x) (hV ix) h1
   exact pure_ok y hh h3 (by simp [execOp, hop, h2])
  ·split at he
   ·rename_i hstr
    obtain ⟨h1, hh⟩ := pureV_some he
    have hu := T.str t i hi hstr
    unfold mIndexT at h1
    obtain ⟨k, hk, h1⟩ := bnd_eq_some.1 h1
    obtain ⟨kk, hix⟩ := asNat_spec (hV ix) hk
    have hx := hV x
    cases hxv : V x <;> rw [hxv] at h1 hx <;> simp only at h1 <;> try (cases h1; done)
    rename_i s
    simp only [VRel] at hx
    split at h1
    ·rename_i c hc
     simp at h1; subst h1
     refine pure_ok (.int .u8 c.toNat) hh (by simp only [VRel]) ?_
     have hsk : s[k]? = some c := by
      rw [List.getElem?_eq_some_iff] at hc
      obtain ⟨hlt, hcc⟩ := hc
      have hlt' : k < s.size := by simpa using hlt
      rw [getElem?_pos s k hlt']
      congr 1
     simp [execOp, hop, Instr.index, hix, asIntOf, run_underlying hu w, hx, hsk]
    ·cases h1
   ·cases he
 | extract x ix =>
  rw [hop] at he; simp only [evOp] at he
  obtain ⟨h1, hh⟩ := pureV_some he
  have hx := hV x
  cases hxv : V x <;> rw [hxv] at h1 hx <;> simp [mExtract] at h1
  rename_i vs
  simp only [VRel] at hx
  obtain ⟨xs, hxs, hr⟩ := hx
  have get : ∀ (vs : List AV) (xs : List Value) (k : Nat), VRc E vs xs → vs[k]? = some v → ∃ y, xs[k]? = some y ∧ VRel E v y := by
   intro vs
   induction vs with
   | nil => intro xs k _ hk; simp at hk
   | cons a vs ih =>
    intro xs k hr hk
    simp only [VRc] at hr
    obtain ⟨y, ys, rfl, h2, h3⟩ := hr
    cases k with
    | zero => simp at hk; subst hk; exact ⟨y, rfl, h2⟩
    | succ k => simpa using ih ys k h3 (by simpa using hk)
  obtain ⟨y, h2, h3⟩ := get vs xs ix hr h1
  exact pure_ok y hh h3 (by simp [execOp, hop, Instr.extract, hxs, h2])
 | call c =>
  rw [hop] at he; simp only [evOp] at he
  cases hc : c.callee with
  | value f => exact absurd hc (hnc c f hop)
  | builtin b =>
   rw [hc] at he
   obtain ⟨E', w', y, h1, h2, h3⟩ := builtin_sound T R (ty := o.type) (consts := c.args.map fun | .const _ => true | _ => false) (makeFunc_rel hV _) he
   refine ⟨E', w', _, y, ?_, .inl rfl, h2, h3⟩
   simp only [execOp, hop, resolve, hc, Sem.run_bind, Sem.run_pure, Result.andThen_ok, invoke]
   have e : (c.args.toList.map ev).toArray = c.args.map ev := by apply Array.ext'; simp
   rw [e] at h1
   exact h1
  | invoke r m => rw [hc] at he; cases he
 | _ => rw [hop] at he; simp [evOp] at he
end Go.Vab

/-
  Regions, code, bodies.
-/
namespace Go.Vab
open Go
def Spec (P : Program) (f : Nat) (args : List AV) (h : Heap) (v : AV) (h' : Heap) : Prop :=
 ∀ (E : Gh) (w : World) (xs : List Value), RelHeap E h w → VRc E args xs →
  Calls P f xs.toArray w fun e w' => ∃ E' x, e = .returned x ∧ VRel E' v x ∧ Moves E h w E' h' w'
def Callable (P : Program) (f : Nat) : Prop := ∃ fn, P.funcs[f]? = some fn ∧ (fn.name == "runtime.NumGoroutine") = false ∧ fn.body.isNone = false
def CallOK (P : Program) (call : Calling) : Prop := ∀ f args h v h', call f args h = some (v, h') → Spec P f args h v h' ∧ Callable P f
def EnvR (E : Gh) (env : Env) (a : Act) : Prop := ∀ t, VRel E (env.get t) (a.tmps.getD t Go.undef)
def LocR (E : Gh) (loc env : Env) (a : Act) : Prop := ∀ t, VRel E (look loc env t) (a.tmps.getD t Go.undef)
def VolFree (vol : List Nat) (env : Env) : Prop := ∀ t, vol.contains t = true → env.get t = .junk
theorem get_put : ∀ (env : Env) (t : Nat) (v : AV) (s : Nat), (env.put t v).get s = if s = t then v else env.get s
 | [], t, v, s => by simp [Env.put, Env.get]
 | (k, w) :: r, t, v, s => by
  simp only [Env.put]
  split
  ·rename_i h; subst h
   simp only [Env.get]; split <;> rfl
  ·rename_i h
   simp only [Env.get, get_put r t v s]
   by_cases h1 : s = k
   ·subst h1; rw [if_pos rfl, if_neg (fun e => h e.symm), if_pos rfl]
   ·simp [h1]
theorem look_nil (env : Env) (t : Nat) : look [] env t = env.get t := rfl
theorem look_cons (d : Nat) (v : AV) (loc env : Env) (t : Nat) : look ((d, v) :: loc) env t = if t = d then v else look loc env t := by
 unfold look
 simp only [Env.has, Env.get]
 by_cases h : t = d <;> simp [h]
theorem commit_get (vol : List Nat) : ∀ (loc env : Env) (t : Nat), (commit vol loc env).get t = if vol.contains t = true then env.get t else look loc env t
 | [], env, t => by simp [commit, look_nil]
 | (d, v) :: loc, env, t => by
  simp only [commit, look_cons]
  split
  ·rename_i hd
   rw [commit_get vol loc env t]
   by_cases ht : vol.contains t = true
   ·rw [if_pos ht, if_pos ht]
   ·rw [if_neg ht, if_neg ht]
    by_cases e : t = d
    ·subst e; exact absurd hd ht
    ·rw [if_neg e]
  ·rename_i hd
   rw [get_put, commit_get vol loc env t]
   by_cases e : t = d
   ·subst e; rw [if_pos rfl, if_neg hd, if_pos rfl]
   ·rw [if_neg e, if_neg e]
theorem EnvR.commit {vol : List Nat} {E : Gh} {loc env : Env} {a : Act} (h : LocR E loc env a) (hv : VolFree vol env) : EnvR E (commit vol loc env) a ∧ VolFree vol (commit vol loc env) := by
 constructor
 ·intro t
  rw [commit_get]
  split
  ·rename_i ht; rw [hv t ht]; simp only [VRel]
  ·exact h t
 ·intro t ht
  rw [commit_get, if_pos ht]; exact hv t ht
theorem opvF_rel {E : Gh} {σ : Nat → AV} {a : Act} (h : ∀ t, VRel E (σ t) (a.tmps.getD t Go.undef)) (x : Operand) : VRel E (opvF σ x) (a.eval x) := by
 cases x with
 | tmp t => exact h t
 | const v =>
  simp only [opvF, Act.eval]
  unfold ofConst
  split <;> simp only [VRel]
 | func f => simp only [opvF, Act.eval, VRel]; exact ⟨[], rfl, by simp only [VRc]⟩
 | global g => simp only [opvF, VRel]
theorem opv_rel {E : Gh} {loc env : Env} {a : Act} (h : LocR E loc env a) (x : Operand) : VRel E (opv loc env x) (a.eval x) := opvF_rel h x
theorem LocR.put {E E' : Gh} {loc env : Env} {a : Act} (h : LocR E loc env a) (hx : Ext E E') {d : Nat} {v : AV} {x : Value} (hv : VRel E' v x) (hd : d < a.tmps.size) : LocR E' ((d, v) :: loc) env (a.put (some d) x) := by
 intro t
 rw [look_cons]
 simp only [Act.put]
 by_cases e : t = d
 ·subst e
  rw [if_pos rfl]
  simpa [Array.getD, hd] using hv
 ·rw [if_neg e]
  have := VRel.mono hx _ _ (h t)
  have e2 : (a.tmps.setIfInBounds d x).getD t Go.undef = a.tmps.getD t Go.undef := by
   simp only [Array.getD_eq_getD_getElem?]
   rw [Array.getElem?_setIfInBounds_ne (fun q => e q.symm)]
  rw [e2]; exact this
theorem LocR.ext {E E' : Gh} {loc env : Env} {a : Act} (h : LocR E loc env a) (hx : Ext E E') : LocR E' loc env a := fun t => VRel.mono hx _ _ (h t)
theorem VRc.map {E : Gh} {V : Operand → AV} {ev : Operand → Value} (hV : ∀ x, VRel E (V x) (ev x)) (l : List Operand) : VRc E (l.map V) (l.map ev) := makeFunc_rel hV l
theorem VRc.app {E : Gh} : ∀ (as bs : List AV) (xs ys : List Value), VRc E as xs → VRc E bs ys → VRc E (as ++ bs) (xs ++ ys)
 | [], bs, xs, ys, h, h' => by simp only [VRc] at h; subst h; simpa using h'
 | a :: as, bs, xs, ys, h, h' => by
  simp only [VRc] at h
  obtain ⟨y, l, rfl, h1, h2⟩ := h
  simp only [List.cons_append, VRc]
  exact ⟨y, l ++ ys, rfl, h1, VRc.app as bs l ys h2 h'⟩
section
variable {P : Program} {C : Ctx} (T : TTok P C.tt) (hcall : CallOK P C.call) {E : Gh} {h : Heap} {w : World} (R : RelHeap E h w)
include T hcall R
omit T in
end
theorem Act.put_size (a : Act) (d : Option Tmp) (v : Value) : (a.put d v).tmps.size = a.tmps.size := by cases d <;> simp [Act.put]
theorem Act.put_defers (a : Act) (d : Option Tmp) (v : Value) : (a.put d v).defers = a.defers := by cases d <;> rfl
end Go.Vab

/-
  Statements whose order is open.
-/
namespace Go.Vab
open Go
end Go.Vab

/-
  Two statements whose order is open: the evaluator's answer is the same both ways.
-/
namespace Go.Vab
open Go
theorem evOp_congr {C : Ctx} {q : Bool} {V V' : Operand → AV} {h : Heap} (op : Op) (hV : ∀ x ∈ op.operands.toList, V x = V' x) : evOp C q V h op = evOp C q V' h op := by
 cases op <;> simp only [evOp] <;> simp only [Op.operands] at hV
 case move x => rw [hV x (by simp)]
 case assign x => rw [hV x (by simp)]
 case pick c a b => rw [hV c (by simp), hV a (by simp), hV b (by simp)]
 case box e x => rw [hV x (by simp)]
 case build t ps =>
  have : (ps.toList.map fun p => (p.1, V p.2)) = ps.toList.map fun p => (p.1, V' p.2) := List.map_congr_left fun p hp => by rw [hV p.2 (by simp; exact ⟨_, by simpa using hp⟩)]
  rw [this]
 case buildSlice t l ps =>
  have : (ps.toList.map fun p => (p.1, V p.2)) = ps.toList.map fun p => (p.1, V' p.2) := List.map_congr_left fun p hp => by rw [hV p.2 (by simp; exact ⟨_, by simpa using hp⟩)]
  rw [this]
 case load t p => rw [hV p (by simp)]
 case store t p x => rw [hV p (by simp), hV x (by simp)]
 case nilCheck x => rw [hV x (by simp)]
 case binOp op t x y u => rw [hV x (by simp), hV y (by simp)]
 case unOp op t x => rw [hV x (by simp)]
 case convert s t x => rw [hV x (by simp)]
 case sliceToArrayPointer t x => rw [hV x (by simp)]
 case makeFunc f first caps =>
  cases f <;> simp only
  split
  ·congr 3
   exact List.map_congr_left fun x hx => hV x (by simp; exact .inr (by simpa using hx))
  ·rfl
 case makeSlice t l c => rw [hV l (by simp), hV c (by simp)]
 case slice t x lo hi mx =>
  have h1 : lo.map V = lo.map V' := by
   cases lo with
   | none => rfl
   | some y => simp only [Option.map_some]; rw [hV y (by simp)]
  have h2 : hi.map V = hi.map V' := by
   cases hi with
   | none => rfl
   | some y => simp only [Option.map_some]; rw [hV y (by simp)]
  have h3 : mx.map V = mx.map V' := by
   cases mx with
   | none => rfl
   | some y => simp only [Option.map_some]; rw [hV y (by simp)]
  rw [h1, h2, h3, hV x (by simp)]
 case fieldAddr s x f => rw [hV x (by simp)]
 case field s x f => rw [hV x (by simp)]
 case indexAddr t x i => rw [hV x (by simp), hV i (by simp)]
 case index t x i => rw [hV x (by simp), hV i (by simp)]
 case extract x i => rw [hV x (by simp)]
 case call c =>
  have h1 : c.args.toList.map V = c.args.toList.map V' := List.map_congr_left fun x hx => hV x (by simp only [Call.operands]; split <;> simp <;> simp at hx <;> simp [hx])
  cases hc : c.callee <;> simp only [h1]
  rename_i f
  rw [hV f (by simp [Call.operands, hc])]
theorem pureV_kind {x : Option AV} {h h' : Heap} {v : AV} (he : pureV h x = some (v, h')) : h' = h ∧ ∀ g : Heap, pureV g x = some (v, g) := by
 unfold pureV at he ⊢
 obtain ⟨y, rfl, h2⟩ := bnd_eq_some.1 he
 simp at h2
 obtain ⟨rfl, rfl⟩ := h2
 exact ⟨rfl, fun g => rfl⟩
theorem withTy_of {α : Type} {C : Ctx} {t : Nat} {f : TI → Option α} {i : TI} (h : C.tt t = some i) : withTy C t f = f i := by
 unfold withTy; rw [h]
theorem blkAt_app {h : Heap} {i ver : Nat} {b : Blk} (e : blkAt h i ver = some b) (t : Heap) : blkAt (h ++ t) i ver = some b := by
 unfold blkAt at e ⊢
 cases hb : h[i]? with
 | none => rw [hb] at e; cases e
 | some c =>
  rw [hb] at e
  have : (h ++ t)[i]? = some c := by
   rw [List.getElem?_append_left (List.getElem?_eq_some_iff.1 hb).1]; exact hb
  rw [this]; exact e
theorem mElems_app {t : Ty} {p v : AV} {h : Heap} (e : mElems t p h = some v) (g : Heap) : mElems t p (h ++ g) = some v := by
 unfold mElems at e ⊢
 split
 ·exact e
 ·simp only at e
  split at e
  ·rename_i hb
   rw [if_pos hb]
   obtain ⟨b, h1, h2⟩ := bnd_eq_some.1 e
   rw [blkAt_app h1 g]; exact h2
  ·cases e
 ·exact e
 ·simp only at e; cases e
def Uni (m : Heap → Option (AV × Heap)) : Prop := ∀ h v h', m h = some (v, h') → h' = h ∧ ∀ g, m g = some (v, g)
theorem Uni.none : Uni fun _ => none := fun _ _ _ h => by cases h
theorem Uni.some (x : AV) : Uni fun h => some (x, h) := fun h v h' he => by simp at he; obtain ⟨rfl, rfl⟩ := he; exact ⟨rfl, fun _ => rfl⟩
theorem Uni.pureV (x : Option AV) : Uni fun h => pureV h x := fun _ _ _ he => pureV_kind he
theorem Uni.withTy {C : Ctx} {t : Nat} {m : TI → Heap → Option (AV × Heap)} (hm : ∀ i, Uni (m i)) : Uni fun h => withTy C t fun i => m i h := fun h v h' he => by
 obtain ⟨i, hi, he⟩ := withTy_some he
 simp only [withTy_of hi]
 exact hm i h v h' he
theorem evOp_pure {C : Ctx} {q k : Bool} {V : Operand → AV} (op : Op) (hk : kindOf k op = .pure) : Uni fun h => evOp C q V h op := by
 cases op <;> simp only [kindOf] at hk <;> simp only [evOp]
 all_goals try (cases hk; done)
 all_goals try (exact Uni.none)
 all_goals try (exact Uni.some _)
 all_goals try (exact Uni.pureV _)
 all_goals try (exact Uni.withTy fun i => Uni.pureV _)
 case sliceToArrayPointer t x =>
  refine Uni.withTy fun i => ?_
  cases i.ty <;> first | exact Uni.none | exact Uni.pureV _
 case makeFunc f first caps =>
  cases f <;> simp only
  ·split
   ·exact Uni.some _
   ·exact Uni.none
  all_goals exact Uni.none
 case slice t x lo hi mx =>
  split
  ·exact Uni.none
  refine Uni.withTy fun i => ?_
  cases i.ty <;> simp only
  case arr => exact Uni.pureV _
  all_goals
   cases i.elem <;> simp only
   ·cases i.pt <;> simp only
    ·cases i.str <;> cases mx <;> first | exact Uni.none | exact Uni.pureV _
    ·exact Uni.withTy fun i => Uni.pureV _
   ·exact Uni.withTy fun i => Uni.pureV _
 case indexAddr t x i =>
  refine Uni.withTy fun i => ?_
  cases i.ty <;> simp only
  case arr => exact Uni.pureV _
  all_goals
   cases i.elem <;> simp only
   ·exact Uni.none
   ·exact Uni.withTy fun i => Uni.pureV _
 case index t x i =>
  refine Uni.withTy fun i => ?_
  cases i.ty <;> simp only
  case arr => exact Uni.pureV _
  all_goals
   split
   ·exact Uni.pureV _
   ·exact Uni.none
 case call c =>
  revert hk
  cases c.callee <;> (try simp only) <;> intro hk
  case value => cases k <;> simp at hk
  case invoke => exact Uni.none
  case builtin b =>
   generalize c.args.toList.map V = as
   cases b <;> simp only at hk <;> try (cases hk; done)
   case len =>
    unfold evBuiltin
    match as with
    | [] => exact Uni.none
    | [x] =>
     simp only
     cases c.argTypes[0]? <;> simp only
     ·exact Uni.none
     ·refine Uni.withTy fun i => ?_
      cases i.ty <;> simp only
      case arr => exact Uni.some _
      all_goals
       cases i.elem <;> simp only
       ·split
        ·exact Uni.pureV _
        ·exact Uni.none
       ·exact Uni.pureV _
    | _ :: _ :: _ => exact Uni.none
   case min =>
    unfold evBuiltin
    match as with
    | [] => exact Uni.none
    | [x] => exact Uni.none
    | [x, y] => exact Uni.pureV _
    | _ :: _ :: _ :: _ => exact Uni.none
theorem opvF_congr {σ τ : Nat → AV} {x : Operand} (h : ∀ t, x = .tmp t → σ t = τ t) : opvF σ x = opvF τ x := by
 cases x with
 | tmp t => exact h t rfl
 | _ => rfl
section
variable {C : Ctx} {q : Bool} {ops : List Oper} {o : Oper} {σ : Nat → AV} {h h' : Heap} {v : AV}
end
def setF (σ : Nat → AV) (d : Option Nat) (v : AV) : Nat → AV := match d with
 | some d => updF σ d v
 | none => σ
end Go.Vab

/-
  The text's order stands for every order.
-/
namespace Go.Vab
open Go
def leftI (n : Nat) (listed : Array Bool) : List Nat := (List.range n).filter fun i => !listed.getD i true
theorem leftI_mem {n : Nat} {listed : Array Bool} (hs : listed.size = n) {i : Nat} : i ∈ leftI n listed ↔ i < n ∧ listed.getD i false = false := by
 unfold leftI
 rw [List.mem_filter, List.mem_range]
 constructor
 ·rintro ⟨h1, h2⟩
  refine ⟨h1, ?_⟩
  have : i < listed.size := by omega
  simpa [Array.getD, this] using h2
 ·rintro ⟨h1, h2⟩
  refine ⟨h1, ?_⟩
  have : i < listed.size := by omega
  simpa [Array.getD, this] using h2
theorem getD_set {listed : Array Bool} {i k : Nat} (hi : i < listed.size) : (listed.setIfInBounds i true).getD k false = if k = i then true else listed.getD k false := by
 simp only [Array.getD_eq_getD_getElem?]
 by_cases h : k = i
 ·subst h; simp [hi]
 ·rw [Array.getElem?_setIfInBounds_ne (fun q => h q.symm), if_neg h]
theorem leftI_set {n : Nat} {listed : Array Bool} (hs : listed.size = n) {i : Nat} (hi : i < n) {pre post : List Nat} (h : leftI n listed = pre ++ i :: post) : leftI n (listed.setIfInBounds i true) = pre ++ post := by
 have e : leftI n (listed.setIfInBounds i true) = (leftI n listed).filter fun k => decide (k ≠ i) := by
  unfold leftI
  rw [List.filter_filter]
  apply List.filter_congr
  intro k hk
  have hk' := List.mem_range.1 hk
  simp only [Array.getD_eq_getD_getElem?]
  by_cases h : k = i
  ·subst h; simp [hs, hi]
  ·rw [Array.getElem?_setIfInBounds_ne (fun q => h q.symm)]; simp [h]
 have nd : (leftI n listed).Nodup := List.nodup_range.filter _
 rw [e, h]
 rw [h] at nd
 rw [List.nodup_append] at nd
 obtain ⟨_, n2, n3⟩ := nd
 rw [List.nodup_cons] at n2
 rw [List.filter_append, List.filter_cons]
 simp only [ne_eq, not_true_eq_false, decide_false, Bool.false_eq_true, if_false]
 rw [List.filter_eq_self.2, List.filter_eq_self.2]
 ·intro a ha
  simp only [decide_eq_true_eq]
  rintro rfl; exact n2.1 ha
 ·intro a ha
  simp only [decide_eq_true_eq]
  rintro rfl; exact n3 a ha a (List.mem_cons_self ..) rfl
theorem readyF_mem {ops : Array Oper} {listed : Array Bool} {i : Nat} : i ∈ readyF ops listed ↔ i < ops.size ∧ listed.getD i true = false ∧ ∃ o, ops[i]? = some o ∧ ∀ e ∈ o.after.toList, Region.binds .any e = true → listed.getD e.on false = true := by
 unfold readyF
 rw [List.mem_filter, List.mem_range]
 constructor
 ·rintro ⟨h1, h2⟩
  simp only [Bool.and_eq_true, Bool.not_eq_true'] at h2
  refine ⟨h1, h2.1, ops[i], Array.getElem?_eq_getElem h1, fun e he hb => ?_⟩
  have h3 := h2.2
  rw [Array.getElem?_eq_getElem h1] at h3
  simp only [Option.map_some, Option.getD_some, Array.all_eq_true'] at h3
  have := h3 e (by simpa using he)
  simpa [hb] using this
 ·rintro ⟨h1, h2, o, ho, h3⟩
  refine ⟨h1, ?_⟩
  simp only [Bool.and_eq_true, Bool.not_eq_true']
  refine ⟨h2, ?_⟩
  rw [ho]
  simp only [Option.map_some, Option.getD_some, Array.all_eq_true']
  intro e he
  have := h3 e (by simpa using he)
  cases hb : Region.binds .any e
  ·rfl
  ·simp [this hb]
end Go.Vab

/-
  Code and bodies: the evaluator's answer is what a call comes to.
-/
namespace Go.Vab
open Go
def Ex.out : Ex → Exit
 | .nrm => .normal
 | .exit id => .exit id
 | .ret => .ret
def Post (C : Ctx) (E : Gh) (h : Heap) (w : World) (ex : Ex) (s' : St) (e : Exit) (a' : Act) (w' : World) : Prop :=
 e = ex.out ∧ ∃ E', Moves E h w E' s'.heap w' ∧ EnvR E' s'.env a' ∧ VolFree C.vol s'.env ∧ a'.defers = [] ∧ a'.tmps.size = C.ntmps
theorem enumFrom_get : ∀ (as : List AV) (n t : Nat), (enumFrom n as).get t = if n ≤ t then (match as[t - n]? with | some v => v | none => .junk) else .junk
 | [], n, t => by simp [enumFrom, Env.get]
 | a :: as, n, t => by
  simp only [enumFrom, Env.get, enumFrom_get as (n + 1) t]
  by_cases h : t = n
  ·subst h; simp
  ·rw [if_neg h]
   by_cases h2 : n ≤ t
   ·have h3 : n + 1 ≤ t := by omega
    rw [if_pos h3, if_pos h2]
    obtain ⟨k, rfl⟩ : ∃ k, t = n + (k + 1) := ⟨t - n - 1, by omega⟩
    rw [show n + (k + 1) - (n + 1) = k by omega, show n + (k + 1) - n = k + 1 by omega]
    simp
   ·rw [if_neg (by omega), if_neg h2]
theorem VRc.get {E : Gh} : ∀ (as : List AV) (xs : List Value) (k : Nat) (v : AV), VRc E as xs → as[k]? = some v → ∃ y, xs[k]? = some y ∧ VRel E v y
 | [], _, _, _, _, h => by simp at h
 | a :: as, xs, k, v, hr, h => by
  simp only [VRc] at hr
  obtain ⟨y, ys, rfl, h2, h3⟩ := hr
  cases k with
  | zero => simp at h; subst h; exact ⟨y, rfl, h2⟩
  | succ k => simpa using VRc.get as ys k v h3 (by simpa using h)
theorem VRc.length {E : Gh} : ∀ (as : List AV) (xs : List Value), VRc E as xs → xs.length = as.length
 | [], _, h => by simp only [VRc] at h; subst h; rfl
 | a :: as, xs, h => by
  simp only [VRc] at h
  obtain ⟨y, ys, rfl, _, h2⟩ := h
  simp [VRc.length as ys h2]
def resFn (tmps : Array Value) : ResultVar → Sem Value
 | .tmp t => pure (tmps.getD t Go.undef)
 | .cell p t => do loadVar t (← asAddr (tmps.getD p Go.undef))
theorem resAll_sound {P : Program} {C : Ctx} (T : TTok P C.tt) {E : Gh} {w : World} {s : St} {a : Act} (R : RelHeap E s.heap w) (hL : EnvR E s.env a) : ∀ (rs : List ResultVar) (vs : List AV), resAll C s rs = some vs →
  ∃ xs, (rs.mapM (resFn a.tmps)).run P w = .ok xs w ∧ VRc E vs xs
 | [], vs, h => by simp [resAll] at h; subst h; exact ⟨[], by simp, by simp only [VRc]⟩
 | r :: rs, vs, h => by
  simp only [resAll] at h
  obtain ⟨v, h1, h⟩ := bnd_eq_some.1 h
  obtain ⟨vs', h2, h⟩ := bnd_eq_some.1 h
  simp at h; subst h
  obtain ⟨xs, g1, g2⟩ := resAll_sound T R hL rs vs' h2
  cases r with
  | tmp t =>
   simp [resOf] at h1; subst h1
   refine ⟨a.tmps.getD t Go.undef :: xs, ?_, by simp only [VRc]; exact ⟨_, _, rfl, hL t, g2⟩⟩
   simp only [List.mapM_cons, resFn, Sem.run_bind, Sem.run_pure, Result.andThen_ok, g1]
  | cell p t =>
   simp only [resOf] at h1
   obtain ⟨i, hi, h1⟩ := withTy_some h1
   have hp := hL p
   cases hpv : s.env.get p with
   | ptr b ver path t' =>
    rw [hpv] at h1 hp
    obtain ⟨y, q1, q2⟩ := load_sound T R hi hp h1 (by simp)
    simp only [VRel] at hp
    obtain ⟨ad, had, _⟩ := hp
    refine ⟨y :: xs, ?_, by simp only [VRc]; exact ⟨_, _, rfl, q2, g2⟩⟩
    simp only [Instr.loadAt, had, Instr.sureAddr, Sem.run_bind, Sem.run_pure, Result.andThen_ok] at q1
    simp only [List.mapM_cons, resFn, Sem.run_bind, had, asAddr, Sem.run_pure, Result.andThen_ok, q1, g1]
   | win b ver path t' off n =>
    rw [hpv] at h1 hp
    simp only [mLoad] at h1
    split at h1
    ·rename_i hbt
     obtain ⟨y, q1, q2⟩ := win_load T R hi hbt hp h1
     simp only [VRel] at hp
     obtain ⟨ad, had, _⟩ := hp
     refine ⟨y :: xs, ?_, by simp only [VRc]; exact ⟨_, _, rfl, q2, g2⟩⟩
     simp only [Instr.loadAt, had, Instr.sureAddr, Sem.run_bind, Sem.run_pure, Result.andThen_ok] at q1
     simp only [List.mapM_cons, resFn, Sem.run_bind, had, asAddr, Sem.run_pure, Result.andThen_ok, q1, g1]
    ·cases h1
   | _ => rw [hpv] at h1; simp [mLoad] at h1
theorem get_app_junk : ∀ (l pads : Env) (t : Nat), (∀ p ∈ pads, p.2 = AV.junk) → Env.get (l ++ pads) t = Env.get l t
 | [], [], _, _ => rfl
 | [], (k, v) :: pads, t, h => by
  have h1 := h (k, v) (List.mem_cons_self ..)
  simp only at h1; subst h1
  have h2 := get_app_junk [] pads t fun p hp => h p (List.mem_cons_of_mem _ hp)
  simp only [List.nil_append, Env.get] at h2 ⊢
  rw [h2]; simp
 | (k, v) :: l, pads, t, h => by
  simp only [List.cons_append, Env.get, get_app_junk l pads t h]
theorem env0_get (C : Ctx) (args : List AV) (t : Nat) : (env0 C args).get t = (enumFrom 0 args).get t :=
 get_app_junk _ _ _ fun p hp => by
  rw [List.mem_map] at hp
  obtain ⟨a, _, rfl⟩ := hp
  rfl
def cL : Code → Code | .seq a _ => a | .cond _ a _ => a | c => c
def cR : Code → Code | .seq _ b => b | .cond _ _ b => b | c => c
def cB : Code → Code | .block _ c => c | .loop c => c | c => c
def bodyOf (f : Func) : Code := match f.body with | some c => c | none => .skip
theorem ev_exit {C : Ctx} {n : Code} {s : St} (id : Nat) (hn : n = .exit id) : evC C n s = some (.exit id, s) := by subst hn; rfl
@[simp] theorem inBlk_nrm (id : Nat) (s : St) : inBlk id (.nrm, s) = (.nrm, s) := rfl
@[simp] theorem inBlk_ret (id : Nat) (s : St) : inBlk id (.ret, s) = (.ret, s) := rfl
@[simp] theorem inBlk_exit (id j : Nat) (s : St) : inBlk id (.exit j, s) = if j = id then (.nrm, s) else (.exit j, s) := rfl
end Go.Vab

/-
  Memory that nobody looks at any more is let go of.
-/
namespace Go.Vab
open Go
mutual
def AV.under (n : Nat) : AV → Bool
 | .ptr i _ _ _ => decide (i < n)
 | .win i _ _ _ _ _ => decide (i < n)
 | .slice i _ _ _ _ _ _ => decide (i < n)
 | .map i => decide (i < n)
 | .fn _ caps => AV.unders n caps
 | .node vs => AV.unders n vs
 | .tuple vs => AV.unders n vs
 | _ => true
def AV.unders (n : Nat) : List AV → Bool
 | [] => true
 | v :: vs => v.under n && AV.unders n vs
end
def Gh.cut (E : Gh) (n : Nat) : Gh := { E with n := n }
mutual
theorem VRl.under {E : Gh} : ∀ (v : AV) (l : List Value), VRl E v l → v.under E.n = true
 | .bool _, _, _ => rfl
 | .int _ _, _, _ => rfl
 | .str _, _, _ => rfl
 | .nilptr, _, _ => rfl
 | .ptr .., _, hr => by simp only [VRl] at hr; obtain ⟨a, _, hp⟩ := hr; simpa [AV.under] using hp.1
 | .win .., _, hr => by simp only [VRl] at hr; obtain ⟨a, _, hp⟩ := hr; simpa [AV.under] using hp.1
 | .nilslice, _, _ => rfl
 | .slice .., _, hr => by simp only [VRl] at hr; obtain ⟨a, c, _, hp⟩ := hr; simpa [AV.under] using hp.1
 | .nilmap, _, _ => rfl
 | .nilfn, _, _ => rfl
 | .fn _ caps, _, hr => by simp only [VRl] at hr; obtain ⟨cs, _, hp⟩ := hr; simpa [AV.under] using VRc.under caps cs hp
 | .ints _ _, _, _ => rfl
 | .node vs, l, hr => by simp only [VRl] at hr; simpa [AV.under] using VRs.under vs l hr
 | .junk, _, _ => rfl
 | .undef, _, _ => rfl
 | .map _, _, hr => by simp only [VRl] at hr
 | .tuple _, _, hr => by simp only [VRl] at hr
theorem VRs.under {E : Gh} : ∀ (vs : List AV) (l : List Value), VRs E vs l → AV.unders E.n vs = true
 | [], _, _ => rfl
 | v :: vs, l, hr => by
  simp only [VRs] at hr
  obtain ⟨l1, l2, _, h1, h2⟩ := hr
  simp [AV.unders, VRl.under v l1 h1, VRs.under vs l2 h2]
theorem VRel.under {E : Gh} : ∀ (v : AV) (x : Value), VRel E v x → v.under E.n = true
 | .bool _, _, _ => rfl
 | .int _ _, _, _ => rfl
 | .str _, _, _ => rfl
 | .nilptr, _, _ => rfl
 | .ptr .., _, hr => by simp only [VRel] at hr; obtain ⟨a, _, hp⟩ := hr; simpa [AV.under] using hp.1
 | .win .., _, hr => by simp only [VRel] at hr; obtain ⟨a, _, hp⟩ := hr; simpa [AV.under] using hp.1
 | .nilslice, _, _ => rfl
 | .slice .., _, hr => by simp only [VRel] at hr; obtain ⟨a, c, _, hp⟩ := hr; simpa [AV.under] using hp.1
 | .nilmap, _, _ => rfl
 | .nilfn, _, _ => rfl
 | .fn _ caps, _, hr => by simp only [VRel] at hr; obtain ⟨cs, _, hp⟩ := hr; simpa [AV.under] using VRc.under caps cs hp
 | .ints _ _, _, _ => rfl
 | .node vs, _, hr => by simp only [VRel] at hr; obtain ⟨l, _, h⟩ := hr; simpa [AV.under] using VRs.under vs l h
 | .junk, _, _ => rfl
 | .undef, _, _ => rfl
 | .map _, _, hr => by simp only [VRel] at hr; obtain ⟨a, _, hp⟩ := hr; simpa [AV.under] using hp.1
 | .tuple vs, _, hr => by simp only [VRel] at hr; obtain ⟨l, _, h⟩ := hr; simpa [AV.under] using VRc.under vs l h
theorem VRc.under {E : Gh} : ∀ (vs : List AV) (l : List Value), VRc E vs l → AV.unders E.n vs = true
 | [], _, _ => rfl
 | v :: vs, l, hr => by
  simp only [VRc] at hr
  obtain ⟨x, xs, _, h1, h2⟩ := hr
  simp [AV.unders, VRel.under v x h1, VRc.under vs xs h2]
end
section
variable {E : Gh} {n : Nat}
theorem PtrAt.cut {i ver path t a} (hi : i < n) (h : PtrAt E i ver path t a) : PtrAt (E.cut n) i ver path t a := ⟨hi, h.2⟩
theorem WinAt.cut {i ver path t o a} (hi : i < n) (h : WinAt E i ver path t o a) : WinAt (E.cut n) i ver path t o a := ⟨hi, h.2⟩
theorem SlcAt.cut {i ver path t o l c a d} (hi : i < n) (h : SlcAt E i ver path t o l c a d) : SlcAt (E.cut n) i ver path t o l c a d := ⟨hi, h.2⟩
end
mutual
theorem VRl.cut {E : Gh} {n : Nat} : ∀ (v : AV) (l : List Value), v.under n = true → VRl E v l → VRl (E.cut n) v l
 | .bool _, _, _, hr => by simpa only [VRl] using hr
 | .int _ _, _, _, hr => by simpa only [VRl] using hr
 | .str _, _, _, hr => by simpa only [VRl] using hr
 | .nilptr, _, _, hr => by simpa only [VRl] using hr
 | .ptr .., _, hb, hr => by
  simp only [VRl] at hr ⊢
  obtain ⟨a, e, hp⟩ := hr; exact ⟨a, e, hp.cut (by simpa [AV.under] using hb)⟩
 | .win .., _, hb, hr => by
  simp only [VRl] at hr ⊢
  obtain ⟨a, e, hp⟩ := hr; exact ⟨a, e, hp.cut (by simpa [AV.under] using hb)⟩
 | .nilslice, _, _, hr => by simpa only [VRl] using hr
 | .slice .., _, hb, hr => by
  simp only [VRl] at hr ⊢
  obtain ⟨a, c, e, hp⟩ := hr; exact ⟨a, c, e, hp.cut (by simpa [AV.under] using hb)⟩
 | .nilmap, _, _, hr => by simpa only [VRl] using hr
 | .nilfn, _, _, hr => by simpa only [VRl] using hr
 | .fn _ caps, _, hb, hr => by
  simp only [VRl] at hr ⊢
  obtain ⟨cs, e, hp⟩ := hr; exact ⟨cs, e, VRc.cut caps cs (by simpa [AV.under] using hb) hp⟩
 | .ints _ _, _, _, hr => by simpa only [VRl] using hr
 | .node vs, l, hb, hr => by simp only [VRl] at hr ⊢; exact VRs.cut vs l (by simpa [AV.under] using hb) hr
 | .junk, _, _, hr => by simp only [VRl] at hr
 | .undef, _, _, hr => by simp only [VRl] at hr
 | .map _, _, _, hr => by simp only [VRl] at hr
 | .tuple _, _, _, hr => by simp only [VRl] at hr
theorem VRs.cut {E : Gh} {n : Nat} : ∀ (vs : List AV) (l : List Value), AV.unders n vs = true → VRs E vs l → VRs (E.cut n) vs l
 | [], _, _, hr => by simpa only [VRs] using hr
 | v :: vs, l, hb, hr => by
  simp only [AV.unders, Bool.and_eq_true] at hb
  simp only [VRs] at hr ⊢
  obtain ⟨l1, l2, e, h1, h2⟩ := hr
  exact ⟨l1, l2, e, VRl.cut v l1 hb.1 h1, VRs.cut vs l2 hb.2 h2⟩
theorem VRel.cut {E : Gh} {n : Nat} : ∀ (v : AV) (x : Value), v.under n = true → VRel E v x → VRel (E.cut n) v x
 | .bool _, _, _, hr => by simpa only [VRel] using hr
 | .int _ _, _, _, hr => by simpa only [VRel] using hr
 | .str _, _, _, hr => by simpa only [VRel] using hr
 | .nilptr, _, _, hr => by simpa only [VRel] using hr
 | .ptr .., _, hb, hr => by
  simp only [VRel] at hr ⊢
  obtain ⟨a, e, hp⟩ := hr; exact ⟨a, e, hp.cut (by simpa [AV.under] using hb)⟩
 | .win .., _, hb, hr => by
  simp only [VRel] at hr ⊢
  obtain ⟨a, e, hp⟩ := hr; exact ⟨a, e, hp.cut (by simpa [AV.under] using hb)⟩
 | .nilslice, _, _, hr => by simpa only [VRel] using hr
 | .slice .., _, hb, hr => by
  simp only [VRel] at hr ⊢
  obtain ⟨a, c, e, hp⟩ := hr; exact ⟨a, c, e, hp.cut (by simpa [AV.under] using hb)⟩
 | .nilmap, _, _, hr => by simpa only [VRel] using hr
 | .nilfn, _, _, hr => by simpa only [VRel] using hr
 | .fn _ caps, _, hb, hr => by
  simp only [VRel] at hr ⊢
  obtain ⟨cs, e, hp⟩ := hr; exact ⟨cs, e, VRc.cut caps cs (by simpa [AV.under] using hb) hp⟩
 | .ints _ _, _, _, hr => by simpa only [VRel] using hr
 | .node vs, _, hb, hr => by
  simp only [VRel] at hr ⊢
  obtain ⟨l, e, hp⟩ := hr; exact ⟨l, e, VRs.cut vs l (by simpa [AV.under] using hb) hp⟩
 | .junk, _, _, _ => by simp only [VRel]
 | .undef, _, _, hr => by simpa only [VRel] using hr
 | .map i, _, hb, hr => by
  simp only [VRel] at hr ⊢
  obtain ⟨a, e, hp⟩ := hr; exact ⟨a, e, (of_decide_eq_true hb : i < n), hp.2⟩
 | .tuple vs, _, hb, hr => by
  simp only [VRel] at hr ⊢
  obtain ⟨xs, e, hp⟩ := hr; exact ⟨xs, e, VRc.cut vs xs (by simpa [AV.under] using hb) hp⟩
theorem VRc.cut {E : Gh} {n : Nat} : ∀ (vs : List AV) (l : List Value), AV.unders n vs = true → VRc E vs l → VRc (E.cut n) vs l
 | [], _, _, hr => by simpa only [VRc] using hr
 | v :: vs, l, hb, hr => by
  simp only [AV.unders, Bool.and_eq_true] at hb
  simp only [VRc] at hr ⊢
  obtain ⟨x, xs, e, h1, h2⟩ := hr
  exact ⟨x, xs, e, VRel.cut v x hb.1 h1, VRc.cut vs xs hb.2 h2⟩
end
theorem unders_ints (n : Nat) : ∀ ks : List (List Int), AV.unders n (ks.map (AV.ints .u8)) = true
 | [] => rfl
 | k :: ks => by simp [AV.unders, AV.under, unders_ints n ks]
theorem MapAt.under {E : Gh} {w : World} {i : Nat} {v : AV} (h : MapAt E w i v) (n : Nat) : v.under n = true := by
 obtain ⟨ks, es, clock, rfl, _⟩ := h
 simp [AV.under, unders_ints]
theorem BlkAt.under {E : Gh} {w : World} {i : Nat} {b : Blk} (h : BlkAt E w i b) : b.v.under E.n = true := by
 by_cases hm : b.mode = .mp
 ·exact (h.mp hm).under _
 ·obtain ⟨l, h1, _⟩ := h.body hm
  exact VRl.under _ _ h1
theorem Moves.cut {E E' : Gh} {h h1 t : Heap} {w w' : World} (R : RelHeap E h w) (m : Moves E h w E' (h1 ++ t) w') (hl : h1.length = h.length)
  (hb : ∀ (i : Nat) (b : Blk), h1[i]? = some b → (∃ c : Blk, h[i]? = some c ∧ c.v = b.v) ∨ b.v.under h.length = true) : Moves E h w (E'.cut h.length) h1 w' := by
 have get : ∀ (i : Nat) (b : Blk), h1[i]? = some b → (h1 ++ t)[i]? = some b := fun i b hi => by
  rw [List.getElem?_append_left (List.getElem?_eq_some_iff.1 hi).1]; exact hi
 refine ⟨⟨Nat.le_of_eq R.n, fun i hi => m.ext.ver i hi, fun i hi => m.ext.many i hi, fun i hi => m.ext.ty i hi, fun i hi => m.ext.same i hi⟩, ⟨hl.symm, fun i b hi => ?_, fun i j b c hi hj => ?_⟩, m.size, m.keep, fun x hx => ?_, m.io⟩
 ·have q := m.rel.at_ i b (get i b hi)
  refine ⟨q.ver, q.fits, q.mp, fun hm => ?_, q.grow⟩
  obtain ⟨l, h1, h2, h3⟩ := q.body hm
  refine ⟨l, VRl.cut _ _ ?_ h1, h2, h3⟩
  rcases hb i b hi with ⟨c, hc, hv⟩ | hbel
  ·have := (R.at_ i c hc).under
   rw [R.n, hv] at this; exact this
  ·exact hbel
 ·exact m.rel.inj i j b c (get i b hi) (get j c hj)
 ·obtain ⟨i, c, hi, ho, he⟩ := hx
  exact m.img x ⟨i, c, get i c hi, ho, he⟩
end Go.Vab

/-
  A table of types, checked against a program by one computation.
-/
namespace Go.Vab
open Go
def tabOf (l : List (Nat × TI)) (t : Nat) : Option TI := match l with
 | [] => none
 | (k, i) :: r => if t = k then some i else tabOf r t
def valB : Value → Value → Bool
 | .bool a, .bool b => a == b
 | .int k a, .int k' b => decide (k = k') && decide (a = b)
 | .string a, .string b => decide (a.data.toList = b.data.toList)
 | .pointer none, .pointer none => true
 | .slice none a b, .slice none c d => decide (a = c) && decide (b = d)
 | .map none, .map none => true
 | .nilFunc, .nilFunc => true
 | _, _ => false
theorem valB_eq {a b : Value} (h : valB a b = true) : a = b := by
 unfold valB at h
 split at h <;> try (cases h; done)
 all_goals first
  | rfl
  | (simp at h; rw [h])
  | (simp at h; rw [h.1, h.2])
  | skip
 rename_i a b
 simp at h
 congr 1
 cases a; cases b
 simp only at h
 congr 1
def valsB : List Value → List Value → Bool
 | [], [] => true
 | a :: as, b :: bs => valB a b && valsB as bs
 | _, _ => false
theorem valsB_eq : ∀ {as bs : List Value}, valsB as bs = true → as = bs
 | [], [], _ => rfl
 | a :: as, b :: bs, h => by
  simp only [valsB, Bool.and_eq_true] at h
  rw [valB_eq h.1, valsB_eq h.2]
 | [], _ :: _, h => by simp [valsB] at h
 | _ :: _, [], h => by simp [valsB] at h
mutual
def zfl : AV → Option (List Value)
 | .bool b => some [.bool b]
 | .int k n => some [.int k n]
 | .str s => some [.string s]
 | .nilptr => some [.pointer none]
 | .nilslice => some [.slice none 0 0]
 | .nilmap => some [.map none]
 | .nilfn => some [.nilFunc]
 | .ints k xs => some (xs.map (Value.int k))
 | .node vs => zfls vs
 | _ => none
def zfls : List AV → Option (List Value)
 | [] => some []
 | v :: vs => match zfl v, zfls vs with
  | some a, some b => some (a ++ b)
  | _, _ => none
end
mutual
theorem zfl_rel (E : Gh) : ∀ (v : AV) (l : List Value), zfl v = some l → VRl E v l
 | .bool _, l, h => by simp [zfl] at h; simp only [VRl]; exact h.symm
 | .int _ _, l, h => by simp [zfl] at h; simp only [VRl]; exact h.symm
 | .str _, l, h => by simp [zfl] at h; simp only [VRl]; exact h.symm
 | .nilptr, l, h => by simp [zfl] at h; simp only [VRl]; exact h.symm
 | .nilslice, l, h => by simp [zfl] at h; simp only [VRl]; exact h.symm
 | .nilmap, l, h => by simp [zfl] at h; simp only [VRl]; exact h.symm
 | .nilfn, l, h => by simp [zfl] at h; simp only [VRl]; exact h.symm
 | .ints _ _, l, h => by simp [zfl] at h; simp only [VRl]; exact h.symm
 | .node vs, l, h => by simp only [zfl] at h; simp only [VRl]; exact zfls_rel E vs l h
 | .junk, _, h => by simp [zfl] at h
 | .undef, _, h => by simp [zfl] at h
 | .ptr .., _, h => by simp [zfl] at h
 | .win .., _, h => by simp [zfl] at h
 | .slice .., _, h => by simp [zfl] at h
 | .map _, _, h => by simp [zfl] at h
 | .fn .., _, h => by simp [zfl] at h
 | .tuple _, _, h => by simp [zfl] at h
theorem zfls_rel (E : Gh) : ∀ (vs : List AV) (l : List Value), zfls vs = some l → VRs E vs l
 | [], l, h => by simp [zfls] at h; simp only [VRs]; exact h
 | v :: vs, l, h => by
  simp only [zfls] at h
  split at h
  ·rename_i a b h1 h2
   simp at h
   simp only [VRs]
   exact ⟨a, b, h.symm, zfl_rel E v a h1, zfls_rel E vs b h2⟩
  ·cases h
end
def zeroB (i : TI) (z : Value) : Bool := match zfl i.zero with
 | some cs => (match z with | .agg c => i.ty.isAgg && valsB c.toList cs | z => !i.ty.isAgg && valsB [z] cs)
 | none => false
def descB (P : Program) (l : List (Nat × TI)) (t : Nat) (d : TypeDesc) : Ty → Bool
 | .int k => (match d with | .int k' => decide (k = k') | _ => false)
 | .cell => (match d with | .array _ _ | .struct _ | .int _ | .interface _ => false | _ => true)
 | .arr n u => (match d with | .array n' e => decide (n = n') && (match tabOf l e with | some j => Ty.beq j.ty u | none => false) | _ => false)
 | .struct ts => (match d with
  | .struct fs => decide (fs.size = ts.length) && !P.stoodInHeld t && (List.range fs.size).all fun f => match fs[f]?, ts[f]? with
   | some x, some u => decide (x.name ≠ "_") && decide (x.offset = Ty.sizes (ts.take f)) && (match tabOf l x.type with | some j => Ty.beq j.ty u && decide (j.ty.size ≠ 0) | none => false)
   | _, _ => false
  | _ => false)
def tiB (P : Program) (l : List (Nat × TI)) (t : Nat) (i : TI) : Bool :=
 match P.info? t, P.underlying t with
 | some f, some d =>
  decide (f.size = i.ty.size) && decide (f.bytes = i.bytes) && hasTy i.zero i.ty && decide (i.ty.height ≤ 1000) &&
  (match f.zero with | some z => zeroB i z | none => false) &&
  descB P l t d i.ty &&
  (match i.elem with | some e => (match d with | .slice e' => decide (e = e') && (match tabOf l e with | some j => decide (j.ty.size ≠ 0) | none => false) | _ => false) | none => true) &&
  (match i.kind with | some k => Ty.beq i.ty (.int k) | none => true) &&
  (if i.str then (match d with | .string => true | _ => false) else true) &&
  (match i.pt with | some a => (match d with | .pointer a' => decide (a = a') | _ => false) | none => true) &&
  (if i.bool then (match d with | .bool => true | _ => false) else true) &&
  (if i.ty.isAgg then !P.eqGuardType P.depth t else true)
 | _, _ => false
def ttB (P : Program) (l : List (Nat × TI)) : Bool := l.all fun p => tiB P l p.1 p.2
theorem tabOf_mem : ∀ {l : List (Nat × TI)} {t : Nat} {i : TI}, tabOf l t = some i → (t, i) ∈ l
 | [], _, _, h => by simp [tabOf] at h
 | (k, j) :: r, t, i, h => by
  simp only [tabOf] at h
  split at h
  ·rename_i e; subst e; simp at h; subst h; exact List.mem_cons_self ..
  ·exact List.mem_cons_of_mem _ (tabOf_mem h)
theorem zeroB_ok {i : TI} {z : Value} (h : zeroB i z = true) (ht : hasTy i.zero i.ty = true) (E : Gh) : VRel E i.zero z := by
 unfold zeroB at h
 split at h
 ·rename_i cs hcs
  have hl := zfl_rel E i.zero cs hcs
  have hv := VRel.of_cells ht hl
  split at h
  ·rename_i c
   rw [Bool.and_eq_true] at h
   have := valsB_eq h.2
   rw [h.1] at hv
   simpa [ofCells, ← this] using hv
  ·rename_i z _
   rw [Bool.and_eq_true] at h
   have := valsB_eq h.2
   have hf : i.ty.isAgg = false := by simpa using h.1
   rw [hf] at hv
   simpa [ofCells, ← this] using hv
 ·cases h
theorem ttB_ok {P : Program} {l : List (Nat × TI)} (h : ttB P l = true) : TTok P (tabOf l) := by
 have main : ∀ t i, tabOf l t = some i → ∃ f d, P.info? t = some f ∧ P.underlying t = some d ∧ f.size = i.ty.size ∧ f.bytes = i.bytes ∧ hasTy i.zero i.ty = true ∧ i.ty.height ≤ 1000 ∧
   (∃ z, f.zero = some z ∧ zeroB i z = true) ∧ descB P l t d i.ty = true ∧
   (∀ e, i.elem = some e → d = .slice e ∧ ∃ j, tabOf l e = some j ∧ j.ty.size ≠ 0) ∧ (∀ k, i.kind = some k → i.ty = .int k) ∧ (i.str = true → d = .string) ∧
   (∀ a, i.pt = some a → d = .pointer a) ∧ (i.bool = true → d = .bool) ∧ (i.ty.isAgg = true → P.eqGuardType P.depth t = false) := by
  intro t i ht
  have hb := (List.all_eq_true.1 h) (t, i) (tabOf_mem ht)
  unfold tiB at hb
  split at hb
  ·rename_i f d hf hd
   simp only [Bool.and_eq_true, decide_eq_true_eq] at hb
   obtain ⟨⟨⟨⟨⟨⟨⟨⟨⟨⟨⟨b1, b2⟩, b3⟩, b4⟩, b5⟩, b6⟩, b7⟩, b8⟩, b9⟩, b10⟩, b11⟩, b12⟩ := hb
   refine ⟨f, d, hf, hd, b1, b2, b3, b4, ?_, b6, ?_, ?_, ?_, ?_, ?_, ?_⟩
   ·cases hz : f.zero with
    | none => rw [hz] at b5; cases b5
    | some z => rw [hz] at b5; exact ⟨z, rfl, b5⟩
   ·intro e he
    rw [he] at b7
    simp only at b7
    split at b7
    ·rename_i e'
     rw [Bool.and_eq_true, decide_eq_true_eq] at b7
     obtain ⟨q1, q2⟩ := b7
     cases hj : tabOf l e with
     | none => rw [hj] at q2; cases q2
     | some j => rw [hj] at q2; exact ⟨by rw [q1], j, rfl, by simpa using q2⟩
    ·cases b7
   ·intro k hk
    rw [hk] at b8
    exact Ty.beq_eq _ _ b8
   ·intro hs
    rw [hs] at b9
    simp only [if_true] at b9
    split at b9
    ·rfl
    ·cases b9
   ·intro a ha
    rw [ha] at b10
    simp only at b10
    split at b10
    ·rw [decide_eq_true_eq] at b10; rw [b10]
    ·cases b10
   ·intro hs
    rw [hs] at b11
    simp only [if_true] at b11
    split at b11
    ·rfl
    ·cases b11
   ·intro ha
    rw [ha] at b12
    simpa using b12
  ·cases hb
 refine ⟨fun t i ht => ?_, fun t i ht => ?_, fun t i k ht hk => ?_, fun t i ht hk => ?_, fun t i n u ht hk => ?_, fun t i ts ht hk => ?_, fun t i e ht he => ?_, fun t i k ht hk => ?_, fun t i ht hs => ?_, fun t i a ht ha => ?_, fun t i ht hb => ?_, fun t i ht => ?_, fun t i ht ha => ?_⟩ <;>
  obtain ⟨f, d, hf, hd, b1, b2, b3, b4, ⟨z, hz, hzb⟩, b6, b7, b8, b9, b10, b11, b12⟩ := main t i ht
 ·exact ⟨f, z, hf, b1, b2, hz, zeroB_ok hzb b3⟩
 ·exact b3
 ·rw [hk] at b6; simp only [descB] at b6
  split at b6
  ·rw [decide_eq_true_eq] at b6; rw [hd, b6]
  ·cases b6
 ·rw [hk] at b6; simp only [descB] at b6
  refine ⟨d, hd, fun n e h => ?_, fun fs h => ?_, fun k h => ?_, fun ms h => ?_⟩ <;> (subst h; cases b6)
 ·rw [hk] at b6; simp only [descB] at b6
  split at b6
  ·rename_i n' e
   rw [Bool.and_eq_true, decide_eq_true_eq] at b6
   obtain ⟨q1, q2⟩ := b6
   cases hj : tabOf l e with
   | none => rw [hj] at q2; cases q2
   | some j => rw [hj] at q2; exact ⟨e, j, by rw [hd, q1], hj, Ty.beq_eq _ _ q2⟩
  ·cases b6
 ·rw [hk] at b6; simp only [descB] at b6
  split at b6
  ·rename_i fs
   simp only [Bool.and_eq_true, decide_eq_true_eq] at b6
   obtain ⟨⟨q1, q2⟩, q3⟩ := b6
   refine ⟨fs, hd, q1, by simpa using q2, fun g x hx => ?_⟩
   have hg : g < fs.size := (Array.getElem?_eq_some_iff.1 hx).1
   have := (List.all_eq_true.1 q3) g (List.mem_range.2 hg)
   rw [hx] at this
   cases hu : ts[g]? with
   | none => rw [hu] at this; cases this
   | some u =>
    rw [hu] at this
    simp only [Bool.and_eq_true, decide_eq_true_eq] at this
    obtain ⟨⟨r1, r2⟩, r3⟩ := this
    cases hj : tabOf l x.type with
    | none => rw [hj] at r3; cases r3
    | some j =>
     rw [hj] at r3
     simp only [Bool.and_eq_true, decide_eq_true_eq] at r3
     exact ⟨r1, r2, j, rfl, by rw [Ty.beq_eq _ _ r3.1], r3.2⟩
  ·cases b6
 ·obtain ⟨q1, q2⟩ := b7 e he
  exact ⟨by rw [hd, q1], q2⟩
 ·exact b8 k hk
 ·rw [hd, b9 hs]
 ·rw [hd, b10 a ha]
 ·rw [hd, b11 hb]
 ·exact b4
 ·exact b12 ha
end Go.Vab

/-
  Bytes and words as bit vectors: what the evaluator makes of operations on them.
-/
namespace Go.Vab
open Go
def u8 (x : BitVec 8) : AV := .int .u8 (x.toNat : Int)
def u64 (x : BitVec 64) : AV := .int .u64 (x.toNat : Int)
def nat (n : Nat) : AV := .int .i64 (n : Int)
def bytes (xs : List (BitVec 8)) : AV := .ints .u8 (xs.map fun x => (x.toNat : Int))
theorem wrap8 (n : Int) : IntKind.u8.wrap n = ((BitVec.ofInt 8 n).toNat : Int) := by
 have e : IntKind.u8.wrap n = n % (2 ^ 8 : Int) := rfl
 rw [e, BitVec.toNat_ofInt]
 have : (0 : Int) ≤ n % 256 := Int.emod_nonneg _ (by decide)
 have h1 : (2 ^ 8 : Int) = 256 := rfl
 have h2 : ((2 ^ 8 : Nat) : Int) = 256 := rfl
 rw [h1, h2]
 omega
theorem wrap64 (n : Int) : IntKind.u64.wrap n = ((BitVec.ofInt 64 n).toNat : Int) := by
 have e : IntKind.u64.wrap n = n % (2 ^ 64 : Int) := rfl
 rw [e, BitVec.toNat_ofInt]
 have : (0 : Int) ≤ n % 18446744073709551616 := Int.emod_nonneg _ (by decide)
 have h1 : (2 ^ 64 : Int) = 18446744073709551616 := rfl
 have h2 : ((2 ^ 64 : Nat) : Int) = 18446744073709551616 := rfl
 rw [h1, h2]
 omega
theorem wrapi {n : Int} (h : -9223372036854775808 ≤ n ∧ n < 9223372036854775808) : IntKind.i64.wrap n = n := by
 have e : IntKind.i64.wrap n = (if (true && decide (n % (2 ^ 64 : Int) ≥ (2 ^ 63 : Int))) = true then n % (2 ^ 64 : Int) - (2 ^ 64 : Int) else n % (2 ^ 64 : Int)) := rfl
 have h1 : (2 ^ 64 : Int) = 18446744073709551616 := rfl
 have h2 : (2 ^ 63 : Int) = 9223372036854775808 := rfl
 rw [e, h1, h2]
 split <;> rename_i hc <;> simp at hc <;> omega
theorem ofInt8 (x : BitVec 8) : BitVec.ofInt 8 (x.toNat : Int) = x := by simp
theorem ofInt64 (x : BitVec 64) : BitVec.ofInt 64 (x.toNat : Int) = x := by simp
@[simp] theorem asNat_nat (n : Nat) : asNat (nat n) = some n := by simp [asNat, nat]
section
variable (x y : BitVec 8)
@[simp] theorem u8_add : mBin .add (u8 x) (u8 y) = some (u8 (x + y)) := by
 simp only [mBin, u8, mBinI, if_true, wrap8, BitVec.ofInt_add, ofInt8]
@[simp] theorem u8_eql : mBin .eql (u8 x) (u8 y) = some (.bool (decide (x = y))) := by
 simp only [mBin, u8, mBinI, if_true, Option.some.injEq, AV.bool.injEq]
 rw [Bool.eq_iff_iff]; simp [BitVec.toNat_eq, Int.natCast_inj]
@[simp] theorem u8_neq : mBin .neq (u8 x) (u8 y) = some (.bool (decide (x ≠ y))) := by
 simp only [mBin, u8, mBinI, if_true, Option.some.injEq, AV.bool.injEq]
 rw [Bool.eq_iff_iff]; simp [BitVec.toNat_eq, Int.natCast_inj]
@[simp] theorem u8_lss : mBin .lss (u8 x) (u8 y) = some (.bool (decide (x < y))) := by
 simp only [mBin, u8, mBinI, if_true, BitVec.lt_def, Option.some.injEq, AV.bool.injEq]
 rw [Bool.eq_iff_iff]; simp
@[simp] theorem u8_gtr : mBin .gtr (u8 x) (u8 y) = some (.bool (decide (y < x))) := by
 simp only [mBin, u8, mBinI, if_true, BitVec.lt_def, Option.some.injEq, AV.bool.injEq]
 rw [Bool.eq_iff_iff]; simp
@[simp] theorem u8_leq : mBin .leq (u8 x) (u8 y) = some (.bool (decide (x ≤ y))) := by
 simp only [mBin, u8, mBinI, if_true, BitVec.le_def, Option.some.injEq, AV.bool.injEq]
 rw [Bool.eq_iff_iff]; simp
@[simp] theorem u8_u64 : mConv .u64 (u8 x) = some (u64 (x.setWidth 64)) := by
 simp only [mConv, u8, u64, wrap64]
 congr 3
 rw [BitVec.ofInt_natCast]
 simp
end
section
variable (x y : BitVec 64)
@[simp] theorem u64_add : mBin .add (u64 x) (u64 y) = some (u64 (x + y)) := by
 simp only [mBin, u64, mBinI, if_true, wrap64, BitVec.ofInt_add, ofInt64]
@[simp] theorem u64_neq : mBin .neq (u64 x) (u64 y) = some (.bool (decide (x ≠ y))) := by
 simp only [mBin, u64, mBinI, if_true, Option.some.injEq, AV.bool.injEq]
 rw [Bool.eq_iff_iff]; simp [BitVec.toNat_eq, Int.natCast_inj]
theorem shl64 (k : IntKind) (n : Nat) : mBin .shl (u64 x) (.int k (n : Int)) = some (u64 (x <<< n)) := by
 simp only [mBin, u64, mBinI]
 rw [if_pos (by omega), wrap64]
 congr 3
 simp only [Int.toNat_natCast, IntKind.bits]
 have e : ((x.toNat : Int) * 2 ^ min n 64) = ((x.toNat * 2 ^ min n 64 : Nat) : Int) := by push_cast; rfl
 rw [e, BitVec.ofInt_natCast, BitVec.toNat_ofNat, BitVec.toNat_shiftLeft, Nat.shiftLeft_eq]
 by_cases h : n ≤ 64
 ·rw [Nat.min_eq_left h]
 ·rw [Nat.min_eq_right (by omega)]
  have : 2 ^ n = 2 ^ 64 * 2 ^ (n - 64) := by rw [← Nat.pow_add]; congr 1; omega
  rw [this, ← Nat.mul_assoc, Nat.mul_right_comm, Nat.mul_mod_left, Nat.mul_mod_left]
theorem shr64 (k : IntKind) (n : Nat) : mBin .shr (u64 x) (.int k (n : Int)) = some (u64 (x >>> n)) := by
 simp only [mBin, u64, mBinI]
 rw [if_pos (by omega)]
 congr 2
 simp only [Int.toNat_natCast, IntKind.bits, BitVec.toNat_ushiftRight, Nat.shiftRight_eq_div_pow]
 have e : (2 : Int) ^ min n 64 = ((2 ^ min n 64 : Nat) : Int) := by push_cast; rfl
 rw [e, Int.fdiv_eq_ediv_of_nonneg _ (Int.natCast_nonneg _), ← Int.natCast_ediv]
 congr 1
 by_cases h : n ≤ 64
 ·rw [Nat.min_eq_left h]
 ·rw [Nat.min_eq_right (by omega)]
  have h1 := x.isLt
  have h2 : 2 ^ 64 ≤ 2 ^ n := Nat.pow_le_pow_right (by decide) (by omega)
  rw [Nat.div_eq_of_lt h1, Nat.div_eq_of_lt (by omega)]
@[simp] theorem u64_shl_u64 (n : BitVec 64) : mBin .shl (u64 x) (u64 n) = some (u64 (x <<< n.toNat)) := shl64 x _ _
@[simp] theorem u64_shr_u64 (n : BitVec 64) : mBin .shr (u64 x) (u64 n) = some (u64 (x >>> n.toNat)) := shr64 x _ _
end
@[simp] theorem nat_u64 (n : Nat) : mConv .u64 (nat n) = some (u64 (BitVec.ofNat 64 n)) := by
 simp only [mConv, u64, nat, wrap64, BitVec.ofInt_natCast]
theorem nat_add {m n : Nat} (h : m + n < 9223372036854775808) : mBin .add (nat m) (nat n) = some (nat (m + n)) := by
 simp only [mBin, nat, mBinI, if_true]
 rw [wrapi (by omega)]; rfl
theorem nat_sub {m n : Nat} (h : n ≤ m) (h' : m < 9223372036854775808) : mBin .sub (nat m) (nat n) = some (nat (m - n)) := by
 simp only [mBin, nat, mBinI, if_true]
 rw [wrapi (by omega)]; congr 2; omega
theorem nat_rem {m n : Nat} (h : n ≠ 0) : mBin .rem (nat m) (nat n) = some (nat (m % n)) := by
 simp only [mBin, nat, mBinI, true_and]
 rw [if_pos (by omega), ← Int.ofNat_tmod]
@[simp] theorem nat_lss (m n : Nat) : mBin .lss (nat m) (nat n) = some (.bool (decide (m < n))) := by
 simp only [mBin, nat, mBinI, if_true, Option.some.injEq, AV.bool.injEq]
 rw [Bool.eq_iff_iff]; simp
@[simp] theorem nat_leq (m n : Nat) : mBin .leq (nat m) (nat n) = some (.bool (decide (m ≤ n))) := by
 simp only [mBin, nat, mBinI, if_true, Option.some.injEq, AV.bool.injEq]
 rw [Bool.eq_iff_iff]; simp
@[simp] theorem nat_gtr (m n : Nat) : mBin .gtr (nat m) (nat n) = some (.bool (decide (n < m))) := by
 simp only [mBin, nat, mBinI, if_true, Option.some.injEq, AV.bool.injEq]
 rw [Bool.eq_iff_iff]; simp
@[simp] theorem nat_geq (m n : Nat) : mBin .geq (nat m) (nat n) = some (.bool (decide (n ≤ m))) := by
 simp only [mBin, nat, mBinI, if_true, Option.some.injEq, AV.bool.injEq]
 rw [Bool.eq_iff_iff]; simp
@[simp] theorem nat_eql (m n : Nat) : mBin .eql (nat m) (nat n) = some (.bool (decide (m = n))) := by
 simp only [mBin, nat, mBinI, if_true, Option.some.injEq, AV.bool.injEq]
 rw [Bool.eq_iff_iff]; simp [Int.natCast_inj]
@[simp] theorem nat_neq (m n : Nat) : mBin .neq (nat m) (nat n) = some (.bool (decide (m ≠ n))) := by
 simp only [mBin, nat, mBinI, if_true, Option.some.injEq, AV.bool.injEq]
 rw [Bool.eq_iff_iff]; simp [Int.natCast_inj]
@[simp] theorem hasTy_u8 (x : BitVec 8) : hasTy (u8 x) (.int .u8) = true := by simp [hasTy, u8]
@[simp] theorem hasTy_bytes (xs : List (BitVec 8)) (n : Nat) : hasTy (bytes xs) (.arr n (.int .u8)) = decide (xs.length = n) := by simp [hasTy, bytes]
@[simp] theorem bytes_get (xs : List (BitVec 8)) (i : Nat) : (bytes xs).get [i] = (xs[i]?).map u8 := by
 simp only [bytes, AV.get, List.getElem?_map]
 cases xs[i]? <;> rfl
@[simp] theorem bytes_put (xs : List (BitVec 8)) (i : Nat) (x : BitVec 8) : (bytes xs).put [i] (u8 x) = if i < xs.length then some (bytes (xs.set i x)) else none := by
 simp only [bytes, AV.put, u8, true_and, List.length_map]
 split
 ·rw [List.map_set]
 ·rfl
theorem bytes_inj {xs ys : List (BitVec 8)} : bytes xs = bytes ys ↔ xs = ys := by
 constructor
 ·intro h
  simp only [bytes, AV.ints.injEq, true_and] at h
  exact (List.map_inj_right (fun x y e => BitVec.eq_of_toNat_eq (Int.ofNat.inj e))).1 h
 ·rintro rfl; rfl
@[simp] theorem eqv_bytes (xs ys : List (BitVec 8)) (h : xs.length = ys.length) : eqv (bytes xs) (bytes ys) = some (decide (xs = ys)) := by
 have : (xs.map (fun x => (x.toNat : Int)) = ys.map fun x => (x.toNat : Int)) ↔ xs = ys := List.map_inj_right (fun x y e => BitVec.eq_of_toNat_eq (Int.ofNat.inj e))
 simp [bytes, eqv, h, this]
@[simp] theorem pureV_get (h : Heap) (v : AV) : pureV h (some v) = some (v, h) := rfl
@[simp] theorem pureV_not (h : Heap) : pureV h none = none := rfl
@[simp] theorem blkAt_new (h l : Heap) (k ver : Nat) : blkAt (h ++ l) (h.length + k) ver = blkAt l k ver := by
 unfold blkAt
 rw [List.getElem?_append_right (by omega), Nat.add_sub_cancel_left]
@[simp] theorem blkAt_new0 (h l : Heap) (ver : Nat) : blkAt (h ++ l) h.length ver = blkAt l 0 ver := blkAt_new h l 0 ver
@[simp] theorem blkAt_zero (b : Blk) (l : Heap) (ver : Nat) : blkAt (b :: l) 0 ver = if b.ver = ver ∧ b.mode ≠ .mp then some b else none := rfl
@[simp] theorem blkAt_succ (b : Blk) (l : Heap) (k ver : Nat) : blkAt (b :: l) (k + 1) ver = blkAt l k ver := rfl
@[simp] theorem set_new (h l : Heap) (k : Nat) (b : Blk) : (h ++ l).set (h.length + k) b = h ++ l.set k b := by
 rw [List.set_append, if_neg (by omega), Nat.add_sub_cancel_left]
@[simp] theorem get_nil (v : AV) : v.get [] = some v := by cases v <;> rfl
@[simp] theorem get_node (vs : List AV) (j : Nat) (r : List Nat) : (AV.node vs).get (j :: r) = bnd vs[j]? fun v => v.get r := by
 simp only [AV.get]; cases vs[j]? <;> rfl
@[simp] theorem put_nil (v x : AV) : v.put [] x = some x := by cases v <;> rfl
@[simp] theorem put_node (vs : List AV) (j : Nat) (r : List Nat) (x : AV) : (AV.node vs).put (j :: r) x = bnd vs[j]? fun v => bnd (v.put r x) fun v' => some (.node (vs.set j v')) := by
 simp only [AV.put]
 cases vs[j]? with
 | none => rfl
 | some v => simp only [bnd_some]; cases v.put r x <;> rfl
@[simp] theorem mLoad_ptr (t : Ty) (i ver : Nat) (path : List Nat) (h : Heap) : mLoad t (.ptr i ver path t) h = bnd (blkAt h i ver) fun b => b.v.get path := by
 simp [mLoad]
@[simp] theorem stU_ptr (t : Ty) (i ver : Nat) (path : List Nat) (x : AV) (h : Heap) (hx : hasTy x t = true) : stU t (.ptr i ver path t) x h =
  bnd (blkAt h i ver) fun b => if b.mode = .ro then none else bnd (b.v.put path x) fun v' => some (.undef, h.set i { b with v := v' }) := by
 unfold stU mStore
 simp only [Ty.beq_self, hx, Bool.and_self, if_true]
 cases blkAt h i ver with
 | none => rfl
 | some b =>
  simp only [bnd_some]
  split
  ·rfl
  ·cases b.v.put path x <;> rfl
@[simp] theorem mIdxA_nat (n : Nat) (u : Ty) (b ver : Nat) (path : List Nat) (j : Nat) : mIdxA (.arr n u) (.ptr b ver path (.arr n u)) (nat j) = if j < n then some (.ptr b ver (path ++ [j]) u) else none := by simp [mIdxA]
end Go.Vab

/-
  What a reading of the arguments tells: abstract values, and blocks that are only read.
-/
namespace Go.Vab
open Go
def Rd (P : Program) (tt : Nat → Option TI) (h : Heap) : Nat → TypeId → AV → Prop
 | 0, _, _ => False
 | n + 1, t, v => match P.underlying t with
  | some .bool => ∃ b, v = .bool b
  | some (.int k) => ∃ x, v = .int k x ∧ (Lit.int k x).wf = true
  | some .string => ∃ s, v = .str s ∧ s.size ≤ maxLen
  | some (.slice e) => v = .nilslice ∨ ∃ i el row m len cap, v = .slice i 0 [] el.ty 0 len (some cap) ∧ tt e = some el ∧ h[i]? = some ⟨row, 0, m⟩ ∧ hasTy row (.arr cap el.ty) = true ∧ len ≤ cap ∧ cap ≤ maxLen ∧
    ∀ j, j < cap → ∃ x, row.get [j] = some x ∧ Rd P tt h n e x
  | some (.struct fs) => ∃ vs, v = .node vs ∧ ∀ (f : Nat) x, fs[f]? = some x → ∃ y, vs[f]? = some y ∧ Rd P tt h n x.type y
  | some (.array m e) => ∀ j, j < m → ∃ x, v.get [j] = some x ∧ Rd P tt h n e x
  | _ => False
theorem Rd.app {P : Program} {tt : Nat → Option TI} {h : Heap} (l : Heap) : ∀ (n : Nat) (t : TypeId) (v : AV), Rd P tt h n t v → Rd P tt (h ++ l) n t v
 | 0, _, _, hr => hr
 | n + 1, t, v, hr => by
  unfold Rd at hr ⊢
  split at hr
  ·exact hr
  ·exact hr
  ·exact hr
  ·rcases hr with hr | ⟨i, el, row, m, len, cap, h1, h2, h3, h4, h5, h6, h7⟩
   ·exact .inl hr
   ·exact .inr ⟨i, el, row, m, len, cap, h1, h2, by rw [List.getElem?_append_left (List.getElem?_eq_some_iff.1 h3).1]; exact h3, h4, h5, h6, fun j hj => let ⟨x, hx, hy⟩ := h7 j hj; ⟨x, hx, Rd.app l n _ _ hy⟩⟩
  ·obtain ⟨vs, h1, h2⟩ := hr
   exact ⟨vs, h1, fun f x hx => let ⟨y, hy, hz⟩ := h2 f x hx; ⟨y, hy, Rd.app l n _ _ hz⟩⟩
  ·intro j hj
   obtain ⟨x, hx, hy⟩ := hr j hj
   exact ⟨x, hx, Rd.app l n _ _ hy⟩
  ·exact hr
def NoOwn (E : Gh) (h : Heap) : Prop := ∀ i b, h[i]? = some b → ¬ Own E i b
def Gh.pushAt (E : Gh) (blk base : Nat) (many : Bool) (ty : Ty) : Gh where
 n := E.n + 1
 blk i := if i = E.n then blk else E.blk i
 base i := if i = E.n then base else E.base i
 room i := if i = E.n then 0 else E.room i
 ver i := if i = E.n then 0 else E.ver i
 many i := if i = E.n then many else E.many i
 ty i := if i = E.n then ty else E.ty i
theorem Gh.pushAt_ext (E : Gh) (blk base : Nat) (many : Bool) (ty : Ty) : Ext E (E.pushAt blk base many ty) := by
 refine ⟨Nat.le_succ _, fun i hi => ?_, fun i hi => ?_, fun i hi => ?_, fun i hi _ => ?_⟩ <;> simp [Gh.pushAt, Nat.ne_of_lt hi]
theorem rel_push {E : Gh} {h : Heap} {w : World} (R : RelHeap E h w) (N : NoOwn E h) (b : Blk) (blk base : Nat) (many : Bool) (ty : Ty) (hver : b.ver = 0)
  (hfits : if many = true then ∃ n t, ty = .arr 0 t ∧ hasTy b.v (.arr n t) = true else hasTy b.v ty = true) {l : List Value} (hl : VRl E b.v l)
  (hcell : (b.mode = .ro ∧ ∃ arr te fr pre post, w.heap[blk]? = some (.cells arr te fr) ∧ arr.toList = pre ++ l ++ post ∧ pre.length = base) ∨ (b.mode = .open ∧ many = true ∧ l = [] ∧ b.v.rowLen = some 0)) :
  RelHeap (E.pushAt blk base many ty) (h ++ [b]) w ∧ NoOwn (E.pushAt blk base many ty) (h ++ [b]) := by
 have hX := Gh.pushAt_ext E blk base many ty
 have hget : ∀ (j : Nat) (c : Blk), (h ++ [b])[j]? = some c → (j = E.n ∧ c = b) ∨ (j < E.n ∧ h[j]? = some c) := by
  intro j c hj
  rw [R.n]
  by_cases e : j < h.length
  ·rw [List.getElem?_append_left e] at hj; exact .inr ⟨e, hj⟩
  ·rw [List.getElem?_append_right (by omega)] at hj
   have : j - h.length = 0 := by
    have := (List.getElem?_eq_some_iff.1 hj).1
    simp at this; omega
   rw [this] at hj; simp at hj
   exact .inl ⟨by omega, hj.symm⟩
 have hplaced : ∀ (j : Nat) (c : Blk), j < E.n → (Placed (E.pushAt blk base many ty) j c ↔ Placed E j c) := fun j c hj => by
  unfold Placed; simp [Gh.pushAt, Nat.ne_of_lt hj]
 have hno : NoOwn (E.pushAt blk base many ty) (h ++ [b]) := by
  intro j c hj hO
  rcases hget j c hj with ⟨rfl, rfl⟩ | ⟨hjn, hj⟩
  ·rcases hcell with ⟨hm, _⟩ | ⟨hm, _⟩
   ·exact hO.1 hm
   ·exact hO.2 ⟨hm, by simp [Gh.pushAt]⟩
  ·exact N j c hj ⟨hO.1, (hplaced j c hjn).1 hO.2⟩
 refine ⟨⟨by simp [Gh.pushAt, R.n], fun j c hj => ?_, fun j k c d hj hk hP hO e => absurd hO (hno k d hk)⟩, hno⟩
 rcases hget j c hj with ⟨rfl, rfl⟩ | ⟨hjn, hj⟩
 ·refine ⟨by simp [Gh.pushAt, hver], ?_, fun hm => (by rcases hcell with ⟨h1, _⟩ | ⟨h1, _⟩ <;> (rw [h1] at hm; cases hm)), fun _ => ⟨l, VRl.mono hX _ _ hl, fun hP => ?_, fun hP => ?_⟩, fun hm => ?_⟩
  ·unfold Fits; simpa [Gh.pushAt] using hfits
  ·rcases hcell with ⟨hm, arr, te, fr, pre, post, e, e1, e2⟩ | ⟨hm, _⟩
   ·exact ⟨arr, te, fr, pre, post, by simpa [Gh.pushAt] using e, e1, by simpa [Gh.pushAt] using e2, fun hn => absurd hm hn⟩
   ·exact absurd ⟨hm, by simp [Gh.pushAt]⟩ hP
  ·rcases hcell with ⟨hm, _⟩ | ⟨_, _, hl0, _⟩
   ·exact absurd (fun hh => by rw [hm] at hh; cases hh.1) hP
   ·exact hl0
  ·rcases hcell with ⟨hm', _⟩ | ⟨_, hM, _, hr⟩
   ·rw [hm'] at hm; cases hm
   ·exact ⟨by simpa [Gh.pushAt] using hM, by rw [hr, hver]⟩
 ·have B := R.at_ j c hj
  have hne := Nat.ne_of_lt hjn
  refine ⟨by simp [Gh.pushAt, hne, B.ver], ?_, fun hm => (B.mp hm).ghost (by simp [Gh.pushAt, hne]) (by simp [Gh.pushAt, hne]) (by simp [Gh.pushAt, hne]), fun hmm => ?_, fun hm => ?_⟩
  ·have := B.fits; unfold Fits at this ⊢; simpa [Gh.pushAt, hne] using this
  ·obtain ⟨l', hl1, hl2, hl3⟩ := B.body hmm
   refine ⟨l', VRl.mono hX _ _ hl1, fun hP => ?_, fun hP => hl3 (fun q => hP ((hplaced j c hjn).2 q))⟩
   have := hl2 ((hplaced j c hjn).1 hP)
   simpa [Gh.pushAt, hne] using this
  ·have := B.grow hm; simpa [Gh.pushAt, hne] using this
def mkRow : Ty → List AV → AV
 | .int k, vs => .ints k (vs.map fun v => match v with | .int _ n => n | _ => 0)
 | _, vs => .node vs
theorem mkRow_spec {E : Gh} {u : Ty} : ∀ {vs : List AV} {cs : List Value}, (∀ v ∈ vs, hasTy v u = true) → VRs E vs cs →
  VRl E (mkRow u vs) cs ∧ hasTy (mkRow u vs) (.arr vs.length u) = true ∧ (∀ j, (mkRow u vs).get [j] = vs[j]?) ∧ (mkRow u vs).rowLen = some vs.length := by
 intro vs cs ht hr
 cases u with
 | int k =>
  have hk : ∀ v ∈ vs, ∃ n, v = .int k n := by
   intro v hv
   have := ht v hv
   cases v <;> simp [hasTy] at this
   exact ⟨_, by rw [this]⟩
  refine ⟨?_, by simp [mkRow, hasTy], fun j => ?_, by simp [mkRow, AV.rowLen]⟩
  ·simp only [mkRow, VRl]
   clear ht
   induction vs generalizing cs with
   | nil => simp only [VRs] at hr; subst hr; rfl
   | cons v vs ih =>
    simp only [VRs] at hr
    obtain ⟨l1, l2, rfl, h1, h2⟩ := hr
    obtain ⟨n, rfl⟩ := hk v (List.mem_cons_self ..)
    simp only [VRl] at h1
    subst h1
    have := ih h2 (fun v hv => hk v (List.mem_cons_of_mem _ hv))
    simp [this]
  ·simp only [mkRow, AV.get, List.getElem?_map]
   cases hj : vs[j]? with
   | none => rfl
   | some v =>
    obtain ⟨n, rfl⟩ := hk v (List.mem_of_getElem? hj)
    rfl
 | cell => exact ⟨by simpa only [mkRow, VRl] using hr, by simp [mkRow, hasTy, (hasTyAll_iff vs _).2 ht], fun j => by simp only [mkRow, get_node]; cases vs[j]? <;> simp, by simp [mkRow, AV.rowLen]⟩
 | arr m t => exact ⟨by simpa only [mkRow, VRl] using hr, by simp [mkRow, hasTy, (hasTyAll_iff vs _).2 ht], fun j => by simp only [mkRow, get_node]; cases vs[j]? <;> simp, by simp [mkRow, AV.rowLen]⟩
 | struct ts => exact ⟨by simpa only [mkRow, VRl] using hr, by simp [mkRow, hasTy, (hasTyAll_iff vs _).2 ht], fun j => by simp only [mkRow, get_node]; cases vs[j]? <;> simp, by simp [mkRow, AV.rowLen]⟩
theorem chop (s : Nat) : ∀ (n : Nat) (cs : List Value), cs.length = n * s → (List.range n).flatMap (fun i => (cs.drop (i * s)).take s) = cs
 | 0, cs, h => by simp at h; simp [h]
 | n + 1, cs, h => by
  have h1 : (cs.drop s).length = n * s := by rw [List.length_drop, h, Nat.succ_mul]; omega
  have := chop s n (cs.drop s) h1
  rw [List.range_succ_eq_map, List.flatMap_cons, List.flatMap_map]
  have e : (List.range n).flatMap (fun a => (cs.drop ((a + 1) * s)).take s) = (List.range n).flatMap (fun i => ((cs.drop s).drop (i * s)).take s) := by
   congr 1; funext a; rw [List.drop_drop, Nat.succ_mul, Nat.add_comm]
  simp only [Nat.zero_mul, List.drop_zero]
  rw [e, this, List.take_append_drop]
theorem chops : ∀ (ts : List Ty) (cs : List Value), cs.length = Ty.sizes ts → (List.range ts.length).flatMap (fun f => (cs.drop (Ty.sizes (ts.take f))).take (match ts[f]? with | some t => t.size | none => 0)) = cs
 | [], cs, h => by simp [Ty.sizes] at h; simp [h]
 | t :: ts, cs, h => by
  simp only [Ty.sizes] at h
  have h1 : (cs.drop t.size).length = Ty.sizes ts := by rw [List.length_drop, h]; omega
  have := chops ts (cs.drop t.size) h1
  rw [List.length_cons, List.range_succ_eq_map, List.flatMap_cons, List.flatMap_map]
  have e : (List.range ts.length).flatMap (fun a => (cs.drop (Ty.sizes ((t :: ts).take (a + 1)))).take (match (t :: ts)[a + 1]? with | some t => t.size | none => 0)) =
    (List.range ts.length).flatMap (fun f => ((cs.drop t.size).drop (Ty.sizes (ts.take f))).take (match ts[f]? with | some t => t.size | none => 0)) := by
   congr 1; funext a
   rw [List.drop_drop, List.take_succ_cons, List.getElem?_cons_succ]
   simp only [Ty.sizes]
  simp only [List.take_zero, Ty.sizes, List.drop_zero, List.getElem?_cons_zero]
  rw [e, this, List.take_append_drop]
def plainTypeB (P : Program) (tt : Nat → Option TI) (ok : List TypeId) (t : TypeId) : Bool := match tt t, P.underlying t with
 | some i, some .bool => Ty.beq i.ty .cell
 | some i, some .string => Ty.beq i.ty .cell
 | some i, some (.int k) => Ty.beq i.ty (.int k)
 | some i, some (.slice e) => Ty.beq i.ty .cell && (match tt e with | some j => decide (j.ty.size ≠ 0) && decide (P.cellsOf e = j.ty.size) | none => false) && ok.contains e
 | some i, some (.struct fs) => (match i.ty with | .struct _ => true | _ => false) && (fs.toList.all fun f => ok.contains f.type && (match tt f.type with | some j => decide (P.cellsOf f.type = j.ty.size) | none => false))
 | some i, some (.array _ e) => (match i.ty with | .arr _ _ => true | _ => false) && ok.contains e && (match tt e with | some j => decide (P.cellsOf e = j.ty.size) | none => false)
 | _, _ => false
def plainB (P : Program) (tt : Nat → Option TI) (ok : List TypeId) : Bool := ok.all (plainTypeB P tt ok) && ok.all fun t => match tt t with | some i => decide (P.cellsOf t = i.ty.size) | none => false
section
variable {H : Type} {enc : TypeId × Value → H} {P : Program} {tt : Nat → Option TI} {ok : List TypeId} {w : World}
def Read (P : Program) (tt : Nat → Option TI) (w : World) (n : Nat) (t : TypeId) (cs : List Value) : Prop :=
 ∀ E h, RelHeap E h w → NoOwn E h → ∀ i, tt t = some i → ∃ E' l v, RelHeap E' (h ++ l) w ∧ NoOwn E' (h ++ l) ∧ Ext E E' ∧ VRl E' v cs ∧ hasTy v i.ty = true ∧ Rd P tt (h ++ l) n t v
theorem Read.list {n : Nat} : ∀ (items : List (TypeId × List Value)), (∀ x ∈ items, Read P tt w n x.1 x.2) → (∀ x ∈ items, ∃ i, tt x.1 = some i) →
  ∀ E h, RelHeap E h w → NoOwn E h → ∃ E' l vs, RelHeap E' (h ++ l) w ∧ NoOwn E' (h ++ l) ∧ Ext E E' ∧ VRs E' vs (items.flatMap (·.2)) ∧ vs.length = items.length ∧
   ∀ (j : Nat) x, items[j]? = some x → ∃ v i, vs[j]? = some v ∧ tt x.1 = some i ∧ hasTy v i.ty = true ∧ VRl E' v x.2 ∧ Rd P tt (h ++ l) n x.1 v
 | [], _, _, E, h, R, N => ⟨E, [], [], by simpa using R, by simpa using N, Ext.refl E, by simp [VRs], rfl, fun j x hx => by simp at hx⟩
 | x :: items, hr, ht, E, h, R, N => by
  obtain ⟨i, hi⟩ := ht x (List.mem_cons_self ..)
  obtain ⟨E1, l1, v, R1, N1, X1, V1, T1, D1⟩ := hr x (List.mem_cons_self ..) E h R N i hi
  obtain ⟨E2, l2, vs, R2, N2, X2, V2, L2, D2⟩ := Read.list items (fun y hy => hr y (List.mem_cons_of_mem _ hy)) (fun y hy => ht y (List.mem_cons_of_mem _ hy)) E1 (h ++ l1) R1 N1
  refine ⟨E2, l1 ++ l2, v :: vs, by rw [← List.append_assoc]; exact R2, by rw [← List.append_assoc]; exact N2, X1.trans X2, ?_, by simp [L2], fun j y hy => ?_⟩
  ·rw [List.flatMap_cons]; exact VRs.cons (VRl.mono X2 _ _ V1) V2
  ·rw [← List.append_assoc]
   cases j with
   | zero =>
    simp at hy; subst hy
    exact ⟨v, i, rfl, hi, T1, VRl.mono X2 _ _ V1, Rd.app l2 _ _ _ D1⟩
   | succ j =>
    simp only [List.getElem?_cons_succ] at hy ⊢
    exact D2 j y hy
theorem flatMap_of_get {α β : Type} {f : Nat → List β} {l : List α} {n : Nat} (hl : l.length = n) {g : α → List β} (h : ∀ (i : Nat) x, l[i]? = some x → g x = f i) : l.flatMap g = (List.range n).flatMap f := by
 subst hl
 rw [List.flatMap_def, List.flatMap_def]
 congr 1
 apply List.ext_getElem?
 intro i
 rw [List.getElem?_map, List.getElem?_map]
 by_cases hi : i < l.length
 ·rw [List.getElem?_range hi, List.getElem?_eq_getElem hi]
  simp only [Option.map_some]
  rw [h i _ (List.getElem?_eq_getElem hi)]
 ·rw [List.getElem?_eq_none (by omega), List.getElem?_eq_none (by simpa using hi)]; rfl
theorem hasTys_of : ∀ {vs : List AV} {ts : List Ty}, vs.length = ts.length → (∀ (f : Nat) v t, vs[f]? = some v → ts[f]? = some t → hasTy v t = true) → hasTys vs ts = true
 | [], [], _, _ => rfl
 | v :: vs, t :: ts, hl, h => by
  simp only [hasTys, Bool.and_eq_true]
  exact ⟨h 0 v t rfl rfl, hasTys_of (by simpa using hl) fun f v t hv ht => h (f + 1) v t (by simpa using hv) (by simpa using ht)⟩
 | [], _ :: _, hl, _ => by simp at hl
 | _ :: _, [], hl, _ => by simp at hl
theorem cells_block {b : Addr} {s : Nat} {cs : List Value} (hs : 0 < s) (h : w.cells? 0 b s = some cs) :
  ∃ arr te fr, w.heap[b.block]? = some (.cells arr te fr) ∧ b.spot = none ∧ b.off + s ≤ arr.size ∧ cs = (arr.toList.drop b.off).take s := by
 obtain ⟨_, hl, hg⟩ := World.cells?_some h
 have h0 := hg 0 hs
 have e0 : b.add 0 = b := by simp [Addr.add]
 rw [e0, List.getElem?_eq_getElem (by omega)] at h0
 unfold World.cell? at h0
 split at h0
 ·rename_i arr te fr hb
  split at h0
  ·cases h0
  ·rename_i hsp
   have hspot : b.spot = none := by simpa using hsp
   have hcell : ∀ i, i < s → arr[b.off + i]? = cs[i]? := by
    intro i hi
    have := hg i hi
    by_cases hz : i = 0
    ·subst hz
     rw [e0] at this
     unfold World.cell? at this
     rw [hb] at this
     simpa [hspot] using this
    ·have e : (b.add i) = ⟨b.block, b.off + i, none⟩ := by simp [Addr.add, hz]
     rw [e] at this
     unfold World.cell? at this
     rw [hb] at this
     simpa using this
   have hlast := hcell (s - 1) (by omega)
   rw [List.getElem?_eq_getElem (by omega)] at hlast
   have hlt := (Array.getElem?_eq_some_iff.1 hlast).1
   refine ⟨arr, te, fr, hb, hspot, by omega, ?_⟩
   apply List.ext_getElem?
   intro i
   by_cases hi : i < s
   ·rw [← hcell i hi, List.getElem?_take, if_pos hi, List.getElem?_drop]; simp
   ·rw [List.getElem?_eq_none (by omega), List.getElem?_eq_none (by simp; omega)]
 ·cases h0
theorem rows_block {a : Addr} {s c : Nat} {f : Nat → List Value} (hs : 0 < s) (hc : 0 < c) (h : ∀ i, i < c → w.cells? 0 (a.add (i * s)) s = some (f i)) :
  ∃ arr te fr pre post, w.heap[a.block]? = some (.cells arr te fr) ∧ a.spot = none ∧ arr.toList = pre ++ (List.range c).flatMap f ++ post ∧ pre.length = a.off := by
 have h0 := h 0 hc
 have e0 : a.add (0 * s) = a := by simp [Addr.add]
 rw [e0] at h0
 obtain ⟨arr, te, fr, hb, hsp, hle, _⟩ := cells_block hs h0
 have hf : ∀ i, i < c → a.off + i * s + s ≤ arr.size ∧ f i = (arr.toList.drop (a.off + i * s)).take s := by
  intro i hi
  obtain ⟨arr', te', fr', hb', _, hle', e'⟩ := cells_block hs (h i hi)
  have e1 : (a.add (i * s)).block = a.block ∧ (a.add (i * s)).off = a.off + i * s := by
   unfold Addr.add; split
   ·rename_i hz; simp [hz]
   ·simp
  rw [e1.1, hb] at hb'
  simp only [Option.some.injEq, Obj.cells.injEq] at hb'
  rw [e1.2, ← hb'.1] at hle' e'
  exact ⟨hle', e'⟩
 have hend := (hf (c - 1) (by omega)).1
 have hcs : (c - 1) * s + s = c * s := by rw [← Nat.succ_mul]; congr 1; omega
 refine ⟨arr, te, fr, arr.toList.take a.off, arr.toList.drop (a.off + c * s), hb, hsp, ?_, by simp; omega⟩
 have e2 := chop s c ((arr.toList.drop a.off).take (c * s)) (by simp; omega)
 have e3 : (List.range c).flatMap f = (List.range c).flatMap (fun i => (((arr.toList.drop a.off).take (c * s)).drop (i * s)).take s) := by
  rw [List.flatMap_def, List.flatMap_def]
  congr 1
  refine List.map_congr_left fun i hi => ?_
  have hi := List.mem_range.1 hi
  have hm : (i + 1) * s ≤ c * s := Nat.mul_le_mul_right _ hi
  rw [Nat.succ_mul] at hm
  rw [(hf i hi).2, List.drop_take, List.take_take, List.drop_drop, Nat.min_eq_left (by omega)]
 rw [e3, e2, List.append_assoc, ← List.drop_drop, List.take_append_drop, List.take_append_drop]
theorem read_ok (T : TTok P tt) (hok : plainB P tt ok = true) : ∀ (n : Nat) (t : TypeId) (cs : List Value) (x : DataW H × List MemPlace), ok.contains t = true →
  DataW.trod enc P w 0 (fun _ => true) true n t cs = some x → Read P tt w n t cs
 | 0, t, cs, x, _, h => by simp [DataW.trod] at h
 | n + 1, t, cs, x, hm, h => by
  intro E hp R N i hi
  have hok2 := hok
  simp only [plainB, Bool.and_eq_true, List.all_eq_true] at hok
  have hb := hok.1 t (by simpa using hm)
  unfold plainTypeB at hb
  rw [hi] at hb
  have keep : ∀ v : AV, VRl E v cs → hasTy v i.ty = true → Rd P tt (hp ++ []) (n + 1) t v → ∃ E' l v, RelHeap E' (hp ++ l) w ∧ NoOwn E' (hp ++ l) ∧ Ext E E' ∧ VRl E' v cs ∧ hasTy v i.ty = true ∧ Rd P tt (hp ++ l) (n + 1) t v :=
   fun v h1 h2 h3 => ⟨E, [], v, by simpa using R, by simpa using N, Ext.refl E, h1, h2, h3⟩
  cases hu : P.underlying t with
  | none => rw [hu] at hb; simp at hb
  | some d =>
   rw [hu] at hb
   cases d <;> try (simp only [Bool.false_eq_true] at hb; done)
   case bool =>
    obtain ⟨b, rfl, _⟩ := DataW.trod_bool hu h
    have hty := Ty.beq_eq _ _ hb
    exact keep (.bool b) (by simp only [VRl]) (by rw [hty]; rfl) (by simp only [Rd, hu]; exact ⟨_, rfl⟩)
   case string =>
    obtain ⟨b, rfl, _, hm⟩ := DataW.trod_string hu h
    have hty := Ty.beq_eq _ _ hb
    exact keep (.str b) (by simp only [VRl]) (by rw [hty]; rfl) (by simp only [Rd, hu]; exact ⟨_, rfl, hm⟩)
   case int k =>
    obtain ⟨b, rfl, _, hm⟩ := DataW.trod_int hu h
    have hty := Ty.beq_eq _ _ hb
    exact keep (.int k b) (by simp only [VRl]) (by rw [hty]; simp [hasTy]) (by simp only [Rd, hu]; exact ⟨_, rfl, hm⟩)
   case slice e =>
    simp only [Bool.and_eq_true] at hb
    obtain ⟨⟨hty, he⟩, hoe⟩ := hb
    have hty := Ty.beq_eq _ _ hty
    cases hel : tt e with
    | none => rw [hel] at he; cases he
    | some el =>
     rw [hel] at he
     simp only [Bool.and_eq_true, decide_eq_true_eq] at he
     obtain ⟨hsz, hcz⟩ := he
     rcases DataW.trod_slice hu h with ⟨rfl, _⟩ | ⟨a, len, cap, elems, rest, n', hn, rfl, _, _, hl, hmx, hlen, hel1, hel2, _⟩
     ·exact keep .nilslice (by simp only [VRl]) (by rw [hty]; rfl) (by simp only [Rd, hu]; exact .inl trivial)
     ·have hn' : n = n' := by omega
      subst hn'
      have hall : ∀ k, k < cap → ∃ cs' y, w.cells? 0 (a.add (k * P.cellsOf e)) (P.cellsOf e) = some cs' ∧ DataW.trod enc P w 0 (fun _ => true) true n e cs' = some y := by
       intro k hk
       have key : ∃ y, (w.cells? 0 (a.add (k * P.cellsOf e)) (P.cellsOf e)).bind (DataW.trod enc P w 0 (fun _ => true) true n e) = some y := by
        by_cases hkl : k < len
        ·exact ⟨elems[k]'(by omega), by rw [hel1 k hkl, List.getElem?_eq_getElem (by omega)]⟩
        ·obtain ⟨h1, h2⟩ := hel2 rfl
         have := h2 (k - len) (by omega)
         rw [show len + (k - len) = k by omega] at this
         exact ⟨rest[k - len]'(by omega), by rw [this, List.getElem?_eq_getElem (by omega)]⟩
       obtain ⟨y, hy⟩ := key
       obtain ⟨cs', h1, h2⟩ := Option.bind_eq_some_iff.1 hy
       exact ⟨cs', y, h1, h2⟩
      rw [hcz] at hall
      let f : Nat → List Value := fun k => (w.cells? 0 (a.add (k * el.ty.size)) el.ty.size).getD []
      have hf : ∀ k, k < cap → w.cells? 0 (a.add (k * el.ty.size)) el.ty.size = some (f k) ∧ ∃ y, DataW.trod enc P w 0 (fun _ => true) true n e (f k) = some y := by
       intro k hk
       obtain ⟨cs', y, h1, h2⟩ := hall k hk
       have : f k = cs' := by simp only [f, h1, Option.getD_some]
       rw [this]
       exact ⟨h1, y, h2⟩
      obtain ⟨E1, l1, vs, R1, N1, X1, V1, L1, D1⟩ := Read.list (P := P) (tt := tt) (w := w) (n := n) ((List.range cap).map fun k => (e, f k))
       (fun y hy => by
        obtain ⟨k, hk, rfl⟩ := List.mem_map.1 hy
        obtain ⟨_, z, hz⟩ := hf k (List.mem_range.1 hk)
        exact read_ok T hok2 n e (f k) z hoe hz)
       (fun y hy => by obtain ⟨k, _, rfl⟩ := List.mem_map.1 hy; exact ⟨el, hel⟩) E hp R N
      rw [List.length_map, List.length_range] at L1
      have hcells : ((List.range cap).map fun k => (e, f k)).flatMap (·.2) = (List.range cap).flatMap f := by rw [List.flatMap_map]
      rw [hcells] at V1
      have helem : ∀ j, j < cap → ∃ v, vs[j]? = some v ∧ hasTy v el.ty = true ∧ Rd P tt (hp ++ l1) n e v := by
       intro j hj
       obtain ⟨v, i', hv, hi', ht, _, hr⟩ := D1 j (e, f j) (by simp [hj])
       rw [hel] at hi'
       simp only [Option.some.injEq] at hi'
       subst hi'
       exact ⟨v, hv, ht, hr⟩
      obtain ⟨W1, W2, W3, W4⟩ := mkRow_spec (u := el.ty) (fun v hv => by
       obtain ⟨j, hj⟩ := List.getElem?_of_mem hv
       obtain ⟨v', hv', ht, _⟩ := helem j (by have := (List.getElem?_eq_some_iff.1 hj).1; omega)
       rw [hj] at hv'
       simp only [Option.some.injEq] at hv'
       rw [hv']; exact ht) V1
      rw [L1] at W2
      have hres : ∀ (m : Mode) (many : Bool) (ty : Ty), RelHeap (E1.pushAt a.block a.off many ty) ((hp ++ l1) ++ [⟨mkRow el.ty vs, 0, m⟩]) w → NoOwn (E1.pushAt a.block a.off many ty) ((hp ++ l1) ++ [⟨mkRow el.ty vs, 0, m⟩]) →
        (∃ c, ty = .arr c el.ty) → (cap ≠ 0 → a.spot = none) →
        ∃ E' l v, RelHeap E' (hp ++ l) w ∧ NoOwn E' (hp ++ l) ∧ Ext E E' ∧ VRl E' v [.slice (some a) len cap] ∧ hasTy v i.ty = true ∧ Rd P tt (hp ++ l) (n + 1) t v := by
       intro m many ty R2 N2 ⟨c', hty'⟩ hsp
       refine ⟨E1.pushAt a.block a.off many ty, l1 ++ [⟨mkRow el.ty vs, 0, m⟩], .slice (hp ++ l1).length 0 [] el.ty 0 len (some cap), by rw [← List.append_assoc]; exact R2, by rw [← List.append_assoc]; exact N2,
        X1.trans (Gh.pushAt_ext ..), ?_, by rw [hty]; rfl, ?_⟩
       ·simp only [VRl]
        have hE : (hp ++ l1).length = E1.n := R1.n.symm
        rw [hE]
        refine ⟨a, cap, rfl, by simp [Gh.pushAt], by simp, hl, by simp, by simp, fun _ => ⟨0, c', by simp [Gh.pushAt, hty', Ty.sub], fun hc => ?_, by simp⟩⟩
        have hs := hsp hc
        cases a
        simp only at hs
        simp [Gh.pushAt, hs]
       ·unfold Rd
        rw [hu]
        right
        refine ⟨_, el, mkRow el.ty vs, m, len, cap, rfl, hel, ?_, W2, hl, hmx, fun j hj => ?_⟩
        ·rw [← List.append_assoc, List.getElem?_append_right (Nat.le_refl _)]; simp
        ·obtain ⟨v, hv, _, hr⟩ := helem j hj
         exact ⟨v, by rw [W3, hv], by rw [← List.append_assoc]; exact Rd.app _ _ _ _ hr⟩
      by_cases hc0 : cap = 0
      ·subst hc0
       have hz : vs = [] := List.eq_nil_of_length_eq_zero L1
       obtain ⟨R2, N2⟩ := rel_push R1 N1 ⟨mkRow el.ty vs, 0, .open⟩ a.block a.off true (.arr 0 el.ty) rfl (by simp only [if_true]; exact ⟨0, el.ty, rfl, W2⟩) W1 (.inr ⟨rfl, rfl, rfl, by rw [W4, L1]⟩)
       exact hres .open true _ R2 N2 ⟨0, rfl⟩ (fun h => absurd rfl h)
      ·obtain ⟨arr, te, fr, pre, post, g1, g2, g3, g4⟩ := rows_block (w := w) (a := a) (Nat.pos_of_ne_zero hsz) (Nat.pos_of_ne_zero hc0) (fun k hk => (hf k hk).1)
       obtain ⟨R2, N2⟩ := rel_push R1 N1 ⟨mkRow el.ty vs, 0, .ro⟩ a.block a.off false (.arr cap el.ty) rfl (by simpa using W2) W1 (.inl ⟨rfl, arr, te, fr, pre, post, g1, g3, g4⟩)
       exact hres .ro false _ R2 N2 ⟨cap, rfl⟩ (fun _ => g2)
   case struct fs =>
    simp only [Bool.and_eq_true, List.all_eq_true] at hb
    obtain ⟨hty, hfs⟩ := hb
    cases hit : i.ty with
    | struct ts =>
     obtain ⟨fs', hu', hsz, _, hfld⟩ := T.struct t i ts hi hit
     rw [hu] at hu'
     simp only [Option.some.injEq, TypeDesc.struct.injEq] at hu'
     subst hu'
     obtain ⟨xs, n', hn, _, hlen, hxl, hx⟩ := DataW.trod_struct hu h
     have hn' : n = n' := by omega
     subst hn'
     have hcell := hok.2 t (by simpa using hm)
     rw [hi] at hcell
     simp only [decide_eq_true_eq] at hcell
     rw [hcell, hit] at hlen
     simp only [Ty.size] at hlen
     have hch := chops ts cs hlen
     have hf : ∀ (f : Nat) (y : Field), fs[f]? = some y → ∃ j, tt y.type = some j ∧ ts[f]? = some j.ty ∧ (cs.drop y.offset).take (P.cellsOf y.type) = (cs.drop (Ty.sizes (ts.take f))).take (match ts[f]? with | some t => t.size | none => 0) ∧ Read P tt w n y.type ((cs.drop y.offset).take (P.cellsOf y.type)) := by
      intro f y hy
      obtain ⟨_, ho, j, hj, htf, _⟩ := hfld f y hy
      have hmem : y ∈ fs.toList := List.mem_of_getElem? (by simpa using hy)
      have h3 := hfs y hmem
      rw [hj] at h3
      simp only [decide_eq_true_eq] at h3
      refine ⟨j, hj, htf, ?_, ?_⟩
      ·rw [ho, h3.2, htf]
      ·have hlt : f < fs.size := (Array.getElem?_eq_some_iff.1 hy).1
       have h4 := hx f y hy
       rw [List.getElem?_eq_getElem (by omega)] at h4
       exact read_ok T hok2 n y.type _ _ h3.1 h4
     obtain ⟨E1, l1, vs, R1, N1, X1, V1, L1, D1⟩ := Read.list (P := P) (tt := tt) (w := w) (n := n) (fs.toList.map fun y => (y.type, (cs.drop y.offset).take (P.cellsOf y.type)))
      (fun z hz => by
       obtain ⟨y, hy, rfl⟩ := List.mem_map.1 hz
       obtain ⟨f, hfy⟩ := List.getElem?_of_mem hy
       obtain ⟨j, _, _, _, hr⟩ := hf f y (by simpa using hfy)
       exact hr)
      (fun z hz => by
       obtain ⟨y, hy, rfl⟩ := List.mem_map.1 hz
       obtain ⟨f, hfy⟩ := List.getElem?_of_mem hy
       obtain ⟨j, hj, _⟩ := hf f y (by simpa using hfy)
       exact ⟨j, hj⟩) E hp R N
     rw [List.length_map] at L1
     have L1 : vs.length = fs.size := by rw [L1]; simp
     have hcat : (fs.toList.map fun y => (y.type, (cs.drop y.offset).take (P.cellsOf y.type))).flatMap (·.2) = cs := by
      rw [List.flatMap_map]
      rw [flatMap_of_get (n := ts.length) (f := fun f => (cs.drop (Ty.sizes (ts.take f))).take (match ts[f]? with | some t => t.size | none => 0)) (by simpa using hsz) (fun f y hy => ?_)]
      ·exact hch
      ·obtain ⟨j, _, _, he, _⟩ := hf f y (by simpa using hy)
       exact he
     rw [hcat] at V1
     have hD : ∀ (f : Nat) (y : Field), fs[f]? = some y → ∃ v, ∃ j : TI, vs[f]? = some v ∧ ts[f]? = some j.ty ∧ hasTy v j.ty = true ∧ Rd P tt (hp ++ l1) n y.type v := by
      intro f y hy
      obtain ⟨v, j', hv, hj', ht, _, hr⟩ := D1 f (y.type, (cs.drop y.offset).take (P.cellsOf y.type)) (by rw [List.getElem?_map, Array.getElem?_toList, hy]; rfl)
      obtain ⟨j, hj, htf, _⟩ := hf f y hy
      rw [hj] at hj'
      simp only [Option.some.injEq] at hj'
      subst hj'
      exact ⟨v, j, hv, htf, ht, hr⟩
     refine ⟨E1, l1, .node vs, R1, N1, X1, by simpa only [VRl] using V1, ?_, ?_⟩
     ·simp only [hasTy]
      refine hasTys_of (by omega) (fun f v t' hv ht' => ?_)
      have hlt : f < fs.size := by have := (List.getElem?_eq_some_iff.1 hv).1; omega
      obtain ⟨v', j, hv', htf, ht, _⟩ := hD f fs[f] (Array.getElem?_eq_getElem hlt)
      rw [hv] at hv'; rw [ht'] at htf
      simp only [Option.some.injEq] at hv' htf
      rw [hv', htf]; exact ht
     ·unfold Rd
      rw [hu]
      exact ⟨vs, rfl, fun f y hy => by obtain ⟨v, j, hv, _, _, hr⟩ := hD f y hy; exact ⟨v, hv, hr⟩⟩
    | int k => rw [hit] at hty; cases hty
    | cell => rw [hit] at hty; cases hty
    | arr a b => rw [hit] at hty; cases hty
   case array m e =>
    simp only [Bool.and_eq_true] at hb
    obtain ⟨⟨hty, hoe⟩, hce⟩ := hb
    cases hit : i.ty with
    | arr m' u =>
     obtain ⟨e', el, hu', hel, hjt⟩ := T.arr t i m' u hi hit
     rw [hu] at hu'
     simp only [Option.some.injEq, TypeDesc.array.injEq] at hu'
     obtain ⟨rfl, rfl⟩ := hu'
     rw [hel] at hce
     simp only [decide_eq_true_eq] at hce
     obtain ⟨xs, n', hn, _, hlen, hxl, hx⟩ := DataW.trod_array hu h
     have hn' : n = n' := by omega
     subst hn'
     have hcell := hok.2 t (by simpa using hm)
     rw [hi] at hcell
     simp only [decide_eq_true_eq] at hcell
     rw [hcell, hit] at hlen
     simp only [Ty.size] at hlen
     rw [← hjt] at hlen
     have hch := chop el.ty.size m cs hlen
     rw [hce] at hx
     obtain ⟨E1, l1, vs, R1, N1, X1, V1, L1, D1⟩ := Read.list (P := P) (tt := tt) (w := w) (n := n) ((List.range m).map fun k => (e, (cs.drop (k * el.ty.size)).take el.ty.size))
      (fun y hy => by
       obtain ⟨k, hk, rfl⟩ := List.mem_map.1 hy
       have hk := List.mem_range.1 hk
       have h4 := hx k hk
       rw [List.getElem?_eq_getElem (by omega)] at h4
       exact read_ok T hok2 n e _ _ hoe h4)
      (fun y hy => by obtain ⟨k, _, rfl⟩ := List.mem_map.1 hy; exact ⟨el, hel⟩) E hp R N
     rw [List.length_map, List.length_range] at L1
     rw [List.flatMap_map, hch] at V1
     have helem : ∀ j, j < m → ∃ v, vs[j]? = some v ∧ hasTy v el.ty = true ∧ Rd P tt (hp ++ l1) n e v := by
      intro j hj
      obtain ⟨v, i', hv, hi', ht, _, hr⟩ := D1 j (e, (cs.drop (j * el.ty.size)).take el.ty.size) (by simp [hj])
      rw [hel] at hi'
      simp only [Option.some.injEq] at hi'
      subst hi'
      exact ⟨v, hv, ht, hr⟩
     obtain ⟨W1, W2, W3, W4⟩ := mkRow_spec (u := el.ty) (fun v hv => by
      obtain ⟨j, hj⟩ := List.getElem?_of_mem hv
      obtain ⟨v', hv', ht, _⟩ := helem j (by have := (List.getElem?_eq_some_iff.1 hj).1; omega)
      rw [hj] at hv'
      simp only [Option.some.injEq] at hv'
      rw [hv']; exact ht) V1
     rw [L1] at W2
     refine ⟨E1, l1, mkRow el.ty vs, R1, N1, X1, W1, by rw [← hjt]; exact W2, ?_⟩
     unfold Rd
     rw [hu]
     intro j hj
     obtain ⟨v, hv, _, hr⟩ := helem j hj
     exact ⟨v, by rw [W3, hv], hr⟩
    | int k => rw [hit] at hty; cases hty
    | cell => rw [hit] at hty; cases hty
    | struct b => rw [hit] at hty; cases hty
open Go.RowKit Go.WideShapes Go.ChangeShapes
theorem value_of_cells (T : TTok P tt) {t : TypeId} {i : TI} (hi : tt t = some i) {W : World} {base : Nat} {v : Value} (hv : Value.okWide P W .any base t v) : v = ofCells i.ty.isAgg v.cells.toList := by
 obtain ⟨d, hd, hA⟩ := T.und hi
 unfold Value.okWide at hv
 rw [hd] at hv
 have one : ∀ x : Value, (∀ cs, x ≠ .agg cs) → x = ofCells false x.cells.toList := by
  intro x hx
  cases x <;> first
   | rfl
   | exact absurd rfl (hx _)
 cases d <;> simp only at hv hA <;> rw [← hA]
 case struct fs => obtain ⟨cs, rfl, _⟩ := hv; simp [ofCells, Value.cells]
 case array m e => obtain ⟨cs, rfl, _⟩ := hv; simp [ofCells, Value.cells]
 all_goals
  refine one v fun cs e => ?_
  subst e
  unfold Cell.okWide at hv
  rw [hd] at hv
  simp only at hv
  try (unfold Cell.ok at hv; rw [hd] at hv; exact hv)
theorem read_args (T : TTok P tt) (hok : plainB P tt ok = true) {W : World} {base : Nat} : ∀ (ts : List TypeId) (vs : List Value) (ds : List (DataW H)) (ps : List MemPlace), (∀ t ∈ ts, ok.contains t = true) → (∀ t ∈ ts, ∃ i, tt t = some i) →
  DataW.TrodAll enc P W 0 (fun _ => true) true ts vs ds ps → (∀ (j : Nat) t v, ts[j]? = some t → vs[j]? = some v → Value.okWide P W .any base t v) →
  ∀ E h, RelHeap E h W → NoOwn E h → ∃ E' l avs, RelHeap E' (h ++ l) W ∧ NoOwn E' (h ++ l) ∧ Ext E E' ∧ VRc E' avs vs ∧ avs.length = ts.length ∧ ∀ (j : Nat) t a, ts[j]? = some t → avs[j]? = some a → ∃ n i, tt t = some i ∧ hasTy a i.ty = true ∧ Rd P tt (h ++ l) n t a
 | [], [], [], ps, _, _, _, _, E, h, R, N => ⟨E, [], [], by simpa using R, by simpa using N, Ext.refl E, by simp [VRc], rfl, fun j t a hj => by simp at hj⟩
 | t :: ts, v :: vs, d :: ds, ps, ho, hi, hr, hv, E, h, R, N => by
  obtain ⟨p, q, ⟨n, h1⟩, h2, _⟩ := hr
  obtain ⟨i, hti⟩ := hi t (List.mem_cons_self ..)
  obtain ⟨E1, l1, a, R1, N1, X1, V1, T1, D1⟩ := read_ok T hok n t _ _ (ho t (List.mem_cons_self ..)) h1 E h R N i hti
  obtain ⟨E2, l2, avs, R2, N2, X2, V2, L2, D2⟩ := read_args T hok ts vs ds q (fun y hy => ho y (List.mem_cons_of_mem _ hy)) (fun y hy => hi y (List.mem_cons_of_mem _ hy)) h2 (fun j t v hj hjv => hv (j + 1) t v (by simpa using hj) (by simpa using hjv)) E1 (h ++ l1) R1 N1
  have hval := value_of_cells T hti (hv 0 t v rfl rfl)
  refine ⟨E2, l1 ++ l2, a :: avs, by rw [← List.append_assoc]; exact R2, by rw [← List.append_assoc]; exact N2, X1.trans X2, ?_, by simp [L2], fun j u b hj hb => ?_⟩
  ·simp only [VRc]
   refine ⟨v, vs, rfl, ?_, V2⟩
   rw [hval]
   exact VRel.mono X2 _ _ (VRel.of_cells T1 V1)
  ·rw [← List.append_assoc]
   cases j with
   | zero =>
    simp at hj hb; subst hj; subst hb
    exact ⟨n, i, hti, T1, Rd.app l2 _ _ _ D1⟩
   | succ j => exact D2 j u b (by simpa using hj) (by simpa using hb)
 | [], _ :: _, _, _, _, _, hr, _, _, _, _, _ => by simp [DataW.TrodAll] at hr
 | [], [], _ :: _, _, _, _, hr, _, _, _, _, _ => by simp [DataW.TrodAll] at hr
 | _ :: _, [], _, _, _, _, hr, _, _, _, _, _ => by simp [DataW.TrodAll] at hr
 | _ :: _, _ :: _, [], _, _, _, hr, _, _, _, _, _ => by simp [DataW.TrodAll] at hr
theorem below_of_moves {E E' : Gh} {h h' : Heap} {W W' : World} (N : NoOwn E h) (m : Moves E h W E' h' W') : Below W.heap.size W W' :=
 ⟨m.io.os, m.io.tape, m.io.output, m.size, fun k hk => m.keep k hk fun ⟨i, c, hi, ho, _⟩ => N i c hi ho⟩
def E00 : Gh := ⟨0, fun _ => 0, fun _ => 0, fun _ => 0, fun _ => 0, fun _ => false, fun _ => .cell⟩
theorem rel00 (W : World) : RelHeap E00 [] W := ⟨rfl, fun i b hb => by simp at hb, fun i j b c hb => by simp at hb⟩
theorem trodAll_stays (hl : laidOutB P = true) {W W' : World} (hb : Below W.heap.size W W') (sp' : Nat → Bool) : ∀ (ts : List TypeId) (vs : List Value) (ds : List (DataW H)) (ps : List MemPlace), (∀ t ∈ ts, P.readableRec t = true ∧ t < P.types.size) →
  (∀ x ∈ ps, x.block < W.heap.size) → (∀ x ∈ ps, sp' x.block = true) → DataW.TrodAll enc P W 0 (fun _ => true) true ts vs ds ps → DataW.TrodAll enc P W' 0 sp' true ts vs ds ps
 | [], [], [], ps, _, _, _, h => h
 | t :: ts, v :: vs, d :: ds, ps, ht, hlt, hsp, h => by
  obtain ⟨p, q, h1, h2, rfl⟩ := h
  obtain ⟨hr, hrow⟩ := ht t (List.mem_cons_self ..)
  exact ⟨p, q, WideElems.Trod_stays hl hr hrow h1 (fun x hx => hb.same (hlt x (List.mem_append_left _ hx))) (fun x hx => hsp x (List.mem_append_left _ hx)),
   trodAll_stays hl hb sp' ts vs ds q (fun y hy => ht y (List.mem_cons_of_mem _ hy)) (fun x hx => hlt x (List.mem_append_right _ hx)) (fun x hx => hsp x (List.mem_append_right _ hx)) h2, rfl⟩
 | [], _ :: _, _, _, _, _, _, hr => by simp [DataW.TrodAll] at hr
 | [], [], _ :: _, _, _, _, _, hr => by simp [DataW.TrodAll] at hr
 | _ :: _, [], _, _, _, _, _, hr => by simp [DataW.TrodAll] at hr
 | _ :: _, _ :: _, [], _, _, _, _, hr => by simp [DataW.TrodAll] at hr
theorem post_true {f : Func} {s : ChangeSpec} {apart : Bool} {W W' : World} {args : Array Value} {ds : List (DataW H)} {before : List MemPlace} {b : Nat} (hl : laidOutB P = true) (hvars : s.vars = [])
  (hread : ∀ t ∈ f.params.toList, P.readableRec t = true ∧ t < P.types.size) (hres : f.resultTypes = #[b]) (hbool : P.underlying b = some .bool)
  (hs : s.fn H ds = { results := [.lit (.bool true)], args := ds })
  (hW : DataW.Whole enc P f.params.toList s.vars apart W args.toList ds [] before) (hb : Below W.heap.size W W') :
  s.post enc P f apart true false false W args (.bool true) W' := by
 have hlt : ∀ p ∈ before, p.block < W.heap.size := fun p hp => hW.lt p hp
 have hold : ∀ p ∈ before, (fun b => decide (b < W.heap.size)) p.block = true := fun p hp => by simpa using hlt p hp
 have hW0 := hW
 obtain ⟨p, q, h1, h2, he, hz, hn⟩ := hW
 rw [hvars] at h2
 have hq : q = [] := by cases q with | nil => rfl | cons _ _ => simp [DataW.TrodVars] at h2
 subst hq
 simp only [List.append_nil] at he
 subst he
 have hds : ds ++ ([] : List (DataW H)) = ds := List.append_nil _
 have hr1 : (Value.bool true).resultList f.resultTypes.size = [.bool true] := by rw [hres]; rfl
 have hrt : ∀ (bb : Nat) (sp : Nat → Bool) (hd : Bool), DataW.TrodAll enc P W' bb sp hd f.resultTypes.toList ((Value.bool true).resultList f.resultTypes.size) (s.fn H (ds ++ [])).results [] := by
  intro bb sp hd
  rw [hr1, hres, hds, hs]
  exact ⟨[], [], ⟨1, by simp [DataW.trod, Value.cells, hbool]⟩, rfl, rfl⟩
 have hargs : ∀ sp : Nat → Bool, (∀ x ∈ before, sp x.block = true) → DataW.TrodAll enc P W' 0 sp true f.params.toList args.toList (s.fn H (ds ++ [])).args before := by
  intro sp hsp
  rw [hds, hs]
  exact trodAll_stays hl hb sp _ _ _ _ hread hlt hsp h1
 have hvs : ∀ sp : Nat → Bool, DataW.TrodVars enc P W' sp s.vars (s.fn H (ds ++ [])).vars [] := by
  intro sp
  rw [hvars, hds, hs]; rfl
 refine ⟨ds, [], before, [], before, [], hW0, hrt _ _ _, hargs _ hold, hvs _, World.keptBut_mono (fun p hp => ⟨hp, Or.inr (.inl hp)⟩) (hb.frame (· ∈ before)), fun h => by cases h⟩
end
end Go.Vab

/-
  From a law's contract to its row.
-/
namespace Go.Vab
open Go Go.RowKit Go.WideShapes Go.ChangeShapes
def Handed (P : Program) (tt : Nat → Option TI) (h : Heap) (ts : List TypeId) (avs : List AV) : Prop :=
 avs.length = ts.length ∧ ∀ (j : Nat) t a, ts[j]? = some t → avs[j]? = some a → ∃ n i, tt t = some i ∧ hasTy a i.ty = true ∧ Rd P tt h n t a
end Go.Vab

/-
  Arrays of bytes as functions.
-/
namespace Go.Vab
open Go
def arr (n : Nat) (g : Nat → BitVec 8) : AV := bytes ((List.range n).map g)
def upd {α : Type} (g : Nat → α) (i : Nat) (x : α) : Nat → α := fun j => if j = i then x else g j
@[simp] theorem upd_same {α : Type} (g : Nat → α) (i : Nat) (x : α) : upd g i x i = x := by simp [upd]
theorem range_map_getD {α : Type} (n : Nat) (g : Nat → α) (i : Nat) : ((List.range n).map g)[i]? = if i < n then some (g i) else none := by
 rw [List.getElem?_map]
 by_cases h : i < n
 ·simp [h]
 ·rw [List.getElem?_eq_none (by simpa using h), if_neg h]; rfl
theorem range_map_set {α : Type} (n : Nat) (g : Nat → α) (i : Nat) (x : α) : ((List.range n).map g).set i x = (List.range n).map (upd g i x) := by
 apply List.ext_getElem?
 intro j
 rw [List.getElem?_set, range_map_getD, range_map_getD]
 by_cases h : i = j
 ·subst h; simp
 ·have h' : ¬ j = i := fun e => h e.symm
  rw [if_neg h]; simp [upd, h']
@[simp] theorem arr_get (n : Nat) (g : Nat → BitVec 8) (i : Nat) : (arr n g).get [i] = if i < n then some (u8 (g i)) else none := by
 unfold arr
 rw [bytes_get, range_map_getD]
 split <;> rfl
@[simp] theorem arr_put (n : Nat) (g : Nat → BitVec 8) (i : Nat) (x : BitVec 8) : (arr n g).put [i] (u8 x) = if i < n then some (arr n (upd g i x)) else none := by
 unfold arr
 rw [bytes_put, range_map_set]
 simp
theorem arr_congr {n : Nat} {g g' : Nat → BitVec 8} (h : ∀ i, i < n → g i = g' i) : arr n g = arr n g' := by
 unfold arr
 congr 1
 exact List.map_congr_left fun i hi => h i (List.mem_range.1 hi)
theorem arr_inj {n : Nat} {g g' : Nat → BitVec 8} : arr n g = arr n g' ↔ ∀ i, i < n → g i = g' i := by
 constructor
 ·intro h i hi
  have := bytes_inj.1 h
  have h2 : ((List.range n).map g)[i]? = ((List.range n).map g')[i]? := by rw [this]
  simpa [range_map_getD, hi] using h2
 ·exact arr_congr
@[simp] theorem hasTy_arr (n k : Nat) (g : Nat → BitVec 8) : hasTy (arr n g) (.arr k (.int .u8)) = decide (n = k) := by simp [arr]
@[simp] theorem arr_cut (n : Nat) (g : Nat → BitVec 8) (off k : Nat) : (arr n g).cut off k = if off + k ≤ n then some (arr k fun i => g (off + i)) else none := by
 simp only [arr, bytes, AV.cut, List.length_map, List.length_range]
 split
 ·rename_i h
  congr 2
  apply List.ext_getElem?
  intro i
  simp only [List.getElem?_take, List.getElem?_drop, List.getElem?_map]
  by_cases hi : i < k
  ·rw [if_pos hi]
   rw [List.getElem?_range (by omega), List.getElem?_range hi]; rfl
  ·rw [if_neg hi, List.getElem?_eq_none (l := List.range k) (by simpa using hi)]; rfl
 ·rfl
open Classical in
theorem eqv_arr (n : Nat) (g g' : Nat → BitVec 8) : eqv (arr n g) (arr n g') = some (decide (∀ i, i < n → g i = g' i)) := by
 unfold arr
 rw [eqv_bytes _ _ (by simp)]
 congr 1
 rw [decide_eq_decide]
 have := arr_inj (n := n) (g := g) (g' := g')
 rw [← this]
 exact bytes_inj.symm
@[simp] theorem arr_rowLen (n : Nat) (g : Nat → BitVec 8) : (arr n g).rowLen = some n := by simp [arr, bytes, AV.rowLen]
@[simp] theorem mNilCheck_ptr (i ver : Nat) (path : List Nat) (t : Ty) : mNilCheck (.ptr i ver path t) = some (.ptr i ver path t) := rfl
end Go.Vab

/-
  Arrays of bytes held against each other.
-/
namespace Go.Vab
open Go
def arrEq (n : Nat) (g g' : Nat → BitVec 8) : Bool := (List.range n).all fun i => decide (g i = g' i)
theorem arrEq_iff {n : Nat} {g g' : Nat → BitVec 8} : arrEq n g g' = true ↔ ∀ i, i < n → g i = g' i := by
 simp [arrEq, List.all_eq_true]
theorem eqv_arr2 (n : Nat) (g g' : Nat → BitVec 8) : eqv (arr n g) (arr n g') = some (arrEq n g g') := by
 rw [eqv_arr]
 congr 1
 rw [Bool.eq_iff_iff, arrEq_iff]
 simp
@[simp] theorem mEq_arr (n : Nat) (g g' : Nat → BitVec 8) : mEq (.arr n (.int .u8)) .eql (arr n g) (arr n g') = some (.bool (arrEq n g g')) := by
 simp [mEq, eqv_arr2]
@[simp] theorem mNe_arr (n : Nat) (g g' : Nat → BitVec 8) : mEq (.arr n (.int .u8)) .neq (arr n g) (arr n g') = some (.bool (!arrEq n g g')) := by
 simp [mEq, eqv_arr2]
@[simp] theorem gdo_bool (b want : Bool) (m : Option (AV × Heap)) (h : Heap) : gdo (.bool b) want m h = if b = want then m else some (.undef, h) := rfl
@[simp] theorem gdo_undef (want : Bool) (m : Option (AV × Heap)) (h : Heap) : gdo .undef want m h = some (.undef, h) := rfl
@[simp] theorem mPick_bool (b : Bool) (x y : AV) : mPick (.bool b) x y = some (if b = true then x else y) := rfl
@[simp] theorem mBinB_eql (a b : Bool) : mBinB .eql (.bool a) (.bool b) = some (.bool (a == b)) := rfl
@[simp] theorem mBinB_neq (a b : Bool) : mBinB .neq (.bool a) (.bool b) = some (.bool (!(a == b))) := rfl
end Go.Vab

/-
  Running the evaluator: answers with a property, step by step; the temporaries by what is known of them alone.
-/
namespace Go.Vab
open Go
def Evs {α : Type} (m : Option α) (Q : α → Prop) : Prop := ∃ r, m = some r ∧ Q r
section
variable {α β : Type} {m m' : Option α} {Q Q' : α → Prop}
theorem Evs.mono (h : Evs m Q) (hm : ∀ r, Q r → Q' r) : Evs m Q' := let ⟨r, h1, h2⟩ := h; ⟨r, h1, hm r h2⟩
end
@[simp] theorem inBlk_same (id : Nat) (s : St) : inBlk id (.exit id, s) = (.nrm, s) := by simp [inBlk]
@[simp] theorem env_get_put (env : Env) (t s : Nat) (v : AV) : (env.put t v).get s = if s = t then v else env.get s := get_put env t v s
section
variable {α : Type} {a b : Nat} (x y : α)
@[simp] theorem ite_nle (h : ¬ a ≤ b) : (if a ≤ b then x else y) = y := if_neg h
end
section
variable (i ver : Nat) (path : List Nat) (h : Heap)
abbrev stR (i ver : Nat) (path : List Nat) (x : AV) (h : Heap) : Option (AV × Heap) := bnd (blkAt h i ver) fun b => if b.mode = .ro then none else bnd (b.v.put path x) fun v' => some (.undef, h.set i { b with v := v' })
attribute [simp] stR
end
section
variable {α : Type} {a b : Nat} (x y : Option α)
end
attribute [simp] nat_add nat_sub nat_rem
end Go.Vab

/-
  Maps: sets of handles (keys of 32 bytes, each at the value one).
-/
namespace Go.Vab
open Go
def MapT (P : Program) (t : Nat) : Prop := ∃ k e, P.underlying t = some (.map k e) ∧ Maps.Keyed P k ∧ (∀ w, (zeroValue e).run P w = .ok (.int .i64 0) w) ∧ ∀ ks, okKey ks = true → ∃ l, keyOf P k (keyVal ks) = some l
open Classical in
noncomputable def ifT {α : Type} (P : Program) (t : Nat) (x : Option α) : Option α := if MapT P t then x else none
theorem ifT_pos {α : Type} {P : Program} {t : Nat} (h : MapT P t) (x : Option α) : ifT P t x = x := if_pos h
theorem ifT_some {α : Type} {P : Program} {t : Nat} {x : Option α} {y : α} (h : ifT P t x = some y) : MapT P t ∧ x = some y := by
 unfold ifT at h
 split at h
 ·exact ⟨by assumption, h⟩
 ·cases h
def hasKey (ks : List Int) (vs : List AV) : Bool := vs.any fun v => match v with | .ints .u8 xs => decide (xs = ks) | _ => false
def mMkMap (h : Heap) : Option (AV × Heap) := some (.map h.length, h ++ [⟨.node [], 0, .mp⟩])
def mapAt (h : Heap) (i : Nat) : Option (List AV) := match h[i]? with
 | some b => if b.mode = .mp ∧ b.ver = 0 then match b.v with | .node vs => some vs | _ => none else none
 | none => none
def mLook (m k : AV) (h : Heap) : Option AV := match m, k with
 | .map i, .ints .u8 ks => if okKey ks = true then bnd (mapAt h i) fun vs => some (.int .i64 (if hasKey ks vs = true then 1 else 0)) else none
 | _, _ => none
def mUpd (m k x : AV) (h : Heap) : Option (AV × Heap) := match m, k, x with
 | .map i, .ints .u8 ks, .int .i64 n => if okKey ks = true ∧ n = 1 then bnd (mapAt h i) fun vs => some (.undef, h.set i ⟨.node (if hasKey ks vs = true then vs else vs ++ [.ints .u8 ks]), 0, .mp⟩) else none
 | _, _, _ => none
theorem keyVal_inj {a b : List Int} (h : keyVal a = keyVal b) : a = b := by
 unfold keyVal at h
 simp only [Value.agg.injEq] at h
 have := congrArg Array.toList h
 simp only at this
 clear h
 induction a generalizing b with
 | nil => cases b with
  | nil => rfl
  | cons y b => simp at this
 | cons x a ih => cases b with
  | nil => simp at this
  | cons y b =>
   simp only [List.map_cons, List.cons.injEq, Value.int.injEq, true_and] at this
   rw [this.1, ih this.2]
theorem mapAt_spec {h : Heap} {i : Nat} {vs : List AV} (hm : mapAt h i = some vs) : h[i]? = some ⟨.node vs, 0, .mp⟩ := by
 unfold mapAt at hm
 split at hm
 ·rename_i b hb
  split at hm
  ·rename_i hc
   split at hm
   ·rename_i us hv
    cases hm
    rw [hb]
    obtain ⟨v, ver, mode⟩ := b
    simp only at hv hc
    obtain ⟨rfl, rfl⟩ := hc
    rw [hv]
   ·cases hm
  ·cases hm
 ·cases hm
@[simp] theorem mapAt_of {h : Heap} {i : Nat} {vs : List AV} (hi : h[i]? = some ⟨.node vs, 0, .mp⟩) : mapAt h i = some vs := by
 unfold mapAt; rw [hi]; simp
theorem hasKey_map (ks : List Int) (l : List (List Int)) : hasKey ks (l.map (AV.ints .u8)) = decide (ks ∈ l) := by
 unfold hasKey
 induction l with
 | nil => simp
 | cons a l ih =>
  rw [List.map_cons, List.any_cons, ih]
  rw [Bool.eq_iff_iff]
  simp only [Bool.or_eq_true, decide_eq_true_eq, List.mem_cons]
  constructor
  ·rintro (h | h)
   ·exact .inl h.symm
   ·exact .inr h
  ·rintro (h | h)
   ·exact .inl h.symm
   ·exact .inr h
section
variable {P : Program} {E : Gh} {h : Heap} {w : World} (R : RelHeap E h w)
include R
theorem look_sound {t : Nat} (T : MapT P t) {m k : AV} {xm xk : Value} (hm : VRel E m xm) (hk : VRel E k xk) {v : AV} (he : mLook m k h = some v) : ∃ x, (Instr.lookup t xm xk false).run P w = .ok x w ∧ VRel E v x := by
 obtain ⟨kt, e, ht, K, hz, hko⟩ := T
 unfold mLook at he
 split at he
 ·rename_i i ks
  split at he
  ·rename_i hok
   obtain ⟨vs, h1, h2⟩ := bnd_eq_some.1 he
   cases h2
   have hb := mapAt_spec h1
   have B := R.at_ i _ hb
   simp only [VRel] at hm hk
   obtain ⟨a, rfl, hi, ha⟩ := hm
   have ha := ha B.ver.symm
   subst ha
   obtain ⟨ls, es, clock, e1, e2, e3, e4, e5, e6⟩ := B.mp rfl
   injection e1 with e1
   subst e1
   rw [hasKey_map]
   obtain ⟨kl, hkey⟩ := hko ks hok
   have hall : ∀ x ∈ es.toList, ∃ k ∈ ls, x.key = keyVal k ∧ x.val = .int .i64 1 := by
    intro x hx
    have : (x.key, x.val) ∈ es.toList.map fun e => (e.key, e.val) := List.mem_map.2 ⟨x, hx, rfl⟩
    rw [e4] at this
    obtain ⟨k, hk, e⟩ := List.mem_map.1 this
    injection e with g1 g2
    exact ⟨k, hk, g1.symm, g2.symm⟩
   have hexk : ∀ x ∈ es.toList, ∃ l, keyOf P kt x.key = some l := fun x hx => by
    obtain ⟨k, g1, g2, _⟩ := hall x hx
    rw [g2]; exact hko k (e3 k g1)
   have hk : xk = keyVal ks := hk
   subst hk
   rcases K.find w hkey es.toList hexk with ⟨g1, g2⟩ | ⟨j, e0, g1, g2, g3⟩
   ·have hn : ¬ ks ∈ ls := fun hin => by
     have : (keyVal ks, Value.int .i64 1) ∈ es.toList.map fun e => (e.key, e.val) := by rw [e4]; exact List.mem_map.2 ⟨ks, hin, rfl⟩
     obtain ⟨x, hx, e⟩ := List.mem_map.1 this
     injection e with q1 q2
     exact g2 x hx q1
    refine ⟨.int .i64 0, by simp [Instr.lookup, run_underlying ht, MapKept.run_getObj_map e2, K.check w _ hkey, g1, hz, Result.andThen], ?_⟩
    simp [hn, VRel]
   ·have hm0 : e0 ∈ es.toList := List.mem_of_getElem? g2
    obtain ⟨k, q1, q2, q3⟩ := hall e0 hm0
    have hin : ks ∈ ls := by
     rw [g3] at q2
     rw [keyVal_inj q2]; exact q1
    refine ⟨.int .i64 1, by simp [Instr.lookup, run_underlying ht, MapKept.run_getObj_map e2, K.check w _ hkey, g1, q3, Result.andThen], ?_⟩
    simp [hin, VRel]
  ·cases he
 ·cases he
theorem moves_map {w' : World} {i : Nat} {vs : List AV} (hi : h[i]? = some ⟨.node vs, 0, .mp⟩) {us : List AV} {n : Nat} (hty : hasTy (.node us) (.arr n (.arr 32 (.int .u8))) = true) (hat : MapAt E w' i (.node us))
  (hsize : w'.heap.size = w.heap.size) (hoth : ∀ k, k ≠ E.blk i → w'.heap[k]? = w.heap[k]?) (hio : Io w w') : Moves E h w E (h.set i ⟨.node us, 0, .mp⟩) w' := by
 have hil : i < h.length := (List.getElem?_eq_some_iff.1 hi).1
 have hget : ∀ (j : Nat) (c : Blk), (h.set i ⟨.node us, 0, .mp⟩)[j]? = some c → (j = i ∧ c = ⟨.node us, 0, .mp⟩) ∨ (j ≠ i ∧ h[j]? = some c) := by
  intro j c hj
  by_cases e : j = i
  ·subst e; rw [List.getElem?_set_self hil] at hj; simp at hj; exact .inl ⟨rfl, hj.symm⟩
  ·rw [List.getElem?_set_ne (fun x => e x.symm)] at hj; exact .inr ⟨e, hj⟩
 have hback : ∀ (j : Nat) (c : Blk), (h.set i ⟨.node us, 0, .mp⟩)[j]? = some c → ∃ c' : Blk, h[j]? = some c' ∧ c'.mode = c.mode := by
  intro j c hj
  rcases hget j c hj with ⟨rfl, rfl⟩ | ⟨_, hj⟩
  ·exact ⟨_, hi, rfl⟩
  ·exact ⟨c, hj, rfl⟩
 have hmine : Own E i ⟨.node vs, 0, .mp⟩ := ⟨by simp, placed_mp rfl⟩
 have hown : ∀ x, OwnIn E (h.set i ⟨.node us, 0, .mp⟩) x → OwnIn E h x := by
  rintro x ⟨j, c, hj, ⟨ho, hp⟩, hx⟩
  obtain ⟨c', hc', hm⟩ := hback j c hj
  exact ⟨j, c', hc', ⟨by rw [hm]; exact ho, by unfold Placed at *; rw [hm]; exact hp⟩, hx⟩
 refine ⟨Ext.refl E, ⟨by rw [List.length_set]; exact R.n, fun j c hj => ?_, fun j k c d hj hk hP hO e => ?_⟩, by omega, fun x hx hn => hoth x (fun e => hn ⟨i, _, hi, hmine, e.symm⟩), fun x hx => .inl (hown x hx), hio⟩
 ·rcases hget j c hj with ⟨rfl, rfl⟩ | ⟨hne, hj⟩
  ·obtain ⟨ls, es, clock, e1, e2, e3, e4, e5, e6⟩ := hat
   refine ⟨(R.at_ j _ hi).ver, ?_, fun _ => ⟨ls, es, clock, e1, e2, e3, e4, e5, e6⟩, fun hm => absurd rfl hm, fun hm => by cases hm⟩
   unfold Fits
   rw [if_pos e6]
   exact ⟨_, _, e5, hty⟩
  ·have B := R.at_ j c hj
   have hsame : Placed E j c → w'.heap[E.blk j]? = w.heap[E.blk j]? := fun hP => hoth (E.blk j) (fun e => hne (R.inj j i c _ hj hi hP hmine e))
   refine ⟨B.ver, B.fits, fun hm => (B.mp hm).same (hsame (placed_mp hm)), fun hm => ?_, B.grow⟩
   obtain ⟨l, hl1, hl2, hl3⟩ := B.body hm
   refine ⟨l, hl1, fun hP => ?_, hl3⟩
   obtain ⟨arr, te, fr, pre, post, h1, h2⟩ := hl2 hP
   refine ⟨arr, te, fr, pre, post, ?_, h2⟩
   rw [hsame hP]; exact h1
 ·obtain ⟨c', hc', hm⟩ := hback j c hj
  obtain ⟨d', hd', hn⟩ := hback k d hk
  exact R.inj j k c' d' hc' hd' (by unfold Placed at *; rw [hm]; exact hP) ⟨by rw [hn]; exact hO.1, by have := hO.2; unfold Placed at *; rw [hn]; exact this⟩ e
theorem upd_sound {t : Nat} (T : MapT P t) {m k x : AV} {xm xk xx : Value} (hm : VRel E m xm) (hk : VRel E k xk) (hx : VRel E x xx) {r : AV × Heap} (he : mUpd m k x h = some r) :
  r.1 = .undef ∧ ∃ w', (Instr.mapUpdate t xm xk xx).run P w = .ok () w' ∧ Moves E h w E r.2 w' := by
 obtain ⟨kt, e, ht, K, hz, hko⟩ := T
 unfold mUpd at he
 split at he
 ·rename_i i ks n
  split at he
  ·rename_i hok
   obtain ⟨hok, rfl⟩ := hok
   obtain ⟨vs, h1, h2⟩ := bnd_eq_some.1 he
   cases h2
   refine ⟨rfl, ?_⟩
   have hb := mapAt_spec h1
   have B := R.at_ i _ hb
   simp only [VRel] at hm hk hx
   obtain ⟨a, rfl, hi, ha⟩ := hm
   have ha := ha B.ver.symm
   subst ha
   obtain ⟨ls, es, clock, e1, e2, e3, e4, e5, e6⟩ := B.mp rfl
   injection e1 with e1
   subst e1
   rw [hasKey_map]
   obtain ⟨kl, hkey⟩ := hko ks hok
   have hall : ∀ x ∈ es.toList, ∃ k ∈ ls, x.key = keyVal k ∧ x.val = .int .i64 1 := by
    intro x hx
    have : (x.key, x.val) ∈ es.toList.map fun e => (e.key, e.val) := List.mem_map.2 ⟨x, hx, rfl⟩
    rw [e4] at this
    obtain ⟨k, hk, e⟩ := List.mem_map.1 this
    injection e with g1 g2
    exact ⟨k, hk, g1.symm, g2.symm⟩
   have hexk : ∀ x ∈ es.toList, ∃ l, keyOf P kt x.key = some l := fun x hx => by
    obtain ⟨k, g1, g2, _⟩ := hall x hx
    rw [g2]; exact hko k (e3 k g1)
   have hk : xk = keyVal ks := hk
   subst hk
   subst hx
   have hlt : E.blk i < w.heap.size := (Array.getElem?_eq_some_iff.1 e2).1
   have hset : ∀ (o : Obj) (k : Nat), k ≠ E.blk i → (w.heap.setIfInBounds (E.blk i) o)[k]? = w.heap[k]? := fun o k hk => Array.getElem?_setIfInBounds_ne (fun q => hk q.symm)
   have hself : ∀ (o : Obj), (w.heap.setIfInBounds (E.blk i) o)[E.blk i]? = some o := fun o => by rw [Array.getElem?_setIfInBounds_self, if_pos hlt]
   have hrow : ∀ l : List (List Int), (∀ k ∈ l, okKey k = true) → hasTy (.node (l.map (AV.ints .u8))) (.arr l.length (.arr 32 (.int .u8))) = true := by
    intro l hl
    simp only [hasTy, List.length_map, decide_true, Bool.true_and, hasTyAll_iff]
    intro v hv
    obtain ⟨k, hk, rfl⟩ := List.mem_map.1 hv
    have := hl k hk
    simp only [okKey, Bool.and_eq_true, decide_eq_true_eq] at this
    simp [hasTy, this.1]
   rcases K.find w hkey es.toList hexk with ⟨g1, g2⟩ | ⟨j, e0, g1, g2, g3⟩
   ·have hn : ¬ ks ∈ ls := fun hin => by
     have : (keyVal ks, Value.int .i64 1) ∈ es.toList.map fun e => (e.key, e.val) := by rw [e4]; exact List.mem_map.2 ⟨ks, hin, rfl⟩
     obtain ⟨x, hx, e⟩ := List.mem_map.1 this
     injection e with q1 q2
     exact g2 x hx q1
    refine ⟨{ w with heap := w.heap.setIfInBounds (E.blk i) (.map (es.push ⟨keyVal ks, .int .i64 1, clock⟩) (clock + 1)) },
     by simp [Instr.mapUpdate, run_underlying ht, MapKept.run_getObj_map e2, K.check w false hkey, g1, MapKept.run_setObj_map _ e2, Result.andThen], ?_⟩
    simp only [hn, decide_false, Bool.false_eq_true, if_false]
    have hnew : ∀ k ∈ ls ++ [ks], okKey k = true := fun k hk => by
     rcases List.mem_append.1 hk with hk | hk
     ·exact e3 k hk
     ·rw [List.mem_singleton] at hk; rw [hk]; exact hok
    have emap : ls.map (AV.ints .u8) ++ [AV.ints .u8 ks] = (ls ++ [ks]).map (AV.ints .u8) := by simp
    rw [emap]
    refine moves_map R hb (hrow _ hnew) ⟨ls ++ [ks], _, clock + 1, rfl, hself _, hnew, ?_, e5, e6⟩ (by simp) (fun k hk => hset _ k hk) ⟨rfl, rfl, rfl⟩
    simp [e4]
   ·have hm0 : e0 ∈ es.toList := List.mem_of_getElem? g2
    obtain ⟨k, q1, q2, q3⟩ := hall e0 hm0
    have hin : ks ∈ ls := by
     rw [g3] at q2
     rw [keyVal_inj q2]; exact q1
    have hj : es[j]? = some e0 := by simpa using g2
    refine ⟨{ w with heap := w.heap.setIfInBounds (E.blk i) (.map (es.modify j (fun e' => { e' with key := keyVal ks, val := .int .i64 1 })) clock) },
     by simp [Instr.mapUpdate, run_underlying ht, MapKept.run_getObj_map e2, K.check w false hkey, g1, hj, g3, K.stays w hkey, MapKept.run_setObj_map _ e2, Result.andThen], ?_⟩
    simp only [hin, decide_true, if_true]
    refine moves_map R hb (hrow _ e3) ⟨ls, _, clock, rfl, hself _, e3, ?_, e5, e6⟩ (by simp) (fun k hk => hset _ k hk) ⟨rfl, rfl, rfl⟩
    rw [← e4]
    have hlist : (es.modify j (fun e' => { e' with key := keyVal ks, val := .int .i64 1 })).toList = es.toList.set j { e0 with key := keyVal ks, val := .int .i64 1 } := by
     rw [Array.toList_modify, ChangeMaps.modify_eq_set _ _ _ _ g2]
    rw [hlist, List.map_set]
    apply List.ext_getElem?
    intro q
    rw [List.getElem?_set]
    split
    ·rename_i hq
     subst hq
     have hjl : j < es.toList.length := (List.getElem?_eq_some_iff.1 g2).1
     rw [if_pos (by simpa using hjl), List.getElem?_map, g2]
     simp [g3, q3]
    ·rfl
  ·cases he
 ·cases he
theorem mkMap_sound {r : AV × Heap} (he : mMkMap h = some r) : ∃ E', VRel E' r.1 (.map (some w.heap.size)) ∧ Moves E h w E' r.2 (w.alloc (.map #[] 0)) := by
 cases he
 have hX := Gh.push_ext E w.heap.size 0 0 true (.arr 0 (.arr 32 (.int .u8)))
 refine ⟨E.push w.heap.size 0 0 true (.arr 0 (.arr 32 (.int .u8))), ?_, ?_⟩
 ·simp only [VRel]
  exact ⟨_, rfl, by simp [Gh.push, R.n], fun _ => by simp [Gh.push, R.n]⟩
 generalize hE : E.push w.heap.size 0 0 true (.arr 0 (.arr 32 (.int .u8))) = E' at hX ⊢
 have hheap : (w.alloc (.map #[] 0)).heap = w.heap.push (.map #[] 0) := rfl
 have hold : ∀ k, k < w.heap.size → (w.alloc (.map #[] 0)).heap[k]? = w.heap[k]? := by
  intro k hk
  rw [hheap, Array.getElem?_push, if_neg (by omega)]
 have hget : ∀ (j : Nat) (c : Blk), (h ++ [⟨.node [], 0, .mp⟩])[j]? = some c → (j = E.n ∧ c = ⟨.node [], 0, .mp⟩) ∨ (j < E.n ∧ h[j]? = some c) := by
  intro j c hj
  rw [R.n]
  by_cases e : j < h.length
  ·rw [List.getElem?_append_left e] at hj; exact .inr ⟨e, hj⟩
  ·rw [List.getElem?_append_right (by omega)] at hj
   have : j - h.length = 0 := by
    have := (List.getElem?_eq_some_iff.1 hj).1
    simp at this; omega
   rw [this] at hj; simp at hj
   exact .inl ⟨by omega, hj.symm⟩
 have hroom : ∀ j, j < E.n → E'.room j = E.room j := fun j hj => by rw [← hE]; simp [Gh.push, Nat.ne_of_lt hj]
 have hblk : ∀ j, j < E.n → E'.blk j = E.blk j := fun j hj => by rw [← hE]; simp [Gh.push, Nat.ne_of_lt hj]
 have hbn : E'.blk E.n = w.heap.size := by rw [← hE]; simp [Gh.push]
 have hty : E'.ty E.n = .arr 0 (.arr 32 (.int .u8)) := by rw [← hE]; simp [Gh.push]
 have hmany : E'.many E.n = true := by rw [← hE]; simp [Gh.push]
 have hplaced : ∀ (j : Nat) (c : Blk), j < E.n → (Placed E' j c ↔ Placed E j c) := fun j c hj => by unfold Placed; rw [hroom j hj]
 refine ⟨hX, ⟨by rw [← hE]; simp [Gh.push, R.n], fun j c hj => ?_, fun j k c d hj hk hP hO e => ?_⟩, by rw [hheap]; simp, fun x hx _ => hold x hx, fun x hx => ?_, ⟨rfl, rfl, rfl⟩⟩
 ·rcases hget j c hj with ⟨rfl, rfl⟩ | ⟨hjn, hj⟩
  ·refine ⟨by rw [← hE]; simp [Gh.push], ?_, fun _ => ⟨[], #[], 0, rfl, ?_, by simp, by simp, hty, hmany⟩, fun hm => absurd rfl hm, fun hm => by cases hm⟩
   ·unfold Fits
    rw [if_pos hmany]
    exact ⟨0, _, hty, by simp [hasTy, hasTyAll]⟩
   ·rw [hbn, hheap]; simp
  ·have B := R.at_ j c hj
   have hne := Nat.ne_of_lt hjn
   refine ⟨by rw [← hE]; simp [Gh.push, hne]; exact B.ver, ?_, fun hm => (B.mp hm).ghost (by rw [hblk j hjn, hold _ (placed_lt R hj (placed_mp hm))]) (by rw [← hE]; simp [Gh.push, hne]) (by rw [← hE]; simp [Gh.push, hne]), fun hmm => ?_, fun hm => ?_⟩
   ·have := B.fits; rw [← hE]; unfold Fits at *; simpa [Gh.push, hne] using this
   ·obtain ⟨l1, hl1, hl2, hl3⟩ := B.body hmm
    refine ⟨l1, VRl.mono hX _ _ hl1, fun hP => ?_, fun hP => hl3 (fun h => hP ((hplaced j c hjn).2 h))⟩
    have hP' := (hplaced j c hjn).1 hP
    obtain ⟨arr, te, fr, pre, post, h1, h2, h3, h4⟩ := hl2 hP'
    refine ⟨arr, te, fr, pre, post, ?_, h2, by rw [← hE]; simpa [Gh.push, hne] using h3, by rw [← hE]; simpa [Gh.push, hne] using h4⟩
    rw [hblk j hjn, hold _ (placed_lt R hj hP')]; exact h1
   ·have := B.grow hm; rw [← hE]; simpa [Gh.push, hne] using this
 ·rcases hget j c hj with ⟨ej, ec⟩ | ⟨hjn, hj'⟩ <;> rcases hget k d hk with ⟨ek, ed⟩ | ⟨hkn, hk'⟩
  ·omega
  ·have := placed_lt R hk' ((hplaced k d hkn).1 hO.2)
   rw [hblk k hkn, ej, hbn] at e; omega
  ·have := placed_lt R hj' ((hplaced j c hjn).1 hP)
   rw [hblk j hjn, ek, hbn] at e; omega
  ·rw [hblk j hjn, hblk k hkn] at e
   exact R.inj j k c d hj' hk' ((hplaced j c hjn).1 hP) ⟨hO.1, (hplaced k d hkn).1 hO.2⟩ e
 ·obtain ⟨j, c, hj, hO, e⟩ := hx
  rcases hget j c hj with ⟨rfl, rfl⟩ | ⟨hjn, hj⟩
  ·right; rw [hbn] at e; omega
  ·left; exact ⟨j, c, hj, ⟨hO.1, (hplaced j c hjn).1 hO.2⟩, by rw [← e, hblk j hjn]⟩
end
end Go.Vab

/-
  A conversion of bytes to bytes: the block is marked; from then on it is only read.
-/
namespace Go.Vab
open Go
theorem mark_run {P : Program} {w : World} {a : Addr} {te : TypeId} {n : Nat} (hs : w.shape? a.block = some (te, n)) : (markStringish a).run P w = .ok () (w.freeze { block := a.block, off := n } 1) := by
 simp [markStringish, shape, freeze, Sem.run, hs]
theorem freeze_io (w : World) (a : Addr) (n : Nat) : Io w (w.freeze a n) := by
 unfold World.freeze
 split <;> exact ⟨rfl, rfl, rfl⟩
theorem freeze_size (w : World) (a : Addr) (n : Nat) : (w.freeze a n).heap.size = w.heap.size := by
 unfold World.freeze
 split
 ·rfl
 ·simp
theorem freeze_ne {w : World} {a : Addr} {n x : Nat} (h : x ≠ a.block) : (w.freeze a n).heap[x]? = w.heap[x]? := by
 unfold World.freeze
 split
 ·rfl
 ·simp only [Array.getElem?_modify]
  rw [if_neg (fun e => h e.symm)]
theorem freeze_at {w : World} {a : Addr} {n : Nat} {arr : Array Value} {te : TypeId} {fr : Nat × Nat} (h : w.heap[a.block]? = some (.cells arr te fr)) : ∃ fr', (w.freeze a n).heap[a.block]? = some (.cells arr te fr') := by
 unfold World.freeze
 split
 ·exact ⟨fr, h⟩
 ·simp only [Array.getElem?_modify, if_true, h, Option.map_some]
  obtain ⟨lo, hi⟩ := fr
  exact ⟨_, rfl⟩
def mMark (x : AV) (h : Heap) : Option (AV × Heap) := match x with
 | .slice i ver path t off len (some c) => bnd (blkAt h i ver) fun b => if b.mode = .own ∧ len ≠ 0 ∧ t.size ≠ 0 then bnd (mElems t x h) fun _ => some (x, h.set i { b with mode := .ro }) else none
 | _ => none
section
variable {P : Program} {E : Gh} {h : Heap} {w : World} (R : RelHeap E h w)
include R
theorem slice_addr0 {i ver : Nat} {path : List Nat} {t : Ty} {off len c : Nat} {b : Blk} {new : AV} {y : Value} (hb : blkAt h i ver = some b) (he : mElems t (.slice i ver path t off len (some c)) h = some new) (hx : VRel E (.slice i ver path t off len (some c)) y) (hn : len ≠ 0) (ht : t.size ≠ 0) :
  ∃ a m te k, y = .slice (some a) len m ∧ a.block = E.blk i ∧ w.shape? a.block = some (te, k) := by
 simp only [mElems, Ty.beq_self, if_true, hb, bnd_some] at he
 obtain ⟨r, hg, he⟩ := bnd_eq_some.1 he
 simp only [VRel] at hx
 obtain ⟨a, m, rfl, hi, hv, hlen, hcap, hcn, hs⟩ := hx
 obtain ⟨hbi, hbv⟩ := blkAt_spec hb
 have hver : ver = E.ver i := by rw [← hbv]; exact (R.at_ i b hbi).ver
 obtain ⟨o, n, hsub, ha, hroom⟩ := hs hver
 obtain ⟨m', l, hm, hl, hc⟩ := cont_cells R hver hsub hb hg
 obtain ⟨k1, k2, k3⟩ := cut_spec he hm hl
 have hll := VRl.len new _ _ k1 k3
 simp only [Ty.size] at hll
 have hpos : 0 < len * t.size := Nat.mul_pos (by omega) (by omega)
 have hl0 : ∃ v, l[off * t.size]? = some v := by
  have : off * t.size < l.length := by
   rw [List.length_take, List.length_drop] at hll; omega
  exact ⟨_, List.getElem?_eq_getElem this⟩
 obtain ⟨v, hv0⟩ := hl0
 have hcell := hc _ v hv0
 have ha' := ha (by omega)
 obtain ⟨te, k, hsh, _, _⟩ := World.shape?_of_cell? hcell
 refine ⟨a, m, te, k, rfl, by rw [ha'], by rw [ha']; exact hsh⟩
theorem mark_sound {x : AV} {y : Value} {r : AV × Heap} {f e : TypeId} (hf : P.underlying f = some (.slice e)) (hu : P.underlying e = some (.int .u8)) (hx : VRel E x y) (hr : mMark x h = some r) :
  ∃ w', (convert f f y).run P w = .ok y w' ∧ r.1 = x ∧ Moves E h w E r.2 w' := by
 cases x with
 | slice i ver path t off len cap =>
  cases cap with
  | none => cases hr
  | some c =>
   simp only [mMark] at hr
   obtain ⟨b, hb, hr⟩ := bnd_eq_some.1 hr
   split at hr
   ·rename_i hc
    obtain ⟨hown, hlen, ht⟩ := hc
    obtain ⟨new, he, hr⟩ := bnd_eq_some.1 hr
    cases hr
    obtain ⟨a, m, te, k, rfl, hbk, hsh⟩ := slice_addr0 R hb he hx hlen ht
    obtain ⟨hbi, hbv⟩ := blkAt_spec hb
    have B := R.at_ i b hbi
    have hpl : Placed E i b := fun q => by rw [hown] at q; cases q.1
    have hOwn : Own E i b := ⟨by rw [hown]; simp, hpl⟩
    refine ⟨w.freeze { block := a.block, off := k } 1, ?_, rfl, Ext.refl E, ?_, by rw [freeze_size]; exact Nat.le_refl _, fun z _ hz => ?_, fun z hz => .inl ?_, freeze_io _ _ _⟩
    ·have := mark_run (P := P) hsh
     simp [convert, run_underlying hf, run_underlying hu, this]
    ·have hlt := (List.getElem?_eq_some_iff.1 hbi).1
     refine ⟨by rw [List.length_set]; exact R.n, fun j bj hj => ?_, fun p q bp bq hp hq hP hQ hpq => ?_⟩
     ·rw [List.getElem?_set] at hj
      split at hj
      ·rename_i hij
       subst hij
       try rw [if_pos hlt] at hj
       cases hj
       obtain ⟨l, h1, h2, h3⟩ := B.body (by rw [hown]; simp)
       obtain ⟨arr, te', fr, pre, post, g1, g2, g3, _⟩ := h2 hpl
       obtain ⟨fr', g4⟩ := freeze_at (w := w) (a := { block := a.block, off := k }) (n := 1) (show w.heap[a.block]? = _ by rw [hbk]; exact g1)
       have g4 : (w.freeze { block := a.block, off := k } 1).heap[E.blk i]? = some (.cells arr te' fr') := by rw [← hbk]; exact g4
       exact ⟨B.ver, B.fits, fun q => (by cases q), fun _ => ⟨l, h1, fun _ => ⟨arr, te', fr', pre, post, g4, g2, g3, fun q => absurd rfl q⟩, fun q => absurd (fun hq => (by cases hq.1)) q⟩, fun q => (by cases q)⟩
      ·rename_i hij
       have Bj := R.at_ j bj hj
       have hne : ∀ hP : Placed E j bj, E.blk j ≠ a.block := fun hP e => hij (R.inj j i bj b hj hbi hP hOwn (by rw [e, hbk])).symm
       refine ⟨Bj.ver, Bj.fits, fun hm => (Bj.mp hm).same (freeze_ne (hne (placed_mp hm))), fun hm => ?_, Bj.grow⟩
       obtain ⟨l, h1, h2, h3⟩ := Bj.body hm
       exact ⟨l, h1, fun hP => by rw [freeze_ne (a := { block := a.block, off := k }) (hne hP)]; exact h2 hP, h3⟩
     ·have key : ∀ {p : Nat} {bp : Blk}, (h.set i { b with mode := .ro })[p]? = some bp → ∃ c, h[p]? = some c ∧ (Placed E p bp → Placed E p c) ∧ (Own E p bp → Own E p c) := by
       intro p bp hp
       rw [List.getElem?_set] at hp
       split at hp
       ·rename_i hip
        subst hip
        try rw [if_pos hlt] at hp
        cases hp
        exact ⟨b, hbi, fun _ => hpl, fun q => absurd rfl q.1⟩
       ·exact ⟨bp, hp, id, id⟩
      obtain ⟨c1, e1, f1, _⟩ := key hp
      obtain ⟨c2, e2, _, f2⟩ := key hq
      exact R.inj p q c1 c2 e1 e2 (f1 hP) (f2 hQ) hpq
    ·exact freeze_ne fun e => hz ⟨i, b, hbi, hOwn, by rw [e, hbk]⟩
    ·obtain ⟨j, cj, hj, hO, e⟩ := hz
     rw [List.getElem?_set] at hj
     split at hj
     ·rename_i hij
      subst hij
      try rw [if_pos (List.getElem?_eq_some_iff.1 hbi).1] at hj
      cases hj
      exact absurd rfl hO.1
     ·exact ⟨j, cj, hj, hO, e⟩
   ·cases hr
 | _ => cases hr
end
def bytesT (P : Program) (f : TypeId) : Prop := ∃ e, P.underlying f = some (.slice e) ∧ P.underlying e = some (.int .u8)
open Classical in
noncomputable def ifY {α : Type} (P : Program) (f : TypeId) (x : Option α) : Option α := if bytesT P f then x else none
theorem ifY_some {α : Type} {P : Program} {f : TypeId} {x : Option α} {a : α} (h : ifY P f x = some a) : bytesT P f ∧ x = some a := by
 unfold ifY at h
 split at h
 ·rename_i hb; exact ⟨hb, h⟩
 ·cases h
theorem ifY_pos {α : Type} {P : Program} {f : TypeId} (hb : bytesT P f) (x : Option α) : ifY P f x = x := if_pos hb
def rowT (C : Ctx) (f : Nat) : Bool := match C.tt f with
 | some i => i.elem.isSome
 | none => false
end Go.Vab

/-
  What code comes to, by relation: every outcome. One operation, a list of operations.
-/
namespace Go.Vab
open Go
def SpecQ (P : Program) (g : Nat) (args : List AV) (h : Heap) (K : AV × Heap → Prop) : Prop :=
 ∀ (E : Gh) (w : World) (xs : List Value), RelHeap E h w → VRc E args xs →
  ((∃ fn, P.funcs[g]? = some fn ∧ (fn.name == "runtime.NumGoroutine") = false ∧ fn.body.isNone = false) ∧
   Calls P g xs.toArray w fun e w' => ∃ r E' x, K r ∧ e = .returned x ∧ VRel E' r.1 x ∧ Moves E h w E' r.2 w') ∨
  (∃ x w' r E', (callFunc g xs.toArray).run P w = .ok (.value x) w' ∧ K r ∧ VRel E' r.1 x ∧ Moves E h w E' r.2 w')
theorem SpecQ.mono {P : Program} {g : Nat} {args : List AV} {h : Heap} {K K' : AV × Heap → Prop} (hs : SpecQ P g args h K) (hK : ∀ r, K r → K' r) : SpecQ P g args h K' := by
 intro E w xs R hx
 rcases hs E w xs R hx with ⟨h1, h2⟩ | ⟨x, w', r, E', h1, h2, h3, h4⟩
 ·refine .inl ⟨h1, h2.mono fun e w' hp => ?_⟩
  obtain ⟨r, E', x, g1, g2⟩ := hp
  exact ⟨r, E', x, hK r g1, g2⟩
 ·exact .inr ⟨x, w', r, E', h1, hK r h2, h3, h4⟩
def padRow (row zero : AV) (m : Nat) : Option AV := row.join (zeroRow m zero)
def appW (t : Ty) (bytes : Nat) (zero s x : AV) (h : Heap) (K : AV × Heap → Prop) : Prop :=
 ∃ new n, mElems t x h = some new ∧ new.rowLen = some n ∧ match s with
  | .nilslice => (n = 0 ∧ K (.nilslice, h)) ∨ (0 < n ∧ n * bytes ≤ roomBound ∧ n ≤ roomBound ∧ bytes ≤ 1000000 ∧
    ∀ c row, n ≤ c → padRow new zero (c - n) = some row → K (.slice h.length 0 [] t 0 n (some c), h ++ [⟨row, 0, .own⟩]))
  | .slice i ver path t' off len (some c) => ∃ old all, mElems t (.slice i ver path t' off len (some c)) h = some old ∧ old.join new = some all ∧
    ((n = 0 ∧ len ≤ c ∧ K (.slice i ver path t' off len (some c), h)) ∨
     (0 < n ∧ len + n ≤ c ∧ ∃ b r r' v', blkAt h i ver = some b ∧ b.mode ≠ .ro ∧ b.v.get path = some r ∧ r.splice (off + len) n new = some r' ∧ b.v.put path r' = some v' ∧ K (.slice i ver path t' off (len + n) (some c), h.set i { b with v := v' })) ∨
     (0 < n ∧ c < len + n ∧ (len + n) * bytes ≤ roomBound ∧ len + n ≤ roomBound ∧ bytes ≤ 1000000 ∧
     ∀ c' row, len + n ≤ c' → padRow all zero (c' - (len + n)) = some row → K (.slice h.length 0 [] t 0 (len + n) (some c'), h ++ [⟨row, 0, .own⟩])))
  | _ => False
def appZ (t : Ty) (bytes : Nat) (zero s : AV) (n : Nat) (h : Heap) (K : AV × Heap → Prop) : Prop := match s with
 | .slice i ver path t' off len (some c) => ∃ old all, mElems t (.slice i ver path t' off len (some c)) h = some old ∧ old.join (zeroRow n zero) = some all ∧
   0 < n ∧ c < len + n ∧ (len + n) * bytes ≤ roomBound ∧ len + n ≤ roomBound ∧ bytes ≤ 1000000 ∧
   ∀ c' row, len + n ≤ c' → padRow all zero (c' - (len + n)) = some row → K (.slice h.length 0 [] t 0 (len + n) (some c'), h ++ [⟨row, 0, .own⟩])
 | _ => False
def mCap (x : AV) : Option AV := match x with
 | .slice _ _ _ _ _ _ (some c) => some (.int .i64 c)
 | .nilslice => some (.int .i64 0)
 | _ => none
def mClear (t : Ty) (zero x : AV) (h : Heap) : Option (AV × Heap) := match x with
 | .nilslice => some (.tuple [], h)
 | .slice i ver path t' off len _ => if len = 0 then some (.tuple [], h) else if Ty.beq t' t then bnd (blkAt h i ver) fun b => if b.mode = .ro then none else bnd (b.v.get path) fun r => bnd (r.splice off len (zeroRow len zero)) fun r' => bnd (b.v.put path r') fun v' => some (.tuple [], h.set i { b with v := v' }) else none
 | _ => none
def withTyP (C : Ctx) (t : Nat) (f : TI → (AV × Heap → Prop) → Prop) (K : AV × Heap → Prop) : Prop := match C.tt t with
 | some i => f i K
 | none => False
def optP {α : Type} (x : Option α) (f : α → (AV × Heap → Prop) → Prop) (K : AV × Heap → Prop) : Prop := match x with
 | some i => f i K
 | none => False
def tyP (t : Ty) (a b : (AV × Heap → Prop) → Prop) (K : AV × Heap → Prop) : Prop := match t with
 | .cell => a K
 | .int _ => b K
 | _ => False
def appZn (t : Ty) (bytes : Nat) (zero s x : AV) (h : Heap) (K : AV × Heap → Prop) : Prop := ∃ n : Nat, x = .int .i64 n ∧ n ≤ roomBound ∧ appZ t bytes zero s n h K
def bW (C : Ctx) (b : Builtin) (ats : Array TypeId) (as : List AV) (h : Heap) : (AV × Heap → Prop) → Prop :=
 match b, as with
 | .append, [s, x] => optP ats[0]? fun t => optP ats[1]? fun u => withTyP C t fun i => withTyP C u fun j => optP i.elem fun e => withTyP C e fun el =>
   tyP j.ty (appW el.ty el.bytes el.zero s x h) (appZn el.ty el.bytes el.zero s x h)
 | .cap, [x] => optP ats[0]? fun t => withTyP C t fun i => optP i.elem fun _ => Evs (pureV h (mCap x))
 | .clear, [x] => optP ats[0]? fun t => withTyP C t fun i => optP i.elem fun e => withTyP C e fun el => Evs (mClear el.ty el.zero x h)
 | b, as => Evs (evBuiltin C b ats as h)
noncomputable def opW (P : Program) (C : Ctx) (V : Operand → AV) (h : Heap) (op : Op) : (AV × Heap → Prop) → Prop := match op with
 | .call c => match c.callee with
  | .value f => match V f with
   | .fn g caps => SpecQ P g (c.args.toList.map V ++ caps) h
   | _ => fun _ => False
  | .builtin b => bW C b c.argTypes (c.args.toList.map V) h
  | _ => fun _ => False
 | .makeMap t none => Evs (ifT P t (mMkMap h))
 | .lookup t m k false => Evs (pureV h (ifT P t (mLook (V m) (V k) h)))
 | .mapUpdate t m k x => Evs (ifT P t (mUpd (V m) (V k) (V x) h))
 | .convert f t x => if f = t ∧ rowT C f = true then Evs (ifY P f (mMark (V x) h)) else Evs (evOp C false V h (.convert f t x))
 | op => Evs (evOp C false V h op)
def gW (y : AV) (want : Bool) (X : (AV × Heap → Prop) → Prop) (h : Heap) (K : AV × Heap → Prop) : Prop := match y with
 | .bool b => if b = want then X K else K (.undef, h)
 | .undef => K (.undef, h)
 | _ => False
def oneW (P : Program) (C : Ctx) (ops : List Oper) (o : Oper) (σ : Nat → AV) (h : Heap) : (AV × Heap → Prop) → Prop :=
 match o.guard with
 | none => opW P C (opvF σ) h o.op
 | some (j, want) => match dstOf ops j with
  | some d => gW (σ d) want (opW P C (opvF σ) h o.op) h
  | none => fun _ => False
def Mono (F : (AV × Heap → Prop) → Prop) : Prop := ∀ K K', (∀ r, K r → K' r) → F K → F K'
theorem appW_mono {t : Ty} {bytes : Nat} {zero s x : AV} {h : Heap} : Mono (appW t bytes zero s x h) := by
 rintro K K' hK ⟨new, n, h1, h2, h3⟩
 refine ⟨new, n, h1, h2, ?_⟩
 cases s with
 | nilslice =>
  rcases h3 with ⟨g1, g2⟩ | ⟨g1, g2, g3, g4, g5⟩
  ·exact .inl ⟨g1, hK _ g2⟩
  ·exact .inr ⟨g1, g2, g3, g4, fun c row hc hr => hK _ (g5 c row hc hr)⟩
 | slice i ver path t' off len cap =>
  cases cap with
  | none => exact h3
  | some c =>
   obtain ⟨old, all, g1, g2, h4⟩ := h3
   refine ⟨old, all, g1, g2, ?_⟩
   rcases h4 with ⟨q1, q2, q3⟩ | ⟨q1, q2, b, r, r', v', q3, q4, q5, q6, q7, q8⟩ | ⟨q1, q2, q3, q4, q5, q6⟩
   ·exact .inl ⟨q1, q2, hK _ q3⟩
   ·exact .inr (.inl ⟨q1, q2, b, r, r', v', q3, q4, q5, q6, q7, hK _ q8⟩)
   ·exact .inr (.inr ⟨q1, q2, q3, q4, q5, fun c row hc hr => hK _ (q6 c row hc hr)⟩)
 | _ => exact h3
theorem appZn_mono {t : Ty} {bytes : Nat} {zero s x : AV} {h : Heap} : Mono (appZn t bytes zero s x h) := by
 rintro K K' hK ⟨n, h1, h2, ha⟩
 refine ⟨n, h1, h2, ?_⟩
 cases s with
 | slice i ver path t' off len cap =>
  cases cap with
  | none => exact ha
  | some c =>
   obtain ⟨old, all, g1, g2, q1, q2, q3, q4, q5, q6⟩ := ha
   exact ⟨old, all, g1, g2, q1, q2, q3, q4, q5, fun c row hc hr => hK _ (q6 c row hc hr)⟩
 | _ => exact ha
theorem Mono.evs (m : Option (AV × Heap)) : Mono (Evs m) := fun _ _ hK h => Evs.mono h hK
theorem Mono.ff : Mono (fun _ => False) := fun _ _ _ h => h
theorem Mono.withTyP {C : Ctx} {t : Nat} {f : TI → (AV × Heap → Prop) → Prop} (hf : ∀ i, Mono (f i)) : Mono (withTyP C t f) := by
 intro K K' hK h
 unfold Go.Vab.withTyP at h ⊢
 cases hc : C.tt t with
 | none => rw [hc] at h; exact h
 | some i => rw [hc] at h; exact hf i K K' hK h
theorem Mono.optP {α : Type} {x : Option α} {f : α → (AV × Heap → Prop) → Prop} (hf : ∀ i, Mono (f i)) : Mono (optP x f) := by
 intro K K' hK h
 cases x with
 | none => exact h
 | some i => exact hf i K K' hK h
theorem Mono.tyP {t : Ty} {a b : (AV × Heap → Prop) → Prop} (ha : Mono a) (hb : Mono b) : Mono (tyP t a b) := by
 intro K K' hK h
 cases t with
 | cell => exact ha K K' hK h
 | int k => exact hb K K' hK h
 | _ => exact h
theorem bW_mono {C : Ctx} {b : Builtin} {ats : Array TypeId} {as : List AV} {h : Heap} : Mono (bW C b ats as h) := by
 unfold bW
 split
 ·exact .optP fun _ => .optP fun _ => .withTyP fun _ => .withTyP fun _ => .optP fun _ => .withTyP fun _ => .tyP appW_mono appZn_mono
 ·exact .optP fun _ => .withTyP fun _ => .optP fun _ => .evs _
 ·exact .optP fun _ => .withTyP fun _ => .optP fun _ => .withTyP fun _ => .evs _
 ·exact .evs _
theorem opW_mono {P : Program} {C : Ctx} {V : Operand → AV} {h : Heap} {op : Op} : Mono (opW P C V h op) := by
 unfold opW
 split
 ·split
  ·split
   ·exact fun _ _ hK h => SpecQ.mono h hK
   ·exact .ff
  ·exact bW_mono
  ·exact .ff
 ·exact .evs _
 ·exact .evs _
 ·exact .evs _
 ·split <;> exact .evs _
 ·exact .evs _
theorem gW_mono {y : AV} {want : Bool} {X : (AV × Heap → Prop) → Prop} {h : Heap} (hX : Mono X) : Mono (gW y want X h) := by
 intro K K' hK ho
 cases y with
 | bool b =>
  simp only [gW] at ho ⊢
  split at ho
  ·rename_i hb; rw [if_pos hb]; exact hX K K' hK ho
  ·rename_i hb; rw [if_neg hb]; exact hK _ ho
 | undef => exact hK _ ho
 | _ => exact ho
theorem oneW_mono {P : Program} {C : Ctx} {ops : List Oper} {o : Oper} {σ : Nat → AV} {h : Heap} : Mono (oneW P C ops o σ h) := by
 unfold oneW
 split
 ·exact opW_mono
 ·split
  ·exact gW_mono opW_mono
  ·exact .ff
end Go.Vab

/-
  append, cap, clear: every outcome is one that the relation tells.
-/
namespace Go.Vab
open Go
theorem zc_flat (z : Value) : ∀ q : Nat, (Builtin.zeroCells z.cells q).toList = (List.replicate q z.cells.toList).flatten := by
 intro q
 simp only [Builtin.zeroCells, Array.toList_map, Array.toList_range]
 induction q with
 | zero => simp
 | succ q ih =>
  rw [Nat.succ_mul, Nat.add_comm, List.range_add, List.map_append, List.replicate_succ, List.flatten_cons]
  congr 1
  ·apply List.ext_getElem?
   intro k
   by_cases hk : k < z.cells.size
   ·simp [hk, Nat.mod_eq_of_lt hk]
   ·simp [hk]
  ·rw [← ih, List.map_map]
   apply List.map_congr_left
   intro x _
   simp [Nat.add_mod_left]
theorem zeroRow_spec {E : Gh} {zero : AV} {t : Ty} {z : Value} (hz : hasTy zero t = true) (hr : VRel E zero z) (m : Nat) : hasTy (zeroRow m zero) (.arr m t) = true ∧ VRl E (zeroRow m zero) (Builtin.zeroCells z.cells m).toList := by
 rw [zc_flat]
 have hzc := VRel.cells hz hr
 have node : ∀ zz : AV, zero = zz → (∀ k n, zz ≠ .int k n) → hasTy (AV.node (List.replicate m zz)) (.arr m t) = true ∧ VRl E (.node (List.replicate m zz)) (List.replicate m z.cells.toList).flatten := by
  intro zz hzz hni
  have hall : hasTyAll (List.replicate m zz) t = true := by
   rw [hasTyAll_iff]
   intro v hv
   obtain ⟨_, rfl⟩ := List.mem_replicate.1 hv
   rw [← hzz]; exact hz
  have hni' : ∀ k, t ≠ .int k := by
   rintro k rfl
   cases zero <;> simp [hasTy, AV.oneCell] at hz
   exact hni _ _ hzz.symm
  constructor
  ·cases t with
   | int k => exact absurd rfl (hni' k)
   | _ => simp [hasTy, hall]
  ·simp only [VRl]
   have hv : ∀ q, VRs E (List.replicate q zz) ((List.replicate q z.cells.toList).flatten) := by
    intro q
    induction q with
    | zero => simp [VRs]
    | succ q ih =>
     rw [List.replicate_succ, List.replicate_succ, List.flatten_cons]
     exact VRs.cons (by rw [← hzz]; exact hzc) ih
   exact hv m
 cases hzz : zero with
 | int k z0 =>
  subst hzz
  have hk : t = .int k := by cases t <;> simp [hasTy, AV.oneCell] at hz; rw [hz]
  have hzv : z = .int k z0 := by simpa only [VRel] using hr
  subst hk; subst hzv
  constructor
  ·simp [zeroRow, hasTy]
  ·simp only [zeroRow, VRl]
   simp [Value.cells]
 | _ => simp only [zeroRow]; exact node _ hzz (by simp)
theorem join_some {a b : AV} {n m : Nat} {t : Ty} (ha : hasTy a (.arr n t) = true) (hb : hasTy b (.arr m t) = true) : ∃ r, a.join b = some r := by
 cases a with
 | ints k xs =>
  obtain ⟨rfl, h1⟩ := hasTy_ints_arr ha
  cases b with
  | ints k' ys =>
   obtain ⟨e, _⟩ := hasTy_ints_arr hb
   cases e
   exact ⟨_, by simp [AV.join]; rfl⟩
  | node us => simp [hasTy] at hb
  | _ => simp [hasTy] at hb
 | node vs =>
  cases b with
  | ints k' ys =>
   obtain ⟨rfl, _⟩ := hasTy_ints_arr hb
   simp [hasTy] at ha
  | node us => exact ⟨_, rfl⟩
  | _ => cases t <;> simp [hasTy] at hb
 | _ => cases t <;> simp [hasTy] at ha
theorem own_sound {E : Gh} {h : Heap} {w w' : World} (R : RelHeap E h w) {t : Ty} {all zero : AV} {n c : Nat} (hrow : hasTy all (.arr n t) = true) {l : List Value} (hl : VRl E all l) {z : Value} (hzt : hasTy zero t = true) (hz : VRel E zero z)
  {arr : Array Value} {te : TypeId} (hw : w'.heap = w.heap.push (.cells arr te (0, 0))) (hc : n ≤ c) (ha : arr.toList = l ++ (Builtin.zeroCells z.cells (c - n)).toList) (hio : Io w w') :
  ∃ row E', padRow all zero (c - n) = some row ∧ VRel E' (.slice h.length 0 [] t 0 n (some c)) (.slice (some ⟨w.heap.size, 0, none⟩) n c) ∧ Moves E h w E' (h ++ [⟨row, 0, .own⟩]) w' := by
 obtain ⟨z1, z2⟩ := zeroRow_spec hzt hz (c - n)
 obtain ⟨row, hr⟩ := join_some hrow z1
 obtain ⟨r1, r2⟩ := join_spec hr hrow z1 hl z2
 rw [show n + (c - n) = c by omega] at r1
 refine ⟨row, E.push w.heap.size arr.size 0 true (.arr 0 t), hr, ?_, ?_⟩
 ·simp only [VRel]
  refine ⟨_, c, rfl, by simp [Gh.push, R.n], by simp [Gh.push, R.n], hc, fun x hx => by simpa using hx, fun hx => (by cases hx), fun _ => ⟨0, 0, by simp [Gh.push, R.n, Ty.sub], fun _ => by simp [Gh.push, R.n], fun hx => (by cases hx)⟩⟩
 ·exact moves_push R ⟨row, 0, .own⟩ arr.size true (.arr 0 t) (by simp) (by simp only [if_true]; exact ⟨c, t, rfl, r1⟩) (by simp) r2 (.inl ⟨arr, te, (0, 0), [], hw, by simp [ha], rfl, by simp⟩) hio
section
variable {P : Program} {tt : Nat → Option TI} (T : TTok P tt) {E : Gh} {h : Heap} {w : World} (R : RelHeap E h w)
 {st xt e : Nat} {el : TI} {ats : Array TypeId} {ty : TypeId} (hst : ats[0]? = some st) (hxt : ats[1]? = some xt) (hu : P.underlying st = some (.slice e)) (hel : tt e = some el)
include T hst hxt hu hel
theorem capb {need cap bytes : Nat} (hgt : cap < need) (hb1 : need * bytes ≤ roomBound) (hb3 : bytes ≤ 1000000) : ¬ (Builtin.nextslicecap need cap * bytes > 2 ^ 48) := by
 have h1 := nextslicecap_le need cap hgt
 have h2 : Builtin.nextslicecap need cap * bytes ≤ (need + need / 4 + 512) * bytes := Nat.mul_le_mul_right _ h1
 have h3 : need / 4 * bytes ≤ need * bytes / 4 := by
  rw [Nat.le_div_iff_mul_le (by omega)]
  have : need / 4 * bytes * 4 = (need / 4 * 4) * bytes := by rw [Nat.mul_assoc, Nat.mul_comm bytes 4, ← Nat.mul_assoc]
  rw [this]
  exact Nat.mul_le_mul_right _ (Nat.div_mul_le_self _ _)
 rw [Nat.add_mul, Nat.add_mul] at h2
 unfold roomBound at hb1
 omega
theorem run_append_own {dx : TypeDesc} (hux : P.underlying xt = some dx) (hdx : ∀ k, dx ≠ .int k) {base : Option Addr} {len cap n : Nat} {yx : Value} {old new : Array Value} (hn : (Builtin.lenOf yx).run P w = .ok n w) (hgt : cap < len + n)
  (hold : ∀ w', w'.heap = w.heap → (Builtin.firstCells el.ty.size len (.slice base len cap)).run P w' = .ok old w')
  (hnew : ∀ w', w'.heap = w.heap → (Builtin.firstCells el.ty.size n yx).run P w' = .ok new w')
  (hb1 : (len + n) * el.bytes ≤ roomBound) (hb2 : len + n ≤ roomBound) (hb3 : el.bytes ≤ 1000000) :
  ∃ c w' z, (∀ E, VRel E el.zero z) ∧ (Builtin.append_ ats ty #[.slice base len cap, yx]).run P w = .ok (.slice (some ⟨w.heap.size, 0, none⟩) (len + n) c) w' ∧
   w'.heap = w.heap.push (.cells (old ++ new ++ Builtin.zeroCells z.cells (c - (len + n))) e (0, 0)) ∧ len + n ≤ c ∧ Io w w' := by
 obtain ⟨f, z0, hf, hfs, hfb, hz0, hzr⟩ := T.info e el hel
 obtain ⟨z, hz, hzrel⟩ := run_zero_tt T hel { w with drawn := w.drawn + 1 }
 have hti : ∀ w, (typeInfo e).run P w = .ok f w := fun w => by simp [typeInfo, hf]
 have hcapb : ¬ (Builtin.nextslicecap (len + n) cap * f.bytes > 2 ^ 48) := by rw [hfb]; exact capb T hst hxt hu hel hgt hb1 hb3
 have hcut : ∀ t, len + n ≤ (Question.appendCap (len + n) cap e).cut t := fun t => by simp [Question.cut]
 obtain ⟨c, hc⟩ : ∃ c, c = (Question.appendCap (len + n) cap e).cut (w.tape w.drawn (.appendCap (len + n) cap e)) := ⟨_, rfl⟩
 have hcge : len + n ≤ c := by rw [hc]; exact hcut _
 refine ⟨c, { w with drawn := w.drawn + 1, heap := w.heap.push (.cells (old ++ new ++ Builtin.zeroCells z.cells (c - (len + n))) e (0, 0)) }, z, hzrel, ?_, rfl, hcge, ⟨rfl, rfl, rfl⟩⟩
 have hle : ¬ (len + n ≤ cap) := by omega
 have hmax : ¬ (((len + n : Nat) : Int) > IntKind.i64.max) := by
  unfold roomBound at hb2
  simp [IntKind.max, IntKind.signed, IntKind.bits]; omega
 simp only [Builtin.append_, hst, hxt]
 simp only [List.getElem?_toArray, List.getElem?_cons_zero, List.getElem?_cons_succ, Sem.run_bind, run_underlying hu w, run_underlying hux w, Result.andThen_ok, run_sizeOf_tt T hel w]
 simp only [Sem.run_pure, Result.andThen_ok]
 have key : ((Builtin.firstCells el.ty.size len (.slice base len cap)).run P { w with drawn := w.drawn + 1 }) = .ok old { w with drawn := w.drawn + 1 } := hold _ rfl
 have key2 : ((Builtin.firstCells el.ty.size n yx).run P { w with drawn := w.drawn + 1 }) = .ok new { w with drawn := w.drawn + 1 } := hnew _ rfl
 cases dx <;> first
  | exact absurd rfl (hdx _)
  | (simp only [Bool.false_eq_true, if_false, Sem.run_bind, hn, Result.andThen_ok, Bool.not_false, if_true, hle, hti, hmax, false_and, hcapb, run_choose, Question.forced, run_askRoom, key, key2, hz, newRow, run_newObj, Sem.run_pure, ← hc])
theorem run_append_ownZ (hne : el.ty.size ≠ 0) {kn : IntKind} (hux : P.underlying xt = some (.int kn)) {base : Option Addr} {len cap n : Nat} {old : Array Value} (h0 : 0 < n) (hgt : cap < len + n)
  (hold : ∀ w', w'.heap = w.heap → (Builtin.firstCells el.ty.size len (.slice base len cap)).run P w' = .ok old w')
  (hb1 : (len + n) * el.bytes ≤ roomBound) (hb2 : len + n ≤ roomBound) (hb3 : el.bytes ≤ 1000000) :
  ∃ c w' z, (∀ E, VRel E el.zero z) ∧ (Builtin.append_ ats ty #[.slice base len cap, .int .i64 n]).run P w = .ok (.slice (some ⟨w.heap.size, 0, none⟩) (len + n) c) w' ∧
   w'.heap = w.heap.push (.cells (old ++ Builtin.zeroCells z.cells n ++ Builtin.zeroCells z.cells (c - (len + n))) e (0, 0)) ∧ len + n ≤ c ∧ Io w w' := by
 obtain ⟨f, z0, hf, hfs, hfb, hz0, hzr⟩ := T.info e el hel
 have hz : ∀ w, (zeroValue e).run P w = .ok z0 w := fun w => by simp [zeroValue, typeInfo, hf, hz0]
 have hti : ∀ w, (typeInfo e).run P w = .ok f w := fun w => by simp [typeInfo, hf]
 have hcapb : ¬ (Builtin.nextslicecap (len + n) cap * f.bytes > 2 ^ 48) := by rw [hfb]; exact capb T hst hxt hu hel hgt hb1 hb3
 have hcut : ∀ t, len + n ≤ (Question.appendCap (len + n) cap e).cut t := fun t => by simp [Question.cut]
 obtain ⟨c, hc⟩ : ∃ c, c = (Question.appendCap (len + n) cap e).cut (w.tape w.drawn (.appendCap (len + n) cap e)) := ⟨_, rfl⟩
 have hcge : len + n ≤ c := by rw [hc]; exact hcut _
 refine ⟨c, { w with drawn := w.drawn + 1, heap := w.heap.push (.cells (old ++ Builtin.zeroCells z0.cells n ++ Builtin.zeroCells z0.cells (c - (len + n))) e (0, 0)) }, z0, hzr, ?_, rfl, hcge, ⟨rfl, rfl, rfl⟩⟩
 have hle : ¬ (len + n ≤ cap) := by omega
 have hmax : ¬ (((len + n : Nat) : Int) > IntKind.i64.max) := by
  unfold roomBound at hb2
  simp [IntKind.max, IntKind.signed, IntKind.bits]; omega
 have hw : IntKind.i64.wrap (n : Int) = n := by
  unfold roomBound at hb2
  unfold IntKind.wrap
  simp [IntKind.bits, IntKind.signed]; omega
 have hneg : ¬ ((n : Int) < 0) := by omega
 have h48 : ¬ ((n : Int) * (f.bytes : Int) > 2 ^ 48) := by
  rw [hfb]
  have : n * el.bytes ≤ (len + n) * el.bytes := Nat.mul_le_mul_right _ (by omega)
  unfold roomBound at hb1
  have h2 : n * el.bytes ≤ 140737488355328 := by omega
  have : (n : Int) * (el.bytes : Int) = ((n * el.bytes : Nat) : Int) := by simp
  omega
 have hns : ¬ (n * el.ty.size = 0) := Nat.mul_ne_zero (by omega) hne
 have key : ((Builtin.firstCells el.ty.size len (.slice base len cap)).run P { w with drawn := w.drawn + 1 }) = .ok old { w with drawn := w.drawn + 1 } := hold _ rfl
 simp only [Builtin.append_, hst, hxt]
 simp only [List.getElem?_toArray, List.getElem?_cons_zero, List.getElem?_cons_succ, Sem.run_bind, run_underlying hu w, run_underlying hux w, Result.andThen_ok, run_sizeOf_tt T hel w]
 simp only [Sem.run_pure, Result.andThen_ok, if_true, Sem.run_bind, asInt, asIntOf, hw, hneg, if_false, hti, h48, Int.toNat_natCast, hle, hmax, false_and, hcapb, run_choose, Question.forced, run_askRoom, key, Bool.not_true, Bool.false_eq_true, hns, hz, newRow, run_newObj, ← hc]
theorem appW_sound (hne : el.ty.size ≠ 0) {dx : TypeDesc} (hux : P.underlying xt = some dx) (hdx : ∀ k, dx ≠ .int k) (R : RelHeap E h w)
  {s x : AV} {ys yx : Value} {K : AV × Heap → Prop} (hs : VRel E s ys) (hx : VRel E x yx) (he : appW el.ty el.bytes el.zero s x h K) :
  ∃ r E' w' y, (Builtin.append_ ats ty #[ys, yx]).run P w = .ok y w' ∧ K r ∧ VRel E' r.1 y ∧ Moves E h w E' r.2 w' := by
 obtain ⟨new, n, hnew, hrl, he⟩ := he
 obtain ⟨n', ln, k1, k2, k3, k4, k5⟩ := elems_spec (P := P) R hnew hx
 have e1 : n = n' := by rw [hrl] at k1; exact Option.some.inj k1
 subst e1
 have hlnew := VRl.len new _ _ k2 k3
 simp only [Ty.size] at hlnew
 have k5w : ∀ w' : World, w'.heap = w.heap → (Builtin.firstCells el.ty.size n yx).run P w' = .ok ln.toArray w' := fun w' hw' => by
  have := k5 w' hw' n (Nat.le_refl _)
  rwa [← hlnew, List.take_length] at this
 cases s with
 | nilslice =>
  simp only [VRel] at hs; subst hs
  rcases he with ⟨hn0, hK⟩ | ⟨hn0, hb1, hb2, hb3, hK⟩
  ·have hln : ln = [] := List.eq_nil_of_length_eq_zero (by rw [hlnew, hn0]; simp)
   refine ⟨_, E, w, .slice none 0 0, ?_, hK, by simp only [VRel], Moves.refl R⟩
   rw [run_append_room T hst hxt hu hel hux hdx k4 (by omega) (k5w w rfl)]
   simp [hn0]
  ·obtain ⟨c, w', z, h0, h1, h2, h3, h4⟩ := run_append_own (P := P) T hst hxt hu hel hux hdx (base := none) (len := 0) (cap := 0) (ty := ty) k4 (by omega) (old := #[]) (fun w' _ => by simp [Builtin.firstCells]) k5w
    (by simpa using hb1) (by simpa using hb2) hb3
   simp only [Nat.zero_add] at h1 h2 h3
   obtain ⟨row, E', g0, g1, g2⟩ := own_sound R (te := e) k2 k3 (T.zero e el hel) (h0 E) h2 h3 (by simp) h4
   exact ⟨_, E', w', _, h1, hK c row h3 g0, g1, g2⟩
 | slice i ver path t' off len cap =>
  cases cap with
  | none => exact he.elim
  | some c0 =>
   obtain ⟨old, all, hold, hall, he⟩ := he
   obtain ⟨no, lo, o1, o2, o3, o4, o5⟩ := elems_spec (P := P) R hold hs
   have hs' := hs
   simp only [VRel] at hs
   obtain ⟨a, c, rfl, hi, hv, hlen, hcap, hcn, hslc⟩ := hs
   have hc0 : c = c0 := hcap c0 rfl
   subst hc0
   have hno : no = len := by
    simp only [Builtin.lenOf, Sem.run_pure] at o4
    injection o4 with o4 _; exact o4.symm
   subst hno
   have hlold := VRl.len old _ _ o2 o3
   simp only [Ty.size] at hlold
   obtain ⟨j1, j2⟩ := join_spec hall o2 k2 o3 k3
   have hold' : ∀ w' : World, w'.heap = w.heap → (Builtin.firstCells el.ty.size no (.slice (some a) no c)).run P w' = .ok lo.toArray w' := fun w' hw' => by
    have := o5 w' hw' no (Nat.le_refl _)
    rwa [← hlold, List.take_length] at this
   rcases he with ⟨hn0, hle, hK⟩ | ⟨hn0, hroom, b, r, r', v', hbk, hmode, hg, hsp, hput, hK⟩ | ⟨hn0, hgt, hb1, hb2, hb3, hK⟩
   ·have hln : ln = [] := List.eq_nil_of_length_eq_zero (by rw [hlnew, hn0]; simp)
    refine ⟨_, E, w, .slice (some a) no c, ?_, hK, hs', Moves.refl R⟩
    rw [run_append_room T hst hxt hu hel hux hdx k4 (by omega) (k5w w rfl)]
    simp [hn0, hln, storeCells]
   ·obtain ⟨hbi, hbv⟩ := blkAt_spec hbk
    have hver : ver = E.ver i := by rw [← hbv]; exact (R.at_ i b hbi).ver
    obtain ⟨o, q, hsub, ha, hrm⟩ := hslc hver
    have hte : t' = el.ty := by
     simp only [mElems] at hold
     split at hold
     ·rename_i hbt; exact Ty.beq_eq _ _ hbt
     ·cases hold
    subst hte
    obtain ⟨w', hr, hm⟩ := splice_ok (P := P) R hsub hbk hmode hg hsp hput k2 k3
    refine ⟨_, E, w', .slice (some a) (no + n) c, ?_, hK, ?_, hm⟩
    ·rw [run_append_room T hst hxt hu hel hux hdx k4 hroom (k5w w rfl)]
     rw [← hlnew, List.take_length] at hr
     simp only [ha (by omega), add_mk]
     rw [show E.base i + o + off * el.ty.size + no * el.ty.size = E.base i + o + (off + no) * el.ty.size by rw [Nat.add_mul]; omega, hr]
     rfl
    ·simp only [VRel]
     exact ⟨a, c, rfl, hi, hv, hroom, hcap, fun hx => (by cases hx), fun hvv => by
      obtain ⟨o', q', s1, s2, s3⟩ := hslc hvv
      exact ⟨o', q', s1, s2, fun hx => by cases hx⟩⟩
   ·obtain ⟨c', w', z, h0, h1, h2, h3, h4⟩ := run_append_own (P := P) T hst hxt hu hel hux hdx (base := some a) (len := no) (cap := c) (ty := ty) k4 hgt hold' k5w hb1 hb2 hb3
    obtain ⟨row, E', g0, g1, g2⟩ := own_sound R (te := e) j1 j2 (T.zero e el hel) (h0 E) h2 h3 (by simp) h4
    exact ⟨_, E', w', _, h1, hK c' row h3 g0, g1, g2⟩
 | _ => exact he.elim
theorem appZn_sound (hne : el.ty.size ≠ 0) {kn : IntKind} (hux : P.underlying xt = some (.int kn)) (R : RelHeap E h w)
  {s x : AV} {ys yx : Value} {K : AV × Heap → Prop} (hs : VRel E s ys) (hx : VRel E x yx) (he : appZn el.ty el.bytes el.zero s x h K) :
  ∃ r E' w' y, (Builtin.append_ ats ty #[ys, yx]).run P w = .ok y w' ∧ K r ∧ VRel E' r.1 y ∧ Moves E h w E' r.2 w' := by
 obtain ⟨n, rfl, _, he⟩ := he
 simp only [VRel] at hx; subst hx
 cases s with
 | slice i ver path t' off len cap =>
  cases cap with
  | none => exact he.elim
  | some c0 =>
   obtain ⟨old, all, hold, hall, hn0, hgt, hb1, hb2, hb3, hK⟩ := he
   obtain ⟨no, lo, o1, o2, o3, o4, o5⟩ := elems_spec (P := P) R hold hs
   simp only [VRel] at hs
   obtain ⟨a, c, rfl, hi, hv, hlen, hcap, hcn, hslc⟩ := hs
   have hc0 : c = c0 := hcap c0 rfl
   subst hc0
   have hno : no = len := by
    simp only [Builtin.lenOf, Sem.run_pure] at o4
    injection o4 with o4 _; exact o4.symm
   subst hno
   have hlold := VRl.len old _ _ o2 o3
   simp only [Ty.size] at hlold
   have hold' : ∀ w' : World, w'.heap = w.heap → (Builtin.firstCells el.ty.size no (.slice (some a) no c)).run P w' = .ok lo.toArray w' := fun w' hw' => by
    have := o5 w' hw' no (Nat.le_refl _)
    rwa [← hlold, List.take_length] at this
   obtain ⟨c', w', z, h0, h1, h2, h3, h4⟩ := run_append_ownZ (P := P) T hst hxt hu hel hne hux (base := some a) (len := no) (cap := c) (ty := ty) hn0 hgt hold' hb1 hb2 hb3
   obtain ⟨z1, z2⟩ := zeroRow_spec (T.zero e el hel) (h0 E) n
   obtain ⟨j1, j2⟩ := join_spec hall o2 z1 o3 z2
   obtain ⟨row, E', g0, g1, g2⟩ := own_sound R (te := e) j1 j2 (T.zero e el hel) (h0 E) h2 h3 (by simp) h4
   exact ⟨_, E', w', _, h1, hK c' row h3 g0, g1, g2⟩
 | _ => exact he.elim
end
section
variable {P : Program} {C : Ctx} (T : TTok P C.tt) {E : Gh} {h : Heap} {w : World} (R : RelHeap E h w)
include T R
theorem clear_sound {t e : Nat} {el : TI} {ats : Array TypeId} {ty : TypeId} (hat : ats[0]? = some t) (hu : P.underlying t = some (.slice e)) (hel : C.tt e = some el) {x v : AV} {h' : Heap} {yx : Value} (hx : VRel E x yx) (he : mClear el.ty el.zero x h = some (v, h')) :
  ∃ w' y, (Builtin.clear_ ats ty #[yx]).run P w = .ok y w' ∧ VRel E v y ∧ Moves E h w E h' w' := by
 have tup : VRel E (.tuple []) (.tuple #[]) := by simp only [VRel, VRc]; exact ⟨[], rfl, rfl⟩
 cases x with
 | nilslice =>
  simp only [VRel] at hx; subst hx
  simp only [mClear, Option.some.injEq, Prod.mk.injEq] at he
  obtain ⟨rfl, rfl⟩ := he
  exact ⟨w, .tuple #[], by simp [Builtin.clear_, hat, run_underlying hu w], tup, Moves.refl R⟩
 | slice i ver path t' off len cap =>
  simp only [mClear] at he
  simp only [VRel] at hx
  obtain ⟨a, c, rfl, hi, hv, hlen, hcap, hcn, hslc⟩ := hx
  split at he
  ·rename_i h0
   simp only [Option.some.injEq, Prod.mk.injEq] at he
   obtain ⟨rfl, rfl⟩ := he
   subst h0
   exact ⟨w, .tuple #[], by simp [Builtin.clear_, hat, run_underlying hu w], tup, Moves.refl R⟩
  ·rename_i h0
   split at he
   ·rename_i hbt
    have hte := Ty.beq_eq _ _ hbt
    subst hte
    obtain ⟨b, hbk, he⟩ := bnd_eq_some.1 he
    split at he
    ·cases he
    ·rename_i hmode
     obtain ⟨r, hg, he⟩ := bnd_eq_some.1 he
     obtain ⟨r', hsp, he⟩ := bnd_eq_some.1 he
     obtain ⟨v', hput, he⟩ := bnd_eq_some.1 he
     simp only [Option.some.injEq, Prod.mk.injEq] at he
     obtain ⟨rfl, rfl⟩ := he
     obtain ⟨hbi, hbv⟩ := blkAt_spec hbk
     have hver : ver = E.ver i := by rw [← hbv]; exact (R.at_ i b hbi).ver
     obtain ⟨o, q, hsub, ha, hrm⟩ := hslc hver
     obtain ⟨z, hz, hzr⟩ := run_zero_tt T hel w
     obtain ⟨z1, z2⟩ := zeroRow_spec (T.zero e el hel) (hzr E) len
     have hzl := VRl.len _ _ _ z1 z2
     simp only [Ty.size] at hzl
     obtain ⟨w', hr, hm⟩ := splice_ok (P := P) R hsub hbk hmode hg hsp hput z1 z2
     rw [← hzl, List.take_length] at hr
     refine ⟨w', .tuple #[], ?_, tup, hm⟩
     obtain ⟨len, rfl⟩ : ∃ m, len = m + 1 := ⟨len - 1, by omega⟩
     have hae := ha (by omega)
     subst hae
     simp [Builtin.clear_, hat, run_underlying hu w, hz, hr]
   ·cases he
 | _ => simp [mClear] at he
theorem bW_sound {b : Builtin} {ats : Array TypeId} {ty : TypeId} {consts : Array Bool} {as : List AV} {xs : List Value} (has : VRc E as xs) {K : AV × Heap → Prop} (he : bW C b ats as h K) :
  ∃ r E' w' y, (builtin b ats ty consts xs.toArray).run P w = .ok (.value y) w' ∧ K r ∧ VRel E' r.1 y ∧ Moves E h w E' r.2 w' := by
 have opt : ∀ {α : Type} {x : Option α} {f : α → (AV × Heap → Prop) → Prop}, optP x f K → ∃ i, x = some i ∧ f i K := by
  intro α x f hx
  cases x with
  | none => exact hx.elim
  | some i => exact ⟨i, rfl, hx⟩
 have wty : ∀ {t : Nat} {f : TI → (AV × Heap → Prop) → Prop}, withTyP C t f K → ∃ i, C.tt t = some i ∧ f i K := by
  intro t f hx
  unfold withTyP at hx
  split at hx
  ·exact ⟨_, by assumption, hx⟩
  ·cases hx
 have evs : ∀ {m : Option (AV × Heap)}, Evs m K → ∃ r, m = some r ∧ K r := fun h => h
 unfold bW at he
 split at he
 ·rename_i s x
  simp only [VRc] at has
  obtain ⟨sv, l, rfl, hs, xv, l, rfl, hx, rfl⟩ := has
  obtain ⟨t, ht, he⟩ := opt he
  obtain ⟨u, hu', he⟩ := opt he
  obtain ⟨i, hi, he⟩ := wty he
  obtain ⟨j, hj, he⟩ := wty he
  obtain ⟨e, hel, he⟩ := opt he
  obtain ⟨el, he1, he⟩ := wty he
  obtain ⟨hu, el', hel', hne⟩ := T.elem t i e hi hel
  rw [he1] at hel'; injection hel' with hel'; subst hel'
  unfold tyP at he
  split at he
  ·rename_i hjt
   obtain ⟨d, hd, _, _, hdi, _⟩ := T.cell u j hj hjt
   obtain ⟨r, E', w', y, h1, h2, h3, h4⟩ := appW_sound T ht hu' hu he1 (ty := ty) hne hd hdi R hs hx he
   exact ⟨r, E', w', y, by simp [builtin, h1], h2, h3, h4⟩
  ·rename_i k hjt
   obtain ⟨r, E', w', y, h1, h2, h3, h4⟩ := appZn_sound T ht hu' hu he1 (ty := ty) hne (T.int u j k hj hjt) R hs hx he
   exact ⟨r, E', w', y, by simp [builtin, h1], h2, h3, h4⟩
  ·cases he
 ·rename_i x
  simp only [VRc] at has
  obtain ⟨xv, l, rfl, hx, rfl⟩ := has
  obtain ⟨t, ht, he⟩ := opt he
  obtain ⟨i, hi, he⟩ := wty he
  obtain ⟨e, hel, he⟩ := opt he
  obtain ⟨hu, _⟩ := T.elem t i e hi hel
  obtain ⟨r, hr, hK⟩ := evs he
  obtain ⟨h1, h2⟩ := pureV_some (show pureV h (mCap x) = some (r.1, r.2) from hr)
  refine ⟨r, E, w, ?_⟩
  cases x with
  | nilslice =>
   have h3 := Option.some.inj h1
   simp only [VRel] at hx; subst hx
   exact ⟨goInt 0, by simp [builtin, Builtin.cap_, ht, run_underlying hu w], hK, by rw [← h3]; simp only [VRel]; rfl, by rw [h2]; exact Moves.refl R⟩
  | slice bi ver path t' off len cap =>
   cases cap with
   | none => simp [mCap] at h1
   | some c0 =>
    have h3 := Option.some.inj h1
    simp only [VRel] at hx
    obtain ⟨a, c, rfl, hi, hv, hlen, hcap, _⟩ := hx
    have := hcap c0 rfl
    subst this
    exact ⟨goInt c, by simp [builtin, Builtin.cap_, ht, run_underlying hu w], hK, by rw [← h3]; simp only [VRel]; rfl, by rw [h2]; exact Moves.refl R⟩
  | _ => simp [mCap] at h1
 ·rename_i x
  simp only [VRc] at has
  obtain ⟨xv, l, rfl, hx, rfl⟩ := has
  obtain ⟨t, ht, he⟩ := opt he
  obtain ⟨i, hi, he⟩ := wty he
  obtain ⟨e, hel, he⟩ := opt he
  obtain ⟨el, he1, he⟩ := wty he
  obtain ⟨hu, _⟩ := T.elem t i e hi hel
  obtain ⟨r, hr, hK⟩ := evs he
  obtain ⟨w', y, h1, h2, h3⟩ := clear_sound T R (ty := ty) ht hu he1 hx (show mClear el.ty el.zero x h = some (r.1, r.2) from hr)
  exact ⟨r, E, w', y, by simp [builtin, h1], hK, h2, h3⟩
 ·obtain ⟨r, hr, hK⟩ := evs he
  obtain ⟨E', w', y, h1, h2, h3⟩ := builtin_sound T R (ty := ty) (consts := consts) has (show evBuiltin C _ ats _ h = some (r.1, r.2) from hr)
  exact ⟨r, E', w', y, h1, hK, h2, h3⟩
end
end Go.Vab
