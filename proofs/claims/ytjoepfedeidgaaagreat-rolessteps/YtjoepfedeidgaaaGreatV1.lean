/-
  Every operation but a call.
-/
import Derived.Test.YtjoepfedeidgaaaGreatV0
import Derived.LoopN
import Derived.Orders
import Derived.KernelRfl
import Derived.ProofKit
import Derived.OpenShut
import Derived.Maps.Keyed
import Derived.Carry
import Derived.Laws.LoneSync
import Derived.Laws.Externs
set_option linter.all false
set_option linter.unusedSectionVars false
set_option maxHeartbeats 8000000
set_option maxRecDepth 20000
namespace Go.Vab
open Go
def C0Y (n:Next) (x:Value):Prop:=n=.value x∨(n=.skip∧x=Go.undef)
theorem F4d {P : Program} {tt : Nat → Option TI} (T : TTok P tt) {E : Gh} {h : A3} {w : World} (R : RelHeap E h w) {s d e : Nat} {el : TI} (hs : P.underlying s = some (.slice e)) (hd : P.underlying d = some .string) (hel : tt e = some el)
  (hk:el.ty=.int .u8) {x v:AV} {xv:Value} (hx:VRel E x xv) (he0:A1Y x h=some v) :
  ∃ y,(convert s d xv).run P w=.ok y w∧VRel E v y:=by
 have hns:∀ b,x≠.str b:=by rintro b rfl;simp [A1Y] at he0
 have he:(bnd (C7 (.int .u8) x h) fun r=>match r with | .ints _ xs=>some (AV.str ⟨(xs.map fun n=>UInt8.ofNat n.toNat).toArray⟩) | _ => none)=some v:=by
  cases x <;> first|exact he0|exact absurd rfl (hns _)
 obtain ⟨r,hr,he⟩:=bnd_eq_some.1 he
 obtain ⟨n,l,k1,k2,k3,k4,k5⟩:=A05 (P:=P) R hr hx
 obtain ⟨_,hlr⟩:True∧True:=⟨trivial,trivial⟩
 cases r with
 | ints k xs =>
  simp at he;subst he
  obtain ⟨hk8,hn⟩:=U3 k2
  injection hk8 with hk8
  subst hk8
  simp only [VRl] at k3;subst k3
  have hue:=T.int e el .u8 hel hk
  have conv:∀ a l c,(convert s d (.slice a l c)).run P w=(Conv.bytesToString (.slice a l c)).run P w:=fun a l c=>run_convert_bytes_string w s d e a l c hs hue hd
  have hfc:=k5 w rfl n (Nat.le_refl _)
  simp only [Ty.size,Nat.mul_one] at hfc
  rw [←hn,show xs.length=(xs.map (Value.int .u8)).length by simp,List.take_length] at hfc
  have fold:∀ (ns:List Int) (s:ByteArray),(ns.foldl (fun r n=>r.push (UInt8.ofNat n.toNat)) s).data.toList=s.data.toList++ns.map fun n=>UInt8.ofNat n.toNat:=by
   intro ns
   induction ns with
   | nil=>intro s;simp
   | cons n ns ih=>intro s;simp [ih]
  cases x with
  | nilslice =>
   simp only [VRel] at hx;subst hx
   simp [C7] at hr
   subst hr
   refine ⟨.string .empty,?_,?_⟩
   ·rw [conv];rfl
   ·simp only [VRel];rfl
  | slice i ver path t' off len cap =>
   simp only [VRel] at hx
   obtain ⟨a,c,rfl,_⟩:=hx
   have hln:len=n:=by
    simp only [Builtin.lenOf,Sem.run_pure] at k4
    injection k4
   refine ⟨.string (xs.foldl (fun r n=>r.push (UInt8.ofNat n.toNat)) ByteArray.empty),?_,?_⟩
   ·rw [conv,run_bytesToString w a len c xs]
    simpa [Builtin.firstCells,←hn,hln] using hfc
   ·simp only [VRel]
    congr 1
    have h1:=fold xs ByteArray.empty
    generalize List.foldl (fun r n=>ByteArray.push r (UInt8.ofNat n.toNat)) ByteArray.empty xs=z at *
    cases z with
    | mk zd =>
     congr 1
     apply Array.ext'
     simpa using h1
  | str b=>exact absurd rfl (hns b)
  | _ => simp [C7] at hr
 | _ => simp at he
theorem F4H {P : Program} {tt : Nat → Option TI} (T : TTok P tt) {E : Gh} {h : A3} {w : World} (R : RelHeap E h w) {t e : Nat} {el : TI} (hu : P.underlying t = some (.slice e)) (hel : tt e = some el) (hne : el.ty.size ≠ 0)
  {l c v:AV} {lv cv:Value} {h':A3} (hl:VRel E l lv) (hc:VRel E c cv) (he:D0J el.ty el.bytes el.zero l c h=some (v,h')) :
  ∃ E' w' y,(Instr.makeSlice t lv cv).run P w=.ok y w'∧VRel E' v y∧Moves E h w E' h' w':=by
 unfold D0J at he
 split at he
 ·rename_i k1 n k2 m
  split at he
  ·rename_i hcond
   obtain ⟨h0,hnm,hmb,hmr,hzt⟩:=hcond
   simp only [VRel] at hl hc;subst hl;subst hc
   obtain ⟨n,rfl⟩:=Int.eq_ofNat_of_zero_le h0
   obtain ⟨m,rfl⟩:=Int.eq_ofNat_of_zero_le (show 0≤m by omega)
   simp only [Int.toNat_natCast] at he
   obtain ⟨f,z,hf,hfs,hfb,hz,hzr⟩:=T.info e el hel
   have hzt:=T.zero e el hel
   have hzc:=VRel.cells hzt (hzr E)
   have hzl:=VRl.len _ _ _ hzt hzc
   rw [Array.length_toList] at hzl
   have hti:∀ w,(typeInfo e).run P w=.ok f w:=fun w=>by simp [typeInfo,hf]
   have hwm:IntKind.i64.wrap (m:Int)=m:=by
    unfold E0 at hmr
    unfold IntKind.wrap
    simp [IntKind.bits,IntKind.signed];omega
   have hwn:IntKind.i64.wrap (n:Int)=n:=by
    unfold E0 at hmr
    unfold IntKind.wrap
    simp [IntKind.bits,IntKind.signed];omega
   have hbytes:¬ ((f.bytes:Int) * (m:Int) > 2 ^ 48):=by
    rw [hfb]
    unfold E0 at hmb
    have:(m:Int) * (el.bytes:Int)=(el.bytes:Int) * (m:Int):=Int.mul_comm _ _
    omega
   -- the new cells
   have hrep : ∀ q : Nat, ∃ l, VRl E (match el.zero with | .int k z => .ints k (List.replicate q z) | z => .node (List.replicate q z)) l ∧ l.length = q * el.ty.size ∧
     A4 (match el.zero with | .int k z=>AV.ints k (List.replicate q z)|z=>.node (List.replicate q z)) (.arr q el.ty)=true∧l=((List.range (q * el.ty.size)).map fun x=>z.cells[x % z.cells.size]!):=by
    intro q
    have hflat:∀ q:Nat,(List.range (q * z.cells.size)).map (fun x=>z.cells[x % z.cells.size]!)=(List.replicate q z.cells.toList).flatten:=by
     intro q
     induction q with
     | zero=>simp
     | succ q ih =>
      rw [Nat.succ_mul,Nat.add_comm,List.range_add,List.map_append,List.replicate_succ,List.flatten_cons]
      congr 1
      ·apply List.ext_getElem?
       intro k
       by_cases hk:k < z.cells.size
       ·simp [hk,Nat.mod_eq_of_lt hk]
       ·simp [hk]
      ·rw [←ih,List.map_map]
       apply List.map_congr_left
       intro x _
       simp [Nat.add_mod_left]
    cases hzz:el.zero with
    | int k z0 =>
     have hk:el.ty=.int k:=by rw [hzz] at hzt;cases hx:el.ty <;> rw [hx] at hzt <;> simp [A4,AV.oneCell] at hzt;rw [hzt]
     have hzv:z=.int k z0:=by have:=hzr E;rw [hzz] at this;simpa only [VRel] using this
     refine ⟨(List.replicate q z0).map (Value.int k),by simp only [VRl],by simp [hk,Ty.size],by rw [hk];simp [A4],?_⟩
     rw [hk,hzv]
     simp [Ty.size,Value.cells,Nat.mod_one]
     rw [List.map_const'];simp
    | _ =>
     have hnode : ∀ (zz : AV), el.zero = zz → (∀ k n, zz ≠ .int k n) → ∃ l, VRl E (.node (List.replicate q zz)) l ∧ l.length = q * el.ty.size ∧ A4 (.node (List.replicate q zz)) (.arr q el.ty) = true ∧
       l=((List.range (q * el.ty.size)).map fun x=>z.cells[x % z.cells.size]!):=by
      intro zz hzz hni
      have hv:∀ q,VRs E (List.replicate q zz) ((List.replicate q z.cells.toList).flatten):=by
       intro q
       induction q with
       | zero=>simp [VRs]
       | succ q ih =>
        rw [List.replicate_succ,List.replicate_succ,List.flatten_cons]
        exact VRs.cons (by rw [←hzz];exact hzc) ih
      refine ⟨(List.replicate q z.cells.toList).flatten,by simp only [VRl];exact hv q,?_,?_,?_⟩
      ·simp [hzl]
      ·have hall : G7 (List.replicate q zz) el.ty = true := by
        rw [Q7];intro v hv
        rw [List.eq_of_mem_replicate hv,←hzz];exact hzt
       rw [hzz] at hzt
       cases hx:el.ty with
       | int k =>
        rw [hx] at hzt
        cases zz <;> simp [A4] at hzt
        exact absurd rfl (hni _ _)
       | _ => rw [hx] at hall;simp only [A4,Bool.and_eq_true,decide_eq_true_eq];exact ⟨by simp,hall⟩
      ·rw [←hzl];exact (hflat q).symm
     exact hnode _ hzz (by simp)
   obtain ⟨cl,c1,c2,c3,c4⟩:=hrep m
   have he1:=Option.some.inj he
   obtain ⟨e1,e2⟩:=Prod.mk.inj he1
   subst e1;subst e2
   refine ⟨E.push w.heap.size cl.length 0 true (.arr 0 el.ty),{ w with heap:=w.heap.push (.cells cl.toArray e (0,0)) },.slice (some ⟨w.heap.size,0,none⟩) n m,?_,?_,?_⟩
   ·have htl : (decide ((m : Int) < 0) || decide ((f.bytes : Int) * (m : Int) > 2 ^ 48)) = false := by
     rw [Bool.or_eq_false_iff];exact ⟨by simp,by simpa using hbytes⟩
    have hln:decide ((n:Int) < 0)=false:=by simp
    have hgt:decide ((n:Int) > (m:Int))=false:=by simp;omega
    simp only [Instr.makeSlice,Sem.run_bind,run_underlying hu w,Result.andThen_ok,asInt,asIntOf,Sem.run_pure,hti,hwm,hwn,htl,hln,hgt,Bool.or_self,Bool.false_eq_true,if_false,run_askRoom,Int.toNat_natCast,P7 T hel w]
    by_cases hz0:m * el.ty.size=0
    ·have hcl:cl=[]:=List.eq_nil_of_length_eq_zero (by rw [c2];exact hz0)
     subst hcl
     simp [hz0,newRow]
     congr 2
     apply Array.ext'
     simp
    ·have hzv:(zeroValue e).run P w=.ok z w:=by simp [zeroValue,hti,hz]
     simp only [hz0,if_false,Sem.run_bind,hzv,Result.andThen_ok,Sem.run_pure,newRow,run_newObj]
     have:(Array.range (m * el.ty.size)).map (fun x=>z.cells[x % z.cells.size]!)=cl.toArray:=by
      apply Array.ext'
      rw [c4];simp
     rw [this]
   ·simp only [VRel]
    refine ⟨_,m,rfl,by simp [Gh.push,R.n],by simp [Gh.push,R.n],by omega,fun x hx=>by simpa using hx,fun hx=>(by cases hx),fun _ => ⟨0,0,by simp [Gh.push,R.n,Ty.sub],fun _ => by simp [Gh.push,R.n],fun hx=>(by cases hx)⟩⟩
   ·exact A1i R ⟨_,0,.own⟩ cl.length true (.arr 0 el.ty) (by simp) (by simp only [if_true];exact ⟨m,_,rfl,c3⟩) (by simp) c1 (.inl ⟨cl.toArray,e,(0,0),[],rfl,by simp,by simp,by simp⟩) ⟨rfl,rfl,rfl⟩
  ·cases he
 ·cases he
end Go.Vab

namespace Go.Vab
open Go
section
variable {P:Program} {C:Ctx} (T:TTok P C.tt) {E:Gh} {h:A3} {w:World} (R:RelHeap E h w)
theorem K5 {α:Type} {t:Nat} {f:TI→Option α} {a:α} (h:withTy C t f=some a):∃ i,C.tt t=some i∧f i=some a:=by
 unfold withTy at h
 split at h
 ·exact ⟨_,by assumption,h⟩
 ·cases h
theorem N0 {h h':A3} {x:Option AV} {v:AV} (he:pureV h x=some (v,h')):x=some v∧h'=h:=by
 unfold pureV at he
 obtain ⟨a,h1,h2⟩:=bnd_eq_some.1 he
 simp at h2
 exact ⟨by rw [h1,h2.1],h2.2.symm⟩
theorem B6V {V:Operand→AV} {ev:Operand→Value} (hV:∀ x,VRel E (V x) (ev x)) (o:Option Operand):N7 E (o.map V) (o.map ev):=by
 cases o <;> simp [N7,hV]
theorem B6Q {V:Operand→AV} {ev:Operand→Value} (hV:∀ x,VRel E (V x) (ev x)):∀ (l:List (Nat × Operand)),A1B E (l.map fun p=>(p.1,V p.2)) (l.map fun p=>(p.1,ev p.2))
 | []=>trivial
 | (_,x)::l=>⟨rfl,hV x,B6Q hV l⟩
theorem F53 {P:Program} {w:World} {E:Gh} {op:UnOp} {x v:AV} {xv:Value} (hx:VRel E x xv) (he:mUn op x=some v):∃ y,(Op.unary op xv).run P w=.ok y w∧VRel E v y:=by
 cases op <;> cases x <;> simp [mUn] at he <;> subst he <;> simp only [VRel] at hx <;> subst hx <;> simp only [VRel] <;> refine ⟨_,?_,rfl⟩ <;> simp [Op.unary,Op.intArith,Op.intBits]
theorem A23 {V:Operand→AV} {ev:Operand→Value} (hV:∀ x,VRel E (V x) (ev x)):∀ (l:List Operand),VRc E (l.map V) (l.map ev)
 | []=>by simp [VRc]
 | x::l=>by simp only [List.map_cons,VRc];exact ⟨_,_,rfl,hV x,A23 hV l⟩
include T R
theorem D7A {b : Builtin} {ats : Array TypeId} {ty : TypeId} {consts : Array Bool} {as : List AV} {xs : List Value} (has : VRc E as xs) {v : AV} {h' : A3} (he : A0F C b ats as h = some (v, h')) :
  ∃ E' w' y,(builtin b ats ty consts xs.toArray).run P w=.ok (.value y) w'∧VRel E' v y∧Moves E h w E' h' w':=by
 unfold A0F at he
 split at he
 ·-- len
  rename_i x
  simp only [VRc] at has
  obtain ⟨xv,l,rfl,hx,rfl⟩:=has
  split at he
  ·rename_i t ht
   obtain ⟨i,hi,he⟩:=K5 he
   have main:∀ y,(Builtin.len_ ats ty #[xv]).run P w=.ok y w→VRel E v y→h'=h→∃ E' w' y,(builtin .len ats ty consts #[xv]).run P w=.ok (.value y) w'∧VRel E' v y∧Moves E h w E' h' w':=by
    intro y h1 h2 h3
    subst h3
    exact ⟨E,w,y,by simp [builtin,h1],h2,Moves.refl R⟩
   have hat:ats[0]?=some t:=ht
   split at he
   ·rename_i n u hty
    simp at he;obtain ⟨rfl,rfl⟩:=he
    obtain ⟨e,j,hu,_⟩:=T.arr t i n u hi hty
    exact main (goInt n) (by simp [Builtin.len_,hat,run_underlying hu w]) (by simp only [VRel];rfl) rfl
   ·split at he
    ·rename_i e hel
     obtain ⟨h1,rfl⟩:=N0 he
     obtain ⟨hu,_⟩:=T.elem t i e hi hel
     cases x <;> simp [L9] at h1
     ·subst h1
      simp only [VRel] at hx;subst hx
      exact main (goInt 0) (by simp [Builtin.len_,hat,run_underlying hu w]) (by simp only [VRel];rfl) rfl
     ·subst h1
      simp only [VRel] at hx
      obtain ⟨a,c,rfl,_⟩:=hx
      exact main _ (by simp [Builtin.len_,hat,run_underlying hu w];rfl) (by simp only [VRel];rfl) rfl
    ·split at he
     ·rename_i hstr
      obtain ⟨h1,rfl⟩:=N0 he
      have hu:=T.str t i hi hstr
      cases x <;> simp [B3a] at h1
      subst h1
      simp only [VRel] at hx;subst hx
      exact main _ (by simp [Builtin.len_,hat,run_underlying hu w];rfl) (by simp only [VRel];rfl) rfl
     ·cases he
  ·cases he
 ·-- append
  rename_i s x
  simp only [VRc] at has
  obtain ⟨sv,l,rfl,hs,xv,l,rfl,hx,rfl⟩:=has
  split at he
  ·rename_i t u ht hu'
   obtain ⟨i,hi,he⟩:=K5 he
   obtain ⟨j,hj,he⟩:=K5 he
   split at he
   ·rename_i e hel hjt
    obtain ⟨el,he1,he⟩:=K5 he
    obtain ⟨hu,el',hel',hne⟩:=T.elem t i e hi hel
    rw [he1] at hel';injection hel' with hel';subst hel'
    obtain ⟨d,hd,_,_,hdi,_⟩:=T.cell u j hj hjt
    obtain ⟨E',w',y,h1,h2,h3⟩:=F3s T R (ats:=ats) (ty:=ty) ht hu' hu he1 hne hd hdi hs hx he
    exact ⟨E',w',y,by simp [builtin,h1],h2,h3⟩
   ·cases he
  ·cases he
 ·-- copy
  rename_i d x
  simp only [VRc] at has
  obtain ⟨dv,l,rfl,hd,xv,l,rfl,hx,rfl⟩:=has
  split at he
  ·rename_i t ht
   obtain ⟨i,hi,he⟩:=K5 he
   split at he
   ·rename_i e hel
    obtain ⟨el,he1,he⟩:=K5 he
    obtain ⟨hu,_⟩:=T.elem t i e hi hel
    obtain ⟨w',y,h1,h2,h3⟩:=F4D T R (ats:=ats) (ty:=ty) ht hu he1 hd hx he
    exact ⟨E,w',y,by simp [builtin,h1],h2,h3⟩
   ·cases he
  ·cases he
 ·-- min
  rename_i x y
  obtain ⟨h1,rfl⟩:=N0 he
  unfold F2P at h1
  split at h1
  ·rename_i k a k' b
   simp only [VRc,VRel] at has
   obtain ⟨_,l,rfl,rfl,_,l,rfl,rfl,rfl⟩:=has
   split at h1
   ·rename_i hk;subst hk
    simp at h1;subst h1
    refine ⟨E,w,.int k (if b < a then b else a),?_,by simp only [VRel],Moves.refl R⟩
    simp [builtin,Builtin.min_,Builtin.min2]
   ·cases h1
  ·cases h1
 ·cases he
end
end Go.Vab

namespace Go.Vab
open Go
theorem F4I {P : Program} {C : Ctx} (T : TTok P C.tt) {E : Gh} {h : A3} {w : World} (R : RelHeap E h w) {quiet : Bool} {V : Operand → AV} {ev : Operand → Value} (hV : ∀ x, VRel E (V x) (ev x)) {o : Oper} {v : AV} {h' : A3}
  (he:E6 C quiet V h o.op=some (v,h')) (hnc:∀ c f,o.op=.call c→c.callee≠.value f) :
  ∃ E' w' n x,(execOp ev o).run P w=.ok n w'∧C0Y n x∧VRel E' v x∧Moves E h w E' h' w':=by
 have pure_ok:∀ y,h'=h→VRel E v y→(execOp ev o).run P w=.ok (.value y) w→∃ E' w' n x,(execOp ev o).run P w=.ok n w'∧C0Y n x∧VRel E' v x∧Moves E h w E' h' w':=by
  intro y h1 h2 h3
  subst h1
  exact ⟨E,w,_,y,h3,.inl rfl,h2,Moves.refl R⟩
 cases hop:o.op with
 | move x =>
  rw [hop] at he;simp [E6] at he;obtain ⟨rfl,rfl⟩:=he
  exact pure_ok _ rfl (hV x) (by simp [execOp,hop])
 | assign x =>
  rw [hop] at he;simp [E6] at he;obtain ⟨rfl,rfl⟩:=he
  exact pure_ok _ rfl (hV x) (by simp [execOp,hop])
 | pick c a b =>
  rw [hop] at he;simp only [E6] at he
  obtain ⟨hp1,hh⟩:=N0 he
  clear he
  subst hh
  unfold B3Z at hp1
  split at hp1
  ·rename_i t ht
   have hp2:=Option.some.inj hp1
   subst hp2
   have hc:=hV c
   rw [ht] at hc;simp only [VRel] at hc
   cases t
   ·exact pure_ok (ev b) rfl (by simpa using hV b) (by simp [execOp,hop,hc,asBool])
   ·exact pure_ok (ev a) rfl (by simpa using hV a) (by simp [execOp,hop,hc,asBool])
  ·cases hp1
 | alloc e =>
  rw [hop] at he;simp only [E6] at he
  obtain ⟨i,hi,he⟩:=K5 he
  obtain ⟨z,hz,hzr⟩:=A1f T hi w
  obtain ⟨E',w',a,h1,h2,h3⟩:=D7n (P:=P) R (t:=e) (hzr E) he
  exact ⟨E',w',_,_,by simp [execOp,hop,Instr.alloc,hz,h1],.inl rfl,h2,h3⟩
 | box e x =>
  rw [hop] at he;simp only [E6] at he
  obtain ⟨i,hi,he⟩:=K5 he
  obtain ⟨E',w',a,h1,h2,h3⟩:=D7n (P:=P) R (t:=e) (hV x) he
  exact ⟨E',w',_,_,by simp [execOp,hop,Instr.box,h1],.inl rfl,h2,h3⟩
 | build t parts =>
  rw [hop] at he;simp only [E6] at he
  obtain ⟨i,hi,he⟩:=K5 he
  obtain ⟨h1,hh⟩:=N0 he
  split at h1
  ·rename_i hagg
   obtain ⟨y,h2,h3⟩:=F30 T (w:=w) hi hagg (qs:=parts.map fun (i,x)=>(i,ev x)) (by rw [Array.toList_map];exact B6Q hV _) h1
   exact pure_ok y hh h3 (by simp only [execOp,hop];simp [h2])
  ·cases h1
 | buildSlice t len parts =>
  rw [hop] at he;simp only [E6] at he
  obtain ⟨i,hi,he⟩:=K5 he
  split at he
  ·rename_i e hel
   obtain ⟨el,he1,he⟩:=K5 he
   unfold P3 at he
   obtain ⟨r,hr,he⟩:=bnd_eq_some.1 he
   split at he
   ·rename_i hcond
    rw [Bool.and_eq_true,decide_eq_true_eq] at hcond
    obtain ⟨hrow,hsm⟩:=hcond
    obtain ⟨hu,_⟩:=T.elem t i e hi hel
    obtain ⟨z,hz,hzr⟩:=A1f T he1 w
    have hzt:=T.zero e el he1
    have hzc:=VRel.cells hzt (hzr E)
    have hzl:=VRl.len _ _ _ hzt hzc
    rw [Array.length_toList] at hzl
    -- the zero row's cells
    have hflat:∀ q:Nat,(List.range (q * z.cells.size)).map (fun x=>z.cells[x % z.cells.size]!)=(List.replicate q z.cells.toList).flatten:=by
     intro q
     induction q with
     | zero=>simp
     | succ q ih =>
      rw [Nat.succ_mul,Nat.add_comm,List.range_add,List.map_append,List.replicate_succ,List.flatten_cons]
      congr 1
      ·apply List.ext_getElem?
       intro k
       by_cases hk:k < z.cells.size
       ·simp [hk,Nat.mod_eq_of_lt hk]
       ·simp [hk]
      ·rw [←ih,List.map_map]
       apply List.map_congr_left
       intro x _
       simp [Nat.add_mod_left]
    have hrep:VRl E (K1 len el.zero) ((List.replicate len z.cells.toList).flatten):=by
     unfold K1
     split
     ·rename_i k z0 hzz
      have hzv:z=.int k z0:=by have:=hzr E;rw [hzz] at this;simpa only [VRel] using this
      simp only [VRl]
      rw [hzv];simp [Value.cells]
     ·simp only [VRl]
      have hv:∀ q,VRs E (List.replicate q el.zero) ((List.replicate q z.cells.toList).flatten):=by
       intro q
       induction q with
       | zero=>simp [VRs]
       | succ q ih =>
        rw [List.replicate_succ,List.replicate_succ,List.flatten_cons]
        exact VRs.cons hzc ih
      exact hv len
    have key:=A4d (E:=E) (t:=.arr len el.ty) (place:=fun k=>some (k * el.ty.size,el.ty.size)) (fun k o u' hs _ _ _ _ _ => by
     simp [Ty.sub] at hs
     obtain ⟨rfl,rfl⟩:=hs
     rfl) _ (parts.map fun (i,x)=>(i,ev x)).toList _ _ ((Array.range (len * el.ty.size)).map fun x=>z.cells[x % z.cells.size]!) hr hrow (by
      rw [Array.toList_map,Array.toList_range,←hzl,hflat len];exact hrep) (by rw [Array.toList_map];exact B6Q hV _)
    obtain ⟨cells,g1,g2,g3⟩:=key
    have he3:=Prod.mk.inj (Option.some.inj he)
    obtain ⟨e1,e2⟩:=he3
    subst e1;subst e2
    refine ⟨E.push w.heap.size cells.size 0 true (.arr 0 el.ty),{ w with heap:=w.heap.push (.cells cells e (0,0)) },.value (.slice (some ⟨w.heap.size,0,none⟩) len len),_,?_,.inl rfl,?_,?_⟩
    ·have hns:¬ (len * el.ty.size > 2 ^ 24):=by omega
     simp only [execOp,hop,Instr.buildSlice,Sem.run_bind,run_underlying hu w,Result.andThen_ok,P7 T he1 w,hns,if_false]
     by_cases hz0:len * el.ty.size=0
     ·have hcells : ∀ (zz : Array Value), ((Array.range (len * el.ty.size)).map fun x => zz[x % zz.size]!) = ((Array.range (len * el.ty.size)).map fun x => z.cells[x % z.cells.size]!) := by
       intro zz
       apply Array.ext'
       simp [hz0]
      rw [if_pos hz0]
      simp only [Sem.run_bind,Sem.run_pure,Result.andThen_ok]
      rw [hcells #[],g1]
      simp only [newRow,Sem.run_bind,run_newObj,Result.andThen_ok,Sem.run_pure]
     ·simp only [hz0,if_false,Sem.run_bind,hz,Result.andThen_ok,Sem.run_pure,g1,newRow,run_newObj]
    ·simp only [VRel]
     refine ⟨_,len,rfl,by simp [Gh.push,R.n],by simp [Gh.push,R.n],Nat.le_refl _,fun x hx=>by simpa using hx,fun hx=>(by cases hx),fun _ => ⟨0,0,by simp [Gh.push,R.n,Ty.sub],fun _ => by simp [Gh.push,R.n],fun hx=>(by cases hx)⟩⟩
    ·exact A1i R ⟨_,0,.own⟩ cells.size true (.arr 0 el.ty) (by simp) (by simp only [if_true];exact ⟨len,_,rfl,g2⟩) (by simp) g3 (.inl ⟨cells,e,(0,0),[],rfl,by simp,by simp,by simp⟩) ⟨rfl,rfl,rfl⟩
   ·cases he
  ·cases he
 | load t p =>
  rw [hop] at he;simp only [E6] at he
  obtain ⟨i,hi,he⟩:=K5 he
  obtain ⟨h1,hh⟩:=N0 he
  have hp:=hV p
  cases hpv:V p with
  | win b ver path t' off n =>
   rw [hpv] at h1 hp
   simp only [D6] at h1
   split at h1
   ·rename_i hbt
    obtain ⟨y,h2,h3⟩:=D8f T R hi hbt hp h1
    exact pure_ok y hh h3 (by simp [execOp,hop,h2])
   ·cases h1
  | _ =>
   rw [hpv] at h1 hp
   obtain ⟨y,h2,h3⟩:=D7V T R hi (by first|exact hp) h1 (by simp)
   exact pure_ok y hh h3 (by simp [execOp,hop,h2])
 | store t p x =>
  rw [hop] at he;simp only [E6] at he
  obtain ⟨i,hi,he⟩:=K5 he
  unfold stU at he
  obtain ⟨h1,hs,he⟩:=bnd_eq_some.1 he
  simp at he;obtain ⟨rfl,rfl⟩:=he
  obtain ⟨w',h2,h3⟩:=F3w T R hi (hV p) (hV x) hs
  exact ⟨E,w',.skip,Go.undef,by simp [execOp,hop,h2],.inr ⟨rfl,rfl⟩,by simp only [VRel],h3⟩
 | nilCheck x =>
  rw [hop] at he;simp only [E6] at he
  obtain ⟨h1,hh⟩:=N0 he
  have hx:=hV x
  cases hxv:V x <;> rw [hxv] at h1 hx <;> simp [A27] at h1
  ·subst h1
   have hx2:=hx
   simp only [VRel] at hx2
   obtain ⟨a,ha,_⟩:=hx2
   exact pure_ok (ev x) hh hx (by simp [execOp,hop,ha])
  ·subst h1
   have hx2:=hx
   simp only [VRel] at hx2
   obtain ⟨cs,ha,_⟩:=hx2
   exact pure_ok (ev x) hh hx (by simp [execOp,hop,ha])
 | binOp op t x y yt =>
  rw [hop] at he;simp only [E6] at he
  obtain ⟨i,hi,he⟩:=K5 he
  obtain ⟨h1,hh⟩:=N0 he
  have fin:(∃ z,((do eqGuard op t x y (ev x) (ev y);binOp op t (ev x) (ev y):Sem Value)).run P w=.ok z w∧VRel E v z)→∃ E' w' n x,(execOp ev o).run P w=.ok n w'∧C0Y n x∧VRel E' v x∧Moves E h w E' h' w':=by
   rintro ⟨z,h2,h3⟩
   refine pure_ok z hh h3 ?_
   simp only [execOp,hop]
   rw [Sem.run_bind,h2]
   rfl
  unfold A3z at h1
  split at h1
  ·rename_i n u hty;exact fin (E2K T hi (by rw [hty];rfl) (hV x) (hV y) (by rw [hty];exact h1))
  ·rename_i ts hty;exact fin (E2K T hi (by rw [hty];rfl) (hV x) (hV y) (by rw [hty];exact h1))
  ·exact fin (F7j (hV x) (hV y) h1)
  ·split at h1
   ·rename_i e hel;exact fin (F7l (T.elem t i e hi hel).1 (hV x) (hV y) h1)
   ·split at h1
    ·rename_i a hpt;exact fin (F7m (T.pt t i a hi hpt) (hV x) (hV y) h1)
    ·split at h1
     ·exact fin (F7k (hV x) (hV y) h1)
     ·split at h1
      ·rename_i hb;exact fin (F51 (T.bool t i hi hb) (hV x) (hV y) h1)
      ·cases h1
 | unOp op t x =>
  rw [hop] at he;simp only [E6] at he
  obtain ⟨h1,hh⟩:=N0 he
  obtain ⟨y,h2,h3⟩:=F53 (P:=P) (w:=w) (hV x) h1
  exact pure_ok y hh h3 (by simp [execOp,hop,h2])
 | convert s t x =>
  rw [hop] at he;simp only [E6] at he
  obtain ⟨i,hi,he⟩:=K5 he
  obtain ⟨j,hj,he⟩:=K5 he
  split at he
  ·rename_i k hk
   obtain ⟨h1,hh⟩:=N0 he
   have hu:=T.int t i k hi (T.kind t i k hi hk)
   obtain ⟨d,hd,_⟩:=T.und hj
   cases hxv:V x <;> rw [hxv] at h1 <;> simp [v9] at h1
   rename_i k' n
   subst h1
   have hx:=hV x
   rw [hxv] at hx;simp only [VRel] at hx
   refine pure_ok (.int k (k.wrap n)) hh (by simp only [VRel]) ?_
   simp [execOp,hop,convert,run_underlying hd w,run_underlying hu w,hx,Conv.intToInt]
  ·split at he
   ·rename_i e hstr hel
    obtain ⟨el,he1,he⟩:=K5 he
    split at he
    ·rename_i hk8
     obtain ⟨h1,hh⟩:=N0 he
     obtain ⟨y,h2,h3⟩:=F4d T R (T.elem s j e hj hel).1 (T.str t i hi hstr) he1 (T.kind e el .u8 he1 hk8) (hV x) h1
     exact pure_ok y hh h3 (by simp [execOp,hop,h2])
    ·cases he
   ·cases he
 | sliceToArrayPointer t x =>
  rw [hop] at he;simp only [E6] at he
  obtain ⟨i,hi,he⟩:=K5 he
  split at he
  ·rename_i n u hty
   obtain ⟨h1,hh⟩:=N0 he
   obtain ⟨e,j,hu,_⟩:=T.arr t i n u hi hty
   have hx:=hV x
   cases hxv:V x <;> rw [hxv] at h1 hx <;> simp [D8e] at h1
   rename_i b ver path t' off len cap
   obtain ⟨⟨⟨hb,hle⟩,h0⟩,rfl⟩:=h1
   have hte:=Ty.beq_eq _ _ hb
   subst hte
   simp only [VRel] at hx
   obtain ⟨a,c,ha,g1,g2,g3,g4,g5,g6⟩:=hx
   refine pure_ok (.pointer (some a)) hh ?_ ?_
   ·simp only [VRel]
    refine ⟨a,rfl,g1,g2,fun hv=>?_⟩
    obtain ⟨o,q,s1,s2,_⟩:=g6 hv
    exact ⟨o,q,s1,s2 (by omega)⟩
   ·have hnl:¬ len < n:=by omega
    simp [execOp,hop,Instr.arrayAt,run_underlying hu w,ha,hnl]
  ·cases he
 | makeFunc fn first caps =>
  rw [hop] at he;simp only [E6] at he
  cases fn with
  | func f =>
   simp only at he
   split at he
   ·rename_i hf
    simp at he;obtain ⟨rfl,rfl⟩:=he
    have hfirst:first=#[]:=Array.eq_empty_of_size_eq_zero hf
    subst hfirst
    refine pure_ok (.func (.func f) #[] (caps.map ev)) rfl ?_ (by simp only [execOp,hop,Instr.makeFunc,Sem.run_bind,Sem.run_pure,Result.andThen_ok,Array.map_empty])
    simp only [VRel]
    exact ⟨caps.toList.map ev,by congr 1;apply Array.ext';simp,A23 hV _⟩
   ·cases he
  | _ => simp at he
 | makeSlice t l c =>
  rw [hop] at he;simp only [E6] at he
  obtain ⟨i,hi,he⟩:=K5 he
  split at he
  ·rename_i e hel
   obtain ⟨el,he1,he⟩:=K5 he
   obtain ⟨hu,j,hj,hne⟩:=T.elem t i e hi hel
   rw [he1] at hj;injection hj with hj;subst hj
   obtain ⟨E',w',y,h1,h2,h3⟩:=F4H T R hu he1 hne (hV l) (hV c) he
   exact ⟨E',w',_,y,by simp [execOp,hop,h1],.inl rfl,h2,h3⟩
  ·cases he
 | slice t x lo hi mx =>
  rw [hop] at he;simp only [E6] at he
  split at he
  ·cases he
  ·rename_i hsome
   obtain ⟨i,hi',he⟩:=K5 he
   have hsome':¬ ((mx.map V).isSome=true∧(hi.map V).isNone=true):=by simpa using hsome
   have hlo:=B6V hV lo
   have hhi:=B6V hV hi
   have hmx:=B6V hV mx
   split at he
   ·rename_i n u hty
    obtain ⟨h1,hh⟩:=N0 he
    obtain ⟨e,j,hu,hej,hju⟩:=T.arr t i n u hi' hty
    obtain ⟨a,l,q,m,r1,r2,r3⟩:=D7E T (w:=w) hlo hhi hmx hsome' rfl hej hju (hV x) h1
    refine pure_ok _ hh r3 ?_
    simp [execOp,hop,Instr.sliceAt,run_underlying hu w,r2,Instr.sureAddr,r1,P7 T hej w]
   ·split at he
    ·rename_i e hel
     obtain ⟨el,he1,he⟩:=K5 he
     obtain ⟨h1,hh⟩:=N0 he
     obtain ⟨y,h2,h3⟩:=F3t T (w:=w) hlo hhi hmx hsome' he1 (T.elem t i e hi' hel).1 (hV x) h1
     exact pure_ok y hh h3 (by simp [execOp,hop,h2])
    ·split at he
     ·rename_i a hpt
      obtain ⟨j,hj,he⟩:=K5 he
      obtain ⟨h1,hh⟩:=N0 he
      have hu:=T.pt t i a hi' hpt
      cases hjt:j.ty with
      | arr n u =>
       obtain ⟨e,k,hua,hek,hku⟩:=T.arr a j n u hj hjt
       rw [hjt] at h1
       obtain ⟨a',l,q,m,r1,r2,r3⟩:=D7E T (w:=w) hlo hhi hmx hsome' rfl hek hku (hV x) h1
       refine pure_ok _ hh r3 ?_
       simp [execOp,hop,Instr.sliceAt,Instr.slice,run_underlying hu w,run_underlying hua w,r2,asAddr,r1,P7 T hek w]
      | _ => rw [hjt] at h1;cases hxv:V x <;> rw [hxv] at h1 <;> simp [A1J] at h1
     ·cases hstr:i.str with
      | false=>rw [hstr] at he;simp at he
      | true =>
       rw [hstr] at he
       cases mx with
       | some _ => simp at he
       | none =>
       simp only at he
       obtain ⟨h1,hh⟩:=N0 he
       have hu:=T.str t i hi' hstr
       have hx:=hV x
       cases hxv:V x <;> rw [hxv] at h1 hx <;> simp only [D9Q] at h1 <;> try (cases h1;done)
       rename_i s
       obtain ⟨q,hq,h1⟩:=bnd_eq_some.1 h1
       obtain ⟨l,hl,h1⟩:=bnd_eq_some.1 h1
       simp at h1;subst h1
       simp only [VRel] at hx
       obtain ⟨r1,_⟩:=A1j (P:=P) (w:=w) (isS:=false) (len:=s.size) (m:=s.size) hlo hhi (mx:=none) (mx':=none) trivial (by simp) (Nat.le_refl s.size) rfl (by simpa using hq) hl
       refine pure_ok (.string (s.extract l q)) hh (by simp only [VRel]) ?_
       simp [execOp,hop,Instr.sliceAt,Instr.slice,run_underlying hu w,hx,r1]
 | fieldAddr s x f =>
  rw [hop] at he;simp only [E6] at he
  obtain ⟨i,hi,he⟩:=K5 he
  obtain ⟨h1,hh⟩:=N0 he
  obtain ⟨y,h2,h3⟩:=F3l T (w:=w) hi (hV x) h1
  exact pure_ok y hh h3 (by simp [execOp,hop,h2])
 | field s x f =>
  rw [hop] at he;simp only [E6] at he
  obtain ⟨i,hi,he⟩:=K5 he
  obtain ⟨h1,hh⟩:=N0 he
  obtain ⟨y,h2,h3⟩:=F3z T (w:=w) hi (hV x) h1
  exact pure_ok y hh h3 (by simp [execOp,hop,h2])
 | indexAddr t x ix =>
  rw [hop] at he;simp only [E6] at he
  obtain ⟨i,hi,he⟩:=K5 he
  split at he
  ·rename_i n u hty
   obtain ⟨h1,hh⟩:=N0 he
   obtain ⟨y,h2,h3⟩:=F4E T (w:=w) hi hty (hV x) (hV ix) h1
   exact pure_ok y hh h3 (by simp [execOp,hop,h2])
  ·split at he
   ·rename_i e hel
    obtain ⟨el,he1,he⟩:=K5 he
    obtain ⟨h1,hh⟩:=N0 he
    obtain ⟨y,h2,h3⟩:=F4F T (w:=w) he1 (T.elem t i e hi hel).1 (hV x) (hV ix) h1
    exact pure_ok y hh h3 (by simp [execOp,hop,h2])
   ·cases he
 | index t x ix =>
  rw [hop] at he;simp only [E6] at he
  obtain ⟨i,hi,he⟩:=K5 he
  split at he
  ·rename_i n u hty
   obtain ⟨h1,hh⟩:=N0 he
   obtain ⟨y,h2,h3⟩:=F3u T (w:=w) hi hty (hV x) (hV ix) h1
   exact pure_ok y hh h3 (by simp [execOp,hop,h2])
  ·split at he
   ·rename_i hstr
    obtain ⟨h1,hh⟩:=N0 he
    have hu:=T.str t i hi hstr
    unfold A5R at h1
    obtain ⟨k,hk,h1⟩:=bnd_eq_some.1 h1
    obtain ⟨kk,hix⟩:=A25 (hV ix) hk
    have hx:=hV x
    cases hxv:V x <;> rw [hxv] at h1 hx <;> simp only at h1 <;> try (cases h1;done)
    rename_i s
    simp only [VRel] at hx
    split at h1
    ·rename_i c hc
     simp at h1;subst h1
     refine pure_ok (.int .u8 c.toNat) hh (by simp only [VRel]) ?_
     have hsk:s[k]?=some c:=by
      rw [List.getElem?_eq_some_iff] at hc
      obtain ⟨hlt,hcc⟩:=hc
      have hlt':k < s.size:=by simpa using hlt
      rw [getElem?_pos s k hlt']
      congr 1
     simp [execOp,hop,Instr.index,hix,asIntOf,run_underlying hu w,hx,hsk]
    ·cases h1
   ·cases he
 | extract x ix =>
  rw [hop] at he;simp only [E6] at he
  obtain ⟨h1,hh⟩:=N0 he
  have hx:=hV x
  cases hxv:V x <;> rw [hxv] at h1 hx <;> simp [m9] at h1
  rename_i vs
  simp only [VRel] at hx
  obtain ⟨xs,hxs,hr⟩:=hx
  have get:∀ (vs:List AV) (xs:List Value) (k:Nat),VRc E vs xs→vs[k]?=some v→∃ y,xs[k]?=some y∧VRel E v y:=by
   intro vs
   induction vs with
   | nil=>intro xs k _ hk;simp at hk
   | cons a vs ih =>
    intro xs k hr hk
    simp only [VRc] at hr
    obtain ⟨y,ys,rfl,h2,h3⟩:=hr
    cases k with
    | zero=>simp at hk;subst hk;exact ⟨y,rfl,h2⟩
    | succ k=>simpa using ih ys k h3 (by simpa using hk)
  obtain ⟨y,h2,h3⟩:=get vs xs ix hr h1
  exact pure_ok y hh h3 (by simp [execOp,hop,Instr.extract,hxs,h2])
 | call c =>
  rw [hop] at he;simp only [E6] at he
  cases hc:c.callee with
  | value f=>exact absurd hc (hnc c f hop)
  | builtin b =>
   rw [hc] at he
   obtain ⟨E',w',y,h1,h2,h3⟩:=D7A T R (ty:=o.type) (consts:=c.args.map fun | .const _ => true | _ => false) (A23 hV _) he
   refine ⟨E',w',_,y,?_,.inl rfl,h2,h3⟩
   simp only [execOp,hop,resolve,hc,Sem.run_bind,Sem.run_pure,Result.andThen_ok,invoke]
   have e:(c.args.toList.map ev).toArray=c.args.map ev:=by apply Array.ext';simp
   rw [e] at h1
   exact h1
  | invoke r m=>rw [hc] at he;cases he
 | _ => rw [hop] at he;simp [E6] at he
end Go.Vab

namespace Go.Vab
open Go
def G0d (P:Program) (f:Nat) (args:List AV) (h:A3) (v:AV) (h':A3):Prop :=
 ∀ (E:Gh) (w:World) (xs:List Value),RelHeap E h w→VRc E args xs →
  Calls P f xs.toArray w fun e w'=>∃ E' x,e=.returned x∧VRel E' v x∧Moves E h w E' h' w'
def F54 (P : Program) (f : Nat) : Prop := ∃ fn, P.funcs[f]? = some fn ∧ (fn.name == "runtime.NumGoroutine") = false ∧ fn.body.isNone = false
def F8n (P:Program) (call:B7N):Prop:=∀ f args h v h',call f args h=some (v,h')→G0d P f args h v h'∧F54 P f
def EnvR (E:Gh) (env:Env) (a:Act):Prop:=∀ t,VRel E (env.get t) (a.tmps.getD t Go.undef)
def LocR (E:Gh) (loc env:Env) (a:Act):Prop:=∀ t,VRel E (F6 loc env t) (a.tmps.getD t Go.undef)
def Y1 (vol:List Nat) (env:Env):Prop:=∀ t,vol.contains t=true→env.get t=.junk
theorem B7O:∀ (env:Env) (t:Nat) (v:AV) (s:Nat),(env.put t v).get s=if s=t then v else env.get s
 | [],t,v,s=>by simp [Env.put,Env.get]
 | (k,w)::r,t,v,s=>by
  simp only [Env.put]
  split
  ·rename_i h;subst h
   simp only [Env.get];split <;> rfl
  ·rename_i h
   simp only [Env.get,B7O r t v s]
   by_cases h1:s=k
   ·subst h1;rw [if_pos rfl,if_neg (fun e=>h e.symm),if_pos rfl]
   ·simp [h1]
theorem A1x (env:Env) (t:Nat):F6 [] env t=env.get t:=rfl
theorem B6b (d:Nat) (v:AV) (loc env:Env) (t:Nat):F6 ((d,v)::loc) env t=if t=d then v else F6 loc env t:=by
 unfold F6
 simp only [Env.has,Env.get]
 by_cases h:t=d <;> simp [h]
theorem A1k (vol:List Nat):∀ (loc env:Env) (t:Nat),(commit vol loc env).get t=if vol.contains t=true then env.get t else F6 loc env t
 | [],env,t=>by simp [commit,A1x]
 | (d,v)::loc,env,t=>by
  simp only [commit,B6b]
  split
  ·rename_i hd
   rw [A1k vol loc env t]
   by_cases ht:vol.contains t=true
   ·rw [if_pos ht,if_pos ht]
   ·rw [if_neg ht,if_neg ht]
    by_cases e:t=d
    ·subst e;exact absurd hd ht
    ·rw [if_neg e]
  ·rename_i hd
   rw [B7O,A1k vol loc env t]
   by_cases e:t=d
   ·subst e;rw [if_pos rfl,if_neg hd,if_pos rfl]
   ·rw [if_neg e,if_neg e]
theorem EnvR.commit {vol:List Nat} {E:Gh} {loc env:Env} {a:Act} (h:LocR E loc env a) (hv:Y1 vol env):EnvR E (commit vol loc env) a∧Y1 vol (commit vol loc env):=by
 constructor
 ·intro t
  rw [A1k]
  split
  ·rename_i ht;rw [hv t ht];simp only [VRel]
  ·exact h t
 ·intro t ht
  rw [A1k,if_pos ht];exact hv t ht
theorem D8g {E:Gh} {σ:Nat→AV} {a:Act} (h:∀ t,VRel E (σ t) (a.tmps.getD t Go.undef)) (x:Operand):VRel E (U0 σ x) (a.eval x):=by
 cases x with
 | tmp t=>exact h t
 | const v =>
  simp only [U0,Act.eval]
  unfold A5S
  split <;> simp only [VRel]
 | func f=>simp only [U0,Act.eval,VRel];exact ⟨[],rfl,by simp only [VRc]⟩
 | global g=>simp only [U0,VRel]
theorem F7n {E:Gh} {loc env:Env} {a:Act} (h:LocR E loc env a) (x:Operand):VRel E (opv loc env x) (a.eval x):=D8g h x
theorem LocR.put {E E':Gh} {loc env:Env} {a:Act} (h:LocR E loc env a) (hx:Ext E E') {d:Nat} {v:AV} {x:Value} (hv:VRel E' v x) (hd:d < a.tmps.size):LocR E' ((d,v)::loc) env (a.put (some d) x):=by
 intro t
 rw [B6b]
 simp only [Act.put]
 by_cases e:t=d
 ·subst e
  rw [if_pos rfl]
  simpa [Array.getD,hd] using hv
 ·rw [if_neg e]
  have:=VRel.mono hx _ _ (h t)
  have e2:(a.tmps.setIfInBounds d x).getD t Go.undef=a.tmps.getD t Go.undef:=by
   simp only [Array.getD_eq_getD_getElem?]
   rw [Array.getElem?_setIfInBounds_ne (fun q=>e q.symm)]
  rw [e2];exact this
theorem LocR.ext {E E':Gh} {loc env:Env} {a:Act} (h:LocR E loc env a) (hx:Ext E E'):LocR E' loc env a:=fun t=>VRel.mono hx _ _ (h t)
theorem VRc.map {E:Gh} {V:Operand→AV} {ev:Operand→Value} (hV:∀ x,VRel E (V x) (ev x)) (l:List Operand):VRc E (l.map V) (l.map ev):=A23 hV l
theorem VRc.app {E:Gh}:∀ (as bs:List AV) (xs ys:List Value),VRc E as xs→VRc E bs ys→VRc E (as++bs) (xs++ys)
 | [],bs,xs,ys,h,h'=>by simp only [VRc] at h;subst h;simpa using h'
 | a::as,bs,xs,ys,h,h'=>by
  simp only [VRc] at h
  obtain ⟨y,l,rfl,h1,h2⟩:=h
  simp only [List.cons_append,VRc]
  exact ⟨y,l++ys,rfl,h1,VRc.app as bs l ys h2 h'⟩
section
variable {P:Program} {C:Ctx} (T:TTok P C.tt) (hcall:F8n P C.call) {E:Gh} {h:A3} {w:World} (R:RelHeap E h w)
include T hcall R
omit T in
end
theorem Act.put_size (a:Act) (d:Option Tmp) (v:Value):(a.put d v).tmps.size=a.tmps.size:=by cases d <;> simp [Act.put]
theorem Act.put_defers (a:Act) (d:Option Tmp) (v:Value):(a.put d v).defers=a.defers:=by cases d <;> rfl
end Go.Vab

namespace Go.Vab
open Go
end Go.Vab

namespace Go.Vab
open Go
theorem A4e {C:Ctx} {q:Bool} {V V':Operand→AV} {h:A3} (op:Op) (hV:∀ x∈op.operands.toList,V x=V' x):E6 C q V h op=E6 C q V' h op:=by
 cases op <;> simp only [E6] <;> simp only [Op.operands] at hV
 case move x=>rw [hV x (by simp)]
 case assign x=>rw [hV x (by simp)]
 case pick c a b=>rw [hV c (by simp),hV a (by simp),hV b (by simp)]
 case box e x=>rw [hV x (by simp)]
 case build t ps =>
  have:(ps.toList.map fun p=>(p.1,V p.2))=ps.toList.map fun p=>(p.1,V' p.2):=List.map_congr_left fun p hp=>by rw [hV p.2 (by simp;exact ⟨_,by simpa using hp⟩)]
  rw [this]
 case buildSlice t l ps =>
  have:(ps.toList.map fun p=>(p.1,V p.2))=ps.toList.map fun p=>(p.1,V' p.2):=List.map_congr_left fun p hp=>by rw [hV p.2 (by simp;exact ⟨_,by simpa using hp⟩)]
  rw [this]
 case load t p=>rw [hV p (by simp)]
 case store t p x=>rw [hV p (by simp),hV x (by simp)]
 case nilCheck x=>rw [hV x (by simp)]
 case binOp op t x y u=>rw [hV x (by simp),hV y (by simp)]
 case unOp op t x=>rw [hV x (by simp)]
 case convert s t x=>rw [hV x (by simp)]
 case sliceToArrayPointer t x=>rw [hV x (by simp)]
 case makeFunc f first caps =>
  cases f <;> simp only
  split
  ·congr 3
   exact List.map_congr_left fun x hx=>hV x (by simp;exact .inr (by simpa using hx))
  ·rfl
 case makeSlice t l c=>rw [hV l (by simp),hV c (by simp)]
 case slice t x lo hi mx =>
  have h1:lo.map V=lo.map V':=by
   cases lo with
   | none=>rfl
   | some y=>simp only [Option.map_some];rw [hV y (by simp)]
  have h2:hi.map V=hi.map V':=by
   cases hi with
   | none=>rfl
   | some y=>simp only [Option.map_some];rw [hV y (by simp)]
  have h3:mx.map V=mx.map V':=by
   cases mx with
   | none=>rfl
   | some y=>simp only [Option.map_some];rw [hV y (by simp)]
  rw [h1,h2,h3,hV x (by simp)]
 case fieldAddr s x f=>rw [hV x (by simp)]
 case field s x f=>rw [hV x (by simp)]
 case indexAddr t x i=>rw [hV x (by simp),hV i (by simp)]
 case index t x i=>rw [hV x (by simp),hV i (by simp)]
 case extract x i=>rw [hV x (by simp)]
 case call c =>
  have h1:c.args.toList.map V=c.args.toList.map V':=List.map_congr_left fun x hx=>hV x (by simp only [Call.operands];split <;> simp <;> simp at hx <;> simp [hx])
  cases hc:c.callee <;> simp only [h1]
  rename_i f
  rw [hV f (by simp [Call.operands,hc])]
theorem F4J {x:Option AV} {h h':A3} {v:AV} (he:pureV h x=some (v,h')):h'=h∧∀ g:A3,pureV g x=some (v,g):=by
 unfold pureV at he ⊢
 obtain ⟨y,rfl,h2⟩:=bnd_eq_some.1 he
 simp at h2
 obtain ⟨rfl,rfl⟩:=h2
 exact ⟨rfl,fun g=>rfl⟩
theorem F4e {α:Type} {C:Ctx} {t:Nat} {f:TI→Option α} {i:TI} (h:C.tt t=some i):withTy C t f=f i:=by
 unfold withTy;rw [h]
theorem L6 {h:A3} {i ver:Nat} {b:Blk} (e:blkAt h i ver=some b) (t:A3):blkAt (h++t) i ver=some b:=by
 unfold blkAt at e ⊢
 cases hb:h[i]? with
 | none=>rw [hb] at e;cases e
 | some c =>
  rw [hb] at e
  have:(h++t)[i]?=some c:=by
   rw [List.getElem?_append_left (List.getElem?_eq_some_iff.1 hb).1];exact hb
  rw [this];exact e
theorem D7X {t:Ty} {p v:AV} {h:A3} (e:C7 t p h=some v) (g:A3):C7 t p (h++g)=some v:=by
 unfold C7 at e ⊢
 split
 ·exact e
 ·simp only at e
  split at e
  ·rename_i hb
   rw [if_pos hb]
   obtain ⟨b,h1,h2⟩:=bnd_eq_some.1 e
   rw [L6 h1 g];exact h2
  ·cases e
 ·exact e
 ·simp only at e;cases e
def Uni (m:A3→Option (AV × A3)):Prop:=∀ h v h',m h=some (v,h')→h'=h∧∀ g,m g=some (v,g)
theorem Uni.none:Uni fun _ => none:=fun _ _ _ h=>by cases h
theorem Uni.some (x:AV):Uni fun h=>some (x,h):=fun h v h' he=>by simp at he;obtain ⟨rfl,rfl⟩:=he;exact ⟨rfl,fun _ => rfl⟩
theorem Uni.pureV (x:Option AV):Uni fun h=>pureV h x:=fun _ _ _ he=>F4J he
theorem Uni.withTy {C:Ctx} {t:Nat} {m:TI→A3→Option (AV × A3)} (hm:∀ i,Uni (m i)):Uni fun h=>withTy C t fun i=>m i h:=fun h v h' he=>by
 obtain ⟨i,hi,he⟩:=K5 he
 simp only [F4e hi]
 exact hm i h v h' he
theorem F4f {C:Ctx} {q k:Bool} {V:Operand→AV} (op:Op) (hk:Y3 k op=.pure):Uni fun h=>E6 C q V h op:=by
 cases op <;> simp only [Y3] at hk <;> simp only [E6]
 all_goals try (cases hk;done)
 all_goals try (exact Uni.none)
 all_goals try (exact Uni.some _)
 all_goals try (exact Uni.pureV _)
 all_goals try (exact Uni.withTy fun i=>Uni.pureV _)
 case sliceToArrayPointer t x =>
  refine Uni.withTy fun i=>?_
  cases i.ty <;> first|exact Uni.none|exact Uni.pureV _
 case makeFunc f first caps =>
  cases f <;> simp only
  ·split
   ·exact Uni.some _
   ·exact Uni.none
  all_goals exact Uni.none
 case slice t x lo hi mx =>
  split
  ·exact Uni.none
  refine Uni.withTy fun i=>?_
  cases i.ty <;> simp only
  case arr=>exact Uni.pureV _
  all_goals
   cases i.elem <;> simp only
   ·cases i.pt <;> simp only
    ·cases i.str <;> cases mx <;> first|exact Uni.none|exact Uni.pureV _
    ·exact Uni.withTy fun i=>Uni.pureV _
   ·exact Uni.withTy fun i=>Uni.pureV _
 case indexAddr t x i =>
  refine Uni.withTy fun i=>?_
  cases i.ty <;> simp only
  case arr=>exact Uni.pureV _
  all_goals
   cases i.elem <;> simp only
   ·exact Uni.none
   ·exact Uni.withTy fun i=>Uni.pureV _
 case index t x i =>
  refine Uni.withTy fun i=>?_
  cases i.ty <;> simp only
  case arr=>exact Uni.pureV _
  all_goals
   split
   ·exact Uni.pureV _
   ·exact Uni.none
 case call c =>
  revert hk
  cases c.callee <;> (try simp only) <;> intro hk
  case value=>cases k <;> simp at hk
  case invoke=>exact Uni.none
  case builtin b =>
   generalize c.args.toList.map V=as
   cases b <;> simp only at hk <;> try (cases hk;done)
   case len =>
    unfold A0F
    match as with
    | []=>exact Uni.none
    | [x] =>
     simp only
     cases c.argTypes[0]? <;> simp only
     ·exact Uni.none
     ·refine Uni.withTy fun i=>?_
      cases i.ty <;> simp only
      case arr=>exact Uni.some _
      all_goals
       cases i.elem <;> simp only
       ·split
        ·exact Uni.pureV _
        ·exact Uni.none
       ·exact Uni.pureV _
    | _ :: _ :: _ => exact Uni.none
   case min =>
    unfold A0F
    match as with
    | []=>exact Uni.none
    | [x]=>exact Uni.none
    | [x,y]=>exact Uni.pureV _
    | _ :: _ :: _ :: _ => exact Uni.none
theorem F4K {σ τ:Nat→AV} {x:Operand} (h:∀ t,x=.tmp t→σ t=τ t):U0 σ x=U0 τ x:=by
 cases x with
 | tmp t=>exact h t rfl
 | _ => rfl
section
variable {C:Ctx} {q:Bool} {ops:List Oper} {o:Oper} {σ:Nat→AV} {h h':A3} {v:AV}
end
def A0A (σ:Nat→AV) (d:Option Nat) (v:AV):Nat→AV:=match d with
 | some d=>A2s σ d v
 | none=>σ
end Go.Vab

namespace Go.Vab
open Go
def V7 (n:Nat) (listed:Array Bool):List Nat:=(List.range n).filter fun i => !listed.getD i true
theorem D7r {n:Nat} {listed:Array Bool} (hs:listed.size=n) {i:Nat}:i∈V7 n listed↔i < n∧listed.getD i false=false:=by
 unfold V7
 rw [List.mem_filter,List.mem_range]
 constructor
 ·rintro ⟨h1,h2⟩
  refine ⟨h1,?_⟩
  have:i < listed.size:=by omega
  simpa [Array.getD,this] using h2
 ·rintro ⟨h1,h2⟩
  refine ⟨h1,?_⟩
  have:i < listed.size:=by omega
  simpa [Array.getD,this] using h2
theorem n0 {listed:Array Bool} {i k:Nat} (hi:i < listed.size):(listed.setIfInBounds i true).getD k false=if k=i then true else listed.getD k false:=by
 simp only [Array.getD_eq_getD_getElem?]
 by_cases h:k=i
 ·subst h;simp [hi]
 ·rw [Array.getElem?_setIfInBounds_ne (fun q=>h q.symm),if_neg h]
theorem F4g {n:Nat} {listed:Array Bool} (hs:listed.size=n) {i:Nat} (hi:i < n) {pre post:List Nat} (h:V7 n listed=pre++i::post):V7 n (listed.setIfInBounds i true)=pre++post:=by
 have e:V7 n (listed.setIfInBounds i true)=(V7 n listed).filter fun k=>decide (k≠i):=by
  unfold V7
  rw [List.filter_filter]
  apply List.filter_congr
  intro k hk
  have hk':=List.mem_range.1 hk
  simp only [Array.getD_eq_getD_getElem?]
  by_cases h:k=i
  ·subst h;simp [hs,hi]
  ·rw [Array.getElem?_setIfInBounds_ne (fun q=>h q.symm)];simp [h]
 have nd:(V7 n listed).Nodup:=List.nodup_range.filter _
 rw [e,h]
 rw [h] at nd
 rw [List.nodup_append] at nd
 obtain ⟨_,n2,n3⟩:=nd
 rw [List.nodup_cons] at n2
 rw [List.filter_append,List.filter_cons]
 simp only [ne_eq,not_true_eq_false,decide_false,Bool.false_eq_true,if_false]
 rw [List.filter_eq_self.2,List.filter_eq_self.2]
 ·intro a ha
  simp only [decide_eq_true_eq]
  rintro rfl;exact n2.1 ha
 ·intro a ha
  simp only [decide_eq_true_eq]
  rintro rfl;exact n3 a ha a (List.mem_cons_self ..) rfl
theorem readyF_mem {ops:Array Oper} {listed:Array Bool} {i:Nat}:i∈i8 ops listed↔i < ops.size∧listed.getD i true=false∧∃ o,ops[i]?=some o∧∀ e∈o.after.toList,Region.binds .any e=true→listed.getD e.on false=true:=by
 unfold i8
 rw [List.mem_filter,List.mem_range]
 constructor
 ·rintro ⟨h1,h2⟩
  simp only [Bool.and_eq_true,Bool.not_eq_true'] at h2
  refine ⟨h1,h2.1,ops[i],Array.getElem?_eq_getElem h1,fun e he hb=>?_⟩
  have h3:=h2.2
  rw [Array.getElem?_eq_getElem h1] at h3
  simp only [Option.map_some,Option.getD_some,Array.all_eq_true'] at h3
  have:=h3 e (by simpa using he)
  simpa [hb] using this
 ·rintro ⟨h1,h2,o,ho,h3⟩
  refine ⟨h1,?_⟩
  simp only [Bool.and_eq_true,Bool.not_eq_true']
  refine ⟨h2,?_⟩
  rw [ho]
  simp only [Option.map_some,Option.getD_some,Array.all_eq_true']
  intro e he
  have:=h3 e (by simpa using he)
  cases hb:Region.binds .any e
  ·rfl
  ·simp [this hb]
end Go.Vab

namespace Go.Vab
open Go
def Ex.out:Ex→Exit
 | .nrm=>.normal
 | .exit id=>.exit id
 | .ret=>.ret
def G0e (C:Ctx) (E:Gh) (h:A3) (w:World) (ex:Ex) (s':St) (e:Exit) (a':Act) (w':World):Prop :=
 e=ex.out∧∃ E',Moves E h w E' s'.heap w'∧EnvR E' s'.env a'∧Y1 C.vol s'.env∧a'.defers=[]∧a'.tmps.size=C.ntmps
theorem B6R:∀ (as:List AV) (n t:Nat),(A1w n as).get t=if n≤t then (match as[t - n]? with|some v=>v|none=>.junk) else .junk
 | [],n,t=>by simp [A1w,Env.get]
 | a::as,n,t=>by
  simp only [A1w,Env.get,B6R as (n+1) t]
  by_cases h:t=n
  ·subst h;simp
  ·rw [if_neg h]
   by_cases h2:n≤t
   ·have h3:n+1≤t:=by omega
    rw [if_pos h3,if_pos h2]
    obtain ⟨k,rfl⟩:∃ k,t=n+(k+1):=⟨t - n - 1,by omega⟩
    rw [show n+(k+1) - (n+1)=k by omega,show n+(k+1) - n=k+1 by omega]
    simp
   ·rw [if_neg (by omega),if_neg h2]
theorem VRc.get {E:Gh}:∀ (as:List AV) (xs:List Value) (k:Nat) (v:AV),VRc E as xs→as[k]?=some v→∃ y,xs[k]?=some y∧VRel E v y
 | [],_,_,_,_,h=>by simp at h
 | a::as,xs,k,v,hr,h=>by
  simp only [VRc] at hr
  obtain ⟨y,ys,rfl,h2,h3⟩:=hr
  cases k with
  | zero=>simp at h;subst h;exact ⟨y,rfl,h2⟩
  | succ k=>simpa using VRc.get as ys k v h3 (by simpa using h)
theorem VRc.length {E:Gh}:∀ (as:List AV) (xs:List Value),VRc E as xs→xs.length=as.length
 | [],_,h=>by simp only [VRc] at h;subst h;rfl
 | a::as,xs,h=>by
  simp only [VRc] at h
  obtain ⟨y,ys,rfl,_,h2⟩:=h
  simp [VRc.length as ys h2]
def A2d (tmps:Array Value):ResultVar→Sem Value
 | .tmp t=>pure (tmps.getD t Go.undef)
 | .cell p t=>do loadVar t (←asAddr (tmps.getD p Go.undef))
theorem D7G {P : Program} {C : Ctx} (T : TTok P C.tt) {E : Gh} {w : World} {s : St} {a : Act} (R : RelHeap E s.heap w) (hL : EnvR E s.env a) : ∀ (rs : List ResultVar) (vs : List AV), Y4 C s rs = some vs →
  ∃ xs,(rs.mapM (A2d a.tmps)).run P w=.ok xs w∧VRc E vs xs
 | [],vs,h=>by simp [Y4] at h;subst h;exact ⟨[],by simp,by simp only [VRc]⟩
 | r::rs,vs,h=>by
  simp only [Y4] at h
  obtain ⟨v,h1,h⟩:=bnd_eq_some.1 h
  obtain ⟨vs',h2,h⟩:=bnd_eq_some.1 h
  simp at h;subst h
  obtain ⟨xs,g1,g2⟩:=D7G T R hL rs vs' h2
  cases r with
  | tmp t =>
   simp [D0K] at h1;subst h1
   refine ⟨a.tmps.getD t Go.undef::xs,?_,by simp only [VRc];exact ⟨_,_,rfl,hL t,g2⟩⟩
   simp only [List.mapM_cons,A2d,Sem.run_bind,Sem.run_pure,Result.andThen_ok,g1]
  | cell p t =>
   simp only [D0K] at h1
   obtain ⟨i,hi,h1⟩:=K5 h1
   have hp:=hL p
   cases hpv:s.env.get p with
   | ptr b ver path t' =>
    rw [hpv] at h1 hp
    obtain ⟨y,q1,q2⟩:=D7V T R hi hp h1 (by simp)
    simp only [VRel] at hp
    obtain ⟨ad,had,_⟩:=hp
    refine ⟨y::xs,?_,by simp only [VRc];exact ⟨_,_,rfl,q2,g2⟩⟩
    simp only [Instr.loadAt,had,Instr.sureAddr,Sem.run_bind,Sem.run_pure,Result.andThen_ok] at q1
    simp only [List.mapM_cons,A2d,Sem.run_bind,had,asAddr,Sem.run_pure,Result.andThen_ok,q1,g1]
   | win b ver path t' off n =>
    rw [hpv] at h1 hp
    simp only [D6] at h1
    split at h1
    ·rename_i hbt
     obtain ⟨y,q1,q2⟩:=D8f T R hi hbt hp h1
     simp only [VRel] at hp
     obtain ⟨ad,had,_⟩:=hp
     refine ⟨y::xs,?_,by simp only [VRc];exact ⟨_,_,rfl,q2,g2⟩⟩
     simp only [Instr.loadAt,had,Instr.sureAddr,Sem.run_bind,Sem.run_pure,Result.andThen_ok] at q1
     simp only [List.mapM_cons,A2d,Sem.run_bind,had,asAddr,Sem.run_pure,Result.andThen_ok,q1,g1]
    ·cases h1
   | _ => rw [hpv] at h1;simp [D6] at h1
theorem B6S:∀ (l pads:Env) (t:Nat),(∀ p∈pads,p.2=AV.junk)→Env.get (l++pads) t=Env.get l t
 | [],[],_,_ => rfl
 | [],(k,v)::pads,t,h=>by
  have h1:=h (k,v) (List.mem_cons_self ..)
  simp only at h1;subst h1
  have h2:=B6S [] pads t fun p hp=>h p (List.mem_cons_of_mem _ hp)
  simp only [List.nil_append,Env.get] at h2 ⊢
  rw [h2];simp
 | (k,v)::l,pads,t,h=>by
  simp only [List.cons_append,Env.get,B6S l pads t h]
theorem D8h (C:Ctx) (args:List AV) (t:Nat):(Q5 C args).get t=(A1w 0 args).get t :=
 B6S _ _ _ fun p hp=>by
  rw [List.mem_map] at hp
  obtain ⟨a,_,rfl⟩:=hp
  rfl
def cL:Code→Code | .seq a _ => a | .cond _ a _ => a|c=>c
def cR:Code→Code | .seq _ b=>b | .cond _ _ b=>b|c=>c
def cB:Code→Code | .block _ c=>c | .loop c=>c|c=>c
def B8 (f:Func):Code:=match f.body with|some c=>c|none=>.skip
theorem F7o {C:Ctx} {n:Code} {s:St} (id:Nat) (hn:n=.exit id):evC C n s=some (.exit id,s):=by subst hn;rfl
@[simp] theorem J3 (id:Nat) (s:St):w8 id (.nrm,s)=(.nrm,s):=rfl
@[simp] theorem I2 (id:Nat) (s:St):w8 id (.ret,s)=(.ret,s):=rfl
@[simp] theorem J1 (id j:Nat) (s:St):w8 id (.exit j,s)=if j=id then (.nrm,s) else (.exit j,s):=rfl
end Go.Vab

namespace Go.Vab
open Go
mutual
def AV.under (n:Nat):AV→Bool
 | .ptr i _ _ _ => decide (i < n)
 | .win i _ _ _ _ _ => decide (i < n)
 | .slice i _ _ _ _ _ _ => decide (i < n)
 | .map i=>decide (i < n)
 | .fn _ caps=>AV.unders n caps
 | .node vs=>AV.unders n vs
 | .tuple vs=>AV.unders n vs
 | _ => true
def AV.unders (n:Nat):List AV→Bool
 | []=>true
 | v::vs=>v.under n&&AV.unders n vs
end
def Gh.cut (E:Gh) (n:Nat):Gh:={ E with n:=n }
mutual
theorem VRl.under {E:Gh}:∀ (v:AV) (l:List Value),VRl E v l→v.under E.n=true
 | .bool _,_,_ => rfl
 | .int _ _,_,_ => rfl
 | .str _,_,_ => rfl
 | .nilptr,_,_ => rfl
 | .ptr ..,_,hr=>by simp only [VRl] at hr;obtain ⟨a,_,hp⟩:=hr;simpa [AV.under] using hp.1
 | .win ..,_,hr=>by simp only [VRl] at hr;obtain ⟨a,_,hp⟩:=hr;simpa [AV.under] using hp.1
 | .nilslice,_,_ => rfl
 | .slice ..,_,hr=>by simp only [VRl] at hr;obtain ⟨a,c,_,hp⟩:=hr;simpa [AV.under] using hp.1
 | .nilmap,_,_ => rfl
 | .nilfn,_,_ => rfl
 | .fn _ caps,_,hr=>by simp only [VRl] at hr;obtain ⟨cs,_,hp⟩:=hr;simpa [AV.under] using VRc.under caps cs hp
 | .ints _ _,_,_ => rfl
 | .node vs,l,hr=>by simp only [VRl] at hr;simpa [AV.under] using VRs.under vs l hr
 | .junk,_,_ => rfl
 | .undef,_,_ => rfl
 | .map _,_,hr=>by simp only [VRl] at hr
 | .tuple _,_,hr=>by simp only [VRl] at hr
theorem VRs.under {E:Gh}:∀ (vs:List AV) (l:List Value),VRs E vs l→AV.unders E.n vs=true
 | [],_,_ => rfl
 | v::vs,l,hr=>by
  simp only [VRs] at hr
  obtain ⟨l1,l2,_,h1,h2⟩:=hr
  simp [AV.unders,VRl.under v l1 h1,VRs.under vs l2 h2]
theorem VRel.under {E:Gh}:∀ (v:AV) (x:Value),VRel E v x→v.under E.n=true
 | .bool _,_,_ => rfl
 | .int _ _,_,_ => rfl
 | .str _,_,_ => rfl
 | .nilptr,_,_ => rfl
 | .ptr ..,_,hr=>by simp only [VRel] at hr;obtain ⟨a,_,hp⟩:=hr;simpa [AV.under] using hp.1
 | .win ..,_,hr=>by simp only [VRel] at hr;obtain ⟨a,_,hp⟩:=hr;simpa [AV.under] using hp.1
 | .nilslice,_,_ => rfl
 | .slice ..,_,hr=>by simp only [VRel] at hr;obtain ⟨a,c,_,hp⟩:=hr;simpa [AV.under] using hp.1
 | .nilmap,_,_ => rfl
 | .nilfn,_,_ => rfl
 | .fn _ caps,_,hr=>by simp only [VRel] at hr;obtain ⟨cs,_,hp⟩:=hr;simpa [AV.under] using VRc.under caps cs hp
 | .ints _ _,_,_ => rfl
 | .node vs,_,hr=>by simp only [VRel] at hr;obtain ⟨l,_,h⟩:=hr;simpa [AV.under] using VRs.under vs l h
 | .junk,_,_ => rfl
 | .undef,_,_ => rfl
 | .map _,_,hr=>by simp only [VRel] at hr;obtain ⟨a,_,hp⟩:=hr;simpa [AV.under] using hp.1
 | .tuple vs,_,hr=>by simp only [VRel] at hr;obtain ⟨l,_,h⟩:=hr;simpa [AV.under] using VRc.under vs l h
theorem VRc.under {E:Gh}:∀ (vs:List AV) (l:List Value),VRc E vs l→AV.unders E.n vs=true
 | [],_,_ => rfl
 | v::vs,l,hr=>by
  simp only [VRc] at hr
  obtain ⟨x,xs,_,h1,h2⟩:=hr
  simp [AV.unders,VRel.under v x h1,VRc.under vs xs h2]
end
section
variable {E:Gh} {n:Nat}
theorem PtrAt.cut {i ver path t a} (hi:i < n) (h:PtrAt E i ver path t a):PtrAt (E.cut n) i ver path t a:=⟨hi,h.2⟩
theorem WinAt.cut {i ver path t o a} (hi:i < n) (h:WinAt E i ver path t o a):WinAt (E.cut n) i ver path t o a:=⟨hi,h.2⟩
theorem SlcAt.cut {i ver path t o l c a d} (hi:i < n) (h:SlcAt E i ver path t o l c a d):SlcAt (E.cut n) i ver path t o l c a d:=⟨hi,h.2⟩
end
mutual
theorem VRl.cut {E:Gh} {n:Nat}:∀ (v:AV) (l:List Value),v.under n=true→VRl E v l→VRl (E.cut n) v l
 | .bool _,_,_,hr=>by simpa only [VRl] using hr
 | .int _ _,_,_,hr=>by simpa only [VRl] using hr
 | .str _,_,_,hr=>by simpa only [VRl] using hr
 | .nilptr,_,_,hr=>by simpa only [VRl] using hr
 | .ptr ..,_,hb,hr=>by
  simp only [VRl] at hr ⊢
  obtain ⟨a,e,hp⟩:=hr;exact ⟨a,e,hp.cut (by simpa [AV.under] using hb)⟩
 | .win ..,_,hb,hr=>by
  simp only [VRl] at hr ⊢
  obtain ⟨a,e,hp⟩:=hr;exact ⟨a,e,hp.cut (by simpa [AV.under] using hb)⟩
 | .nilslice,_,_,hr=>by simpa only [VRl] using hr
 | .slice ..,_,hb,hr=>by
  simp only [VRl] at hr ⊢
  obtain ⟨a,c,e,hp⟩:=hr;exact ⟨a,c,e,hp.cut (by simpa [AV.under] using hb)⟩
 | .nilmap,_,_,hr=>by simpa only [VRl] using hr
 | .nilfn,_,_,hr=>by simpa only [VRl] using hr
 | .fn _ caps,_,hb,hr=>by
  simp only [VRl] at hr ⊢
  obtain ⟨cs,e,hp⟩:=hr;exact ⟨cs,e,VRc.cut caps cs (by simpa [AV.under] using hb) hp⟩
 | .ints _ _,_,_,hr=>by simpa only [VRl] using hr
 | .node vs,l,hb,hr=>by simp only [VRl] at hr ⊢;exact VRs.cut vs l (by simpa [AV.under] using hb) hr
 | .junk,_,_,hr=>by simp only [VRl] at hr
 | .undef,_,_,hr=>by simp only [VRl] at hr
 | .map _,_,_,hr=>by simp only [VRl] at hr
 | .tuple _,_,_,hr=>by simp only [VRl] at hr
theorem VRs.cut {E:Gh} {n:Nat}:∀ (vs:List AV) (l:List Value),AV.unders n vs=true→VRs E vs l→VRs (E.cut n) vs l
 | [],_,_,hr=>by simpa only [VRs] using hr
 | v::vs,l,hb,hr=>by
  simp only [AV.unders,Bool.and_eq_true] at hb
  simp only [VRs] at hr ⊢
  obtain ⟨l1,l2,e,h1,h2⟩:=hr
  exact ⟨l1,l2,e,VRl.cut v l1 hb.1 h1,VRs.cut vs l2 hb.2 h2⟩
theorem VRel.cut {E:Gh} {n:Nat}:∀ (v:AV) (x:Value),v.under n=true→VRel E v x→VRel (E.cut n) v x
 | .bool _,_,_,hr=>by simpa only [VRel] using hr
 | .int _ _,_,_,hr=>by simpa only [VRel] using hr
 | .str _,_,_,hr=>by simpa only [VRel] using hr
 | .nilptr,_,_,hr=>by simpa only [VRel] using hr
 | .ptr ..,_,hb,hr=>by
  simp only [VRel] at hr ⊢
  obtain ⟨a,e,hp⟩:=hr;exact ⟨a,e,hp.cut (by simpa [AV.under] using hb)⟩
 | .win ..,_,hb,hr=>by
  simp only [VRel] at hr ⊢
  obtain ⟨a,e,hp⟩:=hr;exact ⟨a,e,hp.cut (by simpa [AV.under] using hb)⟩
 | .nilslice,_,_,hr=>by simpa only [VRel] using hr
 | .slice ..,_,hb,hr=>by
  simp only [VRel] at hr ⊢
  obtain ⟨a,c,e,hp⟩:=hr;exact ⟨a,c,e,hp.cut (by simpa [AV.under] using hb)⟩
 | .nilmap,_,_,hr=>by simpa only [VRel] using hr
 | .nilfn,_,_,hr=>by simpa only [VRel] using hr
 | .fn _ caps,_,hb,hr=>by
  simp only [VRel] at hr ⊢
  obtain ⟨cs,e,hp⟩:=hr;exact ⟨cs,e,VRc.cut caps cs (by simpa [AV.under] using hb) hp⟩
 | .ints _ _,_,_,hr=>by simpa only [VRel] using hr
 | .node vs,_,hb,hr=>by
  simp only [VRel] at hr ⊢
  obtain ⟨l,e,hp⟩:=hr;exact ⟨l,e,VRs.cut vs l (by simpa [AV.under] using hb) hp⟩
 | .junk,_,_,_ => by simp only [VRel]
 | .undef,_,_,hr=>by simpa only [VRel] using hr
 | .map i,_,hb,hr=>by
  simp only [VRel] at hr ⊢
  obtain ⟨a,e,hp⟩:=hr;exact ⟨a,e,(of_decide_eq_true hb:i < n),hp.2⟩
 | .tuple vs,_,hb,hr=>by
  simp only [VRel] at hr ⊢
  obtain ⟨xs,e,hp⟩:=hr;exact ⟨xs,e,VRc.cut vs xs (by simpa [AV.under] using hb) hp⟩
theorem VRc.cut {E:Gh} {n:Nat}:∀ (vs:List AV) (l:List Value),AV.unders n vs=true→VRc E vs l→VRc (E.cut n) vs l
 | [],_,_,hr=>by simpa only [VRc] using hr
 | v::vs,l,hb,hr=>by
  simp only [AV.unders,Bool.and_eq_true] at hb
  simp only [VRc] at hr ⊢
  obtain ⟨x,xs,e,h1,h2⟩:=hr
  exact ⟨x,xs,e,VRel.cut v x hb.1 h1,VRc.cut vs xs hb.2 h2⟩
end
theorem D7L (n:Nat):∀ ks:List (List Int),AV.unders n (ks.map (AV.ints .u8))=true
 | []=>rfl
 | k::ks=>by simp [AV.unders,AV.under,D7L n ks]
theorem MapAt.under {E:Gh} {w:World} {i:Nat} {v:AV} (h:MapAt E w i v) (n:Nat):v.under n=true:=by
 obtain ⟨ks,es,clock,rfl,_⟩:=h
 simp [AV.under,D7L]
theorem BlkAt.under {E:Gh} {w:World} {i:Nat} {b:Blk} (h:BlkAt E w i b):b.v.under E.n=true:=by
 by_cases hm:b.mode=.mp
 ·exact (h.mp hm).under _
 ·obtain ⟨l,h1,_⟩:=h.body hm
  exact VRl.under _ _ h1
theorem Moves.cut {E E' : Gh} {h h1 t : A3} {w w' : World} (R : RelHeap E h w) (m : Moves E h w E' (h1 ++ t) w') (hl : h1.length = h.length)
  (hb:∀ (i:Nat) (b:Blk),h1[i]?=some b→(∃ c:Blk,h[i]?=some c∧c.v=b.v)∨b.v.under h.length=true):Moves E h w (E'.cut h.length) h1 w':=by
 have get:∀ (i:Nat) (b:Blk),h1[i]?=some b→(h1++t)[i]?=some b:=fun i b hi=>by
  rw [List.getElem?_append_left (List.getElem?_eq_some_iff.1 hi).1];exact hi
 refine ⟨⟨Nat.le_of_eq R.n,fun i hi=>m.ext.ver i hi,fun i hi=>m.ext.many i hi,fun i hi=>m.ext.ty i hi,fun i hi=>m.ext.same i hi⟩,⟨hl.symm,fun i b hi=>?_,fun i j b c hi hj=>?_⟩,m.size,m.keep,fun x hx=>?_,m.io⟩
 ·have q:=m.rel.at_ i b (get i b hi)
  refine ⟨q.ver,q.fits,q.mp,fun hm=>?_,q.grow⟩
  obtain ⟨l,h1,h2,h3⟩:=q.body hm
  refine ⟨l,VRl.cut _ _ ?_ h1,h2,h3⟩
  rcases hb i b hi with ⟨c,hc,hv⟩|hbel
  ·have:=(R.at_ i c hc).under
   rw [R.n,hv] at this;exact this
  ·exact hbel
 ·exact m.rel.inj i j b c (get i b hi) (get j c hj)
 ·obtain ⟨i,c,hi,ho,he⟩:=hx
  exact m.img x ⟨i,c,get i c hi,ho,he⟩
end Go.Vab

namespace Go.Vab
open Go
def V8 (l:List (Nat × TI)) (t:Nat):Option TI:=match l with
 | []=>none
 | (k,i)::r=>if t=k then some i else V8 r t
def D6D:Value→Value→Bool
 | .bool a,.bool b=>a == b
 | .int k a,.int k' b=>decide (k=k')&&decide (a=b)
 | .string a,.string b=>decide (a.data.toList=b.data.toList)
 | .pointer none,.pointer none=>true
 | .slice none a b,.slice none c d=>decide (a=c)&&decide (b=d)
 | .map none,.map none=>true
 | .nilFunc,.nilFunc=>true
 | _,_ => false
theorem F7p {a b:Value} (h:D6D a b=true):a=b:=by
 unfold D6D at h
 split at h <;> try (cases h;done)
 all_goals first
  | rfl
  | (simp at h;rw [h])
  | (simp at h;rw [h.1,h.2])
  | skip
 rename_i a b
 simp at h
 congr 1
 cases a;cases b
 simp only at h
 congr 1
def A1T:List Value→List Value→Bool
 | [],[]=>true
 | a::as,b::bs=>D6D a b&&A1T as bs
 | _,_ => false
theorem B60:∀ {as bs:List Value},A1T as bs=true→as=bs
 | [],[],_ => rfl
 | a::as,b::bs,h=>by
  simp only [A1T,Bool.and_eq_true] at h
  rw [F7p h.1,B60 h.2]
 | [],_ :: _,h=>by simp [A1T] at h
 | _ :: _,[],h=>by simp [A1T] at h
mutual
def zfl:AV→Option (List Value)
 | .bool b=>some [.bool b]
 | .int k n=>some [.int k n]
 | .str s=>some [.string s]
 | .nilptr=>some [.pointer none]
 | .nilslice=>some [.slice none 0 0]
 | .nilmap=>some [.map none]
 | .nilfn=>some [.nilFunc]
 | .ints k xs=>some (xs.map (Value.int k))
 | .node vs=>A4S vs
 | _ => none
def A4S:List AV→Option (List Value)
 | []=>some []
 | v::vs=>match zfl v,A4S vs with
  | some a,some b=>some (a++b)
  | _,_ => none
end
mutual
theorem D9T (E:Gh):∀ (v:AV) (l:List Value),zfl v=some l→VRl E v l
 | .bool _,l,h=>by simp [zfl] at h;simp only [VRl];exact h.symm
 | .int _ _,l,h=>by simp [zfl] at h;simp only [VRl];exact h.symm
 | .str _,l,h=>by simp [zfl] at h;simp only [VRl];exact h.symm
 | .nilptr,l,h=>by simp [zfl] at h;simp only [VRl];exact h.symm
 | .nilslice,l,h=>by simp [zfl] at h;simp only [VRl];exact h.symm
 | .nilmap,l,h=>by simp [zfl] at h;simp only [VRl];exact h.symm
 | .nilfn,l,h=>by simp [zfl] at h;simp only [VRl];exact h.symm
 | .ints _ _,l,h=>by simp [zfl] at h;simp only [VRl];exact h.symm
 | .node vs,l,h=>by simp only [zfl] at h;simp only [VRl];exact D8i E vs l h
 | .junk,_,h=>by simp [zfl] at h
 | .undef,_,h=>by simp [zfl] at h
 | .ptr ..,_,h=>by simp [zfl] at h
 | .win ..,_,h=>by simp [zfl] at h
 | .slice ..,_,h=>by simp [zfl] at h
 | .map _,_,h=>by simp [zfl] at h
 | .fn ..,_,h=>by simp [zfl] at h
 | .tuple _,_,h=>by simp [zfl] at h
theorem D8i (E:Gh):∀ (vs:List AV) (l:List Value),A4S vs=some l→VRs E vs l
 | [],l,h=>by simp [A4S] at h;simp only [VRs];exact h
 | v::vs,l,h=>by
  simp only [A4S] at h
  split at h
  ·rename_i a b h1 h2
   simp at h
   simp only [VRs]
   exact ⟨a,b,h.symm,D9T E v a h1,D8i E vs b h2⟩
  ·cases h
end
def B3b (i:TI) (z:Value):Bool:=match zfl i.zero with
 | some cs=>(match z with | .agg c=>i.ty.isAgg&&A1T c.toList cs|z => !i.ty.isAgg&&A1T [z] cs)
 | none=>false
def A2e (P:Program) (l:List (Nat × TI)) (t:Nat) (d:TypeDesc):Ty→Bool
 | .int k=>(match d with | .int k'=>decide (k=k') | _ => false)
 | .cell=>(match d with | .array _ _ | .struct _ | .int _ | .interface _ => false | _ => true)
 | .arr n u=>(match d with | .array n' e=>decide (n=n')&&(match V8 l e with|some j=>Ty.beq j.ty u|none=>false) | _ => false)
 | .struct ts=>(match d with
  | .struct fs=>decide (fs.size=ts.length) && !P.stoodInHeld t&&(List.range fs.size).all fun f=>match fs[f]?,ts[f]? with
   | some x, some u => decide (x.name ≠ "_") && decide (x.offset = Ty.sizes (ts.take f)) && (match V8 l x.type with | some j => Ty.beq j.ty u && decide (j.ty.size ≠ 0) | none => false)
   | _,_ => false
  | _ => false)
def tiB (P:Program) (l:List (Nat × TI)) (t:Nat) (i:TI):Bool :=
 match P.info? t,P.underlying t with
 | some f,some d =>
  decide (f.size=i.ty.size)&&decide (f.bytes=i.bytes)&&A4 i.zero i.ty&&decide (i.ty.height≤1000) &&
  (match f.zero with|some z=>B3b i z|none=>false) &&
  A2e P l t d i.ty &&
  (match i.elem with|some e=>(match d with | .slice e'=>decide (e=e')&&(match V8 l e with|some j=>decide (j.ty.size≠0)|none=>false) | _ => false)|none=>true) &&
  (match i.kind with|some k=>Ty.beq i.ty (.int k)|none=>true) &&
  (if i.str then (match d with | .string=>true | _ => false) else true) &&
  (match i.pt with|some a=>(match d with | .pointer a'=>decide (a=a') | _ => false)|none=>true) &&
  (if i.bool then (match d with | .bool=>true | _ => false) else true) &&
  (if i.ty.isAgg then !P.eqGuardType P.depth t else true)
 | _,_ => false
def ttB (P:Program) (l:List (Nat × TI)):Bool:=l.all fun p=>tiB P l p.1 p.2
theorem D7s:∀ {l:List (Nat × TI)} {t:Nat} {i:TI},V8 l t=some i→(t,i)∈l
 | [],_,_,h=>by simp [V8] at h
 | (k,j)::r,t,i,h=>by
  simp only [V8] at h
  split at h
  ·rename_i e;subst e;simp at h;subst h;exact List.mem_cons_self ..
  ·exact List.mem_cons_of_mem _ (D7s h)
theorem F55 {i:TI} {z:Value} (h:B3b i z=true) (ht:A4 i.zero i.ty=true) (E:Gh):VRel E i.zero z:=by
 unfold B3b at h
 split at h
 ·rename_i cs hcs
  have hl:=D9T E i.zero cs hcs
  have hv:=VRel.of_cells ht hl
  split at h
  ·rename_i c
   rw [Bool.and_eq_true] at h
   have:=B60 h.2
   rw [h.1] at hv
   simpa [O9,←this] using hv
  ·rename_i z _
   rw [Bool.and_eq_true] at h
   have:=B60 h.2
   have hf:i.ty.isAgg=false:=by simpa using h.1
   rw [hf] at hv
   simpa [O9,←this] using hv
 ·cases h
theorem F8o {P:Program} {l:List (Nat × TI)} (h:ttB P l=true):TTok P (V8 l):=by
 have main : ∀ t i, V8 l t = some i → ∃ f d, P.info? t = some f ∧ P.underlying t = some d ∧ f.size = i.ty.size ∧ f.bytes = i.bytes ∧ A4 i.zero i.ty = true ∧ i.ty.height ≤ 1000 ∧
   (∃ z,f.zero=some z∧B3b i z=true)∧A2e P l t d i.ty=true ∧
   (∀ e,i.elem=some e→d=.slice e∧∃ j,V8 l e=some j∧j.ty.size≠0)∧(∀ k,i.kind=some k→i.ty=.int k)∧(i.str=true→d=.string) ∧
   (∀ a,i.pt=some a→d=.pointer a)∧(i.bool=true→d=.bool)∧(i.ty.isAgg=true→P.eqGuardType P.depth t=false):=by
  intro t i ht
  have hb:=(List.all_eq_true.1 h) (t,i) (D7s ht)
  unfold tiB at hb
  split at hb
  ·rename_i f d hf hd
   simp only [Bool.and_eq_true,decide_eq_true_eq] at hb
   obtain ⟨⟨⟨⟨⟨⟨⟨⟨⟨⟨⟨b1,b2⟩,b3⟩,b4⟩,b5⟩,b6⟩,b7⟩,b8⟩,b9⟩,b10⟩,b11⟩,b12⟩:=hb
   refine ⟨f,d,hf,hd,b1,b2,b3,b4,?_,b6,?_,?_,?_,?_,?_,?_⟩
   ·cases hz:f.zero with
    | none=>rw [hz] at b5;cases b5
    | some z=>rw [hz] at b5;exact ⟨z,rfl,b5⟩
   ·intro e he
    rw [he] at b7
    simp only at b7
    split at b7
    ·rename_i e'
     rw [Bool.and_eq_true,decide_eq_true_eq] at b7
     obtain ⟨q1,q2⟩:=b7
     cases hj:V8 l e with
     | none=>rw [hj] at q2;cases q2
     | some j=>rw [hj] at q2;exact ⟨by rw [q1],j,rfl,by simpa using q2⟩
    ·cases b7
   ·intro k hk
    rw [hk] at b8
    exact Ty.beq_eq _ _ b8
   ·intro hs
    rw [hs] at b9
    simp only [if_true] at b9
    split at b9
    ·rfl
    ·cases b9
   ·intro a ha
    rw [ha] at b10
    simp only at b10
    split at b10
    ·rw [decide_eq_true_eq] at b10;rw [b10]
    ·cases b10
   ·intro hs
    rw [hs] at b11
    simp only [if_true] at b11
    split at b11
    ·rfl
    ·cases b11
   ·intro ha
    rw [ha] at b12
    simpa using b12
  ·cases hb
 refine ⟨fun t i ht=>?_,fun t i ht=>?_,fun t i k ht hk=>?_,fun t i ht hk=>?_,fun t i n u ht hk=>?_,fun t i ts ht hk=>?_,fun t i e ht he=>?_,fun t i k ht hk=>?_,fun t i ht hs=>?_,fun t i a ht ha=>?_,fun t i ht hb=>?_,fun t i ht=>?_,fun t i ht ha=>?_⟩ <;>
  obtain ⟨f,d,hf,hd,b1,b2,b3,b4,⟨z,hz,hzb⟩,b6,b7,b8,b9,b10,b11,b12⟩:=main t i ht
 ·exact ⟨f,z,hf,b1,b2,hz,F55 hzb b3⟩
 ·exact b3
 ·rw [hk] at b6;simp only [A2e] at b6
  split at b6
  ·rw [decide_eq_true_eq] at b6;rw [hd,b6]
  ·cases b6
 ·rw [hk] at b6;simp only [A2e] at b6
  refine ⟨d,hd,fun n e h=>?_,fun fs h=>?_,fun k h=>?_,fun ms h=>?_⟩ <;> (subst h;cases b6)
 ·rw [hk] at b6;simp only [A2e] at b6
  split at b6
  ·rename_i n' e
   rw [Bool.and_eq_true,decide_eq_true_eq] at b6
   obtain ⟨q1,q2⟩:=b6
   cases hj:V8 l e with
   | none=>rw [hj] at q2;cases q2
   | some j=>rw [hj] at q2;exact ⟨e,j,by rw [hd,q1],hj,Ty.beq_eq _ _ q2⟩
  ·cases b6
 ·rw [hk] at b6;simp only [A2e] at b6
  split at b6
  ·rename_i fs
   simp only [Bool.and_eq_true,decide_eq_true_eq] at b6
   obtain ⟨⟨q1,q2⟩,q3⟩:=b6
   refine ⟨fs,hd,q1,by simpa using q2,fun g x hx=>?_⟩
   have hg:g < fs.size:=(Array.getElem?_eq_some_iff.1 hx).1
   have:=(List.all_eq_true.1 q3) g (List.mem_range.2 hg)
   rw [hx] at this
   cases hu:ts[g]? with
   | none=>rw [hu] at this;cases this
   | some u =>
    rw [hu] at this
    simp only [Bool.and_eq_true,decide_eq_true_eq] at this
    obtain ⟨⟨r1,r2⟩,r3⟩:=this
    cases hj:V8 l x.type with
    | none=>rw [hj] at r3;cases r3
    | some j =>
     rw [hj] at r3
     simp only [Bool.and_eq_true,decide_eq_true_eq] at r3
     exact ⟨r1,r2,j,rfl,by rw [Ty.beq_eq _ _ r3.1],r3.2⟩
  ·cases b6
 ·obtain ⟨q1,q2⟩:=b7 e he
  exact ⟨by rw [hd,q1],q2⟩
 ·exact b8 k hk
 ·rw [hd,b9 hs]
 ·rw [hd,b10 a ha]
 ·rw [hd,b11 hb]
 ·exact b4
 ·exact b12 ha
end Go.Vab

namespace Go.Vab
open Go
def u8 (x:BitVec 8):AV:=.int .u8 (x.toNat:Int)
def u64 (x:BitVec 64):AV:=.int .u64 (x.toNat:Int)
def nat (n:Nat):AV:=.int .i64 (n:Int)
def bytes (xs:List (BitVec 8)):AV:=.ints .u8 (xs.map fun x=>(x.toNat:Int))
theorem F9d (n:Int):IntKind.u8.wrap n=((BitVec.ofInt 8 n).toNat:Int):=by
 have e:IntKind.u8.wrap n=n % (2 ^ 8:Int):=rfl
 rw [e,BitVec.toNat_ofInt]
 have:(0:Int)≤n % 256:=Int.emod_nonneg _ (by decide)
 have h1:(2 ^ 8:Int)=256:=rfl
 have h2:((2 ^ 8:Nat):Int)=256:=rfl
 rw [h1,h2]
 omega
theorem A7S (n:Int):IntKind.u64.wrap n=((BitVec.ofInt 64 n).toNat:Int):=by
 have e:IntKind.u64.wrap n=n % (2 ^ 64:Int):=rfl
 rw [e,BitVec.toNat_ofInt]
 have:(0:Int)≤n % 18446744073709551616:=Int.emod_nonneg _ (by decide)
 have h1:(2 ^ 64:Int)=18446744073709551616:=rfl
 have h2:((2 ^ 64:Nat):Int)=18446744073709551616:=rfl
 rw [h1,h2]
 omega
theorem E9l {n:Int} (h:-9223372036854775808≤n∧n < 9223372036854775808):IntKind.i64.wrap n=n:=by
 have e:IntKind.i64.wrap n=(if (true&&decide (n % (2 ^ 64:Int) ≥ (2 ^ 63:Int)))=true then n % (2 ^ 64:Int) - (2 ^ 64:Int) else n % (2 ^ 64:Int)):=rfl
 have h1:(2 ^ 64:Int)=18446744073709551616:=rfl
 have h2:(2 ^ 63:Int)=9223372036854775808:=rfl
 rw [e,h1,h2]
 split <;> rename_i hc <;> simp at hc <;> omega
theorem F8p (x:BitVec 8):BitVec.ofInt 8 (x.toNat:Int)=x:=by simp
theorem F7q (x:BitVec 64):BitVec.ofInt 64 (x.toNat:Int)=x:=by simp
@[simp] theorem G6c (n:Nat):Q3 (nat n)=some n:=by simp [Q3,nat]
section
variable (x y:BitVec 8)
@[simp] theorem G9F:C6 .add (u8 x) (u8 y)=some (u8 (x+y)):=by
 simp only [C6,u8,L3,if_true,F9d,BitVec.ofInt_add,F8p]
@[simp] theorem G9G:C6 .eql (u8 x) (u8 y)=some (.bool (decide (x=y))):=by
 simp only [C6,u8,L3,if_true,Option.some.injEq,AV.bool.injEq]
 rw [Bool.eq_iff_iff];simp [BitVec.toNat_eq,Int.natCast_inj]
@[simp] theorem G9H:C6 .neq (u8 x) (u8 y)=some (.bool (decide (x≠y))):=by
 simp only [C6,u8,L3,if_true,Option.some.injEq,AV.bool.injEq]
 rw [Bool.eq_iff_iff];simp [BitVec.toNat_eq,Int.natCast_inj]
@[simp] theorem G9I:C6 .lss (u8 x) (u8 y)=some (.bool (decide (x < y))):=by
 simp only [C6,u8,L3,if_true,BitVec.lt_def,Option.some.injEq,AV.bool.injEq]
 rw [Bool.eq_iff_iff];simp
@[simp] theorem G9J:C6 .gtr (u8 x) (u8 y)=some (.bool (decide (y < x))):=by
 simp only [C6,u8,L3,if_true,BitVec.lt_def,Option.some.injEq,AV.bool.injEq]
 rw [Bool.eq_iff_iff];simp
@[simp] theorem G9K:C6 .leq (u8 x) (u8 y)=some (.bool (decide (x≤y))):=by
 simp only [C6,u8,L3,if_true,BitVec.le_def,Option.some.injEq,AV.bool.injEq]
 rw [Bool.eq_iff_iff];simp
@[simp] theorem G9L:v9 .u64 (u8 x)=some (u64 (x.setWidth 64)):=by
 simp only [v9,u8,u64,A7S]
 congr 3
 rw [BitVec.ofInt_natCast]
 simp
end
section
variable (x y:BitVec 64)
@[simp] theorem G8j:C6 .add (u64 x) (u64 y)=some (u64 (x+y)):=by
 simp only [C6,u64,L3,if_true,A7S,BitVec.ofInt_add,F7q]
@[simp] theorem G8k:C6 .neq (u64 x) (u64 y)=some (.bool (decide (x≠y))):=by
 simp only [C6,u64,L3,if_true,Option.some.injEq,AV.bool.injEq]
 rw [Bool.eq_iff_iff];simp [BitVec.toNat_eq,Int.natCast_inj]
theorem F9e (k:IntKind) (n:Nat):C6 .shl (u64 x) (.int k (n:Int))=some (u64 (x <<< n)):=by
 simp only [C6,u64,L3]
 rw [if_pos (by omega),A7S]
 congr 3
 simp only [Int.toNat_natCast,IntKind.bits]
 have e:((x.toNat:Int) * 2 ^ min n 64)=((x.toNat * 2 ^ min n 64:Nat):Int):=by push_cast;rfl
 rw [e,BitVec.ofInt_natCast,BitVec.toNat_ofNat,BitVec.toNat_shiftLeft,Nat.shiftLeft_eq]
 by_cases h:n≤64
 ·rw [Nat.min_eq_left h]
 ·rw [Nat.min_eq_right (by omega)]
  have:2 ^ n=2 ^ 64 * 2 ^ (n - 64):=by rw [←Nat.pow_add];congr 1;omega
  rw [this,←Nat.mul_assoc,Nat.mul_right_comm,Nat.mul_mod_left,Nat.mul_mod_left]
theorem F9f (k:IntKind) (n:Nat):C6 .shr (u64 x) (.int k (n:Int))=some (u64 (x >>> n)):=by
 simp only [C6,u64,L3]
 rw [if_pos (by omega)]
 congr 2
 simp only [Int.toNat_natCast,IntKind.bits,BitVec.toNat_ushiftRight,Nat.shiftRight_eq_div_pow]
 have e:(2:Int) ^ min n 64=((2 ^ min n 64:Nat):Int):=by push_cast;rfl
 rw [e,Int.fdiv_eq_ediv_of_nonneg _ (Int.natCast_nonneg _),←Int.natCast_ediv]
 congr 1
 by_cases h:n≤64
 ·rw [Nat.min_eq_left h]
 ·rw [Nat.min_eq_right (by omega)]
  have h1:=x.isLt
  have h2:2 ^ 64≤2 ^ n:=Nat.pow_le_pow_right (by decide) (by omega)
  rw [Nat.div_eq_of_lt h1,Nat.div_eq_of_lt (by omega)]
@[simp] theorem G5g (n:BitVec 64):C6 .shl (u64 x) (u64 n)=some (u64 (x <<< n.toNat)):=F9e x _ _
@[simp] theorem G5h (n:BitVec 64):C6 .shr (u64 x) (u64 n)=some (u64 (x >>> n.toNat)):=F9f x _ _
end
@[simp] theorem G8l (n:Nat):v9 .u64 (nat n)=some (u64 (BitVec.ofNat 64 n)):=by
 simp only [v9,u64,nat,A7S,BitVec.ofInt_natCast]
theorem Q0 {m n:Nat} (h:m+n < 9223372036854775808):C6 .add (nat m) (nat n)=some (nat (m+n)):=by
 simp only [C6,nat,L3,if_true]
 rw [E9l (by omega)];rfl
theorem S2 {m n:Nat} (h:n≤m) (h':m < 9223372036854775808):C6 .sub (nat m) (nat n)=some (nat (m - n)):=by
 simp only [C6,nat,L3,if_true]
 rw [E9l (by omega)];congr 2;omega
theorem F7r {m n:Nat} (h:n≠0):C6 .rem (nat m) (nat n)=some (nat (m % n)):=by
 simp only [C6,nat,L3,true_and]
 rw [if_pos (by omega),←Int.ofNat_tmod]
@[simp] theorem G8m (m n:Nat):C6 .lss (nat m) (nat n)=some (.bool (decide (m < n))):=by
 simp only [C6,nat,L3,if_true,Option.some.injEq,AV.bool.injEq]
 rw [Bool.eq_iff_iff];simp
@[simp] theorem G8n (m n:Nat):C6 .leq (nat m) (nat n)=some (.bool (decide (m≤n))):=by
 simp only [C6,nat,L3,if_true,Option.some.injEq,AV.bool.injEq]
 rw [Bool.eq_iff_iff];simp
@[simp] theorem G8o (m n:Nat):C6 .gtr (nat m) (nat n)=some (.bool (decide (n < m))):=by
 simp only [C6,nat,L3,if_true,Option.some.injEq,AV.bool.injEq]
 rw [Bool.eq_iff_iff];simp
@[simp] theorem G8p (m n:Nat):C6 .geq (nat m) (nat n)=some (.bool (decide (n≤m))):=by
 simp only [C6,nat,L3,if_true,Option.some.injEq,AV.bool.injEq]
 rw [Bool.eq_iff_iff];simp
@[simp] theorem G8q (m n:Nat):C6 .eql (nat m) (nat n)=some (.bool (decide (m=n))):=by
 simp only [C6,nat,L3,if_true,Option.some.injEq,AV.bool.injEq]
 rw [Bool.eq_iff_iff];simp [Int.natCast_inj]
@[simp] theorem G8r (m n:Nat):C6 .neq (nat m) (nat n)=some (.bool (decide (m≠n))):=by
 simp only [C6,nat,L3,if_true,Option.some.injEq,AV.bool.injEq]
 rw [Bool.eq_iff_iff];simp [Int.natCast_inj]
@[simp] theorem G7u (x:BitVec 8):A4 (u8 x) (.int .u8)=true:=by simp [A4,u8]
@[simp] theorem G5i (xs:List (BitVec 8)) (n:Nat):A4 (bytes xs) (.arr n (.int .u8))=decide (xs.length=n):=by simp [A4,bytes]
@[simp] theorem F4h (xs:List (BitVec 8)) (i:Nat):(bytes xs).get [i]=(xs[i]?).map u8:=by
 simp only [bytes,AV.get,List.getElem?_map]
 cases xs[i]? <;> rfl
@[simp] theorem F4i (xs:List (BitVec 8)) (i:Nat) (x:BitVec 8):(bytes xs).put [i] (u8 x)=if i < xs.length then some (bytes (xs.set i x)) else none:=by
 simp only [bytes,AV.put,u8,true_and,List.length_map]
 split
 ·rw [List.map_set]
 ·rfl
theorem bytes_inj {xs ys:List (BitVec 8)}:bytes xs=bytes ys↔xs=ys:=by
 constructor
 ·intro h
  simp only [bytes,AV.ints.injEq,true_and] at h
  exact (List.map_inj_right (fun x y e=>BitVec.eq_of_toNat_eq (Int.ofNat.inj e))).1 h
 ·rintro rfl;rfl
@[simp] theorem F4j (xs ys:List (BitVec 8)) (h:xs.length=ys.length):eqv (bytes xs) (bytes ys)=some (decide (xs=ys)):=by
 have:(xs.map (fun x=>(x.toNat:Int))=ys.map fun x=>(x.toNat:Int))↔xs=ys:=List.map_inj_right (fun x y e=>BitVec.eq_of_toNat_eq (Int.ofNat.inj e))
 simp [bytes,eqv,h,this]
@[simp] theorem G6d (h:A3) (v:AV):pureV h (some v)=some (v,h):=rfl
@[simp] theorem G6e (h:A3):pureV h none=none:=rfl
@[simp] theorem A1n (h l:A3) (k ver:Nat):blkAt (h++l) (h.length+k) ver=blkAt l k ver:=by
 unfold blkAt
 rw [List.getElem?_append_right (by omega),Nat.add_sub_cancel_left]
@[simp] theorem D7Y (h l:A3) (ver:Nat):blkAt (h++l) h.length ver=blkAt l 0 ver:=A1n h l 0 ver
@[simp] theorem G54 (b:Blk) (l:A3) (ver:Nat):blkAt (b::l) 0 ver=if b.ver=ver∧b.mode≠.mp then some b else none:=rfl
@[simp] theorem G55 (b:Blk) (l:A3) (k ver:Nat):blkAt (b::l) (k+1) ver=blkAt l k ver:=rfl
@[simp] theorem D9U (h l:A3) (k:Nat) (b:Blk):(h++l).set (h.length+k) b=h++l.set k b:=by
 rw [List.set_append,if_neg (by omega),Nat.add_sub_cancel_left]
@[simp] theorem i0 (v:AV):v.get []=some v:=by cases v <;> rfl
@[simp] theorem A1C (vs:List AV) (j:Nat) (r:List Nat):(AV.node vs).get (j::r)=bnd vs[j]? fun v=>v.get r:=by
 simp only [AV.get];cases vs[j]? <;> rfl
@[simp] theorem B7P (v x:AV):v.put [] x=some x:=by cases v <;> rfl
@[simp] theorem D8j (vs:List AV) (j:Nat) (r:List Nat) (x:AV):(AV.node vs).put (j::r) x=bnd vs[j]? fun v=>bnd (v.put r x) fun v'=>some (.node (vs.set j v')):=by
 simp only [AV.put]
 cases vs[j]? with
 | none=>rfl
 | some v=>simp only [G9];cases v.put r x <;> rfl
@[simp] theorem D7t (t:Ty) (i ver:Nat) (path:List Nat) (h:A3):D6 t (.ptr i ver path t) h=bnd (blkAt h i ver) fun b=>b.v.get path:=by
 simp [D6]
@[simp] theorem F7s (t : Ty) (i ver : Nat) (path : List Nat) (x : AV) (h : A3) (hx : A4 x t = true) : stU t (.ptr i ver path t) x h =
  bnd (blkAt h i ver) fun b=>if b.mode=.ro then none else bnd (b.v.put path x) fun v'=>some (.undef,h.set i { b with v:=v' }):=by
 unfold stU A2W
 simp only [Ty.beq_self,hx,Bool.and_self,if_true]
 cases blkAt h i ver with
 | none=>rfl
 | some b =>
  simp only [G9]
  split
  ·rfl
  ·cases b.v.put path x <;> rfl
@[simp] theorem G6f (n:Nat) (u:Ty) (b ver:Nat) (path:List Nat) (j:Nat):A4A (.arr n u) (.ptr b ver path (.arr n u)) (nat j)=if j < n then some (.ptr b ver (path++[j]) u) else none:=by simp [A4A]
end Go.Vab

namespace Go.Vab
open Go
def Rd (P:Program) (tt:Nat→Option TI) (h:A3):Nat→TypeId→AV→Prop
 | 0,_,_ => False
 | n+1,t,v=>match P.underlying t with
  | some .bool=>∃ b,v=.bool b
  | some (.int k)=>∃ x,v=.int k x∧(Lit.int k x).wf=true
  | some .string=>∃ s,v=.str s∧s.size≤maxLen
  | some (.slice e) => v = .nilslice ∨ ∃ i el row m len cap, v = .slice i 0 [] el.ty 0 len (some cap) ∧ tt e = some el ∧ h[i]? = some ⟨row, 0, m⟩ ∧ A4 row (.arr cap el.ty) = true ∧ len ≤ cap ∧ cap ≤ maxLen ∧
    ∀ j,j < cap→∃ x,row.get [j]=some x∧Rd P tt h n e x
  | some (.struct fs)=>∃ vs,v=.node vs∧∀ (f:Nat) x,fs[f]?=some x→∃ y,vs[f]?=some y∧Rd P tt h n x.type y
  | some (.array m e)=>∀ j,j < m→∃ x,v.get [j]=some x∧Rd P tt h n e x
  | _ => False
theorem Rd.app {P:Program} {tt:Nat→Option TI} {h:A3} (l:A3):∀ (n:Nat) (t:TypeId) (v:AV),Rd P tt h n t v→Rd P tt (h++l) n t v
 | 0,_,_,hr=>hr
 | n+1,t,v,hr=>by
  unfold Rd at hr ⊢
  split at hr
  ·exact hr
  ·exact hr
  ·exact hr
  ·rcases hr with hr|⟨i,el,row,m,len,cap,h1,h2,h3,h4,h5,h6,h7⟩
   ·exact .inl hr
   ·exact .inr ⟨i,el,row,m,len,cap,h1,h2,by rw [List.getElem?_append_left (List.getElem?_eq_some_iff.1 h3).1];exact h3,h4,h5,h6,fun j hj=>let ⟨x,hx,hy⟩:=h7 j hj;⟨x,hx,Rd.app l n _ _ hy⟩⟩
  ·obtain ⟨vs,h1,h2⟩:=hr
   exact ⟨vs,h1,fun f x hx=>let ⟨y,hy,hz⟩:=h2 f x hx;⟨y,hy,Rd.app l n _ _ hz⟩⟩
  ·intro j hj
   obtain ⟨x,hx,hy⟩:=hr j hj
   exact ⟨x,hx,Rd.app l n _ _ hy⟩
  ·exact hr
def O6 (E:Gh) (h:A3):Prop:=∀ i b,h[i]?=some b→¬ Own E i b
def Gh.pushAt (E:Gh) (blk base:Nat) (many:Bool) (ty:Ty):Gh where
 n:=E.n+1
 blk i:=if i=E.n then blk else E.blk i
 base i:=if i=E.n then base else E.base i
 room i:=if i=E.n then 0 else E.room i
 ver i:=if i=E.n then 0 else E.ver i
 many i:=if i=E.n then many else E.many i
 ty i:=if i=E.n then ty else E.ty i
theorem Gh.pushAt_ext (E:Gh) (blk base:Nat) (many:Bool) (ty:Ty):Ext E (E.pushAt blk base many ty):=by
 refine ⟨Nat.le_succ _,fun i hi=>?_,fun i hi=>?_,fun i hi=>?_,fun i hi _ => ?_⟩ <;> simp [Gh.pushAt,Nat.ne_of_lt hi]
theorem A46 {E : Gh} {h : A3} {w : World} (R : RelHeap E h w) (N : O6 E h) (b : Blk) (blk base : Nat) (many : Bool) (ty : Ty) (hver : b.ver = 0)
  (hfits:if many=true then ∃ n t,ty=.arr 0 t∧A4 b.v (.arr n t)=true else A4 b.v ty=true) {l:List Value} (hl:VRl E b.v l)
  (hcell:(b.mode=.ro∧∃ arr te fr pre post,w.heap[blk]?=some (.cells arr te fr)∧arr.toList=pre++l++post∧pre.length=base)∨(b.mode=.open∧many=true∧l=[]∧b.v.rowLen=some 0)) :
  RelHeap (E.pushAt blk base many ty) (h++[b]) w∧O6 (E.pushAt blk base many ty) (h++[b]):=by
 have hX:=Gh.pushAt_ext E blk base many ty
 have hget:∀ (j:Nat) (c:Blk),(h++[b])[j]?=some c→(j=E.n∧c=b)∨(j < E.n∧h[j]?=some c):=by
  intro j c hj
  rw [R.n]
  by_cases e:j < h.length
  ·rw [List.getElem?_append_left e] at hj;exact .inr ⟨e,hj⟩
  ·rw [List.getElem?_append_right (by omega)] at hj
   have:j - h.length=0:=by
    have:=(List.getElem?_eq_some_iff.1 hj).1
    simp at this;omega
   rw [this] at hj;simp at hj
   exact .inl ⟨by omega,hj.symm⟩
 have hplaced:∀ (j:Nat) (c:Blk),j < E.n→(G8 (E.pushAt blk base many ty) j c↔G8 E j c):=fun j c hj=>by
  unfold G8;simp [Gh.pushAt,Nat.ne_of_lt hj]
 have hno:O6 (E.pushAt blk base many ty) (h++[b]):=by
  intro j c hj hO
  rcases hget j c hj with ⟨rfl,rfl⟩|⟨hjn,hj⟩
  ·rcases hcell with ⟨hm,_⟩|⟨hm,_⟩
   ·exact hO.1 hm
   ·exact hO.2 ⟨hm,by simp [Gh.pushAt]⟩
  ·exact N j c hj ⟨hO.1,(hplaced j c hjn).1 hO.2⟩
 refine ⟨⟨by simp [Gh.pushAt,R.n],fun j c hj=>?_,fun j k c d hj hk hP hO e=>absurd hO (hno k d hk)⟩,hno⟩
 rcases hget j c hj with ⟨rfl,rfl⟩|⟨hjn,hj⟩
 ·refine ⟨by simp [Gh.pushAt,hver],?_,fun hm=>(by rcases hcell with ⟨h1,_⟩|⟨h1,_⟩ <;> (rw [h1] at hm;cases hm)),fun _ => ⟨l,VRl.mono hX _ _ hl,fun hP=>?_,fun hP=>?_⟩,fun hm=>?_⟩
  ·unfold O1;simpa [Gh.pushAt] using hfits
  ·rcases hcell with ⟨hm,arr,te,fr,pre,post,e,e1,e2⟩|⟨hm,_⟩
   ·exact ⟨arr,te,fr,pre,post,by simpa [Gh.pushAt] using e,e1,by simpa [Gh.pushAt] using e2,fun hn=>absurd hm hn⟩
   ·exact absurd ⟨hm,by simp [Gh.pushAt]⟩ hP
  ·rcases hcell with ⟨hm,_⟩|⟨_,_,hl0,_⟩
   ·exact absurd (fun hh=>by rw [hm] at hh;cases hh.1) hP
   ·exact hl0
  ·rcases hcell with ⟨hm',_⟩|⟨_,hM,_,hr⟩
   ·rw [hm'] at hm;cases hm
   ·exact ⟨by simpa [Gh.pushAt] using hM,by rw [hr,hver]⟩
 ·have B:=R.at_ j c hj
  have hne:=Nat.ne_of_lt hjn
  refine ⟨by simp [Gh.pushAt,hne,B.ver],?_,fun hm=>(B.mp hm).ghost (by simp [Gh.pushAt,hne]) (by simp [Gh.pushAt,hne]) (by simp [Gh.pushAt,hne]),fun hmm=>?_,fun hm=>?_⟩
  ·have:=B.fits;unfold O1 at this ⊢;simpa [Gh.pushAt,hne] using this
  ·obtain ⟨l',hl1,hl2,hl3⟩:=B.body hmm
   refine ⟨l',VRl.mono hX _ _ hl1,fun hP=>?_,fun hP=>hl3 (fun q=>hP ((hplaced j c hjn).2 q))⟩
   have:=hl2 ((hplaced j c hjn).1 hP)
   simpa [Gh.pushAt,hne] using this
  ·have:=B.grow hm;simpa [Gh.pushAt,hne] using this
def I8:Ty→List AV→AV
 | .int k,vs=>.ints k (vs.map fun v=>match v with | .int _ n=>n | _ => 0)
 | _,vs=>.node vs
theorem A4f {E : Gh} {u : Ty} : ∀ {vs : List AV} {cs : List Value}, (∀ v ∈ vs, A4 v u = true) → VRs E vs cs →
  VRl E (I8 u vs) cs∧A4 (I8 u vs) (.arr vs.length u)=true∧(∀ j,(I8 u vs).get [j]=vs[j]?)∧(I8 u vs).rowLen=some vs.length:=by
 intro vs cs ht hr
 cases u with
 | int k =>
  have hk:∀ v∈vs,∃ n,v=.int k n:=by
   intro v hv
   have:=ht v hv
   cases v <;> simp [A4] at this
   exact ⟨_,by rw [this]⟩
  refine ⟨?_,by simp [I8,A4],fun j=>?_,by simp [I8,AV.rowLen]⟩
  ·simp only [I8,VRl]
   clear ht
   induction vs generalizing cs with
   | nil=>simp only [VRs] at hr;subst hr;rfl
   | cons v vs ih =>
    simp only [VRs] at hr
    obtain ⟨l1,l2,rfl,h1,h2⟩:=hr
    obtain ⟨n,rfl⟩:=hk v (List.mem_cons_self ..)
    simp only [VRl] at h1
    subst h1
    have:=ih h2 (fun v hv=>hk v (List.mem_cons_of_mem _ hv))
    simp [this]
  ·simp only [I8,AV.get,List.getElem?_map]
   cases hj:vs[j]? with
   | none=>rfl
   | some v =>
    obtain ⟨n,rfl⟩:=hk v (List.mem_of_getElem? hj)
    rfl
 | cell=>exact ⟨by simpa only [I8,VRl] using hr,by simp [I8,A4,(Q7 vs _).2 ht],fun j=>by simp only [I8,A1C];cases vs[j]? <;> simp,by simp [I8,AV.rowLen]⟩
 | arr m t=>exact ⟨by simpa only [I8,VRl] using hr,by simp [I8,A4,(Q7 vs _).2 ht],fun j=>by simp only [I8,A1C];cases vs[j]? <;> simp,by simp [I8,AV.rowLen]⟩
 | struct ts=>exact ⟨by simpa only [I8,VRl] using hr,by simp [I8,A4,(Q7 vs _).2 ht],fun j=>by simp only [I8,A1C];cases vs[j]? <;> simp,by simp [I8,AV.rowLen]⟩
theorem B53 (s:Nat):∀ (n:Nat) (cs:List Value),cs.length=n * s→(List.range n).flatMap (fun i=>(cs.drop (i * s)).take s)=cs
 | 0,cs,h=>by simp at h;simp [h]
 | n+1,cs,h=>by
  have h1:(cs.drop s).length=n * s:=by rw [List.length_drop,h,Nat.succ_mul];omega
  have:=B53 s n (cs.drop s) h1
  rw [List.range_succ_eq_map,List.flatMap_cons,List.flatMap_map]
  have e:(List.range n).flatMap (fun a=>(cs.drop ((a+1) * s)).take s)=(List.range n).flatMap (fun i=>((cs.drop s).drop (i * s)).take s):=by
   congr 1;funext a;rw [List.drop_drop,Nat.succ_mul,Nat.add_comm]
  simp only [Nat.zero_mul,List.drop_zero]
  rw [e,this,List.take_append_drop]
theorem D0L:∀ (ts:List Ty) (cs:List Value),cs.length=Ty.sizes ts→(List.range ts.length).flatMap (fun f=>(cs.drop (Ty.sizes (ts.take f))).take (match ts[f]? with|some t=>t.size|none=>0))=cs
 | [],cs,h=>by simp [Ty.sizes] at h;simp [h]
 | t::ts,cs,h=>by
  simp only [Ty.sizes] at h
  have h1:(cs.drop t.size).length=Ty.sizes ts:=by rw [List.length_drop,h];omega
  have:=D0L ts (cs.drop t.size) h1
  rw [List.length_cons,List.range_succ_eq_map,List.flatMap_cons,List.flatMap_map]
  have e : (List.range ts.length).flatMap (fun a => (cs.drop (Ty.sizes ((t :: ts).take (a + 1)))).take (match (t :: ts)[a + 1]? with | some t => t.size | none => 0)) =
    (List.range ts.length).flatMap (fun f=>((cs.drop t.size).drop (Ty.sizes (ts.take f))).take (match ts[f]? with|some t=>t.size|none=>0)):=by
   congr 1;funext a
   rw [List.drop_drop,List.take_succ_cons,List.getElem?_cons_succ]
   simp only [Ty.sizes]
  simp only [List.take_zero,Ty.sizes,List.drop_zero,List.getElem?_cons_zero]
  rw [e,this,List.take_append_drop]
def B6W (P:Program) (tt:Nat→Option TI) (ok:List TypeId) (t:TypeId):Bool:=match tt t,P.underlying t with
 | some i,some .bool=>Ty.beq i.ty .cell
 | some i,some .string=>Ty.beq i.ty .cell
 | some i,some (.int k)=>Ty.beq i.ty (.int k)
 | some i,some (.slice e)=>Ty.beq i.ty .cell&&(match tt e with|some j=>decide (j.ty.size≠0)&&decide (P.cellsOf e=j.ty.size)|none=>false)&&ok.contains e
 | some i,some (.struct fs)=>(match i.ty with | .struct _ => true | _ => false)&&(fs.toList.all fun f=>ok.contains f.type&&(match tt f.type with|some j=>decide (P.cellsOf f.type=j.ty.size)|none=>false))
 | some i,some (.array _ e)=>(match i.ty with | .arr _ _ => true | _ => false)&&ok.contains e&&(match tt e with|some j=>decide (P.cellsOf e=j.ty.size)|none=>false)
 | _,_ => false
def A0l (P:Program) (tt:Nat→Option TI) (ok:List TypeId):Bool:=ok.all (B6W P tt ok)&&ok.all fun t=>match tt t with|some i=>decide (P.cellsOf t=i.ty.size)|none=>false
section
variable {H:Type} {enc:TypeId × Value→H} {P:Program} {tt:Nat→Option TI} {ok:List TypeId} {w:World}
def Read (P:Program) (tt:Nat→Option TI) (w:World) (n:Nat) (t:TypeId) (cs:List Value):Prop :=
 ∀ E h,RelHeap E h w→O6 E h→∀ i,tt t=some i→∃ E' l v,RelHeap E' (h++l) w∧O6 E' (h++l)∧Ext E E'∧VRl E' v cs∧A4 v i.ty=true∧Rd P tt (h++l) n t v
theorem Read.list {n : Nat} : ∀ (items : List (TypeId × List Value)), (∀ x ∈ items, Read P tt w n x.1 x.2) → (∀ x ∈ items, ∃ i, tt x.1 = some i) →
  ∀ E h,RelHeap E h w→O6 E h→∃ E' l vs,RelHeap E' (h++l) w∧O6 E' (h++l)∧Ext E E'∧VRs E' vs (items.flatMap (·.2))∧vs.length=items.length ∧
   ∀ (j:Nat) x,items[j]?=some x→∃ v i,vs[j]?=some v∧tt x.1=some i∧A4 v i.ty=true∧VRl E' v x.2∧Rd P tt (h++l) n x.1 v
 | [],_,_,E,h,R,N=>⟨E,[],[],by simpa using R,by simpa using N,Ext.refl E,by simp [VRs],rfl,fun j x hx=>by simp at hx⟩
 | x::items,hr,ht,E,h,R,N=>by
  obtain ⟨i,hi⟩:=ht x (List.mem_cons_self ..)
  obtain ⟨E1,l1,v,R1,N1,X1,V1,T1,D1⟩:=hr x (List.mem_cons_self ..) E h R N i hi
  obtain ⟨E2,l2,vs,R2,N2,X2,V2,L2,D2⟩:=Read.list items (fun y hy=>hr y (List.mem_cons_of_mem _ hy)) (fun y hy=>ht y (List.mem_cons_of_mem _ hy)) E1 (h++l1) R1 N1
  refine ⟨E2,l1++l2,v::vs,by rw [←List.append_assoc];exact R2,by rw [←List.append_assoc];exact N2,X1.trans X2,?_,by simp [L2],fun j y hy=>?_⟩
  ·rw [List.flatMap_cons];exact VRs.cons (VRl.mono X2 _ _ V1) V2
  ·rw [←List.append_assoc]
   cases j with
   | zero =>
    simp at hy;subst hy
    exact ⟨v,i,rfl,hi,T1,VRl.mono X2 _ _ V1,Rd.app l2 _ _ _ D1⟩
   | succ j =>
    simp only [List.getElem?_cons_succ] at hy ⊢
    exact D2 j y hy
theorem D65 {α β:Type} {f:Nat→List β} {l:List α} {n:Nat} (hl:l.length=n) {g:α→List β} (h:∀ (i:Nat) x,l[i]?=some x→g x=f i):l.flatMap g=(List.range n).flatMap f:=by
 subst hl
 rw [List.flatMap_def,List.flatMap_def]
 congr 1
 apply List.ext_getElem?
 intro i
 rw [List.getElem?_map,List.getElem?_map]
 by_cases hi:i < l.length
 ·rw [List.getElem?_range hi,List.getElem?_eq_getElem hi]
  simp only [Option.map_some]
  rw [h i _ (List.getElem?_eq_getElem hi)]
 ·rw [List.getElem?_eq_none (by omega),List.getElem?_eq_none (by simpa using hi)];rfl
theorem B6c:∀ {vs:List AV} {ts:List Ty},vs.length=ts.length→(∀ (f:Nat) v t,vs[f]?=some v→ts[f]?=some t→A4 v t=true)→C0 vs ts=true
 | [],[],_,_ => rfl
 | v::vs,t::ts,hl,h=>by
  simp only [C0,Bool.and_eq_true]
  exact ⟨h 0 v t rfl rfl,B6c (by simpa using hl) fun f v t hv ht=>h (f+1) v t (by simpa using hv) (by simpa using ht)⟩
 | [],_ :: _,hl,_ => by simp at hl
 | _ :: _,[],hl,_ => by simp at hl
theorem D7M {b : Addr} {s : Nat} {cs : List Value} (hs : 0 < s) (h : w.cells? 0 b s = some cs) :
  ∃ arr te fr,w.heap[b.block]?=some (.cells arr te fr)∧b.spot=none∧b.off+s≤arr.size∧cs=(arr.toList.drop b.off).take s:=by
 obtain ⟨_,hl,hg⟩:=World.cells?_some h
 have h0:=hg 0 hs
 have e0:b.add 0=b:=by simp [Addr.add]
 rw [e0,List.getElem?_eq_getElem (by omega)] at h0
 unfold World.cell? at h0
 split at h0
 ·rename_i arr te fr hb
  split at h0
  ·cases h0
  ·rename_i hsp
   have hspot:b.spot=none:=by simpa using hsp
   have hcell:∀ i,i < s→arr[b.off+i]?=cs[i]?:=by
    intro i hi
    have:=hg i hi
    by_cases hz:i=0
    ·subst hz
     rw [e0] at this
     unfold World.cell? at this
     rw [hb] at this
     simpa [hspot] using this
    ·have e:(b.add i)=⟨b.block,b.off+i,none⟩:=by simp [Addr.add,hz]
     rw [e] at this
     unfold World.cell? at this
     rw [hb] at this
     simpa using this
   have hlast:=hcell (s - 1) (by omega)
   rw [List.getElem?_eq_getElem (by omega)] at hlast
   have hlt:=(Array.getElem?_eq_some_iff.1 hlast).1
   refine ⟨arr,te,fr,hb,hspot,by omega,?_⟩
   apply List.ext_getElem?
   intro i
   by_cases hi:i < s
   ·rw [←hcell i hi,List.getElem?_take,if_pos hi,List.getElem?_drop];simp
   ·rw [List.getElem?_eq_none (by omega),List.getElem?_eq_none (by simp;omega)]
 ·cases h0
theorem D7Z {a : Addr} {s c : Nat} {f : Nat → List Value} (hs : 0 < s) (hc : 0 < c) (h : ∀ i, i < c → w.cells? 0 (a.add (i * s)) s = some (f i)) :
  ∃ arr te fr pre post,w.heap[a.block]?=some (.cells arr te fr)∧a.spot=none∧arr.toList=pre++(List.range c).flatMap f++post∧pre.length=a.off:=by
 have h0:=h 0 hc
 have e0:a.add (0 * s)=a:=by simp [Addr.add]
 rw [e0] at h0
 obtain ⟨arr,te,fr,hb,hsp,hle,_⟩:=D7M hs h0
 have hf:∀ i,i < c→a.off+i * s+s≤arr.size∧f i=(arr.toList.drop (a.off+i * s)).take s:=by
  intro i hi
  obtain ⟨arr',te',fr',hb',_,hle',e'⟩:=D7M hs (h i hi)
  have e1:(a.add (i * s)).block=a.block∧(a.add (i * s)).off=a.off+i * s:=by
   unfold Addr.add;split
   ·rename_i hz;simp [hz]
   ·simp
  rw [e1.1,hb] at hb'
  simp only [Option.some.injEq,Obj.cells.injEq] at hb'
  rw [e1.2,←hb'.1] at hle' e'
  exact ⟨hle',e'⟩
 have hend:=(hf (c - 1) (by omega)).1
 have hcs:(c - 1) * s+s=c * s:=by rw [←Nat.succ_mul];congr 1;omega
 refine ⟨arr,te,fr,arr.toList.take a.off,arr.toList.drop (a.off+c * s),hb,hsp,?_,by simp;omega⟩
 have e2:=B53 s c ((arr.toList.drop a.off).take (c * s)) (by simp;omega)
 have e3:(List.range c).flatMap f=(List.range c).flatMap (fun i=>(((arr.toList.drop a.off).take (c * s)).drop (i * s)).take s):=by
  rw [List.flatMap_def,List.flatMap_def]
  congr 1
  refine List.map_congr_left fun i hi=>?_
  have hi:=List.mem_range.1 hi
  have hm:(i+1) * s≤c * s:=Nat.mul_le_mul_right _ hi
  rw [Nat.succ_mul] at hm
  rw [(hf i hi).2,List.drop_take,List.take_take,List.drop_drop,Nat.min_eq_left (by omega)]
 rw [e3,e2,List.append_assoc,←List.drop_drop,List.take_append_drop,List.take_append_drop]
theorem read_ok (T : TTok P tt) (hok : A0l P tt ok = true) : ∀ (n : Nat) (t : TypeId) (cs : List Value) (x : DataW H × List MemPlace), ok.contains t = true →
  DataW.trod enc P w 0 (fun _ => true) true n t cs=some x→Read P tt w n t cs
 | 0,t,cs,x,_,h=>by simp [DataW.trod] at h
 | n+1,t,cs,x,hm,h=>by
  intro E hp R N i hi
  have hok2:=hok
  simp only [A0l,Bool.and_eq_true,List.all_eq_true] at hok
  have hb:=hok.1 t (by simpa using hm)
  unfold B6W at hb
  rw [hi] at hb
  have keep:∀ v:AV,VRl E v cs→A4 v i.ty=true→Rd P tt (hp++[]) (n+1) t v→∃ E' l v,RelHeap E' (hp++l) w∧O6 E' (hp++l)∧Ext E E'∧VRl E' v cs∧A4 v i.ty=true∧Rd P tt (hp++l) (n+1) t v :=
   fun v h1 h2 h3=>⟨E,[],v,by simpa using R,by simpa using N,Ext.refl E,h1,h2,h3⟩
  cases hu:P.underlying t with
  | none=>rw [hu] at hb;simp at hb
  | some d =>
   rw [hu] at hb
   cases d <;> try (simp only [Bool.false_eq_true] at hb;done)
   case bool =>
    obtain ⟨b,rfl,_⟩:=DataW.trod_bool hu h
    have hty:=Ty.beq_eq _ _ hb
    exact keep (.bool b) (by simp only [VRl]) (by rw [hty];rfl) (by simp only [Rd,hu];exact ⟨_,rfl⟩)
   case string =>
    obtain ⟨b,rfl,_,hm⟩:=DataW.trod_string hu h
    have hty:=Ty.beq_eq _ _ hb
    exact keep (.str b) (by simp only [VRl]) (by rw [hty];rfl) (by simp only [Rd,hu];exact ⟨_,rfl,hm⟩)
   case int k =>
    obtain ⟨b,rfl,_,hm⟩:=DataW.trod_int hu h
    have hty:=Ty.beq_eq _ _ hb
    exact keep (.int k b) (by simp only [VRl]) (by rw [hty];simp [A4]) (by simp only [Rd,hu];exact ⟨_,rfl,hm⟩)
   case slice e =>
    simp only [Bool.and_eq_true] at hb
    obtain ⟨⟨hty,he⟩,hoe⟩:=hb
    have hty:=Ty.beq_eq _ _ hty
    cases hel:tt e with
    | none=>rw [hel] at he;cases he
    | some el =>
     rw [hel] at he
     simp only [Bool.and_eq_true,decide_eq_true_eq] at he
     obtain ⟨hsz,hcz⟩:=he
     rcases DataW.trod_slice hu h with ⟨rfl,_⟩|⟨a,len,cap,elems,rest,n',hn,rfl,_,_,hl,hmx,hlen,hel1,hel2,_⟩
     ·exact keep .nilslice (by simp only [VRl]) (by rw [hty];rfl) (by simp only [Rd,hu];exact .inl trivial)
     ·have hn':n=n':=by omega
      subst hn'
      have hall:∀ k,k < cap→∃ cs' y,w.cells? 0 (a.add (k * P.cellsOf e)) (P.cellsOf e)=some cs'∧DataW.trod enc P w 0 (fun _ => true) true n e cs'=some y:=by
       intro k hk
       have key:∃ y,(w.cells? 0 (a.add (k * P.cellsOf e)) (P.cellsOf e)).bind (DataW.trod enc P w 0 (fun _ => true) true n e)=some y:=by
        by_cases hkl:k < len
        ·exact ⟨elems[k]'(by omega),by rw [hel1 k hkl,List.getElem?_eq_getElem (by omega)]⟩
        ·obtain ⟨h1,h2⟩:=hel2 rfl
         have:=h2 (k - len) (by omega)
         rw [show len+(k - len)=k by omega] at this
         exact ⟨rest[k - len]'(by omega),by rw [this,List.getElem?_eq_getElem (by omega)]⟩
       obtain ⟨y,hy⟩:=key
       obtain ⟨cs',h1,h2⟩:=Option.bind_eq_some_iff.1 hy
       exact ⟨cs',y,h1,h2⟩
      rw [hcz] at hall
      let f:Nat→List Value:=fun k=>(w.cells? 0 (a.add (k * el.ty.size)) el.ty.size).getD []
      have hf:∀ k,k < cap→w.cells? 0 (a.add (k * el.ty.size)) el.ty.size=some (f k)∧∃ y,DataW.trod enc P w 0 (fun _ => true) true n e (f k)=some y:=by
       intro k hk
       obtain ⟨cs',y,h1,h2⟩:=hall k hk
       have:f k=cs':=by simp only [f,h1,Option.getD_some]
       rw [this]
       exact ⟨h1,y,h2⟩
      obtain ⟨E1,l1,vs,R1,N1,X1,V1,L1,D1⟩:=Read.list (P:=P) (tt:=tt) (w:=w) (n:=n) ((List.range cap).map fun k=>(e,f k))
       (fun y hy=>by
        obtain ⟨k,hk,rfl⟩:=List.mem_map.1 hy
        obtain ⟨_,z,hz⟩:=hf k (List.mem_range.1 hk)
        exact read_ok T hok2 n e (f k) z hoe hz)
       (fun y hy=>by obtain ⟨k,_,rfl⟩:=List.mem_map.1 hy;exact ⟨el,hel⟩) E hp R N
      rw [List.length_map,List.length_range] at L1
      have hcells:((List.range cap).map fun k=>(e,f k)).flatMap (·.2)=(List.range cap).flatMap f:=by rw [List.flatMap_map]
      rw [hcells] at V1
      have helem:∀ j,j < cap→∃ v,vs[j]?=some v∧A4 v el.ty=true∧Rd P tt (hp++l1) n e v:=by
       intro j hj
       obtain ⟨v,i',hv,hi',ht,_,hr⟩:=D1 j (e,f j) (by simp [hj])
       rw [hel] at hi'
       simp only [Option.some.injEq] at hi'
       subst hi'
       exact ⟨v,hv,ht,hr⟩
      obtain ⟨W1,W2,W3,W4⟩:=A4f (u:=el.ty) (fun v hv=>by
       obtain ⟨j,hj⟩:=List.getElem?_of_mem hv
       obtain ⟨v',hv',ht,_⟩:=helem j (by have:=(List.getElem?_eq_some_iff.1 hj).1;omega)
       rw [hj] at hv'
       simp only [Option.some.injEq] at hv'
       rw [hv'];exact ht) V1
      rw [L1] at W2
      have hres : ∀ (m : Mode) (many : Bool) (ty : Ty), RelHeap (E1.pushAt a.block a.off many ty) ((hp ++ l1) ++ [⟨I8 el.ty vs, 0, m⟩]) w → O6 (E1.pushAt a.block a.off many ty) ((hp ++ l1) ++ [⟨I8 el.ty vs, 0, m⟩]) →
        (∃ c,ty=.arr c el.ty)→(cap≠0→a.spot=none) →
        ∃ E' l v,RelHeap E' (hp++l) w∧O6 E' (hp++l)∧Ext E E'∧VRl E' v [.slice (some a) len cap]∧A4 v i.ty=true∧Rd P tt (hp++l) (n+1) t v:=by
       intro m many ty R2 N2 ⟨c',hty'⟩ hsp
       refine ⟨E1.pushAt a.block a.off many ty,l1++[⟨I8 el.ty vs,0,m⟩],.slice (hp++l1).length 0 [] el.ty 0 len (some cap),by rw [←List.append_assoc];exact R2,by rw [←List.append_assoc];exact N2,
        X1.trans (Gh.pushAt_ext ..),?_,by rw [hty];rfl,?_⟩
       ·simp only [VRl]
        have hE:(hp++l1).length=E1.n:=R1.n.symm
        rw [hE]
        refine ⟨a,cap,rfl,by simp [Gh.pushAt],by simp,hl,by simp,by simp,fun _ => ⟨0,c',by simp [Gh.pushAt,hty',Ty.sub],fun hc=>?_,by simp⟩⟩
        have hs:=hsp hc
        cases a
        simp only at hs
        simp [Gh.pushAt,hs]
       ·unfold Rd
        rw [hu]
        right
        refine ⟨_,el,I8 el.ty vs,m,len,cap,rfl,hel,?_,W2,hl,hmx,fun j hj=>?_⟩
        ·rw [←List.append_assoc,List.getElem?_append_right (Nat.le_refl _)];simp
        ·obtain ⟨v,hv,_,hr⟩:=helem j hj
         exact ⟨v,by rw [W3,hv],by rw [←List.append_assoc];exact Rd.app _ _ _ _ hr⟩
      by_cases hc0:cap=0
      ·subst hc0
       have hz:vs=[]:=List.eq_nil_of_length_eq_zero L1
       obtain ⟨R2,N2⟩:=A46 R1 N1 ⟨I8 el.ty vs,0,.open⟩ a.block a.off true (.arr 0 el.ty) rfl (by simp only [if_true];exact ⟨0,el.ty,rfl,W2⟩) W1 (.inr ⟨rfl,rfl,rfl,by rw [W4,L1]⟩)
       exact hres .open true _ R2 N2 ⟨0,rfl⟩ (fun h=>absurd rfl h)
      ·obtain ⟨arr,te,fr,pre,post,g1,g2,g3,g4⟩:=D7Z (w:=w) (a:=a) (Nat.pos_of_ne_zero hsz) (Nat.pos_of_ne_zero hc0) (fun k hk=>(hf k hk).1)
       obtain ⟨R2,N2⟩:=A46 R1 N1 ⟨I8 el.ty vs,0,.ro⟩ a.block a.off false (.arr cap el.ty) rfl (by simpa using W2) W1 (.inl ⟨rfl,arr,te,fr,pre,post,g1,g3,g4⟩)
       exact hres .ro false _ R2 N2 ⟨cap,rfl⟩ (fun _ => g2)
   case struct fs =>
    simp only [Bool.and_eq_true,List.all_eq_true] at hb
    obtain ⟨hty,hfs⟩:=hb
    cases hit:i.ty with
    | struct ts =>
     obtain ⟨fs',hu',hsz,_,hfld⟩:=T.struct t i ts hi hit
     rw [hu] at hu'
     simp only [Option.some.injEq,TypeDesc.struct.injEq] at hu'
     subst hu'
     obtain ⟨xs,n',hn,_,hlen,hxl,hx⟩:=DataW.trod_struct hu h
     have hn':n=n':=by omega
     subst hn'
     have hcell:=hok.2 t (by simpa using hm)
     rw [hi] at hcell
     simp only [decide_eq_true_eq] at hcell
     rw [hcell,hit] at hlen
     simp only [Ty.size] at hlen
     have hch:=D0L ts cs hlen
     have hf:∀ (f:Nat) (y:Field),fs[f]?=some y→∃ j,tt y.type=some j∧ts[f]?=some j.ty∧(cs.drop y.offset).take (P.cellsOf y.type)=(cs.drop (Ty.sizes (ts.take f))).take (match ts[f]? with|some t=>t.size|none=>0)∧Read P tt w n y.type ((cs.drop y.offset).take (P.cellsOf y.type)):=by
      intro f y hy
      obtain ⟨_,ho,j,hj,htf,_⟩:=hfld f y hy
      have hmem:y∈fs.toList:=List.mem_of_getElem? (by simpa using hy)
      have h3:=hfs y hmem
      rw [hj] at h3
      simp only [decide_eq_true_eq] at h3
      refine ⟨j,hj,htf,?_,?_⟩
      ·rw [ho,h3.2,htf]
      ·have hlt:f < fs.size:=(Array.getElem?_eq_some_iff.1 hy).1
       have h4:=hx f y hy
       rw [List.getElem?_eq_getElem (by omega)] at h4
       exact read_ok T hok2 n y.type _ _ h3.1 h4
     obtain ⟨E1,l1,vs,R1,N1,X1,V1,L1,D1⟩:=Read.list (P:=P) (tt:=tt) (w:=w) (n:=n) (fs.toList.map fun y=>(y.type,(cs.drop y.offset).take (P.cellsOf y.type)))
      (fun z hz=>by
       obtain ⟨y,hy,rfl⟩:=List.mem_map.1 hz
       obtain ⟨f,hfy⟩:=List.getElem?_of_mem hy
       obtain ⟨j,_,_,_,hr⟩:=hf f y (by simpa using hfy)
       exact hr)
      (fun z hz=>by
       obtain ⟨y,hy,rfl⟩:=List.mem_map.1 hz
       obtain ⟨f,hfy⟩:=List.getElem?_of_mem hy
       obtain ⟨j,hj,_⟩:=hf f y (by simpa using hfy)
       exact ⟨j,hj⟩) E hp R N
     rw [List.length_map] at L1
     have L1:vs.length=fs.size:=by rw [L1];simp
     have hcat:(fs.toList.map fun y=>(y.type,(cs.drop y.offset).take (P.cellsOf y.type))).flatMap (·.2)=cs:=by
      rw [List.flatMap_map]
      rw [D65 (n:=ts.length) (f:=fun f=>(cs.drop (Ty.sizes (ts.take f))).take (match ts[f]? with|some t=>t.size|none=>0)) (by simpa using hsz) (fun f y hy=>?_)]
      ·exact hch
      ·obtain ⟨j,_,_,he,_⟩:=hf f y (by simpa using hy)
       exact he
     rw [hcat] at V1
     have hD:∀ (f:Nat) (y:Field),fs[f]?=some y→∃ v,∃ j:TI,vs[f]?=some v∧ts[f]?=some j.ty∧A4 v j.ty=true∧Rd P tt (hp++l1) n y.type v:=by
      intro f y hy
      obtain ⟨v,j',hv,hj',ht,_,hr⟩:=D1 f (y.type,(cs.drop y.offset).take (P.cellsOf y.type)) (by rw [List.getElem?_map,Array.getElem?_toList,hy];rfl)
      obtain ⟨j,hj,htf,_⟩:=hf f y hy
      rw [hj] at hj'
      simp only [Option.some.injEq] at hj'
      subst hj'
      exact ⟨v,j,hv,htf,ht,hr⟩
     refine ⟨E1,l1,.node vs,R1,N1,X1,by simpa only [VRl] using V1,?_,?_⟩
     ·simp only [A4]
      refine B6c (by omega) (fun f v t' hv ht'=>?_)
      have hlt:f < fs.size:=by have:=(List.getElem?_eq_some_iff.1 hv).1;omega
      obtain ⟨v',j,hv',htf,ht,_⟩:=hD f fs[f] (Array.getElem?_eq_getElem hlt)
      rw [hv] at hv';rw [ht'] at htf
      simp only [Option.some.injEq] at hv' htf
      rw [hv',htf];exact ht
     ·unfold Rd
      rw [hu]
      exact ⟨vs,rfl,fun f y hy=>by obtain ⟨v,j,hv,_,_,hr⟩:=hD f y hy;exact ⟨v,hv,hr⟩⟩
    | int k=>rw [hit] at hty;cases hty
    | cell=>rw [hit] at hty;cases hty
    | arr a b=>rw [hit] at hty;cases hty
   case array m e =>
    simp only [Bool.and_eq_true] at hb
    obtain ⟨⟨hty,hoe⟩,hce⟩:=hb
    cases hit:i.ty with
    | arr m' u =>
     obtain ⟨e',el,hu',hel,hjt⟩:=T.arr t i m' u hi hit
     rw [hu] at hu'
     simp only [Option.some.injEq,TypeDesc.array.injEq] at hu'
     obtain ⟨rfl,rfl⟩:=hu'
     rw [hel] at hce
     simp only [decide_eq_true_eq] at hce
     obtain ⟨xs,n',hn,_,hlen,hxl,hx⟩:=DataW.trod_array hu h
     have hn':n=n':=by omega
     subst hn'
     have hcell:=hok.2 t (by simpa using hm)
     rw [hi] at hcell
     simp only [decide_eq_true_eq] at hcell
     rw [hcell,hit] at hlen
     simp only [Ty.size] at hlen
     rw [←hjt] at hlen
     have hch:=B53 el.ty.size m cs hlen
     rw [hce] at hx
     obtain ⟨E1,l1,vs,R1,N1,X1,V1,L1,D1⟩:=Read.list (P:=P) (tt:=tt) (w:=w) (n:=n) ((List.range m).map fun k=>(e,(cs.drop (k * el.ty.size)).take el.ty.size))
      (fun y hy=>by
       obtain ⟨k,hk,rfl⟩:=List.mem_map.1 hy
       have hk:=List.mem_range.1 hk
       have h4:=hx k hk
       rw [List.getElem?_eq_getElem (by omega)] at h4
       exact read_ok T hok2 n e _ _ hoe h4)
      (fun y hy=>by obtain ⟨k,_,rfl⟩:=List.mem_map.1 hy;exact ⟨el,hel⟩) E hp R N
     rw [List.length_map,List.length_range] at L1
     rw [List.flatMap_map,hch] at V1
     have helem:∀ j,j < m→∃ v,vs[j]?=some v∧A4 v el.ty=true∧Rd P tt (hp++l1) n e v:=by
      intro j hj
      obtain ⟨v,i',hv,hi',ht,_,hr⟩:=D1 j (e,(cs.drop (j * el.ty.size)).take el.ty.size) (by simp [hj])
      rw [hel] at hi'
      simp only [Option.some.injEq] at hi'
      subst hi'
      exact ⟨v,hv,ht,hr⟩
     obtain ⟨W1,W2,W3,W4⟩:=A4f (u:=el.ty) (fun v hv=>by
      obtain ⟨j,hj⟩:=List.getElem?_of_mem hv
      obtain ⟨v',hv',ht,_⟩:=helem j (by have:=(List.getElem?_eq_some_iff.1 hj).1;omega)
      rw [hj] at hv'
      simp only [Option.some.injEq] at hv'
      rw [hv'];exact ht) V1
     rw [L1] at W2
     refine ⟨E1,l1,I8 el.ty vs,R1,N1,X1,W1,by rw [←hjt];exact W2,?_⟩
     unfold Rd
     rw [hu]
     intro j hj
     obtain ⟨v,hv,_,hr⟩:=helem j hj
     exact ⟨v,by rw [W3,hv],hr⟩
    | int k=>rw [hit] at hty;cases hty
    | cell=>rw [hit] at hty;cases hty
    | struct b=>rw [hit] at hty;cases hty
open Go.RowKit Go.WideShapes Go.ChangeShapes
theorem D66 (T:TTok P tt) {t:TypeId} {i:TI} (hi:tt t=some i) {W:World} {base:Nat} {v:Value} (hv:Value.okWide P W .any base t v):v=O9 i.ty.isAgg v.cells.toList:=by
 obtain ⟨d,hd,hA⟩:=T.und hi
 unfold Value.okWide at hv
 rw [hd] at hv
 have one:∀ x:Value,(∀ cs,x≠.agg cs)→x=O9 false x.cells.toList:=by
  intro x hx
  cases x <;> first
   | rfl
   | exact absurd rfl (hx _)
 cases d <;> simp only at hv hA <;> rw [←hA]
 case struct fs=>obtain ⟨cs,rfl,_⟩:=hv;simp [O9,Value.cells]
 case array m e=>obtain ⟨cs,rfl,_⟩:=hv;simp [O9,Value.cells]
 all_goals
  refine one v fun cs e=>?_
  subst e
  unfold Cell.okWide at hv
  rw [hd] at hv
  simp only at hv
  try (unfold Cell.ok at hv;rw [hd] at hv;exact hv)
theorem read_args (T : TTok P tt) (hok : A0l P tt ok = true) {W : World} {base : Nat} : ∀ (ts : List TypeId) (vs : List Value) (ds : List (DataW H)) (ps : List MemPlace), (∀ t ∈ ts, ok.contains t = true) → (∀ t ∈ ts, ∃ i, tt t = some i) →
  DataW.TrodAll enc P W 0 (fun _ => true) true ts vs ds ps→(∀ (j:Nat) t v,ts[j]?=some t→vs[j]?=some v→Value.okWide P W .any base t v) →
  ∀ E h,RelHeap E h W→O6 E h→∃ E' l avs,RelHeap E' (h++l) W∧O6 E' (h++l)∧Ext E E'∧VRc E' avs vs∧avs.length=ts.length∧∀ (j:Nat) t a,ts[j]?=some t→avs[j]?=some a→∃ n i,tt t=some i∧A4 a i.ty=true∧Rd P tt (h++l) n t a
 | [],[],[],ps,_,_,_,_,E,h,R,N=>⟨E,[],[],by simpa using R,by simpa using N,Ext.refl E,by simp [VRc],rfl,fun j t a hj=>by simp at hj⟩
 | t::ts,v::vs,d::ds,ps,ho,hi,hr,hv,E,h,R,N=>by
  obtain ⟨p,q,⟨n,h1⟩,h2,_⟩:=hr
  obtain ⟨i,hti⟩:=hi t (List.mem_cons_self ..)
  obtain ⟨E1,l1,a,R1,N1,X1,V1,T1,D1⟩:=read_ok T hok n t _ _ (ho t (List.mem_cons_self ..)) h1 E h R N i hti
  obtain ⟨E2,l2,avs,R2,N2,X2,V2,L2,D2⟩:=read_args T hok ts vs ds q (fun y hy=>ho y (List.mem_cons_of_mem _ hy)) (fun y hy=>hi y (List.mem_cons_of_mem _ hy)) h2 (fun j t v hj hjv=>hv (j+1) t v (by simpa using hj) (by simpa using hjv)) E1 (h++l1) R1 N1
  have hval:=D66 T hti (hv 0 t v rfl rfl)
  refine ⟨E2,l1++l2,a::avs,by rw [←List.append_assoc];exact R2,by rw [←List.append_assoc];exact N2,X1.trans X2,?_,by simp [L2],fun j u b hj hb=>?_⟩
  ·simp only [VRc]
   refine ⟨v,vs,rfl,?_,V2⟩
   rw [hval]
   exact VRel.mono X2 _ _ (VRel.of_cells T1 V1)
  ·rw [←List.append_assoc]
   cases j with
   | zero =>
    simp at hj hb;subst hj;subst hb
    exact ⟨n,i,hti,T1,Rd.app l2 _ _ _ D1⟩
   | succ j=>exact D2 j u b (by simpa using hj) (by simpa using hb)
 | [],_ :: _,_,_,_,_,hr,_,_,_,_,_ => by simp [DataW.TrodAll] at hr
 | [],[],_ :: _,_,_,_,hr,_,_,_,_,_ => by simp [DataW.TrodAll] at hr
 | _ :: _,[],_,_,_,_,hr,_,_,_,_,_ => by simp [DataW.TrodAll] at hr
 | _ :: _,_ :: _,[],_,_,_,hr,_,_,_,_,_ => by simp [DataW.TrodAll] at hr
theorem F3p {E E':Gh} {h h':A3} {W W':World} (N:O6 E h) (m:Moves E h W E' h' W'):Below W.heap.size W W' :=
 ⟨m.io.os,m.io.tape,m.io.output,m.size,fun k hk=>m.keep k hk fun ⟨i,c,hi,ho,_⟩=>N i c hi ho⟩
def E00:Gh:=⟨0,fun _ => 0,fun _ => 0,fun _ => 0,fun _ => 0,fun _ => false,fun _ => .cell⟩
theorem F9g (W:World):RelHeap E00 [] W:=⟨rfl,fun i b hb=>by simp at hb,fun i j b c hb=>by simp at hb⟩
theorem D7B (hl : laidOutB P = true) {W W' : World} (hb : Below W.heap.size W W') (sp' : Nat → Bool) : ∀ (ts : List TypeId) (vs : List Value) (ds : List (DataW H)) (ps : List MemPlace), (∀ t ∈ ts, P.readableRec t = true ∧ t < P.types.size) →
  (∀ x∈ps,x.block < W.heap.size)→(∀ x∈ps,sp' x.block=true)→DataW.TrodAll enc P W 0 (fun _ => true) true ts vs ds ps→DataW.TrodAll enc P W' 0 sp' true ts vs ds ps
 | [],[],[],ps,_,_,_,h=>h
 | t::ts,v::vs,d::ds,ps,ht,hlt,hsp,h=>by
  obtain ⟨p,q,h1,h2,rfl⟩:=h
  obtain ⟨hr,hrow⟩:=ht t (List.mem_cons_self ..)
  exact ⟨p,q,WideElems.Trod_stays hl hr hrow h1 (fun x hx=>hb.same (hlt x (List.mem_append_left _ hx))) (fun x hx=>hsp x (List.mem_append_left _ hx)),
   D7B hl hb sp' ts vs ds q (fun y hy=>ht y (List.mem_cons_of_mem _ hy)) (fun x hx=>hlt x (List.mem_append_right _ hx)) (fun x hx=>hsp x (List.mem_append_right _ hx)) h2,rfl⟩
 | [],_ :: _,_,_,_,_,_,hr=>by simp [DataW.TrodAll] at hr
 | [],[],_ :: _,_,_,_,_,hr=>by simp [DataW.TrodAll] at hr
 | _ :: _,[],_,_,_,_,_,hr=>by simp [DataW.TrodAll] at hr
 | _ :: _,_ :: _,[],_,_,_,_,hr=>by simp [DataW.TrodAll] at hr
theorem F4k {f : Func} {s : ChangeSpec} {apart : Bool} {W W' : World} {args : Array Value} {ds : List (DataW H)} {before : List MemPlace} {b : Nat} (hl : laidOutB P = true) (hvars : s.vars = [])
  (hread:∀ t∈f.params.toList,P.readableRec t=true∧t < P.types.size) (hres:f.resultTypes=#[b]) (hbool:P.underlying b=some .bool)
  (hs:s.fn H ds={ results:=[.lit (.bool true)],args:=ds })
  (hW:DataW.Whole enc P f.params.toList s.vars apart W args.toList ds [] before) (hb:Below W.heap.size W W') :
  s.post enc P f apart true false false W args (.bool true) W':=by
 have hlt:∀ p∈before,p.block < W.heap.size:=fun p hp=>hW.lt p hp
 have hold:∀ p∈before,(fun b=>decide (b < W.heap.size)) p.block=true:=fun p hp=>by simpa using hlt p hp
 have hW0:=hW
 obtain ⟨p,q,h1,h2,he,hz,hn⟩:=hW
 rw [hvars] at h2
 have hq:q=[]:=by cases q with|nil=>rfl|cons _ _ => simp [DataW.TrodVars] at h2
 subst hq
 simp only [List.append_nil] at he
 subst he
 have hds:ds++([]:List (DataW H))=ds:=List.append_nil _
 have hr1:(Value.bool true).resultList f.resultTypes.size=[.bool true]:=by rw [hres];rfl
 have hrt:∀ (bb:Nat) (sp:Nat→Bool) (hd:Bool),DataW.TrodAll enc P W' bb sp hd f.resultTypes.toList ((Value.bool true).resultList f.resultTypes.size) (s.fn H (ds++[])).results []:=by
  intro bb sp hd
  rw [hr1,hres,hds,hs]
  exact ⟨[],[],⟨1,by simp [DataW.trod,Value.cells,hbool]⟩,rfl,rfl⟩
 have hargs:∀ sp:Nat→Bool,(∀ x∈before,sp x.block=true)→DataW.TrodAll enc P W' 0 sp true f.params.toList args.toList (s.fn H (ds++[])).args before:=by
  intro sp hsp
  rw [hds,hs]
  exact D7B hl hb sp _ _ _ _ hread hlt hsp h1
 have hvs:∀ sp:Nat→Bool,DataW.TrodVars enc P W' sp s.vars (s.fn H (ds++[])).vars []:=by
  intro sp
  rw [hvars,hds,hs];rfl
 refine ⟨ds,[],before,[],before,[],hW0,hrt _ _ _,hargs _ hold,hvs _,World.keptBut_mono (fun p hp=>⟨hp,Or.inr (.inl hp)⟩) (hb.frame (·∈before)),fun h=>by cases h⟩
end
end Go.Vab

namespace Go.Vab
open Go Go.RowKit Go.WideShapes Go.ChangeShapes
def Handed (P:Program) (tt:Nat→Option TI) (h:A3) (ts:List TypeId) (avs:List AV):Prop :=
 avs.length=ts.length∧∀ (j:Nat) t a,ts[j]?=some t→avs[j]?=some a→∃ n i,tt t=some i∧A4 a i.ty=true∧Rd P tt h n t a
end Go.Vab

namespace Go.Vab
open Go
def arr (n:Nat) (g:Nat→BitVec 8):AV:=bytes ((List.range n).map g)
def upd {α:Type} (g:Nat→α) (i:Nat) (x:α):Nat→α:=fun j=>if j=i then x else g j
@[simp] theorem G7v {α:Type} (g:Nat→α) (i:Nat) (x:α):upd g i x i=x:=by simp [upd]
theorem W7 {α:Type} (n:Nat) (g:Nat→α) (i:Nat):((List.range n).map g)[i]?=if i < n then some (g i) else none:=by
 rw [List.getElem?_map]
 by_cases h:i < n
 ·simp [h]
 ·rw [List.getElem?_eq_none (by simpa using h),if_neg h];rfl
theorem F3r {α:Type} (n:Nat) (g:Nat→α) (i:Nat) (x:α):((List.range n).map g).set i x=(List.range n).map (upd g i x):=by
 apply List.ext_getElem?
 intro j
 rw [List.getElem?_set,W7,W7]
 by_cases h:i=j
 ·subst h;simp
 ·have h':¬ j=i:=fun e=>h e.symm
  rw [if_neg h];simp [upd,h']
@[simp] theorem D9V (n:Nat) (g:Nat→BitVec 8) (i:Nat):(arr n g).get [i]=if i < n then some (u8 (g i)) else none:=by
 unfold arr
 rw [F4h,W7]
 split <;> rfl
@[simp] theorem A5T (n:Nat) (g:Nat→BitVec 8) (i:Nat) (x:BitVec 8):(arr n g).put [i] (u8 x)=if i < n then some (arr n (upd g i x)) else none:=by
 unfold arr
 rw [F4i,F3r]
 simp
theorem A0G {n:Nat} {g g':Nat→BitVec 8} (h:∀ i,i < n→g i=g' i):arr n g=arr n g':=by
 unfold arr
 congr 1
 exact List.map_congr_left fun i hi=>h i (List.mem_range.1 hi)
theorem F7t {n:Nat} {g g':Nat→BitVec 8}:arr n g=arr n g'↔∀ i,i < n→g i=g' i:=by
 constructor
 ·intro h i hi
  have:=bytes_inj.1 h
  have h2:((List.range n).map g)[i]?=((List.range n).map g')[i]?:=by rw [this]
  simpa [W7,hi] using h2
 ·exact A0G
@[simp] theorem F4l (n k:Nat) (g:Nat→BitVec 8):A4 (arr n g) (.arr k (.int .u8))=decide (n=k):=by simp [arr]
@[simp] theorem A5U (n:Nat) (g:Nat→BitVec 8) (off k:Nat):(arr n g).cut off k=if off+k≤n then some (arr k fun i=>g (off+i)) else none:=by
 simp only [arr,bytes,AV.cut,List.length_map,List.length_range]
 split
 ·rename_i h
  congr 2
  apply List.ext_getElem?
  intro i
  simp only [List.getElem?_take,List.getElem?_drop,List.getElem?_map]
  by_cases hi:i < k
  ·rw [if_pos hi]
   rw [List.getElem?_range (by omega),List.getElem?_range hi];rfl
  ·rw [if_neg hi,List.getElem?_eq_none (l:=List.range k) (by simpa using hi)];rfl
 ·rfl
open Classical in
theorem F7u (n:Nat) (g g':Nat→BitVec 8):eqv (arr n g) (arr n g')=some (decide (∀ i,i < n→g i=g' i)):=by
 unfold arr
 rw [F4j _ _ (by simp)]
 congr 1
 rw [decide_eq_decide]
 have:=F7t (n:=n) (g:=g) (g':=g')
 rw [←this]
 exact bytes_inj.symm
@[simp] theorem D7a (n:Nat) (g:Nat→BitVec 8):(arr n g).rowLen=some n:=by simp [arr,bytes,AV.rowLen]
@[simp] theorem G5F (i ver:Nat) (path:List Nat) (t:Ty):A27 (.ptr i ver path t)=some (.ptr i ver path t):=rfl
end Go.Vab

namespace Go.Vab
open Go
def A2f (n:Nat) (g g':Nat→BitVec 8):Bool:=(List.range n).all fun i=>decide (g i=g' i)
theorem D7u {n:Nat} {g g':Nat→BitVec 8}:A2f n g g'=true↔∀ i,i < n→g i=g' i:=by
 simp [A2f,List.all_eq_true]
theorem B61 (n:Nat) (g g':Nat→BitVec 8):eqv (arr n g) (arr n g')=some (A2f n g g'):=by
 rw [F7u]
 congr 1
 rw [Bool.eq_iff_iff,D7u]
 simp
@[simp] theorem F7v (n:Nat) (g g':Nat→BitVec 8):mEq (.arr n (.int .u8)) .eql (arr n g) (arr n g')=some (.bool (A2f n g g')):=by
 simp [mEq,B61]
@[simp] theorem F7w (n:Nat) (g g':Nat→BitVec 8):mEq (.arr n (.int .u8)) .neq (arr n g) (arr n g')=some (.bool (!A2f n g g')):=by
 simp [mEq,B61]
@[simp] theorem G7w (b want:Bool) (m:Option (AV × A3)) (h:A3):gdo (.bool b) want m h=if b=want then m else some (.undef,h):=rfl
@[simp] theorem G6g (want:Bool) (m:Option (AV × A3)) (h:A3):gdo .undef want m h=some (.undef,h):=rfl
@[simp] theorem G56 (b:Bool) (x y:AV):B3Z (.bool b) x y=some (if b=true then x else y):=rfl
@[simp] theorem G6h (a b:Bool):A39 .eql (.bool a) (.bool b)=some (.bool (a == b)):=rfl
@[simp] theorem G6i (a b:Bool):A39 .neq (.bool a) (.bool b)=some (.bool (!(a == b))):=rfl
end Go.Vab

namespace Go.Vab
open Go
def Evs {α:Type} (m:Option α) (Q:α→Prop):Prop:=∃ r,m=some r∧Q r
section
variable {α β:Type} {m m':Option α} {Q Q':α→Prop}
theorem Evs.mono (h:Evs m Q) (hm:∀ r,Q r→Q' r):Evs m Q':=let ⟨r,h1,h2⟩:=h;⟨r,h1,hm r h2⟩
end
@[simp] theorem J2 (id:Nat) (s:St):w8 id (.exit id,s)=(.nrm,s):=by simp [w8]
@[simp] theorem G5j (env:Env) (t s:Nat) (v:AV):(env.put t v).get s=if s=t then v else env.get s:=B7O env t v s
section
variable {α:Type} {a b:Nat} (x y:α)
@[simp] theorem G8s (h:¬ a≤b):(if a≤b then x else y)=y:=if_neg h
end
section
variable (i ver:Nat) (path:List Nat) (h:A3)
abbrev stR (i ver:Nat) (path:List Nat) (x:AV) (h:A3):Option (AV × A3):=bnd (blkAt h i ver) fun b=>if b.mode=.ro then none else bnd (b.v.put path x) fun v'=>some (.undef,h.set i { b with v:=v' })
attribute [simp] stR
end
section
variable {α:Type} {a b:Nat} (x y:Option α)
end
attribute [simp] Q0 S2 F7r
end Go.Vab

namespace Go.Vab
open Go
def A1Z (P:Program) (t:Nat):Prop:=∃ k e,P.underlying t=some (.map k e)∧Maps.Keyed P k∧(∀ w,(zeroValue e).run P w=.ok (.int .i64 0) w)∧∀ ks,y9 ks=true→∃ l,keyOf P k (P5 ks)=some l
open Classical in
noncomputable def ifT {α:Type} (P:Program) (t:Nat) (x:Option α):Option α:=if A1Z P t then x else none
theorem F7x {α:Type} {P:Program} {t:Nat} (h:A1Z P t) (x:Option α):ifT P t x=x:=if_pos h
theorem B62 {α:Type} {P:Program} {t:Nat} {x:Option α} {y:α} (h:ifT P t x=some y):A1Z P t∧x=some y:=by
 unfold ifT at h
 split at h
 ·exact ⟨by assumption,h⟩
 ·cases h
def A30 (ks:List Int) (vs:List AV):Bool:=vs.any fun v=>match v with | .ints .u8 xs=>decide (xs=ks) | _ => false
def A7T (h:A3):Option (AV × A3):=some (.map h.length,h++[⟨.node [],0,.mp⟩])
def A0P (h:A3) (i:Nat):Option (List AV):=match h[i]? with
 | some b=>if b.mode=.mp∧b.ver=0 then match b.v with | .node vs=>some vs | _ => none else none
 | none=>none
def A2g (m k:AV) (h:A3):Option AV:=match m,k with
 | .map i,.ints .u8 ks=>if y9 ks=true then bnd (A0P h i) fun vs=>some (.int .i64 (if A30 ks vs=true then 1 else 0)) else none
 | _,_ => none
def A2t (m k x:AV) (h:A3):Option (AV × A3):=match m,k,x with
 | .map i,.ints .u8 ks,.int .i64 n=>if y9 ks=true∧n=1 then bnd (A0P h i) fun vs=>some (.undef,h.set i ⟨.node (if A30 ks vs=true then vs else vs++[.ints .u8 ks]),0,.mp⟩) else none
 | _,_,_ => none
theorem D7b {a b:List Int} (h:P5 a=P5 b):a=b:=by
 unfold P5 at h
 simp only [Value.agg.injEq] at h
 have:=congrArg Array.toList h
 simp only at this
 clear h
 induction a generalizing b with
 | nil=>cases b with
  | nil=>rfl
  | cons y b=>simp at this
 | cons x a ih=>cases b with
  | nil=>simp at this
  | cons y b =>
   simp only [List.map_cons,List.cons.injEq,Value.int.injEq,true_and] at this
   rw [this.1,ih this.2]
theorem D7c {h:A3} {i:Nat} {vs:List AV} (hm:A0P h i=some vs):h[i]?=some ⟨.node vs,0,.mp⟩:=by
 unfold A0P at hm
 split at hm
 ·rename_i b hb
  split at hm
  ·rename_i hc
   split at hm
   ·rename_i us hv
    cases hm
    rw [hb]
    obtain ⟨v,ver,mode⟩:=b
    simp only at hv hc
    obtain ⟨rfl,rfl⟩:=hc
    rw [hv]
   ·cases hm
  ·cases hm
 ·cases hm
@[simp] theorem F56 {h:A3} {i:Nat} {vs:List AV} (hi:h[i]?=some ⟨.node vs,0,.mp⟩):A0P h i=some vs:=by
 unfold A0P;rw [hi];simp
theorem B6X (ks:List Int) (l:List (List Int)):A30 ks (l.map (AV.ints .u8))=decide (ks∈l):=by
 unfold A30
 induction l with
 | nil=>simp
 | cons a l ih =>
  rw [List.map_cons,List.any_cons,ih]
  rw [Bool.eq_iff_iff]
  simp only [Bool.or_eq_true,decide_eq_true_eq,List.mem_cons]
  constructor
  ·rintro (h|h)
   ·exact .inl h.symm
   ·exact .inr h
  ·rintro (h|h)
   ·exact .inl h.symm
   ·exact .inr h
section
variable {P:Program} {E:Gh} {h:A3} {w:World} (R:RelHeap E h w)
include R
theorem F4L {t:Nat} (T:A1Z P t) {m k:AV} {xm xk:Value} (hm:VRel E m xm) (hk:VRel E k xk) {v:AV} (he:A2g m k h=some v):∃ x,(Instr.lookup t xm xk false).run P w=.ok x w∧VRel E v x:=by
 obtain ⟨kt,e,ht,K,hz,hko⟩:=T
 unfold A2g at he
 split at he
 ·rename_i i ks
  split at he
  ·rename_i hok
   obtain ⟨vs,h1,h2⟩:=bnd_eq_some.1 he
   cases h2
   have hb:=D7c h1
   have B:=R.at_ i _ hb
   simp only [VRel] at hm hk
   obtain ⟨a,rfl,hi,ha⟩:=hm
   have ha:=ha B.ver.symm
   subst ha
   obtain ⟨ls,es,clock,e1,e2,e3,e4,e5,e6⟩:=B.mp rfl
   injection e1 with e1
   subst e1
   rw [B6X]
   obtain ⟨kl,hkey⟩:=hko ks hok
   have hall:∀ x∈es.toList,∃ k∈ls,x.key=P5 k∧x.val=.int .i64 1:=by
    intro x hx
    have:(x.key,x.val)∈es.toList.map fun e=>(e.key,e.val):=List.mem_map.2 ⟨x,hx,rfl⟩
    rw [e4] at this
    obtain ⟨k,hk,e⟩:=List.mem_map.1 this
    injection e with g1 g2
    exact ⟨k,hk,g1.symm,g2.symm⟩
   have hexk:∀ x∈es.toList,∃ l,keyOf P kt x.key=some l:=fun x hx=>by
    obtain ⟨k,g1,g2,_⟩:=hall x hx
    rw [g2];exact hko k (e3 k g1)
   have hk:xk=P5 ks:=hk
   subst hk
   rcases K.find w hkey es.toList hexk with ⟨g1,g2⟩|⟨j,e0,g1,g2,g3⟩
   ·have hn : ¬ ks ∈ ls := fun hin => by
     have:(P5 ks,Value.int .i64 1)∈es.toList.map fun e=>(e.key,e.val):=by rw [e4];exact List.mem_map.2 ⟨ks,hin,rfl⟩
     obtain ⟨x,hx,e⟩:=List.mem_map.1 this
     injection e with q1 q2
     exact g2 x hx q1
    refine ⟨.int .i64 0,by simp [Instr.lookup,run_underlying ht,MapKept.run_getObj_map e2,K.check w _ hkey,g1,hz,Result.andThen],?_⟩
    simp [hn,VRel]
   ·have hm0:e0∈es.toList:=List.mem_of_getElem? g2
    obtain ⟨k,q1,q2,q3⟩:=hall e0 hm0
    have hin:ks∈ls:=by
     rw [g3] at q2
     rw [D7b q2];exact q1
    refine ⟨.int .i64 1,by simp [Instr.lookup,run_underlying ht,MapKept.run_getObj_map e2,K.check w _ hkey,g1,q3,Result.andThen],?_⟩
    simp [hin,VRel]
  ·cases he
 ·cases he
theorem D7v {w' : World} {i : Nat} {vs : List AV} (hi : h[i]? = some ⟨.node vs, 0, .mp⟩) {us : List AV} {n : Nat} (hty : A4 (.node us) (.arr n (.arr 32 (.int .u8))) = true) (hat : MapAt E w' i (.node us))
  (hsize:w'.heap.size=w.heap.size) (hoth:∀ k,k≠E.blk i→w'.heap[k]?=w.heap[k]?) (hio:Io w w'):Moves E h w E (h.set i ⟨.node us,0,.mp⟩) w':=by
 have hil:i < h.length:=(List.getElem?_eq_some_iff.1 hi).1
 have hget:∀ (j:Nat) (c:Blk),(h.set i ⟨.node us,0,.mp⟩)[j]?=some c→(j=i∧c=⟨.node us,0,.mp⟩)∨(j≠i∧h[j]?=some c):=by
  intro j c hj
  by_cases e:j=i
  ·subst e;rw [List.getElem?_set_self hil] at hj;simp at hj;exact .inl ⟨rfl,hj.symm⟩
  ·rw [List.getElem?_set_ne (fun x=>e x.symm)] at hj;exact .inr ⟨e,hj⟩
 have hback:∀ (j:Nat) (c:Blk),(h.set i ⟨.node us,0,.mp⟩)[j]?=some c→∃ c':Blk,h[j]?=some c'∧c'.mode=c.mode:=by
  intro j c hj
  rcases hget j c hj with ⟨rfl,rfl⟩|⟨_,hj⟩
  ·exact ⟨_,hi,rfl⟩
  ·exact ⟨c,hj,rfl⟩
 have hmine:Own E i ⟨.node vs,0,.mp⟩:=⟨by simp,A0W rfl⟩
 have hown:∀ x,A1S E (h.set i ⟨.node us,0,.mp⟩) x→A1S E h x:=by
  rintro x ⟨j,c,hj,⟨ho,hp⟩,hx⟩
  obtain ⟨c',hc',hm⟩:=hback j c hj
  exact ⟨j,c',hc',⟨by rw [hm];exact ho,by unfold G8 at *;rw [hm];exact hp⟩,hx⟩
 refine ⟨Ext.refl E,⟨by rw [List.length_set];exact R.n,fun j c hj=>?_,fun j k c d hj hk hP hO e=>?_⟩,by omega,fun x hx hn=>hoth x (fun e=>hn ⟨i,_,hi,hmine,e.symm⟩),fun x hx=>.inl (hown x hx),hio⟩
 ·rcases hget j c hj with ⟨rfl,rfl⟩|⟨hne,hj⟩
  ·obtain ⟨ls,es,clock,e1,e2,e3,e4,e5,e6⟩:=hat
   refine ⟨(R.at_ j _ hi).ver,?_,fun _ => ⟨ls,es,clock,e1,e2,e3,e4,e5,e6⟩,fun hm=>absurd rfl hm,fun hm=>by cases hm⟩
   unfold O1
   rw [if_pos e6]
   exact ⟨_,_,e5,hty⟩
  ·have B:=R.at_ j c hj
   have hsame:G8 E j c→w'.heap[E.blk j]?=w.heap[E.blk j]?:=fun hP=>hoth (E.blk j) (fun e=>hne (R.inj j i c _ hj hi hP hmine e))
   refine ⟨B.ver,B.fits,fun hm=>(B.mp hm).same (hsame (A0W hm)),fun hm=>?_,B.grow⟩
   obtain ⟨l,hl1,hl2,hl3⟩:=B.body hm
   refine ⟨l,hl1,fun hP=>?_,hl3⟩
   obtain ⟨arr,te,fr,pre,post,h1,h2⟩:=hl2 hP
   refine ⟨arr,te,fr,pre,post,?_,h2⟩
   rw [hsame hP];exact h1
 ·obtain ⟨c',hc',hm⟩:=hback j c hj
  obtain ⟨d',hd',hn⟩:=hback k d hk
  exact R.inj j k c' d' hc' hd' (by unfold G8 at *;rw [hm];exact hP) ⟨by rw [hn];exact hO.1,by have:=hO.2;unfold G8 at *;rw [hn];exact this⟩ e
theorem F4m {t : Nat} (T : A1Z P t) {m k x : AV} {xm xk xx : Value} (hm : VRel E m xm) (hk : VRel E k xk) (hx : VRel E x xx) {r : AV × A3} (he : A2t m k x h = some r) :
  r.1=.undef∧∃ w',(Instr.mapUpdate t xm xk xx).run P w=.ok () w'∧Moves E h w E r.2 w':=by
 obtain ⟨kt,e,ht,K,hz,hko⟩:=T
 unfold A2t at he
 split at he
 ·rename_i i ks n
  split at he
  ·rename_i hok
   obtain ⟨hok,rfl⟩:=hok
   obtain ⟨vs,h1,h2⟩:=bnd_eq_some.1 he
   cases h2
   refine ⟨rfl,?_⟩
   have hb:=D7c h1
   have B:=R.at_ i _ hb
   simp only [VRel] at hm hk hx
   obtain ⟨a,rfl,hi,ha⟩:=hm
   have ha:=ha B.ver.symm
   subst ha
   obtain ⟨ls,es,clock,e1,e2,e3,e4,e5,e6⟩:=B.mp rfl
   injection e1 with e1
   subst e1
   rw [B6X]
   obtain ⟨kl,hkey⟩:=hko ks hok
   have hall:∀ x∈es.toList,∃ k∈ls,x.key=P5 k∧x.val=.int .i64 1:=by
    intro x hx
    have:(x.key,x.val)∈es.toList.map fun e=>(e.key,e.val):=List.mem_map.2 ⟨x,hx,rfl⟩
    rw [e4] at this
    obtain ⟨k,hk,e⟩:=List.mem_map.1 this
    injection e with g1 g2
    exact ⟨k,hk,g1.symm,g2.symm⟩
   have hexk:∀ x∈es.toList,∃ l,keyOf P kt x.key=some l:=fun x hx=>by
    obtain ⟨k,g1,g2,_⟩:=hall x hx
    rw [g2];exact hko k (e3 k g1)
   have hk:xk=P5 ks:=hk
   subst hk
   subst hx
   have hlt:E.blk i < w.heap.size:=(Array.getElem?_eq_some_iff.1 e2).1
   have hset:∀ (o:Obj) (k:Nat),k≠E.blk i→(w.heap.setIfInBounds (E.blk i) o)[k]?=w.heap[k]?:=fun o k hk=>Array.getElem?_setIfInBounds_ne (fun q=>hk q.symm)
   have hself:∀ (o:Obj),(w.heap.setIfInBounds (E.blk i) o)[E.blk i]?=some o:=fun o=>by rw [Array.getElem?_setIfInBounds_self,if_pos hlt]
   have hrow:∀ l:List (List Int),(∀ k∈l,y9 k=true)→A4 (.node (l.map (AV.ints .u8))) (.arr l.length (.arr 32 (.int .u8)))=true:=by
    intro l hl
    simp only [A4,List.length_map,decide_true,Bool.true_and,Q7]
    intro v hv
    obtain ⟨k,hk,rfl⟩:=List.mem_map.1 hv
    have:=hl k hk
    simp only [y9,Bool.and_eq_true,decide_eq_true_eq] at this
    simp [A4,this.1]
   rcases K.find w hkey es.toList hexk with ⟨g1,g2⟩|⟨j,e0,g1,g2,g3⟩
   ·have hn : ¬ ks ∈ ls := fun hin => by
     have:(P5 ks,Value.int .i64 1)∈es.toList.map fun e=>(e.key,e.val):=by rw [e4];exact List.mem_map.2 ⟨ks,hin,rfl⟩
     obtain ⟨x,hx,e⟩:=List.mem_map.1 this
     injection e with q1 q2
     exact g2 x hx q1
    refine ⟨{ w with heap:=w.heap.setIfInBounds (E.blk i) (.map (es.push ⟨P5 ks,.int .i64 1,clock⟩) (clock+1)) },
     by simp [Instr.mapUpdate,run_underlying ht,MapKept.run_getObj_map e2,K.check w false hkey,g1,MapKept.run_setObj_map _ e2,Result.andThen],?_⟩
    simp only [hn,decide_false,Bool.false_eq_true,if_false]
    have hnew:∀ k∈ls++[ks],y9 k=true:=fun k hk=>by
     rcases List.mem_append.1 hk with hk|hk
     ·exact e3 k hk
     ·rw [List.mem_singleton] at hk;rw [hk];exact hok
    have emap:ls.map (AV.ints .u8)++[AV.ints .u8 ks]=(ls++[ks]).map (AV.ints .u8):=by simp
    rw [emap]
    refine D7v R hb (hrow _ hnew) ⟨ls++[ks],_,clock+1,rfl,hself _,hnew,?_,e5,e6⟩ (by simp) (fun k hk=>hset _ k hk) ⟨rfl,rfl,rfl⟩
    simp [e4]
   ·have hm0:e0∈es.toList:=List.mem_of_getElem? g2
    obtain ⟨k,q1,q2,q3⟩:=hall e0 hm0
    have hin:ks∈ls:=by
     rw [g3] at q2
     rw [D7b q2];exact q1
    have hj:es[j]?=some e0:=by simpa using g2
    refine ⟨{ w with heap:=w.heap.setIfInBounds (E.blk i) (.map (es.modify j (fun e'=>{ e' with key:=P5 ks,val:=.int .i64 1 })) clock) },
     by simp [Instr.mapUpdate,run_underlying ht,MapKept.run_getObj_map e2,K.check w false hkey,g1,hj,g3,K.stays w hkey,MapKept.run_setObj_map _ e2,Result.andThen],?_⟩
    simp only [hin,decide_true,if_true]
    refine D7v R hb (hrow _ e3) ⟨ls,_,clock,rfl,hself _,e3,?_,e5,e6⟩ (by simp) (fun k hk=>hset _ k hk) ⟨rfl,rfl,rfl⟩
    rw [←e4]
    have hlist:(es.modify j (fun e'=>{ e' with key:=P5 ks,val:=.int .i64 1 })).toList=es.toList.set j { e0 with key:=P5 ks,val:=.int .i64 1 }:=by
     rw [Array.toList_modify,ChangeMaps.modify_eq_set _ _ _ _ g2]
    rw [hlist,List.map_set]
    apply List.ext_getElem?
    intro q
    rw [List.getElem?_set]
    split
    ·rename_i hq
     subst hq
     have hjl:j < es.toList.length:=(List.getElem?_eq_some_iff.1 g2).1
     rw [if_pos (by simpa using hjl),List.getElem?_map,g2]
     simp [g3,q3]
    ·rfl
  ·cases he
 ·cases he
theorem F31 {r:AV × A3} (he:A7T h=some r):∃ E',VRel E' r.1 (.map (some w.heap.size))∧Moves E h w E' r.2 (w.alloc (.map #[] 0)):=by
 cases he
 have hX:=Gh.push_ext E w.heap.size 0 0 true (.arr 0 (.arr 32 (.int .u8)))
 refine ⟨E.push w.heap.size 0 0 true (.arr 0 (.arr 32 (.int .u8))),?_,?_⟩
 ·simp only [VRel]
  exact ⟨_,rfl,by simp [Gh.push,R.n],fun _ => by simp [Gh.push,R.n]⟩
 generalize hE:E.push w.heap.size 0 0 true (.arr 0 (.arr 32 (.int .u8)))=E' at hX ⊢
 have hheap:(w.alloc (.map #[] 0)).heap=w.heap.push (.map #[] 0):=rfl
 have hold:∀ k,k < w.heap.size→(w.alloc (.map #[] 0)).heap[k]?=w.heap[k]?:=by
  intro k hk
  rw [hheap,Array.getElem?_push,if_neg (by omega)]
 have hget:∀ (j:Nat) (c:Blk),(h++[⟨.node [],0,.mp⟩])[j]?=some c→(j=E.n∧c=⟨.node [],0,.mp⟩)∨(j < E.n∧h[j]?=some c):=by
  intro j c hj
  rw [R.n]
  by_cases e:j < h.length
  ·rw [List.getElem?_append_left e] at hj;exact .inr ⟨e,hj⟩
  ·rw [List.getElem?_append_right (by omega)] at hj
   have:j - h.length=0:=by
    have:=(List.getElem?_eq_some_iff.1 hj).1
    simp at this;omega
   rw [this] at hj;simp at hj
   exact .inl ⟨by omega,hj.symm⟩
 have hroom:∀ j,j < E.n→E'.room j=E.room j:=fun j hj=>by rw [←hE];simp [Gh.push,Nat.ne_of_lt hj]
 have hblk:∀ j,j < E.n→E'.blk j=E.blk j:=fun j hj=>by rw [←hE];simp [Gh.push,Nat.ne_of_lt hj]
 have hbn:E'.blk E.n=w.heap.size:=by rw [←hE];simp [Gh.push]
 have hty:E'.ty E.n=.arr 0 (.arr 32 (.int .u8)):=by rw [←hE];simp [Gh.push]
 have hmany:E'.many E.n=true:=by rw [←hE];simp [Gh.push]
 have hplaced:∀ (j:Nat) (c:Blk),j < E.n→(G8 E' j c↔G8 E j c):=fun j c hj=>by unfold G8;rw [hroom j hj]
 refine ⟨hX,⟨by rw [←hE];simp [Gh.push,R.n],fun j c hj=>?_,fun j k c d hj hk hP hO e=>?_⟩,by rw [hheap];simp,fun x hx _ => hold x hx,fun x hx=>?_,⟨rfl,rfl,rfl⟩⟩
 ·rcases hget j c hj with ⟨rfl,rfl⟩|⟨hjn,hj⟩
  ·refine ⟨by rw [←hE];simp [Gh.push],?_,fun _ => ⟨[],#[],0,rfl,?_,by simp,by simp,hty,hmany⟩,fun hm=>absurd rfl hm,fun hm=>by cases hm⟩
   ·unfold O1
    rw [if_pos hmany]
    exact ⟨0,_,hty,by simp [A4,G7]⟩
   ·rw [hbn,hheap];simp
  ·have B:=R.at_ j c hj
   have hne:=Nat.ne_of_lt hjn
   refine ⟨by rw [←hE];simp [Gh.push,hne];exact B.ver,?_,fun hm=>(B.mp hm).ghost (by rw [hblk j hjn,hold _ (a8 R hj (A0W hm))]) (by rw [←hE];simp [Gh.push,hne]) (by rw [←hE];simp [Gh.push,hne]),fun hmm=>?_,fun hm=>?_⟩
   ·have:=B.fits;rw [←hE];unfold O1 at *;simpa [Gh.push,hne] using this
   ·obtain ⟨l1,hl1,hl2,hl3⟩:=B.body hmm
    refine ⟨l1,VRl.mono hX _ _ hl1,fun hP=>?_,fun hP=>hl3 (fun h=>hP ((hplaced j c hjn).2 h))⟩
    have hP':=(hplaced j c hjn).1 hP
    obtain ⟨arr,te,fr,pre,post,h1,h2,h3,h4⟩:=hl2 hP'
    refine ⟨arr,te,fr,pre,post,?_,h2,by rw [←hE];simpa [Gh.push,hne] using h3,by rw [←hE];simpa [Gh.push,hne] using h4⟩
    rw [hblk j hjn,hold _ (a8 R hj hP')];exact h1
   ·have:=B.grow hm;rw [←hE];simpa [Gh.push,hne] using this
 ·rcases hget j c hj with ⟨ej,ec⟩|⟨hjn,hj'⟩ <;> rcases hget k d hk with ⟨ek,ed⟩|⟨hkn,hk'⟩
  ·omega
  ·have:=a8 R hk' ((hplaced k d hkn).1 hO.2)
   rw [hblk k hkn,ej,hbn] at e;omega
  ·have:=a8 R hj' ((hplaced j c hjn).1 hP)
   rw [hblk j hjn,ek,hbn] at e;omega
  ·rw [hblk j hjn,hblk k hkn] at e
   exact R.inj j k c d hj' hk' ((hplaced j c hjn).1 hP) ⟨hO.1,(hplaced k d hkn).1 hO.2⟩ e
 ·obtain ⟨j,c,hj,hO,e⟩:=hx
  rcases hget j c hj with ⟨rfl,rfl⟩|⟨hjn,hj⟩
  ·right;rw [hbn] at e;omega
  ·left;exact ⟨j,c,hj,⟨hO.1,(hplaced j c hjn).1 hO.2⟩,by rw [←e,hblk j hjn]⟩
end
end Go.Vab

namespace Go.Vab
open Go
theorem F57 {P:Program} {w:World} {a:Addr} {te:TypeId} {n:Nat} (hs:w.shape? a.block=some (te,n)):(markStringish a).run P w=.ok () (w.freeze { block:=a.block,off:=n } 1):=by
 simp [markStringish,shape,freeze,Sem.run,hs]
theorem F4n (w:World) (a:Addr) (n:Nat):Io w (w.freeze a n):=by
 unfold World.freeze
 split <;> exact ⟨rfl,rfl,rfl⟩
theorem F32 (w:World) (a:Addr) (n:Nat):(w.freeze a n).heap.size=w.heap.size:=by
 unfold World.freeze
 split
 ·rfl
 ·simp
theorem B6d {w:World} {a:Addr} {n x:Nat} (h:x≠a.block):(w.freeze a n).heap[x]?=w.heap[x]?:=by
 unfold World.freeze
 split
 ·rfl
 ·simp only [Array.getElem?_modify]
  rw [if_neg (fun e=>h e.symm)]
theorem F4o {w:World} {a:Addr} {n:Nat} {arr:Array Value} {te:TypeId} {fr:Nat × Nat} (h:w.heap[a.block]?=some (.cells arr te fr)):∃ fr',(w.freeze a n).heap[a.block]?=some (.cells arr te fr'):=by
 unfold World.freeze
 split
 ·exact ⟨fr,h⟩
 ·simp only [Array.getElem?_modify,if_true,h,Option.map_some]
  obtain ⟨lo,hi⟩:=fr
  exact ⟨_,rfl⟩
def A2h (x:AV) (h:A3):Option (AV × A3):=match x with
 | .slice i ver path t off len (some c)=>bnd (blkAt h i ver) fun b=>if b.mode=.own∧len≠0∧t.size≠0 then bnd (C7 t x h) fun _ => some (x,h.set i { b with mode:=.ro }) else none
 | _ => none
section
variable {P:Program} {E:Gh} {h:A3} {w:World} (R:RelHeap E h w)
include R
theorem F33 {i ver : Nat} {path : List Nat} {t : Ty} {off len c : Nat} {b : Blk} {new : AV} {y : Value} (hb : blkAt h i ver = some b) (he : C7 t (.slice i ver path t off len (some c)) h = some new) (hx : VRel E (.slice i ver path t off len (some c)) y) (hn : len ≠ 0) (ht : t.size ≠ 0) :
  ∃ a m te k,y=.slice (some a) len m∧a.block=E.blk i∧w.shape? a.block=some (te,k):=by
 simp only [C7,Ty.beq_self,if_true,hb,G9] at he
 obtain ⟨r,hg,he⟩:=bnd_eq_some.1 he
 simp only [VRel] at hx
 obtain ⟨a,m,rfl,hi,hv,hlen,hcap,hcn,hs⟩:=hx
 obtain ⟨hbi,hbv⟩:=Q8 hb
 have hver:ver=E.ver i:=by rw [←hbv];exact (R.at_ i b hbi).ver
 obtain ⟨o,n,hsub,ha,hroom⟩:=hs hver
 obtain ⟨m',l,hm,hl,hc⟩:=A4c R hver hsub hb hg
 obtain ⟨k1,k2,k3⟩:=A3I he hm hl
 have hll:=VRl.len new _ _ k1 k3
 simp only [Ty.size] at hll
 have hpos:0 < len * t.size:=Nat.mul_pos (by omega) (by omega)
 have hl0:∃ v,l[off * t.size]?=some v:=by
  have:off * t.size < l.length:=by
   rw [List.length_take,List.length_drop] at hll;omega
  exact ⟨_,List.getElem?_eq_getElem this⟩
 obtain ⟨v,hv0⟩:=hl0
 have hcell:=hc _ v hv0
 have ha':=ha (by omega)
 obtain ⟨te,k,hsh,_,_⟩:=World.shape?_of_cell? hcell
 refine ⟨a,m,te,k,rfl,by rw [ha'],by rw [ha'];exact hsh⟩
theorem F4M {x : AV} {y : Value} {r : AV × A3} {f e : TypeId} (hf : P.underlying f = some (.slice e)) (hu : P.underlying e = some (.int .u8)) (hx : VRel E x y) (hr : A2h x h = some r) :
  ∃ w',(convert f f y).run P w=.ok y w'∧r.1=x∧Moves E h w E r.2 w':=by
 cases x with
 | slice i ver path t off len cap =>
  cases cap with
  | none=>cases hr
  | some c =>
   simp only [A2h] at hr
   obtain ⟨b,hb,hr⟩:=bnd_eq_some.1 hr
   split at hr
   ·rename_i hc
    obtain ⟨hown,hlen,ht⟩:=hc
    obtain ⟨new,he,hr⟩:=bnd_eq_some.1 hr
    cases hr
    obtain ⟨a,m,te,k,rfl,hbk,hsh⟩:=F33 R hb he hx hlen ht
    obtain ⟨hbi,hbv⟩:=Q8 hb
    have B:=R.at_ i b hbi
    have hpl:G8 E i b:=fun q=>by rw [hown] at q;cases q.1
    have hOwn:Own E i b:=⟨by rw [hown];simp,hpl⟩
    refine ⟨w.freeze { block:=a.block,off:=k } 1,?_,rfl,Ext.refl E,?_,by rw [F32];exact Nat.le_refl _,fun z _ hz=>?_,fun z hz=>.inl ?_,F4n _ _ _⟩
    ·have:=F57 (P:=P) hsh
     simp [convert,run_underlying hf,run_underlying hu,this]
    ·have hlt:=(List.getElem?_eq_some_iff.1 hbi).1
     refine ⟨by rw [List.length_set];exact R.n,fun j bj hj=>?_,fun p q bp bq hp hq hP hQ hpq=>?_⟩
     ·rw [List.getElem?_set] at hj
      split at hj
      ·rename_i hij
       subst hij
       try rw [if_pos hlt] at hj
       cases hj
       obtain ⟨l,h1,h2,h3⟩:=B.body (by rw [hown];simp)
       obtain ⟨arr,te',fr,pre,post,g1,g2,g3,_⟩:=h2 hpl
       obtain ⟨fr',g4⟩:=F4o (w:=w) (a:={ block:=a.block,off:=k }) (n:=1) (show w.heap[a.block]? = _ by rw [hbk];exact g1)
       have g4:(w.freeze { block:=a.block,off:=k } 1).heap[E.blk i]?=some (.cells arr te' fr'):=by rw [←hbk];exact g4
       exact ⟨B.ver,B.fits,fun q=>(by cases q),fun _ => ⟨l,h1,fun _ => ⟨arr,te',fr',pre,post,g4,g2,g3,fun q=>absurd rfl q⟩,fun q=>absurd (fun hq=>(by cases hq.1)) q⟩,fun q=>(by cases q)⟩
      ·rename_i hij
       have Bj:=R.at_ j bj hj
       have hne:∀ hP:G8 E j bj,E.blk j≠a.block:=fun hP e=>hij (R.inj j i bj b hj hbi hP hOwn (by rw [e,hbk])).symm
       refine ⟨Bj.ver,Bj.fits,fun hm=>(Bj.mp hm).same (B6d (hne (A0W hm))),fun hm=>?_,Bj.grow⟩
       obtain ⟨l,h1,h2,h3⟩:=Bj.body hm
       exact ⟨l,h1,fun hP=>by rw [B6d (a:={ block:=a.block,off:=k }) (hne hP)];exact h2 hP,h3⟩
     ·have key : ∀ {p : Nat} {bp : Blk}, (h.set i { b with mode := .ro })[p]? = some bp → ∃ c, h[p]? = some c ∧ (G8 E p bp → G8 E p c) ∧ (Own E p bp → Own E p c) := by
       intro p bp hp
       rw [List.getElem?_set] at hp
       split at hp
       ·rename_i hip
        subst hip
        try rw [if_pos hlt] at hp
        cases hp
        exact ⟨b,hbi,fun _ => hpl,fun q=>absurd rfl q.1⟩
       ·exact ⟨bp,hp,id,id⟩
      obtain ⟨c1,e1,f1,_⟩:=key hp
      obtain ⟨c2,e2,_,f2⟩:=key hq
      exact R.inj p q c1 c2 e1 e2 (f1 hP) (f2 hQ) hpq
    ·exact B6d fun e=>hz ⟨i,b,hbi,hOwn,by rw [e,hbk]⟩
    ·obtain ⟨j,cj,hj,hO,e⟩:=hz
     rw [List.getElem?_set] at hj
     split at hj
     ·rename_i hij
      subst hij
      try rw [if_pos (List.getElem?_eq_some_iff.1 hbi).1] at hj
      cases hj
      exact absurd rfl hO.1
     ·exact ⟨j,cj,hj,hO,e⟩
   ·cases hr
 | _ => cases hr
end
def C0Z (P:Program) (f:TypeId):Prop:=∃ e,P.underlying f=some (.slice e)∧P.underlying e=some (.int .u8)
open Classical in
noncomputable def ifY {α:Type} (P:Program) (f:TypeId) (x:Option α):Option α:=if C0Z P f then x else none
theorem F58 {α:Type} {P:Program} {f:TypeId} {x:Option α} {a:α} (h:ifY P f x=some a):C0Z P f∧x=some a:=by
 unfold ifY at h
 split at h
 ·rename_i hb;exact ⟨hb,h⟩
 ·cases h
theorem F7y {α:Type} {P:Program} {f:TypeId} (hb:C0Z P f) (x:Option α):ifY P f x=x:=if_pos hb
def B54 (C:Ctx) (f:Nat):Bool:=match C.tt f with
 | some i=>i.elem.isSome
 | none=>false
end Go.Vab

namespace Go.Vab
open Go
def SpecQ (P:Program) (g:Nat) (args:List AV) (h:A3) (K:AV × A3→Prop):Prop :=
 ∀ (E:Gh) (w:World) (xs:List Value),RelHeap E h w→VRc E args xs →
  ((∃ fn, P.funcs[g]? = some fn ∧ (fn.name == "runtime.NumGoroutine") = false ∧ fn.body.isNone = false) ∧
   Calls P g xs.toArray w fun e w'=>∃ r E' x,K r∧e=.returned x∧VRel E' r.1 x∧Moves E h w E' r.2 w') ∨
  (∃ x w' r E',(callFunc g xs.toArray).run P w=.ok (.value x) w'∧K r∧VRel E' r.1 x∧Moves E h w E' r.2 w')
theorem SpecQ.mono {P:Program} {g:Nat} {args:List AV} {h:A3} {K K':AV × A3→Prop} (hs:SpecQ P g args h K) (hK:∀ r,K r→K' r):SpecQ P g args h K':=by
 intro E w xs R hx
 rcases hs E w xs R hx with ⟨h1,h2⟩|⟨x,w',r,E',h1,h2,h3,h4⟩
 ·refine .inl ⟨h1,h2.mono fun e w' hp=>?_⟩
  obtain ⟨r,E',x,g1,g2⟩:=hp
  exact ⟨r,E',x,hK r g1,g2⟩
 ·exact .inr ⟨x,w',r,E',h1,hK r h2,h3,h4⟩
def u0 (row zero:AV) (m:Nat):Option AV:=row.join (K1 m zero)
def R4 (t:Ty) (bytes:Nat) (zero s x:AV) (h:A3) (K:AV × A3→Prop):Prop :=
 ∃ new n,C7 t x h=some new∧new.rowLen=some n∧match s with
  | .nilslice => (n = 0 ∧ K (.nilslice, h)) ∨ (0 < n ∧ n * bytes ≤ E0 ∧ n ≤ E0 ∧ bytes ≤ 1000000 ∧
    ∀ c row,n≤c→u0 new zero (c - n)=some row→K (.slice h.length 0 [] t 0 n (some c),h++[⟨row,0,.own⟩]))
  | .slice i ver path t' off len (some c) => ∃ old all, C7 t (.slice i ver path t' off len (some c)) h = some old ∧ old.join new = some all ∧
    ((n = 0 ∧ len ≤ c ∧ K (.slice i ver path t' off len (some c), h)) ∨
     (0 < n∧len+n≤c∧∃ b r r' v',blkAt h i ver=some b∧b.mode≠.ro∧b.v.get path=some r∧r.splice (off+len) n new=some r'∧b.v.put path r'=some v'∧K (.slice i ver path t' off (len+n) (some c),h.set i { b with v:=v' })) ∨
     (0 < n∧c < len+n∧(len+n) * bytes≤E0∧len+n≤E0∧bytes≤1000000 ∧
     ∀ c' row,len+n≤c'→u0 all zero (c' - (len+n))=some row→K (.slice h.length 0 [] t 0 (len+n) (some c'),h++[⟨row,0,.own⟩])))
  | _ => False
def G0f (t:Ty) (bytes:Nat) (zero s:AV) (n:Nat) (h:A3) (K:AV × A3→Prop):Prop:=match s with
 | .slice i ver path t' off len (some c) => ∃ old all, C7 t (.slice i ver path t' off len (some c)) h = some old ∧ old.join (K1 n zero) = some all ∧
   0 < n∧c < len+n∧(len+n) * bytes≤E0∧len+n≤E0∧bytes≤1000000 ∧
   ∀ c' row,len+n≤c'→u0 all zero (c' - (len+n))=some row→K (.slice h.length 0 [] t 0 (len+n) (some c'),h++[⟨row,0,.own⟩])
 | _ => False
def A0B (x:AV):Option AV:=match x with
 | .slice _ _ _ _ _ _ (some c)=>some (.int .i64 c)
 | .nilslice=>some (.int .i64 0)
 | _ => none
def Z6 (t:Ty) (zero x:AV) (h:A3):Option (AV × A3):=match x with
 | .nilslice=>some (.tuple [],h)
 | .slice i ver path t' off len _ => if len=0 then some (.tuple [],h) else if Ty.beq t' t then bnd (blkAt h i ver) fun b=>if b.mode=.ro then none else bnd (b.v.get path) fun r=>bnd (r.splice off len (K1 len zero)) fun r'=>bnd (b.v.put path r') fun v'=>some (.tuple [],h.set i { b with v:=v' }) else none
 | _ => none
def withTyP (C:Ctx) (t:Nat) (f:TI→(AV × A3→Prop)→Prop) (K:AV × A3→Prop):Prop:=match C.tt t with
 | some i=>f i K
 | none=>False
def optP {α:Type} (x:Option α) (f:α→(AV × A3→Prop)→Prop) (K:AV × A3→Prop):Prop:=match x with
 | some i=>f i K
 | none=>False
def tyP (t:Ty) (a b:(AV × A3→Prop)→Prop) (K:AV × A3→Prop):Prop:=match t with
 | .cell=>a K
 | .int _ => b K
 | _ => False
def B3c (t:Ty) (bytes:Nat) (zero s x:AV) (h:A3) (K:AV × A3→Prop):Prop:=∃ n:Nat,x=.int .i64 n∧n≤E0∧G0f t bytes zero s n h K
def bW (C:Ctx) (b:Builtin) (ats:Array TypeId) (as:List AV) (h:A3):(AV × A3→Prop)→Prop :=
 match b,as with
 | .append, [s, x] => optP ats[0]? fun t => optP ats[1]? fun u => withTyP C t fun i => withTyP C u fun j => optP i.elem fun e => withTyP C e fun el =>
   tyP j.ty (R4 el.ty el.bytes el.zero s x h) (B3c el.ty el.bytes el.zero s x h)
 | .cap,[x]=>optP ats[0]? fun t=>withTyP C t fun i=>optP i.elem fun _ => Evs (pureV h (A0B x))
 | .clear,[x]=>optP ats[0]? fun t=>withTyP C t fun i=>optP i.elem fun e=>withTyP C e fun el=>Evs (Z6 el.ty el.zero x h)
 | b,as=>Evs (A0F C b ats as h)
noncomputable def opW (P:Program) (C:Ctx) (V:Operand→AV) (h:A3) (op:Op):(AV × A3→Prop)→Prop:=match op with
 | .call c=>match c.callee with
  | .value f=>match V f with
   | .fn g caps=>SpecQ P g (c.args.toList.map V++caps) h
   | _ => fun _ => False
  | .builtin b=>bW C b c.argTypes (c.args.toList.map V) h
  | _ => fun _ => False
 | .makeMap t none=>Evs (ifT P t (A7T h))
 | .lookup t m k false=>Evs (pureV h (ifT P t (A2g (V m) (V k) h)))
 | .mapUpdate t m k x=>Evs (ifT P t (A2t (V m) (V k) (V x) h))
 | .convert f t x=>if f=t∧B54 C f=true then Evs (ifY P f (A2h (V x) h)) else Evs (E6 C false V h (.convert f t x))
 | op=>Evs (E6 C false V h op)
def gW (y:AV) (want:Bool) (X:(AV × A3→Prop)→Prop) (h:A3) (K:AV × A3→Prop):Prop:=match y with
 | .bool b=>if b=want then X K else K (.undef,h)
 | .undef=>K (.undef,h)
 | _ => False
def O2 (P:Program) (C:Ctx) (ops:List Oper) (o:Oper) (σ:Nat→AV) (h:A3):(AV × A3→Prop)→Prop :=
 match o.guard with
 | none=>opW P C (U0 σ) h o.op
 | some (j,want)=>match w7 ops j with
  | some d=>gW (σ d) want (opW P C (U0 σ) h o.op) h
  | none=>fun _ => False
def Mono (F:(AV × A3→Prop)→Prop):Prop:=∀ K K',(∀ r,K r→K' r)→F K→F K'
theorem F4p {t:Ty} {bytes:Nat} {zero s x:AV} {h:A3}:Mono (R4 t bytes zero s x h):=by
 rintro K K' hK ⟨new,n,h1,h2,h3⟩
 refine ⟨new,n,h1,h2,?_⟩
 cases s with
 | nilslice =>
  rcases h3 with ⟨g1,g2⟩|⟨g1,g2,g3,g4,g5⟩
  ·exact .inl ⟨g1,hK _ g2⟩
  ·exact .inr ⟨g1,g2,g3,g4,fun c row hc hr=>hK _ (g5 c row hc hr)⟩
 | slice i ver path t' off len cap =>
  cases cap with
  | none=>exact h3
  | some c =>
   obtain ⟨old,all,g1,g2,h4⟩:=h3
   refine ⟨old,all,g1,g2,?_⟩
   rcases h4 with ⟨q1,q2,q3⟩|⟨q1,q2,b,r,r',v',q3,q4,q5,q6,q7,q8⟩|⟨q1,q2,q3,q4,q5,q6⟩
   ·exact .inl ⟨q1,q2,hK _ q3⟩
   ·exact .inr (.inl ⟨q1,q2,b,r,r',v',q3,q4,q5,q6,q7,hK _ q8⟩)
   ·exact .inr (.inr ⟨q1,q2,q3,q4,q5,fun c row hc hr=>hK _ (q6 c row hc hr)⟩)
 | _ => exact h3
theorem F4N {t:Ty} {bytes:Nat} {zero s x:AV} {h:A3}:Mono (B3c t bytes zero s x h):=by
 rintro K K' hK ⟨n,h1,h2,ha⟩
 refine ⟨n,h1,h2,?_⟩
 cases s with
 | slice i ver path t' off len cap =>
  cases cap with
  | none=>exact ha
  | some c =>
   obtain ⟨old,all,g1,g2,q1,q2,q3,q4,q5,q6⟩:=ha
   exact ⟨old,all,g1,g2,q1,q2,q3,q4,q5,fun c row hc hr=>hK _ (q6 c row hc hr)⟩
 | _ => exact ha
theorem Mono.evs (m:Option (AV × A3)):Mono (Evs m):=fun _ _ hK h=>Evs.mono h hK
theorem Mono.ff:Mono (fun _ => False):=fun _ _ _ h=>h
theorem Mono.withTyP {C:Ctx} {t:Nat} {f:TI→(AV × A3→Prop)→Prop} (hf:∀ i,Mono (f i)):Mono (withTyP C t f):=by
 intro K K' hK h
 unfold Go.Vab.withTyP at h ⊢
 cases hc:C.tt t with
 | none=>rw [hc] at h;exact h
 | some i=>rw [hc] at h;exact hf i K K' hK h
theorem Mono.optP {α:Type} {x:Option α} {f:α→(AV × A3→Prop)→Prop} (hf:∀ i,Mono (f i)):Mono (optP x f):=by
 intro K K' hK h
 cases x with
 | none=>exact h
 | some i=>exact hf i K K' hK h
theorem Mono.tyP {t:Ty} {a b:(AV × A3→Prop)→Prop} (ha:Mono a) (hb:Mono b):Mono (tyP t a b):=by
 intro K K' hK h
 cases t with
 | cell=>exact ha K K' hK h
 | int k=>exact hb K K' hK h
 | _ => exact h
theorem F7z {C:Ctx} {b:Builtin} {ats:Array TypeId} {as:List AV} {h:A3}:Mono (bW C b ats as h):=by
 unfold bW
 split
 ·exact .optP fun _ => .optP fun _ => .withTyP fun _ => .withTyP fun _ => .optP fun _ => .withTyP fun _ => .tyP F4p F4N
 ·exact .optP fun _ => .withTyP fun _ => .optP fun _ => .evs _
 ·exact .optP fun _ => .withTyP fun _ => .optP fun _ => .withTyP fun _ => .evs _
 ·exact .evs _
theorem D8k {P:Program} {C:Ctx} {V:Operand→AV} {h:A3} {op:Op}:Mono (opW P C V h op):=by
 unfold opW
 split
 ·split
  ·split
   ·exact fun _ _ hK h=>SpecQ.mono h hK
   ·exact .ff
  ·exact F7z
  ·exact .ff
 ·exact .evs _
 ·exact .evs _
 ·exact .evs _
 ·split <;> exact .evs _
 ·exact .evs _
theorem F70 {y:AV} {want:Bool} {X:(AV × A3→Prop)→Prop} {h:A3} (hX:Mono X):Mono (gW y want X h):=by
 intro K K' hK ho
 cases y with
 | bool b =>
  simp only [gW] at ho ⊢
  split at ho
  ·rename_i hb;rw [if_pos hb];exact hX K K' hK ho
  ·rename_i hb;rw [if_neg hb];exact hK _ ho
 | undef=>exact hK _ ho
 | _ => exact ho
theorem A1o {P:Program} {C:Ctx} {ops:List Oper} {o:Oper} {σ:Nat→AV} {h:A3}:Mono (O2 P C ops o σ h):=by
 unfold O2
 split
 ·exact D8k
 ·split
  ·exact F70 D8k
  ·exact .ff
end Go.Vab

namespace Go.Vab
open Go
theorem F71 (z:Value):∀ q:Nat,(Builtin.zeroCells z.cells q).toList=(List.replicate q z.cells.toList).flatten:=by
 intro q
 simp only [Builtin.zeroCells,Array.toList_map,Array.toList_range]
 induction q with
 | zero=>simp
 | succ q ih =>
  rw [Nat.succ_mul,Nat.add_comm,List.range_add,List.map_append,List.replicate_succ,List.flatten_cons]
  congr 1
  ·apply List.ext_getElem?
   intro k
   by_cases hk:k < z.cells.size
   ·simp [hk,Nat.mod_eq_of_lt hk]
   ·simp [hk]
  ·rw [←ih,List.map_map]
   apply List.map_congr_left
   intro x _
   simp [Nat.add_mod_left]
theorem B6T {E:Gh} {zero:AV} {t:Ty} {z:Value} (hz:A4 zero t=true) (hr:VRel E zero z) (m:Nat):A4 (K1 m zero) (.arr m t)=true∧VRl E (K1 m zero) (Builtin.zeroCells z.cells m).toList:=by
 rw [F71]
 have hzc:=VRel.cells hz hr
 have node:∀ zz:AV,zero=zz→(∀ k n,zz≠.int k n)→A4 (AV.node (List.replicate m zz)) (.arr m t)=true∧VRl E (.node (List.replicate m zz)) (List.replicate m z.cells.toList).flatten:=by
  intro zz hzz hni
  have hall:G7 (List.replicate m zz) t=true:=by
   rw [Q7]
   intro v hv
   obtain ⟨_,rfl⟩:=List.mem_replicate.1 hv
   rw [←hzz];exact hz
  have hni':∀ k,t≠.int k:=by
   rintro k rfl
   cases zero <;> simp [A4,AV.oneCell] at hz
   exact hni _ _ hzz.symm
  constructor
  ·cases t with
   | int k=>exact absurd rfl (hni' k)
   | _ => simp [A4,hall]
  ·simp only [VRl]
   have hv:∀ q,VRs E (List.replicate q zz) ((List.replicate q z.cells.toList).flatten):=by
    intro q
    induction q with
    | zero=>simp [VRs]
    | succ q ih =>
     rw [List.replicate_succ,List.replicate_succ,List.flatten_cons]
     exact VRs.cons (by rw [←hzz];exact hzc) ih
   exact hv m
 cases hzz:zero with
 | int k z0 =>
  subst hzz
  have hk:t=.int k:=by cases t <;> simp [A4,AV.oneCell] at hz;rw [hz]
  have hzv:z=.int k z0:=by simpa only [VRel] using hr
  subst hk;subst hzv
  constructor
  ·simp [K1,A4]
  ·simp only [K1,VRl]
   simp [Value.cells]
 | _ => simp only [K1];exact node _ hzz (by simp)
theorem F4q {a b:AV} {n m:Nat} {t:Ty} (ha:A4 a (.arr n t)=true) (hb:A4 b (.arr m t)=true):∃ r,a.join b=some r:=by
 cases a with
 | ints k xs =>
  obtain ⟨rfl,h1⟩:=U3 ha
  cases b with
  | ints k' ys =>
   obtain ⟨e,_⟩:=U3 hb
   cases e
   exact ⟨_,by simp [AV.join];rfl⟩
  | node us=>simp [A4] at hb
  | _ => simp [A4] at hb
 | node vs =>
  cases b with
  | ints k' ys =>
   obtain ⟨rfl,_⟩:=U3 hb
   simp [A4] at ha
  | node us=>exact ⟨_,rfl⟩
  | _ => cases t <;> simp [A4] at hb
 | _ => cases t <;> simp [A4] at ha
theorem B6e {E : Gh} {h : A3} {w w' : World} (R : RelHeap E h w) {t : Ty} {all zero : AV} {n c : Nat} (hrow : A4 all (.arr n t) = true) {l : List Value} (hl : VRl E all l) {z : Value} (hzt : A4 zero t = true) (hz : VRel E zero z)
  {arr:Array Value} {te:TypeId} (hw:w'.heap=w.heap.push (.cells arr te (0,0))) (hc:n≤c) (ha:arr.toList=l++(Builtin.zeroCells z.cells (c - n)).toList) (hio:Io w w') :
  ∃ row E',u0 all zero (c - n)=some row∧VRel E' (.slice h.length 0 [] t 0 n (some c)) (.slice (some ⟨w.heap.size,0,none⟩) n c)∧Moves E h w E' (h++[⟨row,0,.own⟩]) w':=by
 obtain ⟨z1,z2⟩:=B6T hzt hz (c - n)
 obtain ⟨row,hr⟩:=F4q hrow z1
 obtain ⟨r1,r2⟩:=A29 hr hrow z1 hl z2
 rw [show n+(c - n)=c by omega] at r1
 refine ⟨row,E.push w.heap.size arr.size 0 true (.arr 0 t),hr,?_,?_⟩
 ·simp only [VRel]
  refine ⟨_,c,rfl,by simp [Gh.push,R.n],by simp [Gh.push,R.n],hc,fun x hx=>by simpa using hx,fun hx=>(by cases hx),fun _ => ⟨0,0,by simp [Gh.push,R.n,Ty.sub],fun _ => by simp [Gh.push,R.n],fun hx=>(by cases hx)⟩⟩
 ·exact A1i R ⟨row,0,.own⟩ arr.size true (.arr 0 t) (by simp) (by simp only [if_true];exact ⟨c,t,rfl,r1⟩) (by simp) r2 (.inl ⟨arr,te,(0,0),[],hw,by simp [ha],rfl,by simp⟩) hio
section
variable {P:Program} {tt:Nat→Option TI} (T:TTok P tt) {E:Gh} {h:A3} {w:World} (R:RelHeap E h w)
 {st xt e:Nat} {el:TI} {ats:Array TypeId} {ty:TypeId} (hst:ats[0]?=some st) (hxt:ats[1]?=some xt) (hu:P.underlying st=some (.slice e)) (hel:tt e=some el)
include T hst hxt hu hel
theorem F2Q {need cap bytes:Nat} (hgt:cap < need) (hb1:need * bytes≤E0) (hb3:bytes≤1000000):¬ (Builtin.nextslicecap need cap * bytes > 2 ^ 48):=by
 have h1:=D60 need cap hgt
 have h2:Builtin.nextslicecap need cap * bytes≤(need+need / 4+512) * bytes:=Nat.mul_le_mul_right _ h1
 have h3:need / 4 * bytes≤need * bytes / 4:=by
  rw [Nat.le_div_iff_mul_le (by omega)]
  have:need / 4 * bytes * 4=(need / 4 * 4) * bytes:=by rw [Nat.mul_assoc,Nat.mul_comm bytes 4,←Nat.mul_assoc]
  rw [this]
  exact Nat.mul_le_mul_right _ (Nat.div_mul_le_self _ _)
 rw [Nat.add_mul,Nat.add_mul] at h2
 unfold E0 at hb1
 omega
theorem D67 {dx : TypeDesc} (hux : P.underlying xt = some dx) (hdx : ∀ k, dx ≠ .int k) {base : Option Addr} {len cap n : Nat} {yx : Value} {old new : Array Value} (hn : (Builtin.lenOf yx).run P w = .ok n w) (hgt : cap < len + n)
  (hold:∀ w',w'.heap=w.heap→(Builtin.firstCells el.ty.size len (.slice base len cap)).run P w'=.ok old w')
  (hnew:∀ w',w'.heap=w.heap→(Builtin.firstCells el.ty.size n yx).run P w'=.ok new w')
  (hb1:(len+n) * el.bytes≤E0) (hb2:len+n≤E0) (hb3:el.bytes≤1000000) :
  ∃ c w' z,(∀ E,VRel E el.zero z)∧(Builtin.append_ ats ty #[.slice base len cap,yx]).run P w=.ok (.slice (some ⟨w.heap.size,0,none⟩) (len+n) c) w' ∧
   w'.heap=w.heap.push (.cells (old++new++Builtin.zeroCells z.cells (c - (len+n))) e (0,0))∧len+n≤c∧Io w w':=by
 obtain ⟨f,z0,hf,hfs,hfb,hz0,hzr⟩:=T.info e el hel
 obtain ⟨z,hz,hzrel⟩:=A1f T hel { w with drawn:=w.drawn+1 }
 have hti:∀ w,(typeInfo e).run P w=.ok f w:=fun w=>by simp [typeInfo,hf]
 have hcapb:¬ (Builtin.nextslicecap (len+n) cap * f.bytes > 2 ^ 48):=by rw [hfb];exact F2Q T hst hxt hu hel hgt hb1 hb3
 have hcut:∀ t,len+n≤(Question.appendCap (len+n) cap e).cut t:=fun t=>by simp [Question.cut]
 obtain ⟨c,hc⟩:∃ c,c=(Question.appendCap (len+n) cap e).cut (w.tape w.drawn (.appendCap (len+n) cap e)):=⟨_,rfl⟩
 have hcge:len+n≤c:=by rw [hc];exact hcut _
 refine ⟨c,{ w with drawn:=w.drawn+1,heap:=w.heap.push (.cells (old++new++Builtin.zeroCells z.cells (c - (len+n))) e (0,0)) },z,hzrel,?_,rfl,hcge,⟨rfl,rfl,rfl⟩⟩
 have hle:¬ (len+n≤cap):=by omega
 have hmax:¬ (((len+n:Nat):Int) > IntKind.i64.max):=by
  unfold E0 at hb2
  simp [IntKind.max,IntKind.signed,IntKind.bits];omega
 simp only [Builtin.append_,hst,hxt]
 simp only [List.getElem?_toArray,List.getElem?_cons_zero,List.getElem?_cons_succ,Sem.run_bind,run_underlying hu w,run_underlying hux w,Result.andThen_ok,P7 T hel w]
 simp only [Sem.run_pure,Result.andThen_ok]
 have key:((Builtin.firstCells el.ty.size len (.slice base len cap)).run P { w with drawn:=w.drawn+1 })=.ok old { w with drawn:=w.drawn+1 }:=hold _ rfl
 have key2:((Builtin.firstCells el.ty.size n yx).run P { w with drawn:=w.drawn+1 })=.ok new { w with drawn:=w.drawn+1 }:=hnew _ rfl
 cases dx <;> first
  | exact absurd rfl (hdx _)
  | (simp only [Bool.false_eq_true,if_false,Sem.run_bind,hn,Result.andThen_ok,Bool.not_false,if_true,hle,hti,hmax,false_and,hcapb,run_choose,Question.forced,run_askRoom,key,key2,hz,newRow,run_newObj,Sem.run_pure,←hc])
theorem F3m (hne : el.ty.size ≠ 0) {kn : IntKind} (hux : P.underlying xt = some (.int kn)) {base : Option Addr} {len cap n : Nat} {old : Array Value} (h0 : 0 < n) (hgt : cap < len + n)
  (hold:∀ w',w'.heap=w.heap→(Builtin.firstCells el.ty.size len (.slice base len cap)).run P w'=.ok old w')
  (hb1:(len+n) * el.bytes≤E0) (hb2:len+n≤E0) (hb3:el.bytes≤1000000) :
  ∃ c w' z,(∀ E,VRel E el.zero z)∧(Builtin.append_ ats ty #[.slice base len cap,.int .i64 n]).run P w=.ok (.slice (some ⟨w.heap.size,0,none⟩) (len+n) c) w' ∧
   w'.heap=w.heap.push (.cells (old++Builtin.zeroCells z.cells n++Builtin.zeroCells z.cells (c - (len+n))) e (0,0))∧len+n≤c∧Io w w':=by
 obtain ⟨f,z0,hf,hfs,hfb,hz0,hzr⟩:=T.info e el hel
 have hz:∀ w,(zeroValue e).run P w=.ok z0 w:=fun w=>by simp [zeroValue,typeInfo,hf,hz0]
 have hti:∀ w,(typeInfo e).run P w=.ok f w:=fun w=>by simp [typeInfo,hf]
 have hcapb:¬ (Builtin.nextslicecap (len+n) cap * f.bytes > 2 ^ 48):=by rw [hfb];exact F2Q T hst hxt hu hel hgt hb1 hb3
 have hcut:∀ t,len+n≤(Question.appendCap (len+n) cap e).cut t:=fun t=>by simp [Question.cut]
 obtain ⟨c,hc⟩:∃ c,c=(Question.appendCap (len+n) cap e).cut (w.tape w.drawn (.appendCap (len+n) cap e)):=⟨_,rfl⟩
 have hcge:len+n≤c:=by rw [hc];exact hcut _
 refine ⟨c,{ w with drawn:=w.drawn+1,heap:=w.heap.push (.cells (old++Builtin.zeroCells z0.cells n++Builtin.zeroCells z0.cells (c - (len+n))) e (0,0)) },z0,hzr,?_,rfl,hcge,⟨rfl,rfl,rfl⟩⟩
 have hle:¬ (len+n≤cap):=by omega
 have hmax:¬ (((len+n:Nat):Int) > IntKind.i64.max):=by
  unfold E0 at hb2
  simp [IntKind.max,IntKind.signed,IntKind.bits];omega
 have hw:IntKind.i64.wrap (n:Int)=n:=by
  unfold E0 at hb2
  unfold IntKind.wrap
  simp [IntKind.bits,IntKind.signed];omega
 have hneg:¬ ((n:Int) < 0):=by omega
 have h48:¬ ((n:Int) * (f.bytes:Int) > 2 ^ 48):=by
  rw [hfb]
  have:n * el.bytes≤(len+n) * el.bytes:=Nat.mul_le_mul_right _ (by omega)
  unfold E0 at hb1
  have h2:n * el.bytes≤140737488355328:=by omega
  have:(n:Int) * (el.bytes:Int)=((n * el.bytes:Nat):Int):=by simp
  omega
 have hns:¬ (n * el.ty.size=0):=Nat.mul_ne_zero (by omega) hne
 have key:((Builtin.firstCells el.ty.size len (.slice base len cap)).run P { w with drawn:=w.drawn+1 })=.ok old { w with drawn:=w.drawn+1 }:=hold _ rfl
 simp only [Builtin.append_,hst,hxt]
 simp only [List.getElem?_toArray,List.getElem?_cons_zero,List.getElem?_cons_succ,Sem.run_bind,run_underlying hu w,run_underlying hux w,Result.andThen_ok,P7 T hel w]
 simp only [Sem.run_pure,Result.andThen_ok,if_true,Sem.run_bind,asInt,asIntOf,hw,hneg,if_false,hti,h48,Int.toNat_natCast,hle,hmax,false_and,hcapb,run_choose,Question.forced,run_askRoom,key,Bool.not_true,Bool.false_eq_true,hns,hz,newRow,run_newObj,←hc]
theorem F4O (hne : el.ty.size ≠ 0) {dx : TypeDesc} (hux : P.underlying xt = some dx) (hdx : ∀ k, dx ≠ .int k) (R : RelHeap E h w)
  {s x:AV} {ys yx:Value} {K:AV × A3→Prop} (hs:VRel E s ys) (hx:VRel E x yx) (he:R4 el.ty el.bytes el.zero s x h K) :
  ∃ r E' w' y,(Builtin.append_ ats ty #[ys,yx]).run P w=.ok y w'∧K r∧VRel E' r.1 y∧Moves E h w E' r.2 w':=by
 obtain ⟨new,n,hnew,hrl,he⟩:=he
 obtain ⟨n',ln,k1,k2,k3,k4,k5⟩:=A05 (P:=P) R hnew hx
 have e1:n=n':=by rw [hrl] at k1;exact Option.some.inj k1
 subst e1
 have hlnew:=VRl.len new _ _ k2 k3
 simp only [Ty.size] at hlnew
 have k5w:∀ w':World,w'.heap=w.heap→(Builtin.firstCells el.ty.size n yx).run P w'=.ok ln.toArray w':=fun w' hw'=>by
  have:=k5 w' hw' n (Nat.le_refl _)
  rwa [←hlnew,List.take_length] at this
 cases s with
 | nilslice =>
  simp only [VRel] at hs;subst hs
  rcases he with ⟨hn0,hK⟩|⟨hn0,hb1,hb2,hb3,hK⟩
  ·have hln:ln=[]:=List.eq_nil_of_length_eq_zero (by rw [hlnew,hn0];simp)
   refine ⟨_,E,w,.slice none 0 0,?_,hK,by simp only [VRel],Moves.refl R⟩
   rw [A0T T hst hxt hu hel hux hdx k4 (by omega) (k5w w rfl)]
   simp [hn0]
  ·obtain ⟨c, w', z, h0, h1, h2, h3, h4⟩ := D67 (P := P) T hst hxt hu hel hux hdx (base := none) (len := 0) (cap := 0) (ty := ty) k4 (by omega) (old := #[]) (fun w' _ => by simp [Builtin.firstCells]) k5w
    (by simpa using hb1) (by simpa using hb2) hb3
   simp only [Nat.zero_add] at h1 h2 h3
   obtain ⟨row,E',g0,g1,g2⟩:=B6e R (te:=e) k2 k3 (T.zero e el hel) (h0 E) h2 h3 (by simp) h4
   exact ⟨_,E',w',_,h1,hK c row h3 g0,g1,g2⟩
 | slice i ver path t' off len cap =>
  cases cap with
  | none=>exact he.elim
  | some c0 =>
   obtain ⟨old,all,hold,hall,he⟩:=he
   obtain ⟨no,lo,o1,o2,o3,o4,o5⟩:=A05 (P:=P) R hold hs
   have hs':=hs
   simp only [VRel] at hs
   obtain ⟨a,c,rfl,hi,hv,hlen,hcap,hcn,hslc⟩:=hs
   have hc0:c=c0:=hcap c0 rfl
   subst hc0
   have hno:no=len:=by
    simp only [Builtin.lenOf,Sem.run_pure] at o4
    injection o4 with o4 _;exact o4.symm
   subst hno
   have hlold:=VRl.len old _ _ o2 o3
   simp only [Ty.size] at hlold
   obtain ⟨j1,j2⟩:=A29 hall o2 k2 o3 k3
   have hold':∀ w':World,w'.heap=w.heap→(Builtin.firstCells el.ty.size no (.slice (some a) no c)).run P w'=.ok lo.toArray w':=fun w' hw'=>by
    have:=o5 w' hw' no (Nat.le_refl _)
    rwa [←hlold,List.take_length] at this
   rcases he with ⟨hn0,hle,hK⟩|⟨hn0,hroom,b,r,r',v',hbk,hmode,hg,hsp,hput,hK⟩|⟨hn0,hgt,hb1,hb2,hb3,hK⟩
   ·have hln:ln=[]:=List.eq_nil_of_length_eq_zero (by rw [hlnew,hn0];simp)
    refine ⟨_,E,w,.slice (some a) no c,?_,hK,hs',Moves.refl R⟩
    rw [A0T T hst hxt hu hel hux hdx k4 (by omega) (k5w w rfl)]
    simp [hn0,hln,storeCells]
   ·obtain ⟨hbi,hbv⟩:=Q8 hbk
    have hver:ver=E.ver i:=by rw [←hbv];exact (R.at_ i b hbi).ver
    obtain ⟨o,q,hsub,ha,hrm⟩:=hslc hver
    have hte:t'=el.ty:=by
     simp only [C7] at hold
     split at hold
     ·rename_i hbt;exact Ty.beq_eq _ _ hbt
     ·cases hold
    subst hte
    obtain ⟨w',hr,hm⟩:=A4j (P:=P) R hsub hbk hmode hg hsp hput k2 k3
    refine ⟨_,E,w',.slice (some a) (no+n) c,?_,hK,?_,hm⟩
    ·rw [A0T T hst hxt hu hel hux hdx k4 hroom (k5w w rfl)]
     rw [←hlnew,List.take_length] at hr
     simp only [ha (by omega),T3]
     rw [show E.base i+o+off * el.ty.size+no * el.ty.size=E.base i+o+(off+no) * el.ty.size by rw [Nat.add_mul];omega,hr]
     rfl
    ·simp only [VRel]
     exact ⟨a,c,rfl,hi,hv,hroom,hcap,fun hx=>(by cases hx),fun hvv=>by
      obtain ⟨o',q',s1,s2,s3⟩:=hslc hvv
      exact ⟨o',q',s1,s2,fun hx=>by cases hx⟩⟩
   ·obtain ⟨c',w',z,h0,h1,h2,h3,h4⟩:=D67 (P:=P) T hst hxt hu hel hux hdx (base:=some a) (len:=no) (cap:=c) (ty:=ty) k4 hgt hold' k5w hb1 hb2 hb3
    obtain ⟨row,E',g0,g1,g2⟩:=B6e R (te:=e) j1 j2 (T.zero e el hel) (h0 E) h2 h3 (by simp) h4
    exact ⟨_,E',w',_,h1,hK c' row h3 g0,g1,g2⟩
 | _ => exact he.elim
theorem F34 (hne : el.ty.size ≠ 0) {kn : IntKind} (hux : P.underlying xt = some (.int kn)) (R : RelHeap E h w)
  {s x:AV} {ys yx:Value} {K:AV × A3→Prop} (hs:VRel E s ys) (hx:VRel E x yx) (he:B3c el.ty el.bytes el.zero s x h K) :
  ∃ r E' w' y,(Builtin.append_ ats ty #[ys,yx]).run P w=.ok y w'∧K r∧VRel E' r.1 y∧Moves E h w E' r.2 w':=by
 obtain ⟨n,rfl,_,he⟩:=he
 simp only [VRel] at hx;subst hx
 cases s with
 | slice i ver path t' off len cap =>
  cases cap with
  | none=>exact he.elim
  | some c0 =>
   obtain ⟨old,all,hold,hall,hn0,hgt,hb1,hb2,hb3,hK⟩:=he
   obtain ⟨no,lo,o1,o2,o3,o4,o5⟩:=A05 (P:=P) R hold hs
   simp only [VRel] at hs
   obtain ⟨a,c,rfl,hi,hv,hlen,hcap,hcn,hslc⟩:=hs
   have hc0:c=c0:=hcap c0 rfl
   subst hc0
   have hno:no=len:=by
    simp only [Builtin.lenOf,Sem.run_pure] at o4
    injection o4 with o4 _;exact o4.symm
   subst hno
   have hlold:=VRl.len old _ _ o2 o3
   simp only [Ty.size] at hlold
   have hold':∀ w':World,w'.heap=w.heap→(Builtin.firstCells el.ty.size no (.slice (some a) no c)).run P w'=.ok lo.toArray w':=fun w' hw'=>by
    have:=o5 w' hw' no (Nat.le_refl _)
    rwa [←hlold,List.take_length] at this
   obtain ⟨c',w',z,h0,h1,h2,h3,h4⟩:=F3m (P:=P) T hst hxt hu hel hne hux (base:=some a) (len:=no) (cap:=c) (ty:=ty) hn0 hgt hold' hb1 hb2 hb3
   obtain ⟨z1,z2⟩:=B6T (T.zero e el hel) (h0 E) n
   obtain ⟨j1,j2⟩:=A29 hall o2 z1 o3 z2
   obtain ⟨row,E',g0,g1,g2⟩:=B6e R (te:=e) j1 j2 (T.zero e el hel) (h0 E) h2 h3 (by simp) h4
   exact ⟨_,E',w',_,h1,hK c' row h3 g0,g1,g2⟩
 | _ => exact he.elim
end
section
variable {P:Program} {C:Ctx} (T:TTok P C.tt) {E:Gh} {h:A3} {w:World} (R:RelHeap E h w)
include T R
theorem F35 {t e : Nat} {el : TI} {ats : Array TypeId} {ty : TypeId} (hat : ats[0]? = some t) (hu : P.underlying t = some (.slice e)) (hel : C.tt e = some el) {x v : AV} {h' : A3} {yx : Value} (hx : VRel E x yx) (he : Z6 el.ty el.zero x h = some (v, h')) :
  ∃ w' y,(Builtin.clear_ ats ty #[yx]).run P w=.ok y w'∧VRel E v y∧Moves E h w E h' w':=by
 have tup:VRel E (.tuple []) (.tuple #[]):=by simp only [VRel,VRc];exact ⟨[],rfl,rfl⟩
 cases x with
 | nilslice =>
  simp only [VRel] at hx;subst hx
  simp only [Z6,Option.some.injEq,Prod.mk.injEq] at he
  obtain ⟨rfl,rfl⟩:=he
  exact ⟨w,.tuple #[],by simp [Builtin.clear_,hat,run_underlying hu w],tup,Moves.refl R⟩
 | slice i ver path t' off len cap =>
  simp only [Z6] at he
  simp only [VRel] at hx
  obtain ⟨a,c,rfl,hi,hv,hlen,hcap,hcn,hslc⟩:=hx
  split at he
  ·rename_i h0
   simp only [Option.some.injEq,Prod.mk.injEq] at he
   obtain ⟨rfl,rfl⟩:=he
   subst h0
   exact ⟨w,.tuple #[],by simp [Builtin.clear_,hat,run_underlying hu w],tup,Moves.refl R⟩
  ·rename_i h0
   split at he
   ·rename_i hbt
    have hte:=Ty.beq_eq _ _ hbt
    subst hte
    obtain ⟨b,hbk,he⟩:=bnd_eq_some.1 he
    split at he
    ·cases he
    ·rename_i hmode
     obtain ⟨r,hg,he⟩:=bnd_eq_some.1 he
     obtain ⟨r',hsp,he⟩:=bnd_eq_some.1 he
     obtain ⟨v',hput,he⟩:=bnd_eq_some.1 he
     simp only [Option.some.injEq,Prod.mk.injEq] at he
     obtain ⟨rfl,rfl⟩:=he
     obtain ⟨hbi,hbv⟩:=Q8 hbk
     have hver:ver=E.ver i:=by rw [←hbv];exact (R.at_ i b hbi).ver
     obtain ⟨o,q,hsub,ha,hrm⟩:=hslc hver
     obtain ⟨z,hz,hzr⟩:=A1f T hel w
     obtain ⟨z1,z2⟩:=B6T (T.zero e el hel) (hzr E) len
     have hzl:=VRl.len _ _ _ z1 z2
     simp only [Ty.size] at hzl
     obtain ⟨w',hr,hm⟩:=A4j (P:=P) R hsub hbk hmode hg hsp hput z1 z2
     rw [←hzl,List.take_length] at hr
     refine ⟨w',.tuple #[],?_,tup,hm⟩
     obtain ⟨len,rfl⟩:∃ m,len=m+1:=⟨len - 1,by omega⟩
     have hae:=ha (by omega)
     subst hae
     simp [Builtin.clear_,hat,run_underlying hu w,hz,hr]
   ·cases he
 | _ => simp [Z6] at he
theorem F59 {b : Builtin} {ats : Array TypeId} {ty : TypeId} {consts : Array Bool} {as : List AV} {xs : List Value} (has : VRc E as xs) {K : AV × A3 → Prop} (he : bW C b ats as h K) :
  ∃ r E' w' y,(builtin b ats ty consts xs.toArray).run P w=.ok (.value y) w'∧K r∧VRel E' r.1 y∧Moves E h w E' r.2 w':=by
 have opt:∀ {α:Type} {x:Option α} {f:α→(AV × A3→Prop)→Prop},optP x f K→∃ i,x=some i∧f i K:=by
  intro α x f hx
  cases x with
  | none=>exact hx.elim
  | some i=>exact ⟨i,rfl,hx⟩
 have wty:∀ {t:Nat} {f:TI→(AV × A3→Prop)→Prop},withTyP C t f K→∃ i,C.tt t=some i∧f i K:=by
  intro t f hx
  unfold withTyP at hx
  split at hx
  ·exact ⟨_,by assumption,hx⟩
  ·cases hx
 have evs:∀ {m:Option (AV × A3)},Evs m K→∃ r,m=some r∧K r:=fun h=>h
 unfold bW at he
 split at he
 ·rename_i s x
  simp only [VRc] at has
  obtain ⟨sv,l,rfl,hs,xv,l,rfl,hx,rfl⟩:=has
  obtain ⟨t,ht,he⟩:=opt he
  obtain ⟨u,hu',he⟩:=opt he
  obtain ⟨i,hi,he⟩:=wty he
  obtain ⟨j,hj,he⟩:=wty he
  obtain ⟨e,hel,he⟩:=opt he
  obtain ⟨el,he1,he⟩:=wty he
  obtain ⟨hu,el',hel',hne⟩:=T.elem t i e hi hel
  rw [he1] at hel';injection hel' with hel';subst hel'
  unfold tyP at he
  split at he
  ·rename_i hjt
   obtain ⟨d,hd,_,_,hdi,_⟩:=T.cell u j hj hjt
   obtain ⟨r,E',w',y,h1,h2,h3,h4⟩:=F4O T ht hu' hu he1 (ty:=ty) hne hd hdi R hs hx he
   exact ⟨r,E',w',y,by simp [builtin,h1],h2,h3,h4⟩
  ·rename_i k hjt
   obtain ⟨r,E',w',y,h1,h2,h3,h4⟩:=F34 T ht hu' hu he1 (ty:=ty) hne (T.int u j k hj hjt) R hs hx he
   exact ⟨r,E',w',y,by simp [builtin,h1],h2,h3,h4⟩
  ·cases he
 ·rename_i x
  simp only [VRc] at has
  obtain ⟨xv,l,rfl,hx,rfl⟩:=has
  obtain ⟨t,ht,he⟩:=opt he
  obtain ⟨i,hi,he⟩:=wty he
  obtain ⟨e,hel,he⟩:=opt he
  obtain ⟨hu,_⟩:=T.elem t i e hi hel
  obtain ⟨r,hr,hK⟩:=evs he
  obtain ⟨h1,h2⟩:=N0 (show pureV h (A0B x)=some (r.1,r.2) from hr)
  refine ⟨r,E,w,?_⟩
  cases x with
  | nilslice =>
   have h3:=Option.some.inj h1
   simp only [VRel] at hx;subst hx
   exact ⟨goInt 0,by simp [builtin,Builtin.cap_,ht,run_underlying hu w],hK,by rw [←h3];simp only [VRel];rfl,by rw [h2];exact Moves.refl R⟩
  | slice bi ver path t' off len cap =>
   cases cap with
   | none=>simp [A0B] at h1
   | some c0 =>
    have h3:=Option.some.inj h1
    simp only [VRel] at hx
    obtain ⟨a,c,rfl,hi,hv,hlen,hcap,_⟩:=hx
    have:=hcap c0 rfl
    subst this
    exact ⟨goInt c,by simp [builtin,Builtin.cap_,ht,run_underlying hu w],hK,by rw [←h3];simp only [VRel];rfl,by rw [h2];exact Moves.refl R⟩
  | _ => simp [A0B] at h1
 ·rename_i x
  simp only [VRc] at has
  obtain ⟨xv,l,rfl,hx,rfl⟩:=has
  obtain ⟨t,ht,he⟩:=opt he
  obtain ⟨i,hi,he⟩:=wty he
  obtain ⟨e,hel,he⟩:=opt he
  obtain ⟨el,he1,he⟩:=wty he
  obtain ⟨hu,_⟩:=T.elem t i e hi hel
  obtain ⟨r,hr,hK⟩:=evs he
  obtain ⟨w',y,h1,h2,h3⟩:=F35 T R (ty:=ty) ht hu he1 hx (show Z6 el.ty el.zero x h=some (r.1,r.2) from hr)
  exact ⟨r,E,w',y,by simp [builtin,h1],hK,h2,h3⟩
 ·obtain ⟨r,hr,hK⟩:=evs he
  obtain ⟨E',w',y,h1,h2,h3⟩:=D7A T R (ty:=ty) (consts:=consts) has (show A0F C _ ats _ h=some (r.1,r.2) from hr)
  exact ⟨r,E',w',y,h1,hK,h2,h3⟩
end
end Go.Vab

namespace Go.Vab
open Go
section
variable {P:Program} {C:Ctx} (T:TTok P C.tt) {E:Gh} {h:A3} {w:World} (R:RelHeap E h w)
include T R
theorem E2L {V : Operand → AV} {a : Act} (hV : ∀ x, VRel E (V x) (a.eval x)) {o : Oper} {K : AV × A3 → Prop} (he : opW P C V h o.op K) {K' : Act → World → Prop} {Q : Exit → Act → World → Prop}
  (hK:∀ r E' w' x,K r→VRel E' r.1 x→Moves E h w E' r.2 w'→K' (a.put o.dst x) w'):o.wp P a w K' Q:=by
 have plain:(∀ c,o.op≠.call c)→Evs (E6 C false V h o.op) K→o.wp P a w K' Q:=by
  rintro hnc ⟨r,hr,hk⟩
  obtain ⟨E',w',n,x,h1,h2,h3,h4⟩:=F4I T R hV (show E6 C false V h o.op=some (r.1,r.2) from hr) (fun c f hc=>absurd hc (hnc c))
  unfold Oper.wp
  rw [h1]
  rcases h2 with rfl|⟨rfl,rfl⟩
  ·rw [Oper.upon_value];exact hK r E' w' x hk h3 h4
  ·rw [Oper.upon_skip];exact hK r E' w' _ hk h3 h4
 cases hop:o.op with
 | call c =>
  rw [hop] at he
  simp only [opW] at he
  cases hc:c.callee with
  | value f =>
   rw [hc] at he
   have hf:=hV f
   cases hfv:V f with
   | fn g caps =>
    simp only [hfv] at he
    rw [hfv] at hf
    simp only [VRel] at hf
    obtain ⟨cs,hcs,hr⟩:=hf
    have e:(c.args.toList.map a.eval++cs).toArray=c.args.map a.eval++cs.toArray:=by apply Array.ext';simp
    rcases he E w _ R (VRc.app _ _ _ _ (VRc.map hV c.args.toList) hr) with ⟨⟨fn,hfn,hname,hbody⟩,hcalls⟩|⟨x,w',r,E',h1,h2,h3,h4⟩
    ·unfold Oper.wp
     have hrun:(execOp a.eval o).run P w=.ok (.enter g (c.args.map a.eval++cs.toArray)) w:=by
      simp only [execOp,hop,resolve,hc,hcs,Deferred.ofValue,Sem.run_bind,Sem.run_pure,Result.andThen_ok,invoke,callFunc,run_program,hfn,hname,hbody,Bool.false_eq_true,if_false,Array.empty_append]
     rw [hrun,Oper.upon_enter,←e]
     refine hcalls.mono fun en w' hp=>?_
     obtain ⟨r,E',x,h1,rfl,h2,h3⟩:=hp
     exact hK r E' w' x h1 h2 h3
    ·unfold Oper.wp
     have hrun:(execOp a.eval o).run P w=.ok (.value x) w':=by
      simp only [execOp,hop,resolve,hc,hcs,Deferred.ofValue,Sem.run_bind,Sem.run_pure,Result.andThen_ok,invoke,Array.empty_append]
      rw [←e];exact h1
     rw [hrun,Oper.upon_value]
     exact hK r E' w' x h2 h3 h4
   | _ => simp only [hfv] at he
  | builtin b =>
   rw [hc] at he
   obtain ⟨r,E',w',y,h1,h2,h3,h4⟩:=F59 T R (ty:=o.type) (consts:=c.args.map fun | .const _ => true | _ => false) (A23 hV _) he
   unfold Oper.wp
   have hrun:(execOp a.eval o).run P w=.ok (.value y) w':=by
    simp only [execOp,hop,resolve,hc,Sem.run_bind,Sem.run_pure,Result.andThen_ok,invoke]
    have e:(c.args.toList.map a.eval).toArray=c.args.map a.eval:=by apply Array.ext';simp
    rw [e] at h1
    exact h1
   rw [hrun,Oper.upon_value]
   exact hK r E' w' y h2 h3 h4
  | _ => rw [hc] at he;exact he.elim
 | makeMap t r =>
  cases r with
  | some r=>exact plain (by rw [hop];simp) (by rw [hop] at he ⊢;exact he)
  | none =>
   rw [hop] at he
   obtain ⟨r,hr,hk⟩:=he
   obtain ⟨hT,hr⟩:=B62 hr
   obtain ⟨E',h1,h2⟩:=F31 R hr
   unfold Oper.wp
   have hrun:(execOp a.eval o).run P w=.ok (.value (.map (some w.heap.size))) (w.alloc (.map #[] 0)):=by
    simp only [execOp,hop,Option.map_none,Sem.run_bind,Go.RowKit.run_makeMap,Result.andThen_ok,Sem.run_pure]
   rw [hrun,Oper.upon_value]
   exact hK r E' _ _ hk h1 h2
 | lookup t m k ok =>
  cases ok with
  | true=>exact plain (by rw [hop];simp) (by rw [hop] at he ⊢;exact he)
  | false =>
   rw [hop] at he
   obtain ⟨r,hr,hk⟩:=he
   unfold pureV at hr
   obtain ⟨v,hv,e⟩:=bnd_eq_some.1 hr
   cases e
   obtain ⟨hT,hv⟩:=B62 hv
   obtain ⟨x,h1,h2⟩:=F4L R hT (hV m) (hV k) hv
   unfold Oper.wp
   have hrun:(execOp a.eval o).run P w=.ok (.value x) w:=by
    simp only [execOp,hop,Sem.run_bind,h1,Result.andThen_ok,Sem.run_pure]
   rw [hrun,Oper.upon_value]
   exact hK _ E w x hk h2 (Moves.refl R)
 | mapUpdate t m k x =>
  rw [hop] at he
  obtain ⟨r,hr,hk⟩:=he
  obtain ⟨hT,hr⟩:=B62 hr
  obtain ⟨h0,w',h1,h2⟩:=F4m R hT (hV m) (hV k) (hV x) hr
  unfold Oper.wp
  have hrun:(execOp a.eval o).run P w=.ok .skip w':=by
   simp only [execOp,hop,Sem.run_bind,h1,Result.andThen_ok,Sem.run_pure]
  rw [hrun,Oper.upon_skip]
  exact hK r E w' _ hk (by rw [h0];simp only [VRel]) h2
 | convert f t x =>
  rw [hop] at he
  simp only [opW] at he
  split at he
  ·rename_i hc
   obtain ⟨rfl,_⟩:=hc
   obtain ⟨r,hr,hk⟩:=he
   obtain ⟨⟨e,hf,hu⟩,hr⟩:=F58 hr
   obtain ⟨w',h1,h2,h3⟩:=F4M R hf hu (hV x) hr
   unfold Oper.wp
   have hrun:(execOp a.eval o).run P w=.ok (.value (a.eval x)) w':=by
    simp only [execOp,hop,Sem.run_bind,h1,Result.andThen_ok,Sem.run_pure]
   rw [hrun,Oper.upon_value]
   exact hK r E w' _ hk (by rw [h2];exact hV x) h3
  ·exact plain (by rw [hop];simp) (by rw [hop];exact he)
 | _ => exact plain (by rw [hop];simp) (by rw [hop] at he ⊢;exact he)
theorem D9W {ops : Array Oper} {o : Oper} {σ : Nat → AV} {a : Act} (hL : ∀ t, VRel E (σ t) (a.tmps.getD t Go.undef)) {K : AV × A3 → Prop} (he : O2 P C ops.toList o σ h K)
  {K':Act→World→Prop} {Q:Exit→Act→World→Prop} (hK:∀ r E' w' x,K r→VRel E' r.1 x→Moves E h w E' r.2 w'→K' (a.put o.dst x) w') :
  if Region.wanted o (yielded ops a.tmps) then o.wp P a w K' Q∨(o.asks P a w∧LetsOut Q) else K' (a.put o.dst Go.undef) w:=by
 have hV:=D8g hL
 have skip:K (.undef,h)→K' (a.put o.dst Go.undef) w:=fun h1=>hK _ E w _ h1 (by simp only [VRel]) (Moves.refl R)
 cases hg:o.guard with
 | none =>
  simp only [Region.wanted,hg,if_true]
  simp only [O2,hg] at he
  exact .inl (E2L T R hV he hK)
 | some p =>
  obtain ⟨j,want⟩:=p
  simp only [O2,hg] at he
  cases hd:w7 ops.toList j with
  | none=>rw [hd] at he;exact he.elim
  | some d =>
   rw [hd] at he
   have hy:yielded ops a.tmps j=match a.tmps[d]? with|some (.bool b)=>some b | _ => none:=by
    unfold w7 at hd
    rw [Array.getElem?_toList] at hd
    unfold yielded
    cases hj:ops[j]? with
    | none=>rw [hj] at hd;cases hd
    | some oj =>
     rw [hj] at hd;simp only at hd;simp only [Option.bind_some,hd]
     cases a.tmps[d]? with
     | none=>rfl
     | some z=>cases z <;> rfl
   have hl:=hL d
   replace he:gW (σ d) want (opW P C (U0 σ) h o.op) h K:=he
   unfold gW at he
   split at he
   ·rename_i b hb
    rw [hb] at hl;simp only [VRel] at hl
    have hb2:a.tmps[d]?=some (.bool b):=by
     rw [Array.getD_eq_getD_getElem?] at hl
     cases hq:a.tmps[d]? with
     | none=>rw [hq] at hl;simp [Go.undef] at hl
     | some z=>rw [hq] at hl;simp only [Option.getD_some] at hl;rw [hl]
    rw [hb2] at hy
    simp only at hy
    split at he
    ·rename_i hbw
     subst hbw
     simp only [Region.wanted,hg,hy,beq_self_eq_true,if_true]
     exact .inl (E2L T R hV he hK)
    ·rename_i hbw
     have:(some b == some want)=false:=by simpa using hbw
     simp only [Region.wanted,hg,hy,this,Bool.false_eq_true,if_false]
     exact skip he
   ·rename_i hb
    rw [hb] at hl;simp only [VRel] at hl
    have hyn:yielded ops a.tmps j=none:=by
     rw [hy]
     rw [Array.getD_eq_getD_getElem?] at hl
     cases hq:a.tmps[d]? with
     | none=>rfl
     | some z=>rw [hq] at hl;simp only [Option.getD_some] at hl;rw [hl];rfl
    simp only [Region.wanted,hg,hyn]
    exact skip he
   ·cases he
end
def Y7 (P:Program) (C:Ctx) (ops:List Oper) (k:Env→A3→Prop):List Oper→Env→Env→A3→Prop
 | [],loc,env,h=>k (commit C.vol loc env) h
 | o::os,loc,env,h=>O2 P C ops o (F6 loc env) h fun r=>match o.dst with
  | some d=>d < C.ntmps∧Y7 P C ops k os ((d,r.1)::loc) env r.2
  | none=>Y7 P C ops k os loc env r.2
theorem B7Q {P : Program} {C : Ctx} (T : TTok P C.tt) {ops : Array Oper} {Q : Exit → Act → World → Prop} {k : Env → A3 → Prop} : ∀ (os : List Oper) (loc env : Env) (E : Gh) (h : A3) (w : World) (a : Act),
  RelHeap E h w→LocR E loc env a→Y1 C.vol env→a.tmps.size=C.ntmps→Y7 P C ops.toList k os loc env h →
  (∀ e g E' w' a',k e g→EnvR E' e a'→Y1 C.vol e→Moves E h w E' g w'→a'.defers=a.defers→a'.tmps.size=C.ntmps→Q .normal a' w')→wpList P ops Q os a w
 | [],loc,env,E,h,w,a,R,hL,hv,hn,he,hQ=>by
  obtain ⟨h1,h2⟩:=EnvR.commit hL hv
  exact hQ _ h E w a he h1 h2 (Moves.refl R) rfl hn
 | o::os,loc,env,E,h,w,a,R,hL,hv,hn,he,hQ=>by
  simp only [Y7] at he
  unfold wpList
  refine D9W T R hL he (fun r E' w' x hk hx hm=>?_)
  cases hd:o.dst with
  | none =>
   rw [hd] at hk
   exact B7Q T os loc env E' r.2 w' _ hm.rel (hL.ext hm.ext) hv hn hk fun e g E'' w'' a'' g0 g1 g2 g3 g4 g5=>hQ e g E'' w'' a'' g0 g1 g2 (hm.trans g3) g4 g5
  | some d =>
   rw [hd] at hk
   obtain ⟨hlt,hk⟩:=hk
   exact B7Q T os ((d,r.1)::loc) env E' r.2 w' _ hm.rel (hL.put hm.ext hx (by rw [hn];exact hlt)) hv (by rw [Act.put_size];exact hn) hk fun e g E'' w'' a'' g0 g1 g2 g3 g4 g5=>hQ e g E'' w'' a'' g0 g1 g2 (hm.trans g3) (by rw [g4,Act.put_defers]) g5
theorem B6f {P:Program} {C:Ctx} {ops:List Oper} {k k':Env→A3→Prop} (hk:∀ e g,k e g→k' e g):∀ (os:List Oper) (loc env:Env) (h:A3),Y7 P C ops k os loc env h→Y7 P C ops k' os loc env h
 | [],_,_,_,h=>hk _ _ h
 | o::os,loc,env,h,he=>by
  simp only [Y7] at he ⊢
  refine A1o _ _ (fun r hr=>?_) he
  cases hd:o.dst with
  | none=>rw [hd] at hr;exact B6f hk os _ _ _ hr
  | some d=>rw [hd] at hr;exact ⟨hr.1,B6f hk os _ _ _ hr.2⟩
def A0z (P:Program) (C:Ctx) (ops:Array Oper) (q:(Nat→AV)→A3→Prop):Nat→Array Bool→(Nat→AV)→A3→Prop
 | 0,listed,σ,h=>i8 ops listed=[]∧q σ h
 | n + 1, listed, σ, h => (i8 ops listed = [] → q σ h) ∧ ∀ i ∈ i8 ops listed, ∀ o, ops[i]? = some o →
   O2 P C ops.toList o σ h fun r=>(match o.dst with|some d=>d < C.ntmps|none=>True)∧A0z P C ops q n (listed.setIfInBounds i true) (A0A σ o.dst r.1) r.2
theorem D9X {P : Program} {C : Ctx} (T : TTok P C.tt) {ops : Array Oper} {Q : Exit → Act → World → Prop} {q : (Nat → AV) → A3 → Prop} : ∀ (n : Nat) (listed : Array Bool) (σ : Nat → AV) (h : A3) (E : Gh) (w : World) (a : Act),
  RelHeap E h w→(∀ t,VRel E (σ t) (a.tmps.getD t Go.undef))→a.tmps.size=C.ntmps→A0z P C ops q n listed σ h →
  (∀ σ' h' E' w' a',q σ' h'→(∀ t,VRel E' (σ' t) (a'.tmps.getD t Go.undef))→Moves E h w E' h' w'→a'.defers=a.defers→a'.tmps.size=C.ntmps→Q .normal a' w')→wpAny P .any ops Q n listed a w
 | 0,listed,σ,h,E,w,a,R,hL,hn,he,hQ=>by
  simp only [A0z] at he
  exact ⟨he.1,hQ σ h E w a he.2 hL (Moves.refl R) rfl hn⟩
 | n+1,listed,σ,h,E,w,a,R,hL,hn,he,hQ=>by
  simp only [A0z] at he
  refine ⟨fun h0=>hQ σ h E w a (he.1 h0) hL (Moves.refl R) rfl hn,fun i hi=>?_⟩
  have hi2:=hi
  unfold wpOp
  cases ho:ops[i]? with
  | none =>
   exfalso
   unfold Region.ready at hi
   rw [List.mem_filter] at hi
   have:=List.mem_range.1 hi.1
   rw [Array.getElem?_eq_none_iff] at ho
   omega
  | some o =>
   simp only
   refine D9W T R hL (he.2 i hi2 o ho) (fun r E' w' x hk hx hm=>?_)
   obtain ⟨hlt,hk⟩:=hk
   refine D9X T n _ _ r.2 E' w' _ hm.rel (fun t=>?_) (by rw [Act.put_size];exact hn) hk fun σ' h' E'' w'' a'' g0 g1 g2 g3 g4=>hQ σ' h' E'' w'' a'' g0 g1 (hm.trans g2) (by rw [g3,Act.put_defers]) g4
   cases hd:o.dst with
   | none=>exact VRel.mono hm.ext _ _ (hL t)
   | some d =>
    rw [hd] at hlt
    simp only at hlt
    simp only [A0A,A2s,Act.put]
    by_cases e:t=d
    ·subst e
     rw [if_pos rfl]
     have:t < a.tmps.size:=by rw [hn];exact hlt
     simpa [Array.getD,this] using hx
    ·rw [if_neg e]
     have e2:(a.tmps.setIfInBounds d x).getD t Go.undef=a.tmps.getD t Go.undef:=by
      simp only [Array.getD_eq_getD_getElem?]
      rw [Array.getElem?_setIfInBounds_ne (fun q=>e q.symm)]
     rw [e2];exact VRel.mono hm.ext _ _ (hL t)
def D6E (C:Ctx) (k:Env→A3→Prop) (σ:Nat→AV) (h:A3):Prop:=∃ e,k e h∧Y1 C.vol e∧∀ t,C.vol.contains t=false→σ t=e.get t
def D0M (P:Program) (C:Ctx) (ops:Array Oper) (k:Env→A3→Prop) (env:Env) (h:A3):Prop:=Y1 C.vol env→A0z P C ops (D6E C k) ops.size (Array.replicate ops.size false) env.get h
theorem F6A {P : Program} {C : Ctx} (T : TTok P C.tt) (hm : P.follows .mixedOrders = true) {ops : Array Oper} {Q : Exit → Act → World → Prop} {k : Env → A3 → Prop} {env : Env} {E : Gh} {h : A3} {w : World} {a : Act} {id : Nat}
  (R:RelHeap E h w) (hL:EnvR E env a) (hv:Y1 C.vol env) (hn:a.tmps.size=C.ntmps) (hok:D0M P C ops k env h)
  (hQ:∀ e g E' w' a',k e g→EnvR E' e a'→Y1 C.vol e→Moves E h w E' g w'→a'.defers=a.defers→a'.tmps.size=C.ntmps→Q .normal a' w'):(Code.region id ops true).wp P Q a w:=by
 refine wp_region_any hm ?_
 have R':RelHeap E h { w with drawn:=w.drawn+1 }:=⟨R.n,fun i b hb=>⟨(R.at_ i b hb).ver,(R.at_ i b hb).fits,(R.at_ i b hb).mp,(R.at_ i b hb).body,(R.at_ i b hb).grow⟩,R.inj⟩
 refine D9X T ops.size _ env.get h E _ a R' hL hn (hok hv) fun σ' h' E' w' a' hs g1 g2 g3 g4=>?_
 obtain ⟨e,q0,q1,q2⟩:=hs
 refine hQ e h' E' w' a' q0 (fun t=>?_) q1 ⟨g2.ext,g2.rel,g2.size,g2.keep,g2.img,g2.io.os,g2.io.tape,g2.io.output⟩ g3 g4
 by_cases ht:C.vol.contains t=true
 ·rw [q1 t ht];simp only [VRel]
 ·have:=g1 t
  rw [q2 t (by simpa using ht)] at this
  exact this
def sqW (g:(Ex × St→Prop)→St→Prop) (Q:Ex × St→Prop) (r:Ex × St):Prop:=match r.1 with
 | .nrm=>g Q r.2
 | .exit id=>Q (.exit id,r.2)
 | .ret=>Q (.ret,r.2)
@[simp] theorem J7 (g:(Ex × St→Prop)→St→Prop) (Q:Ex × St→Prop) (s:St):sqW g Q (.nrm,s)=g Q s:=rfl
@[simp] theorem J4 (g:(Ex × St→Prop)→St→Prop) (Q:Ex × St→Prop) (id:Nat) (s:St):sqW g Q (.exit id,s)=Q (.exit id,s):=rfl
@[simp] theorem I3 (g:(Ex × St→Prop)→St→Prop) (Q:Ex × St→Prop) (s:St):sqW g Q (.ret,s)=Q (.ret,s):=rfl
def A2i (g:(Ex × St→Prop)→St→Prop) (Q:Ex × St→Prop) (s:St):Prop :=
 ∃ (I:Nat→St→Prop) (n:Nat),I n s∧∀ n s,I n s→g (fun r=>(r.1=.nrm∧∃ m,m < n∧I m r.2)∨(r.1≠.nrm∧Q r)) s
def E9 (v:AV) (x y:Prop):Prop:=match v with
 | .bool t=>if t=true then x else y
 | _ => False
@[simp] theorem F4r (t:Bool) (x y:Prop):E9 (.bool t) x y=if t=true then x else y:=rfl
def wC (P:Program) (C:Ctx):Code→(Ex × St→Prop)→St→Prop
 | .skip,Q,s=>Q (.nrm,s)
 | .region _ ops false,Q,s=>Y7 P C ops.toList (fun e g=>Q (.nrm,⟨e,g⟩)) ops.toList [] s.env s.heap
 | .region _ ops true,Q,s=>D0M P C ops (fun e g=>Q (.nrm,⟨e,g⟩)) s.env s.heap
 | .seq a b,Q,s=>wC P C a (sqW (wC P C b) Q) s
 | .cond c a b,Q,s=>E9 (opv [] s.env c) (wC P C a Q s) (wC P C b Q s)
 | .block id c,Q,s=>wC P C c (fun r=>Q (w8 id r)) s
 | .loop c,Q,s=>A2i (wC P C c) Q s
 | .exit id,Q,s=>Q (.exit id,s)
 | .ret,Q,s=>Q (.ret,s)
 | _,_,_ => False
def B3d (C:Ctx) (E:Gh) (h:A3) (w:World) (Q:Ex × St→Prop) (e:Exit) (a':Act) (w':World):Prop :=
 ∃ ex s',Q (ex,s')∧G0e C E h w ex s' e a' w'
theorem A1D {P : Program} {C : Ctx} (T : TTok P C.tt) (hm : P.follows .mixedOrders = true) : ∀ (c : Code) (Q : Ex × St → Prop) (s : St), wC P C c Q s →
  ∀ (E:Gh) (w:World) (a:Act),RelHeap E s.heap w→EnvR E s.env a→Y1 C.vol s.env→a.defers=[]→a.tmps.size=C.ntmps→c.wp P (B3d C E s.heap w Q) a w
 | .skip,Q,s,he,E,w,a,R,hL,hv,hd,hn=>wp_skip ⟨.nrm,s,he,rfl,E,Moves.refl R,hL,hv,hd,hn⟩
 | .exit id,Q,s,he,E,w,a,R,hL,hv,hd,hn=>wp_exit ⟨.exit id,s,he,rfl,E,Moves.refl R,hL,hv,hd,hn⟩
 | .ret,Q,s,he,E,w,a,R,hL,hv,hd,hn=>wp_ret ⟨.ret,s,he,rfl,E,Moves.refl R,hL,hv,hd,hn⟩
 | .region id ops false,Q,s,he,E,w,a,R,hL,hv,hd,hn =>
  wp_region_list (B7Q T ops.toList [] s.env E s.heap w a R (fun t=>by rw [A1x];exact hL t) hv hn he fun e g E' w' a' g0 g1 g2 g3 g4 g5=>⟨.nrm,⟨e,g⟩,g0,rfl,E',g3,g1,g2,by rw [g4,hd],g5⟩)
 | .region id ops true,Q,s,he,E,w,a,R,hL,hv,hd,hn =>
  F6A T hm R hL hv hn he fun e g E' w' a' g0 g1 g2 g3 g4 g5=>⟨.nrm,⟨e,g⟩,g0,rfl,E',g3,g1,g2,by rw [g4,hd],g5⟩
 | .seq x y,Q,s,he,E,w,a,R,hL,hv,hd,hn=>by
  refine wp_seq (wp_mono (A1D T hm x _ s he E w a R hL hv hd hn) fun e a' w' hp=>?_)
  obtain ⟨ex,s1,hq,rfl,E',m,g1,g2,g3,g4⟩:=hp
  cases ex with
  | nrm =>
   simp only [Ex.out,Exit.then]
   refine wp_mono (A1D T hm y Q s1 hq E' w' a' m.rel g1 g2 g3 g4) fun e2 a2 w2 hq=>?_
   obtain ⟨ex2,s2,q0,q1,E2,q2,q3⟩:=hq
   exact ⟨ex2,s2,q0,q1,E2,m.trans q2,q3⟩
  | exit id=>exact ⟨.exit id,s1,hq,rfl,E',m,g1,g2,g3,g4⟩
  | ret=>exact ⟨.ret,s1,hq,rfl,E',m,g1,g2,g3,g4⟩
 | .cond c x y,Q,s,he,E,w,a,R,hL,hv,hd,hn=>by
  simp only [wC] at he
  unfold E9 at he
  split at he
  ·rename_i t ht
   have hc:a.eval c=.bool t:=by
    have:=F7n (loc:=[]) (fun t=>by rw [A1x];exact hL t) c
    rw [ht] at this;simpa only [VRel] using this
   refine wp_cond hc ?_
   cases t
   ·simp only [Bool.false_eq_true,if_false] at he ⊢
    exact A1D T hm y Q s he E w a R hL hv hd hn
   ·simp only [if_true] at he ⊢
    exact A1D T hm x Q s he E w a R hL hv hd hn
  ·cases he
 | .block id c,Q,s,he,E,w,a,R,hL,hv,hd,hn=>by
  refine wp_block (wp_mono (A1D T hm c _ s he E w a R hL hv hd hn) fun e a' w' hp=>?_)
  obtain ⟨ex,s1,hq,rfl,E',m,g1,g2,g3,g4⟩:=hp
  cases ex with
  | nrm=>exact ⟨.nrm,s1,hq,rfl,E',m,g1,g2,g3,g4⟩
  | ret=>exact ⟨.ret,s1,hq,rfl,E',m,g1,g2,g3,g4⟩
  | exit j =>
   simp only [Ex.out,Exit.inBlock]
   by_cases hj:j=id
   ·rw [if_pos hj]
    simp only [w8,if_pos hj] at hq
    exact ⟨.nrm,s1,hq,rfl,E',m,g1,g2,g3,g4⟩
   ·rw [if_neg hj]
    simp only [w8,if_neg hj] at hq
    exact ⟨.exit j,s1,hq,rfl,E',m,g1,g2,g3,g4⟩
 | .loop c,Q,s,he,E,w,a,R,hL,hv,hd,hn=>by
  obtain ⟨I,n,hI,step⟩:=he
  obtain ⟨w0,hw0⟩:∃ w0,w0=w:=⟨w,rfl⟩
  have key : ∀ (n : Nat) (s1 : St) (E1 : Gh) (w1 : World) (a1 : Act), I n s1 → Moves E s.heap w0 E1 s1.heap w1 → EnvR E1 s1.env a1 → Y1 C.vol s1.env → a1.defers = [] → a1.tmps.size = C.ntmps →
    Code.rounds P c (B3d C E s.heap w0 Q) (n+1) a1 w1:=by
   intro n
   induction n using Nat.strongRecOn with
   | _ n ih =>
    intro s1 E1 w1 a1 hI1 m1 hL1 hv1 hd1 hn1
    rw [rounds_succ]
    refine wp_mono (A1D T hm c _ s1 (step n s1 hI1) E1 w1 a1 m1.rel hL1 hv1 hd1 hn1) fun e a' w' hp=>?_
    obtain ⟨ex,s2,hq,rfl,E',m,g1,g2,g3,g4⟩:=hp
    rcases hq with ⟨h1,k,hk,hI2⟩|⟨h1,hq⟩
    ·simp only at h1;subst h1
     simp only [Ex.out,Exit.then]
     have:=ih k hk s2 E' w' a' hI2 (m1.trans m) g1 g2 g3 g4
     -- fewer rounds are some of more
     have mono:∀ (j d:Nat) (a:Act) (w:World),Code.rounds P c (B3d C E s.heap w0 Q) j a w→Code.rounds P c (B3d C E s.heap w0 Q) (j+d) a w:=by
      intro j
      induction j with
      | zero=>intro d a w h;simp only [Code.rounds] at h
      | succ j ihj =>
       intro d a w h
       rw [show j+1+d=(j+d)+1 by omega,rounds_succ]
       rw [rounds_succ] at h
       refine wp_mono h fun e a2 w2 hq=>?_
       cases e <;> simp only [Exit.then] at hq ⊢
       ·exact ihj d a2 w2 hq
       all_goals exact hq
     have:=mono (k+1) (n - (k+1)) a' w' this
     rwa [show k+1+(n - (k+1))=n by omega] at this
    ·cases ex with
     | nrm=>exact absurd rfl h1
     | exit id=>exact ⟨.exit id,s2,hq,rfl,E',m1.trans m,g1,g2,g3,g4⟩
     | ret=>exact ⟨.ret,s2,hq,rfl,E',m1.trans m,g1,g2,g3,g4⟩
  have fin:=key n s E w a hI (by rw [hw0];exact Moves.refl R) hL hv hd hn
  rw [hw0] at fin
  exact wp_loop_rounds (n+1) fin
 | .rangeFunc ..,_,_,he,_,_,_,_,_,_,_,_ => he.elim
 | .scope _,_,_,he,_,_,_,_,_,_,_,_ => he.elim
 | .label _,_,_,he,_,_,_,_,_,_,_,_ => he.elim
 | .goto _,_,_,he,_,_,_,_,_,_,_,_ => he.elim
 | .refuse _,_,_,he,_,_,_,_,_,_,_,_ => he.elim
def K4 (rs:St→Option (List AV)) (K:AV × A3→Prop) (r:Ex × St):Prop:=match r.1 with
 | .exit _ => False
 | _ => Evs (rs r.2) fun vs=>K (C8 vs,r.2.heap)
@[simp] theorem J5 (rs:St→Option (List AV)) (K:AV × A3→Prop) (s:St):K4 rs K (.nrm,s)=Evs (rs s) fun vs=>K (C8 vs,s.heap):=rfl
@[simp] theorem J6 (rs:St→Option (List AV)) (K:AV × A3→Prop) (s:St):K4 rs K (.ret,s)=Evs (rs s) fun vs=>K (C8 vs,s.heap):=rfl
theorem A1g {P : Program} {C : Ctx} (T : TTok P C.tt) (hm : P.follows .mixedOrders = true) {f : Nat} {fn : Func} {body : Code} (hf : P.funcs[f]? = some fn) (hname : (fn.name == "runtime.NumGoroutine") = false) (hb : fn.body = some body) (hnt : fn.ntmps = C.ntmps)
  {args:List AV} {h:A3} {K:AV × A3→Prop} (hvol:(C.vol.all fun t=>decide (args.length≤t))=true) (hlen:args.length≤C.ntmps)
  (he:wC P C body (K4 (fun s=>Y4 C s fn.results.toList) K) ⟨Q5 C args,h⟩):SpecQ P f args h K:=by
 intro E w xs R hxs
 have hxl:=VRc.length args xs hxs
 refine .inl ⟨⟨fn,hf,hname,by rw [hb];rfl⟩,calls_of_wp hf hb ?_⟩
 have hL:EnvR E (Q5 C args) { tmps:=xs.toArray++Array.replicate (fn.ntmps - xs.toArray.size) Go.undef,defers:=[] }:=by
  intro t
  rw [D8h,B6R]
  simp only [Nat.zero_le,if_true,Nat.sub_zero]
  split
  ·rename_i v hv
   obtain ⟨y,hy,hr⟩:=VRc.get args xs t v hxs hv
   have:(xs.toArray++Array.replicate (fn.ntmps - xs.toArray.size) Go.undef).getD t Go.undef=y:=by
    rw [Array.getD_eq_getD_getElem?,Array.getElem?_append_left (by simp;exact (List.getElem?_eq_some_iff.1 hy).1)]
    simp [hy]
   rw [this];exact hr
  ·simp only [VRel]
 have hv:Y1 C.vol (Q5 C args):=by
  intro t ht
  rw [D8h,B6R]
  simp only [Nat.zero_le,if_true,Nat.sub_zero]
  have:=(List.all_eq_true.1 hvol) t (by simpa using ht)
  rw [List.getElem?_eq_none (by simpa using this)]
 refine wp_mono (A1D T hm body _ _ he E w _ R hL hv rfl (by simp;omega)) fun e a' w' hp=>?_
 obtain ⟨ex,s,hq,rfl,E',m,g1,g2,g3,g4⟩:=hp
 have fin:∀ vs,Y4 C s fn.results.toList=some vs→K (C8 vs,s.heap)→∃ x,(results fn a'.tmps).run P w'=.ok x w'∧VRel E' (C8 vs) x:=by
  intro vs hvs _
  obtain ⟨ys,q1,q2⟩:=D7G T m.rel g1 fn.results.toList vs hvs
  have hrun:(results fn a'.tmps).run P w'=.ok (if hs:ys.toArray.size=1 then ys.toArray[0] else .tuple ys.toArray) w':=by
   have e1:(fn.results.mapM (A2d a'.tmps)).run P w'=.ok ys.toArray w':=by
    rw [Array.mapM_eq_mapM_toList]
    simp [q1]
   have e2:(results fn a'.tmps).run P w'=((fn.results.mapM (A2d a'.tmps)).run P w').andThen fun vs w=>.ok (if hs:vs.size=1 then vs[0] else .tuple vs) w:=by
    unfold results
    rw [Sem.run_bind]
    rfl
   rw [e2,e1]
   rfl
  refine ⟨_,hrun,?_⟩
  match vs,ys,q2 with
  | [],ys,q2=>simp only [VRc] at q2;subst q2;simp only [C8,VRel];exact ⟨[],by simp,by simp only [VRc]⟩
  | [v],ys,q2 =>
   simp only [VRc] at q2
   obtain ⟨y,l,rfl,z1,rfl⟩:=q2
   simpa [C8] using z1
  | v1::v2::vs,ys,q2 =>
   have:=VRc.length _ _ q2
   have hne:¬ ys.toArray.size=1:=by simp at this ⊢;omega
   rw [dif_neg hne]
   simp only [C8,VRel];exact ⟨ys,rfl,q2⟩
 have fin2:(Evs (Y4 C s fn.results.toList) fun vs=>K (C8 vs,s.heap))→bodyPost P fn (fun e w'=>∃ r E' x,K r∧e=.returned x∧VRel E' r.1 x∧Moves E h w E' r.2 w') .normal a' w':=by
  rintro ⟨vs,h1,h2⟩
  obtain ⟨x,q1,q2⟩:=fin vs h1 h2
  exact ⟨g3,x,q1,_,E',x,h2,rfl,q2,m⟩
 cases ex with
 | exit id=>exact hq.elim
 | nrm=>exact fin2 hq
 | ret=>exact fin2 hq
end Go.Vab
