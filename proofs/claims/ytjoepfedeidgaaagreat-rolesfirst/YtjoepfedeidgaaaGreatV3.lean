/-
  Which states may be.
-/
import Derived.Test.YtjoepfedeidgaaaGreatV2
import Derived.Laws.LoneSync
import Derived.Test.YtjoepfedeidgaaaGreatV1
set_option linter.all false
set_option linter.unusedSectionVars false
namespace Go.Vab
open Go
def sE (a : Stt) : List Pt := a.seats.map (·.who.e)
def iE (a : Stt) : List Pt := a.invites.map (·.who.e)
def aE (a : Stt) : List Pt := a.asks.map (·.who.e)
def bE (a : Stt) : List Pt := a.bans.map (·.who.e)
def shapeS (a : Stt) : Bool := !(decide (200 < a.title.length) || decide (a.pass.length % 16 ≠ 0) || decide (16 < a.pass.length) || !accOk a.acc)
def mayS (a : Stt) : Bool := shapeS a && ((decide (a.seats.length ≤ 40) && riseB [] (sE a)) && ((decide (a.invites.length ≤ 40) && riseB (sE a) (iE a)) && ((decide (a.asks.length ≤ 40) && riseB (sE a ++ iE a) (aE a)) &&
 ((decide (a.bans.length ≤ 40) && riseB (sE a ++ iE a ++ aE a) (bE a)) && (!(a.seats.any fun s => !roleOk s.role) && !(a.invites.any fun s => !roleOk s.role))))))
end Go.Vab

/-
  Roles, in plain words: what an action makes of a state.
-/
namespace Go.Vab
open Go
def ltP (p q : Pt) : Bool := decide (cmpB p.l q.l < 0)
theorem cmpB_self : ∀ a : Bs, cmpB a a = 0
 | [] => rfl
 | a :: xs => by
  have : ¬ a < a := by simp [BitVec.lt_def]
  simp [cmpB, this, cmpB_self xs]
theorem cmpB_zero : ∀ {a b : Bs}, cmpB a b = 0 → a = b
 | [], [], _ => rfl
 | [], _ :: _, h => by simp [cmpB] at h
 | _ :: _, [], h => by simp [cmpB] at h
 | a :: xs, b :: ys, h => by
  simp only [cmpB] at h
  split at h
  ·simp at h
  ·split at h
   ·simp at h
   ·rename_i h1 h2
    rw [cmpB_zero h]
    have : a = b := by
     apply BitVec.eq_of_toNat_eq
     rw [BitVec.lt_def] at h1 h2
     omega
    rw [this]
theorem cmpB_trans : ∀ {a b c : Bs}, cmpB a b < 0 → cmpB b c < 0 → cmpB a c < 0
 | [], [], _, h, _ => by simp [cmpB] at h
 | _ :: _, [], _, h, _ => by simp [cmpB] at h
 | [], _ :: _, [], _, h => by simp [cmpB] at h
 | [], _ :: _, _ :: _, _, _ => by simp [cmpB]
 | _ :: _, _ :: _, [], _, h => by simp [cmpB] at h
 | a :: xs, b :: ys, c :: zs, h1, h2 => by
  simp only [cmpB, BitVec.lt_def] at h1 h2 ⊢
  by_cases p1 : a.toNat < b.toNat
  ·rw [if_pos p1] at h1
   by_cases p2 : b.toNat < c.toNat
   ·rw [if_pos (by omega)]; omega
   ·rw [if_neg p2] at h2
    by_cases p3 : c.toNat < b.toNat
    ·rw [if_pos p3] at h2; omega
    ·rw [if_pos (by omega)]; omega
  ·rw [if_neg p1] at h1
   by_cases p2 : b.toNat < a.toNat
   ·rw [if_pos p2] at h1; omega
   ·rw [if_neg p2] at h1
    by_cases p3 : b.toNat < c.toNat
    ·rw [if_pos (by omega)]; omega
    ·rw [if_neg p3] at h2
     by_cases p4 : c.toNat < b.toNat
     ·rw [if_pos p4] at h2; omega
     ·rw [if_neg p4] at h2
      rw [if_neg (by omega), if_neg (by omega)]
      exact cmpB_trans h1 h2
theorem ltP_irrefl (p : Pt) : ltP p p = false := by simp [ltP, cmpB_self]
theorem ltP_trans {p q r : Pt} (h1 : ltP p q = true) (h2 : ltP q r = true) : ltP p r = true := by
 simp only [ltP, decide_eq_true_eq] at *
 exact cmpB_trans h1 h2
section
variable {X : Type} (f : X → Pt)
def fnd (l : List X) (e : Pt) : Option X := l.find? fun x => decide (f x = e)
def del (l : List X) (e : Pt) : List X := l.filter fun x => !decide (f x = e)
def low (l : List X) (e : Pt) : Nat := (l.takeWhile fun y => ltP (f y) e).length
def ins (l : List X) (x : X) : List X := l.take (low f l (f x)) ++ x :: l.drop (low f l (f x))
def hasP (l : List X) (e : Pt) : Bool := (fnd f l e).isSome
end
def fS (x : Seat) : Pt := x.who.e
def fI (x : Inv) : Pt := x.who.e
def fA (x : Ask) : Pt := x.who.e
def fB (x : Ban) : Pt := x.who.e
def roleOf (s : Stt) (e : Pt) : BitVec 8 := match fnd fS s.seats e with
 | some x => x.role
 | none => 0#8
def admins (s : Stt) : Nat := s.seats.countP fun x => decide (x.role = 2#8)
def meOf (s : Stt) (e : Pt) : Ci := match fnd fS s.seats e with
 | some x => x.who
 | none => ci0
def adds (s : Stt) (b : Pt) (r : BitVec 8) : Bool := !decide (roleOf s b = 0#8) && !decide (roleOf s b < s.acc.members) && (decide (r = 1#8) || decide (roleOf s b = 2#8))
def passOk (s : Stt) (a : Actn) : Bool := decide (0 < s.pass.length) && decide (s.pass = a.pass)
def whoOf (s : Stt) (e : Pt) : Option Ci := match fnd fS s.seats e with
 | some x => some x.who
 | none => match fnd fI s.invites e with
  | some x => some x.who
  | none => (fnd fA s.asks e).map (·.who)
def madeP (s : Stt) (b : Pt) (a : Actn) : Except Nat Stt :=
 let mine := roleOf s b
 let w := a.who.e
 if a.kind = 1#8 then
  if adds s b a.role = false then .error 191 else if hasP fB s.bans w then .error 193 else if hasP fS s.seats w then .error 8 else if 40 ≤ s.seats.length then .error 9
  else .ok { s with invites := del fI s.invites w, asks := del fA s.asks w, seats := ins fS s.seats ⟨a.who, a.role, a.version⟩ }
 else if a.kind = 5#8 then
  if adds s b a.role = false then .error 191 else if hasP fB s.bans w then .error 193 else if hasP fS s.seats w || hasP fI s.invites w then .error 8 else if 40 ≤ s.invites.length then .error 9
  else .ok { s with asks := del fA s.asks w, invites := ins fI s.invites ⟨a.who, a.role, meOf s b⟩ }
 else if a.kind = 2#8 then
  if mine ≠ 2#8 then .error 191 else if !hasP fS s.seats a.e then .error 7 else if a.e = b then .error 195
  else .ok { s with seats := del fS s.seats a.e }
 else if a.kind = 3#8 then
  if mine ≠ 2#8 then .error 191 else match fnd fS s.seats a.e with
   | none => .error 7
   | some x => if x.role = a.role then .error 8 else if x.role = 2#8 ∧ admins s = 1 then .error 192
    else .ok { s with seats := ins fS (del fS s.seats a.e) { x with role := a.role } }
 else if a.kind = 12#8 then
  if adds s b a.role = false then .error 191 else match fnd fA s.asks a.e with
   | none => .error 7
   | some x => if 40 ≤ s.seats.length then .error 9 else .ok { s with asks := del fA s.asks a.e, seats := ins fS s.seats ⟨x.who, a.role, a.version⟩ }
 else if a.kind = 13#8 then
  if mine ≠ 2#8 then .error 191 else if !hasP fA s.asks a.e then .error 7 else .ok { s with asks := del fA s.asks a.e }
 else if a.kind = 14#8 then
  if mine ≠ 2#8 then .error 191 else if a.e = b then .error 195 else if hasP fB s.bans a.e then .error 8 else match whoOf s a.e with
   | none => .error 7
   | some c => if 40 ≤ s.bans.length then .error 9
    else .ok { s with seats := del fS s.seats a.e, invites := del fI s.invites a.e, asks := del fA s.asks a.e, bans := ins fB s.bans ⟨c, meOf s b⟩ }
 else if a.kind = 15#8 then
  if mine ≠ 2#8 then .error 191 else if !hasP fB s.bans a.e then .error 7 else .ok { s with bans := del fB s.bans a.e }
 else if a.kind = 4#8 then
  if mine = 0#8 then .error 191 else if mine = 2#8 ∧ admins s = 1 ∧ 1 < s.seats.length then .error 192
  else .ok { s with seats := del fS s.seats b }
 else if a.kind = 6#8 then
  if mine = 0#8 then .error 191 else match fnd fI s.invites a.e with
   | none => .error 7
   | some x => if mine ≠ 2#8 ∧ x.by_.e ≠ b then .error 191 else .ok { s with invites := del fI s.invites a.e }
 else if a.kind = 7#8 then
  match fnd fI s.invites b with
   | none => .error 7
   | some x => if 40 ≤ s.seats.length then .error 9 else .ok { s with invites := del fI s.invites b, seats := ins fS s.seats ⟨x.who, x.role, a.version⟩ }
 else if a.kind = 8#8 then
  if !hasP fI s.invites b then .error 7 else .ok { s with invites := del fI s.invites b }
 else if a.kind = 9#8 then
  if w ≠ b then .error 195 else if hasP fB s.bans b then .error 193 else if mine ≠ 0#8 then .error 8 else if s.acc.link ≠ 1#8 then .error 196 else if !passOk s a then .error 194 else if 40 ≤ s.seats.length then .error 9
  else .ok { s with invites := del fI s.invites b, asks := del fA s.asks b, seats := ins fS s.seats ⟨a.who, 1#8, a.version⟩ }
 else if a.kind = 10#8 then
  if w ≠ b then .error 195 else if hasP fB s.bans b then .error 193 else if (mine ≠ 0#8 ∨ hasP fI s.invites b = true) ∨ hasP fA s.asks b = true then .error 8 else if s.acc.link ≠ 2#8 then .error 196 else if !passOk s a then .error 194 else if 40 ≤ s.asks.length then .error 9
  else .ok { s with asks := ins fA s.asks ⟨a.who, a.version⟩ }
 else if a.kind = 11#8 then
  if !hasP fA s.asks b then .error 7 else .ok { s with asks := del fA s.asks b }
 else if a.kind = 16#8 then
  if mine = 0#8 ∨ mine < s.acc.title then .error 191 else .ok { s with title := a.title }
 else if mine ≠ 2#8 then .error 191
 else if a.kind = 17#8 then .ok { s with acc := a.acc }
 else .ok { s with pass := a.pass }
def stepP (s : Stt) (b : Pt) (a : Actn) : Except Nat Stt :=
 if mayS s = false ∨ mayA a = false then .error 2
 else if a.version = 0#32 ∨ a.version - 1#32 ≠ s.version then .error 190
 else if s.seats.length = 0 then .error 197
 else match madeP s b a with
  | .error e => .error e
  | .ok t => .ok { t with version := a.version }
def st0 : Stt := ⟨0#32, ci0, [], acc0, [], [], [], [], []⟩
def placeP (s : Stt) (e : Pt) : Nat × BitVec 64 × Pt := match fnd fS s.seats e with
 | some x => (1, (x.role.setWidth 64 <<< 32) + x.joined.setWidth 64, pt0)
 | none => match fnd fI s.invites e with
  | some x => (2, x.role.setWidth 64, x.by_.e)
  | none => match fnd fA s.asks e with
   | some x => (3, x.at_.setWidth 64, pt0)
   | none => match fnd fB s.bans e with
    | some x => (4, 0#64, x.by_.e)
    | none => (0, 0#64, pt0)
end Go.Vab

/-
  Roles: looking into lists.
-/
namespace Go.Vab
open Go
section
variable {X : Type} (f : X → Pt)
def idxI (l : List X) (e : Pt) : Int := match l.findIdx? (fun x => decide (f x = e)) with
 | some i => i
 | none => -1
theorem idxI_spec (l : List X) (e : Pt) : (∃ i, ∃ h : i < l.length, idxI f l e = i ∧ fnd f l e = some l[i] ∧ f l[i] = e) ∨ (idxI f l e = -1 ∧ fnd f l e = none) := by
 unfold idxI fnd
 cases h : l.findIdx? (fun x => decide (f x = e)) with
 | none =>
  refine .inr ⟨rfl, ?_⟩
  rw [List.findIdx?_eq_none_iff] at h
  rw [List.find?_eq_none]
  intro x hx
  simpa using h x hx
 | some i =>
  rw [List.findIdx?_eq_some_iff_getElem] at h
  obtain ⟨hi, h1, h2⟩ := h
  refine .inl ⟨i, hi, rfl, ?_, by simpa using h1⟩
  rw [List.find?_eq_some_iff_getElem]
  refine ⟨h1, i, hi, rfl, fun j hj => ?_⟩
  have := h2 j hj
  simpa using this
theorem idxI_yes {l : List X} {e : Pt} {i : Nat} (hi : i < l.length) (h : f l[i] = e) (hb : ∀ j (hj : j < l.length), j < i → f l[j] ≠ e) : idxI f l e = i := by
 unfold idxI
 have : l.findIdx? (fun x => decide (f x = e)) = some i := by
  rw [List.findIdx?_eq_some_iff_getElem]
  exact ⟨hi, by simpa using h, fun j hj => by simpa using hb j (by omega) hj⟩
 rw [this]
theorem idxI_no {l : List X} {e : Pt} (hb : ∀ j (hj : j < l.length), f l[j] ≠ e) : idxI f l e = -1 := by
 unfold idxI
 have : l.findIdx? (fun x => decide (f x = e)) = none := by
  rw [List.findIdx?_eq_none_iff]
  intro x hx
  obtain ⟨j, hj, rfl⟩ := List.getElem_of_mem hx
  simpa using hb j hj
 rw [this]
end
theorem fold_nat (n : Nat) : AV.int .i64 (n : Int) = nat n := rfl
@[simp] theorem int_lt0 (a : Int) : mBin .lss (.int .i64 a) (nat 0) = some (.bool (decide (a < 0))) := by simp [mBin, mBinI, nat]
theorem strL_by8 (l : Bs) : strL l = ⟨(by8 l).toArray⟩ := by
 unfold strL strOf by8
 congr 2
 apply List.ext_getElem?
 intro i
 rw [range_map_getD]
 split
 ·rename_i hi
  simp [Bs.g, List.getD_eq_getElem?_getD, List.getElem?_eq_getElem hi]
 ·rename_i hi
  rw [List.getElem?_eq_none (by simpa using hi)]
theorem less_cmp : ∀ a b : Bs, Go.Op.bytesLess (by8 a) (by8 b) = decide (cmpB a b < 0)
 | [], [] => rfl
 | [], _ :: _ => rfl
 | _ :: _, [] => rfl
 | a :: xs, b :: ys => by
  have ih := less_cmp xs ys
  show (decide (UInt8.ofNat a.toNat < UInt8.ofNat b.toNat) || (UInt8.ofNat a.toNat == UInt8.ofNat b.toNat && Go.Op.bytesLess (by8 xs) (by8 ys))) = decide ((if a < b then (-1 : Int) else if b < a then 1 else cmpB xs ys) < 0)
  rw [ih]
  by_cases h1 : a < b
  ·simp only [(by8_lt a b).2 h1, decide_true, Bool.true_or, if_pos h1]
   rfl
  ·have h1' : ¬ UInt8.ofNat a.toNat < UInt8.ofNat b.toNat := fun q => h1 ((by8_lt _ _).1 q)
   by_cases h2 : b < a
   ·have : (UInt8.ofNat a.toNat == UInt8.ofNat b.toNat) = false := by
     rw [beq_eq_false_iff_ne]
     intro e
     have := (by8_lt b a).2 h2
     rw [e] at this
     exact UInt8.lt_irrefl _ this
    simp only [h1', this, decide_false, Bool.false_or, Bool.false_and, if_neg h1, if_pos h2]
    rfl
   ·have : a = b := by
     apply BitVec.eq_of_toNat_eq
     rw [BitVec.lt_def] at h1 h2
     omega
    subst this
    simp only [h1', decide_false, Bool.false_or, beq_self_eq_true, Bool.true_and, if_neg h1]
@[simp] theorem mBinT_ltL (l m : Bs) : mBinT .lss (.str (strL l)) (.str (strL m)) = some (.bool (decide (cmpB l m < 0))) := by
 simp only [mBinT, strL_by8, ByteArray.toList_mk, less_cmp]
end Go.Vab

/-
  A slice of structs that grows by append, beside a cell of its own.
-/
namespace Go.Vab
open Go
def Rn (t : Ty) (H : Heap) (x : AV) (es : List AV) : Prop := es.length ≤ 1000000 ∧ ((x = .nilslice ∧ es = []) ∨
 ∃ b c us, x = .slice b 0 [] t 0 es.length (some c) ∧ H[b]? = some ⟨.node us, 0, .own⟩ ∧ us.length = c ∧ es.length ≤ c ∧ us.take es.length = es)
theorem Rn.row {ts : List Ty} {H : Heap} {x : AV} {es : List AV} (hr : Rn (.struct ts) H x es) : Row (.struct ts) H x es := by
 obtain ⟨hl, ⟨rfl, rfl⟩ | ⟨b, c, us, rfl, h2, h3, h4, h5⟩⟩ := hr
 ·exact ⟨by simp [mElems], rfl, by simp⟩
 ·refine ⟨?_, ⟨rfl, h4, rfl⟩, by omega⟩
  rw [mElems_row]
  have : blkAt H b 0 = some ⟨.node us, 0, .own⟩ := by unfold blkAt; rw [h2]; rfl
  rw [this, bnd_some, get_nil, bnd_some, cut_node_eq, Nat.zero_add, if_pos (by omega), List.drop_zero, h5]
theorem BytFrom.rb_ge {m : Nat} {u : Heap} {y : AV} {l : Bs} (k : BytFrom m u y l) : ∀ i, rb y = some i → m ≤ i := by
 intro i hi
 cases y with
 | slice b ver path t off len cap =>
  cases hi
  refine Nat.le_of_not_lt fun hlt => ?_
  have h1 := (k (List.replicate m ⟨.undef, 0, .own⟩) [] (by simp)).1.1
  simp only [mElems] at h1
  split at h1
  ·obtain ⟨bb, g1, g2⟩ := bnd_eq_some.1 h1
   obtain ⟨g3, g4⟩ := blkAt_spec g1
   rw [List.getElem?_append_left (by simpa using hlt)] at g3
   simp only [List.getElem?_replicate, hlt, if_true, Option.some.injEq] at g3
   subst g3
   obtain ⟨r, g5, g6⟩ := bnd_eq_some.1 g2
   cases path with
   | nil => simp at g5; subst g5; simp [AV.cut] at g6
   | cons p q => simp [AV.get] at g5
  ·cases h1
 | _ => cases hi
theorem BytL.rb_lt' {h : Heap} {y : AV} {m : Bs} (hy : BytL h y m) : ∀ b, rb y = some b → b < h.length := by
 intro b hb
 cases y with
 | slice b' ver path t off len cap =>
  cases hb
  have h1 := hy.1.1
  simp only [mElems] at h1
  split at h1
  ·obtain ⟨bb, g1, g2⟩ := bnd_eq_some.1 h1
   exact (List.getElem?_eq_some_iff.1 (blkAt_spec g1).1).1
  ·cases h1
 | _ => cases hb
theorem Row.rb_lt {h : Heap} {t : Ty} {y : AV} {m : List AV} (hy : Row t h y m) : ∀ b, rb y = some b → b < h.length := by
 intro b hb
 cases y with
 | slice b' ver path t off len cap =>
  cases hb
  have h1 := hy.1
  simp only [mElems] at h1
  split at h1
  ·obtain ⟨bb, g1, g2⟩ := bnd_eq_some.1 h1
   exact (List.getElem?_eq_some_iff.1 (blkAt_spec g1).1).1
  ·cases h1
 | _ => cases hb
end Go.Vab

/-
  Elements of rows: where they lie.
-/
namespace Go.Vab
open Go
theorem Row.idxP {t : Ty} {h : Heap} {x : AV} {vs : List AV} (hr : Row t h x vs) {i : Nat} (hi : i < vs.length) :
  ∃ b ver path bb, mIdxS t x (nat i) = some (.ptr b ver path t) ∧ (∀ l, blkAt (h ++ l) b ver = some bb) ∧ bb.v.get path = some vs[i] ∧ ∀ q, bb.v.get (path ++ q) = vs[i].get q := by
 obtain ⟨b, ver, path, off, c, rfl, hc⟩ := hr.slc (by rintro rfl; simp at hi)
 have h1 := hr.1
 rw [mElems_row] at h1
 obtain ⟨bb, g1, g2⟩ := bnd_eq_some.1 h1
 obtain ⟨r, g3, g4⟩ := bnd_eq_some.1 g2
 have g5 : bb.v.get (path ++ [off + i]) = some vs[i] := by
  rw [get_append, g3, bnd_some, (cut_node g4).2 i hi, List.getElem?_eq_getElem hi]
 refine ⟨b, ver, path ++ [off + i], bb, by simp [mIdxS, hi], fun l => blkAt_app g1 l, g5, fun q => ?_⟩
 rw [get_append, g5, bnd_some]
theorem Row.idxE {X : Type} {E : X → AV} {t : Ty} {h : Heap} {x : AV} {l : List X} (hr : Row t h x (l.map E)) {i : Nat} (hi : i < l.length) :
  ∃ b ver path bb, mIdxS t x (nat i) = some (.ptr b ver path t) ∧ (∀ l, blkAt (h ++ l) b ver = some bb) ∧ bb.v.get path = some (E l[i]) ∧ ∀ q, bb.v.get (path ++ q) = (E l[i]).get q := by
 obtain ⟨b, ver, path, bb, h1, h2, h3, h4⟩ := hr.idxP (i := i) (by simpa using hi)
 simp only [List.getElem_map] at h3 h4
 exact ⟨b, ver, path, bb, h1, h2, h3, h4⟩
section
variable (v v' : BitVec 32) (k k' : Ci) (c c' : Acc) (vt vp x : AV) (r : List Nat) (kd : BitVec 8) (w : Ci) (e e' : Pt) (ro ro' : BitVec 8)
@[simp] theorem eAct_put2 : (eActH v kd w e ro c vt vp).put [2] (eCi k') = some (eActH v kd k' e ro c vt vp) := by simp [eActH, -fold_eAct]
@[simp] theorem eAct_put4 : (eActH v kd w e ro c vt vp).put [4] (u8 ro') = some (eActH v kd w e ro' c vt vp) := by simp [eActH, -fold_eAct]
end
@[simp] theorem hW_16 : hW 16#8 = false := rfl
@[simp] theorem hW_17 : hW 17#8 = false := rfl
@[simp] theorem hE_16 : hE 16#8 = false := rfl
@[simp] theorem hE_17 : hE 17#8 = false := rfl
@[simp] theorem hR_16 : hR 16#8 = false := rfl
@[simp] theorem hR_17 : hR 17#8 = false := rfl
@[simp] theorem hP_16 : hP 16#8 = false := rfl
@[simp] theorem hP_17 : hP 17#8 = false := rfl
end Go.Vab

/-
  Rows in a region of one's own: they grow by append.
-/
namespace Go.Vab
open Go
def RnU (t : Ty) (n : Nat) (u : Heap) (x : AV) (es : List AV) : Prop := es.length ≤ 1000000 ∧ ((x = .nilslice ∧ es = []) ∨
 ∃ j c us, x = .slice (n + j) 0 [] t 0 es.length (some c) ∧ u[j]? = some ⟨.node us, 0, .own⟩ ∧ us.length = c ∧ es.length ≤ c ∧ us.take es.length = es)
theorem RnU.nil (t : Ty) (n : Nat) (u : Heap) : RnU t n u .nilslice [] := ⟨by simp, .inl ⟨rfl, rfl⟩⟩
theorem RnU.rn {t : Ty} {n : Nat} {u F l : Heap} {x : AV} {es : List AV} (r : RnU t n u x es) (hF : F.length = n) : Rn t (F ++ (u ++ l)) x es := by
 obtain ⟨hl, h | ⟨j, c, us, rfl, h2, h3⟩⟩ := r
 ·exact ⟨hl, .inl h⟩
 ·refine ⟨hl, .inr ⟨n + j, c, us, rfl, ?_, h3⟩⟩
  rw [← hF, List.getElem?_append_right (by omega), Nat.add_sub_cancel_left, List.getElem?_append_left (List.getElem?_eq_some_iff.1 h2).1]; exact h2
theorem RnU.row {ts : List Ty} {t : Ty} (ht : t = .struct ts) {n : Nat} {u F l : Heap} {x : AV} {es : List AV} (r : RnU t n u x es) (hF : F.length = n) : Row t (F ++ (u ++ l)) x es := by
 subst ht
 exact (r.rn hF).row
theorem appW_rnU {t : Ty} {ts : List Ty} {bytes : Nat} {zero : AV} {F u w : Heap} {n : Nat} {x y : AV} {es new : List AV} {K : AV × Heap → Prop} (ht : t = .struct ts) (hz : ∀ m, zeroRow m zero = .node (List.replicate m zero)) (hF : F.length = n) (hr : RnU t n u x es)
  (hy : mElems t y (F ++ (u ++ w)) = some (.node new)) (hn : es.length + new.length ≤ 1000000) (hb : bytes ≤ 10000)
  (hK : ∀ x' u', RnU t n u' x' (es ++ new) → (u ++ w).length ≤ u'.length → (∀ j, rb x ≠ some (n + j) → j < (u ++ w).length → u'[j]? = (u ++ w)[j]?) → (∀ b, rb x' = some b → rb x = some b ∨ n + (u ++ w).length ≤ b) → K (x', F ++ u')) : appW t bytes zero x y (F ++ (u ++ w)) K := by
 subst ht
 have hmul : (es.length + new.length) * bytes ≤ 1000000 * 10000 := Nat.mul_le_mul hn hb
 have hmul2 : new.length * bytes ≤ 1000000 * 10000 := Nat.mul_le_mul (by omega) hb
 refine ⟨_, new.length, hy, rfl, ?_⟩
 obtain ⟨hl, ⟨rfl, rfl⟩ | ⟨j, c, us, rfl, h2, h3, h4, h5⟩⟩ := hr
 ·by_cases h0 : new.length = 0
  ·have : new = [] := List.eq_nil_of_length_eq_zero h0
   subst this
   exact .inl ⟨rfl, hK _ (u ++ w) ⟨by simp, .inl ⟨rfl, rfl⟩⟩ (Nat.le_refl _) (fun _ _ _ => rfl) fun b hb => .inl hb⟩
  ·refine .inr ⟨by omega, by unfold roomBound; omega, by unfold roomBound; omega, by omega, fun c row hc hrow => ?_⟩
   rw [padRow_node hz] at hrow
   cases hrow
   have := hK (.slice (n + (u ++ w).length) 0 [] (.struct ts) 0 new.length (some c)) (u ++ w ++ [⟨.node (new ++ List.replicate (c - new.length) zero), 0, .own⟩]) ⟨by simpa using hn, .inr ⟨(u ++ w).length, c, _, rfl, by rw [List.getElem?_append_right (Nat.le_refl _), Nat.sub_self]; rfl, by simp; omega, by simpa using hc, by simp⟩⟩ (by simp)
    (fun i _ hi => by rw [List.getElem?_append_left hi]) (fun b hb => by cases hb; exact .inr (Nat.le_refl _))
   simpa [hF, Nat.add_assoc] using this
 ·have hj : j < u.length := (List.getElem?_eq_some_iff.1 h2).1
  have hg : (F ++ (u ++ w))[n + j]? = some ⟨.node us, 0, .own⟩ := by
   rw [← hF, List.getElem?_append_right (by omega), Nat.add_sub_cancel_left, List.getElem?_append_left hj]; exact h2
  have hbk : blkAt (F ++ (u ++ w)) (n + j) 0 = some ⟨.node us, 0, .own⟩ := by unfold blkAt; rw [hg]; rfl
  have hold : mElems (.struct ts) (.slice (n + j) 0 [] (.struct ts) 0 es.length (some c)) (F ++ (u ++ w)) = some (.node es) := by
   rw [mElems_row, hbk, bnd_some, get_nil, bnd_some, cut_node_eq, Nat.zero_add, if_pos (by omega), List.drop_zero, h5]
  refine ⟨_, _, hold, rfl, ?_⟩
  by_cases h0 : new.length = 0
  ·have : new = [] := List.eq_nil_of_length_eq_zero h0
   subst this
   refine .inl ⟨rfl, h4, ?_⟩
   exact hK _ (u ++ w) ⟨by simpa using hl, .inr ⟨j, c, us, by simp, by rw [List.getElem?_append_left hj]; exact h2, h3, by simpa using h4, by simpa using h5⟩⟩ (Nat.le_refl _) (fun _ _ _ => rfl) fun b hb => .inl hb
  by_cases hroom : es.length + new.length ≤ c
  ·refine .inr (.inl ⟨by omega, hroom, _, _, .node (us.take es.length ++ (new ++ us.drop (es.length + new.length))), _, hbk, by simp, get_nil _, ?_, put_nil _ _, ?_⟩)
   ·simp only [AV.splice, Nat.zero_add]
    rw [if_pos (by simp; omega)]
    simp
   ·have := hK (.slice (n + j) 0 [] (.struct ts) 0 (es.length + new.length) (some c)) ((u ++ w).set j ⟨.node (us.take es.length ++ (new ++ us.drop (es.length + new.length))), 0, .own⟩)
     ⟨by simpa using hn, .inr ⟨j, c, us.take es.length ++ (new ++ us.drop (es.length + new.length)), by simp, by rw [List.getElem?_set_self (by simp; omega)], by simp; omega, by simpa using hroom, by rw [h5, List.length_append, ← List.append_assoc]; exact List.take_left' (by simp)⟩⟩ (by simp)
     (fun i hi _ => by rw [List.getElem?_set_ne (fun e => hi (by rw [← e]; rfl))]) (fun b' hb' => .inl hb')
    have e : (F ++ (u ++ w)).set (n + j) ⟨.node (us.take es.length ++ (new ++ us.drop (es.length + new.length))), 0, .own⟩ = F ++ (u ++ w).set j ⟨.node (us.take es.length ++ (new ++ us.drop (es.length + new.length))), 0, .own⟩ := by
     rw [← hF, set_new]
    simp only
    rw [e]; exact this
  ·refine .inr (.inr ⟨by omega, by omega, by unfold roomBound; omega, by unfold roomBound; omega, by omega, fun c' row hc hrow => ?_⟩)
   rw [padRow_node hz] at hrow
   cases hrow
   have := hK (.slice (n + (u ++ w).length) 0 [] (.struct ts) 0 (es.length + new.length) (some c')) (u ++ w ++ [⟨.node (es ++ new ++ List.replicate (c' - (es.length + new.length)) zero), 0, .own⟩]) ⟨by simpa using hn, .inr ⟨(u ++ w).length, c', _, by simp, by rw [List.getElem?_append_right (Nat.le_refl _), Nat.sub_self]; rfl, by simp; omega, by simpa using hc, List.take_left' (by simp)⟩⟩ (by simp)
    (fun i _ hi => by rw [List.getElem?_append_left hi]) (fun b' hb' => by cases hb'; exact .inr (Nat.le_refl _))
   simpa [hF, Nat.add_assoc] using this
@[simp] theorem bslCi (c : Ci) (H : Heap) : mBuildSlice tCipher (eCi ci0) 1 [(0, eCi c)] H = some (.slice H.length 0 [] tCipher 0 1 (some 1), H ++ [⟨.node [eCi c], 0, .own⟩]) := by
 have hz : zeroRow 1 (eCi ci0) = .node [eCi ci0] := rfl
 simp [mBuildSlice, fillRow, hz, hasTyAll]
@[simp] theorem bslSeat (c : Seat) (H : Heap) : mBuildSlice tSeat (eSeat ⟨ci0, 0#8, 0#32⟩) 1 [(0, eSeat c)] H = some (.slice H.length 0 [] tSeat 0 1 (some 1), H ++ [⟨.node [eSeat c], 0, .own⟩]) := by
 have hz : zeroRow 1 (eSeat ⟨ci0, 0#8, 0#32⟩) = .node [eSeat ⟨ci0, 0#8, 0#32⟩] := rfl
 simp [mBuildSlice, fillRow, hz, hasTyAll]
@[simp] theorem bslInv (c : Inv) (H : Heap) : mBuildSlice tInvite (eInv ⟨ci0, 0#8, ci0⟩) 1 [(0, eInv c)] H = some (.slice H.length 0 [] tInvite 0 1 (some 1), H ++ [⟨.node [eInv c], 0, .own⟩]) := by
 have hz : zeroRow 1 (eInv ⟨ci0, 0#8, ci0⟩) = .node [eInv ⟨ci0, 0#8, ci0⟩] := rfl
 simp [mBuildSlice, fillRow, hz, hasTyAll]
@[simp] theorem bslAsk (c : Ask) (H : Heap) : mBuildSlice tAsk (eAsk ⟨ci0, 0#32⟩) 1 [(0, eAsk c)] H = some (.slice H.length 0 [] tAsk 0 1 (some 1), H ++ [⟨.node [eAsk c], 0, .own⟩]) := by
 have hz : zeroRow 1 (eAsk ⟨ci0, 0#32⟩) = .node [eAsk ⟨ci0, 0#32⟩] := rfl
 simp [mBuildSlice, fillRow, hz, hasTyAll]
@[simp] theorem bslBan (c : Ban) (H : Heap) : mBuildSlice tBan (eBan ⟨ci0, ci0⟩) 1 [(0, eBan c)] H = some (.slice H.length 0 [] tBan 0 1 (some 1), H ++ [⟨.node [eBan c], 0, .own⟩]) := by
 have hz : zeroRow 1 (eBan ⟨ci0, ci0⟩) = .node [eBan ⟨ci0, ci0⟩] := rfl
 simp [mBuildSlice, fillRow, hz, hasTyAll]
end Go.Vab

/-
  Which states may be, told in the document's way.
-/
namespace Go.Vab
open Go
def pts (s : Stt) : List Pt := sE s ++ iE s ++ aE s ++ bE s
theorem pts_len (s : Stt) : (pts s).length = s.seats.length + s.invites.length + s.asks.length + s.bans.length := by simp [pts, sE, iE, aE, bE]; omega
def adjAt (l : List Pt) (i : Nat) : Bool := ltP (l.getD (i - 1) pt0) (l.getD i pt0)
def adjB (l : List Pt) (from_ to : Nat) : Bool := (List.range to).all fun i => decide (i ≤ from_) || adjAt l i
def nodAt (l : List Pt) (i : Nat) : Bool := (List.range i).all fun k => !decide (l.getD i pt0 = l.getD k pt0)
def nodB (l : List Pt) : Bool := (List.range l.length).all (nodAt l)
def shapeR (a : Stt) : Bool := !(decide (200 < a.title.length) || (!decide (a.pass.length = 0) && !decide (a.pass.length = 16)) || !accOk a.acc)
def lensR (a : Stt) : Bool := !(decide (40 < a.seats.length) || decide (40 < a.invites.length) || decide (40 < a.asks.length) || decide (40 < a.bans.length))
def adjR (s : Stt) : Bool := adjB (pts s) 0 s.seats.length && (adjB (pts s) s.seats.length (s.seats.length + s.invites.length) && (adjB (pts s) (s.seats.length + s.invites.length) (s.seats.length + s.invites.length + s.asks.length) && adjB (pts s) (s.seats.length + s.invites.length + s.asks.length) (s.seats.length + s.invites.length + s.asks.length + s.bans.length)))
def mayR (s : Stt) : Bool := shapeR s && (lensR s && (adjR s && (nodB (pts s) && ((s.seats.all fun x => roleOk x.role) && (s.invites.all fun x => roleOk x.role)))))
theorem all_no {n : Nat} {f : Nat → Bool} {i : Nat} (hi : i < n) (h : f i = false) : (List.range n).all f = false := by
 rw [List.all_eq_false]
 exact ⟨i, List.mem_range.2 hi, by simp [h]⟩
theorem all_yes {n : Nat} {f : Nat → Bool} (h : ∀ i, i < n → f i = true) : (List.range n).all f = true := by
 rw [List.all_eq_true]
 exact fun i hi => h i (List.mem_range.1 hi)
theorem all_iff {n : Nat} {f : Nat → Bool} : (List.range n).all f = true ↔ ∀ i, i < n → f i = true := by
 rw [List.all_eq_true]
 exact ⟨fun h i hi => h i (List.mem_range.2 hi), fun h i hi => h i (List.mem_range.1 hi)⟩
def nd (seen ps : List Pt) : Prop := ∀ i (hi : i < ps.length), ps[i] ∉ seen ++ ps.take i
def adj (ps : List Pt) : Prop := ∀ i, 0 < i → i < ps.length → adjAt ps i = true
theorem riseB_iff {seen ps : List Pt} : riseB seen ps = true ↔ nd seen ps ∧ adj ps := by
 unfold riseB
 rw [all_iff]
 constructor
 ·intro h
  refine ⟨fun i hi hm => ?_, fun i h0 hi => ?_⟩
  ·have := h i hi
   simp only [goodAt, Bool.and_eq_true, Bool.not_eq_true', decide_eq_false_iff_not] at this
   rw [List.getD_eq_getElem?_getD, List.getElem?_eq_getElem hi] at this
   exact this.1 hm
  ·have := h i hi
   simp only [goodAt, Bool.and_eq_true, Bool.or_eq_true, decide_eq_true_eq] at this
   rcases this.2 with e | e
   ·omega
   ·simpa [adjAt, ltP] using e
 ·rintro ⟨h1, h2⟩ i hi
  simp only [goodAt, Bool.and_eq_true, Bool.not_eq_true', decide_eq_false_iff_not, Bool.or_eq_true, decide_eq_true_eq]
  refine ⟨?_, ?_⟩
  ·rw [List.getD_eq_getElem?_getD, List.getElem?_eq_getElem hi]
   exact h1 i hi
  ·by_cases h0 : i = 0
   ·exact .inl h0
   ·have := h2 i (by omega) hi
    simp only [adjAt, ltP, decide_eq_true_eq] at this
    exact .inr this
theorem nd_cons {seen : List Pt} {p : Pt} {ps : List Pt} : nd seen (p :: ps) ↔ p ∉ seen ∧ nd (seen ++ [p]) ps := by
 constructor
 ·intro h
  refine ⟨fun hm => h 0 (by simp) (by simpa using hm), fun i hi => ?_⟩
  have := h (i + 1) (by simpa using hi)
  simpa using this
 ·rintro ⟨h1, h2⟩ i hi
  cases i with
  | zero => simpa using h1
  | succ i =>
   have := h2 i (by simpa using hi)
   simpa using this
theorem nodup_app {ps : List Pt} : ∀ {seen : List Pt}, (seen ++ ps).Nodup ↔ seen.Nodup ∧ nd seen ps := by
 induction ps with
 | nil => intro seen; simp [nd]
 | cons p ps ih =>
  intro seen
  rw [show seen ++ p :: ps = (seen ++ [p]) ++ ps by simp, ih, nd_cons]
  rw [List.nodup_append]
  simp only [List.nodup_cons, List.not_mem_nil, not_false_eq_true, List.nodup_nil, and_self, true_and, List.mem_singleton]
  constructor
  ·rintro ⟨⟨h1, h2⟩, h3⟩
   exact ⟨h1, fun hm => h2 p hm p rfl rfl, h3⟩
  ·rintro ⟨h1, h2, h3⟩
   exact ⟨⟨h1, fun a ha b hb e => h2 (by rw [← hb, ← e]; exact ha)⟩, h3⟩
theorem nodB_iff {l : List Pt} : nodB l = true ↔ l.Nodup := by
 unfold nodB
 rw [all_iff]
 unfold List.Nodup
 rw [List.pairwise_iff_getElem]
 constructor
 ·intro h i j hi hj hij e
  have := h j hj
  unfold nodAt at this
  rw [all_iff] at this
  have := this i hij
  simp only [Bool.not_eq_true', decide_eq_false_iff_not] at this
  exact this (by rw [List.getD_eq_getElem?_getD, List.getD_eq_getElem?_getD, List.getElem?_eq_getElem hi, List.getElem?_eq_getElem hj, e])
 ·intro h i hi
  unfold nodAt
  rw [all_iff]
  intro k hk
  simp only [Bool.not_eq_true', decide_eq_false_iff_not]
  intro e
  refine h k i (by omega) hi hk ?_
  rw [List.getD_eq_getElem?_getD, List.getD_eq_getElem?_getD, List.getElem?_eq_getElem hi, List.getElem?_eq_getElem (by omega)] at e
  simpa using e.symm
theorem adjB_mid {A B C : List Pt} : adjB (A ++ B ++ C) A.length (A.length + B.length) = true ↔ adj B := by
 unfold adjB adj
 rw [all_iff]
 have hg : ∀ j, j < B.length → (A ++ B ++ C).getD (A.length + j) pt0 = B.getD j pt0 := by
  intro j hj
  rw [List.getD_eq_getElem?_getD, List.getD_eq_getElem?_getD, List.append_assoc, List.getElem?_append_right (by omega), Nat.add_sub_cancel_left, List.getElem?_append_left hj]
 constructor
 ·intro h i h0 hi
  have := h (A.length + i) (by omega)
  simp only [Bool.or_eq_true, decide_eq_true_eq] at this
  rcases this with e | e
  ·omega
  ·unfold adjAt at e ⊢
   rw [show A.length + i - 1 = A.length + (i - 1) by omega, hg _ (by omega), hg _ hi] at e
   exact e
 ·intro h i hi
  simp only [Bool.or_eq_true, decide_eq_true_eq]
  by_cases hle : i ≤ A.length
  ·exact .inl hle
  ·right
   obtain ⟨j, rfl⟩ : ∃ j, i = A.length + j := ⟨i - A.length, by omega⟩
   have := h j (by omega) (by omega)
   unfold adjAt at this ⊢
   rw [show A.length + j - 1 = A.length + (j - 1) by omega, hg _ (by omega), hg _ (by omega)]
   exact this
theorem mayR_eq (s : Stt) : mayR s = mayS s := by
 rw [Bool.eq_iff_iff]
 have e1 : adjB (pts s) 0 s.seats.length = true ↔ adj (sE s) := by
  have := adjB_mid (A := []) (B := sE s) (C := iE s ++ aE s ++ bE s)
  simpa [pts, sE] using this
 have e2 : adjB (pts s) s.seats.length (s.seats.length + s.invites.length) = true ↔ adj (iE s) := by
  have := adjB_mid (A := sE s) (B := iE s) (C := aE s ++ bE s)
  simpa [pts, sE, iE] using this
 have e3 : adjB (pts s) (s.seats.length + s.invites.length) (s.seats.length + s.invites.length + s.asks.length) = true ↔ adj (aE s) := by
  have := adjB_mid (A := sE s ++ iE s) (B := aE s) (C := bE s)
  simpa [pts, sE, iE, aE] using this
 have e4 : adjB (pts s) (s.seats.length + s.invites.length + s.asks.length) (s.seats.length + s.invites.length + s.asks.length + s.bans.length) = true ↔ adj (bE s) := by
  have := adjB_mid (A := sE s ++ iE s ++ aE s) (B := bE s) (C := [])
  simpa [pts, sE, iE, aE, bE, Nat.add_assoc] using this
 have e5 : nodB (pts s) = true ↔ nd [] (sE s) ∧ nd (sE s) (iE s) ∧ nd (sE s ++ iE s) (aE s) ∧ nd (sE s ++ iE s ++ aE s) (bE s) := by
  rw [nodB_iff]
  unfold pts
  rw [nodup_app, nodup_app, nodup_app]
  have : (sE s).Nodup ↔ nd [] (sE s) := by
   have := nodup_app (seen := []) (ps := sE s)
   simpa using this
  rw [this]
  simp only [and_assoc]
 have e6 : shapeR s = shapeS s ∨ True := .inr trivial
 have hsh : shapeR s = shapeS s := by
  unfold shapeR shapeS
  congr 1
  have : (!decide (s.pass.length = 0) && !decide (s.pass.length = 16)) = (decide (s.pass.length % 16 ≠ 0) || decide (16 < s.pass.length)) := by
   rw [Bool.eq_iff_iff]
   simp only [Bool.and_eq_true, Bool.not_eq_true', decide_eq_false_iff_not, Bool.or_eq_true, decide_eq_true_eq]
   omega
  rw [this, ← Bool.or_assoc]
 have hr1 : (s.seats.all fun x => roleOk x.role) = !(s.seats.any fun x => !roleOk x.role) := by rw [List.not_any_eq_all_not]; simp only [Bool.not_not]
 have hr2 : (s.invites.all fun x => roleOk x.role) = !(s.invites.any fun x => !roleOk x.role) := by rw [List.not_any_eq_all_not]; simp only [Bool.not_not]
 unfold mayR mayS
 rw [hsh, hr1, hr2]
 unfold lensR adjR
 simp only [Bool.and_eq_true, riseB_iff, e1, e2, e3, e4, e5, Bool.not_eq_true', Bool.or_eq_false_iff, decide_eq_false_iff_not, decide_eq_true_eq, Nat.not_lt]
 constructor
 ·rintro ⟨h1, ⟨⟨⟨h2, h3⟩, h4⟩, h5⟩, ⟨h6, h7, h8, h9⟩, ⟨h10, h11, h12, h13⟩, h14, h15⟩
  exact ⟨h1, ⟨h2, h10, h6⟩, ⟨h3, h11, h7⟩, ⟨h4, h12, h8⟩, ⟨h5, h13, h9⟩, h14, h15⟩
 ·rintro ⟨h1, ⟨h2, h10, h6⟩, ⟨h3, h11, h7⟩, ⟨h4, h12, h8⟩, ⟨h5, h13, h9⟩, h14, h15⟩
  exact ⟨h1, ⟨⟨⟨h2, h3⟩, h4⟩, h5⟩, ⟨h6, h7, h8, h9⟩, ⟨h10, h11, h12, h13⟩, h14, h15⟩
end Go.Vab

/-
  Pieces of rows; where an element would stand.
-/
namespace Go.Vab
open Go
theorem Row.suf {t : Ty} {h : Heap} {x : AV} {vs : List AV} (hr : Row t h x vs) {n : Nat} (hn : n ≤ vs.length) : ∃ y, mSliceS t x (some (nat n)) none none = some y ∧ Row t h y (vs.drop n) ∧ (∀ b, rb y = some b → rb x = some b) := by
 obtain ⟨h1, h2, h3⟩ := hr
 cases x with
 | nilslice =>
  have hl : vs = [] := List.eq_nil_of_length_eq_zero h2
  subst hl
  have : n = 0 := by simpa using hn
  subst this
  refine ⟨.nilslice, by simp [mSliceS, optBound, mBound, asNat, nat], ⟨h1, rfl, by simp⟩, fun b hb => hb⟩
 | slice i ver path t' off len cap =>
  cases cap with
  | none => exact h2.elim
  | some c =>
   obtain ⟨e1, e2, e3⟩ := h2
   subst e3; subst e1
   refine ⟨.slice i ver path t' (off + n) (vs.length - n) (some (c - n)), ?_, ⟨?_, ?_, ?_⟩, fun b hb => hb⟩
   ·have : n ≤ vs.length := hn
    simp [mSliceS, optBound, mBound, asNat, nat, this]
   ·rw [mElems_row] at h1 ⊢
    obtain ⟨bb, g1, g2⟩ := bnd_eq_some.1 h1
    obtain ⟨r, g3, g4⟩ := bnd_eq_some.1 g2
    rw [g1, bnd_some, g3, bnd_some]
    cases r <;> simp only [AV.cut] at g4 <;> try (cases g4; done)
    case ints k xs => split at g4 <;> cases g4
    case node us =>
     split at g4
     ·rename_i hle
      have e := Option.some.inj g4
      injection e with e
      rw [cut_node_eq, if_pos (by omega)]
      congr 2
      rw [← e, List.drop_take, List.drop_drop]
      congr 1
      rw [e]
     ·cases g4
   ·rw [List.length_drop]; exact ⟨rfl, by omega, rfl⟩
   ·rw [List.length_drop]; omega
 | _ => exact h2.elim
theorem low_le {X : Type} (f : X → Pt) (l : List X) (e : Pt) : low f l e ≤ l.length := by
 unfold low
 exact (List.takeWhile_sublist _).length_le
theorem low_stop {X : Type} (f : X → Pt) {l : List X} {e : Pt} {i : Nat} (hi : i ≤ l.length) (h1 : ∀ j (hj : j < l.length), j < i → ltP (f l[j]) e = true) (h2 : ∀ hi : i < l.length, ltP (f l[i]) e = false) : low f l e = i := by
 unfold low
 induction l generalizing i with
 | nil => simp at hi; subst hi; rfl
 | cons x l ih =>
  cases i with
  | zero =>
   have := h2 (by simp)
   simp only [List.getElem_cons_zero] at this
   rw [List.takeWhile_cons, this]; rfl
  | succ i =>
   have h0 := h1 0 (by simp) (by omega)
   simp only [List.getElem_cons_zero] at h0
   rw [List.takeWhile_cons, h0]
   simp only [if_true, List.length_cons]
   rw [ih (by simpa using hi) (fun j hj hji => h1 (j + 1) (by simpa using hj) (by omega)) (fun hi => h2 (by simpa using hi))]
theorem loop_cut {P : Program} {C : Ctx} {c : Code} {Q : Ex × St → Prop} (Q' : Ex × St → Prop) {s : St} (h : loopW (wC P C c) Q' s) (hq : ∀ r, Q' r → Q r) : loopW (wC P C c) Q s := by
 obtain ⟨I, n, h0, step⟩ := h
 exact ⟨I, n, h0, fun m s hs => wC_mono c (fun r hr => hr.imp id fun ⟨a, b⟩ => ⟨a, hq _ b⟩) (step m s hs)⟩
end Go.Vab

/-
  A state's lists, old or in a region of one's own; letters.
-/
namespace Go.Vab
open Go
theorem Row.other {t : Ty} {H H' : Heap} {x : AV} {es : List AV} (r : Row t H x es) (hk : ∀ b, rb x = some b → H'[b]? = H[b]?) : Row t H' x es := by
 refine ⟨?_, r.2⟩
 have h1 := r.1
 cases x with
 | slice i ver path t' off len cap =>
  simp only [mElems] at h1 ⊢
  unfold blkAt at h1 ⊢
  rw [hk i rfl]; exact h1
 | _ => exact h1
theorem BytL.other {H H' : Heap} {x : AV} {l : Bs} (r : BytL H x l) (hk : ∀ b, rb x = some b → H'[b]? = H[b]?) : BytL H' x l := by
 refine ⟨⟨?_, r.1.2⟩, r.2⟩
 have h1 := r.1.1
 cases x with
 | slice i ver path t' off len cap =>
  simp only [mElems] at h1 ⊢
  unfold blkAt at h1 ⊢
  rw [hk i rfl]; exact h1
 | _ => exact h1
theorem StR.other {H H' : Heap} {s : Stt} {vt vp vs vi va vb : AV} (r : StR H s vt vp vs vi va vb) (hk : ∀ y ∈ [vt, vp, vs, vi, va, vb], ∀ b, rb y = some b → H'[b]? = H[b]?) : StR H' s vt vp vs vi va vb :=
 ⟨r.ft.other (hk _ (by simp)), r.fp.other (hk _ (by simp)), r.fs.other (hk _ (by simp)), r.fi.other (hk _ (by simp)), r.fa.other (hk _ (by simp)), r.fb.other (hk _ (by simp))⟩
theorem cell_ne {h A B : Heap} {c c' : Blk} {b : Nat} (hb : b ≠ h.length + A.length) : (h ++ (A ++ c' :: B))[b]? = (h ++ (A ++ c :: B))[b]? := by
 by_cases h1 : b < h.length
 ·rw [List.getElem?_append_left h1, List.getElem?_append_left h1]
 ·have h1 := Nat.le_of_not_lt h1
  rw [List.getElem?_append_right (l₁ := h) h1, List.getElem?_append_right (l₁ := h) h1]
  by_cases h2 : b - h.length < A.length
  ·rw [List.getElem?_append_left h2, List.getElem?_append_left h2]
  ·have h2 := Nat.le_of_not_lt h2
   rw [List.getElem?_append_right (l₁ := A) h2, List.getElem?_append_right (l₁ := A) h2]
   obtain ⟨k, hk⟩ : ∃ k, b - h.length - A.length = k + 1 := ⟨b - h.length - A.length - 1, by omega⟩
   rw [hk]; rfl
theorem StR.rb_lt {h : Heap} {s : Stt} {vt vp vs vi va vb : AV} (r : StR h s vt vp vs vi va vb) : ∀ y ∈ [vt, vp, vs, vi, va, vb], ∀ b, rb y = some b → b < h.length := by
 intro y hy
 simp only [List.mem_cons, List.not_mem_nil, or_false] at hy
 rcases hy with rfl | rfl | rfl | rfl | rfl | rfl
 ·exact r.ft.rb_lt'
 ·exact r.fp.rb_lt'
 ·exact r.fs.rb_lt
 ·exact r.fi.rb_lt
 ·exact r.fa.rb_lt
 ·exact r.fb.rb_lt
section
variable (c d : Ci) (r : BitVec 8) (j : BitVec 32)
@[simp] theorem fillSeat : fillRow tSeat (eSeat ⟨ci0, 0#8, 0#32⟩) [(0, eCi c), (1, u8 r), (2, u32 j)] = some (eSeat ⟨c, r, j⟩) := by simp [fillRow, eSeat, -fold_eSeat]
@[simp] theorem fillSeat2 : fillRow tSeat (eSeat ⟨ci0, 0#8, 0#32⟩) [(0, eCi c), (1, u8 r)] = some (eSeat ⟨c, r, 0#32⟩) := by simp [fillRow, eSeat, -fold_eSeat]
@[simp] theorem fillInv : fillRow tInvite (eInv ⟨ci0, 0#8, ci0⟩) [(0, eCi c), (1, u8 r), (2, eCi d)] = some (eInv ⟨c, r, d⟩) := by simp [fillRow, eInv, -fold_eInv]
@[simp] theorem fillAsk : fillRow tAsk (eAsk ⟨ci0, 0#32⟩) [(0, eCi c), (1, u32 j)] = some (eAsk ⟨c, j⟩) := by simp [fillRow, eAsk, -fold_eAsk]
@[simp] theorem eSeat_put1 (z : Seat) : (eSeat z).put [1] (u8 r) = some (eSeat { z with role := r }) := by simp [eSeat, -fold_eSeat]
@[simp] theorem fillBan1 : fillRow tBan (eBan ⟨ci0, ci0⟩) [(1, eCi d)] = some (eBan ⟨ci0, d⟩) := by simp [fillRow, eBan, -fold_eBan]
end
end Go.Vab

/-
  Rising lists: where somebody stands, in plain words.
-/
namespace Go.Vab
open Go
section
variable {X : Type} (f : X → Pt)
def srt (l : List X) : Prop := ∀ i j (hi : i < l.length) (hj : j < l.length), i < j → ltP (f l[i]) (f l[j]) = true
theorem srt_of {l : List X} (h : adj (l.map f)) : srt f l := by
 intro i j hi hj hij
 induction j with
 | zero => omega
 | succ j ih =>
  have h1 := h (j + 1) (by omega) (by simpa using hj)
  unfold adjAt at h1
  rw [List.getD_eq_getElem?_getD, List.getD_eq_getElem?_getD, Nat.add_sub_cancel, List.getElem?_map, List.getElem?_map, List.getElem?_eq_getElem hj, List.getElem?_eq_getElem (show j < l.length by omega)] at h1
  simp only [Option.map_some, Option.getD_some] at h1
  by_cases hq : i = j
  ·subst hq; exact h1
  ·exact ltP_trans (ih (by omega) (by omega)) h1
variable {f}
theorem low_lt {l : List X} {e : Pt} {j : Nat} (hj : j < l.length) (h : j < low f l e) : ltP (f l[j]) e = true := by
 unfold low at h
 induction l generalizing j with
 | nil => simp at hj
 | cons x l ih =>
  rw [List.takeWhile_cons] at h
  split at h
  ·rename_i hx
   cases j with
   | zero => exact hx
   | succ j => exact ih (by simpa using hj) (by simpa using h)
  ·simp at h
theorem low_not {l : List X} {e : Pt} (h : low f l e < l.length) : ltP (f l[low f l e]) e = false := by
 have gen : ∀ (l : List X) (n : Nat) (hn : n < l.length), (l.takeWhile fun y => ltP (f y) e).length = n → ltP (f l[n]) e = false := by
  intro l
  induction l with
  | nil => intro n hn; simp at hn
  | cons x l ih =>
   intro n hn he
   rw [List.takeWhile_cons] at he
   split at he
   ·subst he
    exact ih _ (by simpa using hn) rfl
   ·rename_i hx
    subst he
    simpa using hx
 exact gen l _ h rfl
theorem low_ge {l : List X} {e : Pt} (hs : srt f l) {j : Nat} (hj : j < l.length) (h : low f l e ≤ j) : ltP (f l[j]) e = false := by
 have h0 := low_not (f := f) (e := e) (l := l) (by omega)
 by_cases hq : low f l e = j
 ·subst hq; exact h0
 ·have h1 := hs _ _ (by omega) hj (show low f l e < j by omega)
  cases hx : ltP (f l[j]) e
  ·rfl
  ·rw [ltP_trans h1 hx] at h0; cases h0
theorem low_at {l : List X} {e : Pt} (hs : srt f l) {j : Nat} (hj : j < l.length) (h : f l[j] = e) : j = low f l e := by
 have h1 : ¬ j < low f l e := fun q => by
  have := low_lt (f := f) (e := e) hj q
  rw [h, ltP_irrefl] at this; cases this
 have h2 : ¬ low f l e < j := fun q => by
  have h3 := hs _ _ (by omega) hj q
  have h4 := low_not (f := f) (e := e) (l := l) (by omega)
  rw [h] at h3; rw [h3] at h4; cases h4
 omega
theorem fnd_low {l : List X} {e : Pt} (hs : srt f l) : fnd f l e = if h : low f l e < l.length then (if f l[low f l e] = e then some l[low f l e] else none) else none := by
 have no : (∀ j (hj : j < l.length), f l[j] ≠ e) → fnd f l e = none := fun h => by
  unfold fnd; rw [List.find?_eq_none]
  intro x hx
  obtain ⟨j, hj, rfl⟩ := List.mem_iff_getElem.1 hx
  simp [h j hj]
 split
 ·rename_i hlt
  split
  ·rename_i he
   unfold fnd
   rw [List.find?_eq_some_iff_getElem]
   refine ⟨by simp [he], _, hlt, rfl, fun j hj => ?_⟩
   have := low_lt (f := f) (e := e) (show j < l.length by omega) hj
   simp only [Bool.not_eq_true', decide_eq_false_iff_not]
   intro q
   rw [q, ltP_irrefl] at this; cases this
  ·rename_i he
   refine no fun j hj q => ?_
   have := low_at hs hj q
   subst this
   exact he q
 ·rename_i hlt
  exact no fun j hj q => hlt (low_at hs hj q ▸ hj)
theorem hasP_low {l : List X} {e : Pt} (hs : srt f l) (h : low f l e < l.length) : hasP f l e = decide (f l[low f l e] = e) := by
 unfold hasP; rw [fnd_low hs, dif_pos h]
 by_cases he : f l[low f l e] = e <;> simp [he]
theorem hasP_end {l : List X} {e : Pt} (hs : srt f l) (h : ¬ low f l e < l.length) : hasP f l e = false := by
 unfold hasP; rw [fnd_low hs, dif_neg h]; rfl
theorem low_yes {l : List X} {e : Pt} (hs : srt f l) (h : hasP f l e = true) : ∃ hl : low f l e < l.length, f l[low f l e] = e ∧ fnd f l e = some l[low f l e] := by
 by_cases hl : low f l e < l.length
 ·have := hasP_low hs hl
  rw [h] at this
  have he : f l[low f l e] = e := by simpa using this.symm
  exact ⟨hl, he, by rw [fnd_low hs, dif_pos hl, if_pos he]⟩
 ·rw [hasP_end hs hl] at h; cases h
theorem hasP_fnd {l : List X} {e : Pt} (h : hasP f l e = false) : fnd f l e = none := by
 cases q : fnd f l e with
 | none => rfl
 | some x => rw [hasP, q] at h; cases h
theorem hasP_no {l : List X} {e : Pt} (h : hasP f l e = false) : ∀ x ∈ l, f x ≠ e := by
 have := hasP_fnd h
 unfold fnd at this
 rw [List.find?_eq_none] at this
 intro x hx
 simpa using this x hx
theorem del_no {l : List X} {e : Pt} (h : hasP f l e = false) : del f l e = l := by
 unfold del
 rw [List.filter_eq_self]
 intro x hx
 simp [hasP_no h x hx]
theorem del_yes {l : List X} {e : Pt} (hs : srt f l) (h : hasP f l e = true) : del f l e = l.take (low f l e) ++ l.drop (low f l e + 1) := by
 obtain ⟨hl, he, _⟩ := low_yes hs h
 have e1 : l = l.take (low f l e) ++ (l[low f l e] :: l.drop (low f l e + 1)) := by
  rw [← List.drop_eq_getElem_cons hl, List.take_append_drop]
 have a1 : (l.take (low f l e)).filter (fun x => !decide (f x = e)) = l.take (low f l e) := by
  rw [List.filter_eq_self]
  intro x hx
  obtain ⟨j, hj, rfl⟩ := List.mem_iff_getElem.1 hx
  rw [List.getElem_take]
  simp only [Bool.not_eq_true', decide_eq_false_iff_not]
  intro q
  have h1 := low_at hs (by simp at hj; omega) q
  simp at hj; omega
 have a2 : (l.drop (low f l e + 1)).filter (fun x => !decide (f x = e)) = l.drop (low f l e + 1) := by
  rw [List.filter_eq_self]
  intro x hx
  obtain ⟨j, hj, rfl⟩ := List.mem_iff_getElem.1 hx
  rw [List.getElem_drop]
  simp only [Bool.not_eq_true', decide_eq_false_iff_not]
  intro q
  have h1 := low_at hs (by simp at hj; omega) q
  omega
 unfold del
 conv => lhs; arg 2; rw [e1]
 rw [List.filter_append, List.filter_cons, if_neg (by simp [he]), a1, a2]
theorem srt_sub {l m : List X} (hs : srt f l) (h : m.Sublist l) : srt f m := by
 have e : ∀ l : List X, srt f l ↔ l.Pairwise fun x y => ltP (f x) (f y) = true := by
  intro l
  rw [List.pairwise_iff_getElem]
  exact ⟨fun h i j hi hj hij => h i j hi hj hij, fun h i j hi hj hij => h i j hi hj hij⟩
 rw [e] at hs ⊢
 exact hs.sublist h
theorem srt_del {l : List X} {e : Pt} (hs : srt f l) : srt f (del f l e) := srt_sub hs List.filter_sublist
end
structure Srt (w : Stt) : Prop where
 s : srt fS w.seats
 i : srt fI w.invites
 a : srt fA w.asks
 b : srt fB w.bans
theorem srt_may {s : Stt} (h : mayS s = true) : Srt s := by
 unfold mayS at h
 simp only [Bool.and_eq_true, riseB_iff] at h
 obtain ⟨_, ⟨_, _, h1⟩, ⟨_, _, h2⟩, ⟨_, _, h3⟩, ⟨_, _, h4⟩, _⟩ := h
 exact ⟨srt_of _ h1, srt_of _ h2, srt_of _ h3, srt_of _ h4⟩
theorem may_lens {s : Stt} (h : mayS s = true) : s.seats.length ≤ 40 ∧ s.invites.length ≤ 40 ∧ s.asks.length ≤ 40 ∧ s.bans.length ≤ 40 := by
 unfold mayS at h
 simp only [Bool.and_eq_true, decide_eq_true_eq] at h
 exact ⟨h.2.1.1, h.2.2.1.1, h.2.2.2.1.1, h.2.2.2.2.1.1⟩
end Go.Vab

/-
  A state that is being worked on: whose memory is whose.
-/
namespace Go.Vab
open Go
def KRow {X : Type} (κ : Nat → Nat) (k : Nat) (t : Ty) (E : X → AV) (H : Heap) (x : AV) (l : List X) : Prop :=
 l.length ≤ 1000 ∧ ((l = [] ∧ Row t H x [] ∧ mCap x = some (nat 0) ∧ ∀ b, rb x = some b → κ b = 8) ∨
  ∃ (b c : Nat) (xs : List X), κ b = k ∧ x = .slice b 0 [] t 0 l.length (some c) ∧ H[b]? = some ⟨.node (xs.map E), 0, .own⟩ ∧ xs.length = c ∧ 0 < c ∧ xs.take l.length = l)
structure Chg (κ : Nat → Nat) (k : Nat) (H : Heap) (κ' : Nat → Nat) (H' : Heap) : Prop where
 len : H.length ≤ H'.length
 old : ∀ i, i < H.length → κ' i = κ i
 keep : ∀ i, i < H.length → κ i ≠ k → H'[i]? = H[i]?
 top : (∀ i, H.length ≤ i → κ i = 0) → ∀ i, H'.length ≤ i → κ' i = 0
section
variable {X : Type} {κ : Nat → Nat} {k : Nat} {t : Ty} {E : X → AV} {H : Heap} {x : AV} {l : List X}
theorem blk_of {H : Heap} {b : Nat} {v : AV} (hb : H[b]? = some ⟨v, 0, .own⟩) : blkAt H b 0 = some ⟨v, 0, .own⟩ := by unfold blkAt; rw [hb]; rfl
theorem elems_k {b off n : Nat} {c : Option Nat} {xs : List X} (hb : H[b]? = some ⟨.node (xs.map E), 0, .own⟩) (hn : off + n ≤ xs.length) : mElems t (.slice b 0 [] t off n c) H = some (.node (((xs.drop off).take n).map E)) := by
 rw [mElems_row, blk_of hb, bnd_some, get_nil, bnd_some, cut_node_eq, if_pos (by simpa using hn), List.map_take, List.map_drop]
theorem KRow.row {ts : List Ty} (r : KRow κ k (.struct ts) E H x l) : Row (.struct ts) H x (l.map E) := by
 obtain ⟨hl, ⟨rfl, h1, _⟩ | ⟨b, c, xs, hk, rfl, hb, hc, h0, ht⟩⟩ := r
 ·exact h1
 ·have hle : l.length ≤ xs.length := by
   have := congrArg List.length ht
   rw [List.length_take] at this; omega
  refine ⟨?_, ⟨by simp, by omega, rfl⟩, by simp; omega⟩
  rw [elems_k hb (by omega), List.drop_zero, ht]
theorem KRow.le (r : KRow κ k t E H x l) : l.length ≤ 1000 := r.1
theorem KRow.cell (r : KRow κ k t E H x l) : hasTy x .cell = true := by
 obtain ⟨hl, ⟨rfl, h1, _⟩ | ⟨b, c, xs, hk, rfl, _⟩⟩ := r
 ·exact h1.cell
 ·rfl
theorem KRow.len (r : KRow κ k t E H x l) : mLenS x = some (nat l.length) := by
 obtain ⟨hl, ⟨rfl, h1, _⟩ | ⟨b, c, xs, hk, rfl, _⟩⟩ := r
 ·exact h1.len
 ·rfl
theorem KRow.lt (r : KRow κ k t E H x l) : ∀ b, rb x = some b → b < H.length := by
 obtain ⟨hl, ⟨rfl, h1, _⟩ | ⟨b, c, xs, hk, rfl, hb, _⟩⟩ := r
 ·exact h1.rb_lt
 ·intro b' h; cases h; exact (List.getElem?_eq_some_iff.1 hb).1
theorem KRow.kind (r : KRow κ k t E H x l) : ∀ b, rb x = some b → κ b = 8 ∨ κ b = k := by
 obtain ⟨hl, ⟨rfl, h1, _, h2⟩ | ⟨b, c, xs, hk, rfl, hb, _⟩⟩ := r
 ·exact fun b h => .inl (h2 b h)
 ·intro b' h; cases h; exact .inr hk
theorem KRow.other {κ' : Nat → Nat} {H' : Heap} (r : KRow κ k t E H x l) (hk : ∀ i, i < H.length → κ i = 8 ∨ κ i = k → κ' i = κ i ∧ H'[i]? = H[i]?) : KRow κ' k t E H' x l := by
 have hlt := r.lt
 have hkd := r.kind
 obtain ⟨hl, ⟨rfl, h1, h2, h3⟩ | ⟨b, c, xs, hk', rfl, hb, h4⟩⟩ := r
 ·exact ⟨hl, .inl ⟨rfl, h1.other fun b hb => (hk b (hlt b hb) (hkd b hb)).2, h2, fun b hb => by rw [(hk b (hlt b hb) (hkd b hb)).1]; exact h3 b hb⟩⟩
 ·obtain ⟨g1, g2⟩ := hk b (hlt b rfl) (hkd b rfl)
  exact ⟨hl, .inr ⟨b, c, xs, by rw [g1]; exact hk', rfl, by rw [g2]; exact hb, h4⟩⟩
theorem KRow.chg {κ' : Nat → Nat} {H' : Heap} {j : Nat} (r : KRow κ k t E H x l) (h : Chg κ j H κ' H') (h1 : j ≠ 8) (h2 : k ≠ j) : KRow κ' k t E H' x l :=
 r.other fun i hi hk => ⟨h.old i hi, h.keep i hi (by rcases hk with e | e <;> omega)⟩
theorem sl_all {b off len i j m c : Nat} (h1 : i ≤ j) (h2 : j ≤ m) (h3 : m ≤ c) : mSliceS t (.slice b 0 [] t off len (some c)) (some (nat i)) (some (nat j)) (some (nat m)) = some (.slice b 0 [] t (off + i) (j - i) (some (m - i))) := by
 simp [mSliceS, optBound, mBound, asNat, nat, h1, h2, h3]
theorem sl_to {b off len j c : Nat} (h2 : j ≤ c) : mSliceS t (.slice b 0 [] t off len (some c)) none (some (nat j)) none = some (.slice b 0 [] t off j (some c)) := by
 simp [mSliceS, optBound, mBound, asNat, nat, h2]
theorem sl_from {b off len i c : Nat} (h1 : i ≤ len) : mSliceS t (.slice b 0 [] t off len (some c)) (some (nat i)) none none = some (.slice b 0 [] t (off + i) (len - i) (some (c - i))) := by
 simp [mSliceS, optBound, mBound, asNat, nat, h1]
theorem sl_mid {b off len i j c : Nat} (h1 : i ≤ j) (h2 : j ≤ c) : mSliceS t (.slice b 0 [] t off len (some c)) (some (nat i)) (some (nat j)) none = some (.slice b 0 [] t (off + i) (j - i) (some (c - i))) := by
 simp [mSliceS, optBound, mBound, asNat, nat, h1, h2]
theorem splice_k {xs ms : List X} {off n : Nat} (h1 : off + n ≤ xs.length) (h2 : n ≤ ms.length) : (AV.node (xs.map E)).splice off n (.node (ms.map E)) = some (.node ((xs.take off ++ ms.take n ++ xs.drop (off + n)).map E)) := by
 simp only [AV.splice]
 rw [if_pos (by simp; omega)]
 simp
theorem set_self {H : Heap} {b : Nat} {v : Blk} (hb : H[b]? = some v) : H.set b v = H := by
 apply List.ext_getElem?
 intro i
 rw [List.getElem?_set]
 split
 ·rename_i e; subst e; rw [if_pos (List.getElem?_eq_some_iff.1 hb).1, hb]
 ·rfl
theorem appW_k {bytes : Nat} {zero y : AV} {b i c : Nat} {xs ms : List X} {K : AV × Heap → Prop} (hb : H[b]? = some ⟨.node (xs.map E), 0, .own⟩) (hy : mElems t y H = some (.node (ms.map E))) (hc : xs.length = c) (him : i + ms.length ≤ c)
  (hK : K (.slice b 0 [] t 0 (i + ms.length) (some c), H.set b ⟨.node ((xs.take i ++ ms ++ xs.drop (i + ms.length)).map E), 0, .own⟩)) : appW t bytes zero (.slice b 0 [] t 0 i (some c)) y H K := by
 refine ⟨_, ms.length, hy, by simp, _, _, elems_k hb (by omega), rfl, ?_⟩
 by_cases h0 : ms.length = 0
 ·have : ms = [] := List.eq_nil_of_length_eq_zero h0
  subst this
  refine .inl ⟨rfl, by omega, ?_⟩
  simp only [List.length_nil, Nat.add_zero, List.append_nil, List.take_append_drop, set_self hb] at hK
  exact hK
 ·refine .inr (.inl ⟨by omega, him, _, _, _, _, blk_of hb, by simp, get_nil _, ?_, put_nil _ _, hK⟩)
  rw [Nat.zero_add, splice_k (by omega) (Nat.le_refl _), List.take_length]
theorem clear_k {b off n : Nat} {cp : Option Nat} {xs : List X} {z : X} (hz : ∀ m, zeroRow m (E z) = .node (List.replicate m (E z))) (hb : H[b]? = some ⟨.node (xs.map E), 0, .own⟩) (hn : off + n ≤ xs.length) (h0 : n ≠ 0) :
  mClear t (E z) (.slice b 0 [] t off n cp) H = some (.tuple [], H.set b ⟨.node ((xs.take off ++ List.replicate n z ++ xs.drop (off + n)).map E), 0, .own⟩) := by
 have h2 : List.replicate n (E z) = (List.replicate n z).map E := by simp
 simp only [mClear, h0, if_false, Ty.beq_self, if_true, blk_of hb, bnd_some, get_nil, hz]
 rw [h2, splice_k hn (by simp)]
 simp
theorem copy_k {y : AV} {b off n : Nat} {cp : Option Nat} {xs ms : List X} (hb : H[b]? = some ⟨.node (xs.map E), 0, .own⟩) (hy : mElems t y H = some (.node (ms.map E))) (hn : off + min ms.length n ≤ xs.length) :
  mCopy t (.slice b 0 [] t off n cp) y H = some (nat (min ms.length n), H.set b ⟨.node ((xs.take off ++ ms.take (min ms.length n) ++ xs.drop (off + min ms.length n)).map E), 0, .own⟩) := by
 simp only [mCopy, hy, bnd_some, rowLen_node, List.length_map, Ty.beq_self, if_true, blk_of hb, get_nil]
 rw [splice_k hn (by omega)]
 simp [nat]
theorem pad_k {zero : AV} (hz : ∀ m, zeroRow m zero = .node (List.replicate m zero)) {es : List AV} {m : Nat} : padRow (.node es) zero m = some (.node (es ++ List.replicate m zero)) := padRow_node hz _
theorem krow_new {κ : Nat → Nat} {H : Heap} {l xs : List X} {c : Nat} (hl : l.length ≤ 1000) (hc : xs.length = c) (h0 : 0 < c) (ht : xs.take l.length = l) :
  KRow (fun i => if i = H.length then k else κ i) k t E (H ++ [⟨.node (xs.map E), 0, .own⟩]) (.slice H.length 0 [] t 0 l.length (some c)) l ∧ Chg κ k H (fun i => if i = H.length then k else κ i) (H ++ [⟨.node (xs.map E), 0, .own⟩]) := by
 refine ⟨⟨hl, .inr ⟨_, _, xs, by simp, rfl, by simp, hc, h0, ht⟩⟩, by simp, fun i hi => if_neg (by omega), fun i hi _ => by rw [List.getElem?_append_left hi], fun h i hi => ?_⟩
 simp only [List.length_append, List.length_singleton] at hi
 exact (if_neg (by omega)).trans (h i (by omega))
theorem krow_set {κ : Nat → Nat} {H : Heap} {b : Nat} {l xs xs' : List X} {c : Nat} (hk : κ b = k) (hb : H[b]? = some ⟨.node (xs.map E), 0, .own⟩) (hl : l.length ≤ 1000) (hc : xs'.length = c) (h0 : 0 < c) (ht : xs'.take l.length = l) :
  KRow κ k t E (H.set b ⟨.node (xs'.map E), 0, .own⟩) (.slice b 0 [] t 0 l.length (some c)) l ∧ Chg κ k H κ (H.set b ⟨.node (xs'.map E), 0, .own⟩) := by
 have hlt := (List.getElem?_eq_some_iff.1 hb).1
 refine ⟨⟨hl, .inr ⟨b, _, xs', hk, rfl, by rw [List.getElem?_set_self hlt], hc, h0, ht⟩⟩, by simp, fun _ _ => rfl, fun i hi hne => ?_, fun h i hi => h i (by simpa using hi)⟩
 rw [List.getElem?_set_ne (fun e => hne (by rw [← e]; exact hk))]
theorem app1_k {bytes : Nat} {y : AV} {z e : X} {K : AV × Heap → Prop} {ts : List Ty} (hT : t = .struct ts) (hz : ∀ m, zeroRow m (E z) = .node (List.replicate m (E z))) (r : KRow κ k t E H x l) (hy : mElems t y H = some (.node [E e])) (hn : l.length < 1000) (hb : bytes ≤ 10000)
  (hK : ∀ x' H' κ', KRow κ' k t E H' x' (l ++ [e]) → Chg κ k H κ' H' → K (x', H')) : appW t bytes (E z) x y H K := by
 have hrb : roomBound = roomBound := rfl
 have hmul : (l.length + 1) * bytes ≤ 1000 * 10000 := Nat.mul_le_mul (by omega) hb
 have hrep : ∀ m, List.replicate m (E z) = (List.replicate m z).map E := fun m => by simp
 obtain ⟨hl, ⟨rfl, h1, h2, h3⟩ | ⟨b, c, xs, hk, rfl, hbk, hc, h0, ht⟩⟩ := r
 ·have new : ∀ c row, 1 ≤ c → padRow (.node [E e]) (E z) (c - 1) = some row → K (.slice H.length 0 [] t 0 1 (some c), H ++ [⟨row, 0, .own⟩]) := by
   intro c row hc hrow
   rw [pad_k hz] at hrow
   cases hrow
   have e1 : [E e] ++ List.replicate (c - 1) (E z) = (e :: List.replicate (c - 1) z).map E := by simp
   rw [e1]
   obtain ⟨g1, g2⟩ := krow_new (k := k) (t := t) (E := E) (κ := κ) (H := H) (l := [e]) (xs := e :: List.replicate (c - 1) z) (c := c) (by simp) (by simp; omega) (by omega) (by simp)
   exact hK _ _ _ g1 g2
  cases x with
  | nilslice =>
   refine ⟨_, 1, hy, rfl, .inr ⟨by omega, ?_, ?_, by omega, new⟩⟩ <;> unfold roomBound <;> omega
  | slice i ver path t' off len cap =>
   cases cap with
   | none => cases h2
   | some c =>
    have hc0 : c = 0 := by
     simp only [mCap, nat, Option.some.injEq, AV.int.injEq, true_and] at h2
     omega
    obtain ⟨h11, h12, h13⟩ := h1
    obtain ⟨e1, e2, e3⟩ := h12
    simp only [List.length_nil] at e1
    subst e1; subst hc0; subst e3
    refine ⟨_, 1, hy, rfl, _, _, h11, rfl, .inr (.inr ⟨by omega, by omega, ?_, ?_, by omega, fun c' row hc' hrow => ?_⟩)⟩
    ·unfold roomBound; omega
    ·unfold roomBound; omega
    ·simpa using new c' row (by simpa using hc') (by simpa using hrow)
  | _ => cases h2
 ·have hle : l.length ≤ xs.length := by
   have := congrArg List.length ht
   rw [List.length_take] at this; omega
  by_cases hroom : l.length + 1 ≤ c
  ·refine appW_k (ms := [e]) hbk hy hc hroom ?_
   obtain ⟨g1, g2⟩ := krow_set (t := t) (E := E) (l := l ++ [e]) (xs' := xs.take l.length ++ [e] ++ xs.drop (l.length + 1)) (c := c) hk hbk (by simp; omega) (by simp; omega) h0 (by
    rw [ht]; exact List.take_left' rfl)
   simp only [List.length_append, List.length_singleton] at g1
   exact hK _ _ _ g1 g2
  ·refine ⟨_, 1, hy, rfl, _, _, elems_k hbk (by omega), rfl, .inr (.inr ⟨by omega, by omega, ?_, ?_, by omega, fun c' row hc' hrow => ?_⟩)⟩
   ·unfold roomBound; omega
   ·unfold roomBound; omega
   ·rw [pad_k hz] at hrow
    cases hrow
    have e1 : ((xs.drop 0).take l.length).map E ++ [E e] ++ List.replicate (c' - (l.length + 1)) (E z) = ((l ++ [e]) ++ List.replicate (c' - (l.length + 1)) z).map E := by
     rw [List.drop_zero, ht]; simp
    rw [e1]
    obtain ⟨g1, g2⟩ := krow_new (k := k) (t := t) (E := E) (κ := κ) (H := H) (l := l ++ [e]) (xs := (l ++ [e]) ++ List.replicate (c' - (l.length + 1)) z) (c := c') (by simp; omega) (by simp; omega) (by omega) (List.take_left' rfl)
    simp only [List.length_append, List.length_singleton] at g1
    exact hK _ _ _ g1 g2
theorem appZ_k {bytes : Nat} {z : X} {b i c n : Nat} {xs : List X} {K : AV × Heap → Prop} (hz : ∀ m, zeroRow m (E z) = .node (List.replicate m (E z))) (hb : H[b]? = some ⟨.node (xs.map E), 0, .own⟩) (hc : xs.length = c) (hi : i ≤ c) (hn : 0 < n) (hin : c < i + n) (hs : i + n ≤ 1001) (hby : bytes ≤ 10000)
  (hK : ∀ c', i + n ≤ c' → K (.slice H.length 0 [] t 0 (i + n) (some c'), H ++ [⟨.node ((xs.take i ++ List.replicate (c' - i) z).map E), 0, .own⟩])) : appZn t bytes (E z) (.slice b 0 [] t 0 i (some c)) (nat n) H K := by
 have hmul : (i + n) * bytes ≤ 1001 * 10000 := Nat.mul_le_mul hs hby
 refine ⟨n, rfl, by unfold roomBound; omega, ?_⟩
 refine ⟨_, _, elems_k hb (by omega), by rw [hz]; rfl, hn, hin, by unfold roomBound; omega, by unfold roomBound; omega, by omega, fun c' row hc' hrow => ?_⟩
 rw [pad_k hz] at hrow
 cases hrow
 have := hK c' hc'
 have e1 : ((xs.drop 0).take i).map E ++ List.replicate n (E z) ++ List.replicate (c' - (i + n)) (E z) = (xs.take i ++ List.replicate (c' - i) z).map E := by
  rw [List.drop_zero, List.append_assoc, List.replicate_append_replicate, show n + (c' - (i + n)) = c' - i by omega]
  simp
 rw [e1]
 exact this
end
def OwnB (H : Heap) (x : AV) : Prop := ∀ i, rb x = some i → ∃ (n c m : Nat) (g : Nat → BitVec 8), x = .slice i 0 [] (.int .u8) 0 n (some c) ∧ n ≤ m ∧ H[i]? = some ⟨arr m g, 0, .own⟩
theorem OwnB.other {H H' : Heap} {x : AV} (r : OwnB H x) (hk : ∀ b, rb x = some b → H'[b]? = H[b]?) : OwnB H' x := fun i hi => by rw [hk i hi]; exact r i hi
theorem OwnB.app {H : Heap} {x : AV} (r : OwnB H x) (l : Heap) : OwnB (H ++ l) x := fun i hi => by
 obtain ⟨n, c, m, g, h1, h2, h3⟩ := r i hi
 exact ⟨n, c, m, g, h1, h2, by rw [List.getElem?_append_left (List.getElem?_eq_some_iff.1 h3).1]; exact h3⟩
structure BytO (H : Heap) (x : AV) (l : Bs) : Prop where
 b : BytL H x l
 o : OwnB H x
theorem BytO.other {H H' : Heap} {x : AV} {l : Bs} (r : BytO H x l) (hk : ∀ b, rb x = some b → H'[b]? = H[b]?) : BytO H' x l := ⟨r.b.other hk, r.o.other hk⟩
theorem BytO.app {H : Heap} {x : AV} {l : Bs} (r : BytO H x l) (u : Heap) : BytO (H ++ u) x l := ⟨r.b.app u, r.o.app u⟩
theorem BytO.rb_lt' {H : Heap} {x : AV} {l : Bs} (r : BytO H x l) : ∀ b, rb x = some b → b < H.length := r.b.rb_lt'
theorem BytO.cell {H : Heap} {x : AV} {l : Bs} (r : BytO H x l) : hasTy x .cell = true := r.b.cell
theorem BytO.len {H : Heap} {x : AV} {l : Bs} (r : BytO H x l) : mLenS x = some (nat l.length) := r.b.len
structure Wk (κ : Nat → Nat) (H : Heap) (c : Nat) (s : Stt) (vt vp vs vi va vb : AV) : Prop where
 cell : H[c]? = some ⟨eSt s vt vp vs vi va vb, 0, .own⟩
 kc : κ c = 1
 top : ∀ i, H.length ≤ i → κ i = 0
 ft : BytO H vt s.title
 fp : BytO H vp s.pass
 kt : ∀ b, rb vt = some b → κ b = 7
 kp : ∀ b, rb vp = some b → κ b = 7
 fs : KRow κ 2 tSeat eSeat H vs s.seats
 fi : KRow κ 3 tInvite eInv H vi s.invites
 fa : KRow κ 4 tAsk eAsk H va s.asks
 fb : KRow κ 5 tBan eBan H vb s.bans
structure Fr (κ : Nat → Nat) (H : Heap) (κ' : Nat → Nat) (H' : Heap) : Prop where
 len : H.length ≤ H'.length
 old : ∀ i, i < H.length → κ' i = κ i
 keep : ∀ i, i < H.length → κ i = 0 ∨ 6 ≤ κ i → H'[i]? = H[i]?
theorem Fr.refl (κ : Nat → Nat) (H : Heap) : Fr κ H κ H := ⟨Nat.le_refl _, fun _ _ => rfl, fun _ _ _ => rfl⟩
theorem Fr.trans {κ κ1 κ2 : Nat → Nat} {H H1 H2 : Heap} (a : Fr κ H κ1 H1) (b : Fr κ1 H1 κ2 H2) : Fr κ H κ2 H2 :=
 ⟨Nat.le_trans a.len b.len, fun i hi => (b.old i (Nat.lt_of_lt_of_le hi a.len)).trans (a.old i hi), fun i hi h => (b.keep i (Nat.lt_of_lt_of_le hi a.len) (by rw [a.old i hi]; exact h)).trans (a.keep i hi h)⟩
theorem Fr.app {κ κ1 : Nat → Nat} {H H1 : Heap} {l : Heap} (a : Fr κ (H ++ l) κ1 H1) : Fr κ H κ1 H1 :=
 ⟨by have := a.len; simp at this; omega, fun i hi => a.old i (by simp; omega), fun i hi h => (a.keep i (by simp; omega) h).trans (List.getElem?_append_left hi)⟩
theorem Fr.pre {κ κ1 : Nat → Nat} {H H1 : Heap} (a : Fr κ H κ1 H1) (h0 : ∀ i, i < H.length → κ i = 0) : ∃ u, H1 = H ++ u := by
 refine ⟨H1.drop H.length, ?_⟩
 have e : H1.take H.length = H := by
  apply List.ext_getElem?
  intro i
  by_cases hi : i < H.length
  ·rw [List.getElem?_take_of_lt hi, a.keep i hi (.inl (h0 i hi))]
  ·rw [List.getElem?_eq_none (by simp; omega), List.getElem?_eq_none (by omega)]
 conv => lhs; rw [← List.take_append_drop H.length H1, e]
theorem Chg.fr {κ κ' : Nat → Nat} {H H' : Heap} {k : Nat} (c : Chg κ k H κ' H') (hk : k ≠ 0) (h6 : k < 6 := by decide) : Fr κ H κ' H' := ⟨c.len, c.old, fun i hi h => c.keep i hi (by omega)⟩
section
variable {κ : Nat → Nat} {H : Heap} {c : Nat} {s : Stt} {vt vp vs vi va vb : AV}
theorem Wk.lt (w : Wk κ H c s vt vp vs vi va vb) : c < H.length := (List.getElem?_eq_some_iff.1 w.cell).1
theorem Wk.app (w : Wk κ H c s vt vp vs vi va vb) (l : Heap) : Wk κ (H ++ l) c s vt vp vs vi va vb := by
 have hg : ∀ i, i < H.length → (H ++ l)[i]? = H[i]? := fun i hi => List.getElem?_append_left hi
 exact ⟨(hg _ w.lt).trans w.cell, w.kc, fun i hi => w.top i (by simp at hi; omega), w.ft.app l, w.fp.app l, w.kt, w.kp, w.fs.other fun i hi _ => ⟨rfl, hg i hi⟩, w.fi.other fun i hi _ => ⟨rfl, hg i hi⟩, w.fa.other fun i hi _ => ⟨rfl, hg i hi⟩, w.fb.other fun i hi _ => ⟨rfl, hg i hi⟩⟩
theorem Wk.blk (w : Wk κ H c s vt vp vs vi va vb) (l : Heap) : blkAt (H ++ l) c 0 = some ⟨eSt s vt vp vs vi va vb, 0, .own⟩ := blkAt_app (blk_of w.cell) l
theorem Wk.cells (w : Wk κ H c s vt vp vs vi va vb) : hasTy vt .cell = true ∧ hasTy vp .cell = true ∧ hasTy vs .cell = true ∧ hasTy vi .cell = true ∧ hasTy va .cell = true ∧ hasTy vb .cell = true :=
 ⟨w.ft.cell, w.fp.cell, w.fs.cell, w.fi.cell, w.fa.cell, w.fb.cell⟩
theorem Wk.ws (w : Wk κ H c s vt vp vs vi va vb) : Row tSeat H vs (s.seats.map eSeat) := w.fs.row
theorem Wk.wi (w : Wk κ H c s vt vp vs vi va vb) : Row tInvite H vi (s.invites.map eInv) := w.fi.row
theorem Wk.wa (w : Wk κ H c s vt vp vs vi va vb) : Row tAsk H va (s.asks.map eAsk) := w.fa.row
theorem Wk.wb (w : Wk κ H c s vt vp vs vi va vb) : Row tBan H vb (s.bans.map eBan) := w.fb.row
theorem wk_put {κ : Nat → Nat} {H : Heap} {c : Nat} (hc : c < H.length) (kc : κ c = 1) (top : ∀ i, H.length ≤ i → κ i = 0) {s' : Stt} {ut up us ui ua ub : AV} (ft : BytO H ut s'.title) (fp : BytO H up s'.pass) (kt : ∀ b, rb ut = some b → κ b = 7) (kp : ∀ b, rb up = some b → κ b = 7)
  (fs : KRow κ 2 tSeat eSeat H us s'.seats) (fi : KRow κ 3 tInvite eInv H ui s'.invites) (fa : KRow κ 4 tAsk eAsk H ua s'.asks) (fb : KRow κ 5 tBan eBan H ub s'.bans) :
  Wk κ (H.set c ⟨eSt s' ut up us ui ua ub, 0, .own⟩) c s' ut up us ui ua ub ∧ Fr κ H κ (H.set c ⟨eSt s' ut up us ui ua ub, 0, .own⟩) := by
 have hg : ∀ i, κ i ≠ 1 → (H.set c ⟨eSt s' ut up us ui ua ub, 0, .own⟩)[i]? = H[i]? := fun i hi => List.getElem?_set_ne fun e => hi (by rw [← e]; exact kc)
 have ho : ∀ {k : Nat} i, k ≠ 1 → κ i = 8 ∨ κ i = k → κ i = κ i ∧ (H.set c ⟨eSt s' ut up us ui ua ub, 0, .own⟩)[i]? = H[i]? := fun i h1 h => ⟨rfl, hg i (by rcases h with h | h <;> omega)⟩
 refine ⟨⟨List.getElem?_set_self hc, kc, fun i hi => top i (by simpa using hi), ft.other fun b hb => hg b (by rw [kt b hb]; decide), fp.other fun b hb => hg b (by rw [kp b hb]; decide), kt, kp, fs.other fun i _ => ho i (by decide), fi.other fun i _ => ho i (by decide), fa.other fun i _ => ho i (by decide), fb.other fun i _ => ho i (by decide)⟩, by simp, fun _ _ => rfl, fun i _ h => hg i (by omega)⟩
theorem Wk.put (w : Wk κ H c s vt vp vs vi va vb) {s' : Stt} {ut up us ui ua ub : AV} (ft : BytO H ut s'.title) (fp : BytO H up s'.pass) (kt : ∀ b, Go.Vab.rb ut = some b → κ b = 7) (kp : ∀ b, Go.Vab.rb up = some b → κ b = 7)
  (fs : KRow κ 2 tSeat eSeat H us s'.seats) (fi : KRow κ 3 tInvite eInv H ui s'.invites) (fa : KRow κ 4 tAsk eAsk H ua s'.asks) (fb : KRow κ 5 tBan eBan H ub s'.bans) :
  Wk κ (H.set c ⟨eSt s' ut up us ui ua ub, 0, .own⟩) c s' ut up us ui ua ub ∧ Fr κ H κ (H.set c ⟨eSt s' ut up us ui ua ub, 0, .own⟩) := wk_put w.lt w.kc w.top ft fp kt kp fs fi fa fb
theorem Wk.rest {κ' : Nat → Nat} {H' : Heap} {k : Nat} (w : Wk κ H c s vt vp vs vi va vb) (h : Chg κ k H κ' H') (hk : 2 ≤ k) (h6 : k < 6 := by decide) : H'[c]? = some ⟨eSt s vt vp vs vi va vb, 0, .own⟩ ∧ κ' c = 1 ∧ (∀ i, H'.length ≤ i → κ' i = 0) ∧ BytO H' vt s.title ∧ BytO H' vp s.pass ∧ (∀ b, rb vt = some b → κ' b = 7) ∧ (∀ b, rb vp = some b → κ' b = 7) ∧
  (k ≠ 2 → KRow κ' 2 tSeat eSeat H' vs s.seats) ∧ (k ≠ 3 → KRow κ' 3 tInvite eInv H' vi s.invites) ∧ (k ≠ 4 → KRow κ' 4 tAsk eAsk H' va s.asks) ∧ (k ≠ 5 → KRow κ' 5 tBan eBan H' vb s.bans) := by
 have t1 := w.ft.rb_lt'
 have t2 := w.fp.rb_lt'
 exact ⟨(h.keep _ w.lt (by rw [w.kc]; omega)).trans w.cell, (h.old _ w.lt).trans w.kc, h.top w.top, w.ft.other fun b hb => h.keep b (t1 b hb) (by rw [w.kt b hb]; omega), w.fp.other fun b hb => h.keep b (t2 b hb) (by rw [w.kp b hb]; omega),
  fun b hb => (h.old b (t1 b hb)).trans (w.kt b hb), fun b hb => (h.old b (t2 b hb)).trans (w.kp b hb), fun q => w.fs.chg h (by omega) (by omega), fun q => w.fi.chg h (by omega) (by omega), fun q => w.fa.chg h (by omega) (by omega), fun q => w.fb.chg h (by omega) (by omega)⟩
theorem Wk.newS {κ' : Nat → Nat} {H' : Heap} {x : AV} {l : List Seat} (w : Wk κ H c s vt vp vs vi va vb) (h : Chg κ 2 H κ' H') (r : KRow κ' 2 tSeat eSeat H' x l) : Wk κ' (H'.set c ⟨eSt { s with seats := l } vt vp x vi va vb, 0, .own⟩) c { s with seats := l } vt vp x vi va vb ∧ Fr κ H κ' (H'.set c ⟨eSt { s with seats := l } vt vp x vi va vb, 0, .own⟩) := by
 obtain ⟨h1, h2, h3, h4, h5, h6, h7, g2, g3, g4, g5⟩ := w.rest h (by decide)
 have := wk_put (s' := { s with seats := l }) (List.getElem?_eq_some_iff.1 h1).1 h2 h3 h4 h5 h6 h7 r (g3 (by decide)) (g4 (by decide)) (g5 (by decide))
 exact ⟨this.1, (h.fr (by decide)).trans this.2⟩
theorem Wk.newI {κ' : Nat → Nat} {H' : Heap} {x : AV} {l : List Inv} (w : Wk κ H c s vt vp vs vi va vb) (h : Chg κ 3 H κ' H') (r : KRow κ' 3 tInvite eInv H' x l) : Wk κ' (H'.set c ⟨eSt { s with invites := l } vt vp vs x va vb, 0, .own⟩) c { s with invites := l } vt vp vs x va vb ∧ Fr κ H κ' (H'.set c ⟨eSt { s with invites := l } vt vp vs x va vb, 0, .own⟩) := by
 obtain ⟨h1, h2, h3, h4, h5, h6, h7, g2, g3, g4, g5⟩ := w.rest h (by decide)
 have := wk_put (s' := { s with invites := l }) (List.getElem?_eq_some_iff.1 h1).1 h2 h3 h4 h5 h6 h7 (g2 (by decide)) r (g4 (by decide)) (g5 (by decide))
 exact ⟨this.1, (h.fr (by decide)).trans this.2⟩
theorem Wk.newA {κ' : Nat → Nat} {H' : Heap} {x : AV} {l : List Ask} (w : Wk κ H c s vt vp vs vi va vb) (h : Chg κ 4 H κ' H') (r : KRow κ' 4 tAsk eAsk H' x l) : Wk κ' (H'.set c ⟨eSt { s with asks := l } vt vp vs vi x vb, 0, .own⟩) c { s with asks := l } vt vp vs vi x vb ∧ Fr κ H κ' (H'.set c ⟨eSt { s with asks := l } vt vp vs vi x vb, 0, .own⟩) := by
 obtain ⟨h1, h2, h3, h4, h5, h6, h7, g2, g3, g4, g5⟩ := w.rest h (by decide)
 have := wk_put (s' := { s with asks := l }) (List.getElem?_eq_some_iff.1 h1).1 h2 h3 h4 h5 h6 h7 (g2 (by decide)) (g3 (by decide)) r (g5 (by decide))
 exact ⟨this.1, (h.fr (by decide)).trans this.2⟩
theorem Wk.newB {κ' : Nat → Nat} {H' : Heap} {x : AV} {l : List Ban} (w : Wk κ H c s vt vp vs vi va vb) (h : Chg κ 5 H κ' H') (r : KRow κ' 5 tBan eBan H' x l) : Wk κ' (H'.set c ⟨eSt { s with bans := l } vt vp vs vi va x, 0, .own⟩) c { s with bans := l } vt vp vs vi va x ∧ Fr κ H κ' (H'.set c ⟨eSt { s with bans := l } vt vp vs vi va x, 0, .own⟩) := by
 obtain ⟨h1, h2, h3, h4, h5, h6, h7, g2, g3, g4, g5⟩ := w.rest h (by decide)
 have := wk_put (s' := { s with bans := l }) (List.getElem?_eq_some_iff.1 h1).1 h2 h3 h4 h5 h6 h7 (g2 (by decide)) (g3 (by decide)) (g4 (by decide)) r
 exact ⟨this.1, (h.fr (by decide)).trans this.2⟩
theorem Chg.blk {κ κ' : Nat → Nat} {k : Nat} {H H' : Heap} (h : Chg κ k H κ' H') (hk : k ≠ 0) {i : Nat} {b : Blk} (hb : H[i]? = some b) (h0 : κ i = 0) : H'[i]? = some b := by
 rw [h.keep i (List.getElem?_eq_some_iff.1 hb).1 (by omega)]; exact hb
theorem Fr.blk {κ κ' : Nat → Nat} {H H' : Heap} (h : Fr κ H κ' H') {i : Nat} {b : Blk} (hb : H[i]? = some b) (h0 : κ i = 0 ∨ 6 ≤ κ i) : H'[i]? = some b := by
 rw [h.keep i (List.getElem?_eq_some_iff.1 hb).1 h0]; exact hb
end
def scr (κ : Nat → Nat) (n : Nat) : Nat → Nat := fun i => if i = n then 6 else κ i
theorem scr_self (κ : Nat → Nat) (n : Nat) : scr κ n n = 6 := if_pos rfl
theorem scr_ne {κ : Nat → Nat} {n i : Nat} (h : i ≠ n) : scr κ n i = κ i := if_neg h
section
variable {κ : Nat → Nat} {H : Heap} {c : Nat} {s : Stt} {vt vp vs vi va vb : AV}
theorem Wk.scr (w : Wk κ H c s vt vp vs vi va vb) (v : Blk) : Wk (Go.Vab.scr κ H.length) (H ++ [v]) c s vt vp vs vi va vb := by
 have hg : ∀ i, i < H.length → Go.Vab.scr κ H.length i = κ i ∧ (H ++ [v])[i]? = H[i]? := fun i hi => ⟨scr_ne (by omega), List.getElem?_append_left hi⟩
 have t1 := w.ft.rb_lt'
 have t2 := w.fp.rb_lt'
 exact ⟨(hg _ w.lt).2.trans w.cell, (hg _ w.lt).1.trans w.kc, fun i hi => by rw [scr_ne (by simp at hi; omega)]; exact w.top i (by simp at hi; omega), w.ft.app _, w.fp.app _, fun b hb => by rw [(hg b (t1 b hb)).1]; exact w.kt b hb, fun b hb => by rw [(hg b (t2 b hb)).1]; exact w.kp b hb,
  w.fs.other fun i hi _ => hg i hi, w.fi.other fun i hi _ => hg i hi, w.fa.other fun i hi _ => hg i hi, w.fb.other fun i hi _ => hg i hi⟩
theorem Wk.wr (w : Wk κ H c s vt vp vs vi va vb) {p : Nat} (hp : κ p = 6) (v : Blk) : Wk κ (H.set p v) c s vt vp vs vi va vb := by
 have hg : ∀ i, κ i ≠ 6 → (H.set p v)[i]? = H[i]? := fun i hi => List.getElem?_set_ne fun e => by subst e; omega
 have ho : ∀ {k : Nat} i, k < 6 → κ i = 8 ∨ κ i = k → κ i = κ i ∧ (H.set p v)[i]? = H[i]? := fun i h1 h => ⟨rfl, hg i (by rcases h with h | h <;> omega)⟩
 exact ⟨(hg _ (by rw [w.kc]; decide)).trans w.cell, w.kc, fun i hi => w.top i (by simpa using hi), w.ft.other fun b hb => hg b (by rw [w.kt b hb]; decide), w.fp.other fun b hb => hg b (by rw [w.kp b hb]; decide), w.kt, w.kp,
  w.fs.other fun i _ => ho i (by decide), w.fi.other fun i _ => ho i (by decide), w.fa.other fun i _ => ho i (by decide), w.fb.other fun i _ => ho i (by decide)⟩
end
theorem Fr.scr {κ κ1 : Nat → Nat} {H H1 l : Heap} {n : Nat} (a : Fr (Go.Vab.scr κ n) (H ++ l) κ1 H1) (hn : H.length ≤ n) : Fr κ H κ1 H1 :=
 ⟨by have := a.len; simp at this; omega, fun i hi => by rw [a.old i (by simp; omega), scr_ne (by omega)], fun i hi h => (a.keep i (by simp; omega) (by rw [scr_ne (by omega)]; exact h)).trans (List.getElem?_append_left hi)⟩
theorem Fr.wr {κ κ1 : Nat → Nat} {H H1 : Heap} (a : Fr κ H κ1 H1) {p : Nat} (hp : H.length ≤ p) (v : Blk) : Fr κ H κ1 (H1.set p v) :=
 ⟨by have := a.len; simpa using this, a.old, fun i hi h => by rw [List.getElem?_set_ne (by omega)]; exact a.keep i hi h⟩
end Go.Vab

/-
  Elements of a list's block, one by one; a piece turned round.
-/
namespace Go.Vab
open Go
section
variable {X : Type} {t : Ty} {E : X → AV}
theorem idx_k {b off n i m : Nat} {c : Option Nat} (hi : i < n) (hm : off + n ≤ m) : ∃ p, mIdxS t (.slice b 0 [] t off n c) (nat i) = some p ∧
  (∀ G (ys : List X), G[b]? = some ⟨.node (ys.map E), 0, .own⟩ → ys.length = m → ∀ z, ys[off + i]? = some z → mLoad t p G = some (E z)) ∧
  (∀ G (ys : List X) z, G[b]? = some ⟨.node (ys.map E), 0, .own⟩ → ys.length = m → hasTy (E z) t = true → stU t p (E z) G = some (.undef, G.set b ⟨.node ((ys.set (off + i) z).map E), 0, .own⟩)) := by
 refine ⟨.ptr b 0 [off + i] t, by simp [mIdxS, hi], fun G ys hG hl z hz => ?_, fun G ys z hG hl hz => ?_⟩
 ·rw [mLoad_ptr, blk_of hG, bnd_some]
  simp [hz]
 ·rw [stU_ptr _ _ _ _ _ _ hz, blk_of hG, bnd_some]
  have h1 : (ys.map E)[off + i]? = some (E (ys[off + i]'(by omega))) := by rw [List.getElem?_map, List.getElem?_eq_getElem (by omega)]; rfl
  simp only [put_node, h1, bnd_some, put_nil]
  simp [List.map_set]
end
def revAt {X : Type} (off n : Nat) (xs : List X) : List X := xs.take off ++ ((xs.drop off).take n).reverse ++ xs.drop (off + n)
theorem revAt_mid {X : Type} (A M B : List X) : revAt A.length M.length (A ++ M ++ B) = A ++ M.reverse ++ B := by
 unfold revAt
 have h1 : (A ++ M ++ B).take A.length = A := by rw [List.append_assoc]; exact List.take_left' rfl
 have h2 : ((A ++ M ++ B).drop A.length).take M.length = M := by
  rw [List.append_assoc, List.drop_left' rfl]; exact List.take_left' rfl
 have h3 : (A ++ M ++ B).drop (A.length + M.length) = B := List.drop_left' (by simp)
 rw [h1, h2, h3]
def RevI {X : Type} (off n i : Nat) (xs ys : List X) : Prop := ys.length = xs.length ∧ ∀ p, ys[p]? = if off ≤ p ∧ p < off + n ∧ (p < off + i ∨ off + n ≤ p + i) then xs[2 * off + n - 1 - p]? else xs[p]?
theorem RevI.zero {X : Type} (off n : Nat) (xs : List X) : RevI off n 0 xs xs := ⟨rfl, fun p => by rw [if_neg (by omega)]⟩
theorem RevI.step {X : Type} {off n i : Nat} {xs ys : List X} (h : RevI off n i xs ys) (hi : 2 * i + 1 < n) (hn : off + n ≤ xs.length) {a b : X} (ha : ys[off + i]? = some a) (hb : ys[off + (n - 1 - i)]? = some b) :
  RevI off n (i + 1) xs ((ys.set (off + i) b).set (off + (n - 1 - i)) a) := by
 obtain ⟨h1, h2⟩ := h
 refine ⟨by simp [h1], fun p => ?_⟩
 have ea := h2 (off + i)
 rw [if_neg (by omega), ha] at ea
 have eb := h2 (off + (n - 1 - i))
 rw [if_neg (by omega), hb] at eb
 rw [List.getElem?_set, List.getElem?_set]
 by_cases p1 : off + (n - 1 - i) = p
 ·subst p1
  rw [if_pos rfl, if_pos (by simp; omega), if_pos (by omega), show 2 * off + n - 1 - (off + (n - 1 - i)) = off + i by omega, ← ea]
 ·rw [if_neg p1]
  by_cases p2 : off + i = p
  ·subst p2
   rw [if_pos rfl, if_pos (by omega), if_pos (by omega), show 2 * off + n - 1 - (off + i) = off + (n - 1 - i) by omega, ← eb]
  ·rw [if_neg p2, h2 p]
   by_cases q : off ≤ p ∧ p < off + n ∧ (p < off + i ∨ off + n ≤ p + i)
   ·rw [if_pos q, if_pos (by omega)]
   ·rw [if_neg q, if_neg (by omega)]
theorem RevI.last {X : Type} {off n : Nat} {xs ys : List X} (h : RevI off n (n / 2) xs ys) (hn : off + n ≤ xs.length) : ys = revAt off n xs := by
 obtain ⟨h1, h2⟩ := h
 apply List.ext_getElem?
 intro p
 rw [h2 p]
 unfold revAt
 by_cases p1 : p < off
 ·rw [if_neg (by omega), List.append_assoc, List.getElem?_append_left (by simp; omega), List.getElem?_take_of_lt p1]
 ·by_cases p2 : p < off + n
  ·rw [List.getElem?_append_left (by simp; omega), List.getElem?_append_right (by simp; omega)]
   have hl : ((xs.drop off).take n).length = n := by simp; omega
   have ht : (xs.take off).length = off := by simp; omega
   rw [ht, List.getElem?_reverse (by omega), hl, List.getElem?_take_of_lt (by omega), List.getElem?_drop]
   by_cases q : off ≤ p ∧ p < off + n ∧ (p < off + n / 2 ∨ off + n ≤ p + n / 2)
   ·rw [if_pos q]; congr 1; omega
   ·rw [if_neg q]; congr 1; omega
  ·rw [if_neg (by omega), List.getElem?_append_right (by simp; omega), List.getElem?_drop]
   congr 1
   simp; omega
end Go.Vab

/-
  A step that is being made: what it holds; what its parts answer, in plain words.
-/
namespace Go.Vab
open Go
def eStep (c : Nat) (b : Pt) (a : Actn) (wt wp : AV) (m : BitVec 8) : AV := .node [.ptr c 0 [] tState, pt b, eAct a wt wp, u8 m]
section
variable (c : Nat) (b : Pt) (a : Actn) (wt wp : AV) (m : BitVec 8) (r : List Nat)
@[simp] theorem eStep_get0 : (eStep c b a wt wp m).get (0 :: r) = (AV.ptr c 0 [] tState).get r := by simp [eStep]
@[simp] theorem eStep_get1 : (eStep c b a wt wp m).get (1 :: r) = (pt b).get r := by simp [eStep]
@[simp] theorem eStep_get2 : (eStep c b a wt wp m).get (2 :: r) = (eAct a wt wp).get r := by simp [eStep]
@[simp] theorem eStep_get3 : (eStep c b a wt wp m).get (3 :: r) = (u8 m).get r := by simp [eStep]
@[simp] theorem fold_eStep (kd : BitVec 8) (v : BitVec 32) (w : Ci) (e : Pt) (ro : BitVec 8) (ac : Acc) : AV.node [.ptr c 0 [] tState, pt b, eActH v kd w e ro ac wt wp, u8 m] = eStep c b ⟨v, kd, w, e, ro, [], ac, []⟩ wt wp m := rfl
end
theorem lt_app {c : Nat} {H : Heap} (h : c < H.length) (l : Heap) : c < (H ++ l).length := by simp; omega
structure Sx (κ : Nat → Nat) (H : Heap) (c xb : Nat) (s : Stt) (b : Pt) (a : Actn) (m : BitVec 8) (vt vp vs vi va vb wt wp : AV) : Prop where
 w : Wk κ H c s vt vp vs vi va vb
 st : H[xb]? = some ⟨eStep c b a wt wp m, 0, .own⟩
 kx : κ xb = 0
 ra : ActR H a wt wp
 kt : ∀ i, rb wt = some i → κ i = 7
 kp : ∀ i, rb wp = some i → κ i = 7
 ot : OwnB H wt
 op : OwnB H wp
section
variable {κ : Nat → Nat} {H : Heap} {c xb : Nat} {s : Stt} {b : Pt} {a : Actn} {m : BitVec 8} {vt vp vs vi va vb wt wp : AV}
theorem Sx.app (x : Sx κ H c xb s b a m vt vp vs vi va vb wt wp) (l : Heap) : Sx κ (H ++ l) c xb s b a m vt vp vs vi va vb wt wp :=
 ⟨x.w.app l, by rw [List.getElem?_append_left (List.getElem?_eq_some_iff.1 x.st).1]; exact x.st, x.kx, x.ra.app l, x.kt, x.kp, x.ot.app l, x.op.app l⟩
theorem Sx.blk (x : Sx κ H c xb s b a m vt vp vs vi va vb wt wp) (l : Heap) : blkAt (H ++ l) xb 0 = some ⟨eStep c b a wt wp m, 0, .own⟩ := blkAt_app (blk_of x.st) l
theorem Sx.lt (x : Sx κ H c xb s b a m vt vp vs vi va vb wt wp) (l : Heap) : c < (H ++ l).length := lt_app x.w.lt l
theorem Sx.next {κ' : Nat → Nat} {H' : Heap} {s' : Stt} {ut up us ui ua ub : AV} (x : Sx κ H c xb s b a m vt vp vs vi va vb wt wp) (fr : Fr κ H κ' H') (w' : Wk κ' H' c s' ut up us ui ua ub) : Sx κ' H' c xb s' b a m ut up us ui ua ub wt wp := by
 have l1 := x.ra.t.rb_lt'
 have l2 := x.ra.p.rb_lt'
 have lx := (List.getElem?_eq_some_iff.1 x.st).1
 exact ⟨w', fr.blk x.st (.inl x.kx), (fr.old _ lx).trans x.kx, ⟨x.ra.t.other fun i hi => fr.keep i (l1 i hi) (.inr (by rw [x.kt i hi]; decide)), x.ra.p.other fun i hi => fr.keep i (l2 i hi) (.inr (by rw [x.kp i hi]; decide))⟩,
  fun i hi => (fr.old i (l1 i hi)).trans (x.kt i hi), fun i hi => (fr.old i (l2 i hi)).trans (x.kp i hi), x.ot.other fun i hi => fr.keep i (l1 i hi) (.inr (by rw [x.kt i hi]; decide)), x.op.other fun i hi => fr.keep i (l2 i hi) (.inr (by rw [x.kp i hi]; decide))⟩
end
section
variable {κ : Nat → Nat} {H : Heap} {c xb : Nat} {s : Stt} {b : Pt} {a : Actn} {m : BitVec 8} {vt vp vs vi va vb wt wp : AV}
theorem Sx.scr (x : Sx κ H c xb s b a m vt vp vs vi va vb wt wp) (v : Blk) : Sx (Go.Vab.scr κ H.length) (H ++ [v]) c xb s b a m vt vp vs vi va vb wt wp := by
 have l1 := x.ra.t.rb_lt'
 have l2 := x.ra.p.rb_lt'
 have lx := (List.getElem?_eq_some_iff.1 x.st).1
 exact ⟨x.w.scr v, by rw [List.getElem?_append_left lx]; exact x.st, by rw [scr_ne (by omega)]; exact x.kx, x.ra.app _, fun i hi => by rw [scr_ne (by have := l1 i hi; omega)]; exact x.kt i hi, fun i hi => by rw [scr_ne (by have := l2 i hi; omega)]; exact x.kp i hi, x.ot.app _, x.op.app _⟩
theorem Sx.wr (x : Sx κ H c xb s b a m vt vp vs vi va vb wt wp) {p : Nat} (hp : κ p = 6) (v : Blk) : Sx κ (H.set p v) c xb s b a m vt vp vs vi va vb wt wp := by
 have hg : ∀ i, κ i ≠ 6 → (H.set p v)[i]? = H[i]? := fun i hi => List.getElem?_set_ne fun e => by subst e; omega
 exact ⟨x.w.wr hp v, (hg _ (by rw [x.kx]; decide)).trans x.st, x.kx, ⟨x.ra.t.other fun i hi => hg i (by rw [x.kt i hi]; decide), x.ra.p.other fun i hi => hg i (by rw [x.kp i hi]; decide)⟩, x.kt, x.kp, x.ot.other fun i hi => hg i (by rw [x.kt i hi]; decide), x.op.other fun i hi => hg i (by rw [x.kp i hi]; decide)⟩
end
def newWhy (s : Stt) (a : Actn) (link : BitVec 8) (iv ak : Bool) : Nat :=
 if hasP fB s.bans a.who.e = true then 193 else if hasP fS s.seats a.who.e = true then 8 else if (iv && hasP fI s.invites a.who.e) = true then 8 else if (ak && hasP fA s.asks a.who.e) = true then 8
 else if link = 0#8 then 0 else if s.acc.link ≠ link then 196 else if passOk s a = false then 194 else 0
def mayWhy (m : BitVec 8) (s : Stt) (b : Pt) (a : Actn) : Nat :=
 if a.kind = 7#8 ∨ a.kind = 8#8 ∨ a.kind = 11#8 then 0
 else if a.kind = 9#8 ∨ a.kind = 10#8 then (if a.who.e = b then 0 else 195)
 else if (a.kind = 1#8 ∨ a.kind = 5#8 ∨ a.kind = 12#8) ∧ a.role = 2#8 ∧ m ≠ 2#8 then 191
 else if m = 0#8 then 191
 else if m < (if a.kind = 1#8 ∨ a.kind = 5#8 ∨ a.kind = 12#8 then s.acc.members else if a.kind = 16#8 then s.acc.title else if a.kind = 4#8 ∨ a.kind = 6#8 then 1#8 else 2#8) then 191 else 0
end Go.Vab

/-
  Who has the right, in plain words; how the program's order of asking and the document's come to one.
-/
namespace Go.Vab
open Go
set_option maxRecDepth 20000 in
theorem kinds18 : ∀ k : BitVec 8, ¬ k < 1#8 → ¬ 18#8 < k → k = 1#8 ∨ k = 2#8 ∨ k = 3#8 ∨ k = 4#8 ∨ k = 5#8 ∨ k = 6#8 ∨ k = 7#8 ∨ k = 8#8 ∨ k = 9#8 ∨ k = 10#8 ∨ k = 11#8 ∨ k = 12#8 ∨ k = 13#8 ∨ k = 14#8 ∨ k = 15#8 ∨ k = 16#8 ∨ k = 17#8 ∨ k = 18#8 := by decide
theorem mayA_kind {a : Actn} (h : mayA a = true) : a.kind = 1#8 ∨ a.kind = 2#8 ∨ a.kind = 3#8 ∨ a.kind = 4#8 ∨ a.kind = 5#8 ∨ a.kind = 6#8 ∨ a.kind = 7#8 ∨ a.kind = 8#8 ∨ a.kind = 9#8 ∨ a.kind = 10#8 ∨ a.kind = 11#8 ∨ a.kind = 12#8 ∨ a.kind = 13#8 ∨ a.kind = 14#8 ∨ a.kind = 15#8 ∨ a.kind = 16#8 ∨ a.kind = 17#8 ∨ a.kind = 18#8 := by
 unfold mayA at h
 simp only [Bool.and_eq_true, Bool.not_eq_true', Bool.or_eq_false_iff, decide_eq_false_iff_not] at h
 exact kinds18 _ h.1.1.1.1.1 h.1.1.1.1.2
theorem mayA_role {a : Actn} (h : mayA a = true) (hk : hR a.kind = true) : a.role = 1#8 ∨ a.role = 2#8 := by
 unfold mayA at h
 simp only [Bool.and_eq_true, Bool.not_eq_true', Bool.or_eq_false_iff, decide_eq_false_iff_not] at h
 have := h.1.1.2.1.2
 rw [hk] at this
 have h2 : roleOk a.role = true := by simpa using this
 unfold roleOk at h2
 simpa only [Bool.or_eq_true, decide_eq_true_eq] using h2
theorem roleOf_some {s : Stt} {e : Pt} {x : Seat} (h : fnd fS s.seats e = some x) : roleOf s e = x.role := by simp [roleOf, h]
theorem roleOf_none {s : Stt} {e : Pt} (h : fnd fS s.seats e = none) : roleOf s e = 0#8 := by simp [roleOf, h]
theorem may_roles {s : Stt} (h : mayS s = true) : (∀ x ∈ s.seats, x.role = 1#8 ∨ x.role = 2#8) ∧ ∀ x ∈ s.invites, x.role = 1#8 ∨ x.role = 2#8 := by
 rw [← mayR_eq] at h
 unfold mayR at h
 simp only [Bool.and_eq_true, List.all_eq_true] at h
 obtain ⟨_, _, _, _, h1, h2⟩ := h
 exact ⟨fun x hx => by simpa only [roleOk, Bool.or_eq_true, decide_eq_true_eq] using h1 x hx, fun x hx => by simpa only [roleOk, Bool.or_eq_true, decide_eq_true_eq] using h2 x hx⟩
theorem fnd_mem {X : Type} {f : X → Pt} {l : List X} {e : Pt} {x : X} (h : fnd f l e = some x) : x ∈ l ∧ f x = e := ⟨List.mem_of_find?_eq_some h, by simpa using List.find?_some h⟩
theorem role3 {s : Stt} (h : mayS s = true) (b : Pt) : (roleOf s b = 0#8 ∧ hasP fS s.seats b = false) ∨ ((roleOf s b = 1#8 ∨ roleOf s b = 2#8) ∧ hasP fS s.seats b = true) := by
 cases hx : fnd fS s.seats b with
 | none => exact .inl ⟨roleOf_none hx, by simp [hasP, hx]⟩
 | some x =>
  right
  rw [roleOf_some hx]
  exact ⟨(may_roles h).1 x (fnd_mem hx).1, by simp [hasP, hx]⟩
theorem role_has {s : Stt} (h : mayS s = true) {b : Pt} (hr : roleOf s b ≠ 0#8) : hasP fS s.seats b = true := by
 rcases role3 h b with ⟨h1, _⟩ | ⟨_, h2⟩
 ·exact absurd h1 hr
 ·exact h2
structure Okd (s : Stt) (b : Pt) (a : Actn) : Prop where
 add : a.kind = 1#8 ∨ a.kind = 5#8 ∨ a.kind = 12#8 → adds s b a.role = true
 who : a.kind = 9#8 ∨ a.kind = 10#8 → a.who.e = b
 tit : a.kind = 16#8 → ¬ (roleOf s b = 0#8 ∨ roleOf s b < s.acc.title)
 mem : a.kind = 4#8 ∨ a.kind = 6#8 → roleOf s b ≠ 0#8
 adm : a.kind = 2#8 ∨ a.kind = 3#8 ∨ a.kind = 13#8 ∨ a.kind = 14#8 ∨ a.kind = 15#8 ∨ a.kind = 17#8 ∨ a.kind = 18#8 → roleOf s b = 2#8
theorem no0 {p q : Prop} (h : ¬ p) : p → q := fun a => absurd a h
theorem adds_iff {s : Stt} {b : Pt} {r : BitVec 8} : adds s b r = true ↔ roleOf s b ≠ 0#8 ∧ ¬ roleOf s b < s.acc.members ∧ (r = 1#8 ∨ roleOf s b = 2#8) := by
 simp only [adds, Bool.and_eq_true, Bool.not_eq_true', decide_eq_false_iff_not, Bool.or_eq_true, decide_eq_true_eq, ne_eq, and_assoc]
section
variable {m : BitVec 8} {s : Stt} {b : Pt} {a : Actn}
theorem why_add (hk : a.kind = 1#8 ∨ a.kind = 5#8 ∨ a.kind = 12#8) (hr : a.role = 1#8 ∨ a.role = 2#8) : (mayWhy m s b a = 0 ∧ m ≠ 0#8 ∧ ¬ m < s.acc.members ∧ (a.role = 1#8 ∨ m = 2#8)) ∨ (mayWhy m s b a = 191 ∧ ¬ (m ≠ 0#8 ∧ ¬ m < s.acc.members ∧ (a.role = 1#8 ∨ m = 2#8))) := by
 have e : mayWhy m s b a = if a.role = 2#8 ∧ m ≠ 2#8 then 191 else if m = 0#8 then 191 else if m < s.acc.members then 191 else 0 := by
  rcases hk with hk | hk | hk <;> simp [mayWhy, hk]
 rw [e]
 by_cases h1 : a.role = 2#8 ∧ m ≠ 2#8
 ·rw [if_pos h1]
  exact .inr ⟨rfl, fun h => by rcases h.2.2 with q | q; rw [h1.1] at q; revert q; decide; exact h1.2 q⟩
 rw [if_neg h1]
 by_cases h2 : m = 0#8
 ·rw [if_pos h2]; exact .inr ⟨rfl, fun h => h.1 h2⟩
 rw [if_neg h2]
 by_cases h3 : m < s.acc.members
 ·rw [if_pos h3]; exact .inr ⟨rfl, fun h => h.2.1 h3⟩
 rw [if_neg h3]
 refine .inl ⟨rfl, h2, h3, ?_⟩
 rcases hr with q | q
 ·exact .inl q
 ·exact .inr (Classical.byContradiction fun h => h1 ⟨q, h⟩)
theorem why_adm (hk : a.kind = 2#8 ∨ a.kind = 3#8 ∨ a.kind = 13#8 ∨ a.kind = 14#8 ∨ a.kind = 15#8 ∨ a.kind = 17#8 ∨ a.kind = 18#8) (hm : m = 0#8 ∨ m = 1#8 ∨ m = 2#8) : (mayWhy m s b a = 0 ∧ m = 2#8) ∨ (mayWhy m s b a = 191 ∧ m ≠ 2#8) := by
 rcases hm with rfl | rfl | rfl <;> rcases hk with hk | hk | hk | hk | hk | hk | hk <;> simp [mayWhy, hk]
theorem why_mem (hk : a.kind = 4#8 ∨ a.kind = 6#8) (hm : m = 0#8 ∨ m = 1#8 ∨ m = 2#8) : (mayWhy m s b a = 0 ∧ m ≠ 0#8) ∨ (mayWhy m s b a = 191 ∧ m = 0#8) := by
 rcases hm with rfl | rfl | rfl <;> rcases hk with hk | hk <;> simp [mayWhy, hk]
theorem why_tit (hk : a.kind = 16#8) : (mayWhy m s b a = 0 ∧ ¬ (m = 0#8 ∨ m < s.acc.title)) ∨ (mayWhy m s b a = 191 ∧ (m = 0#8 ∨ m < s.acc.title)) := by
 have e : mayWhy m s b a = if m = 0#8 then 191 else if m < s.acc.title then 191 else 0 := by simp [mayWhy, hk]
 rw [e]
 by_cases h2 : m = 0#8
 ·rw [if_pos h2]; exact .inr ⟨rfl, .inl h2⟩
 rw [if_neg h2]
 by_cases h3 : m < s.acc.title
 ·rw [if_pos h3]; exact .inr ⟨rfl, .inr h3⟩
 rw [if_neg h3]
 exact .inl ⟨rfl, fun h => by rcases h with h | h; exact h2 h; exact h3 h⟩
theorem why_who (hk : a.kind = 9#8 ∨ a.kind = 10#8) : (mayWhy m s b a = 0 ∧ a.who.e = b) ∨ (mayWhy m s b a = 195 ∧ a.who.e ≠ b) := by
 have e : mayWhy m s b a = if a.who.e = b then 0 else 195 := by rcases hk with hk | hk <;> simp [mayWhy, hk]
 rw [e]
 by_cases h : a.who.e = b
 ·rw [if_pos h]; exact .inl ⟨rfl, h⟩
 ·rw [if_neg h]; exact .inr ⟨rfl, h⟩
theorem why_ok (hk : a.kind = 7#8 ∨ a.kind = 8#8 ∨ a.kind = 11#8) : mayWhy m s b a = 0 := by
 rcases hk with hk | hk | hk <;> simp [mayWhy, hk]
end
theorem may_split {s : Stt} {b : Pt} {a : Actn} (hs : mayS s = true) (ha : mayA a = true) : (mayWhy (roleOf s b) s b a = 0 ∧ Okd s b a) ∨ (mayWhy (roleOf s b) s b a ≠ 0 ∧ madeP s b a = .error (mayWhy (roleOf s b) s b a)) := by
 have h3 : roleOf s b = 0#8 ∨ roleOf s b = 1#8 ∨ roleOf s b = 2#8 := by
  rcases role3 hs b with ⟨h, _⟩ | ⟨h | h, _⟩
  ·exact .inl h
  ·exact .inr (.inl h)
  ·exact .inr (.inr h)
 have mk : ∀ {k : BitVec 8}, a.kind = k → ((k = 1#8 ∨ k = 5#8 ∨ k = 12#8 → adds s b a.role = true) ∧ (k = 9#8 ∨ k = 10#8 → a.who.e = b) ∧ (k = 16#8 → ¬ (roleOf s b = 0#8 ∨ roleOf s b < s.acc.title)) ∧ (k = 4#8 ∨ k = 6#8 → roleOf s b ≠ 0#8) ∧ (k = 2#8 ∨ k = 3#8 ∨ k = 13#8 ∨ k = 14#8 ∨ k = 15#8 ∨ k = 17#8 ∨ k = 18#8 → roleOf s b = 2#8)) → Okd s b a := by
  rintro k rfl ⟨h1, h2, h3, h4, h5⟩; exact ⟨h1, h2, h3, h4, h5⟩
 have gA : (a.kind = 1#8 ∨ a.kind = 5#8 ∨ a.kind = 12#8) → hR a.kind = true → (mayWhy (roleOf s b) s b a = 0 ∧ adds s b a.role = true) ∨ (mayWhy (roleOf s b) s b a = 191 ∧ adds s b a.role = false) := by
  intro hk hr
  rcases why_add (m := roleOf s b) (s := s) (b := b) hk (mayA_role ha hr) with ⟨h1, h2⟩ | ⟨h1, h2⟩
  ·exact .inl ⟨h1, adds_iff.2 h2⟩
  ·exact .inr ⟨h1, by rw [← Bool.not_eq_true]; exact fun h => h2 (adds_iff.1 h)⟩
 rcases mayA_kind ha with hk | hk | hk | hk | hk | hk | hk | hk | hk | hk | hk | hk | hk | hk | hk | hk | hk | hk
 ·rcases gA (.inl hk) (by rw [hk]; decide) with ⟨h1, h2⟩ | ⟨h1, h2⟩
  ·exact .inl ⟨h1, mk hk ⟨fun _ => h2, no0 (by decide), no0 (by decide), no0 (by decide), no0 (by decide)⟩⟩
  ·exact .inr ⟨by rw [h1]; decide, by rw [h1]; simp [madeP, hk, h2]⟩
 ·rcases why_adm (s := s) (b := b) (.inl hk) h3 with ⟨h1, h2⟩ | ⟨h1, h2⟩
  ·exact .inl ⟨h1, mk hk ⟨no0 (by decide), no0 (by decide), no0 (by decide), no0 (by decide), fun _ => h2⟩⟩
  ·exact .inr ⟨by rw [h1]; decide, by rw [h1]; simp [madeP, hk, h2]⟩
 ·rcases why_adm (s := s) (b := b) (.inr (.inl hk)) h3 with ⟨h1, h2⟩ | ⟨h1, h2⟩
  ·exact .inl ⟨h1, mk hk ⟨no0 (by decide), no0 (by decide), no0 (by decide), no0 (by decide), fun _ => h2⟩⟩
  ·exact .inr ⟨by rw [h1]; decide, by rw [h1]; simp [madeP, hk, h2]⟩
 ·rcases why_mem (s := s) (b := b) (.inl hk) h3 with ⟨h1, h2⟩ | ⟨h1, h2⟩
  ·exact .inl ⟨h1, mk hk ⟨no0 (by decide), no0 (by decide), no0 (by decide), fun _ => h2, no0 (by decide)⟩⟩
  ·exact .inr ⟨by rw [h1]; decide, by rw [h1]; simp [madeP, hk, h2]⟩
 ·rcases gA (.inr (.inl hk)) (by rw [hk]; decide) with ⟨h1, h2⟩ | ⟨h1, h2⟩
  ·exact .inl ⟨h1, mk hk ⟨fun _ => h2, no0 (by decide), no0 (by decide), no0 (by decide), no0 (by decide)⟩⟩
  ·exact .inr ⟨by rw [h1]; decide, by rw [h1]; simp [madeP, hk, h2]⟩
 ·rcases why_mem (s := s) (b := b) (.inr hk) h3 with ⟨h1, h2⟩ | ⟨h1, h2⟩
  ·exact .inl ⟨h1, mk hk ⟨no0 (by decide), no0 (by decide), no0 (by decide), fun _ => h2, no0 (by decide)⟩⟩
  ·exact .inr ⟨by rw [h1]; decide, by rw [h1]; simp [madeP, hk, h2]⟩
 ·exact .inl ⟨why_ok (.inl hk), mk hk ⟨no0 (by decide), no0 (by decide), no0 (by decide), no0 (by decide), no0 (by decide)⟩⟩
 ·exact .inl ⟨why_ok (.inr (.inl hk)), mk hk ⟨no0 (by decide), no0 (by decide), no0 (by decide), no0 (by decide), no0 (by decide)⟩⟩
 ·rcases why_who (m := roleOf s b) (s := s) (b := b) (.inl hk) with ⟨h1, h2⟩ | ⟨h1, h2⟩
  ·exact .inl ⟨h1, mk hk ⟨no0 (by decide), fun _ => h2, no0 (by decide), no0 (by decide), no0 (by decide)⟩⟩
  ·exact .inr ⟨by rw [h1]; decide, by rw [h1]; simp [madeP, hk, h2]⟩
 ·rcases why_who (m := roleOf s b) (s := s) (b := b) (.inr hk) with ⟨h1, h2⟩ | ⟨h1, h2⟩
  ·exact .inl ⟨h1, mk hk ⟨no0 (by decide), fun _ => h2, no0 (by decide), no0 (by decide), no0 (by decide)⟩⟩
  ·exact .inr ⟨by rw [h1]; decide, by rw [h1]; simp [madeP, hk, h2]⟩
 ·exact .inl ⟨why_ok (.inr (.inr hk)), mk hk ⟨no0 (by decide), no0 (by decide), no0 (by decide), no0 (by decide), no0 (by decide)⟩⟩
 ·rcases gA (.inr (.inr hk)) (by rw [hk]; decide) with ⟨h1, h2⟩ | ⟨h1, h2⟩
  ·exact .inl ⟨h1, mk hk ⟨fun _ => h2, no0 (by decide), no0 (by decide), no0 (by decide), no0 (by decide)⟩⟩
  ·exact .inr ⟨by rw [h1]; decide, by rw [h1]; simp [madeP, hk, h2]⟩
 ·rcases why_adm (s := s) (b := b) (.inr (.inr (.inl hk))) h3 with ⟨h1, h2⟩ | ⟨h1, h2⟩
  ·exact .inl ⟨h1, mk hk ⟨no0 (by decide), no0 (by decide), no0 (by decide), no0 (by decide), fun _ => h2⟩⟩
  ·exact .inr ⟨by rw [h1]; decide, by rw [h1]; simp [madeP, hk, h2]⟩
 ·rcases why_adm (s := s) (b := b) (.inr (.inr (.inr (.inl hk)))) h3 with ⟨h1, h2⟩ | ⟨h1, h2⟩
  ·exact .inl ⟨h1, mk hk ⟨no0 (by decide), no0 (by decide), no0 (by decide), no0 (by decide), fun _ => h2⟩⟩
  ·exact .inr ⟨by rw [h1]; decide, by rw [h1]; simp [madeP, hk, h2]⟩
 ·rcases why_adm (s := s) (b := b) (.inr (.inr (.inr (.inr (.inl hk))))) h3 with ⟨h1, h2⟩ | ⟨h1, h2⟩
  ·exact .inl ⟨h1, mk hk ⟨no0 (by decide), no0 (by decide), no0 (by decide), no0 (by decide), fun _ => h2⟩⟩
  ·exact .inr ⟨by rw [h1]; decide, by rw [h1]; simp [madeP, hk, h2]⟩
 ·rcases why_tit (m := roleOf s b) (s := s) (b := b) hk with ⟨h1, h2⟩ | ⟨h1, h2⟩
  ·exact .inl ⟨h1, mk hk ⟨no0 (by decide), no0 (by decide), fun _ => h2, no0 (by decide), no0 (by decide)⟩⟩
  ·exact .inr ⟨by rw [h1]; decide, by rw [h1]; simp [madeP, hk, h2]⟩
 ·rcases why_adm (s := s) (b := b) (.inr (.inr (.inr (.inr (.inr (.inl hk)))))) h3 with ⟨h1, h2⟩ | ⟨h1, h2⟩
  ·exact .inl ⟨h1, mk hk ⟨no0 (by decide), no0 (by decide), no0 (by decide), no0 (by decide), fun _ => h2⟩⟩
  ·exact .inr ⟨by rw [h1]; decide, by rw [h1]; simp [madeP, hk, h2]⟩
 ·rcases why_adm (s := s) (b := b) (.inr (.inr (.inr (.inr (.inr (.inr hk)))))) h3 with ⟨h1, h2⟩ | ⟨h1, h2⟩
  ·exact .inl ⟨h1, mk hk ⟨no0 (by decide), no0 (by decide), no0 (by decide), no0 (by decide), fun _ => h2⟩⟩
  ·exact .inr ⟨by rw [h1]; decide, by rw [h1]; simp [madeP, hk, h2]⟩
section
variable {s : Stt} {b : Pt} {a : Actn}
theorem role_no (ms : mayS s = true) : roleOf s b = 0#8 ↔ hasP fS s.seats b = false := by
 rcases role3 ms b with ⟨h1, h2⟩ | ⟨h1, h2⟩
 ·exact ⟨fun _ => h2, fun _ => h1⟩
 ·exact ⟨fun h => by rw [h] at h1; rcases h1 with q | q <;> exact absurd q (by decide), fun h => by rw [h2] at h; cases h⟩
theorem mk_1 (ms : mayS s = true) (hk : a.kind = 1#8) (hA : adds s b a.role = true) (hn : newWhy s a 0#8 false false ≠ 0) : madeP s b a = .error (newWhy s a 0#8 false false) := by
 cases h1 : hasP fB s.bans a.who.e <;> cases h2 : hasP fS s.seats a.who.e <;> simp_all [madeP, newWhy]
theorem mf_1 (ms : mayS s = true) (hk : a.kind = 1#8) (hA : adds s b a.role = true) (hn : newWhy s a 0#8 false false = 0) (h3 : 40 ≤ s.seats.length) : madeP s b a = .error 9 := by
 cases h1 : hasP fB s.bans a.who.e <;> cases h2 : hasP fS s.seats a.who.e <;> simp_all [madeP, newWhy]
theorem mo_1 (ms : mayS s = true) (hk : a.kind = 1#8) (hA : adds s b a.role = true) (hn : newWhy s a 0#8 false false = 0) (h3 : ¬ 40 ≤ s.seats.length) : madeP s b a = .ok { s with invites := del fI s.invites a.who.e, asks := del fA s.asks a.who.e, seats := ins fS s.seats ⟨a.who, a.role, a.version⟩ } := by
 cases h1 : hasP fB s.bans a.who.e <;> cases h2 : hasP fS s.seats a.who.e <;> simp_all [madeP, newWhy]
theorem m9_eq (ms : mayS s = true) (hk : a.kind = 9#8) (hw : a.who.e = b) : madeP s b a = if newWhy s a 1#8 false false ≠ 0 then .error (newWhy s a 1#8 false false) else if 40 ≤ s.seats.length then .error 9 else .ok { s with invites := del fI s.invites a.who.e, asks := del fA s.asks a.who.e, seats := ins fS s.seats ⟨a.who, 1#8, a.version⟩ } := by
 have hr := role_no (b := b) ms
 subst hw
 cases h1 : hasP fB s.bans a.who.e <;> cases h2 : hasP fS s.seats a.who.e <;> cases h5 : passOk s a <;> by_cases h4 : s.acc.link = 1#8 <;> simp_all [madeP, newWhy]
theorem mk_9 (ms : mayS s = true) (hk : a.kind = 9#8) (hw : a.who.e = b) (hn : newWhy s a 1#8 false false ≠ 0) : madeP s b a = .error (newWhy s a 1#8 false false) := by rw [m9_eq ms hk hw, if_pos hn]
theorem mf_9 (ms : mayS s = true) (hk : a.kind = 9#8) (hw : a.who.e = b) (hn : newWhy s a 1#8 false false = 0) (h3 : 40 ≤ s.seats.length) : madeP s b a = .error 9 := by rw [m9_eq ms hk hw, if_neg (by simp [hn]), if_pos h3]
theorem mo_9 (ms : mayS s = true) (hk : a.kind = 9#8) (hw : a.who.e = b) (hn : newWhy s a 1#8 false false = 0) (h3 : ¬ 40 ≤ s.seats.length) : madeP s b a = .ok { s with invites := del fI s.invites a.who.e, asks := del fA s.asks a.who.e, seats := ins fS s.seats ⟨a.who, 1#8, a.version⟩ } := by rw [m9_eq ms hk hw, if_neg (by simp [hn]), if_neg h3]
theorem m5_eq (ms : mayS s = true) (hk : a.kind = 5#8) (hA : adds s b a.role = true) : madeP s b a = if newWhy s a 0#8 true false ≠ 0 then .error (newWhy s a 0#8 true false) else if 40 ≤ s.invites.length then .error 9 else .ok { s with asks := del fA s.asks a.who.e, invites := ins fI s.invites ⟨a.who, a.role, meOf s b⟩ } := by
 cases h1 : hasP fB s.bans a.who.e <;> cases h2 : hasP fS s.seats a.who.e <;> cases h3 : hasP fI s.invites a.who.e <;> simp_all [madeP, newWhy]
theorem m10_eq (ms : mayS s = true) (hk : a.kind = 10#8) (hw : a.who.e = b) : madeP s b a = if newWhy s a 2#8 true true ≠ 0 then .error (newWhy s a 2#8 true true) else if 40 ≤ s.asks.length then .error 9 else .ok { s with asks := ins fA s.asks ⟨a.who, a.version⟩ } := by
 have hr := role_no (b := b) ms
 subst hw
 cases h1 : hasP fB s.bans a.who.e <;> cases h2 : hasP fS s.seats a.who.e <;> cases h3 : hasP fI s.invites a.who.e <;> cases h6 : hasP fA s.asks a.who.e <;> cases h5 : passOk s a <;> by_cases h4 : s.acc.link = 2#8 <;> simp_all [madeP, newWhy]
end
theorem ins_del_set {X : Type} {f : X → Pt} {l : List X} {e : Pt} {x : X} (hs : srt f l) (hp : hasP f l e = true) (hx : f x = e) : ins f (del f l e) x = l.set (low f l e) x := by
 obtain ⟨hl, he, _⟩ := low_yes hs hp
 have hd := del_yes hs hp
 have hlow : low f (del f l e) (f x) = low f l e := by
  rw [hx, hd]
  refine low_stop f (by simp; omega) (fun j hj hji => ?_) (fun hj => ?_)
  ·rw [List.getElem_append_left (by simp; omega), List.getElem_take]
   exact low_lt _ hji
  ·rw [List.getElem_append_right (by simp; omega), List.getElem_drop]
   exact low_ge hs _ (by omega)
 unfold ins
 rw [hlow, hd]
 have h1 : (l.take (low f l e)).length = low f l e := by simp; omega
 rw [List.take_left' h1, List.drop_left' h1, List.set_eq_take_append_cons_drop, if_pos hl]
theorem hasP_mem {X : Type} {f : X → Pt} {l : List X} {e : Pt} : hasP f l e = true ↔ e ∈ l.map f := by
 constructor
 ·intro h
  obtain ⟨x, hx⟩ := Option.isSome_iff_exists.1 h
  obtain ⟨h1, h2⟩ := fnd_mem hx
  exact List.mem_map.2 ⟨x, h1, h2⟩
 ·intro h
  obtain ⟨x, h1, h2⟩ := List.mem_map.1 h
  cases q : hasP f l e
  ·exact absurd h2 (hasP_no q x h1)
  ·rfl
theorem nd_not {seen ps : List Pt} (h : nd seen ps) {e : Pt} (he : e ∈ ps) : e ∉ seen := by
 obtain ⟨i, hi, rfl⟩ := List.mem_iff_getElem.1 he
 exact fun q => h i hi (List.mem_append_left _ q)
theorem apart {s : Stt} (ms : mayS s = true) (e : Pt) : (hasP fS s.seats e = true → hasP fI s.invites e = false ∧ hasP fA s.asks e = false ∧ hasP fB s.bans e = false) ∧ (hasP fI s.invites e = true → hasP fA s.asks e = false ∧ hasP fB s.bans e = false) ∧ (hasP fA s.asks e = true → hasP fB s.bans e = false) := by
 unfold mayS at ms
 simp only [Bool.and_eq_true, riseB_iff] at ms
 obtain ⟨_, ⟨_, h1, _⟩, ⟨_, h2, _⟩, ⟨_, h3, _⟩, ⟨_, h4, _⟩, _⟩ := ms
 have t : ∀ {X : Type} {f : X → Pt} {l : List X}, (hasP f l e = true → False) → hasP f l e = false := fun h => by
  rename_i X f l
  cases q : hasP f l e
  ·rfl
  ·exact (h q).elim
 refine ⟨fun q => ⟨t fun p => ?_, t fun p => ?_, t fun p => ?_⟩, fun q => ⟨t fun p => ?_, t fun p => ?_⟩, fun q => t fun p => ?_⟩ <;> rw [hasP_mem] at p q
 ·exact nd_not h2 p q
 ·exact nd_not h3 p (List.mem_append_left _ q)
 ·exact nd_not h4 p (List.mem_append_left _ (List.mem_append_left _ q))
 ·exact nd_not h3 p (List.mem_append_right _ q)
 ·exact nd_not h4 p (List.mem_append_left _ (List.mem_append_right _ q))
 ·exact nd_not h4 p (List.mem_append_right _ q)
@[simp] theorem eBan_put0 (z : Ban) (c : Ci) : (eBan z).put [0] (eCi c) = some (eBan { z with who := c }) := by simp [eBan, -fold_eBan]
end Go.Vab

/-
  New memory for a state: clones.
-/
namespace Go.Vab
open Go
theorem Chg.app {κ κ' : Nat → Nat} {k : Nat} {H H' l : Heap} (c : Chg κ k (H ++ l) κ' H') (top : ∀ i, H.length ≤ i → κ i = 0) : Chg κ k H κ' H' :=
 ⟨by have := c.len; simp at this; omega, fun i hi => c.old i (by simp; omega), fun i hi h => (c.keep i (by simp; omega) h).trans (List.getElem?_append_left hi), fun _ => c.top fun i hi => top i (by simp at hi; omega)⟩
theorem clone_k {X : Type} {κ : Nat → Nat} {k : Nat} {t : Ty} {E : X → AV} {H : Heap} {x : AV} {l : List X} {bytes : Nat} {z : X} {K : AV × Heap → Prop} (hz : ∀ m, zeroRow m (E z) = .node (List.replicate m (E z))) (top : ∀ i, H.length ≤ i → κ i = 0)
  (hx : mElems t x (H ++ [⟨.node [], 0, .own⟩]) = some (.node (l.map E))) (hl : l.length ≤ 1000) (hb : bytes ≤ 10000) (hK : ∀ x' H' κ', KRow κ' k t E H' x' l → Chg κ k H κ' H' → K (x', H')) :
  appW t bytes (E z) (.slice H.length 0 [] t 0 0 (some 0)) x (H ++ [⟨.node [], 0, .own⟩]) K := by
 have hmul : l.length * bytes ≤ 1000 * 10000 := Nat.mul_le_mul hl hb
 have he : mElems t (.slice H.length 0 [] t 0 0 (some 0)) (H ++ [⟨.node [], 0, .own⟩]) = some (.node []) := by
  have := elems_k (t := t) (E := E) (b := H.length) (off := 0) (n := 0) (c := some 0) (xs := []) (H := H ++ [⟨.node [], 0, .own⟩]) (by simp) (by simp)
  simpa using this
 refine ⟨_, l.length, hx, by simp, _, _, he, rfl, ?_⟩
 by_cases h0 : l.length = 0
 ·have hn : l = [] := List.eq_nil_of_length_eq_zero h0
  subst hn
  refine .inl ⟨rfl, Nat.le_refl _, hK _ _ (fun i => if i = H.length then 8 else κ i) ⟨by simp, .inl ⟨rfl, ⟨he, ⟨rfl, by simp, rfl⟩, by simp⟩, rfl, fun b hb => ?_⟩⟩ ⟨by simp, fun i hi => if_neg (by omega), fun i hi _ => List.getElem?_append_left hi, fun h i hi => ?_⟩⟩
  ·cases hb; exact if_pos rfl
  ·simp only [List.length_append, List.length_singleton] at hi
   exact (if_neg (by omega)).trans (h i (by omega))
 ·refine .inr (.inr ⟨by omega, by omega, by rw [Nat.zero_add]; unfold roomBound; omega, by unfold roomBound; omega, by omega, fun c' row hc' hrow => ?_⟩)
  rw [pad_k hz] at hrow
  cases hrow
  have e1 : [] ++ l.map E ++ List.replicate (c' - (0 + l.length)) (E z) = (l ++ List.replicate (c' - l.length) z).map E := by simp
  rw [e1]
  obtain ⟨g1, g2⟩ := krow_new (k := k) (t := t) (E := E) (κ := κ) (H := H ++ [⟨.node [], 0, .own⟩]) (l := l) (xs := l ++ List.replicate (c' - l.length) z) (c := c') hl (by simp; omega) (by omega) (List.take_left' rfl)
  have := hK _ _ _ g1 (g2.app top)
  simpa using this
theorem Row.fr {κ κ' : Nat → Nat} {H H' : Heap} {t : Ty} {x : AV} {vs : List AV} (r : Row t H x vs) (f : Fr κ H κ' H') (h : ∀ b, rb x = some b → κ b = 0 ∨ 6 ≤ κ b) : Row t H' x vs := r.other fun b hb => f.keep b (r.rb_lt b hb) (h b hb)
theorem BytL.fr {κ κ' : Nat → Nat} {H H' : Heap} {x : AV} {l : Bs} (r : BytL H x l) (f : Fr κ H κ' H') (h : ∀ b, rb x = some b → κ b = 0 ∨ 6 ≤ κ b) : BytL H' x l := r.other fun b hb => f.keep b (r.rb_lt' b hb) (h b hb)
theorem BytO.fr {κ κ' : Nat → Nat} {H H' : Heap} {x : AV} {l : Bs} (r : BytO H x l) (f : Fr κ H κ' H') (h : ∀ b, rb x = some b → κ b = 0 ∨ 6 ≤ κ b) : BytO H' x l := r.other fun b hb => f.keep b (r.rb_lt' b hb) (h b hb)
theorem copyO {h u : Heap} {x : AV} {l : Bs} {k : Nat} {K : AV × Heap → Prop} (h0 : (h ++ u)[k]? = some ⟨.ints .u8 [], 0, .own⟩)
  (hs : mElems (.int .u8) (.slice k 0 [] (.int .u8) 0 0 (some 0)) (h ++ u) = some (.ints .u8 [])) (hx : BytL (h ++ u) x l) (hk : h.length ≤ k)
  (hK : ∀ y e, BytFrom h.length (u ++ e) y l → OwnB (h ++ (u ++ e)) y → K (y, h ++ (u ++ e))) : appW (.int .u8) 1 (u8 0#8) (.slice k 0 [] (.int .u8) 0 0 (some 0)) x (h ++ u) K := by
 have hbd := hx.bound
 have e0 : (AV.ints .u8 []).join (arr l.length (Bs.g l)) = some (arr l.length (Bs.g l)) := by simp [AV.join, arr, bytes]
 refine ⟨arr l.length (Bs.g l), l.length, hx.1.1, arr_rowLen _ _, .ints .u8 [], _, hs, e0, ?_⟩
 by_cases hl : l.length = 0
 ·have hv : l = [] := List.eq_nil_of_length_eq_zero hl
  subst hv
  refine .inl ⟨hl, Nat.le_refl _, ?_⟩
  have := hK (.slice k 0 [] (.int .u8) 0 0 (some 0)) [] (fun F' e hF => ⟨⟨by simpa [arr, bytes] using mElems_behind hF hk hs e, ⟨rfl, Nat.le_refl _, rfl⟩⟩, by simp⟩) fun i hi => by cases hi; exact ⟨0, 0, 0, fun _ => 0#8, rfl, Nat.le_refl _, by simpa [arr, bytes] using h0⟩
  simpa using this
 ·refine .inr (.inr ⟨by omega, by omega, by unfold roomBound; omega, by unfold roomBound; omega, by omega, fun c row hc hr => ?_⟩)
  unfold padRow zeroRow u8 at hr
  simp only [BitVec.toNat_ofNat, Nat.zero_mod, Int.ofNat_zero, Nat.zero_add] at hr
  have hr2 : (arr l.length (Bs.g l)).join (.ints .u8 (List.replicate (c - l.length) 0)) = some row := hr
  rw [strip_arr] at hr2
  cases hr2
  simp only [Nat.zero_add] at hc ⊢
  have := hK _ _ (fresh_fromB (F := h) (u := u) (l := l) (c := c) (m := c - l.length) (by omega) hbd) fun i hi => by
   cases hi
   exact ⟨_, _, l.length + (c - l.length), _, rfl, by omega, by rw [← List.append_assoc, List.getElem?_append_right (Nat.le_refl _), Nat.sub_self]; rfl⟩
  rw [List.append_assoc]
  exact this
structure Wp (κ : Nat → Nat) (H : Heap) (s : Stt) (vt vp vs vi va vb : AV) : Prop where
 top : ∀ i, H.length ≤ i → κ i = 0
 ft : BytO H vt s.title
 fp : BytO H vp s.pass
 kt : ∀ b, rb vt = some b → κ b = 7
 kp : ∀ b, rb vp = some b → κ b = 7
 fs : KRow κ 2 tSeat eSeat H vs s.seats
 fi : KRow κ 3 tInvite eInv H vi s.invites
 fa : KRow κ 4 tAsk eAsk H va s.asks
 fb : KRow κ 5 tBan eBan H vb s.bans
section
variable {κ : Nat → Nat} {H : Heap} {c : Nat} {s : Stt} {vt vp vs vi va vb : AV}
theorem Wk.wp (w : Wk κ H c s vt vp vs vi va vb) : Wp κ H s vt vp vs vi va vb := ⟨w.top, w.ft, w.fp, w.kt, w.kp, w.fs, w.fi, w.fa, w.fb⟩
theorem Wp.str (w : Wp κ H s vt vp vs vi va vb) : StR H s vt vp vs vi va vb := ⟨w.ft.b, w.fp.b, w.fs.row, w.fi.row, w.fa.row, w.fb.row⟩
theorem Wp.own {n : Nat} (w : Wp κ H s vt vp vs vi va vb) (h0 : ∀ i, i < n → κ i = 0) : ∀ y ∈ [vt, vp, vs, vi, va, vb], ∀ b, rb y = some b → n ≤ b := by
 have key : ∀ {b m : Nat}, κ b = m → m ≠ 0 → n ≤ b := fun {b m} h1 h2 => Nat.le_of_not_lt fun hlt => h2 (by rw [← h1]; exact h0 b hlt)
 have row : ∀ {X : Type} {k : Nat} {t : Ty} {E : X → AV} {x : AV} {l : List X} (r : KRow κ k t E H x l), k ≠ 0 → ∀ b, rb x = some b → n ≤ b := fun r hk b hb => by
  rcases r.kind b hb with h | h
  ·exact key h (by decide)
  ·exact key h hk
 intro y hy b hb
 simp only [List.mem_cons, List.not_mem_nil, or_false] at hy
 rcases hy with rfl | rfl | rfl | rfl | rfl | rfl
 ·exact key (w.kt b hb) (by decide)
 ·exact key (w.kp b hb) (by decide)
 ·exact row w.fs (by decide) b hb
 ·exact row w.fi (by decide) b hb
 ·exact row w.fa (by decide) b hb
 ·exact row w.fb (by decide) b hb
theorem Wk.str (w : Wk κ H c s vt vp vs vi va vb) : StR H s vt vp vs vi va vb := w.wp.str
theorem Wp.wr (w : Wp κ H s vt vp vs vi va vb) {p : Nat} (hp : κ p = 6 ∨ κ p = 1) (v : Blk) : Wp κ (H.set p v) s vt vp vs vi va vb := by
 have hg : ∀ i, κ i ≠ 6 ∧ κ i ≠ 1 → (H.set p v)[i]? = H[i]? := fun i hi => List.getElem?_set_ne fun e => by subst e; omega
 have ho : ∀ {k : Nat} i, k < 6 ∧ k ≠ 1 → κ i = 8 ∨ κ i = k → κ i = κ i ∧ (H.set p v)[i]? = H[i]? := fun i h1 h => ⟨rfl, hg i (by rcases h with h | h <;> omega)⟩
 exact ⟨fun i hi => w.top i (by simpa using hi), w.ft.other fun b hb => hg b (by rw [w.kt b hb]; decide), w.fp.other fun b hb => hg b (by rw [w.kp b hb]; decide), w.kt, w.kp,
  w.fs.other fun i _ => ho i (by decide), w.fi.other fun i _ => ho i (by decide), w.fa.other fun i _ => ho i (by decide), w.fb.other fun i _ => ho i (by decide)⟩
theorem Wp.wk (w : Wp κ H s vt vp vs vi va vb) (hc : c < H.length) (kc : κ c = 6) : Wk (fun i => if i = c then 1 else κ i) (H.set c ⟨eSt s vt vp vs vi va vb, 0, .own⟩) c s vt vp vs vi va vb := by
 have hg : ∀ i, κ i ≠ 6 → (if i = c then 1 else κ i) = κ i ∧ (H.set c ⟨eSt s vt vp vs vi va vb, 0, .own⟩)[i]? = H[i]? := fun i hi => by
  have hne : i ≠ c := fun e => by subst e; exact hi kc
  exact ⟨if_neg hne, List.getElem?_set_ne (fun e => hne e.symm)⟩
 have ho : ∀ {k : Nat} i, k < 6 → κ i = 8 ∨ κ i = k → (if i = c then 1 else κ i) = κ i ∧ (H.set c ⟨eSt s vt vp vs vi va vb, 0, .own⟩)[i]? = H[i]? := fun i h1 h => hg i (by rcases h with h | h <;> omega)
 exact ⟨List.getElem?_set_self hc, if_pos rfl, fun i hi => by simp only [List.length_set] at hi; rw [if_neg (by omega)]; exact w.top i hi, w.ft.other fun b hb => (hg b (by rw [w.kt b hb]; decide)).2, w.fp.other fun b hb => (hg b (by rw [w.kp b hb]; decide)).2,
  fun b hb => by rw [(hg b (by rw [w.kt b hb]; decide)).1]; exact w.kt b hb, fun b hb => by rw [(hg b (by rw [w.kp b hb]; decide)).1]; exact w.kp b hb,
  w.fs.other fun i _ => ho i (by decide), w.fi.other fun i _ => ho i (by decide), w.fa.other fun i _ => ho i (by decide), w.fb.other fun i _ => ho i (by decide)⟩
def byt (κ : Nat → Nat) (n m : Nat) : Nat → Nat := fun i => if n ≤ i ∧ i < m then 7 else κ i
theorem byt_old {κ : Nat → Nat} {n m i : Nat} (h : i < n) : byt κ n m i = κ i := if_neg (by omega)
theorem byt_in {κ : Nat → Nat} {n m i : Nat} (h : n ≤ i) (h2 : i < m) : byt κ n m i = 7 := if_pos ⟨h, h2⟩
theorem byt_top {κ : Nat → Nat} {n m i : Nat} (h : m ≤ i) : byt κ n m i = κ i := if_neg (by omega)
theorem Wk.byt (w : Wk κ H c s vt vp vs vi va vb) (l : Heap) : Wk (Go.Vab.byt κ H.length (H ++ l).length) (H ++ l) c s vt vp vs vi va vb := by
 have hg : ∀ i, i < H.length → Go.Vab.byt κ H.length (H ++ l).length i = κ i ∧ (H ++ l)[i]? = H[i]? := fun i hi => ⟨byt_old hi, List.getElem?_append_left hi⟩
 have t1 := w.ft.rb_lt'
 have t2 := w.fp.rb_lt'
 exact ⟨(hg _ w.lt).2.trans w.cell, (hg _ w.lt).1.trans w.kc, fun i hi => by rw [byt_top hi]; exact w.top i (by simp at hi; omega), w.ft.app _, w.fp.app _, fun b hb => by rw [(hg b (t1 b hb)).1]; exact w.kt b hb, fun b hb => by rw [(hg b (t2 b hb)).1]; exact w.kp b hb,
  w.fs.other fun i hi _ => hg i hi, w.fi.other fun i hi _ => hg i hi, w.fa.other fun i hi _ => hg i hi, w.fb.other fun i hi _ => hg i hi⟩
end
theorem Fr.byt {κ : Nat → Nat} {H : Heap} (l : Heap) : Fr κ H (Go.Vab.byt κ H.length (H ++ l).length) (H ++ l) := ⟨by simp, fun i hi => byt_old hi, fun i hi _ => List.getElem?_append_left hi⟩
theorem Fr.kap {κ κ1 κ2 : Nat → Nat} {H H1 : Heap} (a : Fr κ H κ1 H1) (h : ∀ i, i < H.length → κ2 i = κ1 i) : Fr κ H κ2 H1 := ⟨a.len, fun i hi => (h i hi).trans (a.old i hi), a.keep⟩
theorem get_app {H : Heap} {i : Nat} {b : Blk} (h : H[i]? = some b) (l : Heap) : (H ++ l)[i]? = some b := by rw [List.getElem?_append_left (List.getElem?_eq_some_iff.1 h).1]; exact h
theorem get_ne {H : Heap} {i j : Nat} {b : Blk} (h : H[i]? = some b) (hij : j ≠ i) (v : Blk) : (H.set j v)[i]? = some b := by rw [List.getElem?_set_ne hij]; exact h
theorem get_eq {H : Heap} {i : Nat} {b : Blk} (h : H[i]? = some b) (v : Blk) : (H.set i v)[i]? = some v := List.getElem?_set_self (List.getElem?_eq_some_iff.1 h).1
theorem ver_iff (v w : BitVec 32) : (v.setWidth 64 = w.setWidth 64 + 1#64) ↔ ¬ (v = 0#32 ∨ v - 1#32 ≠ w) := by
 have h1 := v.isLt
 have h2 := w.isLt
 have e : v = 0#32 ↔ v.toNat = 0 := ⟨fun h => by rw [h]; rfl, fun h => BitVec.eq_of_toNat_eq h⟩
 have e2 : v - 1#32 = w ↔ (4294967296 - 1 + v.toNat) % 4294967296 = w.toNat := ⟨fun h => by rw [← h, BitVec.toNat_sub]; rfl, fun h => BitVec.eq_of_toNat_eq (by rw [BitVec.toNat_sub]; exact h)⟩
 have e3 : v.setWidth 64 = w.setWidth 64 + 1#64 ↔ v.toNat = w.toNat + 1 := by
  constructor
  ·intro h
   have := congrArg BitVec.toNat h
   rw [BitVec.toNat_add, BitVec.toNat_setWidth, BitVec.toNat_setWidth] at this
   simp only [BitVec.toNat_ofNat] at this
   omega
  ·intro h
   apply BitVec.eq_of_toNat_eq
   rw [BitVec.toNat_add, BitVec.toNat_setWidth, BitVec.toNat_setWidth]
   simp only [BitVec.toNat_ofNat]
   omega
 rw [e3, e, ne_eq, e2]
 omega
end Go.Vab

/-
  A new group; people by a letter; in plain words.
-/
namespace Go.Vab
open Go
abbrev firstS (k : Ci) (t : Bs) (ac : Acc) (p : Bs) (c : Ci) : Stt := ⟨0#32, k, t, ac, p, [⟨c, 2#8, 0#32⟩], [], [], []⟩
def firstP (k : Ci) (t : Bs) (ac : Acc) (p : Bs) (c : Ci) : Except Nat Stt := if mayS (firstS k t ac p c) = true then .ok (firstS k t ac p c) else .error 2
@[simp] theorem fillFirst {k : Ci} {ac : Acc} {vt vp x : AV} : fillRow tState (eStH 0#32 ci0 acc0 .nilslice .nilslice .nilslice .nilslice .nilslice .nilslice) [(1, eCi k), (2, vt), (3, eAcc ac), (4, vp), (5, x)] = if (hasTy vt .cell && (hasTy vp .cell && hasTy x .cell)) = true then some (eStH 0#32 k ac vt vp x .nilslice .nilslice .nilslice) else none := by
 cases h1 : hasTy vt .cell <;> cases h2 : hasTy vp .cell <;> cases h3 : hasTy x .cell <;> simp [fillRow, h1, h2, h3]
def set0 (p : Pt) (c : BitVec 8) : Pt := Pt.of (upd p.g 0 c)
def personP (c : BitVec 8) : Ci := ⟨set0 pt0 c, set0 pt0 (c + 100#8)⟩
def gS : Stt := firstS ci0 [116#8] ⟨2#8, 2#8, 0#8⟩ [] (personP 97#8)
def kA (v : BitVec 32) (c : BitVec 8) : Actn := ⟨v, 1#8, personP c, pt0, 1#8, [], acc0, []⟩
def gT : Stt := ⟨1#32, ci0, [116#8], ⟨2#8, 2#8, 0#8⟩, [], [⟨personP 97#8, 2#8, 0#32⟩, ⟨personP 98#8, 1#8, 1#32⟩], [], [], []⟩
def largeP (s : Stt) (a : Actn) : Bool := decide (400 < s.seats.length + s.invites.length + s.asks.length + s.bans.length) || decide (20000 < s.title.length + s.pass.length + a.title.length + a.pass.length)
theorem first_g : firstP ci0 [116#8] ⟨2#8, 2#8, 0#8⟩ [] (personP 97#8) = .ok gS := by rfl
theorem step_1 : stepP gS (personP 97#8).e (kA 1#32 98#8) = .ok gT := by rfl
theorem step_2 : stepP gT (personP 98#8).e (kA 2#32 99#8) = .error 191 := by rfl
@[simp] theorem put_set0 (p : Pt) (c : BitVec 8) : (pt p).put [0] (u8 c) = some (pt (set0 p c)) := by
 unfold set0
 rw [← arr_pt]
 unfold pt
 rw [arr_put, if_pos (by decide)]
end Go.Vab

/-
  A state in memory of its own may be written over; plainly.
-/
namespace Go.Vab
open Go
@[simp] theorem eCi_p00 (z : Ci) (c : BitVec 8) : (eCi z).put [0, 0] (u8 c) = some (eCi ⟨set0 z.e c, z.f⟩) := by simp [eCi, -fold_eCi]
section
variable {X : Type} {κ : Nat → Nat} {k : Nat} {ts : List Ty} {E : X → AV} {H : Heap} {x : AV} {l : List X}
theorem KRow.wr1 (r : KRow κ k (.struct ts) E H x l) {i : Nat} (hi : i < l.length) : ∃ b v, κ b = k ∧ mIdxS (.struct ts) x (nat i) = some (.ptr b 0 [i] (.struct ts)) ∧ H[b]? = some ⟨v, 0, .own⟩ ∧ (∀ q, v.get (i :: q) = (E l[i]).get q) ∧
  ∀ q w y, (E l[i]).put q w = some (E y) → ∃ v', v.put (i :: q) w = some v' ∧ KRow κ k (.struct ts) E (H.set b ⟨v', 0, .own⟩) x (l.set i y) ∧ Chg κ k H κ (H.set b ⟨v', 0, .own⟩) := by
 obtain ⟨hl, ⟨rfl, _⟩ | ⟨b, c, xs, hk, rfl, hb, hc, h0, ht⟩⟩ := r
 ·exact absurd hi (by simp)
 ·have hle : l.length ≤ xs.length := by
   have := congrArg List.length ht
   rw [List.length_take] at this; omega
  have hx : xs[i]'(by omega) = l[i] := by
   have : (xs.take l.length)[i]? = l[i]? := by rw [ht]
   rw [List.getElem?_take_of_lt hi, List.getElem?_eq_getElem hi, List.getElem?_eq_getElem (show i < xs.length by omega)] at this
   simpa using this
  have hg : (xs.map E)[i]? = some (E l[i]) := by rw [List.getElem?_map, List.getElem?_eq_getElem (show i < xs.length by omega), hx]; rfl
  refine ⟨b, _, hk, by simp [mIdxS, hi], hb, fun q => by rw [get_node, hg]; rfl, fun q w y hp => ⟨.node ((xs.set i y).map E), by rw [put_node, hg, bnd_some, hp, bnd_some, List.map_set], ?_⟩⟩
  have := krow_set (k := k) (t := .struct ts) (E := E) (l := l.set i y) (xs := xs) (xs' := xs.set i y) (c := c) hk hb (by simpa using hl) (by simpa using hc) h0 (by rw [List.length_set, List.take_set, ht])
  rw [List.length_set] at this
  exact this
end
structure Ls (z z' : Stt) : Prop where
 t : z'.title.length = z.title.length
 p : z'.pass.length = z.pass.length
 s : z'.seats.length = z.seats.length
 i : z'.invites.length = z.invites.length
 a : z'.asks.length = z.asks.length
 b : z'.bans.length = z.bans.length
structure Sp (κ : Nat → Nat) (H0 H : Heap) (z : Stt) (vt vp vs vi va vb : AV) : Prop where
 w : ∃ z', Wp κ H z' vt vp vs vi va vb ∧ Ls z z'
 len : H.length = H0.length
 keep : ∀ i, κ i = 0 → H[i]? = H0[i]?
section
variable {κ : Nat → Nat} {H0 H : Heap} {z : Stt} {vt vp vs vi va vb : AV}
theorem Sp.refl (w : Wp κ H z vt vp vs vi va vb) : Sp κ H H z vt vp vs vi va vb := ⟨⟨z, w, rfl, rfl, rfl, rfl, rfl, rfl⟩, rfl, fun _ _ => rfl⟩
theorem Sp.next {b k : Nat} {v : Blk} (sp : Sp κ H0 H z vt vp vs vi va vb) (hk : κ b = k) (h0 : k ≠ 0) (h : ∃ z', Wp κ (H.set b v) z' vt vp vs vi va vb ∧ Ls z z') : Sp κ H0 (H.set b v) z vt vp vs vi va vb :=
 ⟨h, by rw [List.length_set]; exact sp.len, fun i hi => by rw [List.getElem?_set_ne fun e => by rw [← e] at hi; omega]; exact sp.keep i hi⟩
theorem Sp.out {b : Nat} {v : AV} (sp : Sp κ H0 H z vt vp vs vi va vb) (hb : H[b]? = some ⟨v, 0, .own⟩) (c : Blk) : (∀ l, blkAt (H ++ l) b 0 = some ⟨v, 0, .own⟩) ∧ ∀ w l, (H ++ l).set b w = H.set b w ++ l := ⟨fun l => blkAt_app (blk_of hb) l, fun w l => set_appL hb l w⟩
def Wr1 (κ : Nat → Nat) (H0 H : Heap) (z : Stt) (vt vp vs vi va vb x : AV) (T : Ty) (i : Nat) (q : List Nat) (mk : Nat → AV) : Prop :=
 ∃ b v n, mIdxS T x (nat i) = some (.ptr b 0 [i] T) ∧ (∀ l, blkAt (H ++ l) b 0 = some ⟨v, 0, .own⟩) ∧ (∀ w l, (H ++ l).set b w = H.set b w ++ l) ∧ v.get (i :: q) = some (mk n) ∧
  ∀ m, ∃ v', v.put (i :: q) (mk m) = some v' ∧ Sp κ H0 (H.set b ⟨v', 0, .own⟩) z vt vp vs vi va vb
def m8 (n : Nat) : AV := u8 (BitVec.ofNat 8 n)
def m32 (n : Nat) : AV := u32 (BitVec.ofNat 32 n)
theorem m8_of (x : BitVec 8) : u8 x = m8 x.toNat := by simp [m8]
theorem m32_of (x : BitVec 32) : u32 x = m32 x.toNat := by simp [m32]
theorem m8_add (n : Nat) : mBin .add (m8 n) (u8 1#8) = some (m8 (n + 1)) := by simp [m8, BitVec.ofNat_add]
theorem m32_add (n : Nat) : mBin .add (m32 n) (u32 1#32) = some (m32 (n + 1)) := by simp [m32, BitVec.ofNat_add]
@[simp] theorem m8_ty (n : Nat) : hasTy (m8 n) (.int .u8) = true := rfl
@[simp] theorem m32_ty (n : Nat) : hasTy (m32 n) (.int .u32) = true := rfl
theorem Wp.rest {κ' : Nat → Nat} {H' : Heap} {k : Nat} {s : Stt} (w : Wp κ H s vt vp vs vi va vb) (h : Chg κ k H κ' H') (hk : 2 ≤ k) (h6 : k < 6 := by decide) : (∀ i, H'.length ≤ i → κ' i = 0) ∧ BytO H' vt s.title ∧ BytO H' vp s.pass ∧ (∀ b, rb vt = some b → κ' b = 7) ∧ (∀ b, rb vp = some b → κ' b = 7) ∧
  (k ≠ 2 → KRow κ' 2 tSeat eSeat H' vs s.seats) ∧ (k ≠ 3 → KRow κ' 3 tInvite eInv H' vi s.invites) ∧ (k ≠ 4 → KRow κ' 4 tAsk eAsk H' va s.asks) ∧ (k ≠ 5 → KRow κ' 5 tBan eBan H' vb s.bans) := by
 have t1 := w.ft.rb_lt'
 have t2 := w.fp.rb_lt'
 exact ⟨h.top w.top, w.ft.other fun b hb => h.keep b (t1 b hb) (by rw [w.kt b hb]; omega), w.fp.other fun b hb => h.keep b (t2 b hb) (by rw [w.kp b hb]; omega),
  fun b hb => (h.old b (t1 b hb)).trans (w.kt b hb), fun b hb => (h.old b (t2 b hb)).trans (w.kp b hb), fun q => w.fs.chg h (by omega) (by omega), fun q => w.fi.chg h (by omega) (by omega), fun q => w.fa.chg h (by omega) (by omega), fun q => w.fb.chg h (by omega) (by omega)⟩
theorem Sp.inv (sp : Sp κ H0 H z vt vp vs vi va vb) {i : Nat} (hi : i < z.invites.length) : Wr1 κ H0 H z vt vp vs vi va vb vi tInvite i [2, 0, 0] m8 := by
 obtain ⟨z', w, ls⟩ := sp.w
 have hi' : i < z'.invites.length := by rw [ls.i]; exact hi
 obtain ⟨b, v, hk, h1, hb, hg, hp⟩ := w.fi.wr1 hi'
 obtain ⟨o1, o2⟩ := sp.out hb ⟨v, 0, .own⟩
 refine ⟨b, v, _, h1, o1, o2, by rw [hg, ← m8_of]; simp; rfl, fun m => ?_⟩
 obtain ⟨y, hy⟩ : ∃ y : Inv, y = { z'.invites[i] with by_ := ⟨set0 z'.invites[i].by_.e (BitVec.ofNat 8 m), z'.invites[i].by_.f⟩ } := ⟨_, rfl⟩
 obtain ⟨v', p1, p2, p3⟩ := hp [2, 0, 0] (m8 m) y (by rw [hy]; simp [m8, eInv, -fold_eInv])
 obtain ⟨h3, h4, h5, h6, h7, g2, g3, g4, g5⟩ := w.rest p3 (by decide)
 exact ⟨v', p1, sp.next hk (by decide) ⟨{ z' with invites := z'.invites.set i y }, ⟨h3, h4, h5, h6, h7, g2 (by decide), p2, g4 (by decide), g5 (by decide)⟩, ls.t, ls.p, ls.s, by simpa using ls.i, ls.a, ls.b⟩⟩
theorem Sp.bn (sp : Sp κ H0 H z vt vp vs vi va vb) {i : Nat} (hi : i < z.bans.length) : Wr1 κ H0 H z vt vp vs vi va vb vb tBan i [1, 0, 0] m8 := by
 obtain ⟨z', w, ls⟩ := sp.w
 have hi' : i < z'.bans.length := by rw [ls.b]; exact hi
 obtain ⟨b, v, hk, h1, hb, hg, hp⟩ := w.fb.wr1 hi'
 obtain ⟨o1, o2⟩ := sp.out hb ⟨v, 0, .own⟩
 refine ⟨b, v, _, h1, o1, o2, by rw [hg, ← m8_of]; simp; rfl, fun m => ?_⟩
 obtain ⟨y, hy⟩ : ∃ y : Ban, y = { z'.bans[i] with by_ := ⟨set0 z'.bans[i].by_.e (BitVec.ofNat 8 m), z'.bans[i].by_.f⟩ } := ⟨_, rfl⟩
 obtain ⟨v', p1, p2, p3⟩ := hp [1, 0, 0] (m8 m) y (by rw [hy]; simp [m8, eBan, -fold_eBan])
 obtain ⟨h3, h4, h5, h6, h7, g2, g3, g4, g5⟩ := w.rest p3 (by decide)
 exact ⟨v', p1, sp.next hk (by decide) ⟨{ z' with bans := z'.bans.set i y }, ⟨h3, h4, h5, h6, h7, g2 (by decide), g3 (by decide), g4 (by decide), p2⟩, ls.t, ls.p, ls.s, ls.i, ls.a, by simpa using ls.b⟩⟩
theorem Sp.st (sp : Sp κ H0 H z vt vp vs vi va vb) {i : Nat} (hi : i < z.seats.length) : Wr1 κ H0 H z vt vp vs vi va vb vs tSeat i [2] m32 := by
 obtain ⟨z', w, ls⟩ := sp.w
 have hi' : i < z'.seats.length := by rw [ls.s]; exact hi
 obtain ⟨b, v, hk, h1, hb, hg, hp⟩ := w.fs.wr1 hi'
 obtain ⟨o1, o2⟩ := sp.out hb ⟨v, 0, .own⟩
 refine ⟨b, v, _, h1, o1, o2, by rw [hg, ← m32_of]; simp; rfl, fun m => ?_⟩
 obtain ⟨y, hy⟩ : ∃ y : Seat, y = { z'.seats[i] with joined := BitVec.ofNat 32 m } := ⟨_, rfl⟩
 obtain ⟨v', p1, p2, p3⟩ := hp [2] (m32 m) y (by rw [hy]; simp [m32, eSeat, -fold_eSeat])
 obtain ⟨h3, h4, h5, h6, h7, g2, g3, g4, g5⟩ := w.rest p3 (by decide)
 exact ⟨v', p1, sp.next hk (by decide) ⟨{ z' with seats := z'.seats.set i y }, ⟨h3, h4, h5, h6, h7, p2, g3 (by decide), g4 (by decide), g5 (by decide)⟩, ls.t, ls.p, by simpa using ls.s, ls.i, ls.a, ls.b⟩⟩
theorem Sp.ak (sp : Sp κ H0 H z vt vp vs vi va vb) {i : Nat} (hi : i < z.asks.length) : Wr1 κ H0 H z vt vp vs vi va vb va tAsk i [1] m32 := by
 obtain ⟨z', w, ls⟩ := sp.w
 have hi' : i < z'.asks.length := by rw [ls.a]; exact hi
 obtain ⟨b, v, hk, h1, hb, hg, hp⟩ := w.fa.wr1 hi'
 obtain ⟨o1, o2⟩ := sp.out hb ⟨v, 0, .own⟩
 refine ⟨b, v, _, h1, o1, o2, by rw [hg, ← m32_of]; simp; rfl, fun m => ?_⟩
 obtain ⟨y, hy⟩ : ∃ y : Ask, y = { z'.asks[i] with at_ := BitVec.ofNat 32 m } := ⟨_, rfl⟩
 obtain ⟨v', p1, p2, p3⟩ := hp [1] (m32 m) y (by rw [hy]; simp [m32, eAsk, -fold_eAsk])
 obtain ⟨h3, h4, h5, h6, h7, g2, g3, g4, g5⟩ := w.rest p3 (by decide)
 exact ⟨v', p1, sp.next hk (by decide) ⟨{ z' with asks := z'.asks.set i y }, ⟨h3, h4, h5, h6, h7, g2 (by decide), g3 (by decide), p2, g5 (by decide)⟩, ls.t, ls.p, ls.s, ls.i, by simpa using ls.a, ls.b⟩⟩
theorem byt_own' {h : Heap} {i n m c : Nat} {f : Nat → BitVec 8} (hb : blkAt h i 0 = some ⟨arr m f, 0, .own⟩) (hl : n ≤ m) (hc : n ≤ c) : Byt h (.slice i 0 [] (.int .u8) 0 n (some c)) n f := by
 refine ⟨?_, rfl, hc, rfl⟩
 rw [mElems_slc, hb, bnd_some, get_nil, bnd_some, arr_cut, if_pos (by omega)]
 exact congrArg some (arr_congr fun i _ => by rw [Nat.zero_add])
theorem BytO.wr1 {x : AV} {l : Bs} (r : BytO H x l) {i : Nat} (hi : i < l.length) : ∃ b m g, rb x = some b ∧ mIdxS (.int .u8) x (nat i) = some (.ptr b 0 [i] (.int .u8)) ∧ H[b]? = some ⟨arr m g, 0, .own⟩ ∧ i < m ∧ ∀ g', ∃ l', l'.length = l.length ∧ BytO (H.set b ⟨arr m g', 0, .own⟩) x l' := by
 obtain ⟨hb, ho⟩ := r
 have h2 := hb.1.2
 have hbd := hb.2
 cases x with
 | nilslice => exact absurd hi (by rw [show l.length = 0 from h2]; omega)
 | slice j ver path t off len cap =>
  obtain ⟨n, c, m, g, e, hn, hj⟩ := ho j rfl
  cases e
  obtain ⟨e1, e2, -⟩ := h2
  subst e1
  have hlt := (List.getElem?_eq_some_iff.1 hj).1
  refine ⟨j, m, g, rfl, by simp [mIdxS, hi], hj, by omega, fun g' => ⟨(List.range l.length).map g', by simp, ?_, fun k hk => ?_⟩⟩
  ·exact BytL.of (byt_own' (blk_of (List.getElem?_set_self hlt)) hn e2) hbd
  ·cases hk
   exact ⟨_, _, m, g', rfl, hn, List.getElem?_set_self hlt⟩
 | _ => unfold slOk at h2; simp at h2
theorem Wp.bytes {s : Stt} {b : Nat} {v : Blk} (w : Wp κ H s vt vp vs vi va vb) (hk : κ b = 7) : (∀ i, (H.set b v).length ≤ i → κ i = 0) ∧ KRow κ 2 tSeat eSeat (H.set b v) vs s.seats ∧ KRow κ 3 tInvite eInv (H.set b v) vi s.invites ∧ KRow κ 4 tAsk eAsk (H.set b v) va s.asks ∧ KRow κ 5 tBan eBan (H.set b v) vb s.bans := by
 have ho : ∀ {k : Nat} i, k < 6 → κ i = 8 ∨ κ i = k → κ i = κ i ∧ (H.set b v)[i]? = H[i]? := fun i h1 h => ⟨rfl, List.getElem?_set_ne fun e => by subst e; omega⟩
 exact ⟨fun i hi => w.top i (by simpa using hi), w.fs.other fun i _ => ho i (by decide), w.fi.other fun i _ => ho i (by decide), w.fa.other fun i _ => ho i (by decide), w.fb.other fun i _ => ho i (by decide)⟩
theorem BytO.beside {x : AV} {l : Bs} (r : BytO H x l) {b m : Nat} {g g' : Nat → BitVec 8} (hb : H[b]? = some ⟨arr m g, 0, .own⟩) : ∃ l', l'.length = l.length ∧ BytO (H.set b ⟨arr m g', 0, .own⟩) x l' := by
 by_cases h : rb x = some b
 ·obtain ⟨hb2, ho⟩ := r
  have h2 := hb2.1.2
  obtain ⟨n, c, m', g2, e, hn, hj⟩ := ho b h
  subst e
  obtain ⟨e1, e2, -⟩ := h2
  subst e1
  rw [hb] at hj
  have hm : m = m' := by
   have := congrArg (fun o : Option Blk => o.map fun c => match c.v with | .ints _ xs => xs.length | _ => 0) hj
   simpa [arr, bytes] using this
  subst hm
  have hlt := (List.getElem?_eq_some_iff.1 hb).1
  refine ⟨(List.range l.length).map g', by simp, BytL.of (byt_own' (blk_of (List.getElem?_set_self hlt)) hn e2) hb2.2, fun k hk => ?_⟩
  cases hk
  exact ⟨_, _, m, g', rfl, hn, List.getElem?_set_self hlt⟩
 ·exact ⟨l, rfl, r.other fun i hi => List.getElem?_set_ne fun e => by subst e; exact h hi⟩
theorem Sp.ttl (sp : Sp κ H0 H z vt vp vs vi va vb) {i : Nat} (hi : i < z.title.length) : Wr1 κ H0 H z vt vp vs vi va vb vt (.int .u8) i [] m8 := by
 obtain ⟨z', w, ls⟩ := sp.w
 obtain ⟨b, m, g, hr, h1, hb, hm, hp⟩ := w.ft.wr1 (i := i) (by rw [ls.t]; exact hi)
 obtain ⟨o1, o2⟩ := sp.out hb ⟨.nilptr, 0, .own⟩
 have hk := w.kt b hr
 refine ⟨b, _, _, h1, o1, o2, by rw [arr_get, if_pos hm, m8_of], fun n => ⟨_, by unfold m8; rw [arr_put, if_pos hm], sp.next hk (by decide) ?_⟩⟩
 obtain ⟨l', q1, q2⟩ := hp (upd g i (BitVec.ofNat 8 n))
 obtain ⟨l2, q3, q4⟩ := w.fp.beside (g' := upd g i (BitVec.ofNat 8 n)) hb
 obtain ⟨t1, g2, g3, g4, g5⟩ := w.bytes (v := ⟨arr m (upd g i (BitVec.ofNat 8 n)), 0, .own⟩) hk
 exact ⟨{ z' with title := l', pass := l2 }, ⟨t1, q2, q4, w.kt, w.kp, g2, g3, g4, g5⟩, q1.trans ls.t, q3.trans ls.p, ls.s, ls.i, ls.a, ls.b⟩
theorem Sp.psw (sp : Sp κ H0 H z vt vp vs vi va vb) {i : Nat} (hi : i < z.pass.length) : Wr1 κ H0 H z vt vp vs vi va vb vp (.int .u8) i [] m8 := by
 obtain ⟨z', w, ls⟩ := sp.w
 obtain ⟨b, m, g, hr, h1, hb, hm, hp⟩ := w.fp.wr1 (i := i) (by rw [ls.p]; exact hi)
 obtain ⟨o1, o2⟩ := sp.out hb ⟨.nilptr, 0, .own⟩
 have hk := w.kp b hr
 refine ⟨b, _, _, h1, o1, o2, by rw [arr_get, if_pos hm, m8_of], fun n => ⟨_, by unfold m8; rw [arr_put, if_pos hm], sp.next hk (by decide) ?_⟩⟩
 obtain ⟨l', q1, q2⟩ := hp (upd g i (BitVec.ofNat 8 n))
 obtain ⟨l2, q3, q4⟩ := w.ft.beside (g' := upd g i (BitVec.ofNat 8 n)) hb
 obtain ⟨t1, g2, g3, g4, g5⟩ := w.bytes (v := ⟨arr m (upd g i (BitVec.ofNat 8 n)), 0, .own⟩) hk
 exact ⟨{ z' with title := l2, pass := l' }, ⟨t1, q4, q2, w.kt, w.kp, g2, g3, g4, g5⟩, q3.trans ls.t, q1.trans ls.p, ls.s, ls.i, ls.a, ls.b⟩
end
end Go.Vab

/-
  Functions without a body: slices.overlaps at two blocks. (It may draw; what it answers is left open.)
-/
namespace Go.Vab
open Go
theorem run_mayBe {P : Program} (w : World) (a b : Addr) (tA tB : TypeId) (kA kB : Nat) (hsa : w.shape? a.block = some (tA, kA)) (hsb : w.shape? b.block = some (tB, kB)) : ∃ m, (mayBeOne a b).run P w = .ok m w := by
 have hs : ∀ (x : Addr) (t : TypeId) (k : Nat), w.shape? x.block = some (t, k) → ∃ m, (stringish x).run P w = .ok m w := by
  intro x t k h
  cases h1 : w.frozen? x
  ·exact ⟨_, by simp [stringish, frozen, shape, Sem.run, h1, h]; rfl⟩
  ·exact ⟨_, by simp [stringish, frozen, shape, Sem.run, h1, h]; rfl⟩
 obtain ⟨sa, ha⟩ := hs a tA kA hsa
 obtain ⟨sb, hb⟩ := hs b tB kB hsb
 unfold mayBeOne
 simp only [Sem.run_bind, ha, hb, Result.andThen_ok]
 exact ⟨_, by simp [shape, Sem.run, hsa, hsb]; rfl⟩
theorem run_overlaps_any {P : Program} (w : World) (tS tR e : TypeId) (ht : P.underlying tS = some (.slice e)) (size : Nat) (hz : ∀ w, (Go.sizeOf e).run P w = .ok size w)
  (a b : Addr) (la ca lb cb : Nat) (hne : a.block ≠ b.block) (tA tB : TypeId) (kA kB : Nat) (hsa : w.shape? a.block = some (tA, kA)) (hsb : w.shape? b.block = some (tB, kB)) (hfa : w.frozen? a = false) :
  ∃ v w', (Extern.SlicesOverlaps.overlaps #[tS, tS] #[tR] #[.slice (some a) la ca, .slice (some b) lb cb]).run P w = .ok (.bool v) w' ∧ w'.heap = w.heap ∧ Io w w' := by
 have hnb : (a.block != b.block) = true := by simpa using hne
 have hnb' : (a.block == b.block) = false := by simpa using hne
 obtain ⟨m, hm⟩ := run_mayBe (P := P) w a b tA tB kA kB hsa hsb
 change ∃ v w', Sem.run P (α := Value) (do
  let some t := (#[tS, tS] : Array TypeId)[0]? | stuck "slices.overlaps: no parameter types"
  let .slice elem ← underlying t | stuck "slices.overlaps: slice type expected"
  let size ← sizeOf elem
  match (some a : Option Addr), (some b : Option Addr) with
  | some a, some b =>
   if la = 0 ∨ lb = 0 ∨ size = 0 then pure (Value.bool false)
   else if a.block != b.block && (← frozen a) && (← frozen b) then unsupported .addressObserved
   else do
    if a.block != b.block then do
     noView a; noView b
     if ← mayBeOne a b then return Value.bool ((← choose (.extern "sameAddr.stringBytes" 2)) == 1)
    pure (Value.bool (a.block == b.block && a.off < b.off + lb * size && b.off < a.off + la * size))
  | _, _ => pure (Value.bool false)) w = _ ∧ _
 by_cases h0 : la = 0 ∨ lb = 0 ∨ size = 0
 ·exact ⟨false, w, by simp [run_underlying ht, hz, h0], rfl, Io.refl w⟩
 ·cases m
  ·refine ⟨false, w, ?_, rfl, Io.refl w⟩
   simp [run_underlying ht, hz, h0, hnb, hnb', frozen, noView, viewAt, hm, shape, Sem.run, hsa, hsb, hfa]
  ·refine ⟨(Question.extern "sameAddr.stringBytes" 2).cut (w.tape w.drawn (.extern "sameAddr.stringBytes" 2)) == 1, { w with drawn := w.drawn + 1 }, ?_, rfl, rfl, rfl, rfl⟩
   have hq : (Question.extern "sameAddr.stringBytes" 2).forced = false := rfl
   simp [run_underlying ht, hz, h0, hnb, hnb', frozen, noView, viewAt, hm, shape, Sem.run, hsa, hsb, hfa, hq]
theorem RelHeap.heap {E : Gh} {h : Heap} {w w' : World} (R : RelHeap E h w) (e : w'.heap = w.heap) : RelHeap E h w' :=
 ⟨R.n, fun i b hi => ⟨(R.at_ i b hi).ver, (R.at_ i b hi).fits, fun hm => ((R.at_ i b hi).mp hm).same (by rw [e]), fun hm => by rw [e]; exact (R.at_ i b hi).body hm, (R.at_ i b hi).grow⟩, R.inj⟩
theorem Moves.heap {E : Gh} {h : Heap} {w w' : World} (R : RelHeap E h w) (e : w'.heap = w.heap) (hio : Io w w') : Moves E h w E h w' :=
 ⟨Ext.refl E, R.heap e, by rw [e]; exact Nat.le_refl _, fun _ _ _ => by rw [e], fun _ hx => .inl hx, hio⟩
theorem slice_addr {P : Program} {E : Gh} {h : Heap} {w : World} (R : RelHeap E h w) {b off n c : Nat} {t : Ty} {v r : AV} {y : Value} (hb : h[b]? = some ⟨v, 0, .own⟩) (he : mElems t (.slice b 0 [] t off n (some c)) h = some r) (hx : VRel E (.slice b 0 [] t off n (some c)) y) (hn : n ≠ 0) (ht : t.size ≠ 0) :
  ∃ a m te k, y = .slice (some a) n m ∧ a.block = E.blk b ∧ w.shape? a.block = some (te, k) ∧ w.frozen? a = false := by
 obtain ⟨a, m, l, e1, hl, hll, hc⟩ := elems_cells R he hx
 have hver : (0 : Nat) = E.ver b := (R.at_ b _ hb).ver
 simp only [VRel] at hx
 obtain ⟨a', m', e2, hi, hv, hlen, hcap, hcn, hs⟩ := hx
 rw [e1] at e2
 injection e2 with q1 q2 q3
 injection q1 with q1
 subst q1; subst q3
 obtain ⟨o, k, hsub, ha, hroom⟩ := hs hver
 have hbk : a.block = E.blk b := by rw [ha (by omega)]
 have hl0 : 0 < l.length := by rw [hll]; exact Nat.mul_pos (by omega) (by omega)
 have hcell : w.cell? a = some l[0] := by
  have := hc 0 l[0] (List.getElem?_eq_getElem hl0)
  simpa [Addr.add] using this
 obtain ⟨te, k2, hsh, hlt, hsp⟩ := World.shape?_of_cell? hcell
 refine ⟨a, m, te, k2, e1, hbk, hsh, ?_⟩
 obtain ⟨l2, _, hp, _⟩ := (R.at_ b _ hb).body (by simp)
 obtain ⟨arr, te2, fr, pre, post, hh, _, _, hfr⟩ := hp (by intro q; exact absurd q.1 (by simp))
 obtain ⟨_, _, hno⟩ := hfr (by simp)
 unfold World.shape? at hsh
 rw [hbk, hh] at hsh
 simp only [Option.some.injEq, Prod.mk.injEq] at hsh
 unfold World.frozen?
 rw [hbk, hh]
 have := hno a.off (by omega)
 obtain ⟨lo, hi'⟩ := fr
 simp only at this ⊢
 simp only [Bool.and_eq_false_iff, decide_eq_false_iff_not]
 by_cases h1 : lo ≤ a.off
 ·exact .inr fun h2 => this ⟨h1, h2⟩
 ·exact .inl h1
theorem ovl_spec {P : Program} {tt : Nat → Option TI} (T : TTok P tt) {f : Nat} {fn : Func} (hf : P.funcs[f]? = some fn) (hname : (fn.name == "runtime.NumGoroutine") = false) (hb : fn.body.isNone = true) (hn : Extern.findNext fn = none) {tS tR e : Nat} {i j : TI} (hfind : Extern.find fn = some (Extern.SlicesOverlaps.overlaps #[tS, tS] #[tR]))
  (hti : tt tS = some i) (hel : i.elem = some e) (hj : tt e = some j) {h : Heap} {t : Ty} {b1 b2 o1 n1 c1 o2 n2 c2 : Nat} {v1 v2 r1 r2 : AV} (hb1 : h[b1]? = some ⟨v1, 0, .own⟩) (hb2 : h[b2]? = some ⟨v2, 0, .own⟩) (hne : b1 ≠ b2)
  (e1 : mElems t (.slice b1 0 [] t o1 n1 (some c1)) h = some r1) (e2 : mElems t (.slice b2 0 [] t o2 n2 (some c2)) h = some r2) (h1 : n1 ≠ 0) (h2 : n2 ≠ 0) (ht : t.size ≠ 0) :
  SpecQ P f [.slice b1 0 [] t o1 n1 (some c1), .slice b2 0 [] t o2 n2 (some c2)] h fun r => ∃ v, r = (.bool v, h) := by
 intro E w xs R hxs
 rw [VRc] at hxs
 obtain ⟨vx, xs1, rfl, hx1, hxs⟩ := hxs
 rw [VRc] at hxs
 obtain ⟨vy, xs2, rfl, hx2, hxs⟩ := hxs
 rw [VRc] at hxs
 subst hxs
 obtain ⟨a1, m1, te1, k1, rfl, ha1, hs1, hf1⟩ := slice_addr (P := P) R hb1 e1 hx1 h1 ht
 obtain ⟨a2, m2, te2, k2, rfl, ha2, hs2, hf2⟩ := slice_addr (P := P) R hb2 e2 hx2 h2 ht
 have hab : a1.block ≠ a2.block := by
  rw [ha1, ha2]
  exact fun q => hne (R.inj b1 b2 _ _ hb1 hb2 (by intro q; exact absurd q.1 (by simp)) ⟨by simp, by intro q; exact absurd q.1 (by simp)⟩ q)
 obtain ⟨v, w', hr, hh, hio⟩ := run_overlaps_any (P := P) w tS tR e (T.elem _ _ _ hti hel).1 _ (fun w => run_sizeOf_tt T hj w) a1 a2 n1 m1 n2 m2 hab te1 te2 k1 k2 hs1 hs2 hf1
 refine .inr ⟨.bool v, w', (.bool v, h), E, ?_, ⟨v, rfl⟩, by simp only [VRel], Moves.heap R hh hio⟩
 rw [run_callFunc_extern hf hname hb hn hfind]
 rw [hr]
 rfl
end Go.Vab

/-
  How code is read, found by the elaborator: the equation of a node of code, with nothing printed. What stands on its right side is made by rewriting.
-/
namespace Go.Vab
open Go
theorem dstOf_0 (o : Oper) (l : List Oper) : dstOf (o :: l) 0 = o.dst := rfl
theorem dstOf_s (o : Oper) (l : List Oper) (n : Nat) : dstOf (o :: l) (n + 1) = dstOf l n := rfl
theorem look_hit (env loc : Env) (t : Nat) (v : AV) : look ((t, v) :: loc) env t = v := by simp [look, Env.has, Env.get]
theorem look_miss (env loc : Env) (t d : Nat) (v : AV) (h : (t == d) = false) : look ((d, v) :: loc) env t = look loc env t := by
 have h' : t ≠ d := by simpa using h
 simp [look, Env.has, Env.get, h']
theorem commit_v (vol : List Nat) (loc env : Env) (t : Nat) (v : AV) (h : vol.contains t = true) : commit vol ((t, v) :: loc) env = commit vol loc env := by simp only [commit, h, if_true]
theorem commit_k (vol : List Nat) (loc env : Env) (t : Nat) (v : AV) (h : vol.contains t = false) : commit vol ((t, v) :: loc) env = Env.put (commit vol loc env) t v := by simp only [commit, h]; rfl
theorem commit_0 (vol : List Nat) (env : Env) : commit vol [] env = env := rfl
section
variable {P : Program} {C : Ctx} {V : Operand → AV} {h : Heap}
theorem w_call {f : Operand} {args : Array Operand} {ats : Array TypeId} : opW P C V h (.call { callee := .value f, args := args, argTypes := ats }) = fnA P (V f) (args.toList.map V) h := by
 funext K
 simp only [opW, fnA, fnW]
 cases V f <;> rfl
theorem fnA_fn {g : Nat} {args : List AV} : fnA P (.fn g []) args h = SpecA P g args h := by
 funext K
 simp only [fnA, fnW, SpecA, List.append_nil]
theorem w_bi {b : Builtin} {args : Array Operand} {ats : Array TypeId} : opW P C V h (.call { callee := .builtin b, args := args, argTypes := ats }) = bW C b ats (args.toList.map V) h := rfl
theorem w_mm {t : TypeId} : opW P C V h (.makeMap t none) = Evs (ifT P t (mMkMap h)) := rfl
theorem w_lk {t : TypeId} {m k : Operand} : opW P C V h (.lookup t m k false) = Evs (pureV h (ifT P t (mLook (V m) (V k) h))) := rfl
theorem w_mu {t : TypeId} {m k x : Operand} : opW P C V h (.mapUpdate t m k x) = Evs (ifT P t (mUpd (V m) (V k) (V x) h)) := rfl
theorem w_cv {f t : TypeId} {x : Operand} : opW P C V h (.convert f t x) = if f = t ∧ rowT C f = true then Evs (ifY P f (mMark (V x) h)) else Evs (evOp C false V h (.convert f t x)) := rfl
section
variable {a b c d x y z : Operand} {t u : TypeId} {ps : Array (Nat × Operand)} {n : Nat} {o o1 o2 : Option Operand} {cs fs : Array Operand}
theorem w_1 : opW P C V h (.move x) = Evs (some (V x, h)) := rfl
theorem w_2 : opW P C V h (.assign x) = Evs (some (V x, h)) := rfl
theorem w_3 : opW P C V h (.pick a b c) = Evs (pureV h (mPick (V a) (V b) (V c))) := rfl
theorem w_4 : opW P C V h (.alloc t) = Evs (evOp C false V h (.alloc t)) := rfl
theorem w_5 : opW P C V h (.box t x) = Evs (evOp C false V h (.box t x)) := rfl
theorem w_6 : opW P C V h (.build t ps) = Evs (evOp C false V h (.build t ps)) := rfl
theorem w_7 : opW P C V h (.buildSlice t n ps) = Evs (evOp C false V h (.buildSlice t n ps)) := rfl
theorem w_8 : opW P C V h (.load t x) = Evs (evOp C false V h (.load t x)) := rfl
theorem w_9 : opW P C V h (.store t x y) = Evs (evOp C false V h (.store t x y)) := rfl
theorem w_10 : opW P C V h (.nilCheck x) = Evs (pureV h (mNilCheck (V x))) := rfl
theorem w_11 {q : BinOp} : opW P C V h (.binOp q t x y u) = Evs (evOp C false V h (.binOp q t x y u)) := rfl
theorem w_12 {q : UnOp} : opW P C V h (.unOp q t x) = Evs (pureV h (mUn q (V x))) := rfl
theorem w_13 : opW P C V h (.sliceToArrayPointer t x) = Evs (evOp C false V h (.sliceToArrayPointer t x)) := rfl
theorem w_14 {f : Fn} : opW P C V h (.makeFunc f fs cs) = Evs (evOp C false V h (.makeFunc f fs cs)) := rfl
theorem w_15 : opW P C V h (.makeSlice t x y) = Evs (evOp C false V h (.makeSlice t x y)) := rfl
theorem w_16 : opW P C V h (.slice t x o o1 o2) = Evs (evOp C false V h (.slice t x o o1 o2)) := rfl
theorem w_17 : opW P C V h (.fieldAddr t x n) = Evs (evOp C false V h (.fieldAddr t x n)) := rfl
theorem w_18 : opW P C V h (.field t x n) = Evs (evOp C false V h (.field t x n)) := rfl
theorem w_19 : opW P C V h (.indexAddr t x y) = Evs (evOp C false V h (.indexAddr t x y)) := rfl
theorem w_20 : opW P C V h (.index t x y) = Evs (evOp C false V h (.index t x y)) := rfl
theorem w_21 : opW P C V h (.extract x n) = Evs (pureV h (mExtract (V x) n)) := rfl
end
end
def w_s := aI @w_call (aI @fnA_fn (aI @w_bi (aI @w_mm (aI @w_lk (aI @w_mu (aI @w_cv (aI @w_1 (aI @w_2 (aI @w_3 (aI @w_4 (aI @w_5 (aI @w_6 (aI @w_7 (aI @w_8 (aI @w_9 (aI @w_10 (aI @w_11 (aI @w_12 (aI @w_13 (aI @w_14 (aI @w_15 (aI @w_16 (aI @w_17 (aI @w_18 (aI @w_19 (aI @w_20 @w_21))))))))))))))))))))))))))
theorem appW_A {t : Ty} {bytes : Nat} {zero s x : AV} {h : Heap} : appW t bytes zero s x h = appA t bytes zero s x h := rfl
theorem gW_some (y : AV) (want : Bool) (h : Heap) (a : AV) (K : AV × Heap → Prop) : gW y want (Evs (some (a, h))) h K = Evs (gv y want (some a)) fun v => K (v, h) := by
 rw [← gW_pureV]; rfl
theorem arr_0 {α : Type} (a : α) (l : List α) : (⟨a :: l⟩ : Array α)[0]? = some a := rfl
theorem arr_1 {α : Type} (a b : α) (l : List α) : (⟨a :: b :: l⟩ : Array α)[1]? = some b := rfl
theorem k_nat (n : Nat) : AV.int .i64 (no_index (@OfNat.ofNat Int n _)) = nat (@OfNat.ofNat Nat n _) := rfl
theorem k_u8 (n : Nat) (h : n < 256) : AV.int .u8 (no_index (@OfNat.ofNat Int n _)) = u8 (BitVec.ofNat 8 (@OfNat.ofNat Nat n _)) := by
 show AV.int .u8 (n : Int) = .int .u8 ((BitVec.ofNat 8 n).toNat : Int)
 rw [BitVec.toNat_ofNat, Nat.mod_eq_of_lt h]
theorem k_u32 (n : Nat) (h : n < 4294967296) : AV.int .u32 (no_index (@OfNat.ofNat Int n _)) = u32 (BitVec.ofNat 32 (@OfNat.ofNat Nat n _)) := by
 show AV.int .u32 (n : Int) = .int .u32 ((BitVec.ofNat 32 n).toNat : Int)
 rw [BitVec.toNat_ofNat, Nat.mod_eq_of_lt h]
theorem k_u64 (n : Nat) (h : n < 18446744073709551616) : AV.int .u64 (no_index (@OfNat.ofNat Int n _)) = u64 (BitVec.ofNat 64 (@OfNat.ofNat Nat n _)) := by
 show AV.int .u64 (n : Int) = .int .u64 ((BitVec.ofNat 64 n).toNat : Int)
 rw [BitVec.toNat_ofNat, Nat.mod_eq_of_lt h]
structure Hx (P : Program) (C : Ctx) (l : List Code) (A : Prop) : Prop where
 get : A
section
variable {P : Program} {C : Ctx} {n a b : Code}
theorem zRg {id : Nat} {ops : List Oper} {R : (Ex × St → Prop) → Env → Heap → Prop} (hn : n = .region id ⟨ops⟩ false) (x : ∀ Q env h, opsW P C ops (fun e g => Q (.nrm, ⟨e, g⟩)) ops [] env h = R Q env h) :
  Hx P C [n] (∀ Q env h, wC P C n Q ⟨env, h⟩ = R Q env h) := ⟨fun Q env h => by subst hn; exact x Q env h⟩
theorem zSR {id : Nat} {ops : List Oper} {R : (Ex × St → Prop) → Env → Heap → Prop} (hn : n = .seq (.region id ⟨ops⟩ false) a) (x : ∀ Q env h, opsW P C ops (fun e g => wC P C a Q ⟨e, g⟩) ops [] env h = R Q env h) :
  Hx P C [a, n] (∀ Q env h, wC P C n Q ⟨env, h⟩ = R Q env h) := ⟨fun Q env h => by subst hn; exact x Q env h⟩
theorem zS (hn : n = .seq a b) : Hx P C [a, b, n] (∀ Q s, wC P C n Q s = wC P C a (sqW (wC P C b) Q) s) := ⟨fun Q s => by subst hn; rfl⟩
theorem zC {t : Nat} (hn : n = .cond (.tmp t) a b) : Hx P C [a, b, n] (∀ Q (s : St), wC P C n Q s = cndW (s.env.get t) (wL P C a Q s) (wL P C b Q s)) := ⟨fun Q s => by subst hn; rfl⟩
theorem zB {id : Nat} (hn : n = .block id a) : Hx P C [a, n] (∀ Q s, wC P C n Q s = wC P C a (fun r => Q (inBlk id r)) s) := ⟨fun Q s => by subst hn; rfl⟩
theorem zL (hn : n = .loop a) : Hx P C [a, n] (∀ Q s, wC P C n Q s = loopW (wC P C a) Q s) := ⟨fun Q s => by subst hn; rfl⟩
theorem zX {id : Nat} (hn : n = .exit id) : Hx P C [n] (∀ Q s, wC P C n Q s = Q (.exit id, s)) := ⟨fun Q s => by subst hn; rfl⟩
theorem zE (hn : n = .ret) : Hx P C [n] (∀ Q s, wC P C n Q s = Q (.ret, s)) := ⟨fun Q s => by subst hn; rfl⟩
theorem zK (hn : n = .skip) : Hx P C [n] (∀ Q s, wC P C n Q s = Q (.nrm, s)) := ⟨fun Q s => by subst hn; rfl⟩
end
structure Zl (P : Program) (C : Ctx) (l : List (List Code)) (A : Prop) : Prop where
 get : A
theorem Zl.one {P : Program} {C : Ctx} {l : List Code} {A : Prop} (x : Hx P C l A) : Zl P C [l] A := ⟨x.get⟩
theorem Zl.cons {P : Program} {C : Ctx} {l m : List Code} {r : List (List Code)} {A B : Prop} (x : Hx P C l A) (y : Zl P C (m :: r) B) : Zl P C (l :: m :: r) (A ∧ B) := ⟨⟨x.get, y.get⟩⟩
theorem zT' {tt : Nat → Option TI} (t : Nat) {i : TI} (h : tt t = some i := by rfl) : tt t = some i := h
end Go.Vab

/-
  A region whose order is open: its tree as a plan, and what the plan comes to.
-/
namespace Go.Vab
open Go
inductive Pl where
 | f
 | o (e : Nat) (nl sl : List Nat) (t : Pl)
 | b (e : Nat) (nl sl : List Nat) (t r : Pl)
section
variable (P : Program) (C : Ctx) (ops : List Oper) (env : Env)
def readsZ (h : Heap) (k : Env → Prop) : List Nat → Env → Prop
 | [], loc => k loc
 | p :: ps, loc => ValW (oneW P C ops (opI ops p) (look loc env) h) h fun v => dstLt C (opI ops p) ∧ readsZ h k ps (pushL loc (opI ops p).dst v)
def stabZ (h : Heap) (loc : Env) (Z : Prop) : List Nat → Prop
 | [] => Z
 | p :: ps => match (opI ops p).dst with
  | some d => stabP (oneW P C ops (opI ops p) (look loc env) h fun q => q = (look loc env d, h)) (stabZ h loc Z ps)
  | none => False
def planW (k : Env → Heap → Prop) : Pl → Env → Heap → Prop
 | .f, loc, h => k (commit C.vol loc env) h
 | .o e nl sl t, loc, h => oneW P C ops (opI ops e) (look loc env) h fun r => dstLt C (opI ops e) ∧
   stabZ P C ops env r.2 (pushL loc (opI ops e).dst r.1) (readsZ P C ops env r.2 (fun loc' => planW k t loc' r.2) nl (pushL loc (opI ops e).dst r.1)) sl
 | .b e nl sl t r, loc, h => bothP (oneW P C ops (opI ops e) (look loc env) h fun r => dstLt C (opI ops e) ∧
   stabZ P C ops env r.2 (pushL loc (opI ops e).dst r.1) (readsZ P C ops env r.2 (fun loc' => planW k t loc' r.2) nl (pushL loc (opI ops e).dst r.1)) sl) (planW k r loc h)
def planB (eff bs : List Nat) : Pl → Nat → List Nat → List Nat → Bool
 | .f, _, _, l => l.isEmpty
 | .o e nl sl t, m + 1, S, [a] => decide (a = e) && decide (newE ops.length eff bs S e = nl) && decide (stabE ops ops.length eff bs S e = sl) && planB eff bs t m (e :: S) (nextE eff bs (e :: S))
 | .b e nl sl t r, m + 1, S, a :: c :: l => decide (a = e) && decide (newE ops.length eff bs S e = nl) && decide (stabE ops ops.length eff bs S e = sl) && planB eff bs t m (e :: S) (nextE eff bs (e :: S)) && planB eff bs r (m + 1) S (c :: l)
 | _, _, _, _ => false
end
section
variable {P : Program} {C : Ctx} {ops : List Oper} {env : Env}
theorem readsZ_W {h : Heap} {k k' : Env → Prop} (hk : ∀ loc, k loc → k' loc) : ∀ (l : List Nat) (loc : Env), readsZ P C ops env h k l loc → readsW P C ops env h k' l loc
 | [], loc, H => hk loc H
 | p :: ps, loc, H => by
  obtain ⟨v, h1, h2, h3⟩ := H
  exact ⟨v, h1, h2, readsZ_W hk ps _ h3⟩
theorem stabZ_W {h : Heap} {loc : Env} {Z : Prop} : ∀ (l : List Nat), stabZ P C ops env h loc Z l → stabW P C ops env h loc l ∧ Z
 | [], H => ⟨trivial, H⟩
 | p :: ps, H => by
  unfold stabZ at H
  cases hd : (opI ops p).dst with
  | none => rw [hd] at H; exact H.elim
  | some d =>
   rw [hd] at H
   obtain ⟨h1, h2⟩ := H
   obtain ⟨g1, g2⟩ := stabZ_W ps h2
   exact ⟨⟨⟨look loc env d, h1, fun d' hd' => by rw [hd] at hd'; cases hd'; rfl⟩, g1⟩, g2⟩
theorem plan_ok {eff bs : List Nat} {k : Env → Heap → Prop} : ∀ (pl : Pl) (m : Nat) (S l : List Nat) (loc : Env) (h : Heap), planB ops eff bs pl m S l = true → planW P C ops env k pl loc h →
  (l = [] ∧ k (commit C.vol loc env) h) ∨ ∃ m', m = m' + 1 ∧ l ≠ [] ∧ allW (effW P C ops env eff bs (treeW P C ops env eff bs k m') S loc h) l := by
 have tree : ∀ (pl : Pl) (m : Nat) (S : List Nat) (loc : Env) (h : Heap),
   ((nextE eff bs S = [] ∧ k (commit C.vol loc env) h) ∨ ∃ m', m = m' + 1 ∧ nextE eff bs S ≠ [] ∧ allW (effW P C ops env eff bs (treeW P C ops env eff bs k m') S loc h) (nextE eff bs S)) → treeW P C ops env eff bs k m S loc h := by
  rintro pl m S loc h (⟨h1, h2⟩ | ⟨m', rfl, h1, h2⟩)
  ·cases m with
   | zero => exact ⟨h1, h2⟩
   | succ m => simp only [treeW, h1]; exact h2
  ·unfold treeW
   cases hn : nextE eff bs S with
   | nil => exact absurd hn h1
   | cons a l => rw [hn] at h2; exact h2
 intro pl
 induction pl with
 | f => intro m S l loc h hb H; exact .inl ⟨by simpa [planB] using hb, H⟩
 | o e nl sl t ih =>
  intro m S l loc h hb H
  cases m with
  | zero => simp [planB] at hb
  | succ m =>
   match l, hb with
   | [], hb => simp [planB] at hb
   | [a], hb =>
    simp only [planB, Bool.and_eq_true, decide_eq_true_eq] at hb
    obtain ⟨⟨⟨h1, h2⟩, h3⟩, h4⟩ := hb
    subst h1
    refine .inr ⟨m, rfl, by simp, ?_⟩
    show effW P C ops env eff bs (treeW P C ops env eff bs k m) S loc h a
    refine oneW_mono _ _ (fun r hr => ?_) H
    obtain ⟨g1, g2⟩ := hr
    obtain ⟨g3, g4⟩ := stabZ_W _ g2
    rw [h2, h3]
    exact ⟨g1, g3, readsZ_W (fun loc' hl => tree t _ _ _ _ (ih _ _ _ _ _ h4 hl)) _ _ g4⟩
   | _ :: _ :: _, hb => simp [planB] at hb
 | b e nl sl t r ih ihr =>
  intro m S l loc h hb H
  cases m with
  | zero => simp [planB] at hb
  | succ m =>
   match l, hb with
   | [], hb => simp [planB] at hb
   | [a], hb => simp [planB] at hb
   | a :: c :: l, hb =>
    simp only [planB, Bool.and_eq_true, decide_eq_true_eq] at hb
    obtain ⟨⟨⟨⟨h1, h2⟩, h3⟩, h4⟩, h5⟩ := hb
    subst h1
    obtain ⟨H1, H2⟩ := H
    refine .inr ⟨m, rfl, by simp, ?_⟩
    refine ⟨?_, ?_⟩
    ·show effW P C ops env eff bs (treeW P C ops env eff bs k m) S loc h a
     refine oneW_mono _ _ (fun r hr => ?_) H1
     obtain ⟨g1, g2⟩ := hr
     obtain ⟨g3, g4⟩ := stabZ_W _ g2
     rw [h2, h3]
     exact ⟨g1, g3, readsZ_W (fun loc' hl => tree t _ _ _ _ (ih _ _ _ _ _ h4 hl)) _ _ g4⟩
    ·rcases ihr _ _ _ _ _ h5 H2 with ⟨q, _⟩ | ⟨m', q, _, q2⟩
     ·cases q
     ·cases q; exact q2
theorem plan_tree {eff bs : List Nat} {k : Env → Heap → Prop} {pl : Pl} {m : Nat} {S : List Nat} {loc : Env} {h : Heap} (hb : planB ops eff bs pl m S (nextE eff bs S) = true) (H : planW P C ops env k pl loc h) : treeW P C ops env eff bs k m S loc h := by
 rcases plan_ok pl m S _ loc h hb H with ⟨h1, h2⟩ | ⟨m', rfl, h1, h2⟩
 ·cases m with
  | zero => exact ⟨h1, h2⟩
  | succ m => simp only [treeW, h1]; exact h2
 ·unfold treeW
  cases hn : nextE eff bs S with
  | nil => exact absurd hn h1
  | cons a l => rw [hn] at h2; exact h2
end
structure Hw (P : Program) (C : Ctx) (l : List Code) (eff bs en : List Nat) (pl : Pl) (A : Prop) : Prop where
 get : A
section
variable {P : Program} {C : Ctx} {n a : Code} {id : Nat} {ops : List Oper} {eff bs en : List Nat} {pl : Pl} {R : (Ex × St → Prop) → Env → Heap → Prop}
theorem zSD (hn : n = .seq (.region id ⟨ops⟩ true) a) (hok : treeOk ops eff bs = true) (hen : enabled ops.length eff bs [] = en) (hpl : planB ops eff bs pl eff.length [] (nextE eff bs []) = true)
  (x : ∀ Q env h, readsZ P C ops env h (fun loc => planW P C ops env (fun e g => wC P C a Q ⟨e, g⟩) pl loc h) en [] = R Q env h) : Hw P C [a, n] eff bs en pl (∀ Q env h, R Q env h → wC P C n Q ⟨env, h⟩) := ⟨fun Q env h H => by
 subst hn; subst hen
 exact draw_tree (treeOk_facts hok) (readsZ_W (fun loc hl => plan_tree hpl hl) _ _ ((x Q env h).symm ▸ H))⟩
theorem zRD (hn : n = .region id ⟨ops⟩ true) (hok : treeOk ops eff bs = true) (hen : enabled ops.length eff bs [] = en) (hpl : planB ops eff bs pl eff.length [] (nextE eff bs []) = true)
  (x : ∀ Q env h, readsZ P C ops env h (fun loc => planW P C ops env (fun e g => Q (.nrm, ⟨e, g⟩)) pl loc h) en [] = R Q env h) : Hw P C [n] eff bs en pl (∀ Q env h, R Q env h → wC P C n Q ⟨env, h⟩) := ⟨fun Q env h H => by
 subst hn; subst hen
 exact draw_tree (treeOk_facts hok) (readsZ_W (fun loc hl => plan_tree hpl hl) _ _ ((x Q env h).symm ▸ H))⟩
end
theorem opI_0 (o : Oper) (l : List Oper) : opI (o :: l) 0 = o := rfl
theorem opI_s (o : Oper) (l : List Oper) (n : Nat) : opI (o :: l) (n + 1) = opI l n := rfl
theorem dstLt_s (C : Ctx) (o : Oper) : dstLt C o = match o.dst with | some d => d < C.ntmps | none => True := rfl
theorem push_s (loc : Env) (d : Nat) (v : AV) : pushL loc (some d) v = (d, v) :: loc := rfl
theorem push_n (loc : Env) (v : AV) : pushL loc none v = loc := rfl
theorem st_eq (X : Option AV) (h : Heap) (v : AV) : (Evs X fun u => (u, h) = (v, h)) = (X = some v) := by
 cases X with
 | none => exact propext (Iff.intro (fun ⟨_, h, _⟩ => by cases h) (fun h => by cases h))
 | some a => rw [evs_some]; exact propext (Iff.intro (fun h => by cases h; rfl) (fun h => by cases h; rfl))
theorem val_p (X : Option AV) (h : Heap) (Y : AV → Prop) : ValW (Evs (pureV h X)) h Y = Evs X Y := by
 unfold ValW
 cases X with
 | none => exact propext (Iff.intro (fun ⟨_, ⟨_, h, _⟩, _⟩ => by cases h) (fun ⟨_, h, _⟩ => by cases h))
 | some a => exact propext (Iff.intro (fun ⟨v, ⟨r, h1, h2⟩, h3⟩ => by cases h1; cases h2; exact ⟨_, rfl, h3⟩) (fun ⟨v, h1, h2⟩ => by cases h1; exact ⟨_, ⟨_, rfl, rfl⟩, h2⟩))
theorem val_g (y : AV) (want : Bool) (X : Option AV) (h : Heap) (Y : AV → Prop) : ValW (gW y want (Evs (pureV h X)) h) h Y = Evs (gv y want X) Y := by
 rw [← val_p (gv y want X) h Y]
 unfold ValW
 congr 1; funext v
 rw [gW_pureV, evs_pureV]
theorem val_t (a : AV) (h : Heap) (Y : AV → Prop) : ValW (Evs (some (a, h))) h Y = Y a := by
 rw [show (some (a, h) : Option (AV × Heap)) = pureV h (some a) from rfl, val_p, evs_some]
theorem val_gt (y : AV) (want : Bool) (a : AV) (h : Heap) (Y : AV → Prop) : ValW (gW y want (Evs (some (a, h))) h) h Y = Evs (gv y want (some a)) Y := by
 rw [show (some (a, h) : Option (AV × Heap)) = pureV h (some a) from rfl, val_g]
theorem optP_some {α : Type} (x : α) (f : α → (AV × Heap → Prop) → Prop) : optP (some x) f = f x := rfl
theorem withTyP_o (C : Ctx) (t : Nat) (f : TI → (AV × Heap → Prop) → Prop) : withTyP C t f = optP (C.tt t) f := by
 funext K
 unfold withTyP optP
 cases C.tt t <;> rfl
theorem tyP_c (a b : (AV × Heap → Prop) → Prop) : tyP .cell a b = a := rfl
theorem tyP_i (k : IntKind) (a b : (AV × Heap → Prop) → Prop) : tyP (.int k) a b = b := rfl
def z_s := aI opI_0 (aI opI_s (aI dstLt_s (aI push_s (aI push_n (aI st_eq (aI val_p (aI val_g (aI val_t (aI val_gt (aI @optP_some (aI withTyP_o (aI tyP_c tyP_i))))))))))))
end Go.Vab

/-
  How a seat's code is read, found by the elaborator.
-/
namespace Go.Vab
open Go Go.Proofs
set_option maxRecDepth 4000
def TTs := aI (zT' (tt := TT) 3) (aI (zT' (tt := TT) 4) (aI (zT' (tt := TT) 5) (aI (zT' (tt := TT) 9) (aI (zT' (tt := TT) 22) (aI (zT' (tt := TT) 24) (aI (zT' (tt := TT) 26) (aI (zT' (tt := TT) 27) (aI (zT' (tt := TT) 28) (aI (zT' (tt := TT) 29) (aI (zT' (tt := TT) 31) (aI (zT' (tt := TT) 32) (aI (zT' (tt := TT) 33) (aI (zT' (tt := TT) 34) (aI (zT' (tt := TT) 35) (aI (zT' (tt := TT) 37) (aI (zT' (tt := TT) 38) (aI (zT' (tt := TT) 40) (aI (zT' (tt := TT) 42) (aI (zT' (tt := TT) 47) (aI (zT' (tt := TT) 57) (aI (zT' (tt := TT) 61) (aI (zT' (tt := TT) 63) (aI (zT' (tt := TT) 65) (aI (zT' (tt := TT) 69) (aI (zT' (tt := TT) 73) (aI (zT' (tt := TT) 77) (aI (zT' (tt := TT) 79) (aI (zT' (tt := TT) 82) (aI (zT' (tt := TT) 84) (aI (zT' (tt := TT) 86) (aI (zT' (tt := TT) 106) (aI (zT' (tt := TT) 112) (aI (zT' (tt := TT) 113) (aI (zT' (tt := TT) 115) (aI (zT' (tt := TT) 117) (aI (zT' (tt := TT) 118) (aI (zT' (tt := TT) 120) (aI (zT' (tt := TT) 122) (aI (zT' (tt := TT) 123) (aI (zT' (tt := TT) 125) (aI (zT' (tt := TT) 154) (aI (zT' (tt := TT) 155) ((zT' (tt := TT) 157))))))))))))))))))))))))))))))))))))))))))))
theorem bA {T : Ty} {ts : List Ty} (hT : T = .struct ts := by rfl) (b : Nat) (z : AV) (e : Option TypeId) (k : Option IntKind) (u : Bool) (p : Option TypeId) (q : Bool) (op : BinOp) (x y : AV) : binAny ⟨T, b, z, e, k, u, p, q⟩ op x y = mEq T op x y := by subst hT; rfl
def bA_tPublic := bA (T := tPublic)
def bA_tAccess := bA (T := tAccess)
def bA_tState := bA (T := tState)
def bA_tCipher := bA (T := tCipher)
def bA_tAction := bA (T := tAction)
def bA_tMove := bA (T := tMove)
def bA_tSeat := bA (T := tSeat)
def bA_tLstep := bA (T := tLstep)
def bA_tInvite := bA (T := tInvite)
def bA_tAsk := bA (T := tAsk)
def bA_tBan := bA (T := tBan)
def bA_tLhas := bA (T := tLhas)
def bA_tRollSeat := bA (T := tRollSeat)
def bA_tRollInvite := bA (T := tRollInvite)
def bA_tRollAsk := bA (T := tRollAsk)
def bA_tRollBan := bA (T := tRollBan)
theorem zAll (C : Ctx) {n : Nat} {vl : List Nat} {A : Prop} (l : List (List Code)) (hC : C = ⟨fun _ _ _ => none, TT, n, vl⟩ := by rfl)
  (f : C.tt = TT → C.ntmps = n → C.vol = vl → Zl Tryz.prog C l A := by
   intro hT hN hV
   repeat' (first | exact zS rfl | exact zC rfl | exact zB rfl | exact zL rfl | exact zX rfl | exact zE rfl | exact zK rfl | ((first | (apply zSR; exact rfl) | (apply zRg; exact rfl)); intro Q env h; (conv => lhs; simp (config := {decide := true}) only [opsW, oneW, w_s, rowT, bW, optP_some, withTyP_o, tyP_c, tyP_i, appW_A, evOp, evBuiltin, binAny, withTy, ↓bA_tPublic, ↓bA_tAccess, ↓bA_tState, ↓bA_tCipher, ↓bA_tAction, ↓bA_tMove, ↓bA_tSeat, ↓bA_tLstep, ↓bA_tInvite, ↓bA_tAsk, ↓bA_tBan, ↓bA_tLhas, ↓bA_tRollSeat, ↓bA_tRollInvite, ↓bA_tRollAsk, ↓bA_tRollBan, opvF, ofConst, evs_pureV, gW_pureV, gW_some, evs_some, arr_0, arr_1, k_nat, k_u8, k_u32, k_u64, true_and, hT, hN, hV, look_nil, look_hit, look_miss, commit_v, commit_k, commit_0, TTs, dstOf_0, dstOf_s, List.map_cons, List.map_nil, List.append_eq, List.nil_append, List.cons_append, List.append_nil, Option.map_some, Option.map_none, Bool.false_eq_true, if_true, if_false, and_self, and_true, Ty.isAgg])) | apply Zl.cons | apply Zl.one)) : A := (f (hC ▸ rfl) (hC ▸ rfl) (hC ▸ rfl)).get
theorem zDr (C : Ctx) {n : Nat} {vl : List Nat} {A : Prop} (l : List Code) (eff bs en : List Nat) (pl : Pl) (hC : C = ⟨fun _ _ _ => none, TT, n, vl⟩ := by rfl)
  (f : C.tt = TT → C.ntmps = n → C.vol = vl → Hw Tryz.prog C l eff bs en pl A := by
   intro hT hN hV
   (first | (apply zSD; exact rfl) | (apply zRD; exact rfl))
   ·kernel_rfl
   ·kernel_rfl
   ·kernel_rfl
   ·intro Q env h
    conv => lhs; simp (config := {decide := true}) only [readsZ, planW, stabZ, z_s, oneW, w_s, rowT, bW, optP_some, withTyP_o, tyP_c, tyP_i, appW_A, evOp, evBuiltin, binAny, withTy, ↓bA_tPublic, ↓bA_tAccess, ↓bA_tState, ↓bA_tCipher, ↓bA_tAction, ↓bA_tMove, ↓bA_tSeat, ↓bA_tLstep, ↓bA_tInvite, ↓bA_tAsk, ↓bA_tBan, ↓bA_tLhas, ↓bA_tRollSeat, ↓bA_tRollInvite, ↓bA_tRollAsk, ↓bA_tRollBan, opvF, ofConst, evs_pureV, gW_pureV, gW_some, evs_some, arr_0, arr_1, k_nat, k_u8, k_u32, k_u64, true_and, hT, hN, hV, look_nil, look_hit, look_miss, commit_v, commit_k, commit_0, TTs, dstOf_0, dstOf_s, List.map_cons, List.map_nil, List.append_eq, List.nil_append, List.cons_append, List.append_nil, Option.map_some, Option.map_none, Bool.false_eq_true, if_true, if_false, and_self, and_true, Ty.isAgg]) : A := (f (hC ▸ rfl) (hC ▸ rfl) (hC ▸ rfl)).get
theorem zQ0 (C : Ctx) (k : Nat) (fn : Func) (root : Code) (R : St → Option (List AV)) (hf : Tryz.prog.funcs[k]? = some fn := by kernel_rfl) (h1 : (fn.name == "runtime.NumGoroutine") = false := by kernel_rfl) (hb : fn.body = some root := by kernel_rfl) (hn : fn.ntmps = C.ntmps := by kernel_rfl) (hT : C.tt = TT := by rfl) (hv : (C.vol.all fun t => decide (0 ≤ t)) = true := by kernel_rfl) (hl : decide (0 ≤ C.ntmps) = true := by kernel_rfl) (hr : (fun s => resAll C s fn.results.toList) = R := by kernel_rfl) :
  ∀ ⦃h : Heap⦄ ⦃K : AV × Heap → Prop⦄, (∀ env : Env, wC Tryz.prog C root (retW R K) ⟨env, h⟩) → SpecQ Tryz.prog k [] h K := fun h K H =>
 bodyW_sound (C := C) (hT ▸ TT_ok) mixed_ok hf h1 hb hn hv (of_decide_eq_true hl) (by rw [hr]; exact H _)
theorem zQ1 (C : Ctx) (k : Nat) (fn : Func) (root : Code) (R : St → Option (List AV)) (hf : Tryz.prog.funcs[k]? = some fn := by kernel_rfl) (h1 : (fn.name == "runtime.NumGoroutine") = false := by kernel_rfl) (hb : fn.body = some root := by kernel_rfl) (hn : fn.ntmps = C.ntmps := by kernel_rfl) (hT : C.tt = TT := by rfl) (hv : (C.vol.all fun t => decide (1 ≤ t)) = true := by kernel_rfl) (hl : decide (1 ≤ C.ntmps) = true := by kernel_rfl) (hr : (fun s => resAll C s fn.results.toList) = R := by kernel_rfl) (e0 : ∀ a0 : AV, (env0 C [a0]).get 0 = a0 := by intros; kernel_rfl) :
  ∀ ⦃a0 : AV⦄ ⦃h : Heap⦄ ⦃K : AV × Heap → Prop⦄, (∀ env : Env, env.get 0 = a0 → wC Tryz.prog C root (retW R K) ⟨env, h⟩) → SpecQ Tryz.prog k [a0] h K := fun a0 h K H =>
 bodyW_sound (C := C) (hT ▸ TT_ok) mixed_ok hf h1 hb hn hv (of_decide_eq_true hl) (by rw [hr]; exact H _ (e0 a0))
theorem zQ2 (C : Ctx) (k : Nat) (fn : Func) (root : Code) (R : St → Option (List AV)) (hf : Tryz.prog.funcs[k]? = some fn := by kernel_rfl) (h1 : (fn.name == "runtime.NumGoroutine") = false := by kernel_rfl) (hb : fn.body = some root := by kernel_rfl) (hn : fn.ntmps = C.ntmps := by kernel_rfl) (hT : C.tt = TT := by rfl) (hv : (C.vol.all fun t => decide (2 ≤ t)) = true := by kernel_rfl) (hl : decide (2 ≤ C.ntmps) = true := by kernel_rfl) (hr : (fun s => resAll C s fn.results.toList) = R := by kernel_rfl) (e0 : ∀ a0 a1 : AV, (env0 C [a0, a1]).get 0 = a0 := by intros; kernel_rfl) (e1 : ∀ a0 a1 : AV, (env0 C [a0, a1]).get 1 = a1 := by intros; kernel_rfl) :
  ∀ ⦃a0 a1 : AV⦄ ⦃h : Heap⦄ ⦃K : AV × Heap → Prop⦄, (∀ env : Env, env.get 0 = a0 → env.get 1 = a1 → wC Tryz.prog C root (retW R K) ⟨env, h⟩) → SpecQ Tryz.prog k [a0, a1] h K := fun a0 a1 h K H =>
 bodyW_sound (C := C) (hT ▸ TT_ok) mixed_ok hf h1 hb hn hv (of_decide_eq_true hl) (by rw [hr]; exact H _ (e0 a0 a1) (e1 a0 a1))
theorem zQ3 (C : Ctx) (k : Nat) (fn : Func) (root : Code) (R : St → Option (List AV)) (hf : Tryz.prog.funcs[k]? = some fn := by kernel_rfl) (h1 : (fn.name == "runtime.NumGoroutine") = false := by kernel_rfl) (hb : fn.body = some root := by kernel_rfl) (hn : fn.ntmps = C.ntmps := by kernel_rfl) (hT : C.tt = TT := by rfl) (hv : (C.vol.all fun t => decide (3 ≤ t)) = true := by kernel_rfl) (hl : decide (3 ≤ C.ntmps) = true := by kernel_rfl) (hr : (fun s => resAll C s fn.results.toList) = R := by kernel_rfl) (e0 : ∀ a0 a1 a2 : AV, (env0 C [a0, a1, a2]).get 0 = a0 := by intros; kernel_rfl) (e1 : ∀ a0 a1 a2 : AV, (env0 C [a0, a1, a2]).get 1 = a1 := by intros; kernel_rfl) (e2 : ∀ a0 a1 a2 : AV, (env0 C [a0, a1, a2]).get 2 = a2 := by intros; kernel_rfl) :
  ∀ ⦃a0 a1 a2 : AV⦄ ⦃h : Heap⦄ ⦃K : AV × Heap → Prop⦄, (∀ env : Env, env.get 0 = a0 → env.get 1 = a1 → env.get 2 = a2 → wC Tryz.prog C root (retW R K) ⟨env, h⟩) → SpecQ Tryz.prog k [a0, a1, a2] h K := fun a0 a1 a2 h K H =>
 bodyW_sound (C := C) (hT ▸ TT_ok) mixed_ok hf h1 hb hn hv (of_decide_eq_true hl) (by rw [hr]; exact H _ (e0 a0 a1 a2) (e1 a0 a1 a2) (e2 a0 a1 a2))
theorem zQ4 (C : Ctx) (k : Nat) (fn : Func) (root : Code) (R : St → Option (List AV)) (hf : Tryz.prog.funcs[k]? = some fn := by kernel_rfl) (h1 : (fn.name == "runtime.NumGoroutine") = false := by kernel_rfl) (hb : fn.body = some root := by kernel_rfl) (hn : fn.ntmps = C.ntmps := by kernel_rfl) (hT : C.tt = TT := by rfl) (hv : (C.vol.all fun t => decide (4 ≤ t)) = true := by kernel_rfl) (hl : decide (4 ≤ C.ntmps) = true := by kernel_rfl) (hr : (fun s => resAll C s fn.results.toList) = R := by kernel_rfl) (e0 : ∀ a0 a1 a2 a3 : AV, (env0 C [a0, a1, a2, a3]).get 0 = a0 := by intros; kernel_rfl) (e1 : ∀ a0 a1 a2 a3 : AV, (env0 C [a0, a1, a2, a3]).get 1 = a1 := by intros; kernel_rfl) (e2 : ∀ a0 a1 a2 a3 : AV, (env0 C [a0, a1, a2, a3]).get 2 = a2 := by intros; kernel_rfl) (e3 : ∀ a0 a1 a2 a3 : AV, (env0 C [a0, a1, a2, a3]).get 3 = a3 := by intros; kernel_rfl) :
  ∀ ⦃a0 a1 a2 a3 : AV⦄ ⦃h : Heap⦄ ⦃K : AV × Heap → Prop⦄, (∀ env : Env, env.get 0 = a0 → env.get 1 = a1 → env.get 2 = a2 → env.get 3 = a3 → wC Tryz.prog C root (retW R K) ⟨env, h⟩) → SpecQ Tryz.prog k [a0, a1, a2, a3] h K := fun a0 a1 a2 a3 h K H =>
 bodyW_sound (C := C) (hT ▸ TT_ok) mixed_ok hf h1 hb hn hv (of_decide_eq_true hl) (by rw [hr]; exact H _ (e0 a0 a1 a2 a3) (e1 a0 a1 a2 a3) (e2 a0 a1 a2 a3) (e3 a0 a1 a2 a3))
theorem zQ5 (C : Ctx) (k : Nat) (fn : Func) (root : Code) (R : St → Option (List AV)) (hf : Tryz.prog.funcs[k]? = some fn := by kernel_rfl) (h1 : (fn.name == "runtime.NumGoroutine") = false := by kernel_rfl) (hb : fn.body = some root := by kernel_rfl) (hn : fn.ntmps = C.ntmps := by kernel_rfl) (hT : C.tt = TT := by rfl) (hv : (C.vol.all fun t => decide (5 ≤ t)) = true := by kernel_rfl) (hl : decide (5 ≤ C.ntmps) = true := by kernel_rfl) (hr : (fun s => resAll C s fn.results.toList) = R := by kernel_rfl) (e0 : ∀ a0 a1 a2 a3 a4 : AV, (env0 C [a0, a1, a2, a3, a4]).get 0 = a0 := by intros; kernel_rfl) (e1 : ∀ a0 a1 a2 a3 a4 : AV, (env0 C [a0, a1, a2, a3, a4]).get 1 = a1 := by intros; kernel_rfl) (e2 : ∀ a0 a1 a2 a3 a4 : AV, (env0 C [a0, a1, a2, a3, a4]).get 2 = a2 := by intros; kernel_rfl) (e3 : ∀ a0 a1 a2 a3 a4 : AV, (env0 C [a0, a1, a2, a3, a4]).get 3 = a3 := by intros; kernel_rfl) (e4 : ∀ a0 a1 a2 a3 a4 : AV, (env0 C [a0, a1, a2, a3, a4]).get 4 = a4 := by intros; kernel_rfl) :
  ∀ ⦃a0 a1 a2 a3 a4 : AV⦄ ⦃h : Heap⦄ ⦃K : AV × Heap → Prop⦄, (∀ env : Env, env.get 0 = a0 → env.get 1 = a1 → env.get 2 = a2 → env.get 3 = a3 → env.get 4 = a4 → wC Tryz.prog C root (retW R K) ⟨env, h⟩) → SpecQ Tryz.prog k [a0, a1, a2, a3, a4] h K := fun a0 a1 a2 a3 a4 h K H =>
 bodyW_sound (C := C) (hT ▸ TT_ok) mixed_ok hf h1 hb hn hv (of_decide_eq_true hl) (by rw [hr]; exact H _ (e0 a0 a1 a2 a3 a4) (e1 a0 a1 a2 a3 a4) (e2 a0 a1 a2 a3 a4) (e3 a0 a1 a2 a3 a4) (e4 a0 a1 a2 a3 a4))
end Go.Vab

/- How the code of a function is read. Printed by wip/tools/gen2.py and gen3.py (own work). -/
namespace Go.Vab
open Go Go.Proofs
noncomputable section
def cx86 : Ctx := ⟨fun _ _ _ => none,TT,10,[5,6,7,8,9]⟩
def n86_0 := bodyOf Tryz.f86
def n86_1 := cR n86_0
def n86_2 := cR n86_1
def q86 := zQ2 cx86 86 Tryz.f86 n86_0 fun s => (bnd (some (s.env.get 4)) fun v => bnd (some []) fun vs => some (v :: vs))
set_option maxRecDepth 20000
set_option maxHeartbeats 4000000
def n86_1_w := zDr cx86 [n86_2,n86_1] [] [0,1,0,4,15,31] [0,1,2,3,4,5] .f
def sn86 := zAll cx86 [[n86_2],[n86_1,n86_0]]
end
end Go.Vab

/- How the code of a function is read. Printed by wip/tools/gen2.py and gen3.py (own work). -/
namespace Go.Vab
open Go Go.Proofs
noncomputable section
def cx39 : Ctx := ⟨fun _ _ _ => none,TT,9,[3,4,5,6,7,8]⟩
def n39_0 := bodyOf Tryz.f39
def n39_1 := cR n39_0
def n39_2 := cR n39_1
def q39 := zQ1 cx39 39 Tryz.f39 n39_0 fun s => (bnd (some (s.env.get 2)) fun v => bnd (some []) fun vs => some (v :: vs))
set_option maxRecDepth 20000
set_option maxHeartbeats 4000000
def sn39 := zAll cx39 [[n39_2],[n39_2,n39_1],[n39_1,n39_0]]
end
end Go.Vab

/- How the code of a function is read. Printed by wip/tools/gen2.py and gen3.py (own work). -/
namespace Go.Vab
open Go Go.Proofs
noncomputable section
def cx37 : Ctx := ⟨fun _ _ _ => none,TT,16,[3,4,5,6,7,8,9,10,11,12,13,14,15]⟩
def n37_0 := bodyOf Tryz.f37
def n37_1 := cR n37_0
def n37_2 := cR n37_1
def q37 := zQ1 cx37 37 Tryz.f37 n37_0 fun s => (bnd (some (s.env.get 2)) fun v => bnd (some []) fun vs => some (v :: vs))
set_option maxRecDepth 20000
set_option maxHeartbeats 4000000
def sn37 := zAll cx37 [[n37_2],[n37_2,n37_1],[n37_1,n37_0]]
end
end Go.Vab

/- How the code of a function is read. Printed by wip/tools/gen2.py and gen3.py (own work). -/
namespace Go.Vab
open Go Go.Proofs
noncomputable section
def cx36 : Ctx := ⟨fun _ _ _ => none,TT,23,[6,7,8,9,11,12,13,14,15,16,17,18,19,20,22]⟩
def n36_0 := bodyOf Tryz.f36
def n36_1 := cR n36_0
def n36_2 := cL n36_1
def n36_3 := cR n36_2
def n36_4 := cB n36_3
def n36_5 := cB n36_4
def n36_6 := cL n36_5
def n36_7 := cR n36_6
def n36_8 := cL n36_7
def n36_9 := cR n36_7
def n36_10 := cR n36_5
def n36_11 := cL n36_10
def n36_12 := cB n36_11
def n36_13 := cR n36_12
def n36_14 := cL n36_13
def n36_15 := cR n36_14
def n36_16 := cR n36_13
def n36_17 := cR n36_10
def n36_18 := cR n36_1
def n36_19 := cR n36_18
def q36 := zQ2 cx36 36 Tryz.f36 n36_0 fun s => (bnd (some (s.env.get 4)) fun v => bnd (some []) fun vs => some (v :: vs))
set_option maxRecDepth 20000
set_option maxHeartbeats 4000000
def n36_12_w := zDr cx36 [n36_13,n36_12] [] [0,1,0,7,15,31,63,0,255] [0,1,2,3,4,5,6,7,8] .f
def sn36 := zAll cx36 [[n36_8],[n36_9],[n36_8,n36_9,n36_7],[n36_7,n36_6],[n36_15],[n36_15,n36_14],[n36_16],[n36_14,n36_16,n36_13],[n36_12,n36_11],[n36_17],[n36_11,n36_17,n36_10],[n36_6,n36_10,n36_5],[n36_5,n36_4],[n36_4,n36_3],[n36_3,n36_2],[n36_19],[n36_19,n36_18],[n36_2,n36_18,n36_1],[n36_1,n36_0]]
end
end Go.Vab

/- How the code of a function is read. Printed by wip/tools/gen2.py and gen3.py (own work). -/
namespace Go.Vab
open Go Go.Proofs
noncomputable section
def cx41 : Ctx := ⟨fun _ _ _ => none,TT,23,[6,7,8,9,11,12,13,14,15,16,17,18,19,20,22]⟩
def n41_0 := bodyOf Tryz.f41
def n41_1 := cR n41_0
def n41_2 := cL n41_1
def n41_3 := cR n41_2
def n41_4 := cB n41_3
def n41_5 := cB n41_4
def n41_6 := cL n41_5
def n41_7 := cR n41_6
def n41_8 := cL n41_7
def n41_9 := cR n41_7
def n41_10 := cR n41_5
def n41_11 := cL n41_10
def n41_12 := cB n41_11
def n41_13 := cR n41_12
def n41_14 := cL n41_13
def n41_15 := cR n41_14
def n41_16 := cR n41_13
def n41_17 := cR n41_10
def n41_18 := cR n41_1
def n41_19 := cR n41_18
def q41 := zQ2 cx41 41 Tryz.f41 n41_0 fun s => (bnd (some (s.env.get 4)) fun v => bnd (some []) fun vs => some (v :: vs))
set_option maxRecDepth 20000
set_option maxHeartbeats 4000000
def n41_12_w := zDr cx41 [n41_13,n41_12] [] [0,1,0,7,15,31,63,0,255] [0,1,2,3,4,5,6,7,8] .f
def sn41 := zAll cx41 [[n41_8],[n41_9],[n41_8,n41_9,n41_7],[n41_7,n41_6],[n41_15],[n41_15,n41_14],[n41_16],[n41_14,n41_16,n41_13],[n41_12,n41_11],[n41_17],[n41_11,n41_17,n41_10],[n41_6,n41_10,n41_5],[n41_5,n41_4],[n41_4,n41_3],[n41_3,n41_2],[n41_19],[n41_19,n41_18],[n41_2,n41_18,n41_1],[n41_1,n41_0]]
end
end Go.Vab

/- How the code of a function is read. Printed by wip/tools/gen2.py and gen3.py (own work). -/
namespace Go.Vab
open Go Go.Proofs
noncomputable section
def cx42 : Ctx := ⟨fun _ _ _ => none,TT,23,[6,7,8,9,11,12,13,14,15,16,17,18,19,20,22]⟩
def n42_0 := bodyOf Tryz.f42
def n42_1 := cR n42_0
def n42_2 := cL n42_1
def n42_3 := cR n42_2
def n42_4 := cB n42_3
def n42_5 := cB n42_4
def n42_6 := cL n42_5
def n42_7 := cR n42_6
def n42_8 := cL n42_7
def n42_9 := cR n42_7
def n42_10 := cR n42_5
def n42_11 := cL n42_10
def n42_12 := cB n42_11
def n42_13 := cR n42_12
def n42_14 := cL n42_13
def n42_15 := cR n42_14
def n42_16 := cR n42_13
def n42_17 := cR n42_10
def n42_18 := cR n42_1
def n42_19 := cR n42_18
def q42 := zQ2 cx42 42 Tryz.f42 n42_0 fun s => (bnd (some (s.env.get 4)) fun v => bnd (some []) fun vs => some (v :: vs))
set_option maxRecDepth 20000
set_option maxHeartbeats 4000000
def n42_12_w := zDr cx42 [n42_13,n42_12] [] [0,1,0,7,15,31,63,0,255] [0,1,2,3,4,5,6,7,8] .f
def sn42 := zAll cx42 [[n42_8],[n42_9],[n42_8,n42_9,n42_7],[n42_7,n42_6],[n42_15],[n42_15,n42_14],[n42_16],[n42_14,n42_16,n42_13],[n42_12,n42_11],[n42_17],[n42_11,n42_17,n42_10],[n42_6,n42_10,n42_5],[n42_5,n42_4],[n42_4,n42_3],[n42_3,n42_2],[n42_19],[n42_19,n42_18],[n42_2,n42_18,n42_1],[n42_1,n42_0]]
end
end Go.Vab

/- How the code of a function is read. Printed by wip/tools/gen2.py and gen3.py (own work). -/
namespace Go.Vab
open Go Go.Proofs
noncomputable section
def cx43 : Ctx := ⟨fun _ _ _ => none,TT,23,[6,7,8,9,11,12,13,14,15,16,17,18,19,20,22]⟩
def n43_0 := bodyOf Tryz.f43
def n43_1 := cR n43_0
def n43_2 := cL n43_1
def n43_3 := cR n43_2
def n43_4 := cB n43_3
def n43_5 := cB n43_4
def n43_6 := cL n43_5
def n43_7 := cR n43_6
def n43_8 := cL n43_7
def n43_9 := cR n43_7
def n43_10 := cR n43_5
def n43_11 := cL n43_10
def n43_12 := cB n43_11
def n43_13 := cR n43_12
def n43_14 := cL n43_13
def n43_15 := cR n43_14
def n43_16 := cR n43_13
def n43_17 := cR n43_10
def n43_18 := cR n43_1
def n43_19 := cR n43_18
def q43 := zQ2 cx43 43 Tryz.f43 n43_0 fun s => (bnd (some (s.env.get 4)) fun v => bnd (some []) fun vs => some (v :: vs))
set_option maxRecDepth 20000
set_option maxHeartbeats 4000000
def n43_12_w := zDr cx43 [n43_13,n43_12] [] [0,1,0,7,15,31,63,0,255] [0,1,2,3,4,5,6,7,8] .f
def sn43 := zAll cx43 [[n43_8],[n43_9],[n43_8,n43_9,n43_7],[n43_7,n43_6],[n43_15],[n43_15,n43_14],[n43_16],[n43_14,n43_16,n43_13],[n43_12,n43_11],[n43_17],[n43_11,n43_17,n43_10],[n43_6,n43_10,n43_5],[n43_5,n43_4],[n43_4,n43_3],[n43_3,n43_2],[n43_19],[n43_19,n43_18],[n43_2,n43_18,n43_1],[n43_1,n43_0]]
end
end Go.Vab

/- How the code of a function is read. Printed by wip/tools/gen2.py and gen3.py (own work). -/
namespace Go.Vab
open Go Go.Proofs
set_option maxRecDepth 20000
set_option maxHeartbeats 4000000
end Go.Vab

/- How the code of a function is read. Printed by wip/tools/gen2.py and gen3.py (own work). -/
namespace Go.Vab
open Go Go.Proofs
set_option maxRecDepth 20000
set_option maxHeartbeats 4000000
end Go.Vab

/- How the code of a function is read. Printed by wip/tools/gen2.py and gen3.py (own work). -/
namespace Go.Vab
open Go Go.Proofs
set_option maxRecDepth 20000
set_option maxHeartbeats 4000000
end Go.Vab

/- How the code of a function is read. Printed by wip/tools/gen2.py and gen3.py (own work). -/
namespace Go.Vab
open Go Go.Proofs
set_option maxRecDepth 20000
set_option maxHeartbeats 4000000
end Go.Vab

/- How the code of a function is read. Printed by wip/tools/gen2.py and gen3.py (own work). -/
namespace Go.Vab
open Go Go.Proofs
set_option maxRecDepth 20000
set_option maxHeartbeats 4000000
end Go.Vab

/- How the code of a function is read. Printed by wip/tools/gen2.py and gen3.py (own work). -/
namespace Go.Vab
open Go Go.Proofs
noncomputable section
def cx26 : Ctx := ⟨fun _ _ _ => none,TT,75,[8,9,10,11,13,14,15,16,17,18,19,20,21,22,23,24,25,26,27,28,29,30,31,32,33,35,36,37,38,39,40,41,42,43,44,45,46,47,48,49,50,51,52,54,55,56,57,58,59,60,61,62,63,64,65,67,68,69,70,71,72,73,74]⟩
def n26_0 := bodyOf Tryz.f26
def n26_1 := cR n26_0
def n26_2 := cR n26_1
def n26_3 := cL n26_2
def n26_4 := cR n26_3
def n26_5 := cL n26_4
def n26_6 := cR n26_5
def n26_7 := cR n26_4
def n26_8 := cR n26_2
def n26_9 := cR n26_8
def n26_10 := cL n26_9
def n26_11 := cR n26_10
def n26_12 := cL n26_11
def n26_13 := cR n26_12
def n26_14 := cR n26_11
def n26_15 := cR n26_9
def n26_16 := cR n26_15
def n26_17 := cL n26_16
def n26_18 := cR n26_17
def n26_19 := cL n26_18
def n26_20 := cR n26_19
def n26_21 := cR n26_18
def n26_22 := cR n26_16
def n26_23 := cR n26_22
def n26_24 := cL n26_23
def n26_25 := cR n26_24
def n26_26 := cL n26_25
def n26_27 := cR n26_26
def n26_28 := cR n26_25
def n26_29 := cR n26_23
def n26_30 := cR n26_29
def q26 := zQ2 cx26 26 Tryz.f26 n26_0 fun s => (bnd (some (s.env.get 4)) fun v => bnd (bnd (some (s.env.get 5)) fun v => bnd (bnd (mLoad (.arr 32 (.int .u8)) (s.env.get 6) s.heap) fun v => bnd (some []) fun vs => some (v :: vs)) fun vs => some (v :: vs)) fun vs => some (v :: vs))
set_option maxRecDepth 20000
set_option maxHeartbeats 4000000
def n26_5_w := zDr cx26 [n26_6,n26_5] [19] [0,1,0,7,15,31,63,127,0,256,0,1792,3840,7936,16128,32767,0,0,196607,524287] [0,1,2,3,4,5,6,7,8,9,10,11,12,13,14,15,16,17,18] (.o 19 [] [] .f)
def n26_12_w := zDr cx26 [n26_13,n26_12] [16] [0,1,0,7,15,31,63,0,128,0,896,1920,3968,8064,0,16511,65535] [0,1,2,3,4,5,6,7,8,9,10,11,12,13,14,15] (.o 16 [] [] .f)
def n26_19_w := zDr cx26 [n26_20,n26_19] [10] [0,1,0,7,15,31,63,0,0,383,1023] [0,1,2,3,4,5,6,7,8,9] (.o 10 [] [] .f)
def n26_26_w := zDr cx26 [n26_27,n26_26] [9] [0,1,0,7,15,31,63,0,128,511] [0,1,2,3,4,5,6,7,8] (.o 9 [] [] .f)
def sn26 := zAll cx26 [[n26_6],[n26_7],[n26_5,n26_7,n26_4],[n26_4,n26_3],[n26_13],[n26_14],[n26_12,n26_14,n26_11],[n26_11,n26_10],[n26_20],[n26_21],[n26_19,n26_21,n26_18],[n26_18,n26_17],[n26_27],[n26_28],[n26_26,n26_28,n26_25],[n26_25,n26_24],[n26_30],[n26_30,n26_29],[n26_24,n26_29,n26_23],[n26_23,n26_22],[n26_17,n26_22,n26_16],[n26_16,n26_15],[n26_10,n26_15,n26_9],[n26_9,n26_8],[n26_3,n26_8,n26_2],[n26_2,n26_1],[n26_1,n26_0]]
end
end Go.Vab

/-
  The document's small functions, walked.
-/
namespace Go.Vab
open Go Go.Proofs
theorem runRf1_0 {G X : Prop} (f : Hd X → G := by
 intro xX
 repeat' (first | refine stp (x := ?_) | (simp (decide := true) only [sn86, snB, if_true, if_false]) | (with_reducible refine n86_1_w _ _ _ ?_))
 exact xX.get) (x : X) : G := f ⟨x⟩
theorem runRf1_1 {G X : Prop} (f : Hd X → G := by
 intro xX
 repeat' (first | refine stp (x := ?_) | (simp (decide := true) only [sn36, snB, if_true, if_false]) | (with_reducible refine n36_12_w _ _ _ ?_))
 exact xX.get) (x : X) : G := f ⟨x⟩
theorem runRf1_2 {G X : Prop} (f : Hd X → G := by
 intro xX
 repeat' (first | refine stp (x := ?_) | (simp (decide := true) only [sn41, snB, if_true, if_false]) | (with_reducible refine n41_12_w _ _ _ ?_))
 exact xX.get) (x : X) : G := f ⟨x⟩
theorem runRf1_3 {G X : Prop} (f : Hd X → G := by
 intro xX
 repeat' (first | refine stp (x := ?_) | (simp (decide := true) only [sn42, snB, if_true, if_false]) | (with_reducible refine n42_12_w _ _ _ ?_))
 exact xX.get) (x : X) : G := f ⟨x⟩
theorem runRf1_4 {G X : Prop} (f : Hd X → G := by
 intro xX
 repeat' (first | refine stp (x := ?_) | (simp (decide := true) only [sn43, snB, if_true, if_false]) | (with_reducible refine n43_12_w _ _ _ ?_))
 exact xX.get) (x : X) : G := f ⟨x⟩
theorem runRf1_8 {G X : Prop} (f : Hd X → G := by
 intro xX
 repeat' (first | ((with_reducible refine evs_of (a := ?_) ?_ ?_); rotate_left; (focus ((conv => lhs; simp (disch := omega) [ff, fold_nat]); done)); try dsimp only) | ((with_reducible refine cndW_T ?_ ?_); (focus (simp (disch := omega) [ff, fold_nat] <;> omega))) | ((with_reducible refine cndW_F ?_ ?_); (focus (simp (disch := omega) [ff, fold_nat] <;> omega))) | (with_reducible refine wL_i ?_) | (with_reducible refine SpecQ.step (c36 (ra.app _)) ?_; rintro _ rfl; try dsimp only) | ((with_reducible refine SpecA_i (args' := ?_) ?_ ?_); rotate_left; (focus ((conv => lhs; simp (disch := omega) [ff, fold_nat]); done))) | (simp (decide := true) only [sn26, sqW_nrm, sqW_exit, sqW_ret, inBlk_nrm, inBlk_ret, inBlk_same, inBlk_exit, if_true, if_false, retW_nrm, retW_ret]) | (with_reducible refine n26_5_w _ _ _ ?_) | (with_reducible refine n26_12_w _ _ _ ?_) | (with_reducible refine n26_19_w _ _ _ ?_) | (with_reducible refine n26_26_w _ _ _ ?_))
 exact xX.get) (x : X) : G := f ⟨x⟩
theorem runRf1_9 {G X : Prop} (f : Hd X → G := by
 intro xX
 repeat' (first | ((with_reducible refine evs_of (a := ?_) ?_ ?_); rotate_left; (focus ((conv => lhs; simp (disch := omega) [ff, fold_nat]); done)); try dsimp only) | ((with_reducible refine cndW_T ?_ ?_); (focus (simp (disch := omega) [ff, fold_nat] <;> omega))) | ((with_reducible refine cndW_F ?_ ?_); (focus (simp (disch := omega) [ff, fold_nat] <;> omega))) | (with_reducible refine wL_i ?_) | (with_reducible refine SpecQ.step (c36 (ra.app _)) ?_; rintro _ rfl; try dsimp only) | (with_reducible refine SpecQ.step (c41 (ra.app _)) ?_; rintro _ rfl; try dsimp only) | ((with_reducible refine SpecA_i (args' := ?_) ?_ ?_); rotate_left; (focus ((conv => lhs; simp (disch := omega) [ff, fold_nat]); done))) | (simp (decide := true) only [sn26, sqW_nrm, sqW_exit, sqW_ret, inBlk_nrm, inBlk_ret, inBlk_same, inBlk_exit, if_true, if_false, retW_nrm, retW_ret]) | (with_reducible refine n26_5_w _ _ _ ?_) | (with_reducible refine n26_12_w _ _ _ ?_) | (with_reducible refine n26_19_w _ _ _ ?_) | (with_reducible refine n26_26_w _ _ _ ?_))
 exact xX.get) (x : X) : G := f ⟨x⟩
theorem runRf1_10 {G X : Prop} (f : Hd X → G := by
 intro xX
 repeat' (first | ((with_reducible refine evs_of (a := ?_) ?_ ?_); rotate_left; (focus ((conv => lhs; simp (disch := omega) [ff, fold_nat]); done)); try dsimp only) | ((with_reducible refine cndW_T ?_ ?_); (focus (simp (disch := omega) [ff, fold_nat] <;> omega))) | ((with_reducible refine cndW_F ?_ ?_); (focus (simp (disch := omega) [ff, fold_nat] <;> omega))) | (with_reducible refine wL_i ?_) | (with_reducible refine SpecQ.step (c36 (ra.app _)) ?_; rintro _ rfl; try dsimp only) | (with_reducible refine SpecQ.step (c41 (ra.app _)) ?_; rintro _ rfl; try dsimp only) | (with_reducible refine SpecQ.step (c42 (ra.app _)) ?_; rintro _ rfl; try dsimp only) | ((with_reducible refine SpecA_i (args' := ?_) ?_ ?_); rotate_left; (focus ((conv => lhs; simp (disch := omega) [ff, fold_nat]); done))) | (simp (decide := true) only [sn26, sqW_nrm, sqW_exit, sqW_ret, inBlk_nrm, inBlk_ret, inBlk_same, inBlk_exit, if_true, if_false, retW_nrm, retW_ret]) | (with_reducible refine n26_5_w _ _ _ ?_) | (with_reducible refine n26_12_w _ _ _ ?_) | (with_reducible refine n26_19_w _ _ _ ?_) | (with_reducible refine n26_26_w _ _ _ ?_))
 exact xX.get) (x : X) : G := f ⟨x⟩
theorem runRf1_11 {G X : Prop} (f : Hd X → G := by
 intro xX
 repeat' (first | ((with_reducible refine evs_of (a := ?_) ?_ ?_); rotate_left; (focus ((conv => lhs; simp (disch := omega) [ff, fold_nat]); done)); try dsimp only) | ((with_reducible refine cndW_T ?_ ?_); (focus (simp (disch := omega) [ff, fold_nat] <;> omega))) | ((with_reducible refine cndW_F ?_ ?_); (focus (simp (disch := omega) [ff, fold_nat] <;> omega))) | (with_reducible refine wL_i ?_) | (with_reducible refine SpecQ.step (c36 (ra.app _)) ?_; rintro _ rfl; try dsimp only) | (with_reducible refine SpecQ.step (c41 (ra.app _)) ?_; rintro _ rfl; try dsimp only) | (with_reducible refine SpecQ.step (c42 (ra.app _)) ?_; rintro _ rfl; try dsimp only) | (with_reducible refine SpecQ.step (c43 (ra.app _)) ?_; rintro _ rfl; try dsimp only) | ((with_reducible refine SpecA_i (args' := ?_) ?_ ?_); rotate_left; (focus ((conv => lhs; simp (disch := omega) [ff, fold_nat]); done))) | (simp (decide := true) only [sn26, sqW_nrm, sqW_exit, sqW_ret, inBlk_nrm, inBlk_ret, inBlk_same, inBlk_exit, if_true, if_false, retW_nrm, retW_ret]) | (with_reducible refine n26_5_w _ _ _ ?_) | (with_reducible refine n26_12_w _ _ _ ?_) | (with_reducible refine n26_19_w _ _ _ ?_) | (with_reducible refine n26_26_w _ _ _ ?_))
 exact xX.get) (x : X) : G := f ⟨x⟩
theorem runRf1_12 {G X : Prop} (f : Hd X → G := by
 intro xX
 repeat' (first | refine stp (x := ?_) | (with_reducible refine SpecQ.step (c36 (ra.app _)) ?_; rintro _ rfl; try dsimp only) | (with_reducible refine SpecQ.step (c41 (ra.app _)) ?_; rintro _ rfl; try dsimp only) | (with_reducible refine SpecQ.step (c42 (ra.app _)) ?_; rintro _ rfl; try dsimp only) | (with_reducible refine SpecQ.step (c43 (ra.app _)) ?_; rintro _ rfl; try dsimp only) | (simp (decide := true) only [sn26, snB, if_true, if_false]) | (with_reducible refine n26_5_w _ _ _ ?_) | (with_reducible refine n26_12_w _ _ _ ?_) | (with_reducible refine n26_19_w _ _ _ ?_) | (with_reducible refine n26_26_w _ _ _ ?_))
 exact xX.get) (x : X) : G := f ⟨x⟩
theorem c86 {h : Heap} {p q : Pt} : SpecQ Tryz.prog 86 [pt p, pt q] h fun r => r = (.bool (ltP p q), h) := by
 refine SpecQ.drop1 rfl (q86 fun env g0 g1 => ?_)
 have s1 := fun l => (pt_bytA (h := h ++ ⟨pt p, 0, .own⟩ :: l) (i := h.length) (path := []) (p := p) (by simp)).str
 have s2 := fun l => (pt_bytA (h := h ++ ⟨pt p, 0, .own⟩ :: ⟨pt q, 0, .own⟩ :: l) (i := h.length + 1) (path := []) (p := q) (by simp)).str
 have ff := aI g0 (aI g1 (aI s1 s2))
 refine runRf1_0 (x := ?_)
 clear ff
 exact ⟨_, rfl⟩
theorem c39 {h : Heap} {r : BitVec 8} : SpecQ Tryz.prog 39 [u8 r] h fun x => x = (.bool (roleOk r), h) := by
 refine SpecQ.drop1 rfl (q39 fun env g0 => ?_)
 repeat' (first | ((with_reducible refine evs_of (a := ?_) ?_ ?_); rotate_left; (focus ((conv => lhs; simp (disch := omega) [g0]); done)); try dsimp only) | (simp (decide := true) only [sn39, sqW_nrm, sqW_exit, sqW_ret, inBlk_nrm, inBlk_ret, inBlk_same, inBlk_exit, if_true, if_false, retW_nrm, retW_ret]) | ((with_reducible refine gv_splitE (b := ?_) ?_ ?_ ?_); rotate_left; (focus ((conv => lhs; simp (disch := omega) [g0]); done)); all_goals ((intro hb; try simp only [Bool.not_true, Bool.not_false] at hb); try simp only [hb])) | (with_reducible refine gv_split ?_ ?_ <;> (intro hb; try simp only [Bool.not_true, Bool.not_false] at hb) <;> try simp only [hb]))
 all_goals refine fin_b0 ?_
 all_goals (unfold roleOk; simp_all)
theorem c37 {h : Heap} {a : Acc} : SpecQ Tryz.prog 37 [eAcc a] h fun x => x = (.bool (accOk a), h) := by
 refine SpecQ.drop1 rfl (q37 fun env g0 => ?_)
 repeat' (first | ((with_reducible refine evs_of (a := ?_) ?_ ?_); rotate_left; (focus ((conv => lhs; simp (disch := omega) [g0]); done)); try dsimp only) | ((with_reducible refine gW_do ?_ ?_); (focus (simp (disch := omega) [g0]; done))) | ((with_reducible refine gW_no ?_ ?_); (focus (simp (disch := omega) [g0]; done)); try dsimp only) | ((with_reducible refine gW_un ?_ ?_); (focus (simp (disch := omega) [g0]; done)); try dsimp only) | (with_reducible refine SpecQ.step (c39) ?_; rintro _ rfl; try dsimp only) | ((with_reducible refine SpecA_i (args' := ?_) ?_ ?_); rotate_left; (focus ((conv => lhs; simp (disch := omega) [g0]); done))) | (simp (decide := true) only [sn37, sqW_nrm, sqW_exit, sqW_ret, inBlk_nrm, inBlk_ret, inBlk_same, inBlk_exit, if_true, if_false, retW_nrm, retW_ret]) | ((with_reducible refine gv_splitE (b := ?_) ?_ ?_ ?_); rotate_left; (focus ((conv => lhs; simp (disch := omega) [g0]); done)); all_goals ((intro hb; try simp only [Bool.not_true, Bool.not_false] at hb); try simp only [hb])) | ((with_reducible refine gW_splitE (b := ?_) ?_ ?_ ?_); rotate_left; (focus ((conv => lhs; simp (disch := omega) [g0]); done)); all_goals ((intro hb; try simp only [Bool.not_true, Bool.not_false] at hb); try simp only [hb])) | (with_reducible refine gv_split ?_ ?_ <;> (intro hb; try simp only [Bool.not_true, Bool.not_false] at hb) <;> try simp only [hb]) | (with_reducible refine gW_split ?_ ?_ <;> (intro hb; try simp only [Bool.not_true, Bool.not_false] at hb) <;> try simp only [hb]))
 all_goals refine fin_b ?_
 all_goals (unfold accOk; simp_all)
theorem c36 {h : Heap} {s : Stt} {vt vp vs vi va vb : AV} {e : Pt} (ra : StR h s vt vp vs vi va vb) : SpecQ Tryz.prog 36 [eSt s vt vp vs vi va vb, pt e] h fun r => r = (.int .i64 (idxI fS s.seats e), h) := by
 have ta := ra.cells
 have lx := ra.fs.len
 have bx := ra.fs.bound
 rw [List.length_map] at lx bx
 refine SpecQ.drop1 rfl (q36 fun env g0 g1 => ?_)
 have ff := aI g0 (aI g1 (aI ta lx))
 refine runRf1_1 (x := ?_)
 clear ff
 refine loop_up s.seats.length (fun i st => ∃ env', st = ⟨env', h ++ [⟨eSt s vt vp vs vi va vb, 0, .own⟩, ⟨pt e, 0, .own⟩]⟩ ∧ env'.get 2 = .ptr h.length 0 [] tState ∧ env'.get 3 = .ptr (h.length + 1) 0 [] (.arr 32 (.int .u8)) ∧ env'.get 5 = nat i ∧ ∀ j (hj : j < s.seats.length), j < i → fS s.seats[j] ≠ e) ?_ ?_ ⟨_, rfl, by simp, by simp, by simp, fun j _ hj => absurd hj (by omega)⟩
 ·rintro i st hi ⟨env', rfl, e2, e3, e5, hne⟩
  obtain ⟨pb, pv, pp, bb, p1, p2, p3, p4⟩ := ra.fs.idxE hi
  by_cases hq : s.seats[i].who.e = e
  ·have ff := aI e2 (aI e3 (aI e5 (aI ta (aI lx (aI p1 (aI p2 (aI p3 (aI p4 hq))))))))
   refine runRf1_1 (x := ?_)
   clear ff
   refine .inr ⟨by simp, ?_⟩
   have ff := e5
   refine runRf1_1 (x := ?_)
   clear ff
   refine ⟨_, (by rw [idxI_yes fS hi hq hne]; rfl)⟩
  ·have ff := aI e2 (aI e3 (aI e5 (aI ta (aI lx (aI p1 (aI p2 (aI p3 (aI p4 hq))))))))
   refine runRf1_1 (x := ?_)
   clear ff
   refine .inl ⟨by simp, _, rfl, by simp [e2], by simp [e3], by simp, fun j hj hji => ?_⟩
   by_cases hji' : j = i
   ·subst hji'; exact hq
   ·exact hne j hj (by omega)
 ·rintro st ⟨env', rfl, e2, e3, e5, hne⟩
  have ff := aI e2 (aI e5 (aI lx ta))
  refine runRf1_1 (x := ?_)
  clear ff
  refine ⟨by simp, ?_⟩
  have ff := e2
  refine runRf1_1 (x := ?_)
  clear ff
  exact ⟨_, (by rw [idxI_no fS fun j hj => hne j hj hj]; rfl)⟩
theorem c41 {h : Heap} {s : Stt} {vt vp vs vi va vb : AV} {e : Pt} (ra : StR h s vt vp vs vi va vb) : SpecQ Tryz.prog 41 [eSt s vt vp vs vi va vb, pt e] h fun r => r = (.int .i64 (idxI fI s.invites e), h) := by
 have ta := ra.cells
 have lx := ra.fi.len
 have bx := ra.fi.bound
 rw [List.length_map] at lx bx
 refine SpecQ.drop1 rfl (q41 fun env g0 g1 => ?_)
 have ff := aI g0 (aI g1 (aI ta lx))
 refine runRf1_2 (x := ?_)
 clear ff
 refine loop_up s.invites.length (fun i st => ∃ env', st = ⟨env', h ++ [⟨eSt s vt vp vs vi va vb, 0, .own⟩, ⟨pt e, 0, .own⟩]⟩ ∧ env'.get 2 = .ptr h.length 0 [] tState ∧ env'.get 3 = .ptr (h.length + 1) 0 [] (.arr 32 (.int .u8)) ∧ env'.get 5 = nat i ∧ ∀ j (hj : j < s.invites.length), j < i → fI s.invites[j] ≠ e) ?_ ?_ ⟨_, rfl, by simp, by simp, by simp, fun j _ hj => absurd hj (by omega)⟩
 ·rintro i st hi ⟨env', rfl, e2, e3, e5, hne⟩
  obtain ⟨pb, pv, pp, bb, p1, p2, p3, p4⟩ := ra.fi.idxE hi
  by_cases hq : s.invites[i].who.e = e
  ·have ff := aI e2 (aI e3 (aI e5 (aI ta (aI lx (aI p1 (aI p2 (aI p3 (aI p4 hq))))))))
   refine runRf1_2 (x := ?_)
   clear ff
   refine .inr ⟨by simp, ?_⟩
   have ff := e5
   refine runRf1_2 (x := ?_)
   clear ff
   refine ⟨_, (by rw [idxI_yes fI hi hq hne]; rfl)⟩
  ·have ff := aI e2 (aI e3 (aI e5 (aI ta (aI lx (aI p1 (aI p2 (aI p3 (aI p4 hq))))))))
   refine runRf1_2 (x := ?_)
   clear ff
   refine .inl ⟨by simp, _, rfl, by simp [e2], by simp [e3], by simp, fun j hj hji => ?_⟩
   by_cases hji' : j = i
   ·subst hji'; exact hq
   ·exact hne j hj (by omega)
 ·rintro st ⟨env', rfl, e2, e3, e5, hne⟩
  have ff := aI e2 (aI e5 (aI lx ta))
  refine runRf1_2 (x := ?_)
  clear ff
  refine ⟨by simp, ?_⟩
  have ff := e2
  refine runRf1_2 (x := ?_)
  clear ff
  exact ⟨_, (by rw [idxI_no fI fun j hj => hne j hj hj]; rfl)⟩
theorem c42 {h : Heap} {s : Stt} {vt vp vs vi va vb : AV} {e : Pt} (ra : StR h s vt vp vs vi va vb) : SpecQ Tryz.prog 42 [eSt s vt vp vs vi va vb, pt e] h fun r => r = (.int .i64 (idxI fA s.asks e), h) := by
 have ta := ra.cells
 have lx := ra.fa.len
 have bx := ra.fa.bound
 rw [List.length_map] at lx bx
 refine SpecQ.drop1 rfl (q42 fun env g0 g1 => ?_)
 have ff := aI g0 (aI g1 (aI ta lx))
 refine runRf1_3 (x := ?_)
 clear ff
 refine loop_up s.asks.length (fun i st => ∃ env', st = ⟨env', h ++ [⟨eSt s vt vp vs vi va vb, 0, .own⟩, ⟨pt e, 0, .own⟩]⟩ ∧ env'.get 2 = .ptr h.length 0 [] tState ∧ env'.get 3 = .ptr (h.length + 1) 0 [] (.arr 32 (.int .u8)) ∧ env'.get 5 = nat i ∧ ∀ j (hj : j < s.asks.length), j < i → fA s.asks[j] ≠ e) ?_ ?_ ⟨_, rfl, by simp, by simp, by simp, fun j _ hj => absurd hj (by omega)⟩
 ·rintro i st hi ⟨env', rfl, e2, e3, e5, hne⟩
  obtain ⟨pb, pv, pp, bb, p1, p2, p3, p4⟩ := ra.fa.idxE hi
  by_cases hq : s.asks[i].who.e = e
  ·have ff := aI e2 (aI e3 (aI e5 (aI ta (aI lx (aI p1 (aI p2 (aI p3 (aI p4 hq))))))))
   refine runRf1_3 (x := ?_)
   clear ff
   refine .inr ⟨by simp, ?_⟩
   have ff := e5
   refine runRf1_3 (x := ?_)
   clear ff
   refine ⟨_, (by rw [idxI_yes fA hi hq hne]; rfl)⟩
  ·have ff := aI e2 (aI e3 (aI e5 (aI ta (aI lx (aI p1 (aI p2 (aI p3 (aI p4 hq))))))))
   refine runRf1_3 (x := ?_)
   clear ff
   refine .inl ⟨by simp, _, rfl, by simp [e2], by simp [e3], by simp, fun j hj hji => ?_⟩
   by_cases hji' : j = i
   ·subst hji'; exact hq
   ·exact hne j hj (by omega)
 ·rintro st ⟨env', rfl, e2, e3, e5, hne⟩
  have ff := aI e2 (aI e5 (aI lx ta))
  refine runRf1_3 (x := ?_)
  clear ff
  refine ⟨by simp, ?_⟩
  have ff := e2
  refine runRf1_3 (x := ?_)
  clear ff
  exact ⟨_, (by rw [idxI_no fA fun j hj => hne j hj hj]; rfl)⟩
theorem c43 {h : Heap} {s : Stt} {vt vp vs vi va vb : AV} {e : Pt} (ra : StR h s vt vp vs vi va vb) : SpecQ Tryz.prog 43 [eSt s vt vp vs vi va vb, pt e] h fun r => r = (.int .i64 (idxI fB s.bans e), h) := by
 have ta := ra.cells
 have lx := ra.fb.len
 have bx := ra.fb.bound
 rw [List.length_map] at lx bx
 refine SpecQ.drop1 rfl (q43 fun env g0 g1 => ?_)
 have ff := aI g0 (aI g1 (aI ta lx))
 refine runRf1_4 (x := ?_)
 clear ff
 refine loop_up s.bans.length (fun i st => ∃ env', st = ⟨env', h ++ [⟨eSt s vt vp vs vi va vb, 0, .own⟩, ⟨pt e, 0, .own⟩]⟩ ∧ env'.get 2 = .ptr h.length 0 [] tState ∧ env'.get 3 = .ptr (h.length + 1) 0 [] (.arr 32 (.int .u8)) ∧ env'.get 5 = nat i ∧ ∀ j (hj : j < s.bans.length), j < i → fB s.bans[j] ≠ e) ?_ ?_ ⟨_, rfl, by simp, by simp, by simp, fun j _ hj => absurd hj (by omega)⟩
 ·rintro i st hi ⟨env', rfl, e2, e3, e5, hne⟩
  obtain ⟨pb, pv, pp, bb, p1, p2, p3, p4⟩ := ra.fb.idxE hi
  by_cases hq : s.bans[i].who.e = e
  ·have ff := aI e2 (aI e3 (aI e5 (aI ta (aI lx (aI p1 (aI p2 (aI p3 (aI p4 hq))))))))
   refine runRf1_4 (x := ?_)
   clear ff
   refine .inr ⟨by simp, ?_⟩
   have ff := e5
   refine runRf1_4 (x := ?_)
   clear ff
   refine ⟨_, (by rw [idxI_yes fB hi hq hne]; rfl)⟩
  ·have ff := aI e2 (aI e3 (aI e5 (aI ta (aI lx (aI p1 (aI p2 (aI p3 (aI p4 hq))))))))
   refine runRf1_4 (x := ?_)
   clear ff
   refine .inl ⟨by simp, _, rfl, by simp [e2], by simp [e3], by simp, fun j hj hji => ?_⟩
   by_cases hji' : j = i
   ·subst hji'; exact hq
   ·exact hne j hj (by omega)
 ·rintro st ⟨env', rfl, e2, e3, e5, hne⟩
  have ff := aI e2 (aI e5 (aI lx ta))
  refine runRf1_4 (x := ?_)
  clear ff
  refine ⟨by simp, ?_⟩
  have ff := e2
  refine runRf1_4 (x := ?_)
  clear ff
  exact ⟨_, (by rw [idxI_no fB fun j hj => hne j hj hj]; rfl)⟩
def ePlace (x : Nat × BitVec 64 × Pt) : AV := .tuple [nat x.1, u64 x.2.1, pt x.2.2]
theorem c26 {h : Heap} {s : Stt} {vt vp vs vi va vb : AV} {e : Pt} (ra : StR h s vt vp vs vi va vb) : SpecQ Tryz.prog 26 [eSt s vt vp vs vi va vb, pt e] h fun x => x = (ePlace (placeP s e), h) := by
 have ta := ra.cells
 refine SpecQ.drop1 (by simp only [ePlace, AV.under, AV.unders, pt_bi]; rfl) (q26 fun env g0 g1 => ?_)
 rcases idxI_spec fS s.seats e with ⟨i, hi, h1, h2, h3⟩ | ⟨h1, h2⟩
 ·obtain ⟨pb, pv, pp, bb, p1, p2, p3, p4⟩ := ra.fs.idxE hi
  have ff := aI g0 (aI g1 (aI ta (aI h1 (aI p1 (aI p2 (aI p3 p4))))))
  refine runRf1_8 (x := ?_)
  clear ff
  exact ⟨_, (by simp only [placeP, h2]; rfl)⟩
 rcases idxI_spec fI s.invites e with ⟨i, hi, k1, k2, k3⟩ | ⟨k1, k2⟩
 ·obtain ⟨pb, pv, pp, bb, p1, p2, p3, p4⟩ := ra.fi.idxE hi
  have ff := aI g0 (aI g1 (aI ta (aI h1 (aI k1 (aI p1 (aI p2 (aI p3 p4)))))))
  refine runRf1_9 (x := ?_)
  clear ff
  exact ⟨_, (by simp only [placeP, h2, k2]; rfl)⟩
 rcases idxI_spec fA s.asks e with ⟨i, hi, m1, m2, m3⟩ | ⟨m1, m2⟩
 ·obtain ⟨pb, pv, pp, bb, p1, p2, p3, p4⟩ := ra.fa.idxE hi
  have ff := aI g0 (aI g1 (aI ta (aI h1 (aI k1 (aI m1 (aI p1 (aI p2 (aI p3 p4))))))))
  refine runRf1_10 (x := ?_)
  clear ff
  exact ⟨_, (by simp only [placeP, h2, k2, m2]; rfl)⟩
 rcases idxI_spec fB s.bans e with ⟨i, hi, n1, n2, n3⟩ | ⟨n1, n2⟩
 ·obtain ⟨pb, pv, pp, bb, p1, p2, p3, p4⟩ := ra.fb.idxE hi
  have ff := aI g0 (aI g1 (aI ta (aI h1 (aI k1 (aI m1 (aI n1 (aI p1 (aI p2 (aI p3 p4)))))))))
  refine runRf1_11 (x := ?_)
  clear ff
  exact ⟨_, (by simp only [placeP, h2, k2, m2, n2]; rfl)⟩
 ·have ff := aI g0 (aI g1 (aI ta (aI h1 (aI k1 (aI m1 n1)))))
  refine runRf1_12 (x := ?_)
  clear ff
  exact ⟨_, (by simp only [placeP, h2, k2, m2, n2]; rfl)⟩
end Go.Vab
