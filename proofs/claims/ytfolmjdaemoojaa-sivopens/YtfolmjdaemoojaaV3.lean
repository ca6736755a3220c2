/-
  The steps of the code's reading, shorter.
-/
import Derived.Test.YtfolmjdaemoojaaV1
import Derived.KernelRfl
import Derived.Test.YtfolmjdaemoojaaProg
import Derived.Test.YtfolmjdaemoojaaV2
import Derived.Test.YtfolmjdaemoojaaRows
import GoSem.Claim
set_option linter.all false
set_option linter.unusedSectionVars false
namespace Go.Vab
open Go

section
variable {β : Type} {C : Ctx} {q : Bool} {L : List Oper} {k : Env → Heap → Option β} {i : Nat} {loc env : Env} {h : Heap}
theorem oP {X : Option (AV × Heap)} {Y : AV × Heap → Option β} (d : Nat)
    (h2 : ∀ r : AV × Heap, evOpsK C q L k (List.drop (i + 1) L) ((d, r.1) :: loc) env r.2 = Y r)
    (hl : List.drop i L = opAt L i :: List.drop (i + 1) L := by kernel_rfl) (hd : (opAt L i).dst = some d := by kernel_rfl) (hlt : decide (d < C.ntmps) = true := by kernel_rfl) (h1 : evOne C q L (opAt L i) loc env h = X := by kernel_rfl) :
    evOpsK C q L k (List.drop i L) loc env h = bnd X Y := opsK_p d hl hd hlt h1 h2
theorem oN {X : Option (AV × Heap)} {Y : AV × Heap → Option β}
    (h2 : ∀ r : AV × Heap, evOpsK C q L k (List.drop (i + 1) L) loc env r.2 = Y r)
    (hl : List.drop i L = opAt L i :: List.drop (i + 1) L := by kernel_rfl) (hd : (opAt L i).dst = none := by kernel_rfl) (h1 : evOne C q L (opAt L i) loc env h = X := by kernel_rfl) :
    evOpsK C q L k (List.drop i L) loc env h = bnd X Y := opsK_n hl hd h1 h2
theorem oT {Y : Option β} (d : Nat) (v : AV) (h2 : evOpsK C q L k (List.drop (i + 1) L) ((d, v) :: loc) env h = Y)
    (hl : List.drop i L = opAt L i :: List.drop (i + 1) L := by kernel_rfl) (hd : (opAt L i).dst = some d := by kernel_rfl) (hlt : decide (d < C.ntmps) = true := by kernel_rfl) (h1 : evOne C q L (opAt L i) loc env h = some (v, h) := by kernel_rfl) :
    evOpsK C q L k (List.drop i L) loc env h = Y := opsK_t d v hl hd hlt h1 h2
theorem oE {Y : Option β} (hl : List.drop i L = [] := by kernel_rfl) (h1 : k (commit C.vol loc env) h = Y := by kernel_rfl) : evOpsK C q L k (List.drop i L) loc env h = Y := opsK_e hl h1
end

section
variable {C : Ctx} {n : Code} {s : St} {env : Env} {h : Heap}
theorem xSR (id : Nat) (ops : Array Oper) (rest : Code) (hn : n = .seq (.region id ops false) rest := by kernel_rfl) : evC C n ⟨env, h⟩ = evOpsK C false ops.toList (fun e g => evC C rest ⟨e, g⟩) ops.toList [] env h := ev_seqreg id ops rest hn
theorem xR (id : Nat) (ops : Array Oper) (hn : n = .region id ops false := by kernel_rfl) : evC C n ⟨env, h⟩ = evOpsK C false ops.toList (fun e g => some (.nrm, ⟨e, g⟩)) ops.toList [] env h := ev_reg id ops hn
theorem xSD (id : Nat) (ops : Array Oper) (rest : Code) (hok : drawOk ops.toList = true) (hn : n = .seq (.region id ops true) rest := by kernel_rfl) : evC C n ⟨env, h⟩ = evOpsK C true ops.toList (fun e g => evC C rest ⟨e, g⟩) ops.toList [] env h := ev_seqdraw id ops rest hn hok
theorem xSDL (id : Nat) (ops : Array Oper) (rest : Code) (hok : loud ops.toList = true) (hn : n = .seq (.region id ops true) rest := by kernel_rfl) : evC C n ⟨env, h⟩ = evOpsK C false ops.toList (fun e g => evC C rest ⟨e, g⟩) ops.toList [] env h := ev_seqdrawL id ops rest hn hok
theorem xD (id : Nat) (ops : Array Oper) (hok : drawOk ops.toList = true) (hn : n = .region id ops true := by kernel_rfl) : evC C n ⟨env, h⟩ = evOpsK C true ops.toList (fun e g => some (.nrm, ⟨e, g⟩)) ops.toList [] env h := ev_draw id ops hn hok
theorem xS (a b : Code) (hn : n = .seq a b := by kernel_rfl) : evC C n s = bnd (evC C a s) (sqK (evC C b)) := ev_seq a b hn
theorem xC (t : Nat) (a b : Code) (hn : n = .cond (.tmp t) a b := by kernel_rfl) : evC C n s = cnd (s.env.get t) (evC C a s) (evC C b s) := ev_cond t a b hn
theorem xB (id : Nat) (c : Code) (hn : n = .block id c := by kernel_rfl) : evC C n s = bnd (evC C c s) fun r => some (inBlk id r) := ev_block id c hn
theorem xL (c : Code) (hn : n = .loop c := by kernel_rfl) : evC C n s = evLoop (evC C c) s := ev_loop c hn
theorem xX (id : Nat) (hn : n = .exit id := by kernel_rfl) : evC C n s = some (.exit id, s) := ev_exit id hn
theorem xE (hn : n = .ret := by kernel_rfl) : evC C n s = some (.ret, s) := ev_ret hn
theorem xK (hn : n = .skip := by kernel_rfl) : evC C n s = some (.nrm, s) := ev_skip hn
end

theorem Y {a b : Prop} (x : a) (y : b) : a ∧ b := ⟨x, y⟩
end Go.Vab

/- The types of a seat, as the evaluator wants them. Printed by wip/tools/gen.py (own work). -/
namespace Go.Vab
open Go Go.Proofs
def ty66 : Ty := (.struct [(.int .u64), (.int .u64)])
theorem ty66_x : ty66 = (.struct [(.int .u64), (.int .u64)]) := rfl
@[simp] theorem hasTy_ty66 (vs : List AV) : hasTy (.node vs) ty66 = hasTys vs [(.int .u64), (.int .u64)] := rfl
@[simp] theorem size_ty66 : Ty.size ty66 = 2 := by rfl
@[simp] theorem mFieldAddr_ty66_0 (b ver : Nat) (path : List Nat) : mFieldAddr ty66 (.ptr b ver path ty66) 0 = some (.ptr b ver (path ++ [0]) (.int .u64)) := by simp [mFieldAddr, ty66]
@[simp] theorem mField_ty66_0 (vs : List AV) : mField ty66 (.node vs) 0 = if hasTys vs [(.int .u64), (.int .u64)] then vs[0]? else none := rfl
@[simp] theorem mFieldAddr_ty66_1 (b ver : Nat) (path : List Nat) : mFieldAddr ty66 (.ptr b ver path ty66) 1 = some (.ptr b ver (path ++ [1]) (.int .u64)) := by simp [mFieldAddr, ty66]
@[simp] theorem mField_ty66_1 (vs : List AV) : mField ty66 (.node vs) 1 = if hasTys vs [(.int .u64), (.int .u64)] then vs[1]? else none := rfl
def ttl : List (Nat × TI) := [
  (3, ⟨(.int .i64), 8, (nat 0), none, some .i64, false, none, false⟩),
  (4, ⟨.cell, 1, (.bool false), none, none, false, none, true⟩),
  (5, ⟨(.int .u8), 1, (u8 0#8), none, some .u8, false, none, false⟩),
  (9, ⟨.cell, 16, (.str .empty), none, none, true, none, false⟩),
  (26, ⟨(.arr 32 (.int .u8)), 32, (arr 32 fun _ => 0#8), none, none, false, none, false⟩),
  (27, ⟨(.arr 16 (.int .u8)), 16, (arr 16 fun _ => 0#8), none, none, false, none, false⟩),
  (32, ⟨(.arr 4 (.int .u8)), 4, (arr 4 fun _ => 0#8), none, none, false, none, false⟩),
  (33, ⟨(.arr 60 (.arr 4 (.int .u8))), 240, (mat 60 4 fun _ _ => 0#8), none, none, false, none, false⟩),
  (36, ⟨(.arr 12 (.int .u8)), 12, (arr 12 fun _ => 0#8), none, none, false, none, false⟩),
  (37, ⟨.cell, 24, .nilslice, some 5, none, false, none, false⟩),
  (40, ⟨(.int .i64), 8, (nat 0), none, some .i64, false, none, false⟩),
  (52, ⟨(.int .u64), 8, (u64 0#64), none, some .u64, false, none, false⟩),
  (54, ⟨(.arr 256 (.int .u8)), 256, (arr 256 fun _ => 0#8), none, none, false, none, false⟩),
  (65, ⟨(.int .u64), 8, (u64 0#64), none, some .u64, false, none, false⟩),
  (67, ⟨ty66, 16, (.node [(u64 0#64), (u64 0#64)]), none, none, false, none, false⟩),
  (72, ⟨(.arr 128 (.int .i64)), 1024, (.ints .i64 (List.replicate 128 0)), none, none, false, none, false⟩),
  (77, ⟨(.arr 4 (.arr 4 (.int .u8))), 16, (mat 4 4 fun _ _ => 0#8), none, none, false, none, false⟩),
  (81, ⟨(.arr 255 (.int .i64)), 2040, (.ints .i64 (List.replicate 255 0)), none, none, false, none, false⟩)]
def TT : Nat → Option TI := tabOf ttl
theorem TT_ok : TTok Try.prog TT := ttB_ok (by kernel_rfl)
theorem mixed_ok : Try.prog.follows .mixedOrders = true := by kernel_rfl
end Go.Vab

/-
  The seat's closed facts.
-/
namespace Go.Proofs.Ytfolmjdaemoojaa
open Go.Vab

theorem ownV : ownKnob Try.prog.godebug = none := by kernel_rfl
theorem laidV : laidOutB Try.prog = true := by kernel_rfl
def okV : List TypeId := [3, 4, 5, 26, 27, 36, 37]
theorem plainV : plainB Try.prog TT okV = true := by kernel_rfl
theorem boolV : Try.prog.underlying 4 = some .bool := by kernel_rfl
theorem und5 : Try.prog.underlying 5 = some (.int .u8) := by kernel_rfl
theorem und26 : Try.prog.underlying 26 = some (.array 32 5) := by kernel_rfl
theorem und27 : Try.prog.underlying 27 = some (.array 16 5) := by kernel_rfl
theorem und36 : Try.prog.underlying 36 = some (.array 12 5) := by kernel_rfl
theorem und37 : Try.prog.underlying 37 = some (.slice 5) := by kernel_rfl
theorem tt5 : TT 5 = some ⟨(.int .u8), 1, (u8 0#8), none, some .u8, false, none, false⟩ := by kernel_rfl

theorem rd5 {h : Heap} {n : Nat} {a : AV} (hr : Rd Try.prog TT h n 5 a) : ∃ x : BitVec 8, a = u8 x := by
  cases n with
  | zero => exact hr.elim
  | succ n =>
    simp only [Rd, und5] at hr
    obtain ⟨x, rfl, hw⟩ := hr
    simp [Lit.wf, IntKind.min, IntKind.max, IntKind.signed, IntKind.bits] at hw
    refine ⟨BitVec.ofInt 8 x, ?_⟩
    unfold u8
    rw [BitVec.toNat_ofInt]
    congr 1
    have h2 : ((2 ^ 8 : Nat) : Int) = 256 := rfl
    omega

theorem row5 {h : Heap} {n m : Nat} {v : AV} (ht : hasTy v (.arr m (.int .u8)) = true) (hr : ∀ j, j < m → ∃ x, v.get [j] = some x ∧ Rd Try.prog TT h n 5 x) : ∃ g : Nat → BitVec 8, v = arr m g := by
  cases v <;> simp [hasTy] at ht
  rename_i k xs
  obtain ⟨rfl, hl⟩ := ht
  have he : ∀ j, j < m → ∃ b : BitVec 8, xs[j]? = some (b.toNat : Int) := by
    intro j hj
    obtain ⟨x, hx, hd⟩ := hr j hj
    obtain ⟨b, rfl⟩ := rd5 hd
    simp only [AV.get] at hx
    cases hxs : xs[j]? with
    | none => rw [hxs] at hx; cases hx
    | some y =>
      rw [hxs] at hx
      simp only [Option.some.injEq, u8, AV.int.injEq, true_and] at hx
      exact ⟨b, by rw [hx]⟩
  refine ⟨fun j => match xs[j]? with | some y => BitVec.ofInt 8 y | none => 0#8, ?_⟩
  unfold Vab.arr Vab.bytes
  congr 1
  apply List.ext_getElem?
  intro j
  rw [List.getElem?_map]
  by_cases hj : j < m
  · obtain ⟨b, hb⟩ := he j hj
    rw [range_map_getD, if_pos hj, hb]
    simp
  · rw [range_map_getD, if_neg hj, List.getElem?_eq_none (by omega)]; rfl

theorem rdArr {h : Heap} {n t m : Nat} {i : TI} {a : AV} (hu : Try.prog.underlying t = some (.array m 5)) (hti : TT t = some i) (hi : i.ty = .arr m (.int .u8)) (ht : hasTy a i.ty = true) (hr : Rd Try.prog TT h n t a) : ∃ g : Nat → BitVec 8, a = arr m g := by
  cases n with
  | zero => exact hr.elim
  | succ n =>
    simp only [Rd, hu] at hr
    rw [hi] at ht
    exact row5 ht hr

theorem tyOf {t : Nat} {i : TI} {u : Ty} (hti : TT t = some i) (h : (match TT t with | some j => Ty.beq j.ty u | none => false) = true) : i.ty = u := by
  rw [hti] at h
  exact Ty.beq_eq _ _ h

theorem rd26 {h : Heap} {n : Nat} {i : TI} {a : AV} (hti : TT 26 = some i) (ht : hasTy a i.ty = true) (hr : Rd Try.prog TT h n 26 a) : ∃ g : Nat → BitVec 8, a = arr 32 g := rdArr und26 hti (tyOf hti (by kernel_rfl)) ht hr
theorem rd27 {h : Heap} {n : Nat} {i : TI} {a : AV} (hti : TT 27 = some i) (ht : hasTy a i.ty = true) (hr : Rd Try.prog TT h n 27 a) : ∃ g : Nat → BitVec 8, a = arr 16 g := rdArr und27 hti (tyOf hti (by kernel_rfl)) ht hr
theorem rd36 {h : Heap} {n : Nat} {i : TI} {a : AV} (hti : TT 36 = some i) (ht : hasTy a i.ty = true) (hr : Rd Try.prog TT h n 36 a) : ∃ g : Nat → BitVec 8, a = arr 12 g := rdArr und36 hti (tyOf hti (by kernel_rfl)) ht hr

end Go.Proofs.Ytfolmjdaemoojaa

/-
  The field of POLYVAL: 128 bits as numbers, sums by 'xor'.
-/
namespace Go.Vab

def Lin (f : Nat → Nat) : Prop := ∀ x y, f (x ^^^ y) = f x ^^^ f y
theorem Lin.zero {f : Nat → Nat} (h : Lin f) : f 0 = 0 := by
  have := h 0 0
  simpa using this
theorem Lin.id : Lin fun x => x := fun _ _ => rfl
theorem Lin.comp {f g : Nat → Nat} (hf : Lin f) (hg : Lin g) : Lin fun x => f (g x) := fun x y => by simp only; rw [hg, hf]
theorem gxor4 (p q r t : Nat) : (p ^^^ r) ^^^ (q ^^^ t) = (p ^^^ q) ^^^ (r ^^^ t) := by
  rw [Nat.xor_assoc, ← Nat.xor_assoc r, Nat.xor_comm r, Nat.xor_assoc q, ← Nat.xor_assoc]
theorem Lin.add {f g : Nat → Nat} (hf : Lin f) (hg : Lin g) : Lin fun x => f x ^^^ g x := fun x y => by simp only; rw [hf, hg, gxor4]

theorem top_bit {n x : Nat} (h : x < 2 ^ (n + 1)) : x = (x % 2 ^ n) ^^^ (if x.testBit n = true then 2 ^ n else 0) := by
  apply Nat.eq_of_testBit_eq
  intro i
  rw [Nat.testBit_xor, Nat.testBit_mod_two_pow]
  by_cases hi : i < n
  · have : (if x.testBit n = true then 2 ^ n else 0).testBit i = false := by
      split
      · rw [Nat.testBit_two_pow]; simp; omega
      · simp
    rw [this]; simp [hi]
  · by_cases he : i = n
    · subst he
      by_cases hb : x.testBit i = true
      · simp [hb, Nat.testBit_two_pow]
      · simp [hb]
    · have h1 : x.testBit i = false := Nat.testBit_lt_two_pow (Nat.lt_of_lt_of_le h (Nat.pow_le_pow_right (by decide) (by omega)))
      have : (if x.testBit n = true then 2 ^ n else 0).testBit i = false := by
        split
        · rw [Nat.testBit_two_pow]; simp; omega
        · simp
      rw [h1, this]; simp [hi]

/-- Linear maps that agree on the powers agree. -/
theorem Lin.ext {f g : Nat → Nat} (hf : Lin f) (hg : Lin g) : ∀ (n : Nat), (∀ k, k < n → f (2 ^ k) = g (2 ^ k)) → ∀ x, x < 2 ^ n → f x = g x
  | 0, _, x, hx => by
    have : x = 0 := by simpa using hx
    subst this
    rw [hf.zero, hg.zero]
  | n + 1, h, x, hx => by
    rw [top_bit hx, hf, hg, Lin.ext hf hg n (fun k hk => h k (by omega)) _ (Nat.mod_lt _ (Nat.two_pow_pos n))]
    congr 1
    split
    · exact h n (by omega)
    · rw [hf.zero, hg.zero]

def gM : Nat := 2 ^ 128 + 2 ^ 127 + 2 ^ 126 + 2 ^ 121 + 1
def gC : Nat := 2 ^ 127 + 2 ^ 126 + 2 ^ 125 + 2 ^ 120
/-- Times x; divided by x. -/
def gX (s : Nat) : Nat := if s.testBit 127 = true then (s <<< 1) ^^^ gM else s <<< 1
def gD (s : Nat) : Nat := (s >>> 1) ^^^ (if s.testBit 0 = true then gC else 0)

theorem ite_lin (c d : Bool) (m : Nat) : (if (c ^^ d) = true then m else 0) = (if c = true then m else 0) ^^^ (if d = true then m else 0) := by
  cases c <;> cases d <;> simp
theorem gX_eq (s : Nat) : gX s = (s <<< 1) ^^^ (if s.testBit 127 = true then gM else 0) := by
  unfold gX; split <;> simp
theorem gX_lin : Lin gX := fun x y => by
  rw [gX_eq, gX_eq, gX_eq, Nat.testBit_xor, ite_lin, Nat.shiftLeft_xor_distrib, gxor4]
theorem gD_lin : Lin gD := fun x y => by
  unfold gD
  rw [Nat.testBit_xor, ite_lin, Nat.shiftRight_xor_distrib, gxor4]

theorem lt_of_bits {x n : Nat} (h : ∀ i, n ≤ i → x.testBit i = false) : x < 2 ^ n := Nat.lt_pow_two_of_testBit x h
theorem gM_lt : gM < 2 ^ 129 := of_decide_eq_true (by kernel_rfl)
theorem gX_lt {s : Nat} (h : s < 2 ^ 128) : gX s < 2 ^ 128 := by
  refine lt_of_bits fun i hi => ?_
  rw [gX_eq, Nat.testBit_xor, Nat.testBit_shiftLeft]
  by_cases he : i = 128
  · subst he
    by_cases hb : s.testBit 127 = true
    · simp [hb]; kernel_rfl
    · simp [hb]
  · have h1 : s.testBit (i - 1) = false := Nat.testBit_lt_two_pow (Nat.lt_of_lt_of_le h (Nat.pow_le_pow_right (by decide) (by omega)))
    have h2 : gM.testBit i = false := Nat.testBit_lt_two_pow (Nat.lt_of_lt_of_le gM_lt (Nat.pow_le_pow_right (by decide) (by omega)))
    rw [h1]
    split <;> simp [h2]
theorem gC_lt : gC < 2 ^ 128 := of_decide_eq_true (by kernel_rfl)
theorem gD_lt {s : Nat} (h : s < 2 ^ 128) : gD s < 2 ^ 128 := by
  unfold gD
  refine Nat.xor_lt_two_pow ?_ ?_
  · rw [Nat.shiftRight_eq_div_pow]; exact Nat.lt_of_le_of_lt (Nat.div_le_self _ _) h
  · split
    · exact gC_lt
    · exact Nat.two_pow_pos _

def all128 (f : Nat → Bool) : Bool := (List.range 128).all f
theorem all128_spec {f : Nat → Bool} (h : all128 f = true) {k : Nat} (hk : k < 128) : f k = true := by
  simp only [all128, List.all_eq_true, List.mem_range] at h
  exact h k hk
theorem nb {x y : Nat} (h : Nat.beq x y = true) : x = y := Nat.eq_of_beq_eq_true h

theorem gDX {s : Nat} (h : s < 2 ^ 128) : gD (gX s) = s :=
  Lin.ext (gD_lin.comp gX_lin) Lin.id 128 (fun k hk => nb (all128_spec (f := fun k => Nat.beq (gD (gX (2 ^ k))) (2 ^ k)) (by kernel_rfl) hk)) s h
theorem gXD {s : Nat} (h : s < 2 ^ 128) : gX (gD s) = s :=
  Lin.ext (gX_lin.comp gD_lin) Lin.id 128 (fun k hk => nb (all128_spec (f := fun k => Nat.beq (gX (gD (2 ^ k))) (2 ^ k)) (by kernel_rfl) hk)) s h

def itN (f : Nat → Nat) : Nat → Nat → Nat
  | 0, s => s
  | n + 1, s => f (itN f n s)
theorem itN_lin {f : Nat → Nat} (h : Lin f) : ∀ n, Lin (itN f n)
  | 0 => Lin.id
  | n + 1 => fun x y => by simp only [itN]; rw [itN_lin h n, h]
theorem itN_lt {f : Nat → Nat} (h : ∀ s, s < 2 ^ 128 → f s < 2 ^ 128) : ∀ n s, s < 2 ^ 128 → itN f n s < 2 ^ 128
  | 0, _, hs => hs
  | n + 1, s, hs => h _ (itN_lt h n s hs)
theorem itN_add (f : Nat → Nat) : ∀ m n s, itN f (m + n) s = itN f m (itN f n s)
  | 0, n, s => by rw [Nat.zero_add]; rfl
  | m + 1, n, s => by
    rw [Nat.succ_add]
    simp only [itN]
    rw [itN_add f m n s]
theorem itN_comm (f : Nat → Nat) (m n s : Nat) : itN f m (itN f n s) = itN f n (itN f m s) := by
  rw [← itN_add, ← itN_add, Nat.add_comm]
theorem itN_f (f : Nat → Nat) (n s : Nat) : itN f n (f s) = f (itN f n s) := itN_comm f n 1 s
theorem gDXn : ∀ n s, s < 2 ^ 128 → itN gD n (itN gX n s) = s
  | 0, _, _ => rfl
  | n + 1, s, h => by
    rw [show itN gX (n + 1) s = gX (itN gX n s) from rfl, show itN gD (n + 1) (gX (itN gX n s)) = gD (itN gD n (gX (itN gX n s))) from rfl, ← itN_f gD, gDX (itN_lt (fun _ => gX_lt) n s h), gDXn n s h]

/-- x to the k. -/
def xp (k : Nat) : Nat := itN gX k 1
theorem xp_lt (k : Nat) : xp k < 2 ^ 128 := itN_lt (fun _ => gX_lt) k 1 (Nat.one_lt_two_pow (by decide))
theorem xp_pow {k : Nat} (h : k < 128) : xp k = 2 ^ k := nb (all128_spec (f := fun k => Nat.beq (xp k) (2 ^ k)) (by kernel_rfl) h)
theorem xp_add (i k : Nat) : itN gX i (xp k) = xp (i + k) := (itN_add gX i k 1).symm

/-- The product. -/
def mx (x y : Nat) : Nat → Nat
  | 0 => 0
  | i + 1 => if x.testBit i = true then mx x y i ^^^ itN gX i y else mx x y i
def gmul (x y : Nat) : Nat := mx x y 128

theorem mx_addL (x x' y : Nat) : ∀ i, mx (x ^^^ x') y i = mx x y i ^^^ mx x' y i
  | 0 => by simp [mx]
  | i + 1 => by
    simp only [mx, Nat.testBit_xor, mx_addL x x' y i]
    cases x.testBit i <;> cases x'.testBit i <;> simp
    · rw [Nat.xor_assoc]
    · rw [Nat.xor_assoc, Nat.xor_comm (mx x' y i), ← Nat.xor_assoc]
    · rw [gxor4, Nat.xor_self, Nat.xor_zero]
theorem mx_addR (x y y' : Nat) : ∀ i, mx x (y ^^^ y') i = mx x y i ^^^ mx x y' i
  | 0 => by simp [mx]
  | i + 1 => by
    simp only [mx]
    split
    · rw [mx_addR x y y' i, itN_lin gX_lin, gxor4]
    · exact mx_addR x y y' i
theorem gmul_linL (y : Nat) : Lin fun x => gmul x y := fun x x' => mx_addL x x' y 128
theorem gmul_linR (x : Nat) : Lin fun y => gmul x y := fun y y' => mx_addR x y y' 128
theorem mx_lt (x : Nat) {y : Nat} (h : y < 2 ^ 128) : ∀ i, mx x y i < 2 ^ 128
  | 0 => Nat.two_pow_pos _
  | i + 1 => by
    simp only [mx]
    split
    · exact Nat.xor_lt_two_pow (mx_lt x h i) (itN_lt (fun _ => gX_lt) i y h)
    · exact mx_lt x h i
theorem gmul_lt (x : Nat) {y : Nat} (h : y < 2 ^ 128) : gmul x y < 2 ^ 128 := mx_lt x h 128
theorem mx_pow (k y : Nat) : ∀ i, mx (2 ^ k) y i = if k < i then itN gX k y else 0
  | 0 => by simp [mx]
  | i + 1 => by
    simp only [mx, Nat.testBit_two_pow, mx_pow k y i]
    by_cases h : k = i
    · subst h; simp
    · by_cases h2 : k < i
      · simp [h, h2, show k < i + 1 by omega]
      · simp [h, h2, show ¬ k < i + 1 by omega]
theorem gmul_pow {k : Nat} (h : k < 128) (y : Nat) : gmul (2 ^ k) y = itN gX k y := by
  unfold gmul; rw [mx_pow, if_pos h]
theorem gmul_one (y : Nat) : gmul 1 y = y := gmul_pow (k := 0) (by decide) y
theorem gmul_zero (x : Nat) : gmul x 0 = 0 := (gmul_linR x).zero
theorem zero_gmul (x : Nat) : gmul 0 x = 0 := (gmul_linL x).zero
theorem gmul_pp {i k : Nat} (hi : i < 128) (hk : k < 128) : gmul (2 ^ i) (2 ^ k) = xp (i + k) := by
  rw [gmul_pow hi, ← xp_pow hk, xp_add]
theorem gmul_comm {x y : Nat} (hx : x < 2 ^ 128) (hy : y < 2 ^ 128) : gmul x y = gmul y x :=
  Lin.ext (f := fun x => gmul x y) (g := fun x => gmul y x) (gmul_linL y) (gmul_linR y) 128 (fun i hi =>
    Lin.ext (f := fun y => gmul (2 ^ i) y) (g := fun y => gmul y (2 ^ i)) (gmul_linR _) (gmul_linL _) 128 (fun k hk => by
      rw [gmul_pp hi hk, gmul_pp hk hi, Nat.add_comm]) y hy) x hx
theorem p128 {k : Nat} (h : k < 128) : 2 ^ k < 2 ^ 128 := Nat.pow_lt_pow_right (by decide) h
theorem gX_gmul {x y : Nat} (hx : x < 2 ^ 128) (hy : y < 2 ^ 128) : gX (gmul x y) = gmul (gX x) y :=
  Lin.ext (f := fun x => gX (gmul x y)) (g := fun x => gmul (gX x) y) (gX_lin.comp (gmul_linL y)) ((gmul_linL y).comp gX_lin) 128 (fun i hi => by
    rw [gmul_pow hi, gmul_comm (gX_lt (p128 hi)) hy]
    refine Lin.ext (f := fun y => gX (itN gX i y)) (g := fun y => gmul y (gX (2 ^ i))) (gX_lin.comp (itN_lin gX_lin i)) (gmul_linL _) 128 (fun k hk => ?_) y hy
    rw [gmul_pow hk, ← xp_pow hi, ← xp_pow hk, itN_f, xp_add, xp_add, Nat.add_comm]) x hx
theorem gXn_gmul {x y : Nat} (hx : x < 2 ^ 128) (hy : y < 2 ^ 128) : ∀ n, itN gX n (gmul x y) = gmul (itN gX n x) y
  | 0 => rfl
  | n + 1 => by
    simp only [itN]
    rw [gXn_gmul hx hy n, gX_gmul (itN_lt (fun _ => gX_lt) n x hx) hy]
theorem gmul_assoc {x y z : Nat} (hx : x < 2 ^ 128) (hy : y < 2 ^ 128) (hz : z < 2 ^ 128) : gmul (gmul x y) z = gmul x (gmul y z) :=
  Lin.ext (f := fun x => gmul (gmul x y) z) (g := fun x => gmul x (gmul y z)) ((gmul_linL z).comp (gmul_linL y)) (gmul_linL _) 128 (fun i hi => by
    rw [gmul_pow hi, gmul_pow hi, gXn_gmul hy hz]) x hx

/-! what the program and the document reckon -/
def pd (x y : Nat) : Nat → Nat
  | 0 => 0
  | i + 1 => gD (if x.testBit i = true then pd x y i ^^^ y else pd x y i)
def dotF (x y : Nat) : Nat := pd x y 128
theorem pd_lt (x : Nat) {y : Nat} (h : y < 2 ^ 128) : ∀ i, pd x y i < 2 ^ 128
  | 0 => Nat.two_pow_pos _
  | i + 1 => by
    simp only [pd]
    refine gD_lt ?_
    split
    · exact Nat.xor_lt_two_pow (pd_lt x h i) h
    · exact pd_lt x h i
theorem pd_mx (x : Nat) {y : Nat} (h : y < 2 ^ 128) : ∀ i, itN gX i (pd x y i) = mx x y i
  | 0 => rfl
  | i + 1 => by
    simp only [pd, mx]
    rw [show itN gX (i + 1) _ = gX (itN gX i _) from rfl, ← itN_f gX]
    split
    · rw [gXD (Nat.xor_lt_two_pow (pd_lt x h i) h), itN_lin gX_lin, pd_mx x h i]
    · rw [gXD (pd_lt x h i), pd_mx x h i]
theorem dotF_lt (x : Nat) {y : Nat} (h : y < 2 ^ 128) : dotF x y < 2 ^ 128 := pd_lt x h 128
theorem dotF_mul (x : Nat) {y : Nat} (h : y < 2 ^ 128) : itN gX 128 (dotF x y) = gmul x y := pd_mx x h 128
theorem dotF_eq (x : Nat) {y : Nat} (h : y < 2 ^ 128) : dotF x y = itN gD 128 (gmul x y) := by
  rw [← dotF_mul x h, gDXn 128 _ (dotF_lt x h)]

def cl (x y : Nat) : Nat → Nat
  | 0 => 0
  | i + 1 => if x.testBit i = true then cl x y i ^^^ (y <<< i) else cl x y i
def rdN (p : Nat) : Nat → Nat
  | 0 => p
  | n + 1 => if (rdN p n).testBit (254 - n) = true then rdN p n ^^^ (gM <<< (126 - n)) else rdN p n
def timesF (x y : Nat) : Nat := rdN (cl x y 128) 127

theorem rdN_lin : ∀ n p q, rdN (p ^^^ q) n = rdN p n ^^^ rdN q n
  | 0 => fun _ _ => rfl
  | n + 1 => fun p q => by
    simp only [rdN]
    rw [rdN_lin n p q]
    simp only [Nat.testBit_xor]
    cases (rdN p n).testBit (254 - n) <;> cases (rdN q n).testBit (254 - n) <;> simp
    · rw [Nat.xor_assoc]
    · rw [Nat.xor_assoc, Nat.xor_comm (rdN q n), ← Nat.xor_assoc]
    · rw [gxor4, Nat.xor_self, Nat.xor_zero]
theorem rd_xp {m : Nat} (h : m < 255) : rdN (2 ^ m) 127 = xp m := by
  have : ((List.range 255).all fun m => Nat.beq (rdN (2 ^ m) 127) (xp m)) = true := by kernel_rfl
  simp only [List.all_eq_true, List.mem_range] at this
  exact nb (this m h)
theorem rd_shift {i : Nat} (hi : i < 128) {y : Nat} (hy : y < 2 ^ 128) : rdN (y <<< i) 127 = itN gX i y :=
  Lin.ext (f := fun y => rdN (y <<< i) 127) (g := fun y => itN gX i y) (fun x y => by simp only; rw [Nat.shiftLeft_xor_distrib, rdN_lin 127]) (itN_lin gX_lin i) 128 (fun k hk => by
    show rdN (2 ^ k <<< i) 127 = itN gX i (2 ^ k)
    rw [Nat.shiftLeft_eq, ← Nat.pow_add, rd_xp (by omega), ← xp_pow hk, xp_add, Nat.add_comm]) y hy
theorem cl_rd (x : Nat) {y : Nat} (hy : y < 2 ^ 128) : ∀ i, i ≤ 128 → rdN (cl x y i) 127 = mx x y i
  | 0, _ => Lin.zero (f := fun p => rdN p 127) (rdN_lin 127)
  | i + 1, h => by
    simp only [cl, mx]
    split
    · rw [rdN_lin 127, cl_rd x hy i (by omega), rd_shift (by omega) hy]
    · exact cl_rd x hy i (by omega)
theorem timesF_eq (x : Nat) {y : Nat} (hy : y < 2 ^ 128) : timesF x y = gmul x y := cl_rd x hy 128 (Nat.le_refl _)
theorem dot_doc (x : Nat) {y : Nat} (hy : y < 2 ^ 128) : itN gD 128 (timesF x y) = dotF x y := by
  rw [timesF_eq x hy, dotF_eq x hy]

end Go.Vab

/-
  The field of POLYVAL has no divisors of 0: the 2^128th power of an element is the element, and only 0 and 1 are their own squares.
-/
namespace Go.Vab

def colsL : List Nat := [114291231732683920111800289848904929180, 0, 2, 264649038488465108217385485902758434744, 6, 5474018742798604754856013351416006824, 264649038488465108217385485902758434736, 279984330570995207768910135528284491928, 22, 134993947420368638860549163029025792716, 5474018742798604754856013351416006792, 259233404542254691352578015329254772048, 264649038488465108217385485902758434800, 78815926496458527000027076524794099154, 279984330570995207768910135528284491800, 310917011936824495974028019010196280330, 278, 329695022060684156922673836241631242562, 134993947420368638860549163029025792204, 223043342685568308742801922407417080290, 5474018742798604754856013351416007816, 204183180800093073996485076469786949510, 259233404542254691352578015329254770000, 332922141906105794138486392879644328, 264649038488465108217385485902758430704, 5192742617505688794539013825899488, 78815926496458527000027076524794090962, 57135902363501246439798352128544837540, 279984330570995207768910135528284508184, 285332310439358679926475470273450085016, 310917011936824495974028019010196313098, 1338092984318458157688585017842141622, 65814, 286659658375934789536589440462921915118, 329695022060684156922673836241631111490, 5375347656811555888130211273795675104, 134993947420368638860549163029025530060, 281664891991661845740663755813250609688, 223043342685568308742801922407416556002, 155850019008751802489102898018508865740, 5474018742798604754856013351417056392, 208454783976463085848362861385084544496, 204183180800093073996485076469784852358, 258215351575011353636240478739700033446, 259233404542254691352578015329250575696, 1441531534397997486710509097768056488, 332922141906105794138486392871255720, 310688780805105160843588587507242216490, 264649038488465108217385485902775207920, 125948370332234854700975021025154779926, 5192742617505688794539013792345056, 133973432563553744096693470219120097156, 78815926496458527000027076524726982098, 336748201124242397605382945461535501962, 57135902363501246439798352128410619812, 105513287945783597730944415515910276064, 279984330570995207768910135528016072728, 154494078813359998711451645645654317010, 285332310439358679926475470273986955928, 133660252460258750748793581515789072570, 310917011936824495974028019011270054922, 1333796868665930135307827026783358600, 1338092984318458157688585015694657974, 208059916583311137056194354353093785382, 4295033110, 217348461462803640812363441851702133684, 286659658375934789536589440454331980526, 78560724546564460907941704379618474522, 329695022060684156922673836258810980674, 133724193130224051919774791015513433860, 5375347656811555888130211308155413472, 208377235476111485456061374484359538512, 134993947420368638860549162960306053324, 149398617506873055952289012310452394170, 281664891991661845740663755675811656216, 314899907883490631458870994642872805812, 223043342685568308742801922682294462946, 27577202161374773174931565202448905110, 155850019008751802489102897468753051852, 310604403369211529324919431676500763572, 5474018742798604754856012251905428616, 78504840731796642687118121342200176698, 208454783976463085848362863584107800048, 22204453408571399162663648835537231528, 204183180800093073996485072071738341254, 331372985503357285015599049275175130364, 258215351575011353636240469943607011238, 181421527569707772266780691750693499470, 259233404542254691352577997737064531280, 186355929277041309258865243148251550286, 1441531534397997486710544282140145320, 23762702124230612102939700416955435958, 332922141906105794138416024127078056, 264645044475253826427515575649270802542, 310688780805105160843588446769753861162, 99910193912528758769810076276332122560, 264649038488465108217385204427798497264, 209370385544535688804385679892129054830, 125948370332234854700975583975108201238, 264664839882418634887659957990483226448, 5192742617505688795664913699187680, 281415711507591880123890204844523657454, 133973432563553744096691218419306411908, 57046408819313728053504073466094228850, 78815926496458527000031580124354352594, 359836155059352098985255266221665088, 336748201124242397605373938262280760970, 242153355973191623124124481193368406338, 57135902363501246439780337729901137828, 221363491980257879029040892278283701884, 105513287945783597730908386718891312096, 154500574189968048264626884507121455340, 279984330570995207768838077933978144792, 104297246715825621479834348135753083200, 154494078813359998711595760833730172882, 314936515854947054442880357511657448572, 285332310439358679926187239897835244184, 154663737249192747771961953191709725260, 133660252460258750749370042268092496058, 57730240038979940154313872586187140516, 310917011936824495972875097506663207946, 313671289718840349731260666013169846708, 1333796868665930133001984017569664648, 170165166231938132201459734886402555174, 1338092984318458162300271034122045878, 66751047391747778747331401191878572896, 208059916583311137065417726389948561190, 45898397193162346862912865126001963032]
def sqsL : List Nat := [2, 4, 16, 256, 65536, 4294967296, 18446744073709551616, 257870231182273679343338569694386847745, 40324634372617999512535311081733652917, 55608715974243145436592252813071543565, 78387427924390474594210038843135751789, 122372012214658210329187511924225015926, 186774082746519157964271678752808925303, 249181728955035298641675618893566460662, 260693082160160056507749744310470592747, 166231228587636706036467301434271010952, 211782625925556567274461355377748164193, 67467204692992629720112363537830879630, 270097696587216359217875893337260003538, 213257009095547698543422773130284188231, 306410949233822697731213681211038108761, 13086152914706713492652146455236046527, 297963022992160706235584468018638083597, 33988268094385616518967749839488005229, 165621493266633138136104362669612599749, 229988983959268167883112320233098470217, 224574448439978075980397828215042697122, 225542406657483060296012303698144733543, 169685820844030511338575240509551571319, 295449279266244048820994021855946935868, 317028365321780441533376689541600240028, 276002231850255891610109295433115923367, 21874980301248613188700525530286924140, 333243140450995707799234730776943636173, 296911305808445619065549498793765936262, 27274180483994463203890992019178877669, 28885680562824584129746671166494675163, 319013989453157701212527720285403190674, 269698074399340706228181932597531085947, 137466317331855670604946215999259503375, 109792469274484419832519159310013345522, 19479411557122360953683140660393036006, 234119356887482275406377399780956061606, 245085562062364238936589337281417978079, 8107952720853402290597440416394440929, 267328438831323789272139852614679141895, 207567440417021916523068008963635521634, 334735985310908855697485696396415766317, 96175373923488218794266228388712638701, 105302311747243462842747159095557910291, 103930340353219312715323603701155876303, 54757640335369164092765199572334932454, 79653688377835378866958163509718259968, 230451332194337719480858252701706924895, 26434908961694914119377500625051349729, 241453884687961465306899541869893601113, 134574153806650856065868324298275430374, 332056735253280259486799127751456692588, 25635435960802641039286053707621234251, 144732218523021784559099570112126249329, 336161510508590217870876395599295868315, 89507878357168442717386649479835258998, 232959384067442798600724693137438332934, 150129609643847271661495116279649479121, 110845319793653979113643960544696919372, 293693372247104053755469306704194720659, 240022243306783231036261631629089508012, 101326322016249186045039931987461560745, 292696916637514286621768726767202807360, 173484861958842437571439771463564302200, 202413380104819135727493490646199454744, 160304509355644879941229034252427167874, 171844263462301455836116859476523783714, 272845890394375903092898508892244464988, 153454831229976248733808578126993632208, 29442055806152508766846873431957655727, 295056276847596935291229824268995965873, 232402976830884174587881225275576121487, 242840595864876720610706119836837874259, 69661152255162647999743062054851543616, 212001928665133649662110277584935981486, 153972166109541030149505645348425817873, 274420264575639608115717327919916083880, 272660270097556084521052298237103313533, 299591929745176676622290565746811123024, 111096285323660158680965977599370791921, 280083710559653213994654855019473502863, 173725606996277642626443352839128216229, 46535413338265028257990206634914081500, 168496476128670655629873630944051039918, 328659708539920699253175787353908214209, 149090584124438113873352806745060028387, 230539192156844730637677704429130147677, 314628085557672461401489006445490145912, 78375766059802465096841122049210018927, 300897053559830876052997163309153155373, 193834821418726281653395515234335814145, 41067476184641056084417836257320654416, 254576734839215913395806091303253768885, 191432709844457696743069857154321337612, 55664507299290522988355592174297612368, 163379717580385190497979528663249738524, 185232761546901778555019893608731960371, 303390858507500868966430540308395174819, 229368220536193494943358811854619167585, 257413289107903594391171323127770926388, 136937482870399606097376531789598730866, 176249233613804342439305339800340100778, 227706303030046579542178020209729611919, 31792274635212895794915845267179854537, 183330991613601418525937433557178193037, 125176196978113878233050847649546013216, 248340884677383986553605455490885469722, 175931721185987288879460265625177443387, 92110388447226204303317924674412101593, 153331381001646121898669493447431996629, 193019792266614703615719054712091235871, 113838481420787721474238545221824645259, 289666118905060118762241643126411805062, 254616850174965085858078566128716358834, 163835390242392757237076294478057401294, 29383259006221183561608508599033085171, 52823883501845511727428973643178138996, 172261341269573605066549850698512274353, 316439474568272687017030648526987823520, 205953210927578745862134650658591763893, 72495672730263562704059125039740568854, 257110672327539441712549654131948350901, 2]

def LinB (f : Nat → Nat) : Prop := ∀ x y, x < 2 ^ 128 → y < 2 ^ 128 → f (x ^^^ y) = f x ^^^ f y
theorem LinB.zero {f : Nat → Nat} (h : LinB f) : f 0 = 0 := by
  have := h 0 0 (Nat.two_pow_pos _) (Nat.two_pow_pos _)
  simpa using this
theorem Lin.toB {f : Nat → Nat} (h : Lin f) : LinB f := fun x y _ _ => h x y
theorem LinB.ext {f g : Nat → Nat} (hf : LinB f) (hg : LinB g) : ∀ (n : Nat), n ≤ 128 → (∀ k, k < n → f (2 ^ k) = g (2 ^ k)) → ∀ x, x < 2 ^ n → f x = g x
  | 0, _, _, x, hx => by
    have : x = 0 := by simpa using hx
    subst this
    rw [hf.zero, hg.zero]
  | n + 1, hn, h, x, hx => by
    have h1 : x % 2 ^ n < 2 ^ 128 := Nat.lt_of_lt_of_le (Nat.mod_lt _ (Nat.two_pow_pos n)) (Nat.pow_le_pow_right (by decide) (by omega))
    have h2 : (if x.testBit n = true then 2 ^ n else 0) < 2 ^ 128 := by
      split
      · exact p128 (by omega)
      · exact Nat.two_pow_pos _
    rw [top_bit hx, hf _ _ h1 h2, hg _ _ h1 h2, LinB.ext hf hg n (by omega) (fun k hk => h k (by omega)) _ (Nat.mod_lt _ (Nat.two_pow_pos n))]
    congr 1
    split
    · exact h n (by omega)
    · rw [hf.zero, hg.zero]

/-! the product, quickly reckoned -/
def hor (x y : Nat) : Nat → Nat
  | 0 => 0
  | n + 1 => gX (hor x y n) ^^^ (if x.testBit (127 - n) = true then y else 0)
theorem hor_lin (y : Nat) : ∀ n x x', hor (x ^^^ x') y n = hor x y n ^^^ hor x' y n
  | 0, _, _ => by simp [hor]
  | n + 1, x, x' => by
    simp only [hor]
    rw [hor_lin y n x x', gX_lin, Nat.testBit_xor, ite_lin, gxor4]
theorem hor_pow {k : Nat} (hk : k < 128) (y : Nat) : ∀ n, n ≤ 128 → hor (2 ^ k) y n = if 127 - k < n then itN gX (n - 1 - (127 - k)) y else 0
  | 0, _ => by simp [hor]
  | n + 1, hn => by
    simp only [hor, Nat.testBit_two_pow]
    rw [hor_pow hk y n (by omega)]
    by_cases h1 : 127 - k < n
    · have c1 : ¬ decide (k = 127 - n) = true := by simp; omega
      have c2 : 127 - k < n + 1 := by omega
      rw [if_pos h1, if_neg c1, if_pos c2, Nat.xor_zero, show n + 1 - 1 - (127 - k) = (n - 1 - (127 - k)) + 1 by omega]; rfl
    · rw [if_neg h1, Lin.zero gX_lin]
      by_cases h2 : 127 - k = n
      · have c1 : decide (k = 127 - n) = true := by simp; omega
        have c2 : 127 - k < n + 1 := by omega
        rw [if_pos c1, if_pos c2, show n + 1 - 1 - (127 - k) = 0 by omega]; simp [itN]
      · have c1 : ¬ decide (k = 127 - n) = true := by simp; omega
        have c2 : ¬ 127 - k < n + 1 := by omega
        rw [if_neg c1, if_neg c2]; rfl
theorem hor_eq {x : Nat} (hx : x < 2 ^ 128) (y : Nat) : hor x y 128 = gmul x y :=
  Lin.ext (f := fun x => hor x y 128) (g := fun x => gmul x y) (hor_lin y 128) (gmul_linL y) 128 (fun k hk => by
    show hor (2 ^ k) y 128 = gmul (2 ^ k) y
    rw [hor_pow hk y 128 (Nat.le_refl _), if_pos (by omega), gmul_pow hk]
    congr 1
    omega) x hx

/-! squares -/
def gsq (x : Nat) : Nat := gmul x x
theorem gsq_lt {x : Nat} (h : x < 2 ^ 128) : gsq x < 2 ^ 128 := gmul_lt x h
theorem gsq_lin : LinB gsq := fun x y hx hy => by
  unfold gsq
  have e1 : gmul (x ^^^ y) (x ^^^ y) = gmul x (x ^^^ y) ^^^ gmul y (x ^^^ y) := gmul_linL (x ^^^ y) x y
  have e2 : gmul x (x ^^^ y) = gmul x x ^^^ gmul x y := gmul_linR x x y
  have e3 : gmul y (x ^^^ y) = gmul y x ^^^ gmul y y := gmul_linR y x y
  rw [e1, e2, e3, gmul_comm hy hx, Nat.xor_assoc, ← Nat.xor_assoc (gmul x y), Nat.xor_self, Nat.zero_xor]
theorem gsq_mul {x y : Nat} (hx : x < 2 ^ 128) (hy : y < 2 ^ 128) : gsq (gmul x y) = gmul (gsq x) (gsq y) := by
  unfold gsq
  rw [gmul_assoc hx hy (gmul_lt x hy), ← gmul_assoc hy hx hy, gmul_comm hy hx, gmul_assoc hx hy hy, ← gmul_assoc hx hx (gmul_lt y hy)]
abbrev sqN (n x : Nat) : Nat := itN gsq n x
theorem sqN_lt (n : Nat) {x : Nat} (h : x < 2 ^ 128) : sqN n x < 2 ^ 128 := itN_lt (fun _ => gsq_lt) n x h
theorem sqN_lin : ∀ n, LinB (sqN n)
  | 0 => fun _ _ _ _ => rfl
  | n + 1 => fun x y hx hy => by
    show gsq (sqN n (x ^^^ y)) = gsq (sqN n x) ^^^ gsq (sqN n y)
    rw [sqN_lin n x y hx hy, gsq_lin _ _ (sqN_lt n hx) (sqN_lt n hy)]
theorem sqN_mul : ∀ n x y, x < 2 ^ 128 → y < 2 ^ 128 → sqN n (gmul x y) = gmul (sqN n x) (sqN n y)
  | 0, _, _, _, _ => rfl
  | n + 1, x, y, hx, hy => by
    show gsq (sqN n (gmul x y)) = gmul (gsq (sqN n x)) (gsq (sqN n y))
    rw [sqN_mul n x y hx hy, gsq_mul (sqN_lt n hx) (sqN_lt n hy)]
theorem gsq_one : gsq 1 = 1 := gmul_one 1
theorem sqN_one : ∀ n, sqN n 1 = 1
  | 0 => rfl
  | n + 1 => by
    show gsq (sqN n 1) = 1
    rw [sqN_one n, gsq_one]

theorem sqs_ok : ((List.range 129).all fun i => decide (sqsL.getD i 0 < 2 ^ 128)) = true := by kernel_rfl
theorem sqs_step : all128 (fun i => Nat.beq (hor (sqsL.getD i 0) (sqsL.getD i 0) 128) (sqsL.getD (i + 1) 0)) = true := by kernel_rfl
theorem sqs_at : ∀ i, i ≤ 128 → sqN i 2 = sqsL.getD i 0
  | 0, _ => rfl
  | i + 1, h => by
    show gsq (sqN i 2) = _
    rw [sqs_at i (by omega)]
    have h1 := sqs_ok
    simp only [List.all_eq_true, List.mem_range, decide_eq_true_eq] at h1
    have h2 := nb (all128_spec sqs_step (show i < 128 by omega))
    rw [hor_eq (h1 i (by omega))] at h2
    exact h2
theorem sq128_two : sqN 128 2 = 2 := sqs_at 128 (Nat.le_refl _)
theorem sq128_pow : ∀ k, k < 128 → sqN 128 (2 ^ k) = 2 ^ k
  | 0, _ => sqN_one 128
  | k + 1, h => by
    have e : (2 : Nat) ^ (k + 1) = gmul 2 (2 ^ k) := by
      have := gmul_pp (i := 1) (k := k) (by decide) (by omega)
      rw [show (2 : Nat) ^ 1 = 2 from rfl] at this
      rw [this, Nat.add_comm 1 k, xp_pow h]
    rw [e, sqN_mul 128 2 (2 ^ k) (by decide) (p128 (by omega)), sq128_two, sq128_pow k (by omega)]
theorem sq128 {x : Nat} (h : x < 2 ^ 128) : sqN 128 x = x :=
  LinB.ext (sqN_lin 128) (Lin.id.toB) 128 (Nat.le_refl _) sq128_pow x h

/-! only 0 and 1 are their own squares -/
def lcL (v : Nat) : List Nat → Nat → Nat
  | [], _ => 0
  | c :: l, i => (if v.testBit i = true then c else 0) ^^^ lcL v l (i + 1)
theorem lcL_lin : ∀ (l : List Nat) (i x y : Nat), lcL (x ^^^ y) l i = lcL x l i ^^^ lcL y l i
  | [], _, _, _ => by simp [lcL]
  | c :: l, i, x, y => by
    simp only [lcL]
    rw [Nat.testBit_xor, ite_lin, lcL_lin l (i + 1) x y, gxor4]
theorem cols_ok : all128 (fun j => Nat.beq (lcL (hor (2 ^ j) (2 ^ j) 128 ^^^ 2 ^ j) colsL 0) (2 ^ j ^^^ (if (2 ^ j).testBit 0 = true then 1 else 0))) = true := by kernel_rfl
theorem fixed {s : Nat} (hs : s < 2 ^ 128) (h : gsq s = s) : s = 0 ∨ s = 1 := by
  have hl : LinB fun s => lcL (gsq s ^^^ s) colsL 0 := fun x y hx hy => by
    simp only
    rw [gsq_lin x y hx hy, gxor4, lcL_lin]
  have hr : LinB fun s => s ^^^ (if s.testBit 0 = true then 1 else 0) := fun x y _ _ => by
    simp only
    rw [Nat.testBit_xor, ite_lin, gxor4]
  have key := LinB.ext hl hr 128 (Nat.le_refl _) (fun k hk => by
    have := nb (all128_spec cols_ok hk)
    rw [hor_eq (p128 hk)] at this
    exact this) s hs
  have h0 : lcL 0 colsL 0 = 0 := Lin.zero (f := fun v => lcL v colsL 0) (lcL_lin colsL 0)
  try dsimp only at key
  rw [h, Nat.xor_self, h0] at key
  by_cases hb : s.testBit 0 = true
  · rw [if_pos hb] at key
    have := congrArg (· ^^^ 1) key
    simp only [Nat.zero_xor] at this
    rw [Nat.xor_assoc, Nat.xor_self, Nat.xor_zero] at this
    exact .inr this.symm
  · rw [if_neg hb, Nat.xor_zero] at key
    exact .inl key.symm

/-! norms -/
def nQ (a : Nat) : Nat → Nat
  | 0 => 1
  | k + 1 => gmul (nQ a k) (sqN (k + 1) a)
theorem nQ_lt {a : Nat} (h : a < 2 ^ 128) : ∀ k, nQ a k < 2 ^ 128
  | 0 => Nat.one_lt_two_pow (by decide)
  | k + 1 => gmul_lt _ (sqN_lt (k + 1) h)
/-- The square of the norm's parts. -/
theorem nQ_sq {a : Nat} (h : a < 2 ^ 128) : ∀ k, gmul (gsq a) (gsq (nQ a k)) = nQ a (k + 1)
  | 0 => by
    show gmul (gsq a) (gsq 1) = gmul 1 (gsq a)
    rw [gsq_one, gmul_one, gmul_comm (gsq_lt h) (by decide), gmul_one]
  | k + 1 => by
    rw [show nQ a (k + 1) = gmul (nQ a k) (sqN (k + 1) a) from rfl, gsq_mul (nQ_lt h k) (sqN_lt _ h), ← gmul_assoc (gsq_lt h) (gsq_lt (nQ_lt h k)) (gsq_lt (sqN_lt _ h)), nQ_sq h k]
    rfl
/-- The element times the norm's parts is a power. -/
theorem nQ_pow {a : Nat} (h : a < 2 ^ 128) : ∀ k, gmul a (gmul a (nQ a k)) = sqN (k + 1) a
  | 0 => by
    show gmul a (gmul a 1) = gsq a
    rw [show gmul a 1 = a by rw [gmul_comm h (by decide), gmul_one]]; rfl
  | k + 1 => by
    rw [show nQ a (k + 1) = gmul (nQ a k) (sqN (k + 1) a) from rfl, ← gmul_assoc h (nQ_lt h k) (sqN_lt _ h), ← gmul_assoc h (gmul_lt a (nQ_lt h k)) (sqN_lt _ h), nQ_pow h k]
    rfl
theorem gmul_eq_zero {a b : Nat} (ha : a < 2 ^ 128) (hb : b < 2 ^ 128) (h : gmul a b = 0) : a = 0 ∨ b = 0 := by
  have hQ := nQ_lt ha 127
  have hN := gmul_lt a hQ
  have hfix : gsq (gmul a (nQ a 127)) = gmul a (nQ a 127) := by
    rw [gsq_mul ha hQ, nQ_sq ha 127, show nQ a 128 = gmul (nQ a 127) (sqN 128 a) from rfl, sq128 ha, gmul_comm hQ ha]
  rcases fixed hN hfix with e | e
  · left
    have := nQ_pow ha 127
    rw [e, gmul_zero, sq128 ha] at this
    exact this.symm
  · right
    have h1 : gmul (gmul a (nQ a 127)) b = b := by rw [e, gmul_one]
    rw [gmul_comm ha hQ, gmul_assoc hQ ha hb, h, gmul_zero] at h1
    exact h1.symm

/-! dot -/
theorem gX_inj {n x y : Nat} (hx : x < 2 ^ 128) (hy : y < 2 ^ 128) (h : itN gX n x = itN gX n y) : x = y := by
  rw [← gDXn n x hx, ← gDXn n y hy, h]
theorem dot_comm {x y : Nat} (hx : x < 2 ^ 128) (hy : y < 2 ^ 128) : dotF x y = dotF y x := by
  rw [dotF_eq x hy, dotF_eq y hx, gmul_comm hx hy]
theorem dot_addR (x : Nat) {y z : Nat} (hy : y < 2 ^ 128) (hz : z < 2 ^ 128) : dotF x (y ^^^ z) = dotF x y ^^^ dotF x z := by
  rw [dotF_eq x (Nat.xor_lt_two_pow hy hz), dotF_eq x hy, dotF_eq x hz, show gmul x (y ^^^ z) = gmul x y ^^^ gmul x z from gmul_linR x y z, itN_lin gD_lin]
theorem dot_assoc {x y z : Nat} (hx : x < 2 ^ 128) (hy : y < 2 ^ 128) (hz : z < 2 ^ 128) : dotF (dotF x y) z = dotF x (dotF y z) := by
  refine gX_inj (n := 128) (dotF_lt _ hz) (dotF_lt _ (dotF_lt _ hz)) ?_
  rw [dotF_mul _ hz, dotF_mul _ (dotF_lt _ hz)]
  refine gX_inj (n := 128) (gmul_lt _ hz) (gmul_lt _ (dotF_lt _ hz)) ?_
  rw [gXn_gmul (dotF_lt x hy) hz, dotF_mul x hy, gmul_comm hx (dotF_lt y hz), gXn_gmul (dotF_lt y hz) hx, dotF_mul y hz, gmul_comm (gmul_lt y hz) hx, gmul_assoc hx hy hz]
theorem dot_zero {x y : Nat} (hx : x < 2 ^ 128) (hy : y < 2 ^ 128) : dotF x y = 0 ↔ x = 0 ∨ y = 0 := by
  constructor
  · intro h
    have := dotF_mul x hy
    rw [h, Lin.zero (itN_lin gX_lin 128)] at this
    exact gmul_eq_zero hx hy this.symm
  · rintro (rfl | rfl)
    · rw [dotF_eq 0 hy, zero_gmul, Lin.zero (itN_lin gD_lin 128)]
    · rw [dotF_eq x (Nat.two_pow_pos _), gmul_zero, Lin.zero (itN_lin gD_lin 128)]

end Go.Vab

/-
  Sixteen bytes as 128 bits, in two words.
-/
namespace Go.Vab
open Go

def el (lo hi : BitVec 64) : AV := .node [u64 lo, u64 hi]
abbrev tyE : Ty := .struct [.int .u64, .int .u64]
def elX (x : BitVec 128) : AV := el (x.setWidth 64) ((x >>> 64).setWidth 64)
def bytesX (x : BitVec 128) (i : Nat) : BitVec 8 := (x >>> (8 * i)).setWidth 8
def vb (g : Nat → BitVec 8) : Nat → BitVec 128
  | 0 => 0#128
  | n + 1 => vb g n ||| ((g n).setWidth 128 <<< (8 * n))
def val16 (g : Nat → BitVec 8) : BitVec 128 := vb g 16

theorem vb_bit (g : Nat → BitVec 8) (k : Nat) (hk : k < 128) : ∀ n, (vb g n).getLsbD k = (decide (k < 8 * n) && (g (k / 8)).getLsbD (k % 8))
  | 0 => by simp [vb]
  | n + 1 => by
    simp only [vb, BitVec.getLsbD_or, BitVec.getLsbD_shiftLeft, BitVec.getLsbD_setWidth]
    rw [vb_bit g k hk n]
    by_cases h1 : k < 8 * n
    · simp [h1, hk, show k < 8 * (n + 1) by omega]
    · by_cases h2 : k < 8 * (n + 1)
      · have e1 : k / 8 = n := by omega
        have e2 : k - 8 * n = k % 8 := by omega
        have e3 : k % 8 < 128 := by omega
        simp [h1, h2, hk, e1, e2, e3]
      · have : (g n).getLsbD (k - 8 * n) = false := BitVec.getLsbD_of_ge _ _ (by omega)
        simp [h1, h2, this]
theorem val16_bit (g : Nat → BitVec 8) (k : Nat) (hk : k < 128) : (val16 g).getLsbD k = (g (k / 8)).getLsbD (k % 8) := by
  unfold val16
  rw [vb_bit g k hk]
  simp [show k < 8 * 16 by omega]
theorem bytesX_bit (x : BitVec 128) (i k : Nat) (hk : k < 8) : (bytesX x i).getLsbD k = x.getLsbD (8 * i + k) := by
  unfold bytesX
  simp [BitVec.getLsbD_setWidth, BitVec.getLsbD_ushiftRight, hk]
theorem bytes_val (g : Nat → BitVec 8) {i : Nat} (hi : i < 16) : bytesX (val16 g) i = g i := by
  apply BitVec.eq_of_getLsbD_eq
  intro k hk
  rw [bytesX_bit _ _ _ hk, val16_bit _ _ (by omega), show (8 * i + k) / 8 = i by omega, show (8 * i + k) % 8 = k by omega]
theorem val_bytes (x : BitVec 128) : val16 (bytesX x) = x := by
  apply BitVec.eq_of_getLsbD_eq
  intro k hk
  rw [val16_bit _ _ hk, bytesX_bit _ _ _ (Nat.mod_lt _ (by decide)), show 8 * (k / 8) + k % 8 = k by omega]
theorem val16_congr {g f : Nat → BitVec 8} (h : ∀ i, i < 16 → g i = f i) : val16 g = val16 f := by
  apply BitVec.eq_of_getLsbD_eq
  intro k hk
  rw [val16_bit _ _ hk, val16_bit _ _ hk, h _ (by omega)]
theorem arr_val (g : Nat → BitVec 8) : arr 16 g = arr 16 (bytesX (val16 g)) := arr_congr fun _ hi => (bytes_val g hi).symm
theorem val16_xor (g f : Nat → BitVec 8) : val16 (fun i => g i ^^^ f i) = val16 g ^^^ val16 f := by
  apply BitVec.eq_of_getLsbD_eq
  intro k hk
  rw [BitVec.getLsbD_xor, val16_bit _ _ hk, val16_bit _ _ hk, val16_bit _ _ hk, BitVec.getLsbD_xor]
theorem elX_inj {x y : BitVec 128} : elX x = elX y ↔ x = y := by
  constructor
  · intro h
    simp only [elX, el, AV.node.injEq, List.cons.injEq, u64_inj, and_true] at h
    apply BitVec.eq_of_getLsbD_eq
    intro k hk
    by_cases h1 : k < 64
    · have := congrArg (fun z => z.getLsbD k) h.1
      simpa [BitVec.getLsbD_setWidth, h1] using this
    · have := congrArg (fun z => z.getLsbD (k - 64)) h.2
      simpa [BitVec.getLsbD_setWidth, BitVec.getLsbD_ushiftRight, show k - 64 < 64 by omega, show 64 + (k - 64) = k by omega] using this
  · rintro rfl; rfl

/-! reading the words -/
def lowAt (g : Nat → BitVec 8) : Nat → BitVec 64
  | 0 => 0#64
  | m + 1 => lowAt g m <<< 8 ||| (g (7 - m)).setWidth 64
theorem lowAt_bit (g : Nat → BitVec 8) : ∀ m, m ≤ 8 → ∀ k, k < 64 → (lowAt g m).getLsbD k = (decide (k < 8 * m) && (g (8 - m + k / 8)).getLsbD (k % 8))
  | 0, _, k, _ => by simp [lowAt]
  | m + 1, hm, k, hk => by
    simp only [lowAt, BitVec.getLsbD_or, BitVec.getLsbD_shiftLeft, BitVec.getLsbD_setWidth]
    by_cases h1 : k < 8
    · have e1 : k / 8 = 0 := by omega
      have e2 : k % 8 = k := by omega
      simp [h1, hk, e1, e2, show k < 8 * (m + 1) by omega]
    · rw [lowAt_bit g m (by omega) (k - 8) (by omega)]
      have e0 : (g (7 - m)).getLsbD k = false := BitVec.getLsbD_of_ge _ _ (by omega)
      have e1 : 7 - m + k / 8 = 8 - m + (k - 8) / 8 := by omega
      have e2 : (k - 8) % 8 = k % 8 := by omega
      have e3 : decide (k - 8 < 8 * m) = decide (k < 8 * (m + 1)) := by rw [decide_eq_decide]; omega
      simp [h1, hk, e0, e1, e2, e3]
theorem lowAt_lo (g : Nat → BitVec 8) : lowAt g 8 = (val16 g).setWidth 64 := by
  apply BitVec.eq_of_getLsbD_eq
  intro k hk
  rw [lowAt_bit g 8 (by omega) k hk, BitVec.getLsbD_setWidth, val16_bit _ _ (by omega)]
  simp [hk]
theorem lowAt_hi (g : Nat → BitVec 8) : lowAt (fun i => g (i + 8)) 8 = ((val16 g) >>> 64).setWidth 64 := by
  apply BitVec.eq_of_getLsbD_eq
  intro k hk
  rw [lowAt_bit _ 8 (by omega) k hk, BitVec.getLsbD_setWidth, BitVec.getLsbD_ushiftRight, val16_bit _ _ (by omega)]
  have e1 : (64 + k) / 8 = 8 - 8 + k / 8 + 8 := by omega
  have e2 : (64 + k) % 8 = k % 8 := by omega
  simp [hk, e1, e2]

theorem byte_lo (x : BitVec 128) {i : Nat} (hi : i < 8) : ((x.setWidth 64) >>> (8 * i)).setWidth 8 = bytesX x i := by
  apply BitVec.eq_of_getLsbD_eq
  intro k hk
  rw [bytesX_bit _ _ _ hk]
  simp [BitVec.getLsbD_setWidth, BitVec.getLsbD_ushiftRight, hk, show 8 * i + k < 64 by omega]
theorem byte_hi (x : BitVec 128) {i : Nat} (hi : i < 8) : (((x >>> 64).setWidth 64) >>> (8 * i)).setWidth 8 = bytesX x (i + 8) := by
  apply BitVec.eq_of_getLsbD_eq
  intro k hk
  rw [bytesX_bit _ _ _ hk]
  simp [BitVec.getLsbD_setWidth, BitVec.getLsbD_ushiftRight, hk, show 8 * i + k < 64 by omega]
  congr 1
  omega

/-! the product's steps -/
def dX (x : BitVec 128) : BitVec 128 := BitVec.ofNat 128 (gD x.toNat)
theorem dX_toNat (x : BitVec 128) : (dX x).toNat = gD x.toNat := by
  unfold dX
  rw [BitVec.toNat_ofNat, Nat.mod_eq_of_lt (gD_lt x.isLt)]
theorem toNat_bit (x : BitVec 128) (k : Nat) : x.toNat.testBit k = x.getLsbD k := rfl
theorem gC_bit (k : Nat) : (BitVec.ofNat 128 gC).getLsbD k = gC.testBit k := by
  have : (BitVec.ofNat 128 gC).toNat = gC := by rw [BitVec.toNat_ofNat, Nat.mod_eq_of_lt gC_lt]
  rw [← toNat_bit, this]
theorem dX_eq (x : BitVec 128) : dX x = x >>> 1 ^^^ (if x.getLsbD 0 = true then BitVec.ofNat 128 gC else 0#128) := by
  apply BitVec.eq_of_toNat_eq
  rw [dX_toNat]
  unfold gD
  rw [toNat_bit]
  split
  · rw [BitVec.toNat_xor, BitVec.toNat_ushiftRight, BitVec.toNat_ofNat, Nat.mod_eq_of_lt gC_lt]
  · simp
theorem lo_shift (x : BitVec 128) : (x.setWidth 64 >>> 1 ||| ((x >>> 64).setWidth 64) <<< 63 : BitVec 64) = (x >>> 1).setWidth 64 := by
  apply BitVec.eq_of_getLsbD_eq
  intro k hk
  simp only [BitVec.getLsbD_or, BitVec.getLsbD_ushiftRight, BitVec.getLsbD_shiftLeft, BitVec.getLsbD_setWidth]
  by_cases h : k < 63
  · simp [hk, h, show 1 + k < 64 by omega]
  · have : k = 63 := by omega
    subst this
    simp
theorem hi_shift (x : BitVec 128) : (((x >>> 64).setWidth 64) >>> 1 : BitVec 64) = ((x >>> 1) >>> 64).setWidth 64 := by
  apply BitVec.eq_of_getLsbD_eq
  intro k hk
  simp only [BitVec.getLsbD_ushiftRight, BitVec.getLsbD_setWidth]
  by_cases h : k < 63
  · simp [hk, show 1 + k < 64 by omega]
    congr 1
    omega
  · have : k = 63 := by omega
    subst this
    simp
theorem setWidth_xor (x y : BitVec 128) : (x ^^^ y).setWidth 64 = x.setWidth 64 ^^^ y.setWidth 64 := by
  apply BitVec.eq_of_getLsbD_eq
  intro k hk
  simp [BitVec.getLsbD_setWidth, BitVec.getLsbD_xor, hk]
theorem hi_xor (x y : BitVec 128) : ((x ^^^ y) >>> 64).setWidth 64 = (x >>> 64).setWidth 64 ^^^ (y >>> 64).setWidth 64 := by
  apply BitVec.eq_of_getLsbD_eq
  intro k hk
  simp [BitVec.getLsbD_setWidth, BitVec.getLsbD_xor, BitVec.getLsbD_ushiftRight, hk]
theorem gC_lo : (BitVec.ofNat 128 gC).setWidth 64 = 0#64 := by kernel_rfl
theorem gC_hi : ((BitVec.ofNat 128 gC) >>> 64).setWidth 64 = 16212958658533785600#64 := by kernel_rfl
theorem odd_lo (x : BitVec 128) : (x.setWidth 64 &&& 1#64 = 1#64) ↔ x.getLsbD 0 = true := by
  have e : (x.setWidth 64).getLsbD 0 = x.getLsbD 0 := by simp
  rw [← e]
  generalize x.setWidth 64 = y
  rw [← BitVec.toNat_inj]
  simp [BitVec.toNat_and, Nat.and_one_is_mod, BitVec.getLsbD, Nat.testBit_zero]
/-- A step's two words. -/
theorem step_odd (x : BitVec 128) (h : x.getLsbD 0 = true) : el (x.setWidth 64 >>> 1 ||| ((x >>> 64).setWidth 64) <<< 63) ((((x >>> 64).setWidth 64) >>> 1) ^^^ 16212958658533785600#64) = elX (dX x) := by
  rw [dX_eq, if_pos h]
  unfold elX
  rw [setWidth_xor, hi_xor, gC_lo, gC_hi, lo_shift, hi_shift, BitVec.xor_zero]
theorem step_even (x : BitVec 128) (h : ¬ x.getLsbD 0 = true) : el (x.setWidth 64 >>> 1 ||| ((x >>> 64).setWidth 64) <<< 63) (((x >>> 64).setWidth 64) >>> 1) = elX (dX x) := by
  rw [dX_eq, if_neg h, BitVec.xor_zero]
  unfold elX
  rw [lo_shift, hi_shift]
theorem word_bit (y : BitVec 64) (i : Nat) : (y >>> i &&& 1#64 = 1#64) ↔ y.getLsbD i = true := by
  rw [← BitVec.toNat_inj]
  simp only [BitVec.toNat_and, BitVec.toNat_ushiftRight, BitVec.toNat_ofNat, Nat.reducePow, Nat.reduceMod, Nat.and_one_is_mod, BitVec.getLsbD, Nat.testBit_eq_decide_div_mod_eq, Nat.shiftRight_eq_div_pow, decide_eq_true_eq]

def pX (x y : BitVec 128) : Nat → BitVec 128
  | 0 => 0#128
  | i + 1 => dX (if x.getLsbD i = true then pX x y i ^^^ y else pX x y i)
def dotX (x y : BitVec 128) : BitVec 128 := pX x y 128
theorem pX_toNat (x y : BitVec 128) : ∀ i, (pX x y i).toNat = pd x.toNat y.toNat i
  | 0 => rfl
  | i + 1 => by
    simp only [pX, pd, dX_toNat, toNat_bit]
    split
    · rw [BitVec.toNat_xor, pX_toNat x y i]
    · rw [pX_toNat x y i]
theorem dotX_toNat (x y : BitVec 128) : (dotX x y).toNat = dotF x.toNat y.toNat := pX_toNat x y 128
theorem dotX_comm (x y : BitVec 128) : dotX x y = dotX y x := by
  apply BitVec.eq_of_toNat_eq
  rw [dotX_toNat, dotX_toNat, dot_comm x.isLt y.isLt]
theorem dotX_addR (x y z : BitVec 128) : dotX x (y ^^^ z) = dotX x y ^^^ dotX x z := by
  apply BitVec.eq_of_toNat_eq
  rw [BitVec.toNat_xor, dotX_toNat, dotX_toNat, dotX_toNat, BitVec.toNat_xor, dot_addR _ y.isLt z.isLt]
theorem dotX_assoc (x y z : BitVec 128) : dotX (dotX x y) z = dotX x (dotX y z) := by
  apply BitVec.eq_of_toNat_eq
  rw [dotX_toNat, dotX_toNat, dotX_toNat, dotX_toNat, dot_assoc x.isLt y.isLt z.isLt]
theorem dotX_zero (x y : BitVec 128) : dotX x y = 0#128 ↔ x = 0#128 ∨ y = 0#128 := by
  have e : ∀ z : BitVec 128, z = 0#128 ↔ z.toNat = 0 := fun z => ⟨fun h => by rw [h]; rfl, fun h => BitVec.eq_of_toNat_eq (by rw [h]; rfl)⟩
  rw [e, e, e, dotX_toNat, dot_zero x.isLt y.isLt]

end Go.Vab

/-
  A call within a statement whose order is open: tables of contracts.
-/
namespace Go.Vab
open Go
theorem still_ne (call : Calling) (k : Nat) (c : List AV → Heap → Option (AV × Heap)) {f : Nat} (args : List AV) (h : Heap) (hf : f ≠ k) : still (addC call k c) f args h = still call f args h := by
  have e : addC call k c f args = call f args := funext fun h => addC_ne call k c args h hf
  unfold still
  rw [e]
end Go.Vab

/-
  The product of two elements, bit by bit.
-/
namespace Go.Vab

def xt (a : BitVec 8) : BitVec 8 := a <<< 1 ^^^ (a >>> 7) * 27#8

def mulL : Nat → BitVec 8 → BitVec 8 → BitVec 8 → BitVec 8
  | 0, _, _, c => c
  | n + 1, a, b, c => mulL n (xt a) (b >>> 1) (if b &&& 1#8 = 1#8 then c ^^^ a else c)

def mulB (a b : BitVec 8) : BitVec 8 := mulL 8 a b 0#8

theorem mulL_zero : ∀ (n : Nat) (a c : BitVec 8), mulL n a 0#8 c = c
  | 0, _, _ => rfl
  | n + 1, a, c => by
    simp only [mulL]
    rw [show (0#8 >>> 1 : BitVec 8) = 0#8 from rfl, if_neg (by simp), mulL_zero n]

def rotB (x : BitVec 8) (n : Nat) : BitVec 8 := x <<< (n % 8) ||| x >>> (8 - n % 8)

def powL : Nat → Nat → BitVec 8 → BitVec 8 → BitVec 8
  | 0, _, b, _ => b
  | f + 1, n, b, c => powL f (n / 2) (if n % 2 = 1 then mulB b c else b) (mulB c c)

def invB (a : BitVec 8) : BitVec 8 := powL 8 254 1#8 a
def subB (a : BitVec 8) : BitVec 8 := invB a ^^^ rotB (invB a) 1 ^^^ rotB (invB a) 2 ^^^ rotB (invB a) 3 ^^^ rotB (invB a) 4 ^^^ 99#8

theorem powL_zero : ∀ (f : Nat) (b c : BitVec 8), powL f 0 b c = b
  | 0, _, _ => rfl
  | f + 1, b, c => by simp [powL, powL_zero f]

end Go.Vab

/-
  The field of 256 elements.
-/
namespace Go.Vab

def all256 (f : BitVec 8 → Bool) : Bool := (List.range 256).all fun i => f (BitVec.ofNat 8 i)
theorem all256_spec {f : BitVec 8 → Bool} (h : all256 f = true) (x : BitVec 8) : f x = true := by
  simp only [all256, List.all_eq_true, List.mem_range] at h
  have := h x.toNat x.isLt
  simpa using this
def bq (x y : BitVec 8) : Bool := Nat.beq x.toNat y.toNat
theorem bq_eq {x y : BitVec 8} (h : bq x y = true) : x = y := BitVec.eq_of_toNat_eq (Nat.eq_of_beq_eq_true h)
theorem bq_ne {x y : BitVec 8} (h : bq x y = false) : x ≠ y := by
  rintro rfl
  unfold bq at h
  rw [Nat.beq_refl] at h; cases h

def Add (f : BitVec 8 → BitVec 8) : Prop := ∀ x y, f (x ^^^ y) = f x ^^^ f y

theorem Add.zero {f : BitVec 8 → BitVec 8} (h : Add f) : f 0#8 = 0#8 := by
  have := h 0#8 0#8
  simpa using this

def bitsOf (x : BitVec 8) : BitVec 8 := (x &&& 1#8) ^^^ (x &&& 2#8) ^^^ (x &&& 4#8) ^^^ (x &&& 8#8) ^^^ (x &&& 16#8) ^^^ (x &&& 32#8) ^^^ (x &&& 64#8) ^^^ (x &&& 128#8)
theorem bitsOf_eq (x : BitVec 8) : bitsOf x = x := bq_eq (all256_spec (f := fun x => bq (bitsOf x) x) (by kernel_rfl) x)
theorem bit_or (k : Nat) (hk : k < 8) (x : BitVec 8) : x &&& BitVec.ofNat 8 (2 ^ k) = 0#8 ∨ x &&& BitVec.ofNat 8 (2 ^ k) = BitVec.ofNat 8 (2 ^ k) := by
  have h : (List.range 8).all (fun k => all256 fun x => bq (x &&& BitVec.ofNat 8 (2 ^ k)) 0#8 || bq (x &&& BitVec.ofNat 8 (2 ^ k)) (BitVec.ofNat 8 (2 ^ k))) = true := by kernel_rfl
  simp only [List.all_eq_true, List.mem_range] at h
  have := all256_spec (h k hk) x
  rw [Bool.or_eq_true] at this
  exact this.imp bq_eq bq_eq

theorem Add.bit {f g : BitVec 8 → BitVec 8} (hf : Add f) (hg : Add g) (k : Nat) (hk : k < 8) (h : f (BitVec.ofNat 8 (2 ^ k)) = g (BitVec.ofNat 8 (2 ^ k))) (x : BitVec 8) : f (x &&& BitVec.ofNat 8 (2 ^ k)) = g (x &&& BitVec.ofNat 8 (2 ^ k)) := by
  rcases bit_or k hk x with e | e
  · rw [e, hf.zero, hg.zero]
  · rw [e, h]

/-- Additive maps that agree on eight elements agree. -/
theorem Add.ext {f g : BitVec 8 → BitVec 8} (hf : Add f) (hg : Add g) (h : ∀ k, k < 8 → f (BitVec.ofNat 8 (2 ^ k)) = g (BitVec.ofNat 8 (2 ^ k))) (x : BitVec 8) : f x = g x := by
  have e : ∀ k, k < 8 → f (x &&& BitVec.ofNat 8 (2 ^ k)) = g (x &&& BitVec.ofNat 8 (2 ^ k)) := fun k hk => hf.bit hg k hk (h k hk) x
  rw [← bitsOf_eq x]
  unfold bitsOf
  simp only [hf _ _, hg _ _]
  rw [show (1#8 : BitVec 8) = BitVec.ofNat 8 (2 ^ 0) from rfl, e 0 (by decide), show (2#8 : BitVec 8) = BitVec.ofNat 8 (2 ^ 1) from rfl, e 1 (by decide), show (4#8 : BitVec 8) = BitVec.ofNat 8 (2 ^ 2) from rfl, e 2 (by decide),
    show (8#8 : BitVec 8) = BitVec.ofNat 8 (2 ^ 3) from rfl, e 3 (by decide), show (16#8 : BitVec 8) = BitVec.ofNat 8 (2 ^ 4) from rfl, e 4 (by decide), show (32#8 : BitVec 8) = BitVec.ofNat 8 (2 ^ 5) from rfl, e 5 (by decide),
    show (64#8 : BitVec 8) = BitVec.ofNat 8 (2 ^ 6) from rfl, e 6 (by decide), show (128#8 : BitVec 8) = BitVec.ofNat 8 (2 ^ 7) from rfl, e 7 (by decide)]

theorem xt_add : Add xt := by
  have e : ∀ a : BitVec 8, (a >>> 7) * 27#8 = if a.getLsbD 7 = true then 27#8 else 0#8 := fun a =>
    bq_eq (all256_spec (f := fun a => bq ((a >>> 7) * 27#8) (if a.getLsbD 7 = true then 27#8 else 0#8)) (by kernel_rfl) a)
  intro x y
  unfold xt
  rw [e, e, e, BitVec.shiftLeft_xor_distrib, BitVec.getLsbD_xor]
  have ac : ∀ p q r t : BitVec 8, (p ^^^ r) ^^^ (q ^^^ t) = (p ^^^ q) ^^^ (r ^^^ t) := fun p q r t => by ac_rfl
  rw [ac]
  congr 1
  cases x.getLsbD 7 <;> cases y.getLsbD 7 <;> rfl

theorem xor4 (p q r t : BitVec 8) : (p ^^^ r) ^^^ (q ^^^ t) = (p ^^^ q) ^^^ (r ^^^ t) := by ac_rfl

theorem mulL_addL : ∀ (n : Nat) (a a' b c c' : BitVec 8), mulL n (a ^^^ a') b (c ^^^ c') = mulL n a b c ^^^ mulL n a' b c'
  | 0, _, _, _, _, _ => rfl
  | n + 1, a, a', b, c, c' => by
    simp only [mulL]
    rw [xt_add]
    split
    · rw [show (c ^^^ c') ^^^ (a ^^^ a') = (c ^^^ a) ^^^ (c' ^^^ a') from xor4 c a c' a', mulL_addL n]
    · rw [mulL_addL n]

theorem mulL_addR : ∀ (n : Nat) (a b b' c c' : BitVec 8), mulL n a (b ^^^ b') (c ^^^ c') = mulL n a b c ^^^ mulL n a b' c'
  | 0, _, _, _, _, _ => rfl
  | n + 1, a, b, b', c, c' => by
    have bit : ∀ x : BitVec 8, (x &&& 1#8 = 1#8) ↔ x.getLsbD 0 = true := fun x => by
      have := all256_spec (f := fun x => (bq (x &&& 1#8) 1#8) == x.getLsbD 0) (by kernel_rfl) x
      simp only [beq_iff_eq] at this
      rw [← this]
      constructor
      · intro h; rw [h]; rfl
      · exact bq_eq
    simp only [mulL]
    rw [BitVec.ushiftRight_xor_distrib]
    simp only [bit, BitVec.getLsbD_xor]
    have e : (if (b.getLsbD 0 ^^ b'.getLsbD 0) = true then (c ^^^ c') ^^^ a else c ^^^ c') = (if b.getLsbD 0 = true then c ^^^ a else c) ^^^ (if b'.getLsbD 0 = true then c' ^^^ a else c') := by
      cases b.getLsbD 0 <;> cases b'.getLsbD 0 <;> simp
      · ac_rfl
      · ac_rfl
      · rw [show (c ^^^ a) ^^^ (c' ^^^ a) = (c ^^^ c') ^^^ (a ^^^ a) from xor4 c c' a a]; simp
    rw [e, mulL_addR n]

theorem mul_addL (b : BitVec 8) : Add fun a => mulB a b := fun x y => by
  have := mulL_addL 8 x y b 0#8 0#8
  simpa [mulB] using this
theorem mul_addR (a : BitVec 8) : Add fun b => mulB a b := fun x y => by
  have := mulL_addR 8 a x y 0#8 0#8
  simpa [mulB] using this

def bas (f : Nat → Bool) : Bool := (List.range 8).all f
theorem bas_spec {f : Nat → Bool} (h : bas f = true) {k : Nat} (hk : k < 8) : f k = true := by
  simp only [bas, List.all_eq_true, List.mem_range] at h
  exact h k hk

theorem mul_comm (a b : BitVec 8) : mulB a b = mulB b a :=
  Add.ext (f := fun a => mulB a b) (g := fun a => mulB b a) (mul_addL b) (mul_addR b) (fun i hi =>
    Add.ext (f := fun b => mulB (BitVec.ofNat 8 (2 ^ i)) b) (g := fun b => mulB b (BitVec.ofNat 8 (2 ^ i))) (mul_addR _) (mul_addL _) (fun j hj =>
      bq_eq (bas_spec (bas_spec (f := fun i => bas fun j => bq (mulB (BitVec.ofNat 8 (2 ^ i)) (BitVec.ofNat 8 (2 ^ j))) (mulB (BitVec.ofNat 8 (2 ^ j)) (BitVec.ofNat 8 (2 ^ i)))) (by kernel_rfl) hi) hj)) b) a

theorem Add.comp {f g : BitVec 8 → BitVec 8} (hf : Add f) (hg : Add g) : Add fun x => f (g x) := fun x y => by
  simp only; rw [hg, hf]

theorem mul_assoc (a b c : BitVec 8) : mulB (mulB a b) c = mulB a (mulB b c) :=
  Add.ext (f := fun a => mulB (mulB a b) c) (g := fun a => mulB a (mulB b c)) ((mul_addL c).comp (mul_addL b)) (mul_addL _) (fun i hi =>
    Add.ext (f := fun b => mulB (mulB (BitVec.ofNat 8 (2 ^ i)) b) c) (g := fun b => mulB (BitVec.ofNat 8 (2 ^ i)) (mulB b c)) ((mul_addL c).comp (mul_addR _)) ((mul_addR _).comp (mul_addL c)) (fun j hj =>
      Add.ext (f := fun c => mulB (mulB (BitVec.ofNat 8 (2 ^ i)) (BitVec.ofNat 8 (2 ^ j))) c) (g := fun c => mulB (BitVec.ofNat 8 (2 ^ i)) (mulB (BitVec.ofNat 8 (2 ^ j)) c)) (mul_addR _) ((mul_addR _).comp (mul_addR _)) (fun k hk =>
        bq_eq (bas_spec (bas_spec (bas_spec (f := fun i => bas fun j => bas fun k => bq (mulB (mulB (BitVec.ofNat 8 (2 ^ i)) (BitVec.ofNat 8 (2 ^ j))) (BitVec.ofNat 8 (2 ^ k))) (mulB (BitVec.ofNat 8 (2 ^ i)) (mulB (BitVec.ofNat 8 (2 ^ j)) (BitVec.ofNat 8 (2 ^ k))))) (by kernel_rfl) hi) hj) hk)) c) b) a

theorem mul_one (a : BitVec 8) : mulB a 1#8 = a :=
  bq_eq (all256_spec (f := fun a => bq (mulB a 1#8) a) (by kernel_rfl) a)
theorem mul_zero (a : BitVec 8) : mulB a 0#8 = 0#8 := (mul_addR a).zero
theorem zero_mul (a : BitVec 8) : mulB 0#8 a = 0#8 := (mul_addL a).zero

end Go.Vab

/-
  Inverses and substitutes.
-/
namespace Go.Vab

theorem inv_mul {a : BitVec 8} (h : a ≠ 0#8) : mulB (invB a) a = 1#8 := by
  have := all256_spec (f := fun a => bq a 0#8 || bq (mulB (invB a) a) 1#8) (by kernel_rfl) a
  rw [Bool.or_eq_true] at this
  rcases this with h1 | h1
  · exact absurd (bq_eq h1) h
  · exact bq_eq h1

theorem mul_eq_zero {a b : BitVec 8} (h : mulB a b = 0#8) : a = 0#8 ∨ b = 0#8 := by
  by_cases ha : a = 0#8
  · exact .inl ha
  · right
    have := mul_assoc (invB a) a b
    rw [inv_mul ha, h, mul_zero, mul_comm, mul_one] at this
    exact this

def isub : List Nat := [82, 9, 106, 213, 48, 54, 165, 56, 191, 64, 163, 158, 129, 243, 215, 251, 124, 227, 57, 130, 155, 47, 255, 135, 52, 142, 67, 68, 196, 222, 233, 203, 84, 123, 148, 50, 166, 194, 35, 61, 238, 76, 149, 11, 66, 250, 195, 78, 8, 46, 161, 102, 40, 217, 36, 178, 118, 91, 162, 73, 109, 139, 209, 37, 114, 248, 246, 100, 134, 104, 152, 22, 212, 164, 92, 204, 93, 101, 182, 146, 108, 112, 72, 80, 253, 237, 185, 218, 94, 21, 70, 87, 167, 141, 157, 132, 144, 216, 171, 0, 140, 188, 211, 10, 247, 228, 88, 5, 184, 179, 69, 6, 208, 44, 30, 143, 202, 63, 15, 2, 193, 175, 189, 3, 1, 19, 138, 107, 58, 145, 17, 65, 79, 103, 220, 234, 151, 242, 207, 206, 240, 180, 230, 115, 150, 172, 116, 34, 231, 173, 53, 133, 226, 249, 55, 232, 28, 117, 223, 110, 71, 241, 26, 113, 29, 41, 197, 137, 111, 183, 98, 14, 170, 24, 190, 27, 252, 86, 62, 75, 198, 210, 121, 32, 154, 219, 192, 254, 120, 205, 90, 244, 31, 221, 168, 51, 136, 7, 199, 49, 177, 18, 16, 89, 39, 128, 236, 95, 96, 81, 127, 169, 25, 181, 74, 13, 45, 229, 122, 159, 147, 201, 156, 239, 160, 224, 59, 77, 174, 42, 245, 176, 200, 235, 187, 60, 131, 83, 153, 97, 23, 43, 4, 126, 186, 119, 214, 38, 225, 105, 20, 99, 85, 33, 12, 125]

theorem isub_sub (a : BitVec 8) : BitVec.ofNat 8 (isub.getD (subB a).toNat 0) = a :=
  bq_eq (all256_spec (f := fun a => bq (BitVec.ofNat 8 (isub.getD (subB a).toNat 0)) a) (by kernel_rfl) a)
theorem sub_inj {a b : BitVec 8} (h : subB a = subB b) : a = b := by
  rw [← isub_sub a, ← isub_sub b, h]
theorem sub_ne (a : BitVec 8) : subB a ≠ a := by
  have := all256_spec (f := fun a => !bq (subB a) a) (by kernel_rfl) a
  simp only [Bool.not_eq_true'] at this
  exact bq_ne this

end Go.Vab

/-
  The document's product, inverse and substitute are the program's.
-/
namespace Go.Vab

def rP (a b : Nat) : Nat → Nat
  | 0 => 0
  | i + 1 => if b.testBit i = true then rP a b i ^^^ (a <<< i) else rP a b i
def rR (p : Nat) : Nat → Nat
  | 0 => p
  | n + 1 => if (rR p n).testBit (14 - n) = true then rR p n ^^^ (283 <<< (6 - n)) else rR p n
def rMul (a b : BitVec 8) : BitVec 8 := BitVec.ofNat 8 (rR (rP a.toNat b.toNat 8) 7)

theorem nxor4 (p q r t : Nat) : (p ^^^ r) ^^^ (q ^^^ t) = (p ^^^ q) ^^^ (r ^^^ t) := by
  rw [Nat.xor_assoc, ← Nat.xor_assoc r, Nat.xor_comm r, Nat.xor_assoc q, ← Nat.xor_assoc]

theorem rP_addL (a a' b : Nat) : ∀ i, rP (a ^^^ a') b i = rP a b i ^^^ rP a' b i
  | 0 => by simp [rP]
  | i + 1 => by
    simp only [rP]
    split
    · rw [rP_addL a a' b i, Nat.shiftLeft_xor_distrib, nxor4]
    · exact rP_addL a a' b i
theorem rP_addR (a b b' : Nat) : ∀ i, rP a (b ^^^ b') i = rP a b i ^^^ rP a b' i
  | 0 => by simp [rP]
  | i + 1 => by
    simp only [rP, Nat.testBit_xor]
    rw [rP_addR a b b' i]
    cases b.testBit i <;> cases b'.testBit i <;> simp
    · rw [Nat.xor_assoc]
    · rw [Nat.xor_assoc, Nat.xor_comm (rP a b' i), ← Nat.xor_assoc]
    · rw [nxor4, Nat.xor_self, Nat.xor_zero]
theorem rR_add (p q : Nat) : ∀ n, rR (p ^^^ q) n = rR p n ^^^ rR q n
  | 0 => rfl
  | n + 1 => by
    simp only [rR]
    rw [rR_add p q n]
    simp only [Nat.testBit_xor]
    cases (rR p n).testBit (14 - n) <;> cases (rR q n).testBit (14 - n) <;> simp
    · rw [Nat.xor_assoc]
    · rw [Nat.xor_assoc, Nat.xor_comm (rR q n), ← Nat.xor_assoc]
    · rw [nxor4, Nat.xor_self, Nat.xor_zero]

theorem ofNat_xor8 (x y : Nat) : BitVec.ofNat 8 (x ^^^ y) = BitVec.ofNat 8 x ^^^ BitVec.ofNat 8 y := by
  apply BitVec.eq_of_toNat_eq
  simp only [BitVec.toNat_ofNat, BitVec.toNat_xor, Nat.xor_mod_two_pow]

theorem rMul_addL (b : BitVec 8) : Add fun a => rMul a b := fun x y => by
  simp only [rMul, BitVec.toNat_xor, rP_addL, rR_add, ofNat_xor8]
theorem rMul_addR (a : BitVec 8) : Add fun b => rMul a b := fun x y => by
  simp only [rMul, BitVec.toNat_xor, rP_addR, rR_add, ofNat_xor8]
theorem rMul_eq (a b : BitVec 8) : rMul a b = mulB a b :=
  Add.ext (f := fun a => rMul a b) (g := fun a => mulB a b) (rMul_addL b) (mul_addL b) (fun i hi =>
    Add.ext (f := fun b => rMul (BitVec.ofNat 8 (2 ^ i)) b) (g := fun b => mulB (BitVec.ofNat 8 (2 ^ i)) b) (rMul_addR _) (mul_addR _) (fun j hj =>
      bq_eq (bas_spec (bas_spec (f := fun i => bas fun j => bq (rMul (BitVec.ofNat 8 (2 ^ i)) (BitVec.ofNat 8 (2 ^ j))) (mulB (BitVec.ofNat 8 (2 ^ i)) (BitVec.ofNat 8 (2 ^ j)))) (by kernel_rfl) hi) hj)) b) a

theorem rP_lt (a b : Nat) (ha : a < 256) : ∀ i, i ≤ 8 → rP a b i < 2 ^ 16
  | 0, _ => by simp [rP]
  | i + 1, h => by
    simp only [rP]
    have h1 := rP_lt a b ha i (by omega)
    split
    · refine Nat.xor_lt_two_pow h1 ?_
      rw [Nat.shiftLeft_eq]
      have : 2 ^ i ≤ 2 ^ 7 := Nat.pow_le_pow_right (by decide) (by omega)
      have h2 : a * 2 ^ i ≤ 255 * 2 ^ 7 := Nat.mul_le_mul (by omega) this
      omega
    · exact h1
theorem rR_lt (p : Nat) (hp : p < 2 ^ 16) : ∀ n, n ≤ 7 → rR p n < 2 ^ 16
  | 0, _ => hp
  | n + 1, h => by
    simp only [rR]
    have h1 := rR_lt p hp n (by omega)
    split
    · refine Nat.xor_lt_two_pow h1 ?_
      rw [Nat.shiftLeft_eq]
      have : 2 ^ (6 - n) ≤ 2 ^ 6 := Nat.pow_le_pow_right (by decide) (by omega)
      have h2 : 283 * 2 ^ (6 - n) ≤ 283 * 2 ^ 6 := Nat.mul_le_mul (by omega) this
      omega
    · exact h1

theorem inv_unique {a x : BitVec 8} (h : mulB a x = 1#8) : x = invB a := by
  have ha : a ≠ 0#8 := by
    rintro rfl
    rw [zero_mul] at h
    exact absurd h (by decide)
  have := mul_assoc (invB a) a x
  rw [inv_mul ha, h, mul_one, mul_comm, mul_one] at this
  exact this
theorem inv_zero : invB 0#8 = 0#8 := by kernel_rfl
theorem inv_mul' {a : BitVec 8} (h : a ≠ 0#8) : mulB a (invB a) = 1#8 := by rw [mul_comm]; exact inv_mul h

/-- The document's substitute, out of the inverse. -/
def rSubBit (b : BitVec 8) (i : Nat) : BitVec 8 := b >>> i ^^^ b >>> ((i + 4) % 8) ^^^ b >>> ((i + 5) % 8) ^^^ b >>> ((i + 6) % 8) ^^^ b >>> ((i + 7) % 8) ^^^ 99#8 >>> i
def rSubF (b : BitVec 8) : Nat → BitVec 8
  | 0 => 0#8
  | i + 1 => rSubF b i + (rSubBit b i % 2#8) <<< i
theorem rSub_eq (a : BitVec 8) : rSubF (invB a) 8 = subB a :=
  bq_eq (all256_spec (f := fun b => bq (rSubF b 8) (b ^^^ rotB b 1 ^^^ rotB b 2 ^^^ rotB b 3 ^^^ rotB b 4 ^^^ 99#8)) (by kernel_rfl) (invB a))

end Go.Vab

/- How the evaluator reads the functions of a seat. Printed by wip/tools/gen.py (own work). -/
namespace Go.Vab
open Go Go.Proofs
noncomputable section
variable (call : Calling) (env : Env) (h : Heap) (s : St)
/-! vestry/aes.Mul -/
def cx14 (call : Calling) : Ctx := ⟨call, TT, 25, [7, 9, 10, 11, 12, 14, 15, 16, 17, 18, 19, 20, 21, 22, 23, 24]⟩
def n14_0 : Code := bodyOf Try.f14
def n14_1 : Code := cR n14_0
def n14_2 : Code := cR n14_1
def n14_3 : Code := cL n14_2
def n14_4 : Code := cB n14_3
def n14_5 : Code := cB n14_4
def n14_6 : Code := cL n14_5
def n14_7 : Code := cR n14_6
def n14_8 : Code := cL n14_7
def n14_9 : Code := cR n14_7
def n14_10 : Code := cR n14_5
def n14_11 : Code := cL n14_10
def n14_12 : Code := cB n14_11
def n14_13 : Code := cL n14_12
def n14_14 : Code := cR n14_13
def n14_15 : Code := cL n14_14
def n14_16 : Code := cR n14_14
def n14_17 : Code := cR n14_12
def n14_18 : Code := cR n14_17
def n14_19 : Code := cR n14_10
def n14_20 : Code := cR n14_2
def n14_21 : Code := cR n14_20
@[simp] theorem n14_8_eq : evC (cx14 call) n14_8 s = some (.nrm, s) := xK
@[simp] theorem n14_9_eq : evC (cx14 call) n14_9 s = some (.exit 0, s) := xX 0
@[simp] theorem n14_7_eq : evC (cx14 call) n14_7 s = cnd (s.env.get 8) (evC (cx14 call) n14_8 s) (evC (cx14 call) n14_9 s) := xC 8 _ _
@[simp] theorem n14_6_eq : evC (cx14 call) n14_6 ⟨env, h⟩ = (bnd (pureV h (mBin .neq (env.get 1) (u8 0#8))) fun r1 => evC (cx14 call) n14_7 ⟨(Env.put env 8 r1.1), r1.2⟩) := (xSR 2 (cOps (cL n14_6)) (cR n14_6)).trans (by
  refine opsK_0 ?_
  refine oT 7 (env.get 1) ?_
  refine oP 8 fun r1 => ?_
  exact oE)
@[simp] theorem n14_15_eq : evC (cx14 call) n14_15 ⟨env, h⟩ = (bnd (pureV h (mBin .xor (env.get 5) (env.get 0))) fun r2 => some (.nrm, ⟨(Env.put env 5 r2.1), r2.2⟩)) := (xR 5 (cOps n14_15)).trans (by
  refine opsK_0 ?_
  refine oT 14 (env.get 5) ?_
  refine oT 15 (env.get 0) ?_
  refine oP 16 fun r2 => ?_
  refine oT 5 r2.1 ?_
  exact oE)
@[simp] theorem n14_16_eq : evC (cx14 call) n14_16 s = some (.nrm, s) := xK
@[simp] theorem n14_14_eq : evC (cx14 call) n14_14 s = cnd (s.env.get 13) (evC (cx14 call) n14_15 s) (evC (cx14 call) n14_16 s) := xC 13 _ _
@[simp] theorem n14_13_eq : evC (cx14 call) n14_13 ⟨env, h⟩ = (bnd (pureV h (mBin .and (env.get 1) (u8 1#8))) fun r1 => bnd (pureV r1.2 (mBin .eql r1.1 (u8 1#8))) fun r2 => evC (cx14 call) n14_14 ⟨(Env.put env 13 r2.1), r2.2⟩) := (xSR 4 (cOps (cL n14_13)) (cR n14_13)).trans (by
  refine opsK_0 ?_
  refine oT 11 (env.get 1) ?_
  refine oP 12 fun r1 => ?_
  refine oP 13 fun r2 => ?_
  exact oE)
@[simp] theorem n14_18_eq : evC (cx14 call) n14_18 ⟨env, h⟩ = (bnd (pureV h (mBin .shl (env.get 0) (u64 1#64))) fun r1 => bnd (pureV r1.2 (mBin .mul (env.get 6) (u8 27#8))) fun r3 => bnd (pureV r3.2 (mBin .xor r1.1 r3.1)) fun r4 => some (.nrm, ⟨(Env.put env 0 r4.1), r4.2⟩)) := (xR 7 (cOps n14_18)).trans (by
  refine opsK_0 ?_
  refine oT 19 (env.get 0) ?_
  refine oP 20 fun r1 => ?_
  refine oT 21 (env.get 6) ?_
  refine oP 22 fun r3 => ?_
  refine oP 23 fun r4 => ?_
  refine oT 0 r4.1 ?_
  exact oE)
@[simp] theorem n14_17_eq : evC (cx14 call) n14_17 ⟨env, h⟩ = (bnd (pureV h (mBin .shr (env.get 0) (u64 7#64))) fun r1 => evC (cx14 call) n14_18 ⟨(Env.put env 6 r1.1), r1.2⟩) := (xSR 6 (cOps (cL n14_17)) (cR n14_17)).trans (by
  refine opsK_0 ?_
  refine oT 17 (env.get 0) ?_
  refine oP 18 fun r1 => ?_
  refine oT 6 r1.1 ?_
  exact oE)
@[simp] theorem n14_12_eq : evC (cx14 call) n14_12 s = bnd (evC (cx14 call) n14_13 s) (sqK (evC (cx14 call) n14_17)) := xS _ _
@[simp] theorem n14_11_eq : evC (cx14 call) n14_11 s = bnd (evC (cx14 call) n14_12 s) fun r => some (inBlk 1 r) := xB 1 _
@[simp] theorem n14_19_eq : evC (cx14 call) n14_19 ⟨env, h⟩ = (bnd (pureV h (mBin .shr (env.get 1) (u64 1#64))) fun r1 => some (.nrm, ⟨(Env.put env 1 r1.1), r1.2⟩)) := (xR 3 (cOps n14_19)).trans (by
  refine opsK_0 ?_
  refine oT 9 (env.get 1) ?_
  refine oP 10 fun r1 => ?_
  refine oT 1 r1.1 ?_
  exact oE)
@[simp] theorem n14_10_eq : evC (cx14 call) n14_10 s = bnd (evC (cx14 call) n14_11 s) (sqK (evC (cx14 call) n14_19)) := xS _ _
@[simp] theorem n14_5_eq : evC (cx14 call) n14_5 s = bnd (evC (cx14 call) n14_6 s) (sqK (evC (cx14 call) n14_10)) := xS _ _
@[simp] theorem n14_4_eq : evC (cx14 call) n14_4 s = evLoop (evC (cx14 call) n14_5) s := xL _
@[simp] theorem n14_3_eq : evC (cx14 call) n14_3 s = bnd (evC (cx14 call) n14_4 s) fun r => some (inBlk 0 r) := xB 0 _
@[simp] theorem n14_21_eq : evC (cx14 call) n14_21 s = some (.ret, s) := xE
@[simp] theorem n14_20_eq : evC (cx14 call) n14_20 ⟨env, h⟩ = ( evC (cx14 call) n14_21 ⟨(Env.put env 4 (env.get 5)), h⟩) := (xSR 8 (cOps (cL n14_20)) (cR n14_20)).trans (by
  refine opsK_0 ?_
  refine oT 24 (env.get 5) ?_
  refine oT 4 (env.get 5) ?_
  exact oE)
@[simp] theorem n14_2_eq : evC (cx14 call) n14_2 s = bnd (evC (cx14 call) n14_3 s) (sqK (evC (cx14 call) n14_20)) := xS _ _
@[simp] theorem n14_1_eq : evC (cx14 call) n14_1 ⟨env, h⟩ = ( evC (cx14 call) n14_2 ⟨(Env.put env 5 (u8 0#8)), h⟩) := (xSR 1 (cOps (cL n14_1)) (cR n14_1)).trans (by
  refine opsK_0 ?_
  refine oT 5 (u8 0#8) ?_
  exact oE)
@[simp] theorem n14_0_eq : evC (cx14 call) n14_0 ⟨env, h⟩ = ( evC (cx14 call) n14_1 ⟨(Env.put env 4 (u8 0#8)), h⟩) := (xSR 0 (cOps (cL n14_0)) (cR n14_0)).trans (by
  refine opsK_0 ?_
  refine oT 4 (u8 0#8) ?_
  exact oE)
theorem b14 (call : Calling) (a0 a1 : AV) (h : Heap) : evBody (cx14 call) Try.f14 n14_0 [a0, a1] h = bnd (evC (cx14 call) n14_0 ⟨[(0, a0), (1, a1), (2, .junk), (3, .junk), (4, .junk), (5, .junk), (6, .junk), (8, .junk), (13, .junk)], h⟩) (retK fun s => bnd (bnd (some (s.env.get 4)) fun v => bnd (some []) fun vs => some (v :: vs)) fun vs => some (oneOrTuple vs)) := by kernel_rfl
theorem fn14 : Try.prog.funcs[14]? = some Try.f14 := by kernel_rfl
theorem k14 : Callable Try.prog 14 := ⟨Try.f14, fn14, by kernel_rfl, by kernel_rfl⟩
theorem s14 {call : Calling} (hc : CallOK Try.prog call) {args : List AV} {h h' : Heap} {v : AV} (he : evBody (cx14 call) Try.f14 n14_0 args h = some (v, h')) : Spec Try.prog 14 args h v h' := body_sound (C := cx14 call) TT_ok hc mixed_ok fn14 (by kernel_rfl) (by kernel_rfl) he
def sn14 := Y n14_8_eq (Y n14_9_eq (Y n14_7_eq (Y n14_6_eq (Y n14_15_eq (Y n14_16_eq (Y n14_14_eq (Y n14_13_eq (Y n14_18_eq (Y n14_17_eq (Y n14_12_eq (Y n14_11_eq (Y n14_19_eq (Y n14_10_eq (Y n14_5_eq (Y n14_4_eq (Y n14_3_eq (Y n14_21_eq (Y n14_20_eq (Y n14_2_eq (Y n14_1_eq (n14_0_eq)))))))))))))))))))))
end
end Go.Vab

/-
  The product of two elements.
-/
namespace Go.Vab
open Go Go.Proofs

theorem walk14 (call : Calling) (a b : BitVec 8) (h : Heap) : evBody (cx14 call) Try.f14 n14_0 [u8 a, u8 b] h = some (u8 (mulB a b), h) := by
  rw [b14]
  have L : ∀ x6 x8 x13, ∃ r, evLoop (evC (cx14 call) n14_5) ⟨[(0, u8 a), (1, u8 b), (2, .junk), (3, .junk), (4, u8 0#8), (5, u8 0#8), (6, x6), (8, x8), (13, x13)], h⟩ = some r ∧ 
      ∃ y0 y1 y6 y8 y13, r = (.exit 0, ⟨[(0, y0), (1, y1), (2, .junk), (3, .junk), (4, u8 0#8), (5, u8 (mulB a b)), (6, y6), (8, y8), (13, y13)], h⟩) := by
    intro x6 x8 x13
    refine evLoop_rule (fun n s => ∃ a' b' c' x6 x8 x13, s = ⟨[(0, u8 a'), (1, u8 b'), (2, .junk), (3, .junk), (4, u8 0#8), (5, u8 c'), (6, x6), (8, x8), (13, x13)], h⟩ ∧ b'.toNat < 2 ^ n ∧ mulL n a' b' c' = mulB a b) ?_ 8 _ ⟨a, b, 0#8, _, _, _, rfl, b.isLt, rfl⟩
    rintro n s ⟨a', b', c', x6, x8, x13, rfl, hb, hm⟩
    by_cases h0 : b' = 0#8
    · subst h0
      rw [mulL_zero] at hm
      subst hm
      simp [Env.get, Env.put]
    · obtain ⟨m, rfl⟩ : ∃ m, n = m + 1 := by
        cases n with
        | zero => exact absurd (BitVec.eq_of_toNat_eq (by simpa using hb)) h0
        | succ m => exact ⟨m, rfl⟩
      have hb' : (b' >>> 1).toNat < 2 ^ m := by
        rw [BitVec.toNat_ushiftRight, Nat.shiftRight_eq_div_pow]
        rw [Nat.pow_succ] at hb
        omega
      simp only [mulL] at hm
      by_cases h1 : b' &&& 1#8 = 1#8
      · rw [if_pos h1] at hm
        refine ex_of (by conv => lhs; simp [Env.get, Env.put, h0, h1]) ?_
        exact .inl ⟨rfl, m, by omega, _, _, _, _, _, _, rfl, hb', hm⟩
      · rw [if_neg h1] at hm
        refine ex_of (by conv => lhs; simp [Env.get, Env.put, h0, h1]) ?_
        exact .inl ⟨rfl, m, by omega, _, _, _, _, _, _, rfl, hb', hm⟩
  obtain ⟨r, hr, y0, y1, y6, y8, y13, rfl⟩ := L .junk .junk .junk
  simp [Env.get, Env.put, hr, oneOrTuple]

end Go.Vab

/- How the evaluator reads the functions of a seat. Printed by wip/tools/gen.py (own work). -/
namespace Go.Vab
open Go Go.Proofs
noncomputable section
variable (call : Calling) (env : Env) (h : Heap) (s : St)
/-! math/bits.RotateLeft8 -/
def cx38 (call : Calling) : Ctx := ⟨call, TT, 17, [6, 7, 8, 9, 10, 11, 12, 13, 14, 15, 16]⟩
def n38_0 : Code := bodyOf Try.f38
def n38_1 : Code := cR n38_0
def n38_2 : Code := cR n38_1
def n38_3 : Code := cR n38_2
@[simp] theorem n38_3_eq : evC (cx38 call) n38_3 s = some (.ret, s) := xE
@[simp] theorem n38_2_eq : evC (cx38 call) n38_2 ⟨env, h⟩ = (bnd (pureV h (mBin .shl (env.get 0) (env.get 5))) fun r2 => bnd (pureV r2.2 (mBin .sub (u64 8#64) (env.get 5))) fun r5 => bnd (pureV r5.2 (mBin .shr (env.get 0) r5.1)) fun r6 => bnd (pureV r6.2 (mBin .or r2.1 r6.1)) fun r7 => evC (cx38 call) n38_3 ⟨(Env.put env 4 r7.1), r7.2⟩) := (xSR 2 (cOps (cL n38_2)) (cR n38_2)).trans (by
  refine opsK_0 ?_
  refine oT 9 (env.get 0) ?_
  refine oT 10 (env.get 5) ?_
  refine oP 11 fun r2 => ?_
  refine oT 12 (env.get 0) ?_
  refine oT 13 (env.get 5) ?_
  refine oP 14 fun r5 => ?_
  refine oP 15 fun r6 => ?_
  refine oP 16 fun r7 => ?_
  refine oT 4 r7.1 ?_
  exact oE)
@[simp] theorem n38_1_eq : evC (cx38 call) n38_1 ⟨env, h⟩ = (bnd (pureV h (mConv .u64 (env.get 1))) fun r1 => bnd (pureV r1.2 (mBin .and r1.1 (u64 7#64))) fun r2 => evC (cx38 call) n38_2 ⟨(Env.put env 5 r2.1), r2.2⟩) := (xSR 1 (cOps (cL n38_1)) (cR n38_1)).trans (by
  refine opsK_0 ?_
  refine oT 6 (env.get 1) ?_
  refine oP 7 fun r1 => ?_
  refine oP 8 fun r2 => ?_
  refine oT 5 r2.1 ?_
  exact oE)
@[simp] theorem n38_0_eq : evC (cx38 call) n38_0 ⟨env, h⟩ = ( evC (cx38 call) n38_1 ⟨(Env.put env 4 (u8 0#8)), h⟩) := (xSR 0 (cOps (cL n38_0)) (cR n38_0)).trans (by
  refine opsK_0 ?_
  refine oT 4 (u8 0#8) ?_
  exact oE)
theorem b38 (call : Calling) (a0 a1 : AV) (h : Heap) : evBody (cx38 call) Try.f38 n38_0 [a0, a1] h = bnd (evC (cx38 call) n38_0 ⟨[(0, a0), (1, a1), (2, .junk), (3, .junk), (4, .junk), (5, .junk)], h⟩) (retK fun s => bnd (bnd (some (s.env.get 4)) fun v => bnd (some []) fun vs => some (v :: vs)) fun vs => some (oneOrTuple vs)) := by kernel_rfl
theorem fn38 : Try.prog.funcs[38]? = some Try.f38 := by kernel_rfl
theorem k38 : Callable Try.prog 38 := ⟨Try.f38, fn38, by kernel_rfl, by kernel_rfl⟩
theorem s38 {call : Calling} (hc : CallOK Try.prog call) {args : List AV} {h h' : Heap} {v : AV} (he : evBody (cx38 call) Try.f38 n38_0 args h = some (v, h')) : Spec Try.prog 38 args h v h' := body_sound (C := cx38 call) TT_ok hc mixed_ok fn38 (by kernel_rfl) (by kernel_rfl) he
def sn38 := Y n38_3_eq (Y n38_2_eq (Y n38_1_eq (n38_0_eq)))
end
end Go.Vab

/- How the evaluator reads the functions of a seat. Printed by wip/tools/gen.py (own work). -/
namespace Go.Vab
open Go Go.Proofs
noncomputable section
variable (call : Calling) (env : Env) (h : Heap) (s : St)
/-! vestry/aes.Sub -/
def cx16 (call : Calling) : Ctx := ⟨call, TT, 34, [6, 7, 9, 10, 11, 12, 14, 15, 16, 17, 18, 19, 20, 21, 22, 23, 24, 25, 26, 27, 28, 29, 30, 31, 32, 33]⟩
def n16_0 : Code := bodyOf Try.f16
def n16_1 : Code := cR n16_0
def n16_2 : Code := cR n16_1
def n16_3 : Code := cL n16_2
def n16_4 : Code := cR n16_3
def n16_5 : Code := cB n16_4
def n16_6 : Code := cB n16_5
def n16_7 : Code := cL n16_6
def n16_8 : Code := cR n16_7
def n16_9 : Code := cL n16_8
def n16_10 : Code := cR n16_8
def n16_11 : Code := cR n16_6
def n16_12 : Code := cL n16_11
def n16_13 : Code := cB n16_12
def n16_14 : Code := cL n16_13
def n16_15 : Code := cR n16_14
def n16_16 : Code := cL n16_15
def n16_17 : Code := cR n16_15
def n16_18 : Code := cR n16_13
def n16_19 : Code := cR n16_11
def n16_20 : Code := cR n16_2
def n16_21 : Code := cR n16_20
@[simp] theorem n16_9_eq : evC (cx16 call) n16_9 s = some (.nrm, s) := xK
@[simp] theorem n16_10_eq : evC (cx16 call) n16_10 s = some (.exit 0, s) := xX 0
@[simp] theorem n16_8_eq : evC (cx16 call) n16_8 s = cnd (s.env.get 8) (evC (cx16 call) n16_9 s) (evC (cx16 call) n16_10 s) := xC 8 _ _
@[simp] theorem n16_7_eq : evC (cx16 call) n16_7 ⟨env, h⟩ = (bnd (pureV h (mBin .gtr (env.get 5) (nat 0))) fun r1 => evC (cx16 call) n16_8 ⟨(Env.put env 8 r1.1), r1.2⟩) := (xSR 3 (cOps (cL n16_7)) (cR n16_7)).trans (by
  refine opsK_0 ?_
  refine oT 7 (env.get 5) ?_
  refine oP 8 fun r1 => ?_
  exact oE)
@[simp] theorem n16_16_eq : evC (cx16 call) n16_16 ⟨env, h⟩ = (bnd (call 14 [(env.get 3), (env.get 4)] h) fun r2 => some (.nrm, ⟨(Env.put env 3 r2.1), r2.2⟩)) := (xR 6 (cOps n16_16)).trans (by
  refine opsK_0 ?_
  refine oT 14 (env.get 3) ?_
  refine oT 15 (env.get 4) ?_
  refine oP 16 fun r2 => ?_
  refine oT 3 r2.1 ?_
  exact oE)
@[simp] theorem n16_17_eq : evC (cx16 call) n16_17 s = some (.nrm, s) := xK
@[simp] theorem n16_15_eq : evC (cx16 call) n16_15 s = cnd (s.env.get 13) (evC (cx16 call) n16_16 s) (evC (cx16 call) n16_17 s) := xC 13 _ _
@[simp] theorem n16_14_eq : evC (cx16 call) n16_14 ⟨env, h⟩ = (bnd (pureV h (mBin .and (env.get 5) (nat 1))) fun r1 => bnd (pureV r1.2 (mBin .eql r1.1 (nat 1))) fun r2 => evC (cx16 call) n16_15 ⟨(Env.put env 13 r2.1), r2.2⟩) := (xSR 5 (cOps (cL n16_14)) (cR n16_14)).trans (by
  refine opsK_0 ?_
  refine oT 11 (env.get 5) ?_
  refine oP 12 fun r1 => ?_
  refine oP 13 fun r2 => ?_
  exact oE)
@[simp] theorem n16_18_eq : evC (cx16 call) n16_18 ⟨env, h⟩ = (bnd (call 14 [(env.get 4), (env.get 4)] h) fun r2 => some (.nrm, ⟨(Env.put env 4 r2.1), r2.2⟩)) := (xR 7 (cOps n16_18)).trans (by
  refine opsK_0 ?_
  refine oT 17 (env.get 4) ?_
  refine oT 18 (env.get 4) ?_
  refine oP 19 fun r2 => ?_
  refine oT 4 r2.1 ?_
  exact oE)
@[simp] theorem n16_13_eq : evC (cx16 call) n16_13 s = bnd (evC (cx16 call) n16_14 s) (sqK (evC (cx16 call) n16_18)) := xS _ _
@[simp] theorem n16_12_eq : evC (cx16 call) n16_12 s = bnd (evC (cx16 call) n16_13 s) fun r => some (inBlk 1 r) := xB 1 _
@[simp] theorem n16_19_eq : evC (cx16 call) n16_19 ⟨env, h⟩ = (bnd (pureV h (mBin .shr (env.get 5) (u64 1#64))) fun r1 => some (.nrm, ⟨(Env.put env 5 r1.1), r1.2⟩)) := (xR 4 (cOps n16_19)).trans (by
  refine opsK_0 ?_
  refine oT 9 (env.get 5) ?_
  refine oP 10 fun r1 => ?_
  refine oT 5 r1.1 ?_
  exact oE)
@[simp] theorem n16_11_eq : evC (cx16 call) n16_11 s = bnd (evC (cx16 call) n16_12 s) (sqK (evC (cx16 call) n16_19)) := xS _ _
@[simp] theorem n16_6_eq : evC (cx16 call) n16_6 s = bnd (evC (cx16 call) n16_7 s) (sqK (evC (cx16 call) n16_11)) := xS _ _
@[simp] theorem n16_5_eq : evC (cx16 call) n16_5 s = evLoop (evC (cx16 call) n16_6) s := xL _
@[simp] theorem n16_4_eq : evC (cx16 call) n16_4 s = bnd (evC (cx16 call) n16_5 s) fun r => some (inBlk 0 r) := xB 0 _
@[simp] theorem n16_3_eq : evC (cx16 call) n16_3 ⟨env, h⟩ = ( evC (cx16 call) n16_4 ⟨(Env.put env 5 (nat 254)), h⟩) := (xSR 2 (cOps (cL n16_3)) (cR n16_3)).trans (by
  refine opsK_0 ?_
  refine oT 5 (nat 254) ?_
  exact oE)
@[simp] theorem n16_21_eq : evC (cx16 call) n16_21 s = some (.ret, s) := xE
@[simp] theorem n16_20_eq : evC (cx16 call) n16_20 ⟨env, h⟩ = (bnd (call 38 [(env.get 3), (nat 1)] h) fun r2 => bnd (pureV r2.2 (mBin .xor (env.get 3) r2.1)) fun r3 => bnd (call 38 [(env.get 3), (nat 2)] r3.2) fun r5 => bnd (pureV r5.2 (mBin .xor r3.1 r5.1)) fun r6 => bnd (call 38 [(env.get 3), (nat 3)] r6.2) fun r8 => bnd (pureV r8.2 (mBin .xor r6.1 r8.1)) fun r9 => bnd (call 38 [(env.get 3), (nat 4)] r9.2) fun r11 => bnd (pureV r11.2 (mBin .xor r9.1 r11.1)) fun r12 => bnd (pureV r12.2 (mBin .xor r12.1 (u8 99#8))) fun r13 => evC (cx16 call) n16_21 ⟨(Env.put env 2 r13.1), r13.2⟩) := (xSR 8 (cOps (cL n16_20)) (cR n16_20)).trans (by
  refine opsK_0 ?_
  refine oT 20 (env.get 3) ?_
  refine oT 21 (env.get 3) ?_
  refine oP 22 fun r2 => ?_
  refine oP 23 fun r3 => ?_
  refine oT 24 (env.get 3) ?_
  refine oP 25 fun r5 => ?_
  refine oP 26 fun r6 => ?_
  refine oT 27 (env.get 3) ?_
  refine oP 28 fun r8 => ?_
  refine oP 29 fun r9 => ?_
  refine oT 30 (env.get 3) ?_
  refine oP 31 fun r11 => ?_
  refine oP 32 fun r12 => ?_
  refine oP 33 fun r13 => ?_
  refine oT 2 r13.1 ?_
  exact oE)
@[simp] theorem n16_2_eq : evC (cx16 call) n16_2 s = bnd (evC (cx16 call) n16_3 s) (sqK (evC (cx16 call) n16_20)) := xS _ _
@[simp] theorem n16_1_eq : evC (cx16 call) n16_1 ⟨env, h⟩ = ( evC (cx16 call) n16_2 ⟨(Env.put (Env.put env 3 (u8 1#8)) 4 (env.get 0)), h⟩) := (xSR 1 (cOps (cL n16_1)) (cR n16_1)).trans (by
  refine opsK_0 ?_
  refine oT 6 (env.get 0) ?_
  refine oT 3 (u8 1#8) ?_
  refine oT 4 (env.get 0) ?_
  exact oE)
@[simp] theorem n16_0_eq : evC (cx16 call) n16_0 ⟨env, h⟩ = ( evC (cx16 call) n16_1 ⟨(Env.put env 2 (u8 0#8)), h⟩) := (xSR 0 (cOps (cL n16_0)) (cR n16_0)).trans (by
  refine opsK_0 ?_
  refine oT 2 (u8 0#8) ?_
  exact oE)
theorem b16 (call : Calling) (a0 : AV) (h : Heap) : evBody (cx16 call) Try.f16 n16_0 [a0] h = bnd (evC (cx16 call) n16_0 ⟨[(0, a0), (1, .junk), (2, .junk), (3, .junk), (4, .junk), (5, .junk), (8, .junk), (13, .junk)], h⟩) (retK fun s => bnd (bnd (some (s.env.get 2)) fun v => bnd (some []) fun vs => some (v :: vs)) fun vs => some (oneOrTuple vs)) := by kernel_rfl
theorem fn16 : Try.prog.funcs[16]? = some Try.f16 := by kernel_rfl
theorem k16 : Callable Try.prog 16 := ⟨Try.f16, fn16, by kernel_rfl, by kernel_rfl⟩
theorem s16 {call : Calling} (hc : CallOK Try.prog call) {args : List AV} {h h' : Heap} {v : AV} (he : evBody (cx16 call) Try.f16 n16_0 args h = some (v, h')) : Spec Try.prog 16 args h v h' := body_sound (C := cx16 call) TT_ok hc mixed_ok fn16 (by kernel_rfl) (by kernel_rfl) he
def sn16 := Y n16_9_eq (Y n16_10_eq (Y n16_8_eq (Y n16_7_eq (Y n16_16_eq (Y n16_17_eq (Y n16_15_eq (Y n16_14_eq (Y n16_18_eq (Y n16_13_eq (Y n16_12_eq (Y n16_19_eq (Y n16_11_eq (Y n16_6_eq (Y n16_5_eq (Y n16_4_eq (Y n16_3_eq (Y n16_21_eq (Y n16_20_eq (Y n16_2_eq (Y n16_1_eq (n16_0_eq)))))))))))))))))))))
end
end Go.Vab

/- How the evaluator reads the functions of a seat. Printed by wip/tools/gen.py (own work). -/
namespace Go.Vab
open Go Go.Proofs
noncomputable section
variable (call : Calling) (env : Env) (h : Heap) (s : St)
/-! vestry/aes.table -/
def cx40 (call : Calling) : Ctx := ⟨call, TT, 12, [4, 5, 6, 7, 8, 9, 10, 11]⟩
def n40_0 : Code := bodyOf Try.f40
def n40_1 : Code := cR n40_0
def n40_2 : Code := cL n40_1
def n40_3 : Code := cR n40_2
def n40_4 : Code := cB n40_3
def n40_5 : Code := cB n40_4
def n40_6 : Code := cR n40_5
def n40_7 : Code := cL n40_6
def n40_8 : Code := cL n40_7
def n40_9 : Code := cR n40_7
def n40_10 : Code := cR n40_6
def n40_11 : Code := cL n40_10
def n40_12 : Code := cB n40_11
def n40_13 : Code := cR n40_12
def n40_14 : Code := cR n40_10
def n40_15 : Code := cR n40_1
def n40_16 : Code := cR n40_15
@[simp] theorem n40_8_eq : evC (cx40 call) n40_8 s = some (.nrm, s) := xK
@[simp] theorem n40_9_eq : evC (cx40 call) n40_9 s = some (.exit 0, s) := xX 0
@[simp] theorem n40_7_eq : evC (cx40 call) n40_7 s = cnd (s.env.get 3) (evC (cx40 call) n40_8 s) (evC (cx40 call) n40_9 s) := xC 3 _ _
@[simp] theorem n40_13_eq : evC (cx40 call) n40_13 ⟨env, h⟩ = (bnd (pureV h (mConv .u8 (env.get 1))) fun r2 => bnd (call 16 [r2.1] r2.2) fun r3 => bnd (pureV r3.2 (mIdxA (.arr 256 (.int .u8)) (env.get 0) (env.get 1))) fun r4 => bnd (stU (.int .u8) r4.1 r3.1 r4.2) fun r5 => some (.nrm, ⟨env, r5.2⟩)) := (xR 4 (cOps n40_13)).trans (by
  refine opsK_0 ?_
  refine oT 5 (env.get 1) ?_
  refine oT 6 (env.get 1) ?_
  refine oP 7 fun r2 => ?_
  refine oP 8 fun r3 => ?_
  refine oP 9 fun r4 => ?_
  refine oN fun r5 => ?_
  exact oE)
@[simp] theorem n40_12_eq : evC (cx40 call) n40_12 ⟨env, h⟩ = ( evC (cx40 call) n40_13 ⟨(Env.put env 1 (env.get 2)), h⟩) := (xSR 3 (cOps (cL n40_12)) (cR n40_12)).trans (by
  refine opsK_0 ?_
  refine oT 4 (env.get 2) ?_
  refine oT 1 (env.get 2) ?_
  exact oE)
@[simp] theorem n40_11_eq : evC (cx40 call) n40_11 s = bnd (evC (cx40 call) n40_12 s) fun r => some (inBlk 1 r) := xB 1 _
@[simp] theorem n40_14_eq : evC (cx40 call) n40_14 ⟨env, h⟩ = (bnd (pureV h (mBin .add (env.get 2) (nat 1))) fun r0 => some (.nrm, ⟨(Env.put env 2 r0.1), r0.2⟩)) := (xR 5 (cOps n40_14)).trans (by
  refine opsK_0 ?_
  refine oP 10 fun r0 => ?_
  refine oT 2 r0.1 ?_
  exact oE)
@[simp] theorem n40_10_eq : evC (cx40 call) n40_10 s = bnd (evC (cx40 call) n40_11 s) (sqK (evC (cx40 call) n40_14)) := xS _ _
@[simp] theorem n40_6_eq : evC (cx40 call) n40_6 s = bnd (evC (cx40 call) n40_7 s) (sqK (evC (cx40 call) n40_10)) := xS _ _
@[simp] theorem n40_5_eq : evC (cx40 call) n40_5 ⟨env, h⟩ = (bnd (pureV h (mBin .lss (env.get 2) (nat 256))) fun r0 => evC (cx40 call) n40_6 ⟨(Env.put env 3 r0.1), r0.2⟩) := (xSR 2 (cOps (cL n40_5)) (cR n40_5)).trans (by
  refine opsK_0 ?_
  refine oP 3 fun r0 => ?_
  exact oE)
@[simp] theorem n40_4_eq : evC (cx40 call) n40_4 s = evLoop (evC (cx40 call) n40_5) s := xL _
@[simp] theorem n40_3_eq : evC (cx40 call) n40_3 s = bnd (evC (cx40 call) n40_4 s) fun r => some (inBlk 0 r) := xB 0 _
@[simp] theorem n40_2_eq : evC (cx40 call) n40_2 ⟨env, h⟩ = ( evC (cx40 call) n40_3 ⟨(Env.put env 2 (nat 0)), h⟩) := (xSR 1 (cOps (cL n40_2)) (cR n40_2)).trans (by
  refine opsK_0 ?_
  refine oT 2 (nat 0) ?_
  exact oE)
@[simp] theorem n40_16_eq : evC (cx40 call) n40_16 s = some (.ret, s) := xE
@[simp] theorem n40_15_eq : evC (cx40 call) n40_15 ⟨env, h⟩ = (bnd (pureV h (mLoad (.arr 256 (.int .u8)) (env.get 0) h)) fun r0 => bnd (stU (.arr 256 (.int .u8)) (env.get 0) r0.1 r0.2) fun r1 => evC (cx40 call) n40_16 ⟨env, r1.2⟩) := (xSR 6 (cOps (cL n40_15)) (cR n40_15)).trans (by
  refine opsK_0 ?_
  refine oP 11 fun r0 => ?_
  refine oN fun r1 => ?_
  exact oE)
@[simp] theorem n40_1_eq : evC (cx40 call) n40_1 s = bnd (evC (cx40 call) n40_2 s) (sqK (evC (cx40 call) n40_15)) := xS _ _
@[simp] theorem n40_0_eq : evC (cx40 call) n40_0 ⟨env, h⟩ = (bnd (mNew (.arr 256 (.int .u8)) (arr 256 fun _ => 0#8) h) fun r0 => evC (cx40 call) n40_1 ⟨(Env.put env 0 r0.1), r0.2⟩) := (xSR 0 (cOps (cL n40_0)) (cR n40_0)).trans (by
  refine opsK_0 ?_
  refine oP 0 fun r0 => ?_
  exact oE)
theorem b40 (call : Calling) (h : Heap) : evBody (cx40 call) Try.f40 n40_0 [] h = bnd (evC (cx40 call) n40_0 ⟨[(0, .junk), (1, .junk), (2, .junk), (3, .junk)], h⟩) (retK fun s => bnd (bnd (mLoad (.arr 256 (.int .u8)) (s.env.get 0) s.heap) fun v => bnd (some []) fun vs => some (v :: vs)) fun vs => some (oneOrTuple vs)) := by kernel_rfl
theorem fn40 : Try.prog.funcs[40]? = some Try.f40 := by kernel_rfl
theorem k40 : Callable Try.prog 40 := ⟨Try.f40, fn40, by kernel_rfl, by kernel_rfl⟩
theorem s40 {call : Calling} (hc : CallOK Try.prog call) {args : List AV} {h h' : Heap} {v : AV} (he : evBody (cx40 call) Try.f40 n40_0 args h = some (v, h')) : Spec Try.prog 40 args h v h' := body_sound (C := cx40 call) TT_ok hc mixed_ok fn40 (by kernel_rfl) (by kernel_rfl) he
def sn40 := Y n40_8_eq (Y n40_9_eq (Y n40_7_eq (Y n40_13_eq (Y n40_12_eq (Y n40_11_eq (Y n40_14_eq (Y n40_10_eq (Y n40_6_eq (Y n40_5_eq (Y n40_4_eq (Y n40_3_eq (Y n40_2_eq (Y n40_16_eq (Y n40_15_eq (Y n40_1_eq (n40_0_eq))))))))))))))))
end
end Go.Vab

/-
  The substitute of an element; the table of all.
-/
namespace Go.Vab
open Go Go.Proofs

/-! rotations -/
theorem walk38 (call : Calling) (x : BitVec 8) (n : Nat) (hn : n < 8) (h : Heap) : evBody (cx38 call) Try.f38 n38_0 [u8 x, nat n] h = some (u8 (rotB x n), h) := by
  rw [b38]
  have e1 : (BitVec.ofNat 64 n &&& 7#64).toNat = n % 8 := by
    rw [BitVec.toNat_and, BitVec.toNat_ofNat, Nat.mod_eq_of_lt (by omega)]
    exact Nat.and_two_pow_sub_one_eq_mod n 3
  have e2 : (8#64 - (BitVec.ofNat 64 n &&& 7#64)).toNat = 8 - n % 8 := by
    rw [BitVec.toNat_sub, e1]
    simp; omega
  simp [Env.get, Env.put, e1, e2, oneOrTuple, rotB]

/-! the tables of contracts -/
noncomputable def c14 := conC (fun p : BitVec 8 × BitVec 8 => [u8 p.1, u8 p.2]) (fun _ _ => True) (fun p h => (u8 (mulB p.1 p.2), h))
noncomputable def c38 := conC (fun p : BitVec 8 × Nat => [u8 p.1, nat p.2]) (fun p _ => p.2 < 8) (fun p h => (u8 (rotB p.1 p.2), h))
noncomputable def callA1 : Calling := addC (addC noC 14 c14) 38 c38

theorem c14_eq (a b : BitVec 8) (h : Heap) : c14 [u8 a, u8 b] h = some (u8 (mulB a b), h) :=
  conC_eq (enc := fun p : BitVec 8 × BitVec 8 => [u8 p.1, u8 p.2]) (a := (a, b)) (f := fun p h => (u8 (mulB p.1 p.2), h)) (fun x y h e => by simp [u8_inj] at e; rw [e.1, e.2]) trivial
theorem c38_eq (a : BitVec 8) (n : Nat) (h : Heap) (hn : n < 8) : c38 [u8 a, nat n] h = some (u8 (rotB a n), h) :=
  conC_eq (enc := fun p : BitVec 8 × Nat => [u8 p.1, nat p.2]) (a := (a, n)) (f := fun p h => (u8 (rotB p.1 p.2), h)) (fun x y h e => by simp [u8_inj, nat_inj] at e; rw [e.1, e.2]) hn

theorem callA1_ok : CallOK Try.prog callA1 :=
  addC_con (addC_con (noC_ok _) k14 fun p h _ => s14 (noC_ok _) (walk14 _ p.1 p.2 h)) k38 fun p h hp => s38 (noC_ok _) (walk38 _ p.1 p.2 hp h)

@[simp] theorem callA1_14 (a b : BitVec 8) (h : Heap) : callA1 14 [u8 a, u8 b] h = some (u8 (mulB a b), h) := by simp [callA1, addC, c14_eq]
@[simp] theorem callA1_38 (a : BitVec 8) (n : Nat) (h : Heap) (hn : n < 8) : callA1 38 [u8 a, nat n] h = some (u8 (rotB a n), h) := by simp [callA1, addC, c38_eq, hn]

/-! the substitute -/
theorem walk16 (a : BitVec 8) (h : Heap) : evBody (cx16 callA1) Try.f16 n16_0 [u8 a] h = some (u8 (subB a), h) := by
  rw [b16]
  have L : ∀ x8 x13, ∃ r, evLoop (evC (cx16 callA1) n16_6) ⟨[(0, u8 a), (1, .junk), (2, u8 0#8), (3, u8 1#8), (4, u8 a), (5, nat 254), (8, x8), (13, x13)], h⟩ = some r ∧
      ∃ y4 y5 y8 y13, r = (.exit 0, ⟨[(0, u8 a), (1, .junk), (2, u8 0#8), (3, u8 (invB a)), (4, y4), (5, y5), (8, y8), (13, y13)], h⟩) := by
    intro x8 x13
    refine evLoop_rule (fun f s => ∃ n b c x8 x13, s = ⟨[(0, u8 a), (1, .junk), (2, u8 0#8), (3, u8 b), (4, u8 c), (5, nat n), (8, x8), (13, x13)], h⟩ ∧ n < 2 ^ f ∧ n < 256 ∧ powL f n b c = invB a) ?_ 8 _ ⟨254, 1#8, a, _, _, rfl, by decide, by decide, rfl⟩
    rintro f s ⟨n, b, c, x8, x13, rfl, hf, hn, hm⟩
    by_cases h0 : n = 0
    · subst h0
      rw [powL_zero] at hm
      subst hm
      refine ex_of (by conv => lhs; simp [Env.get, Env.put]) ?_
      exact .inr ⟨by simp, _, _, _, _, rfl⟩
    · obtain ⟨m, rfl⟩ : ∃ m, f = m + 1 := by
        cases f with
        | zero => simp at hf; omega
        | succ m => exact ⟨m, rfl⟩
      rw [Nat.pow_succ] at hf
      have e1 : mBin .and (nat n) (nat 1) = some (nat (n % 2)) := by rw [nat_and (by omega) (by omega), Nat.and_one_is_mod]
      have e2 : mBin .shr (nat n) (u64 1#64) = some (nat (n / 2)) := by rw [nat_shr_u64 (by omega)]; rfl
      have h0' : 0 < n := by omega
      simp only [powL] at hm
      by_cases h1 : n % 2 = 1
      · rw [if_pos h1] at hm
        refine ex_of (by conv => lhs; simp [Env.get, Env.put, h0', h1, e1, e2]) ?_
        exact .inl ⟨rfl, m, by omega, _, _, _, _, _, rfl, by omega, by omega, hm⟩
      · rw [if_neg h1] at hm
        refine ex_of (by conv => lhs; simp [Env.get, Env.put, h0', h1, e1, e2]) ?_
        exact .inl ⟨rfl, m, by omega, _, _, _, _, _, rfl, by omega, by omega, hm⟩
  obtain ⟨r, hr, y4, y5, y8, y13, rfl⟩ := L .junk .junk
  simp [Env.get, Env.put, hr, oneOrTuple, subB]

noncomputable def c16 := conC (fun a : BitVec 8 => [u8 a]) (fun _ _ => True) (fun a h => (u8 (subB a), h))
noncomputable def callA2 : Calling := addC callA1 16 c16
theorem c16_eq (a : BitVec 8) (h : Heap) : c16 [u8 a] h = some (u8 (subB a), h) :=
  conC_eq (enc := fun a : BitVec 8 => [u8 a]) (a := a) (f := fun a h => (u8 (subB a), h)) (fun x y h e => by simp [u8_inj] at e; rw [e]) trivial
theorem callA2_ok : CallOK Try.prog callA2 := addC_con callA1_ok k16 fun a h _ => s16 callA1_ok (walk16 a h)
@[simp] theorem callA2_14 (a b : BitVec 8) (h : Heap) : callA2 14 [u8 a, u8 b] h = some (u8 (mulB a b), h) := by simp [callA2, addC]
@[simp] theorem callA2_16 (a : BitVec 8) (h : Heap) : callA2 16 [u8 a] h = some (u8 (subB a), h) := by simp [callA2, addC, c16_eq]

/-! the table -/
def sbF (j : Nat) : BitVec 8 := subB (BitVec.ofNat 8 j)

theorem walk40 (h : Heap) : ∃ t, evBody (cx40 callA2) Try.f40 n40_0 [] h = some (arr 256 sbF, h ++ t) := by
  rw [b40]
  have L : ∀ x1 x3, ∃ r, evLoop (evC (cx40 callA2) n40_5) ⟨[(0, .ptr h.length 0 [] (.arr 256 (.int .u8))), (1, x1), (2, nat 0), (3, x3)], h ++ [⟨(arr 256 fun _ => 0#8), 0, .own⟩]⟩ = some r ∧
      ∃ y1 y2 y3, r = (.exit 0, ⟨[(0, .ptr h.length 0 [] (.arr 256 (.int .u8))), (1, y1), (2, y2), (3, y3)], h ++ [⟨arr 256 sbF, 0, .own⟩]⟩) := by
    intro x1 x3
    refine evLoop_up 256 (fun i s => ∃ x1 x3 g, s = ⟨[(0, .ptr h.length 0 [] (.arr 256 (.int .u8))), (1, x1), (2, nat i), (3, x3)], h ++ [⟨arr 256 g, 0, .own⟩]⟩ ∧ ∀ j, j < i → g j = sbF j) ?_ ?_ ⟨_, _, _, rfl, fun j hj => absurd hj (by omega)⟩
    · rintro i s hi ⟨x1, x3, g, rfl, hg⟩
      have e1 : mBin .add (nat i) (nat 1) = some (nat (i + 1)) := nat_add (by omega)
      refine ex_of (by conv => lhs; simp [Env.get, Env.put, hi, e1]) ?_
      refine ⟨rfl, _, _, _, rfl, fun j hj => ?_⟩
      by_cases hji : j = i
      · subst hji; rw [upd_same]; rfl
      · rw [upd_ne _ _ hji]; exact hg j (by omega)
    · rintro s ⟨x1, x3, g, rfl, hg⟩
      refine ex_of (by conv => lhs; simp [Env.get, Env.put]) ?_
      rw [arr_congr hg]
      exact ⟨by simp, _, _, _, rfl⟩
  obtain ⟨r, hr, y1, y2, y3, rfl⟩ := L .junk .junk
  refine ⟨[⟨arr 256 sbF, 0, .own⟩], ?_⟩
  simp [Env.get, Env.put, hr, oneOrTuple]

noncomputable def c40 := conC (fun _ : Unit => []) (fun _ _ => True) (fun _ h => (arr 256 sbF, h))
noncomputable def callA3 : Calling := addC callA2 40 c40
theorem c40_eq (h : Heap) : c40 [] h = some (arr 256 sbF, h) :=
  conC_eq (enc := fun _ : Unit => []) (a := ()) (f := fun _ h => (arr 256 sbF, h)) (fun _ _ _ _ => rfl) trivial
theorem callA3_ok : CallOK Try.prog callA3 := addC_con callA2_ok k40 fun a h _ => by
  obtain ⟨t, ht⟩ := walk40 h
  exact (s40 callA2_ok ht).drop0 t rfl
@[simp] theorem callA3_14 (a b : BitVec 8) (h : Heap) : callA3 14 [u8 a, u8 b] h = some (u8 (mulB a b), h) := by simp [callA3, addC]
@[simp] theorem callA3_16 (a : BitVec 8) (h : Heap) : callA3 16 [u8 a] h = some (u8 (subB a), h) := by simp [callA3, addC]
@[simp] theorem callA3_40 (h : Heap) : callA3 40 [] h = some (arr 256 sbF, h) := by simp [callA3, addC, c40_eq]

end Go.Vab

/- How the evaluator reads the functions of a seat. Printed by wip/tools/gen.py (own work). -/
namespace Go.Vab
open Go Go.Proofs
noncomputable section
variable (call : Calling) (env : Env) (h : Heap) (s : St)
/-! vestry/aes.words -/
def cx41 (call : Calling) : Ctx := ⟨call, TT, 108, [11, 12, 14, 15, 16, 17, 18, 19, 20, 21, 22, 23, 24, 25, 26, 27, 28, 31, 32, 33, 34, 35, 36, 37, 38, 39, 40, 41, 42, 43, 44, 45, 46, 47, 48, 49, 50, 51, 52, 53, 54, 55, 56, 57, 58, 59, 60, 62, 63, 64, 65, 66, 67, 68, 69, 70, 71, 72, 73, 74, 75, 76, 77, 78, 79, 80, 81, 82, 83, 84, 85, 86, 87, 90, 91, 92, 93, 94, 95, 96, 97, 98, 99, 100, 101, 102, 103, 104, 105, 106, 107]⟩
def n41_0 : Code := bodyOf Try.f41
def n41_1 : Code := cR n41_0
def n41_2 : Code := cR n41_1
def n41_3 : Code := cL n41_2
def n41_4 : Code := cR n41_3
def n41_5 : Code := cB n41_4
def n41_6 : Code := cB n41_5
def n41_7 : Code := cR n41_6
def n41_8 : Code := cL n41_7
def n41_9 : Code := cL n41_8
def n41_10 : Code := cR n41_8
def n41_11 : Code := cR n41_7
def n41_12 : Code := cL n41_11
def n41_13 : Code := cB n41_12
def n41_14 : Code := cR n41_13
def n41_15 : Code := cL n41_14
def n41_16 : Code := cR n41_15
def n41_17 : Code := cL n41_16
def n41_18 : Code := cR n41_17
def n41_19 : Code := cR n41_16
def n41_20 : Code := cR n41_14
def n41_21 : Code := cR n41_20
def n41_22 : Code := cL n41_21
def n41_23 : Code := cR n41_22
def n41_24 : Code := cB n41_23
def n41_25 : Code := cR n41_24
def n41_26 : Code := cL n41_25
def n41_27 : Code := cR n41_26
def n41_28 : Code := cR n41_25
def n41_29 : Code := cR n41_28
def n41_30 : Code := cL n41_29
def n41_31 : Code := cR n41_29
def n41_32 : Code := cR n41_21
def n41_33 : Code := cR n41_32
def n41_34 : Code := cB n41_33
def n41_35 : Code := cB n41_34
def n41_36 : Code := cR n41_35
def n41_37 : Code := cL n41_36
def n41_38 : Code := cL n41_37
def n41_39 : Code := cR n41_37
def n41_40 : Code := cR n41_36
def n41_41 : Code := cL n41_40
def n41_42 : Code := cB n41_41
def n41_43 : Code := cR n41_42
def n41_44 : Code := cR n41_40
def n41_45 : Code := cR n41_11
def n41_46 : Code := cR n41_2
def n41_47 : Code := cR n41_46
@[simp] theorem n41_9_eq : evC (cx41 call) n41_9 s = some (.nrm, s) := xK
@[simp] theorem n41_10_eq : evC (cx41 call) n41_10 s = some (.exit 0, s) := xX 0
@[simp] theorem n41_8_eq : evC (cx41 call) n41_8 s = cnd (s.env.get 10) (evC (cx41 call) n41_9 s) (evC (cx41 call) n41_10 s) := xC 10 _ _
@[simp] theorem n41_18_eq : evC (cx41 call) n41_18 s = some (.exit 1, s) := xX 1
@[simp] theorem n41_17_eq : evC (cx41 call) n41_17 ⟨env, h⟩ = (bnd (pureV h (mBin .mul (nat 4) (env.get 6))) fun r2 => bnd (pureV r2.2 (mBin .mul (nat 4) (env.get 6))) fun r4 => bnd (pureV r4.2 (mBin .add r4.1 (nat 4))) fun r5 => bnd (pureV r5.2 (mSliceA (.arr 32 (.int .u8)) (env.get 2) (some r2.1) (some r5.1) none)) fun r6 => bnd (pureV r6.2 (mArrayAt 4 (.int .u8) r6.1)) fun r7 => bnd (pureV r7.2 (mLoad (.arr 4 (.int .u8)) r7.1 r7.2)) fun r8 => bnd (pureV r8.2 (mIdxA (.arr 60 (.arr 4 (.int .u8))) (env.get 4) (env.get 6))) fun r9 => bnd (stU (.arr 4 (.int .u8)) r9.1 r8.1 r9.2) fun r10 => evC (cx41 call) n41_18 ⟨env, r10.2⟩) := (xSR 6 (cOps (cL n41_17)) (cR n41_17)).trans (by
  refine opsK_0 ?_
  refine oT 14 (env.get 6) ?_
  refine oT 15 (env.get 6) ?_
  refine oP 16 fun r2 => ?_
  refine oT 17 (env.get 6) ?_
  refine oP 18 fun r4 => ?_
  refine oP 19 fun r5 => ?_
  refine oP 20 fun r6 => ?_
  refine oP 21 fun r7 => ?_
  refine oP 22 fun r8 => ?_
  refine oP 23 fun r9 => ?_
  refine oN fun r10 => ?_
  exact oE)
@[simp] theorem n41_19_eq : evC (cx41 call) n41_19 s = some (.nrm, s) := xK
@[simp] theorem n41_16_eq : evC (cx41 call) n41_16 s = cnd (s.env.get 13) (evC (cx41 call) n41_17 s) (evC (cx41 call) n41_19 s) := xC 13 _ _
@[simp] theorem n41_15_eq : evC (cx41 call) n41_15 ⟨env, h⟩ = (bnd (pureV h (mBin .lss (env.get 6) (nat 8))) fun r1 => evC (cx41 call) n41_16 ⟨(Env.put env 13 r1.1), r1.2⟩) := (xSR 5 (cOps (cL n41_15)) (cR n41_15)).trans (by
  refine opsK_0 ?_
  refine oT 12 (env.get 6) ?_
  refine oP 13 fun r1 => ?_
  exact oE)
@[simp] theorem n41_27_eq : evC (cx41 call) n41_27 ⟨env, h⟩ = (bnd (call 14 [(env.get 5), (u8 2#8)] h) fun r1 => some (.nrm, ⟨(Env.put env 5 r1.1), r1.2⟩)) := (xR 11 (cOps n41_27)).trans (by
  refine opsK_0 ?_
  refine oT 59 (env.get 5) ?_
  refine oP 60 fun r1 => ?_
  refine oT 5 r1.1 ?_
  exact oE)
theorem n41_26_ok : drawOk (cOps (cL n41_26)).toList = true := by kernel_rfl
@[simp] theorem n41_26_eq : evC (cx41 call) n41_26 ⟨env, h⟩ = (bnd (pureV h (mIdxA (.arr 4 (.int .u8)) (env.get 7) (nat 1))) fun r1 => bnd (pureV r1.2 (mLoad (.int .u8) r1.1 r1.2)) fun r2 => bnd (pureV r2.2 (mNilCheck (env.get 1))) fun r3 => bnd (pureV r3.2 (mIdxA (.arr 256 (.int .u8)) r3.1 r2.1)) fun r4 => bnd (pureV r4.2 (mLoad (.int .u8) r4.1 r4.2)) fun r5 => bnd (pureV r5.2 (mBin .xor r5.1 (env.get 5))) fun r7 => bnd (pureV r7.2 (mIdxA (.arr 4 (.int .u8)) (env.get 7) (nat 2))) fun r9 => bnd (pureV r9.2 (mLoad (.int .u8) r9.1 r9.2)) fun r10 => bnd (pureV r10.2 (mNilCheck (env.get 1))) fun r11 => bnd (pureV r11.2 (mIdxA (.arr 256 (.int .u8)) r11.1 r10.1)) fun r12 => bnd (pureV r12.2 (mLoad (.int .u8) r12.1 r12.2)) fun r13 => bnd (pureV r13.2 (mIdxA (.arr 4 (.int .u8)) (env.get 7) (nat 3))) fun r15 => bnd (pureV r15.2 (mLoad (.int .u8) r15.1 r15.2)) fun r16 => bnd (pureV r16.2 (mNilCheck (env.get 1))) fun r17 => bnd (pureV r17.2 (mIdxA (.arr 256 (.int .u8)) r17.1 r16.1)) fun r18 => bnd (pureV r18.2 (mLoad (.int .u8) r18.1 r18.2)) fun r19 => bnd (pureV r19.2 (mIdxA (.arr 4 (.int .u8)) (env.get 7) (nat 0))) fun r21 => bnd (pureV r21.2 (mLoad (.int .u8) r21.1 r21.2)) fun r22 => bnd (pureV r22.2 (mNilCheck (env.get 1))) fun r23 => bnd (pureV r23.2 (mIdxA (.arr 256 (.int .u8)) r23.1 r22.1)) fun r24 => bnd (pureV r24.2 (mLoad (.int .u8) r24.1 r24.2)) fun r25 => bnd (pureV r25.2 (fillRow (.arr 4 (.int .u8)) (arr 4 fun _ => 0#8) [(0, r7.1), (1, r13.1), (2, r19.1), (3, r25.1)])) fun r26 => bnd (stU (.arr 4 (.int .u8)) (env.get 7) r26.1 r26.2) fun r27 => evC (cx41 call) n41_27 ⟨env, r27.2⟩) := (xSD 10 (cOps (cL n41_26)) (cR n41_26) n41_26_ok).trans (by
  refine opsK_0 ?_
  refine oT 32 (env.get 1) ?_
  refine oP 33 fun r1 => ?_
  refine oP 34 fun r2 => ?_
  refine oP 35 fun r3 => ?_
  refine oP 36 fun r4 => ?_
  refine oP 37 fun r5 => ?_
  refine oT 38 (env.get 5) ?_
  refine oP 39 fun r7 => ?_
  refine oT 40 (env.get 1) ?_
  refine oP 41 fun r9 => ?_
  refine oP 42 fun r10 => ?_
  refine oP 43 fun r11 => ?_
  refine oP 44 fun r12 => ?_
  refine oP 45 fun r13 => ?_
  refine oT 46 (env.get 1) ?_
  refine oP 47 fun r15 => ?_
  refine oP 48 fun r16 => ?_
  refine oP 49 fun r17 => ?_
  refine oP 50 fun r18 => ?_
  refine oP 51 fun r19 => ?_
  refine oT 52 (env.get 1) ?_
  refine oP 53 fun r21 => ?_
  refine oP 54 fun r22 => ?_
  refine oP 55 fun r23 => ?_
  refine oP 56 fun r24 => ?_
  refine oP 57 fun r25 => ?_
  refine oP 58 fun r26 => ?_
  refine oN fun r27 => ?_
  exact oE)
theorem n41_30_ok : drawOk (cOps n41_30).toList = true := by kernel_rfl
@[simp] theorem n41_30_eq : evC (cx41 call) n41_30 ⟨env, h⟩ = (bnd (pureV h (mIdxA (.arr 4 (.int .u8)) (env.get 7) (nat 0))) fun r1 => bnd (pureV r1.2 (mLoad (.int .u8) r1.1 r1.2)) fun r2 => bnd (pureV r2.2 (mNilCheck (env.get 1))) fun r3 => bnd (pureV r3.2 (mIdxA (.arr 256 (.int .u8)) r3.1 r2.1)) fun r4 => bnd (pureV r4.2 (mLoad (.int .u8) r4.1 r4.2)) fun r5 => bnd (pureV r5.2 (mIdxA (.arr 4 (.int .u8)) (env.get 7) (nat 1))) fun r7 => bnd (pureV r7.2 (mLoad (.int .u8) r7.1 r7.2)) fun r8 => bnd (pureV r8.2 (mNilCheck (env.get 1))) fun r9 => bnd (pureV r9.2 (mIdxA (.arr 256 (.int .u8)) r9.1 r8.1)) fun r10 => bnd (pureV r10.2 (mLoad (.int .u8) r10.1 r10.2)) fun r11 => bnd (pureV r11.2 (mIdxA (.arr 4 (.int .u8)) (env.get 7) (nat 2))) fun r13 => bnd (pureV r13.2 (mLoad (.int .u8) r13.1 r13.2)) fun r14 => bnd (pureV r14.2 (mNilCheck (env.get 1))) fun r15 => bnd (pureV r15.2 (mIdxA (.arr 256 (.int .u8)) r15.1 r14.1)) fun r16 => bnd (pureV r16.2 (mLoad (.int .u8) r16.1 r16.2)) fun r17 => bnd (pureV r17.2 (mIdxA (.arr 4 (.int .u8)) (env.get 7) (nat 3))) fun r19 => bnd (pureV r19.2 (mLoad (.int .u8) r19.1 r19.2)) fun r20 => bnd (pureV r20.2 (mNilCheck (env.get 1))) fun r21 => bnd (pureV r21.2 (mIdxA (.arr 256 (.int .u8)) r21.1 r20.1)) fun r22 => bnd (pureV r22.2 (mLoad (.int .u8) r22.1 r22.2)) fun r23 => bnd (pureV r23.2 (fillRow (.arr 4 (.int .u8)) (arr 4 fun _ => 0#8) [(0, r5.1), (1, r11.1), (2, r17.1), (3, r23.1)])) fun r24 => bnd (stU (.arr 4 (.int .u8)) (env.get 7) r24.1 r24.2) fun r25 => some (.nrm, ⟨env, r25.2⟩)) := (xD 13 (cOps n41_30) n41_30_ok).trans (by
  refine opsK_0 ?_
  refine oT 63 (env.get 1) ?_
  refine oP 64 fun r1 => ?_
  refine oP 65 fun r2 => ?_
  refine oP 66 fun r3 => ?_
  refine oP 67 fun r4 => ?_
  refine oP 68 fun r5 => ?_
  refine oT 69 (env.get 1) ?_
  refine oP 70 fun r7 => ?_
  refine oP 71 fun r8 => ?_
  refine oP 72 fun r9 => ?_
  refine oP 73 fun r10 => ?_
  refine oP 74 fun r11 => ?_
  refine oT 75 (env.get 1) ?_
  refine oP 76 fun r13 => ?_
  refine oP 77 fun r14 => ?_
  refine oP 78 fun r15 => ?_
  refine oP 79 fun r16 => ?_
  refine oP 80 fun r17 => ?_
  refine oT 81 (env.get 1) ?_
  refine oP 82 fun r19 => ?_
  refine oP 83 fun r20 => ?_
  refine oP 84 fun r21 => ?_
  refine oP 85 fun r22 => ?_
  refine oP 86 fun r23 => ?_
  refine oP 87 fun r24 => ?_
  refine oN fun r25 => ?_
  exact oE)
@[simp] theorem n41_31_eq : evC (cx41 call) n41_31 s = some (.nrm, s) := xK
@[simp] theorem n41_29_eq : evC (cx41 call) n41_29 s = cnd (s.env.get 61) (evC (cx41 call) n41_30 s) (evC (cx41 call) n41_31 s) := xC 61 _ _
@[simp] theorem n41_28_eq : evC (cx41 call) n41_28 ⟨env, h⟩ = (bnd (pureV h (mBin .eql (env.get 29) (nat 4))) fun r0 => evC (cx41 call) n41_29 ⟨(Env.put env 61 r0.1), r0.2⟩) := (xSR 12 (cOps (cL n41_28)) (cR n41_28)).trans (by
  refine opsK_0 ?_
  refine oP 62 fun r0 => ?_
  refine oT 61 r0.1 ?_
  exact oE)
@[simp] theorem n41_25_eq : evC (cx41 call) n41_25 s = cnd (s.env.get 30) (evC (cx41 call) n41_26 s) (evC (cx41 call) n41_28 s) := xC 30 _ _
@[simp] theorem n41_24_eq : evC (cx41 call) n41_24 ⟨env, h⟩ = (bnd (pureV h (mBin .eql (env.get 29) (nat 0))) fun r0 => evC (cx41 call) n41_25 ⟨(Env.put env 30 r0.1), r0.2⟩) := (xSR 9 (cOps (cL n41_24)) (cR n41_24)).trans (by
  refine opsK_0 ?_
  refine oP 31 fun r0 => ?_
  refine oT 30 r0.1 ?_
  exact oE)
@[simp] theorem n41_23_eq : evC (cx41 call) n41_23 s = bnd (evC (cx41 call) n41_24 s) fun r => some (inBlk 2 r) := xB 2 _
@[simp] theorem n41_22_eq : evC (cx41 call) n41_22 ⟨env, h⟩ = (bnd (pureV h (mBin .rem (env.get 6) (nat 8))) fun r1 => evC (cx41 call) n41_23 ⟨(Env.put env 29 r1.1), r1.2⟩) := (xSR 8 (cOps (cL n41_22)) (cR n41_22)).trans (by
  refine opsK_0 ?_
  refine oT 28 (env.get 6) ?_
  refine oP 29 fun r1 => ?_
  exact oE)
@[simp] theorem n41_38_eq : evC (cx41 call) n41_38 s = some (.nrm, s) := xK
@[simp] theorem n41_39_eq : evC (cx41 call) n41_39 s = some (.exit 3, s) := xX 3
@[simp] theorem n41_37_eq : evC (cx41 call) n41_37 s = cnd (s.env.get 89) (evC (cx41 call) n41_38 s) (evC (cx41 call) n41_39 s) := xC 89 _ _
theorem n41_43_ok : drawOk (cOps n41_43).toList = true := by kernel_rfl
@[simp] theorem n41_43_eq : evC (cx41 call) n41_43 ⟨env, h⟩ = (bnd (pureV h (mBin .sub (env.get 6) (nat 8))) fun r3 => bnd (pureV r3.2 (mIdxA (.arr 60 (.arr 4 (.int .u8))) (env.get 4) r3.1)) fun r5 => bnd (pureV r5.2 (mIdxA (.arr 4 (.int .u8)) r5.1 (env.get 8))) fun r6 => bnd (pureV r6.2 (mLoad (.int .u8) r6.1 r6.2)) fun r7 => bnd (pureV r7.2 (mIdxA (.arr 4 (.int .u8)) (env.get 7) (env.get 8))) fun r9 => bnd (pureV r9.2 (mLoad (.int .u8) r9.1 r9.2)) fun r10 => bnd (pureV r10.2 (mBin .xor r7.1 r10.1)) fun r11 => bnd (pureV r11.2 (mIdxA (.arr 60 (.arr 4 (.int .u8))) (env.get 4) (env.get 6))) fun r12 => bnd (pureV r12.2 (mIdxA (.arr 4 (.int .u8)) r12.1 (env.get 8))) fun r13 => bnd (stU (.int .u8) r13.1 r11.1 r13.2) fun r14 => some (.nrm, ⟨env, r14.2⟩)) := (xD 17 (cOps n41_43) n41_43_ok).trans (by
  refine opsK_0 ?_
  refine oT 91 (env.get 6) ?_
  refine oT 92 (env.get 8) ?_
  refine oT 93 (env.get 6) ?_
  refine oP 94 fun r3 => ?_
  refine oT 95 (env.get 8) ?_
  refine oP 96 fun r5 => ?_
  refine oP 97 fun r6 => ?_
  refine oP 98 fun r7 => ?_
  refine oT 99 (env.get 8) ?_
  refine oP 100 fun r9 => ?_
  refine oP 101 fun r10 => ?_
  refine oP 102 fun r11 => ?_
  refine oP 103 fun r12 => ?_
  refine oP 104 fun r13 => ?_
  refine oN fun r14 => ?_
  exact oE)
@[simp] theorem n41_42_eq : evC (cx41 call) n41_42 ⟨env, h⟩ = ( evC (cx41 call) n41_43 ⟨(Env.put env 8 (env.get 88)), h⟩) := (xSR 16 (cOps (cL n41_42)) (cR n41_42)).trans (by
  refine opsK_0 ?_
  refine oT 90 (env.get 88) ?_
  refine oT 8 (env.get 88) ?_
  exact oE)
@[simp] theorem n41_41_eq : evC (cx41 call) n41_41 s = bnd (evC (cx41 call) n41_42 s) fun r => some (inBlk 4 r) := xB 4 _
@[simp] theorem n41_44_eq : evC (cx41 call) n41_44 ⟨env, h⟩ = (bnd (pureV h (mBin .add (env.get 88) (nat 1))) fun r0 => some (.nrm, ⟨(Env.put env 88 r0.1), r0.2⟩)) := (xR 18 (cOps n41_44)).trans (by
  refine opsK_0 ?_
  refine oP 105 fun r0 => ?_
  refine oT 88 r0.1 ?_
  exact oE)
@[simp] theorem n41_40_eq : evC (cx41 call) n41_40 s = bnd (evC (cx41 call) n41_41 s) (sqK (evC (cx41 call) n41_44)) := xS _ _
@[simp] theorem n41_36_eq : evC (cx41 call) n41_36 s = bnd (evC (cx41 call) n41_37 s) (sqK (evC (cx41 call) n41_40)) := xS _ _
@[simp] theorem n41_35_eq : evC (cx41 call) n41_35 ⟨env, h⟩ = (bnd (pureV h (mBin .lss (env.get 88) (nat 4))) fun r0 => evC (cx41 call) n41_36 ⟨(Env.put env 89 r0.1), r0.2⟩) := (xSR 15 (cOps (cL n41_35)) (cR n41_35)).trans (by
  refine opsK_0 ?_
  refine oP 89 fun r0 => ?_
  exact oE)
@[simp] theorem n41_34_eq : evC (cx41 call) n41_34 s = evLoop (evC (cx41 call) n41_35) s := xL _
@[simp] theorem n41_33_eq : evC (cx41 call) n41_33 s = bnd (evC (cx41 call) n41_34 s) fun r => some (inBlk 3 r) := xB 3 _
@[simp] theorem n41_32_eq : evC (cx41 call) n41_32 ⟨env, h⟩ = ( evC (cx41 call) n41_33 ⟨(Env.put env 88 (nat 0)), h⟩) := (xSR 14 (cOps (cL n41_32)) (cR n41_32)).trans (by
  refine opsK_0 ?_
  refine oT 88 (nat 0) ?_
  exact oE)
@[simp] theorem n41_21_eq : evC (cx41 call) n41_21 s = bnd (evC (cx41 call) n41_22 s) (sqK (evC (cx41 call) n41_32)) := xS _ _
@[simp] theorem n41_20_eq : evC (cx41 call) n41_20 ⟨env, h⟩ = (bnd (pureV h (mBin .sub (env.get 6) (nat 1))) fun r1 => bnd (pureV r1.2 (mIdxA (.arr 60 (.arr 4 (.int .u8))) (env.get 4) r1.1)) fun r2 => bnd (pureV r2.2 (mLoad (.arr 4 (.int .u8)) r2.1 r2.2)) fun r3 => bnd (mNew (.arr 4 (.int .u8)) (arr 4 fun _ => 0#8) r3.2) fun r4 => bnd (stU (.arr 4 (.int .u8)) r4.1 r3.1 r4.2) fun r5 => evC (cx41 call) n41_21 ⟨(Env.put env 7 r4.1), r5.2⟩) := (xSR 7 (cOps (cL n41_20)) (cR n41_20)).trans (by
  refine opsK_0 ?_
  refine oT 24 (env.get 6) ?_
  refine oP 25 fun r1 => ?_
  refine oP 26 fun r2 => ?_
  refine oP 27 fun r3 => ?_
  refine oP 7 fun r4 => ?_
  refine oN fun r5 => ?_
  exact oE)
@[simp] theorem n41_14_eq : evC (cx41 call) n41_14 s = bnd (evC (cx41 call) n41_15 s) (sqK (evC (cx41 call) n41_20)) := xS _ _
@[simp] theorem n41_13_eq : evC (cx41 call) n41_13 ⟨env, h⟩ = ( evC (cx41 call) n41_14 ⟨(Env.put env 6 (env.get 9)), h⟩) := (xSR 4 (cOps (cL n41_13)) (cR n41_13)).trans (by
  refine opsK_0 ?_
  refine oT 11 (env.get 9) ?_
  refine oT 6 (env.get 9) ?_
  exact oE)
@[simp] theorem n41_12_eq : evC (cx41 call) n41_12 s = bnd (evC (cx41 call) n41_13 s) fun r => some (inBlk 1 r) := xB 1 _
@[simp] theorem n41_45_eq : evC (cx41 call) n41_45 ⟨env, h⟩ = (bnd (pureV h (mBin .add (env.get 9) (nat 1))) fun r0 => some (.nrm, ⟨(Env.put env 9 r0.1), r0.2⟩)) := (xR 19 (cOps n41_45)).trans (by
  refine opsK_0 ?_
  refine oP 106 fun r0 => ?_
  refine oT 9 r0.1 ?_
  exact oE)
@[simp] theorem n41_11_eq : evC (cx41 call) n41_11 s = bnd (evC (cx41 call) n41_12 s) (sqK (evC (cx41 call) n41_45)) := xS _ _
@[simp] theorem n41_7_eq : evC (cx41 call) n41_7 s = bnd (evC (cx41 call) n41_8 s) (sqK (evC (cx41 call) n41_11)) := xS _ _
@[simp] theorem n41_6_eq : evC (cx41 call) n41_6 ⟨env, h⟩ = (bnd (pureV h (mBin .lss (env.get 9) (nat 60))) fun r0 => evC (cx41 call) n41_7 ⟨(Env.put env 10 r0.1), r0.2⟩) := (xSR 3 (cOps (cL n41_6)) (cR n41_6)).trans (by
  refine opsK_0 ?_
  refine oP 10 fun r0 => ?_
  exact oE)
@[simp] theorem n41_5_eq : evC (cx41 call) n41_5 s = evLoop (evC (cx41 call) n41_6) s := xL _
@[simp] theorem n41_4_eq : evC (cx41 call) n41_4 s = bnd (evC (cx41 call) n41_5 s) fun r => some (inBlk 0 r) := xB 0 _
@[simp] theorem n41_3_eq : evC (cx41 call) n41_3 ⟨env, h⟩ = ( evC (cx41 call) n41_4 ⟨(Env.put env 9 (nat 0)), h⟩) := (xSR 2 (cOps (cL n41_3)) (cR n41_3)).trans (by
  refine opsK_0 ?_
  refine oT 9 (nat 0) ?_
  exact oE)
@[simp] theorem n41_47_eq : evC (cx41 call) n41_47 s = some (.ret, s) := xE
@[simp] theorem n41_46_eq : evC (cx41 call) n41_46 ⟨env, h⟩ = (bnd (pureV h (mLoad (.arr 60 (.arr 4 (.int .u8))) (env.get 4) h)) fun r0 => bnd (stU (.arr 60 (.arr 4 (.int .u8))) (env.get 4) r0.1 r0.2) fun r1 => evC (cx41 call) n41_47 ⟨env, r1.2⟩) := (xSR 20 (cOps (cL n41_46)) (cR n41_46)).trans (by
  refine opsK_0 ?_
  refine oP 107 fun r0 => ?_
  refine oN fun r1 => ?_
  exact oE)
@[simp] theorem n41_2_eq : evC (cx41 call) n41_2 s = bnd (evC (cx41 call) n41_3 s) (sqK (evC (cx41 call) n41_46)) := xS _ _
@[simp] theorem n41_1_eq : evC (cx41 call) n41_1 ⟨env, h⟩ = ( evC (cx41 call) n41_2 ⟨(Env.put env 5 (u8 1#8)), h⟩) := (xSR 1 (cOps (cL n41_1)) (cR n41_1)).trans (by
  refine opsK_0 ?_
  refine oT 5 (u8 1#8) ?_
  exact oE)
@[simp] theorem n41_0_eq : evC (cx41 call) n41_0 ⟨env, h⟩ = (bnd (mNew (.arr 32 (.int .u8)) (env.get 0) h) fun r0 => bnd (mNew (.arr 60 (.arr 4 (.int .u8))) (mat 60 4 fun _ _ => 0#8) r0.2) fun r1 => evC (cx41 call) n41_1 ⟨(Env.put (Env.put env 2 r0.1) 4 r1.1), r1.2⟩) := (xSR 0 (cOps (cL n41_0)) (cR n41_0)).trans (by
  refine opsK_0 ?_
  refine oP 2 fun r0 => ?_
  refine oP 4 fun r1 => ?_
  exact oE)
theorem b41 (call : Calling) (a0 a1 : AV) (h : Heap) : evBody (cx41 call) Try.f41 n41_0 [a0, a1] h = bnd (evC (cx41 call) n41_0 ⟨[(0, a0), (1, a1), (2, .junk), (3, .junk), (4, .junk), (5, .junk), (6, .junk), (7, .junk), (8, .junk), (9, .junk), (10, .junk), (13, .junk), (29, .junk), (30, .junk), (61, .junk), (88, .junk), (89, .junk)], h⟩) (retK fun s => bnd (bnd (mLoad (.arr 60 (.arr 4 (.int .u8))) (s.env.get 4) s.heap) fun v => bnd (some []) fun vs => some (v :: vs)) fun vs => some (oneOrTuple vs)) := by kernel_rfl
theorem fn41 : Try.prog.funcs[41]? = some Try.f41 := by kernel_rfl
theorem k41 : Callable Try.prog 41 := ⟨Try.f41, fn41, by kernel_rfl, by kernel_rfl⟩
theorem s41 {call : Calling} (hc : CallOK Try.prog call) {args : List AV} {h h' : Heap} {v : AV} (he : evBody (cx41 call) Try.f41 n41_0 args h = some (v, h')) : Spec Try.prog 41 args h v h' := body_sound (C := cx41 call) TT_ok hc mixed_ok fn41 (by kernel_rfl) (by kernel_rfl) he
def sn41 := Y n41_9_eq (Y n41_10_eq (Y n41_8_eq (Y n41_18_eq (Y n41_17_eq (Y n41_19_eq (Y n41_16_eq (Y n41_15_eq (Y n41_27_eq (Y n41_26_eq (Y n41_30_eq (Y n41_31_eq (Y n41_29_eq (Y n41_28_eq (Y n41_25_eq (Y n41_24_eq (Y n41_23_eq (Y n41_22_eq (Y n41_38_eq (Y n41_39_eq (Y n41_37_eq (Y n41_43_eq (Y n41_42_eq (Y n41_41_eq (Y n41_44_eq (Y n41_40_eq (Y n41_36_eq (Y n41_35_eq (Y n41_34_eq (Y n41_33_eq (Y n41_32_eq (Y n41_21_eq (Y n41_20_eq (Y n41_14_eq (Y n41_13_eq (Y n41_12_eq (Y n41_45_eq (Y n41_11_eq (Y n41_7_eq (Y n41_6_eq (Y n41_5_eq (Y n41_4_eq (Y n41_3_eq (Y n41_47_eq (Y n41_46_eq (Y n41_2_eq (Y n41_1_eq (n41_0_eq)))))))))))))))))))))))))))))))))))))))))))))))
end
end Go.Vab

/-
  The words of a key.
-/
namespace Go.Vab
open Go Go.Proofs

def rcon : Nat → BitVec 8
  | 0 => 1#8
  | k + 1 => mulB (rcon k) 2#8

def wd (key : Nat → BitVec 8) (i p : Nat) : BitVec 8 :=
  if h : i < 8 then key (4 * i + p)
  else wd key (i - 8) p ^^^
    (if i % 8 = 0 then subB (wd key (i - 1) ((p + 1) % 4)) ^^^ (if p = 0 then rcon (i / 8 - 1) else 0#8)
     else if i % 8 = 4 then subB (wd key (i - 1) p)
     else wd key (i - 1) p)
termination_by i

@[simp] theorem sbF_toNat (x : BitVec 8) : sbF x.toNat = subB x := by simp [sbF]

theorem wd_lt {key : Nat → BitVec 8} {i p : Nat} (h : i < 8) : wd key i p = key (4 * i + p) := by rw [wd, dif_pos h]
theorem wd_ge {key : Nat → BitVec 8} {i p : Nat} (h : 8 ≤ i) : wd key i p = wd key (i - 8) p ^^^
    (if i % 8 = 0 then subB (wd key (i - 1) ((p + 1) % 4)) ^^^ (if p = 0 then rcon (i / 8 - 1) else 0#8)
     else if i % 8 = 4 then subB (wd key (i - 1) p)
     else wd key (i - 1) p) := by rw [wd, dif_neg (by omega)]

def f4 (a b c d : BitVec 8) : Nat → BitVec 8 := upd (upd (upd (upd (fun _ => 0#8) 0 a) 1 b) 2 c) 3 d
theorem fill4 (a b c d : BitVec 8) : fillRow (.arr 4 (.int .u8)) (arr 4 fun _ => 0#8) [(0, u8 a), (1, u8 b), (2, u8 c), (3, u8 d)] = some (arr 4 (f4 a b c d)) := by simp [fillRow, f4]

def H41 (h : Heap) (key : Nat → BitVec 8) (g : Nat → Nat → BitVec 8) (tr : Heap) : Heap := h ++ (⟨arr 32 key, 0, .own⟩ :: ⟨mat 60 4 g, 0, .own⟩ :: tr)
abbrev P41 (h tr : Heap) : AV := .ptr (h.length + (tr.length + 1 + 1)) 0 [] (.arr 4 (.int .u8))
def B41 (L it vt : Nat) (env : Env) : Prop := env.get 1 = .ptr it vt [] (.arr 256 (.int .u8)) ∧ env.get 2 = .ptr L 0 [] (.arr 32 (.int .u8)) ∧ env.get 4 = .ptr (L + 1) 0 [] (.arr 60 (.arr 4 (.int .u8)))
theorem B41.same {L it vt : Nat} {env env' : Env} (h : B41 L it vt env) (hs : Same [1, 2, 4] env env') : B41 L it vt env' :=
  ⟨by rw [hs.get 1 rfl]; exact h.1, by rw [hs.get 2 rfl]; exact h.2.1, by rw [hs.get 4 rfl]; exact h.2.2⟩

/-- A word is added to the one eight ahead. -/
theorem inner41 (h tr : Heap) (key x : Nat → BitVec 8) (it vt i : Nat) (hi : 8 ≤ i) (hi' : i < 60) (g : Nat → Nat → BitVec 8) (env : Env) (hb : B41 h.length it vt env) (e6 : env.get 6 = nat i) (e7 : env.get 7 = P41 h tr) (e88 : env.get 88 = nat 0) :
    Evs (evLoop (evC (cx41 callA3) n41_35) ⟨env, H41 h key g (tr ++ [⟨arr 4 x, 0, .own⟩])⟩) (fun r => ∃ env' g', r = (.exit 3, ⟨env', H41 h key g' (tr ++ [⟨arr 4 x, 0, .own⟩])⟩) ∧ Same [1, 2, 4, 5, 6, 7, 9] env env' ∧
      (∀ j, j ≠ i → g' j = g j) ∧ ∀ q, q < 4 → g' i q = g (i - 8) q ^^^ x q) := by
  refine Evs.up 4 (fun p s => ∃ env' g', s = ⟨env', H41 h key g' (tr ++ [⟨arr 4 x, 0, .own⟩])⟩ ∧ env'.get 88 = nat p ∧ Same [1, 2, 4, 5, 6, 7, 9] env env' ∧ (∀ j, j ≠ i → g' j = g j) ∧ ∀ q, q < p → g' i q = g (i - 8) q ^^^ x q) ?_ ?_
    ⟨_, g, rfl, e88, Same.refl _ _, fun _ _ => rfl, fun q hq => absurd hq (by omega)⟩
  · rintro p s hp ⟨env', g', rfl, f88, hs, h1, h2⟩
    obtain ⟨b1, b2, b4⟩ := hb.same (hs.sub rfl)
    have f6 := (hs.get 6 rfl).trans e6
    have f7 := (hs.get 7 rfl).trans e7
    unfold H41
    repeat (first | (with_reducible refine Evs.assoc ?_) | ((with_reducible refine Evs.some_bnd ?_); try dsimp only [sqK_nrm, sqK_exit, sqK_ret]) | ((with_reducible apply Evs.bcndT); (focus (simp (disch := omega) [b4, f6, f7, f88] <;> omega))) | ((with_reducible apply Evs.bcndF); (focus (simp (disch := omega) [b4, f6, f7, f88] <;> omega))) | ((with_reducible apply Evs.step); (focus ((conv => lhs; simp (disch := omega) [b4, f6, f7, f88]); done)); try dsimp only) | (simp only [sn41, snB]))
    refine Evs.ret ⟨rfl, _, _, rfl, by simp, by repeat (first | exact hs | refine Same.put rfl ?_), fun j hj => ?_, fun q hq => ?_⟩
    · rw [upd_ne _ _ hj]; exact h1 j hj
    · rw [upd_same]
      by_cases e : q = p
      · subst e; rw [upd_same, h1 (i - 8) (by omega)]
      · rw [upd_ne _ _ e]; exact h2 q (by omega)
  · rintro s ⟨env', g', rfl, f88, hs, h1, h2⟩
    repeat (first | (with_reducible refine Evs.assoc ?_) | ((with_reducible refine Evs.some_bnd ?_); try dsimp only [sqK_nrm, sqK_exit, sqK_ret]) | ((with_reducible apply Evs.bcndT); (focus (simp (disch := omega) [f88] <;> omega))) | ((with_reducible apply Evs.bcndF); (focus (simp (disch := omega) [f88] <;> omega))) | ((with_reducible apply Evs.step); (focus ((conv => lhs; simp (disch := omega) [f88]); done)); try dsimp only) | (simp only [sn41, snB]))
    exact Evs.ret ⟨by simp, _, _, rfl, by repeat (first | exact hs | refine Same.put rfl ?_), h1, h2⟩

set_option maxHeartbeats 1000000 in
/-- One word. -/
theorem word41 (h tr : Heap) (key : Nat → BitVec 8) (it vt i : Nat) (m : Mode) (ht : ∀ l, blkAt (h ++ l) it vt = some ⟨arr 256 sbF, vt, m⟩) (hi : i < 60) (g : Nat → Nat → BitVec 8) (env : Env) (hb : B41 h.length it vt env)
    (e5 : env.get 5 = u8 (rcon ((i + 7) / 8 - 1))) (e9 : env.get 9 = nat i) (hg : ∀ j, j < i → ∀ p, p < 4 → g j p = wd key j p) :
    Evs (evC (cx41 callA3) n41_6 ⟨env, H41 h key g tr⟩) (fun r => ∃ env' g' tr', r = (.nrm, ⟨env', H41 h key g' tr'⟩) ∧ Same [1, 2, 4] env env' ∧ env'.get 5 = u8 (rcon ((i + 1 + 7) / 8 - 1)) ∧ env'.get 9 = nat (i + 1) ∧ ∀ j, j < i + 1 → ∀ p, p < 4 → g' j p = wd key j p) := by
  obtain ⟨b1, b2, b4⟩ := hb
  have fin : ∀ (x : Nat → BitVec 8) (g' : Nat → Nat → BitVec 8), 8 ≤ i → (∀ j, j ≠ i → g' j = g j) → (∀ q, q < 4 → g' i q = g (i - 8) q ^^^ x q) →
      (∀ q, q < 4 → x q = (if i % 8 = 0 then subB (wd key (i - 1) ((q + 1) % 4)) ^^^ (if q = 0 then rcon (i / 8 - 1) else 0#8) else if i % 8 = 4 then subB (wd key (i - 1) q) else wd key (i - 1) q)) →
      ∀ j, j < i + 1 → ∀ p, p < 4 → g' j p = wd key j p := by
    intro x g' h8 h1 h2 h3 j hj p hp
    by_cases hji : j = i
    · subst hji
      rw [h2 p hp, wd_ge h8, h3 p hp, hg (j - 8) (by omega) p hp]
    · rw [h1 j hji]; exact hg j (by omega) p hp
  by_cases h8 : i < 8
  · have e6 : (i + 1 + 7) / 8 - 1 = (i + 7) / 8 - 1 := by omega
    rw [e6]
    have e7 : 4 * i + 4 - 4 * i = 4 := by omega
    unfold H41
    repeat (first | (with_reducible refine Evs.assoc ?_) | ((with_reducible refine Evs.some_bnd ?_); try dsimp only [sqK_nrm, sqK_exit, sqK_ret]) | ((with_reducible apply Evs.bcndT); (focus (simp (disch := omega) [b1, b2, b4, e5, e9, e7] <;> omega))) | ((with_reducible apply Evs.bcndF); (focus (simp (disch := omega) [b1, b2, b4, e5, e9, e7] <;> omega))) | ((with_reducible apply Evs.step); (focus ((conv => lhs; simp (disch := omega) [b1, b2, b4, e5, e9, e7]); done)); try dsimp only) | (simp only [sn41, snB]))
    refine Evs.ret ⟨_, _, _, rfl, by repeat (first | exact Same.refl _ _ | refine Same.put rfl ?_), by simp [e5], by simp, fun j hj p hp => ?_⟩
    by_cases hji : j = i
    · subst hji; rw [upd_same, wd_lt h8]
    · rw [upd_ne _ _ hji]; exact hg j (by omega) p hp
  · have hx : ∀ q, q < 4 → g (i - 1) q = wd key (i - 1) q := hg (i - 1) (by omega)
    unfold H41
    by_cases h0 : i % 8 = 0
    · have er : rcon ((i + 1 + 7) / 8 - 1) = mulB (rcon ((i + 7) / 8 - 1)) 2#8 := by
        rw [show (i + 1 + 7) / 8 - 1 = ((i + 7) / 8 - 1) + 1 by omega]; rfl
      repeat (first | (with_reducible refine Evs.assoc ?_) | ((with_reducible refine Evs.some_bnd ?_); try dsimp only [sqK_nrm, sqK_exit, sqK_ret]) | ((with_reducible apply Evs.bcndT); (focus (simp (disch := omega) [b1, b2, b4, e5, e9, h0, ht, fill4] <;> omega))) | ((with_reducible apply Evs.bcndF); (focus (simp (disch := omega) [b1, b2, b4, e5, e9, h0, ht, fill4] <;> omega))) | ((with_reducible apply Evs.step); (focus ((conv => lhs; simp (disch := omega) [b1, b2, b4, e5, e9, h0, ht, fill4]); done)); try dsimp only) | (simp only [sn41, snB]))
      refine Evs.bnd (inner41 h tr key (f4 (subB (g (i - 1) 1) ^^^ rcon ((i + 7) / 8 - 1)) (subB (g (i - 1) 2)) (subB (g (i - 1) 3)) (subB (g (i - 1) 0))) it vt i (by omega) hi g _ ?_ ?_ ?_ ?_) ?_
      · exact ⟨by simp [b1], by simp [b2], by simp [b4]⟩
      · simp [e9]
      · simp
      · simp
      rintro r ⟨env', g', rfl, hs, hg1, hg2⟩
      have f5 := hs.get 5 rfl
      have f9 := hs.get 9 rfl
      simp [e5, e9] at f5 f9
      repeat (first | (with_reducible refine Evs.assoc ?_) | ((with_reducible refine Evs.some_bnd ?_); try dsimp only [sqK_nrm, sqK_exit, sqK_ret]) | ((with_reducible apply Evs.bcndT); (focus (simp (disch := omega) [f9] <;> omega))) | ((with_reducible apply Evs.bcndF); (focus (simp (disch := omega) [f9] <;> omega))) | ((with_reducible apply Evs.step); (focus ((conv => lhs; simp (disch := omega) [f9]); done)); try dsimp only) | (simp only [sn41, snB]))
      refine Evs.ret ⟨_, g', _, rfl, ?_, by simp [f5, er], by simp, fin _ g' (by omega) hg1 hg2 fun q hq => ?_⟩
      · refine Same.put rfl (Same.trans ?_ (hs.sub rfl))
        repeat (first | exact Same.refl _ _ | refine Same.put rfl ?_)
      · rw [if_pos h0, ← hx _ (Nat.mod_lt _ (by decide)), show i / 8 - 1 = (i + 7) / 8 - 1 by omega]
        match q, hq with
        | 0, _ => simp [upd, f4]
        | 1, _ => simp [upd, f4]
        | 2, _ => simp [upd, f4]
        | 3, _ => simp [upd, f4]
    have er : (i + 1 + 7) / 8 - 1 = (i + 7) / 8 - 1 := by omega
    rw [er]
    by_cases h4 : i % 8 = 4
    · repeat (first | (with_reducible refine Evs.assoc ?_) | ((with_reducible refine Evs.some_bnd ?_); try dsimp only [sqK_nrm, sqK_exit, sqK_ret]) | ((with_reducible apply Evs.bcndT); (focus (simp (disch := omega) [b1, b2, b4, e5, e9, h4, ht, fill4] <;> omega))) | ((with_reducible apply Evs.bcndF); (focus (simp (disch := omega) [b1, b2, b4, e5, e9, h4, ht, fill4] <;> omega))) | ((with_reducible apply Evs.step); (focus ((conv => lhs; simp (disch := omega) [b1, b2, b4, e5, e9, h4, ht, fill4]); done)); try dsimp only) | (simp only [sn41, snB]))
      refine Evs.bnd (inner41 h tr key (f4 (subB (g (i - 1) 0)) (subB (g (i - 1) 1)) (subB (g (i - 1) 2)) (subB (g (i - 1) 3))) it vt i (by omega) hi g _ ?_ ?_ ?_ ?_) ?_
      · exact ⟨by simp [b1], by simp [b2], by simp [b4]⟩
      · simp [e9]
      · simp
      · simp
      rintro r ⟨env', g', rfl, hs, hg1, hg2⟩
      have f5 := hs.get 5 rfl
      have f9 := hs.get 9 rfl
      simp [e5, e9] at f5 f9
      repeat (first | (with_reducible refine Evs.assoc ?_) | ((with_reducible refine Evs.some_bnd ?_); try dsimp only [sqK_nrm, sqK_exit, sqK_ret]) | ((with_reducible apply Evs.bcndT); (focus (simp (disch := omega) [f9] <;> omega))) | ((with_reducible apply Evs.bcndF); (focus (simp (disch := omega) [f9] <;> omega))) | ((with_reducible apply Evs.step); (focus ((conv => lhs; simp (disch := omega) [f9]); done)); try dsimp only) | (simp only [sn41, snB]))
      refine Evs.ret ⟨_, g', _, rfl, ?_, by simp [f5], by simp, fin _ g' (by omega) hg1 hg2 fun q hq => ?_⟩
      · refine Same.put rfl (Same.trans ?_ (hs.sub rfl))
        repeat (first | exact Same.refl _ _ | refine Same.put rfl ?_)
      · rw [if_neg h0, if_pos h4, ← hx _ hq]
        match q, hq with
        | 0, _ => simp [upd, f4]
        | 1, _ => simp [upd, f4]
        | 2, _ => simp [upd, f4]
        | 3, _ => simp [upd, f4]
    · repeat (first | (with_reducible refine Evs.assoc ?_) | ((with_reducible refine Evs.some_bnd ?_); try dsimp only [sqK_nrm, sqK_exit, sqK_ret]) | ((with_reducible apply Evs.bcndT); (focus (simp (disch := omega) [b1, b2, b4, e5, e9, h0, h4, ht] <;> omega))) | ((with_reducible apply Evs.bcndF); (focus (simp (disch := omega) [b1, b2, b4, e5, e9, h0, h4, ht] <;> omega))) | ((with_reducible apply Evs.step); (focus ((conv => lhs; simp (disch := omega) [b1, b2, b4, e5, e9, h0, h4, ht]); done)); try dsimp only) | (simp only [sn41, snB]))
      refine Evs.bnd (inner41 h tr key (g (i - 1)) it vt i (by omega) hi g _ ?_ ?_ ?_ ?_) ?_
      · exact ⟨by simp [b1], by simp [b2], by simp [b4]⟩
      · simp [e9]
      · simp
      · simp
      rintro r ⟨env', g', rfl, hs, hg1, hg2⟩
      have f5 := hs.get 5 rfl
      have f9 := hs.get 9 rfl
      simp [e5, e9] at f5 f9
      repeat (first | (with_reducible refine Evs.assoc ?_) | ((with_reducible refine Evs.some_bnd ?_); try dsimp only [sqK_nrm, sqK_exit, sqK_ret]) | ((with_reducible apply Evs.bcndT); (focus (simp (disch := omega) [f9] <;> omega))) | ((with_reducible apply Evs.bcndF); (focus (simp (disch := omega) [f9] <;> omega))) | ((with_reducible apply Evs.step); (focus ((conv => lhs; simp (disch := omega) [f9]); done)); try dsimp only) | (simp only [sn41, snB]))
      refine Evs.ret ⟨_, g', _, rfl, ?_, by simp [f5], by simp, fin _ g' (by omega) hg1 hg2 fun q hq => ?_⟩
      · refine Same.put rfl (Same.trans ?_ (hs.sub rfl))
        repeat (first | exact Same.refl _ _ | refine Same.put rfl ?_)
      · rw [if_neg h0, if_neg h4, ← hx _ hq]

theorem walk41 (h : Heap) (key : Nat → BitVec 8) (it vt : Nat) (m : Mode) (ht : ∀ l, blkAt (h ++ l) it vt = some ⟨arr 256 sbF, vt, m⟩) :
    ∃ t, evBody (cx41 callA3) Try.f41 n41_0 [arr 32 key, .ptr it vt [] (.arr 256 (.int .u8))] h = some (mat 60 4 (wd key), h ++ t) := by
  rw [b41]
  have main : Evs (evC (cx41 callA3) n41_0 ⟨[(0, arr 32 key), (1, .ptr it vt [] (.arr 256 (.int .u8))), (2, .junk), (3, .junk), (4, .junk), (5, .junk), (6, .junk), (7, .junk), (8, .junk), (9, .junk), (10, .junk), (13, .junk), (29, .junk), (30, .junk), (61, .junk), (88, .junk), (89, .junk)], h⟩) (fun r => ∃ env t, r = (.ret, ⟨env, h ++ t⟩) ∧ mLoad (.arr 60 (.arr 4 (.int .u8))) (env.get 4) (h ++ t) = some (mat 60 4 (wd key))) := by
    obtain ⟨env, he⟩ : ∃ env : Env, env = [(0, arr 32 key), (1, .ptr it vt [] (.arr 256 (.int .u8))), (2, .junk), (3, .junk), (4, .junk), (5, .junk), (6, .junk), (7, .junk), (8, .junk), (9, .junk), (10, .junk), (13, .junk), (29, .junk), (30, .junk), (61, .junk), (88, .junk), (89, .junk)] := ⟨_, rfl⟩
    rw [← he]
    have g0 : env.get 0 = arr 32 key := by rw [he]; rfl
    have g1 : env.get 1 = .ptr it vt [] (.arr 256 (.int .u8)) := by rw [he]; rfl
    clear he
    repeat (first | (with_reducible refine Evs.assoc ?_) | ((with_reducible refine Evs.some_bnd ?_); try dsimp only [sqK_nrm, sqK_exit, sqK_ret]) | ((with_reducible apply Evs.bcndT); (focus (simp (disch := omega) [g0, g1] <;> omega))) | ((with_reducible apply Evs.bcndF); (focus (simp (disch := omega) [g0, g1] <;> omega))) | ((with_reducible apply Evs.step); (focus ((conv => lhs; simp (disch := omega) [g0, g1]); done)); try dsimp only) | (simp only [sn41, snB]))
    refine Evs.bnd (Q := fun r => ∃ env' tr, r = (.exit 0, ⟨env', H41 h key (wd key) tr⟩) ∧ env'.get 4 = .ptr (h.length + 1) 0 [] (.arr 60 (.arr 4 (.int .u8)))) ?_ ?_
    · refine Evs.up 60 (fun i s => ∃ env' g tr, s = ⟨env', H41 h key g tr⟩ ∧ B41 h.length it vt env' ∧ env'.get 5 = u8 (rcon ((i + 7) / 8 - 1)) ∧ env'.get 9 = nat i ∧ ∀ j, j < i → ∀ p, p < 4 → g j p = wd key j p) ?_ ?_
        ⟨_, _, [], rfl, ⟨by simp [g1], by simp, by simp⟩, by simp [rcon], by simp, fun j hj => absurd hj (by omega)⟩
      · rintro i s hi ⟨env', g, tr, rfl, hb, e5, e9, hg⟩
        refine (word41 h tr key it vt i m ht hi g env' hb e5 e9 hg).mono ?_
        rintro r ⟨env2, g2, tr2, rfl, hs, f5, f9, hg2⟩
        exact ⟨rfl, _, _, _, rfl, hb.same hs, f5, f9, hg2⟩
      · rintro s ⟨env', g, tr, rfl, hb, e5, e9, hg⟩
        repeat (first | (with_reducible refine Evs.assoc ?_) | ((with_reducible refine Evs.some_bnd ?_); try dsimp only [sqK_nrm, sqK_exit, sqK_ret]) | ((with_reducible apply Evs.bcndT); (focus (simp (disch := omega) [e9] <;> omega))) | ((with_reducible apply Evs.bcndF); (focus (simp (disch := omega) [e9] <;> omega))) | ((with_reducible apply Evs.step); (focus ((conv => lhs; simp (disch := omega) [e9]); done)); try dsimp only) | (simp only [sn41, snB]))
        obtain ⟨b1, b2, b4⟩ := hb
        unfold H41
        rw [mat_congr hg]
        exact Evs.ret ⟨by simp, _, tr, rfl, by simp [b4]⟩
    · rintro r ⟨env', tr, rfl, b4⟩
      unfold H41
      repeat (first | (with_reducible refine Evs.assoc ?_) | ((with_reducible refine Evs.some_bnd ?_); try dsimp only [sqK_nrm, sqK_exit, sqK_ret]) | ((with_reducible apply Evs.bcndT); (focus (simp (disch := omega) [b4] <;> omega))) | ((with_reducible apply Evs.bcndF); (focus (simp (disch := omega) [b4] <;> omega))) | ((with_reducible apply Evs.step); (focus ((conv => lhs; simp (disch := omega) [b4]); done)); try dsimp only) | (simp only [sn41, snB]))
      refine Evs.ret ⟨_, _, rfl, ?_⟩
      simp [b4]
  obtain ⟨r, hr, env, t, rfl, e0⟩ := main
  refine ⟨t, ?_⟩
  rw [hr]
  simp [e0, oneOrTuple]

end Go.Vab

/-
  The words of a key: the contract.
-/
namespace Go.Vab
open Go Go.Proofs

@[simp] theorem arr_under (n k : Nat) (g : Nat → BitVec 8) : (arr n g).under k = true := rfl
theorem mat_under (m n k : Nat) (g : Nat → Nat → BitVec 8) : (mat m n g).under k = true := by
  simp only [mat, AV.under]
  induction List.range m with
  | nil => rfl
  | cons a l ih => simp [AV.unders, ih]

theorem wd_congr {a b : Nat → BitVec 8} (h : ∀ i, i < 32 → a i = b i) : ∀ i p, p < 4 → wd a i p = wd b i p := by
  intro i
  induction i using Nat.strongRecOn with
  | _ i ih =>
    intro p hp
    by_cases h8 : i < 8
    · rw [wd_lt h8, wd_lt h8]; exact h _ (by omega)
    · rw [wd_ge (key := a) (i := i) (by omega), wd_ge (key := b) (i := i) (by omega), ih (i - 8) (by omega) p hp, ih (i - 1) (by omega) p hp, ih (i - 1) (by omega) _ (Nat.mod_lt _ (by decide))]

noncomputable def c41 := conC (fun x : (Nat → BitVec 8) × Nat × Nat => [arr 32 x.1, .ptr x.2.1 x.2.2 [] (.arr 256 (.int .u8))]) (fun x h => ∃ m, blkAt h x.2.1 x.2.2 = some ⟨arr 256 sbF, x.2.2, m⟩) (fun x h => (mat 60 4 (wd x.1), h))
noncomputable def callA4 : Calling := addC callA3 41 c41
theorem c41_eq (key : Nat → BitVec 8) (it vt : Nat) (h : Heap) (ht : ∃ m, blkAt h it vt = some ⟨arr 256 sbF, vt, m⟩) : c41 [arr 32 key, .ptr it vt [] (.arr 256 (.int .u8))] h = some (mat 60 4 (wd key), h) :=
  conC_eq (enc := fun x : (Nat → BitVec 8) × Nat × Nat => [arr 32 x.1, .ptr x.2.1 x.2.2 [] (.arr 256 (.int .u8))]) (a := (key, it, vt)) (f := fun x h => (mat 60 4 (wd x.1), h))
    (fun x y h e => by
      have e1 := arr_inj.1 (List.cons.inj e).1
      simp only [Prod.mk.injEq, and_true]
      exact mat_congr fun i _ p hp => wd_congr e1 i p hp) ht
theorem callA4_ok : CallOK Try.prog callA4 := addC_con callA3_ok k41 fun x h ⟨m, hm⟩ => by
  obtain ⟨t, ht⟩ := walk41 h x.1 x.2.1 x.2.2 m fun l => blkAt_app hm l
  exact (s41 callA3_ok ht).drop0 t (mat_under _ _ _ _)
@[simp] theorem callA4_14 (a b : BitVec 8) (h : Heap) : callA4 14 [u8 a, u8 b] h = some (u8 (mulB a b), h) := by simp [callA4, addC]
@[simp] theorem callA4_still14 (a b : BitVec 8) (h : Heap) : still callA4 14 [u8 a, u8 b] h = some (u8 (mulB a b), h) := still_of fun t => by simp
@[simp] theorem callA4_16 (a : BitVec 8) (h : Heap) : callA4 16 [u8 a] h = some (u8 (subB a), h) := by simp [callA4, addC]
@[simp] theorem callA4_40 (h : Heap) : callA4 40 [] h = some (arr 256 sbF, h) := by simp [callA4, addC]
theorem callA4_41 (key : Nat → BitVec 8) (it vt : Nat) (h : Heap) (ht : ∃ m, blkAt h it vt = some ⟨arr 256 sbF, vt, m⟩) : callA4 41 [arr 32 key, .ptr it vt [] (.arr 256 (.int .u8))] h = some (mat 60 4 (wd key), h) := by
  simp only [callA4, addC, if_true]; exact c41_eq key it vt h ht

end Go.Vab

/- How the evaluator reads the functions of a seat. Printed by wip/tools/gen.py (own work). -/
namespace Go.Vab
open Go Go.Proofs
noncomputable section
variable (call : Calling) (env : Env) (h : Heap) (s : St)
/-! vestry/aes.Encrypt -/
def cx19 (call : Calling) : Ctx := ⟨call, TT, 112, [14, 15, 16, 17, 18, 21, 22, 23, 24, 25, 26, 27, 28, 29, 30, 31, 32, 33, 34, 35, 36, 37, 38, 40, 43, 44, 45, 46, 47, 48, 49, 50, 51, 52, 53, 54, 55, 56, 57, 59, 60, 62, 63, 64, 65, 66, 67, 68, 69, 70, 71, 72, 73, 74, 75, 76, 77, 78, 79, 80, 81, 84, 85, 86, 87, 88, 89, 90, 91, 92, 93, 94, 95, 96, 97, 98, 99, 100, 101, 102, 103, 104, 105, 106, 107, 108, 109, 110, 111]⟩
def n19_0 : Code := bodyOf Try.f19
def n19_1 : Code := cR n19_0
def n19_2 : Code := cR n19_1
def n19_3 : Code := cR n19_2
def n19_4 : Code := cR n19_3
def n19_5 : Code := cB n19_4
def n19_6 : Code := cB n19_5
def n19_7 : Code := cL n19_6
def n19_8 : Code := cB n19_7
def n19_9 : Code := cL n19_8
def n19_10 : Code := cR n19_9
def n19_11 : Code := cB n19_10
def n19_12 : Code := cB n19_11
def n19_13 : Code := cR n19_12
def n19_14 : Code := cL n19_13
def n19_15 : Code := cL n19_14
def n19_16 : Code := cR n19_14
def n19_17 : Code := cR n19_13
def n19_18 : Code := cL n19_17
def n19_19 : Code := cB n19_18
def n19_20 : Code := cR n19_19
def n19_21 : Code := cR n19_17
def n19_22 : Code := cR n19_8
def n19_23 : Code := cL n19_22
def n19_24 : Code := cR n19_23
def n19_25 : Code := cL n19_24
def n19_26 : Code := cR n19_25
def n19_27 : Code := cR n19_24
def n19_28 : Code := cR n19_22
def n19_29 : Code := cR n19_28
def n19_30 : Code := cL n19_29
def n19_31 : Code := cR n19_30
def n19_32 : Code := cB n19_31
def n19_33 : Code := cB n19_32
def n19_34 : Code := cR n19_33
def n19_35 : Code := cL n19_34
def n19_36 : Code := cL n19_35
def n19_37 : Code := cR n19_35
def n19_38 : Code := cR n19_34
def n19_39 : Code := cL n19_38
def n19_40 : Code := cB n19_39
def n19_41 : Code := cR n19_40
def n19_42 : Code := cR n19_38
def n19_43 : Code := cR n19_29
def n19_44 : Code := cL n19_43
def n19_45 : Code := cR n19_44
def n19_46 : Code := cL n19_45
def n19_47 : Code := cR n19_46
def n19_48 : Code := cR n19_45
def n19_49 : Code := cR n19_43
def n19_50 : Code := cR n19_49
def n19_51 : Code := cB n19_50
def n19_52 : Code := cB n19_51
def n19_53 : Code := cL n19_52
def n19_54 : Code := cR n19_53
def n19_55 : Code := cL n19_54
def n19_56 : Code := cR n19_54
def n19_57 : Code := cR n19_52
def n19_58 : Code := cL n19_57
def n19_59 : Code := cB n19_58
def n19_60 : Code := cR n19_59
def n19_61 : Code := cR n19_60
def n19_62 : Code := cB n19_61
def n19_63 : Code := cB n19_62
def n19_64 : Code := cR n19_63
def n19_65 : Code := cL n19_64
def n19_66 : Code := cL n19_65
def n19_67 : Code := cR n19_65
def n19_68 : Code := cR n19_64
def n19_69 : Code := cL n19_68
def n19_70 : Code := cB n19_69
def n19_71 : Code := cR n19_70
def n19_72 : Code := cR n19_68
def n19_73 : Code := cR n19_57
def n19_74 : Code := cR n19_6
@[simp] theorem n19_15_eq : evC (cx19 call) n19_15 s = some (.nrm, s) := xK
@[simp] theorem n19_16_eq : evC (cx19 call) n19_16 s = some (.exit 2, s) := xX 2
@[simp] theorem n19_14_eq : evC (cx19 call) n19_14 s = cnd (s.env.get 20) (evC (cx19 call) n19_15 s) (evC (cx19 call) n19_16 s) := xC 20 _ _
theorem n19_20_ok : drawOk (cOps n19_20).toList = true := by kernel_rfl
@[simp] theorem n19_20_eq : evC (cx19 call) n19_20 ⟨env, h⟩ = (bnd (pureV h (mIdxA (.arr 16 (.int .u8)) (env.get 3) (env.get 8))) fun r1 => bnd (pureV r1.2 (mLoad (.int .u8) r1.1 r1.2)) fun r2 => bnd (pureV r2.2 (mBin .mul (nat 4) (env.get 7))) fun r4 => bnd (pureV r4.2 (mBin .quo (env.get 8) (nat 4))) fun r6 => bnd (pureV r6.2 (mBin .add r4.1 r6.1)) fun r7 => bnd (pureV r7.2 (mBin .rem (env.get 8) (nat 4))) fun r9 => bnd (pureV r9.2 (mIdxA (.arr 60 (.arr 4 (.int .u8))) (env.get 6) r7.1)) fun r10 => bnd (pureV r10.2 (mIdxA (.arr 4 (.int .u8)) r10.1 r9.1)) fun r11 => bnd (pureV r11.2 (mLoad (.int .u8) r11.1 r11.2)) fun r12 => bnd (pureV r12.2 (mBin .xor r2.1 r12.1)) fun r13 => bnd (pureV r13.2 (mIdxA (.arr 16 (.int .u8)) (env.get 3) (env.get 8))) fun r14 => bnd (stU (.int .u8) r14.1 r13.1 r14.2) fun r15 => some (.nrm, ⟨env, r15.2⟩)) := (xD 8 (cOps n19_20) n19_20_ok).trans (by
  refine opsK_0 ?_
  refine oT 22 (env.get 8) ?_
  refine oP 23 fun r1 => ?_
  refine oP 24 fun r2 => ?_
  refine oT 25 (env.get 7) ?_
  refine oP 26 fun r4 => ?_
  refine oT 27 (env.get 8) ?_
  refine oP 28 fun r6 => ?_
  refine oP 29 fun r7 => ?_
  refine oT 30 (env.get 8) ?_
  refine oP 31 fun r9 => ?_
  refine oP 32 fun r10 => ?_
  refine oP 33 fun r11 => ?_
  refine oP 34 fun r12 => ?_
  refine oP 35 fun r13 => ?_
  refine oP 36 fun r14 => ?_
  refine oN fun r15 => ?_
  exact oE)
@[simp] theorem n19_19_eq : evC (cx19 call) n19_19 ⟨env, h⟩ = ( evC (cx19 call) n19_20 ⟨(Env.put env 8 (env.get 19)), h⟩) := (xSR 7 (cOps (cL n19_19)) (cR n19_19)).trans (by
  refine opsK_0 ?_
  refine oT 21 (env.get 19) ?_
  refine oT 8 (env.get 19) ?_
  exact oE)
@[simp] theorem n19_18_eq : evC (cx19 call) n19_18 s = bnd (evC (cx19 call) n19_19 s) fun r => some (inBlk 3 r) := xB 3 _
@[simp] theorem n19_21_eq : evC (cx19 call) n19_21 ⟨env, h⟩ = (bnd (pureV h (mBin .add (env.get 19) (nat 1))) fun r0 => some (.nrm, ⟨(Env.put env 19 r0.1), r0.2⟩)) := (xR 9 (cOps n19_21)).trans (by
  refine opsK_0 ?_
  refine oP 37 fun r0 => ?_
  refine oT 19 r0.1 ?_
  exact oE)
@[simp] theorem n19_17_eq : evC (cx19 call) n19_17 s = bnd (evC (cx19 call) n19_18 s) (sqK (evC (cx19 call) n19_21)) := xS _ _
@[simp] theorem n19_13_eq : evC (cx19 call) n19_13 s = bnd (evC (cx19 call) n19_14 s) (sqK (evC (cx19 call) n19_17)) := xS _ _
@[simp] theorem n19_12_eq : evC (cx19 call) n19_12 ⟨env, h⟩ = (bnd (pureV h (mBin .lss (env.get 19) (nat 16))) fun r0 => evC (cx19 call) n19_13 ⟨(Env.put env 20 r0.1), r0.2⟩) := (xSR 6 (cOps (cL n19_12)) (cR n19_12)).trans (by
  refine opsK_0 ?_
  refine oP 20 fun r0 => ?_
  exact oE)
@[simp] theorem n19_11_eq : evC (cx19 call) n19_11 s = evLoop (evC (cx19 call) n19_12) s := xL _
@[simp] theorem n19_10_eq : evC (cx19 call) n19_10 s = bnd (evC (cx19 call) n19_11 s) fun r => some (inBlk 2 r) := xB 2 _
@[simp] theorem n19_9_eq : evC (cx19 call) n19_9 ⟨env, h⟩ = ( evC (cx19 call) n19_10 ⟨(Env.put env 19 (nat 0)), h⟩) := (xSR 5 (cOps (cL n19_9)) (cR n19_9)).trans (by
  refine opsK_0 ?_
  refine oT 19 (nat 0) ?_
  exact oE)
@[simp] theorem n19_26_eq : evC (cx19 call) n19_26 s = some (.ret, s) := xE
@[simp] theorem n19_25_eq : evC (cx19 call) n19_25 ⟨env, h⟩ = (bnd (pureV h (mLoad (.arr 16 (.int .u8)) (env.get 3) h)) fun r0 => bnd (stU (.arr 16 (.int .u8)) (env.get 4) r0.1 r0.2) fun r1 => evC (cx19 call) n19_26 ⟨env, r1.2⟩) := (xSR 11 (cOps (cL n19_25)) (cR n19_25)).trans (by
  refine opsK_0 ?_
  refine oP 40 fun r0 => ?_
  refine oN fun r1 => ?_
  exact oE)
@[simp] theorem n19_27_eq : evC (cx19 call) n19_27 s = some (.nrm, s) := xK
@[simp] theorem n19_24_eq : evC (cx19 call) n19_24 s = cnd (s.env.get 39) (evC (cx19 call) n19_25 s) (evC (cx19 call) n19_27 s) := xC 39 _ _
@[simp] theorem n19_23_eq : evC (cx19 call) n19_23 ⟨env, h⟩ = (bnd (pureV h (mBin .eql (env.get 7) (nat 14))) fun r1 => evC (cx19 call) n19_24 ⟨(Env.put env 39 r1.1), r1.2⟩) := (xSR 10 (cOps (cL n19_23)) (cR n19_23)).trans (by
  refine opsK_0 ?_
  refine oT 38 (env.get 7) ?_
  refine oP 39 fun r1 => ?_
  exact oE)
@[simp] theorem n19_36_eq : evC (cx19 call) n19_36 s = some (.nrm, s) := xK
@[simp] theorem n19_37_eq : evC (cx19 call) n19_37 s = some (.exit 4, s) := xX 4
@[simp] theorem n19_35_eq : evC (cx19 call) n19_35 s = cnd (s.env.get 42) (evC (cx19 call) n19_36 s) (evC (cx19 call) n19_37 s) := xC 42 _ _
@[simp] theorem n19_41_eq : evC (cx19 call) n19_41 ⟨env, h⟩ = (bnd (pureV h (mBin .rem (env.get 10) (nat 4))) fun r3 => bnd (pureV r3.2 (mBin .mul (nat 4) r3.1)) fun r4 => bnd (pureV r4.2 (mBin .add (env.get 10) r4.1)) fun r5 => bnd (pureV r5.2 (mBin .rem r5.1 (nat 16))) fun r6 => bnd (pureV r6.2 (mIdxA (.arr 16 (.int .u8)) (env.get 3) r6.1)) fun r7 => bnd (pureV r7.2 (mLoad (.int .u8) r7.1 r7.2)) fun r8 => bnd (pureV r8.2 (mIdxA (.arr 256 (.int .u8)) (env.get 5) r8.1)) fun r9 => bnd (pureV r9.2 (mLoad (.int .u8) r9.1 r9.2)) fun r10 => bnd (pureV r10.2 (mIdxA (.arr 16 (.int .u8)) (env.get 9) (env.get 10))) fun r11 => bnd (stU (.int .u8) r11.1 r10.1 r11.2) fun r12 => some (.nrm, ⟨env, r12.2⟩)) := (xR 16 (cOps n19_41)).trans (by
  refine opsK_0 ?_
  refine oT 44 (env.get 10) ?_
  refine oT 45 (env.get 10) ?_
  refine oT 46 (env.get 10) ?_
  refine oP 47 fun r3 => ?_
  refine oP 48 fun r4 => ?_
  refine oP 49 fun r5 => ?_
  refine oP 50 fun r6 => ?_
  refine oP 51 fun r7 => ?_
  refine oP 52 fun r8 => ?_
  refine oP 53 fun r9 => ?_
  refine oP 54 fun r10 => ?_
  refine oP 55 fun r11 => ?_
  refine oN fun r12 => ?_
  exact oE)
@[simp] theorem n19_40_eq : evC (cx19 call) n19_40 ⟨env, h⟩ = ( evC (cx19 call) n19_41 ⟨(Env.put env 10 (env.get 41)), h⟩) := (xSR 15 (cOps (cL n19_40)) (cR n19_40)).trans (by
  refine opsK_0 ?_
  refine oT 43 (env.get 41) ?_
  refine oT 10 (env.get 41) ?_
  exact oE)
@[simp] theorem n19_39_eq : evC (cx19 call) n19_39 s = bnd (evC (cx19 call) n19_40 s) fun r => some (inBlk 5 r) := xB 5 _
@[simp] theorem n19_42_eq : evC (cx19 call) n19_42 ⟨env, h⟩ = (bnd (pureV h (mBin .add (env.get 41) (nat 1))) fun r0 => some (.nrm, ⟨(Env.put env 41 r0.1), r0.2⟩)) := (xR 17 (cOps n19_42)).trans (by
  refine opsK_0 ?_
  refine oP 56 fun r0 => ?_
  refine oT 41 r0.1 ?_
  exact oE)
@[simp] theorem n19_38_eq : evC (cx19 call) n19_38 s = bnd (evC (cx19 call) n19_39 s) (sqK (evC (cx19 call) n19_42)) := xS _ _
@[simp] theorem n19_34_eq : evC (cx19 call) n19_34 s = bnd (evC (cx19 call) n19_35 s) (sqK (evC (cx19 call) n19_38)) := xS _ _
@[simp] theorem n19_33_eq : evC (cx19 call) n19_33 ⟨env, h⟩ = (bnd (pureV h (mBin .lss (env.get 41) (nat 16))) fun r0 => evC (cx19 call) n19_34 ⟨(Env.put env 42 r0.1), r0.2⟩) := (xSR 14 (cOps (cL n19_33)) (cR n19_33)).trans (by
  refine opsK_0 ?_
  refine oP 42 fun r0 => ?_
  exact oE)
@[simp] theorem n19_32_eq : evC (cx19 call) n19_32 s = evLoop (evC (cx19 call) n19_33) s := xL _
@[simp] theorem n19_31_eq : evC (cx19 call) n19_31 s = bnd (evC (cx19 call) n19_32 s) fun r => some (inBlk 4 r) := xB 4 _
@[simp] theorem n19_30_eq : evC (cx19 call) n19_30 ⟨env, h⟩ = ( evC (cx19 call) n19_31 ⟨(Env.put env 41 (nat 0)), h⟩) := (xSR 13 (cOps (cL n19_30)) (cR n19_30)).trans (by
  refine opsK_0 ?_
  refine oT 41 (nat 0) ?_
  exact oE)
@[simp] theorem n19_47_eq : evC (cx19 call) n19_47 s = some (.exit 1, s) := xX 1
@[simp] theorem n19_46_eq : evC (cx19 call) n19_46 ⟨env, h⟩ = (bnd (pureV h (mLoad (.arr 16 (.int .u8)) (env.get 9) h)) fun r0 => bnd (stU (.arr 16 (.int .u8)) (env.get 3) r0.1 r0.2) fun r1 => evC (cx19 call) n19_47 ⟨env, r1.2⟩) := (xSR 19 (cOps (cL n19_46)) (cR n19_46)).trans (by
  refine opsK_0 ?_
  refine oP 59 fun r0 => ?_
  refine oN fun r1 => ?_
  exact oE)
@[simp] theorem n19_48_eq : evC (cx19 call) n19_48 s = some (.nrm, s) := xK
@[simp] theorem n19_45_eq : evC (cx19 call) n19_45 s = cnd (s.env.get 58) (evC (cx19 call) n19_46 s) (evC (cx19 call) n19_48 s) := xC 58 _ _
@[simp] theorem n19_44_eq : evC (cx19 call) n19_44 ⟨env, h⟩ = (bnd (pureV h (mBin .eql (env.get 7) (nat 13))) fun r1 => evC (cx19 call) n19_45 ⟨(Env.put env 58 r1.1), r1.2⟩) := (xSR 18 (cOps (cL n19_44)) (cR n19_44)).trans (by
  refine opsK_0 ?_
  refine oT 57 (env.get 7) ?_
  refine oP 58 fun r1 => ?_
  exact oE)
@[simp] theorem n19_55_eq : evC (cx19 call) n19_55 s = some (.nrm, s) := xK
@[simp] theorem n19_56_eq : evC (cx19 call) n19_56 s = some (.exit 6, s) := xX 6
@[simp] theorem n19_54_eq : evC (cx19 call) n19_54 s = cnd (s.env.get 61) (evC (cx19 call) n19_55 s) (evC (cx19 call) n19_56 s) := xC 61 _ _
@[simp] theorem n19_53_eq : evC (cx19 call) n19_53 ⟨env, h⟩ = (bnd (pureV h (mBin .lss (env.get 11) (nat 16))) fun r1 => evC (cx19 call) n19_54 ⟨(Env.put env 61 r1.1), r1.2⟩) := (xSR 21 (cOps (cL n19_53)) (cR n19_53)).trans (by
  refine opsK_0 ?_
  refine oT 60 (env.get 11) ?_
  refine oP 61 fun r1 => ?_
  exact oE)
@[simp] theorem n19_66_eq : evC (cx19 call) n19_66 s = some (.nrm, s) := xK
@[simp] theorem n19_67_eq : evC (cx19 call) n19_67 s = some (.exit 8, s) := xX 8
@[simp] theorem n19_65_eq : evC (cx19 call) n19_65 s = cnd (s.env.get 83) (evC (cx19 call) n19_66 s) (evC (cx19 call) n19_67 s) := xC 83 _ _
theorem n19_71_ok : drawOk (cOps n19_71).toList = true := by kernel_rfl
@[simp] theorem n19_71_eq : evC (cx19 call) n19_71 ⟨env, h⟩ = (bnd (pureV h (mBin .add (env.get 11) (env.get 13))) fun r2 => bnd (pureV r2.2 (mBin .add (env.get 11) (env.get 13))) fun r5 => bnd (pureV r5.2 (mIdxA (.arr 16 (.int .u8)) (env.get 9) r5.1)) fun r6 => bnd (pureV r6.2 (mLoad (.int .u8) r6.1 r6.2)) fun r7 => bnd (pureV r7.2 (mBin .xor r7.1 (env.get 12))) fun r9 => bnd (pureV r9.2 (mBin .add (env.get 11) (env.get 13))) fun r12 => bnd (pureV r12.2 (mIdxA (.arr 16 (.int .u8)) (env.get 9) r12.1)) fun r13 => bnd (pureV r13.2 (mLoad (.int .u8) r13.1 r13.2)) fun r14 => bnd (pureV r14.2 (mBin .add (env.get 13) (nat 1))) fun r17 => bnd (pureV r17.2 (mBin .rem r17.1 (nat 4))) fun r18 => bnd (pureV r18.2 (mBin .add (env.get 11) r18.1)) fun r19 => bnd (pureV r19.2 (mIdxA (.arr 16 (.int .u8)) (env.get 9) r19.1)) fun r20 => bnd (pureV r20.2 (mLoad (.int .u8) r20.1 r20.2)) fun r21 => bnd (pureV r21.2 (mBin .xor r14.1 r21.1)) fun r22 => bnd (still call 14 [r22.1, (u8 2#8)] r22.2) fun r23 => bnd (pureV r23.2 (mBin .xor r9.1 r23.1)) fun r24 => bnd (pureV r24.2 (mIdxA (.arr 16 (.int .u8)) (env.get 3) r2.1)) fun r25 => bnd (stU (.int .u8) r25.1 r24.1 r25.2) fun r26 => some (.nrm, ⟨env, r26.2⟩)) := (xD 27 (cOps n19_71) n19_71_ok).trans (by
  refine opsK_0 ?_
  refine oT 85 (env.get 11) ?_
  refine oT 86 (env.get 13) ?_
  refine oP 87 fun r2 => ?_
  refine oT 88 (env.get 11) ?_
  refine oT 89 (env.get 13) ?_
  refine oP 90 fun r5 => ?_
  refine oP 91 fun r6 => ?_
  refine oP 92 fun r7 => ?_
  refine oT 93 (env.get 12) ?_
  refine oP 94 fun r9 => ?_
  refine oT 95 (env.get 11) ?_
  refine oT 96 (env.get 13) ?_
  refine oP 97 fun r12 => ?_
  refine oP 98 fun r13 => ?_
  refine oP 99 fun r14 => ?_
  refine oT 100 (env.get 11) ?_
  refine oT 101 (env.get 13) ?_
  refine oP 102 fun r17 => ?_
  refine oP 103 fun r18 => ?_
  refine oP 104 fun r19 => ?_
  refine oP 105 fun r20 => ?_
  refine oP 106 fun r21 => ?_
  refine oP 107 fun r22 => ?_
  refine oP 108 fun r23 => ?_
  refine oP 109 fun r24 => ?_
  refine oP 110 fun r25 => ?_
  refine oN fun r26 => ?_
  exact oE)
@[simp] theorem n19_70_eq : evC (cx19 call) n19_70 ⟨env, h⟩ = ( evC (cx19 call) n19_71 ⟨(Env.put env 13 (env.get 82)), h⟩) := (xSR 26 (cOps (cL n19_70)) (cR n19_70)).trans (by
  refine opsK_0 ?_
  refine oT 84 (env.get 82) ?_
  refine oT 13 (env.get 82) ?_
  exact oE)
@[simp] theorem n19_69_eq : evC (cx19 call) n19_69 s = bnd (evC (cx19 call) n19_70 s) fun r => some (inBlk 9 r) := xB 9 _
@[simp] theorem n19_72_eq : evC (cx19 call) n19_72 ⟨env, h⟩ = (bnd (pureV h (mBin .add (env.get 82) (nat 1))) fun r0 => some (.nrm, ⟨(Env.put env 82 r0.1), r0.2⟩)) := (xR 28 (cOps n19_72)).trans (by
  refine opsK_0 ?_
  refine oP 111 fun r0 => ?_
  refine oT 82 r0.1 ?_
  exact oE)
@[simp] theorem n19_68_eq : evC (cx19 call) n19_68 s = bnd (evC (cx19 call) n19_69 s) (sqK (evC (cx19 call) n19_72)) := xS _ _
@[simp] theorem n19_64_eq : evC (cx19 call) n19_64 s = bnd (evC (cx19 call) n19_65 s) (sqK (evC (cx19 call) n19_68)) := xS _ _
@[simp] theorem n19_63_eq : evC (cx19 call) n19_63 ⟨env, h⟩ = (bnd (pureV h (mBin .lss (env.get 82) (nat 4))) fun r0 => evC (cx19 call) n19_64 ⟨(Env.put env 83 r0.1), r0.2⟩) := (xSR 25 (cOps (cL n19_63)) (cR n19_63)).trans (by
  refine opsK_0 ?_
  refine oP 83 fun r0 => ?_
  exact oE)
@[simp] theorem n19_62_eq : evC (cx19 call) n19_62 s = evLoop (evC (cx19 call) n19_63) s := xL _
@[simp] theorem n19_61_eq : evC (cx19 call) n19_61 s = bnd (evC (cx19 call) n19_62 s) fun r => some (inBlk 8 r) := xB 8 _
@[simp] theorem n19_60_eq : evC (cx19 call) n19_60 ⟨env, h⟩ = ( evC (cx19 call) n19_61 ⟨(Env.put env 82 (nat 0)), h⟩) := (xSR 24 (cOps (cL n19_60)) (cR n19_60)).trans (by
  refine opsK_0 ?_
  refine oT 82 (nat 0) ?_
  exact oE)
theorem n19_59_ok : drawOk (cOps (cL n19_59)).toList = true := by kernel_rfl
@[simp] theorem n19_59_eq : evC (cx19 call) n19_59 ⟨env, h⟩ = (bnd (pureV h (mIdxA (.arr 16 (.int .u8)) (env.get 9) (env.get 11))) fun r1 => bnd (pureV r1.2 (mLoad (.int .u8) r1.1 r1.2)) fun r2 => bnd (pureV r2.2 (mBin .add (env.get 11) (nat 1))) fun r4 => bnd (pureV r4.2 (mIdxA (.arr 16 (.int .u8)) (env.get 9) r4.1)) fun r5 => bnd (pureV r5.2 (mLoad (.int .u8) r5.1 r5.2)) fun r6 => bnd (pureV r6.2 (mBin .xor r2.1 r6.1)) fun r7 => bnd (pureV r7.2 (mBin .add (env.get 11) (nat 2))) fun r9 => bnd (pureV r9.2 (mIdxA (.arr 16 (.int .u8)) (env.get 9) r9.1)) fun r10 => bnd (pureV r10.2 (mLoad (.int .u8) r10.1 r10.2)) fun r11 => bnd (pureV r11.2 (mBin .xor r7.1 r11.1)) fun r12 => bnd (pureV r12.2 (mBin .add (env.get 11) (nat 3))) fun r14 => bnd (pureV r14.2 (mIdxA (.arr 16 (.int .u8)) (env.get 9) r14.1)) fun r15 => bnd (pureV r15.2 (mLoad (.int .u8) r15.1 r15.2)) fun r16 => bnd (pureV r16.2 (mBin .xor r12.1 r16.1)) fun r17 => evC (cx19 call) n19_60 ⟨(Env.put env 12 r17.1), r17.2⟩) := (xSD 23 (cOps (cL n19_59)) (cR n19_59) n19_59_ok).trans (by
  refine opsK_0 ?_
  refine oT 64 (env.get 11) ?_
  refine oP 65 fun r1 => ?_
  refine oP 66 fun r2 => ?_
  refine oT 67 (env.get 11) ?_
  refine oP 68 fun r4 => ?_
  refine oP 69 fun r5 => ?_
  refine oP 70 fun r6 => ?_
  refine oP 71 fun r7 => ?_
  refine oT 72 (env.get 11) ?_
  refine oP 73 fun r9 => ?_
  refine oP 74 fun r10 => ?_
  refine oP 75 fun r11 => ?_
  refine oP 76 fun r12 => ?_
  refine oT 77 (env.get 11) ?_
  refine oP 78 fun r14 => ?_
  refine oP 79 fun r15 => ?_
  refine oP 80 fun r16 => ?_
  refine oP 81 fun r17 => ?_
  refine oT 12 r17.1 ?_
  exact oE)
@[simp] theorem n19_58_eq : evC (cx19 call) n19_58 s = bnd (evC (cx19 call) n19_59 s) fun r => some (inBlk 7 r) := xB 7 _
@[simp] theorem n19_73_eq : evC (cx19 call) n19_73 ⟨env, h⟩ = (bnd (pureV h (mBin .add (env.get 11) (nat 4))) fun r1 => some (.nrm, ⟨(Env.put env 11 r1.1), r1.2⟩)) := (xR 22 (cOps n19_73)).trans (by
  refine opsK_0 ?_
  refine oT 62 (env.get 11) ?_
  refine oP 63 fun r1 => ?_
  refine oT 11 r1.1 ?_
  exact oE)
@[simp] theorem n19_57_eq : evC (cx19 call) n19_57 s = bnd (evC (cx19 call) n19_58 s) (sqK (evC (cx19 call) n19_73)) := xS _ _
@[simp] theorem n19_52_eq : evC (cx19 call) n19_52 s = bnd (evC (cx19 call) n19_53 s) (sqK (evC (cx19 call) n19_57)) := xS _ _
@[simp] theorem n19_51_eq : evC (cx19 call) n19_51 s = evLoop (evC (cx19 call) n19_52) s := xL _
@[simp] theorem n19_50_eq : evC (cx19 call) n19_50 s = bnd (evC (cx19 call) n19_51 s) fun r => some (inBlk 6 r) := xB 6 _
@[simp] theorem n19_49_eq : evC (cx19 call) n19_49 ⟨env, h⟩ = ( evC (cx19 call) n19_50 ⟨(Env.put env 11 (nat 0)), h⟩) := (xSR 20 (cOps (cL n19_49)) (cR n19_49)).trans (by
  refine opsK_0 ?_
  refine oT 11 (nat 0) ?_
  exact oE)
@[simp] theorem n19_43_eq : evC (cx19 call) n19_43 s = bnd (evC (cx19 call) n19_44 s) (sqK (evC (cx19 call) n19_49)) := xS _ _
@[simp] theorem n19_29_eq : evC (cx19 call) n19_29 s = bnd (evC (cx19 call) n19_30 s) (sqK (evC (cx19 call) n19_43)) := xS _ _
@[simp] theorem n19_28_eq : evC (cx19 call) n19_28 ⟨env, h⟩ = (bnd (mNew (.arr 16 (.int .u8)) (arr 16 fun _ => 0#8) h) fun r0 => evC (cx19 call) n19_29 ⟨(Env.put env 9 r0.1), r0.2⟩) := (xSR 12 (cOps (cL n19_28)) (cR n19_28)).trans (by
  refine opsK_0 ?_
  refine oP 9 fun r0 => ?_
  exact oE)
@[simp] theorem n19_22_eq : evC (cx19 call) n19_22 s = bnd (evC (cx19 call) n19_23 s) (sqK (evC (cx19 call) n19_28)) := xS _ _
@[simp] theorem n19_8_eq : evC (cx19 call) n19_8 s = bnd (evC (cx19 call) n19_9 s) (sqK (evC (cx19 call) n19_22)) := xS _ _
@[simp] theorem n19_7_eq : evC (cx19 call) n19_7 s = bnd (evC (cx19 call) n19_8 s) fun r => some (inBlk 1 r) := xB 1 _
@[simp] theorem n19_74_eq : evC (cx19 call) n19_74 ⟨env, h⟩ = (bnd (pureV h (mBin .add (env.get 7) (nat 1))) fun r1 => some (.nrm, ⟨(Env.put env 7 r1.1), r1.2⟩)) := (xR 4 (cOps n19_74)).trans (by
  refine opsK_0 ?_
  refine oT 17 (env.get 7) ?_
  refine oP 18 fun r1 => ?_
  refine oT 7 r1.1 ?_
  exact oE)
@[simp] theorem n19_6_eq : evC (cx19 call) n19_6 s = bnd (evC (cx19 call) n19_7 s) (sqK (evC (cx19 call) n19_74)) := xS _ _
@[simp] theorem n19_5_eq : evC (cx19 call) n19_5 s = evLoop (evC (cx19 call) n19_6) s := xL _
@[simp] theorem n19_4_eq : evC (cx19 call) n19_4 s = bnd (evC (cx19 call) n19_5 s) fun r => some (inBlk 0 r) := xB 0 _
@[simp] theorem n19_3_eq : evC (cx19 call) n19_3 ⟨env, h⟩ = ( evC (cx19 call) n19_4 ⟨(Env.put env 7 (nat 0)), h⟩) := (xSR 3 (cOps (cL n19_3)) (cR n19_3)).trans (by
  refine opsK_0 ?_
  refine oT 7 (nat 0) ?_
  exact oE)
@[simp] theorem n19_2_eq : evC (cx19 call) n19_2 ⟨env, h⟩ = (bnd (pureV h (mLoad (.arr 32 (.int .u8)) (env.get 2) h)) fun r0 => bnd (call 41 [r0.1, (env.get 5)] r0.2) fun r1 => bnd (mNew (.arr 60 (.arr 4 (.int .u8))) (mat 60 4 fun _ _ => 0#8) r1.2) fun r2 => bnd (stU (.arr 60 (.arr 4 (.int .u8))) r2.1 r1.1 r2.2) fun r3 => evC (cx19 call) n19_3 ⟨(Env.put env 6 r2.1), r3.2⟩) := (xSR 2 (cOps (cL n19_2)) (cR n19_2)).trans (by
  refine opsK_0 ?_
  refine oP 15 fun r0 => ?_
  refine oP 16 fun r1 => ?_
  refine oP 6 fun r2 => ?_
  refine oN fun r3 => ?_
  exact oE)
@[simp] theorem n19_1_eq : evC (cx19 call) n19_1 ⟨env, h⟩ = (bnd (call 40 [] h) fun r0 => bnd (mNew (.arr 256 (.int .u8)) (arr 256 fun _ => 0#8) r0.2) fun r1 => bnd (stU (.arr 256 (.int .u8)) r1.1 r0.1 r1.2) fun r2 => evC (cx19 call) n19_2 ⟨(Env.put env 5 r1.1), r2.2⟩) := (xSR 1 (cOps (cL n19_1)) (cR n19_1)).trans (by
  refine opsK_0 ?_
  refine oP 14 fun r0 => ?_
  refine oP 5 fun r1 => ?_
  refine oN fun r2 => ?_
  exact oE)
@[simp] theorem n19_0_eq : evC (cx19 call) n19_0 ⟨env, h⟩ = (bnd (mNew (.arr 32 (.int .u8)) (env.get 0) h) fun r0 => bnd (mNew (.arr 16 (.int .u8)) (env.get 1) r0.2) fun r1 => bnd (mNew (.arr 16 (.int .u8)) (arr 16 fun _ => 0#8) r1.2) fun r2 => evC (cx19 call) n19_1 ⟨(Env.put (Env.put (Env.put env 2 r0.1) 3 r1.1) 4 r2.1), r2.2⟩) := (xSR 0 (cOps (cL n19_0)) (cR n19_0)).trans (by
  refine opsK_0 ?_
  refine oP 2 fun r0 => ?_
  refine oP 3 fun r1 => ?_
  refine oP 4 fun r2 => ?_
  exact oE)
theorem b19 (call : Calling) (a0 a1 : AV) (h : Heap) : evBody (cx19 call) Try.f19 n19_0 [a0, a1] h = bnd (evC (cx19 call) n19_0 ⟨[(0, a0), (1, a1), (2, .junk), (3, .junk), (4, .junk), (5, .junk), (6, .junk), (7, .junk), (8, .junk), (9, .junk), (10, .junk), (11, .junk), (12, .junk), (13, .junk), (19, .junk), (20, .junk), (39, .junk), (41, .junk), (42, .junk), (58, .junk), (61, .junk), (82, .junk), (83, .junk)], h⟩) (retK fun s => bnd (bnd (mLoad (.arr 16 (.int .u8)) (s.env.get 4) s.heap) fun v => bnd (some []) fun vs => some (v :: vs)) fun vs => some (oneOrTuple vs)) := by kernel_rfl
theorem fn19 : Try.prog.funcs[19]? = some Try.f19 := by kernel_rfl
theorem k19 : Callable Try.prog 19 := ⟨Try.f19, fn19, by kernel_rfl, by kernel_rfl⟩
theorem s19 {call : Calling} (hc : CallOK Try.prog call) {args : List AV} {h h' : Heap} {v : AV} (he : evBody (cx19 call) Try.f19 n19_0 args h = some (v, h')) : Spec Try.prog 19 args h v h' := body_sound (C := cx19 call) TT_ok hc mixed_ok fn19 (by kernel_rfl) (by kernel_rfl) he
def sn19 := Y n19_15_eq (Y n19_16_eq (Y n19_14_eq (Y n19_20_eq (Y n19_19_eq (Y n19_18_eq (Y n19_21_eq (Y n19_17_eq (Y n19_13_eq (Y n19_12_eq (Y n19_11_eq (Y n19_10_eq (Y n19_9_eq (Y n19_26_eq (Y n19_25_eq (Y n19_27_eq (Y n19_24_eq (Y n19_23_eq (Y n19_36_eq (Y n19_37_eq (Y n19_35_eq (Y n19_41_eq (Y n19_40_eq (Y n19_39_eq (Y n19_42_eq (Y n19_38_eq (Y n19_34_eq (Y n19_33_eq (Y n19_32_eq (Y n19_31_eq (Y n19_30_eq (Y n19_47_eq (Y n19_46_eq (Y n19_48_eq (Y n19_45_eq (Y n19_44_eq (Y n19_55_eq (Y n19_56_eq (Y n19_54_eq (Y n19_53_eq (Y n19_66_eq (Y n19_67_eq (Y n19_65_eq (Y n19_71_eq (Y n19_70_eq (Y n19_69_eq (Y n19_72_eq (Y n19_68_eq (Y n19_64_eq (Y n19_63_eq (Y n19_62_eq (Y n19_61_eq (Y n19_60_eq (Y n19_59_eq (Y n19_58_eq (Y n19_73_eq (Y n19_57_eq (Y n19_52_eq (Y n19_51_eq (Y n19_50_eq (Y n19_49_eq (Y n19_43_eq (Y n19_29_eq (Y n19_28_eq (Y n19_22_eq (Y n19_8_eq (Y n19_7_eq (Y n19_74_eq (Y n19_6_eq (Y n19_5_eq (Y n19_4_eq (Y n19_3_eq (Y n19_2_eq (Y n19_1_eq (n19_0_eq))))))))))))))))))))))))))))))))))))))))))))))))))))))))))))))))))))))))))
end
end Go.Vab

/-
  A block under a key: the rounds' parts.
-/
namespace Go.Vab
open Go Go.Proofs

def addK (w : Nat → Nat → BitVec 8) (j : Nat) (b : Nat → BitVec 8) (i : Nat) : BitVec 8 := b i ^^^ w (4 * j + i / 4) (i % 4)
def subSh (b : Nat → BitVec 8) (i : Nat) : BitVec 8 := subB (b ((i + 4 * (i % 4)) % 16))
def mixC (c : Nat → BitVec 8) (i : Nat) : BitVec 8 :=
  c i ^^^ (c (4 * (i / 4)) ^^^ c (4 * (i / 4) + 1) ^^^ c (4 * (i / 4) + 2) ^^^ c (4 * (i / 4) + 3)) ^^^ mulB (c i ^^^ c (4 * (i / 4) + (i % 4 + 1) % 4)) 2#8
def pre (w : Nat → Nat → BitVec 8) (b : Nat → BitVec 8) : Nat → Nat → BitVec 8
  | 0 => b
  | j + 1 => if j = 13 then subSh (addK w j (pre w b j)) else mixC (subSh (addK w j (pre w b j)))
def encF (w : Nat → Nat → BitVec 8) (b : Nat → BitVec 8) : Nat → BitVec 8 := addK w 14 (pre w b 14)

def E19 (L : Nat) (a0 a1 x7 x8 x9 x10 x11 x12 x13 x19 x20 x39 x41 x42 x58 x61 x82 x83 : AV) : Env :=
  [(0, a0), (1, a1), (2, .ptr L 0 [] (.arr 32 (.int .u8))), (3, .ptr (L + 1) 0 [] (.arr 16 (.int .u8))), (4, .ptr (L + 2) 0 [] (.arr 16 (.int .u8))), (5, .ptr (L + 3) 0 [] (.arr 256 (.int .u8))), (6, .ptr (L + 4) 0 [] (.arr 60 (.arr 4 (.int .u8)))),
   (7, x7), (8, x8), (9, x9), (10, x10), (11, x11), (12, x12), (13, x13), (19, x19), (20, x20), (39, x39), (41, x41), (42, x42), (58, x58), (61, x61), (82, x82), (83, x83)]
def H19 (h : Heap) (key b res : Nat → BitVec 8) (w : Nat → Nat → BitVec 8) (tr : Heap) : Heap :=
  h ++ (⟨arr 32 key, 0, .own⟩ :: ⟨arr 16 b, 0, .own⟩ :: ⟨arr 16 res, 0, .own⟩ :: ⟨arr 256 sbF, 0, .own⟩ :: ⟨mat 60 4 w, 0, .own⟩ :: tr)
/-- Where the round's own block lies. -/
abbrev P19 (h tr : Heap) : AV := .ptr (h.length + (tr.length + 1 + 1 + 1 + 1 + 1)) 0 [] (.arr 16 (.int .u8))

section
variable (h tr : Heap) (key res : Nat → BitVec 8) (w : Nat → Nat → BitVec 8) (a0 a1 : AV)

theorem add19 (j : Nat) (hj : j ≤ 14) (b : Nat → BitVec 8) (x8 x9 x10 x11 x12 x13 x20 x39 x41 x42 x58 x61 x82 x83 : AV) :
    ∃ r, evLoop (evC (cx19 callA4) n19_12) ⟨E19 h.length a0 a1 (nat j) x8 x9 x10 x11 x12 x13 (nat 0) x20 x39 x41 x42 x58 x61 x82 x83, H19 h key b res w tr⟩ = some r ∧
      ∃ y8 y19 y20, r = (.exit 2, ⟨E19 h.length a0 a1 (nat j) y8 x9 x10 x11 x12 x13 y19 y20 x39 x41 x42 x58 x61 x82 x83, H19 h key (addK w j b) res w tr⟩) := by
  refine evLoop_up 16 (fun i s => ∃ x8 x20 g, s = ⟨E19 h.length a0 a1 (nat j) x8 x9 x10 x11 x12 x13 (nat i) x20 x39 x41 x42 x58 x61 x82 x83, H19 h key g res w tr⟩ ∧
      ∀ k, g k = if k < i then addK w j b k else b k) ?_ ?_ ⟨_, _, _, rfl, fun k => by simp⟩
  · rintro i s hi ⟨x8, x20, g, rfl, hg⟩
    have e1 : mBin .add (nat i) (nat 1) = some (nat (i + 1)) := nat_add (by omega)
    have e2 : mBin .mul (nat 4) (nat j) = some (nat (4 * j)) := nat_mul (by omega)
    have e3 : mBin .quo (nat i) (nat 4) = some (nat (i / 4)) := nat_quo (by omega) (by omega)
    have e4 : mBin .add (nat (4 * j)) (nat (i / 4)) = some (nat (4 * j + i / 4)) := nat_add (by omega)
    have e5 : mBin .rem (nat i) (nat 4) = some (nat (i % 4)) := nat_rem (by omega)
    have e6 : 4 * j + i / 4 < 60 := by omega
    have e7 : i % 4 < 4 := Nat.mod_lt _ (by decide)
    refine ex_of (by conv => lhs; simp [E19, H19, Env.get, Env.put, hi, e1, e2, e3, e4, e5, e6, e7]) ?_
    refine ⟨rfl, _, _, _, rfl, fun k => ?_⟩
    by_cases hk : k = i
    · subst hk; rw [upd_same, hg k, if_neg (by omega), if_pos (by omega)]; rfl
    · rw [upd_ne _ _ hk, hg k]
      by_cases hlt : k < i
      · rw [if_pos hlt, if_pos (by omega)]
      · rw [if_neg hlt, if_neg (by omega)]
  · rintro s ⟨x8, x20, g, rfl, hg⟩
    refine ex_of (by conv => lhs; simp [E19, H19, Env.get, Env.put]) ?_
    have : arr 16 g = arr 16 (addK w j b) := arr_congr fun k hk => by rw [hg k, if_pos hk]
    rw [this]
    exact ⟨by simp, _, _, _, rfl⟩

theorem sub19 (b : Nat → BitVec 8) (x7 x8 x10 x11 x12 x13 x19 x20 x39 x42 x58 x61 x82 x83 : AV) :
    ∃ r, evLoop (evC (cx19 callA4) n19_33) ⟨E19 h.length a0 a1 x7 x8 (P19 h tr) x10 x11 x12 x13 x19 x20 x39 (nat 0) x42 x58 x61 x82 x83, H19 h key b res w (tr ++ [⟨(arr 16 fun _ => 0#8), 0, .own⟩])⟩ = some r ∧
      ∃ y10 y41 y42, r = (.exit 4, ⟨E19 h.length a0 a1 x7 x8 (P19 h tr) y10 x11 x12 x13 x19 x20 x39 y41 y42 x58 x61 x82 x83, H19 h key b res w (tr ++ [⟨arr 16 (subSh b), 0, .own⟩])⟩) := by
  refine evLoop_up 16 (fun i s => ∃ x10 x42 g, s = ⟨E19 h.length a0 a1 x7 x8 (P19 h tr) x10 x11 x12 x13 x19 x20 x39 (nat i) x42 x58 x61 x82 x83, H19 h key b res w (tr ++ [⟨arr 16 g, 0, .own⟩])⟩ ∧
      ∀ k, k < i → g k = subSh b k) ?_ ?_ ⟨_, _, _, rfl, fun k hk => absurd hk (by omega)⟩
  · rintro i s hi ⟨x10, x42, g, rfl, hg⟩
    have e1 : mBin .add (nat i) (nat 1) = some (nat (i + 1)) := nat_add (by omega)
    have e2 : mBin .rem (nat i) (nat 4) = some (nat (i % 4)) := nat_rem (by omega)
    have e3 : mBin .mul (nat 4) (nat (i % 4)) = some (nat (4 * (i % 4))) := nat_mul (by omega)
    have e4 : mBin .add (nat i) (nat (4 * (i % 4))) = some (nat (i + 4 * (i % 4))) := nat_add (by omega)
    have e5 : mBin .rem (nat (i + 4 * (i % 4))) (nat 16) = some (nat ((i + 4 * (i % 4)) % 16)) := nat_rem (by omega)
    have e7 : (i + 4 * (i % 4)) % 16 < 16 := Nat.mod_lt _ (by decide)
    refine ex_of (by conv => lhs; simp [E19, H19, Env.get, Env.put, hi, e1, e2, e3, e4, e5, e7]) ?_
    refine ⟨rfl, _, _, _, rfl, fun k hk => ?_⟩
    by_cases hki : k = i
    · subst hki; rw [upd_same]; rfl
    · rw [upd_ne _ _ hki]; exact hg k (by omega)
  · rintro s ⟨x10, x42, g, rfl, hg⟩
    refine ex_of (by conv => lhs; simp [E19, H19, Env.get, Env.put]) ?_
    rw [arr_congr hg]
    exact ⟨by simp, _, _, _, rfl⟩

theorem mix19 (u : Nat) (hu : u < 4) (c b : Nat → BitVec 8) (x7 x8 x10 x13 x19 x20 x39 x41 x42 x58 x61 x83 : AV) :
    ∃ r, evLoop (evC (cx19 callA4) n19_63) ⟨E19 h.length a0 a1 x7 x8 (P19 h tr) x10 (nat (4 * u)) (u8 (c (4 * u) ^^^ c (4 * u + 1) ^^^ c (4 * u + 2) ^^^ c (4 * u + 3))) x13 x19 x20 x39 x41 x42 x58 x61 (nat 0) x83, H19 h key b res w (tr ++ [⟨arr 16 c, 0, .own⟩])⟩ = some r ∧
      ∃ y13 y82 y83 g, r = (.exit 8, ⟨E19 h.length a0 a1 x7 x8 (P19 h tr) x10 (nat (4 * u)) (u8 (c (4 * u) ^^^ c (4 * u + 1) ^^^ c (4 * u + 2) ^^^ c (4 * u + 3))) y13 x19 x20 x39 x41 x42 x58 x61 y82 y83, H19 h key g res w (tr ++ [⟨arr 16 c, 0, .own⟩])⟩) ∧
        ∀ k, g k = if 4 * u ≤ k ∧ k < 4 * u + 4 then mixC c k else b k := by
  refine evLoop_up 4 (fun p s => ∃ x13 x83 g, s = ⟨E19 h.length a0 a1 x7 x8 (P19 h tr) x10 (nat (4 * u)) (u8 (c (4 * u) ^^^ c (4 * u + 1) ^^^ c (4 * u + 2) ^^^ c (4 * u + 3))) x13 x19 x20 x39 x41 x42 x58 x61 (nat p) x83, H19 h key g res w (tr ++ [⟨arr 16 c, 0, .own⟩])⟩ ∧
      ∀ k, g k = if 4 * u ≤ k ∧ k < 4 * u + p then mixC c k else b k) ?_ ?_ ⟨_, _, _, rfl, fun k => by rw [if_neg (by omega)]⟩
  · rintro p s hp ⟨x13, x83, g, rfl, hg⟩
    have e1 : mBin .add (nat p) (nat 1) = some (nat (p + 1)) := nat_add (by omega)
    have e2 : mBin .rem (nat (p + 1)) (nat 4) = some (nat ((p + 1) % 4)) := nat_rem (by omega)
    have e3 : mBin .add (nat (4 * u)) (nat p) = some (nat (4 * u + p)) := nat_add (by omega)
    have e4 : mBin .add (nat (4 * u)) (nat ((p + 1) % 4)) = some (nat (4 * u + (p + 1) % 4)) := nat_add (by omega)
    have e5 : 4 * u + p < 16 := by omega
    have e6 : 4 * u + (p + 1) % 4 < 16 := by omega
    refine ex_of (by conv => lhs; simp [E19, H19, Env.get, Env.put, hp, e1, e2, e3, e4, e5, e6]) ?_
    refine ⟨rfl, _, _, _, rfl, fun k => ?_⟩
    by_cases hki : k = 4 * u + p
    · subst hki
      rw [upd_same, if_pos (by omega)]
      unfold mixC
      rw [show (4 * u + p) / 4 = u by omega, show (4 * u + p) % 4 = p by omega]
    · rw [upd_ne _ _ hki, hg k]
      by_cases hlt : 4 * u ≤ k ∧ k < 4 * u + p
      · rw [if_pos hlt, if_pos (by omega)]
      · rw [if_neg hlt, if_neg (by omega)]
  · rintro s ⟨x13, x83, g, rfl, hg⟩
    refine ex_of (by conv => lhs; simp [E19, H19, Env.get, Env.put]) ?_
    exact ⟨by simp, _, _, _, _, rfl, hg⟩

theorem mixes19 (c b : Nat → BitVec 8) (x7 x8 x10 x12 x13 x19 x20 x39 x41 x42 x58 x61 x82 x83 : AV) :
    ∃ r, evLoop (evC (cx19 callA4) n19_52) ⟨E19 h.length a0 a1 x7 x8 (P19 h tr) x10 (nat 0) x12 x13 x19 x20 x39 x41 x42 x58 x61 x82 x83, H19 h key b res w (tr ++ [⟨arr 16 c, 0, .own⟩])⟩ = some r ∧
      ∃ y11 y12 y13 y61 y82 y83, r = (.exit 6, ⟨E19 h.length a0 a1 x7 x8 (P19 h tr) x10 y11 y12 y13 x19 x20 x39 x41 x42 x58 y61 y82 y83, H19 h key (mixC c) res w (tr ++ [⟨arr 16 c, 0, .own⟩])⟩) := by
  refine evLoop_up 4 (fun u s => ∃ x12 x13 x61 x82 x83 g, s = ⟨E19 h.length a0 a1 x7 x8 (P19 h tr) x10 (nat (4 * u)) x12 x13 x19 x20 x39 x41 x42 x58 x61 x82 x83, H19 h key g res w (tr ++ [⟨arr 16 c, 0, .own⟩])⟩ ∧
      ∀ k, g k = if k < 4 * u then mixC c k else b k) ?_ ?_ ⟨_, _, _, _, _, _, rfl, fun k => by rw [if_neg (by omega)]⟩
  · rintro u s hu ⟨x12, x13, x61, x82, x83, g, rfl, hg⟩
    have e1 : mBin .add (nat (4 * u)) (nat 1) = some (nat (4 * u + 1)) := nat_add (by omega)
    have e2 : mBin .add (nat (4 * u)) (nat 2) = some (nat (4 * u + 2)) := nat_add (by omega)
    have e3 : mBin .add (nat (4 * u)) (nat 3) = some (nat (4 * u + 3)) := nat_add (by omega)
    have e4 : mBin .add (nat (4 * u)) (nat 4) = some (nat (4 * u + 4)) := nat_add (by omega)
    have e5 : 4 * u + 3 < 16 ∧ 4 * u + 2 < 16 ∧ 4 * u + 1 < 16 ∧ 4 * u < 16 := by omega
    obtain ⟨r, hr, y13, y82, y83, g', rfl, hg'⟩ := mix19 h tr key res w a0 a1 u hu c g x7 x8 x10 x13 x19 x20 x39 x41 x42 x58 (.bool true) x83
    simp only [E19, H19, P19] at hr
    refine ex_of (by conv => lhs; simp [E19, H19, Env.get, Env.put, hu, e1, e2, e3, e4, e5, hr]) ?_
    refine ⟨rfl, _, _, _, _, _, _, rfl, fun k => ?_⟩
    rw [hg' k, hg k]
    by_cases h1 : k < 4 * u
    · rw [if_neg (by omega), if_pos h1, if_pos (by omega)]
    · rw [if_neg h1]
      by_cases h2 : k < 4 * u + 4
      · rw [if_pos (by omega), if_pos (by omega)]
      · rw [if_neg (by omega), if_neg (by omega)]
  · rintro s ⟨x12, x13, x61, x82, x83, g, rfl, hg⟩
    refine ex_of (by conv => lhs; simp [E19, H19, Env.get, Env.put]) ?_
    have : arr 16 g = arr 16 (mixC c) := arr_congr fun k hk => by rw [hg k, if_pos (by omega)]
    rw [this]
    exact ⟨by simp, _, _, _, _, _, _, rfl⟩
end

end Go.Vab

/-
  A block under a key.
-/
namespace Go.Vab
open Go Go.Proofs

theorem walk19 (h : Heap) (key b : Nat → BitVec 8) : ∃ t, evBody (cx19 callA4) Try.f19 n19_0 [arr 32 key, arr 16 b] h = some (arr 16 (encF (wd key) b), h ++ t) := by
  rw [b19]
  have L : ∃ r, evLoop (evC (cx19 callA4) n19_6) ⟨E19 h.length (arr 32 key) (arr 16 b) (nat 0) .junk .junk .junk .junk .junk .junk .junk .junk .junk .junk .junk .junk .junk .junk .junk, H19 h key b (fun _ => 0#8) (wd key) []⟩ = some r ∧
      ∃ x7 x8 x9 x10 x11 x12 x13 x19 x20 x39 x41 x42 x58 x61 x82 x83 b' tr, r = (.ret, ⟨E19 h.length (arr 32 key) (arr 16 b) x7 x8 x9 x10 x11 x12 x13 x19 x20 x39 x41 x42 x58 x61 x82 x83, H19 h key b' (encF (wd key) b) (wd key) tr⟩) := by
    refine evLoop_up 14 (fun j s => ∃ x8 x9 x10 x11 x12 x13 x19 x20 x39 x41 x42 x58 x61 x82 x83 tr, s = ⟨E19 h.length (arr 32 key) (arr 16 b) (nat j) x8 x9 x10 x11 x12 x13 x19 x20 x39 x41 x42 x58 x61 x82 x83, H19 h key (pre (wd key) b j) (fun _ => 0#8) (wd key) tr⟩) ?_ ?_
      ⟨_, _, _, _, _, _, _, _, _, _, _, _, _, _, _, _, rfl⟩
    · rintro j s hj ⟨x8, x9, x10, x11, x12, x13, x19, x20, x39, x41, x42, x58, x61, x82, x83, tr, rfl⟩
      have h14 : ¬ j = 14 := by omega
      have e1 : mBin .add (nat j) (nat 1) = some (nat (j + 1)) := nat_add (by omega)
      obtain ⟨r1, hr1, y8, y19, y20, rfl⟩ := add19 h tr key (fun _ => 0#8) (wd key) (arr 32 key) (arr 16 b) j (by omega) (pre (wd key) b j) x8 x9 x10 x11 x12 x13 x20 x39 x41 x42 x58 x61 x82 x83
      obtain ⟨r2, hr2, y10, y41, y42, rfl⟩ := sub19 h tr key (fun _ => 0#8) (wd key) (arr 32 key) (arr 16 b) (addK (wd key) j (pre (wd key) b j)) (nat j) y8 x10 x11 x12 x13 y19 y20 (.bool false) x42 x58 x61 x82 x83
      simp only [E19, H19, P19] at hr1 hr2
      by_cases h13 : j = 13
      · subst h13
        refine ex_of (by conv => lhs; simp [E19, H19, Env.get, Env.put, e1, hr1, hr2]) ?_
        exact ⟨rfl, _, _, _, _, _, _, _, _, _, _, _, _, _, _, _, _, rfl⟩
      · obtain ⟨r3, hr3, y11, y12, y13, y61, y82, y83, rfl⟩ := mixes19 h tr key (fun _ => 0#8) (wd key) (arr 32 key) (arr 16 b) (subSh (addK (wd key) j (pre (wd key) b j))) (addK (wd key) j (pre (wd key) b j)) (nat j) y8 y10 x12 x13 y19 y20 (.bool false) y41 y42 (.bool false) x61 x82 x83
        simp only [E19, H19, P19] at hr3
        refine ex_of (by conv => lhs; simp [E19, H19, Env.get, Env.put, e1, hr1, hr2, hr3, h14, h13]) ?_
        have ep : pre (wd key) b (j + 1) = mixC (subSh (addK (wd key) j (pre (wd key) b j))) := by simp [pre, h13]
        refine ⟨rfl, _, _, _, _, _, _, _, _, _, _, _, _, _, _, _, tr ++ [⟨arr 16 (subSh (addK (wd key) j (pre (wd key) b j))), 0, .own⟩], by rw [ep]; rfl⟩
    · rintro s ⟨x8, x9, x10, x11, x12, x13, x19, x20, x39, x41, x42, x58, x61, x82, x83, tr, rfl⟩
      obtain ⟨r1, hr1, y8, y19, y20, rfl⟩ := add19 h tr key (fun _ => 0#8) (wd key) (arr 32 key) (arr 16 b) 14 (by omega) (pre (wd key) b 14) x8 x9 x10 x11 x12 x13 x20 x39 x41 x42 x58 x61 x82 x83
      simp only [E19, H19] at hr1
      refine ex_of (by conv => lhs; simp [E19, H19, Env.get, Env.put, hr1]) ?_
      exact ⟨by simp, _, _, _, _, _, _, _, _, _, _, _, _, _, _, _, _, _, _, rfl⟩
  obtain ⟨r, hr, x7, x8, x9, x10, x11, x12, x13, x19, x20, x39, x41, x42, x58, x61, x82, x83, b', tr, rfl⟩ := L
  refine ⟨⟨arr 32 key, 0, .own⟩ :: ⟨arr 16 b', 0, .own⟩ :: ⟨arr 16 (encF (wd key) b), 0, .own⟩ :: ⟨arr 256 sbF, 0, .own⟩ :: ⟨mat 60 4 (wd key), 0, .own⟩ :: tr, ?_⟩
  simp only [E19, H19] at hr
  simp [E19, H19, Env.get, Env.put, hr, oneOrTuple, callA4_41]

end Go.Vab

/-
  The standard's block: one computation.
-/
namespace Go.Vab
open Go

def wK : List (List Nat) := [[0, 1, 2, 3],
  [4, 5, 6, 7],
  [8, 9, 10, 11],
  [12, 13, 14, 15],
  [16, 17, 18, 19],
  [20, 21, 22, 23],
  [24, 25, 26, 27],
  [28, 29, 30, 31],
  [165, 115, 194, 159],
  [161, 118, 196, 152],
  [169, 127, 206, 147],
  [165, 114, 192, 156],
  [22, 81, 168, 205],
  [2, 68, 190, 218],
  [26, 93, 164, 193],
  [6, 64, 186, 222],
  [174, 135, 223, 240],
  [15, 241, 27, 104],
  [166, 142, 213, 251],
  [3, 252, 21, 103],
  [109, 225, 241, 72],
  [111, 165, 79, 146],
  [117, 248, 235, 83],
  [115, 184, 81, 141],
  [198, 86, 130, 127],
  [201, 167, 153, 23],
  [111, 41, 76, 236],
  [108, 213, 89, 139],
  [61, 226, 58, 117],
  [82, 71, 117, 231],
  [39, 191, 158, 180],
  [84, 7, 207, 57],
  [11, 220, 144, 95],
  [194, 123, 9, 72],
  [173, 82, 69, 164],
  [193, 135, 28, 47],
  [69, 245, 166, 96],
  [23, 178, 211, 135],
  [48, 13, 77, 51],
  [100, 10, 130, 10],
  [124, 207, 247, 28],
  [190, 180, 254, 84],
  [19, 230, 187, 240],
  [210, 97, 167, 223],
  [240, 26, 250, 254],
  [231, 168, 41, 121],
  [215, 165, 100, 74],
  [179, 175, 230, 64],
  [37, 65, 254, 113],
  [155, 245, 0, 37],
  [136, 19, 187, 213],
  [90, 114, 28, 10],
  [78, 90, 102, 153],
  [169, 242, 79, 224],
  [126, 87, 43, 170],
  [205, 248, 205, 234],
  [36, 252, 121, 204],
  [191, 9, 121, 233],
  [55, 26, 194, 60],
  [109, 104, 222, 54]]
def sK : List (List Nat) := [[0, 17, 34, 51, 68, 85, 102, 119, 136, 153, 170, 187, 204, 221, 238, 255],
  [95, 114, 100, 21, 87, 245, 188, 146, 247, 190, 59, 41, 29, 185, 249, 26],
  [189, 42, 57, 93, 43, 106, 196, 56, 209, 146, 68, 62, 97, 93, 161, 149],
  [129, 13, 206, 12, 201, 219, 129, 114, 179, 103, 140, 30, 136, 161, 181, 189],
  [178, 130, 45, 129, 171, 230, 251, 39, 95, 175, 16, 58, 7, 140, 0, 51],
  [174, 182, 91, 169, 116, 224, 248, 34, 215, 63, 86, 123, 219, 100, 200, 119],
  [185, 81, 195, 60, 2, 233, 189, 41, 174, 37, 205, 177, 239, 160, 140, 199],
  [235, 177, 158, 28, 62, 231, 201, 232, 125, 117, 53, 233, 237, 107, 145, 68],
  [81, 116, 200, 102, 157, 169, 132, 53, 168, 179, 230, 44, 169, 116, 165, 234],
  [15, 119, 238, 49, 210, 204, 173, 192, 84, 48, 168, 63, 78, 249, 106, 195],
  [189, 134, 240, 234, 116, 143, 196, 244, 99, 15, 17, 193, 233, 51, 18, 51],
  [175, 134, 144, 65, 93, 110, 29, 211, 135, 229, 251, 237, 213, 200, 144, 19],
  [116, 39, 250, 228, 216, 166, 149, 38, 156, 232, 61, 49, 91, 224, 57, 43],
  [44, 33, 168, 32, 48, 111, 21, 74, 183, 18, 199, 94, 238, 13, 160, 79],
  [170, 94, 206, 6, 238, 110, 60, 86, 221, 230, 139, 172, 38, 33, 190, 191]]

def at2 (l : List (List Nat)) (i p : Nat) : BitVec 8 := BitVec.ofNat 8 ((l.getD i []).getD p 0)
def keyK (i : Nat) : BitVec 8 := BitVec.ofNat 8 i
def blkK (i : Nat) : BitVec 8 := BitVec.ofNat 8 (17 * i)
def all2 (m n : Nat) (f : Nat → Nat → Bool) : Bool := (List.range m).all fun i => (List.range n).all fun p => f i p
theorem all2_spec {m n : Nat} {f : Nat → Nat → Bool} (h : all2 m n f = true) {i p : Nat} (hi : i < m) (hp : p < n) : f i p = true := by
  simp only [all2, List.all_eq_true, List.mem_range] at h
  exact h i hi p hp

theorem wd_of {key : Nat → BitVec 8} {W : Nat → Nat → BitVec 8} (h0 : ∀ i, i < 8 → ∀ p, p < 4 → W i p = key (4 * i + p))
    (hs : ∀ i, 8 ≤ i → i < 60 → ∀ p, p < 4 → W i p = W (i - 8) p ^^^ (if i % 8 = 0 then subB (W (i - 1) ((p + 1) % 4)) ^^^ (if p = 0 then rcon (i / 8 - 1) else 0#8) else if i % 8 = 4 then subB (W (i - 1) p) else W (i - 1) p)) :
    ∀ i, i < 60 → ∀ p, p < 4 → wd key i p = W i p := by
  intro i
  induction i using Nat.strongRecOn with
  | _ i ih =>
    intro hi p hp
    by_cases h8 : i < 8
    · rw [wd_lt h8, h0 i h8 p hp]
    · rw [wd_ge (by omega), hs i (by omega) hi p hp, ih (i - 8) (by omega) (by omega) p hp, ih (i - 1) (by omega) (by omega) p hp, ih (i - 1) (by omega) (by omega) _ (Nat.mod_lt _ (by decide))]

theorem mixC_congr {c d : Nat → BitVec 8} (h : ∀ i, i < 16 → c i = d i) : ∀ i, i < 16 → mixC c i = mixC d i := by
  intro i hi
  unfold mixC
  rw [h i hi, h (4 * (i / 4)) (by omega), h (4 * (i / 4) + 1) (by omega), h (4 * (i / 4) + 2) (by omega), h (4 * (i / 4) + 3) (by omega), h (4 * (i / 4) + (i % 4 + 1) % 4) (by omega)]
theorem subSh_congr {c d : Nat → BitVec 8} (h : ∀ i, i < 16 → c i = d i) : ∀ i, i < 16 → subSh c i = subSh d i := by
  intro i _
  unfold subSh
  rw [h _ (Nat.mod_lt _ (by decide))]
theorem addK_congr {w v : Nat → Nat → BitVec 8} {c d : Nat → BitVec 8} {j : Nat} (hj : j < 15) (hw : ∀ i, i < 60 → ∀ p, p < 4 → w i p = v i p) (h : ∀ i, i < 16 → c i = d i) : ∀ i, i < 16 → addK w j c i = addK v j d i := by
  intro i hi
  unfold addK
  rw [h i hi, hw _ (by omega) _ (Nat.mod_lt _ (by decide))]
theorem pre_congr {w v : Nat → Nat → BitVec 8} {b d : Nat → BitVec 8} (hw : ∀ i, i < 60 → ∀ p, p < 4 → w i p = v i p) (h : ∀ i, i < 16 → b i = d i) : ∀ j, j ≤ 14 → ∀ i, i < 16 → pre w b j i = pre v d j i
  | 0, _ => h
  | j + 1, hj => by
    intro i hi
    have := subSh_congr (addK_congr (j := j) (by omega) hw (pre_congr hw h j (by omega)))
    simp only [pre]
    split
    · exact this i hi
    · exact mixC_congr this i hi
theorem encF_congr {w v : Nat → Nat → BitVec 8} {b d : Nat → BitVec 8} (hw : ∀ i, i < 60 → ∀ p, p < 4 → w i p = v i p) (h : ∀ i, i < 16 → b i = d i) : ∀ i, i < 16 → encF w b i = encF v d i :=
  addK_congr (by decide) hw (pre_congr hw h 14 (by decide))
theorem pre_of {w : Nat → Nat → BitVec 8} {b : Nat → BitVec 8} {S : Nat → Nat → BitVec 8} (h0 : ∀ i, i < 16 → S 0 i = b i)
    (hs : ∀ j, j < 14 → ∀ i, i < 16 → S (j + 1) i = if j = 13 then subSh (addK w j (S j)) i else mixC (subSh (addK w j (S j))) i) : ∀ j, j ≤ 14 → ∀ i, i < 16 → pre w b j i = S j i
  | 0, _ => fun i hi => (h0 i hi).symm
  | j + 1, hj => by
    intro i hi
    have := subSh_congr (addK_congr (w := w) (v := w) (j := j) (by omega) (fun _ _ _ _ => rfl) (pre_of h0 hs j (by omega)))
    rw [hs j (by omega) i hi]
    simp only [pre]
    split
    · exact this i hi
    · exact mixC_congr this i hi

theorem wK_0 : all2 8 4 (fun i p => bq (at2 wK i p) (keyK (4 * i + p))) = true := by kernel_rfl
theorem wK_s : all2 60 4 (fun i p => decide (i < 8) || bq (at2 wK i p) (at2 wK (i - 8) p ^^^ (if i % 8 = 0 then subB (at2 wK (i - 1) ((p + 1) % 4)) ^^^ (if p = 0 then rcon (i / 8 - 1) else 0#8) else if i % 8 = 4 then subB (at2 wK (i - 1) p) else at2 wK (i - 1) p))) = true := by kernel_rfl
theorem sK_0 : all2 1 16 (fun _ i => bq (at2 sK 0 i) (blkK i)) = true := by kernel_rfl
theorem sK_s : all2 14 16 (fun j i => bq (at2 sK (j + 1) i) (if j = 13 then subSh (addK (at2 wK) j (at2 sK j)) i else mixC (subSh (addK (at2 wK) j (at2 sK j))) i)) = true := by kernel_rfl

theorem wd_known : ∀ i, i < 60 → ∀ p, p < 4 → wd keyK i p = at2 wK i p :=
  wd_of (fun i hi p hp => bq_eq (all2_spec wK_0 hi hp)) fun i h8 hi p hp => by
    have := all2_spec wK_s hi hp
    rw [Bool.or_eq_true] at this
    rcases this with h | h
    · exact absurd (of_decide_eq_true h) (by omega)
    · exact bq_eq h
theorem pre_known : ∀ j, j ≤ 14 → ∀ i, i < 16 → pre (at2 wK) blkK j i = at2 sK j i :=
  pre_of (fun i hi => bq_eq (all2_spec sK_0 (by decide : 0 < 1) hi)) fun j hj i hi => bq_eq (all2_spec sK_s hj hi)

def outK : List Nat := [142, 162, 183, 202, 81, 103, 69, 191, 234, 252, 73, 144, 75, 73, 96, 137]
theorem outK_s : all2 1 16 (fun _ i => bq (addK (at2 wK) 14 (at2 sK 14) i) (BitVec.ofNat 8 (outK.getD i 0))) = true := by kernel_rfl
/-- The standard's block. -/
theorem known : ∀ i, i < 16 → encF (wd keyK) blkK i = BitVec.ofNat 8 (outK.getD i 0) := by
  intro i hi
  rw [encF_congr wd_known (fun _ _ => rfl) i hi]
  unfold encF
  rw [addK_congr (w := at2 wK) (v := at2 wK) (j := 14) (by decide) (fun _ _ _ _ => rfl) (pre_known 14 (by decide)) i hi]
  exact bq_eq (all2_spec outK_s (by decide : 0 < 1) hi)

end Go.Vab

/- How the evaluator reads the functions of a seat. Printed by wip/tools/gen.py (own work). -/
namespace Go.Vab
open Go Go.Proofs
noncomputable section
variable (call : Calling) (env : Env) (h : Heap) (s : St)
/-! vestry/vestrylaw08.known -/
def cx18 (call : Calling) : Ctx := ⟨call, TT, 27, [7, 8, 9, 10, 11, 12, 15, 16, 17, 18, 19, 20, 21, 22, 23, 24, 25, 26]⟩
def n18_0 : Code := bodyOf Try.f18
def n18_1 : Code := cR n18_0
def n18_2 : Code := cR n18_1
def n18_3 : Code := cR n18_2
def n18_4 : Code := cL n18_3
def n18_5 : Code := cR n18_4
def n18_6 : Code := cB n18_5
def n18_7 : Code := cB n18_6
def n18_8 : Code := cR n18_7
def n18_9 : Code := cL n18_8
def n18_10 : Code := cL n18_9
def n18_11 : Code := cR n18_9
def n18_12 : Code := cR n18_8
def n18_13 : Code := cL n18_12
def n18_14 : Code := cB n18_13
def n18_15 : Code := cR n18_14
def n18_16 : Code := cR n18_12
def n18_17 : Code := cR n18_3
def n18_18 : Code := cL n18_17
def n18_19 : Code := cR n18_18
def n18_20 : Code := cB n18_19
def n18_21 : Code := cB n18_20
def n18_22 : Code := cR n18_21
def n18_23 : Code := cL n18_22
def n18_24 : Code := cL n18_23
def n18_25 : Code := cR n18_23
def n18_26 : Code := cR n18_22
def n18_27 : Code := cL n18_26
def n18_28 : Code := cB n18_27
def n18_29 : Code := cR n18_28
def n18_30 : Code := cR n18_26
def n18_31 : Code := cR n18_17
def n18_32 : Code := cR n18_31
@[simp] theorem n18_10_eq : evC (cx18 call) n18_10 s = some (.nrm, s) := xK
@[simp] theorem n18_11_eq : evC (cx18 call) n18_11 s = some (.exit 0, s) := xX 0
@[simp] theorem n18_9_eq : evC (cx18 call) n18_9 s = cnd (s.env.get 6) (evC (cx18 call) n18_10 s) (evC (cx18 call) n18_11 s) := xC 6 _ _
@[simp] theorem n18_15_eq : evC (cx18 call) n18_15 ⟨env, h⟩ = (bnd (pureV h (mConv .u8 (env.get 3))) fun r2 => bnd (pureV r2.2 (mIdxA (.arr 32 (.int .u8)) (env.get 1) (env.get 3))) fun r3 => bnd (stU (.int .u8) r3.1 r2.1 r3.2) fun r4 => some (.nrm, ⟨env, r4.2⟩)) := (xR 6 (cOps n18_15)).trans (by
  refine opsK_0 ?_
  refine oT 8 (env.get 3) ?_
  refine oT 9 (env.get 3) ?_
  refine oP 10 fun r2 => ?_
  refine oP 11 fun r3 => ?_
  refine oN fun r4 => ?_
  exact oE)
@[simp] theorem n18_14_eq : evC (cx18 call) n18_14 ⟨env, h⟩ = ( evC (cx18 call) n18_15 ⟨(Env.put env 3 (env.get 5)), h⟩) := (xSR 5 (cOps (cL n18_14)) (cR n18_14)).trans (by
  refine opsK_0 ?_
  refine oT 7 (env.get 5) ?_
  refine oT 3 (env.get 5) ?_
  exact oE)
@[simp] theorem n18_13_eq : evC (cx18 call) n18_13 s = bnd (evC (cx18 call) n18_14 s) fun r => some (inBlk 1 r) := xB 1 _
@[simp] theorem n18_16_eq : evC (cx18 call) n18_16 ⟨env, h⟩ = (bnd (pureV h (mBin .add (env.get 5) (nat 1))) fun r0 => some (.nrm, ⟨(Env.put env 5 r0.1), r0.2⟩)) := (xR 7 (cOps n18_16)).trans (by
  refine opsK_0 ?_
  refine oP 12 fun r0 => ?_
  refine oT 5 r0.1 ?_
  exact oE)
@[simp] theorem n18_12_eq : evC (cx18 call) n18_12 s = bnd (evC (cx18 call) n18_13 s) (sqK (evC (cx18 call) n18_16)) := xS _ _
@[simp] theorem n18_8_eq : evC (cx18 call) n18_8 s = bnd (evC (cx18 call) n18_9 s) (sqK (evC (cx18 call) n18_12)) := xS _ _
@[simp] theorem n18_7_eq : evC (cx18 call) n18_7 ⟨env, h⟩ = (bnd (pureV h (mBin .lss (env.get 5) (nat 32))) fun r0 => evC (cx18 call) n18_8 ⟨(Env.put env 6 r0.1), r0.2⟩) := (xSR 4 (cOps (cL n18_7)) (cR n18_7)).trans (by
  refine opsK_0 ?_
  refine oP 6 fun r0 => ?_
  exact oE)
@[simp] theorem n18_6_eq : evC (cx18 call) n18_6 s = evLoop (evC (cx18 call) n18_7) s := xL _
@[simp] theorem n18_5_eq : evC (cx18 call) n18_5 s = bnd (evC (cx18 call) n18_6 s) fun r => some (inBlk 0 r) := xB 0 _
@[simp] theorem n18_4_eq : evC (cx18 call) n18_4 ⟨env, h⟩ = ( evC (cx18 call) n18_5 ⟨(Env.put env 5 (nat 0)), h⟩) := (xSR 3 (cOps (cL n18_4)) (cR n18_4)).trans (by
  refine opsK_0 ?_
  refine oT 5 (nat 0) ?_
  exact oE)
@[simp] theorem n18_24_eq : evC (cx18 call) n18_24 s = some (.nrm, s) := xK
@[simp] theorem n18_25_eq : evC (cx18 call) n18_25 s = some (.exit 2, s) := xX 2
@[simp] theorem n18_23_eq : evC (cx18 call) n18_23 s = cnd (s.env.get 14) (evC (cx18 call) n18_24 s) (evC (cx18 call) n18_25 s) := xC 14 _ _
@[simp] theorem n18_29_eq : evC (cx18 call) n18_29 ⟨env, h⟩ = (bnd (pureV h (mBin .mul (nat 17) (env.get 4))) fun r2 => bnd (pureV r2.2 (mConv .u8 r2.1)) fun r3 => bnd (pureV r3.2 (mIdxA (.arr 16 (.int .u8)) (env.get 2) (env.get 4))) fun r4 => bnd (stU (.int .u8) r4.1 r3.1 r4.2) fun r5 => some (.nrm, ⟨env, r5.2⟩)) := (xR 11 (cOps n18_29)).trans (by
  refine opsK_0 ?_
  refine oT 16 (env.get 4) ?_
  refine oT 17 (env.get 4) ?_
  refine oP 18 fun r2 => ?_
  refine oP 19 fun r3 => ?_
  refine oP 20 fun r4 => ?_
  refine oN fun r5 => ?_
  exact oE)
@[simp] theorem n18_28_eq : evC (cx18 call) n18_28 ⟨env, h⟩ = ( evC (cx18 call) n18_29 ⟨(Env.put env 4 (env.get 13)), h⟩) := (xSR 10 (cOps (cL n18_28)) (cR n18_28)).trans (by
  refine opsK_0 ?_
  refine oT 15 (env.get 13) ?_
  refine oT 4 (env.get 13) ?_
  exact oE)
@[simp] theorem n18_27_eq : evC (cx18 call) n18_27 s = bnd (evC (cx18 call) n18_28 s) fun r => some (inBlk 3 r) := xB 3 _
@[simp] theorem n18_30_eq : evC (cx18 call) n18_30 ⟨env, h⟩ = (bnd (pureV h (mBin .add (env.get 13) (nat 1))) fun r0 => some (.nrm, ⟨(Env.put env 13 r0.1), r0.2⟩)) := (xR 12 (cOps n18_30)).trans (by
  refine opsK_0 ?_
  refine oP 21 fun r0 => ?_
  refine oT 13 r0.1 ?_
  exact oE)
@[simp] theorem n18_26_eq : evC (cx18 call) n18_26 s = bnd (evC (cx18 call) n18_27 s) (sqK (evC (cx18 call) n18_30)) := xS _ _
@[simp] theorem n18_22_eq : evC (cx18 call) n18_22 s = bnd (evC (cx18 call) n18_23 s) (sqK (evC (cx18 call) n18_26)) := xS _ _
@[simp] theorem n18_21_eq : evC (cx18 call) n18_21 ⟨env, h⟩ = (bnd (pureV h (mBin .lss (env.get 13) (nat 16))) fun r0 => evC (cx18 call) n18_22 ⟨(Env.put env 14 r0.1), r0.2⟩) := (xSR 9 (cOps (cL n18_21)) (cR n18_21)).trans (by
  refine opsK_0 ?_
  refine oP 14 fun r0 => ?_
  exact oE)
@[simp] theorem n18_20_eq : evC (cx18 call) n18_20 s = evLoop (evC (cx18 call) n18_21) s := xL _
@[simp] theorem n18_19_eq : evC (cx18 call) n18_19 s = bnd (evC (cx18 call) n18_20 s) fun r => some (inBlk 2 r) := xB 2 _
@[simp] theorem n18_18_eq : evC (cx18 call) n18_18 ⟨env, h⟩ = ( evC (cx18 call) n18_19 ⟨(Env.put env 13 (nat 0)), h⟩) := (xSR 8 (cOps (cL n18_18)) (cR n18_18)).trans (by
  refine opsK_0 ?_
  refine oT 13 (nat 0) ?_
  exact oE)
@[simp] theorem n18_32_eq : evC (cx18 call) n18_32 s = some (.ret, s) := xE
@[simp] theorem n18_31_eq : evC (cx18 call) n18_31 ⟨env, h⟩ = (bnd (pureV h (mLoad (.arr 32 (.int .u8)) (env.get 1) h)) fun r0 => bnd (pureV r0.2 (mLoad (.arr 16 (.int .u8)) (env.get 2) r0.2)) fun r1 => bnd (call 19 [r0.1, r1.1] r1.2) fun r2 => bnd (pureV r2.2 (fillRow (.arr 16 (.int .u8)) (arr 16 fun _ => 0#8) [(0, (u8 142#8)), (1, (u8 162#8)), (2, (u8 183#8)), (3, (u8 202#8)), (4, (u8 81#8)), (5, (u8 103#8)), (6, (u8 69#8)), (7, (u8 191#8)), (8, (u8 234#8)), (9, (u8 252#8)), (10, (u8 73#8)), (11, (u8 144#8)), (12, (u8 75#8)), (13, (u8 73#8)), (14, (u8 96#8)), (15, (u8 137#8))])) fun r3 => bnd (pureV r3.2 (mEq (.arr 16 (.int .u8)) .eql r2.1 r3.1)) fun r4 => evC (cx18 call) n18_32 ⟨(Env.put env 0 r4.1), r4.2⟩) := (xSR 13 (cOps (cL n18_31)) (cR n18_31)).trans (by
  refine opsK_0 ?_
  refine oP 22 fun r0 => ?_
  refine oP 23 fun r1 => ?_
  refine oP 24 fun r2 => ?_
  refine oP 25 fun r3 => ?_
  refine oP 26 fun r4 => ?_
  refine oT 0 r4.1 ?_
  exact oE)
@[simp] theorem n18_17_eq : evC (cx18 call) n18_17 s = bnd (evC (cx18 call) n18_18 s) (sqK (evC (cx18 call) n18_31)) := xS _ _
@[simp] theorem n18_3_eq : evC (cx18 call) n18_3 s = bnd (evC (cx18 call) n18_4 s) (sqK (evC (cx18 call) n18_17)) := xS _ _
@[simp] theorem n18_2_eq : evC (cx18 call) n18_2 ⟨env, h⟩ = (bnd (mNew (.arr 16 (.int .u8)) (arr 16 fun _ => 0#8) h) fun r0 => evC (cx18 call) n18_3 ⟨(Env.put env 2 r0.1), r0.2⟩) := (xSR 2 (cOps (cL n18_2)) (cR n18_2)).trans (by
  refine opsK_0 ?_
  refine oP 2 fun r0 => ?_
  exact oE)
@[simp] theorem n18_1_eq : evC (cx18 call) n18_1 ⟨env, h⟩ = (bnd (mNew (.arr 32 (.int .u8)) (arr 32 fun _ => 0#8) h) fun r0 => evC (cx18 call) n18_2 ⟨(Env.put env 1 r0.1), r0.2⟩) := (xSR 1 (cOps (cL n18_1)) (cR n18_1)).trans (by
  refine opsK_0 ?_
  refine oP 1 fun r0 => ?_
  exact oE)
@[simp] theorem n18_0_eq : evC (cx18 call) n18_0 ⟨env, h⟩ = ( evC (cx18 call) n18_1 ⟨(Env.put env 0 (.bool false)), h⟩) := (xSR 0 (cOps (cL n18_0)) (cR n18_0)).trans (by
  refine opsK_0 ?_
  refine oT 0 (.bool false) ?_
  exact oE)
theorem b18 (call : Calling) (h : Heap) : evBody (cx18 call) Try.f18 n18_0 [] h = bnd (evC (cx18 call) n18_0 ⟨[(0, .junk), (1, .junk), (2, .junk), (3, .junk), (4, .junk), (5, .junk), (6, .junk), (13, .junk), (14, .junk)], h⟩) (retK fun s => bnd (bnd (some (s.env.get 0)) fun v => bnd (some []) fun vs => some (v :: vs)) fun vs => some (oneOrTuple vs)) := by kernel_rfl
theorem fn18 : Try.prog.funcs[18]? = some Try.f18 := by kernel_rfl
theorem k18 : Callable Try.prog 18 := ⟨Try.f18, fn18, by kernel_rfl, by kernel_rfl⟩
theorem s18 {call : Calling} (hc : CallOK Try.prog call) {args : List AV} {h h' : Heap} {v : AV} (he : evBody (cx18 call) Try.f18 n18_0 args h = some (v, h')) : Spec Try.prog 18 args h v h' := body_sound (C := cx18 call) TT_ok hc mixed_ok fn18 (by kernel_rfl) (by kernel_rfl) he
def sn18 := Y n18_10_eq (Y n18_11_eq (Y n18_9_eq (Y n18_15_eq (Y n18_14_eq (Y n18_13_eq (Y n18_16_eq (Y n18_12_eq (Y n18_8_eq (Y n18_7_eq (Y n18_6_eq (Y n18_5_eq (Y n18_4_eq (Y n18_24_eq (Y n18_25_eq (Y n18_23_eq (Y n18_29_eq (Y n18_28_eq (Y n18_27_eq (Y n18_30_eq (Y n18_26_eq (Y n18_22_eq (Y n18_21_eq (Y n18_20_eq (Y n18_19_eq (Y n18_18_eq (Y n18_32_eq (Y n18_31_eq (Y n18_17_eq (Y n18_3_eq (Y n18_2_eq (Y n18_1_eq (n18_0_eq))))))))))))))))))))))))))))))))
end
end Go.Vab
