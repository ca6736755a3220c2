/-
  Open, walked.
-/
import Derived.Test.YtfolmjdaemoojaaV6
import Derived.Test.YtfolmjdaemoojaaV3
import Derived.KernelRfl
import Derived.Test.YtfolmjdaemoojaaV4
set_option linter.all false
set_option linter.unusedSectionVars false
namespace Go.Vab
open Go Go.Proofs

def bigO (na m : Nat) : Prop := 65536 < na ∨ 65552 < m
instance (na m : Nat) : Decidable (bigO na m) := inferInstanceAs (Decidable (_ ∨ _))
/-- The tag of what was sealed; what is opened; whether the tag is right. -/
def tailF (m : Nat) (s : Nat → BitVec 8) : Nat → BitVec 8 := fun j => s (m - 16 + j)
def openF (key nonce : Nat → BitVec 8) (m : Nat) (s : Nat → BitVec 8) : Nat → BitVec 8 := turnF (keyE key nonce) (tailF m s) (m - 16) s
def openG (key nonce : Nat → BitVec 8) (na : Nat) (a : Nat → BitVec 8) (m : Nat) (s : Nat → BitVec 8) : Bool := arrEq 16 (tagS key nonce na a (m - 16) (openF key nonce m s)) (tailF m s)
def openC (na m : Nat) (g : Bool) : Nat := if bigO na m then 3 else if m < 16 then 4 else if g = true then 0 else 90

theorem arrEq_congr {n : Nat} {g g' f f' : Nat → BitVec 8} (h : ∀ i, i < n → g i = g' i) (h' : ∀ i, i < n → f i = f' i) : arrEq n g f = arrEq n g' f' := by
  have : arrEq n g f = true ↔ arrEq n g' f' = true := by
    rw [arrEq_iff, arrEq_iff]
    exact ⟨fun q i hi => by rw [← h i hi, ← h' i hi]; exact q i hi, fun q i hi => by rw [h i hi, h' i hi]; exact q i hi⟩
  cases h1 : arrEq n g f <;> cases h2 : arrEq n g' f' <;> simp_all
section
variable {k k' n n' : Nat → BitVec 8} {na : Nat} {a a' : Nat → BitVec 8} {m : Nat} {s s' : Nat → BitVec 8} (hk : ∀ i, i < 32 → k i = k' i) (hn : ∀ i, i < 12 → n i = n' i)
  (ha : ∀ i, i < na → a i = a' i) (hs : ∀ i, i < m → s i = s' i) (hm : 16 ≤ m)
include hk hn hs hm
theorem openF_congr : ∀ j, openF k n m s j = openF k' n' m s' j :=
  turnF_congr (keyE_congr hk hn) (fun i hi => hs _ (by omega)) fun i hi => hs i (by omega)
include ha in
theorem openG_congr : openG k n na a m s = openG k' n' na a' m s' :=
  arrEq_congr (tagS_congr hk hn ha fun i _ => openF_congr hk hn hs hm i) fun i hi => hs _ (by omega)
end

theorem walk29b (h : Heap) (key nonce : Nat → BitVec 8) (xa xs : AV) (na m : Nat) (a s : Nat → BitVec 8) (ha : Byt h xa na a) (hs : Byt h xs m s) (hb : bigO na m) :
    ∃ tr, evBody (cx29 callS18) Try.f29 n29_0 [arr 32 key, arr 12 nonce, xa, xs] h = some (.tuple [.nilslice, nat 3], h ++ tr) := by
  have la := ha.len
  have lt := hs.len
  rw [b29]
  have main : Evs (evC (cx29 callS18) n29_0 ⟨[(0, arr 32 key), (1, arr 12 nonce), (2, xa), (3, xs), (4, .junk), (5, .junk), (6, .junk), (7, .junk), (8, .junk), (9, .junk), (10, .junk), (11, .junk), (12, .junk), (13, .junk), (14, .junk), (22, .junk), (27, .junk), (52, .junk)], h⟩) (fun r => ∃ env tr, r = (.ret, ⟨env, h ++ tr⟩) ∧ env.get 8 = .nilslice ∧ env.get 9 = nat 3) := by
    obtain ⟨env, he⟩ : ∃ env : Env, env = [(0, arr 32 key), (1, arr 12 nonce), (2, xa), (3, xs), (4, .junk), (5, .junk), (6, .junk), (7, .junk), (8, .junk), (9, .junk), (10, .junk), (11, .junk), (12, .junk), (13, .junk), (14, .junk), (22, .junk), (27, .junk), (52, .junk)] := ⟨_, rfl⟩
    rw [← he]
    have g0 : env.get 0 = arr 32 key := by rw [he]; rfl
    have g1 : env.get 1 = arr 12 nonce := by rw [he]; rfl
    have g2 : env.get 2 = xa := by rw [he]; rfl
    have g3 : env.get 3 = xs := by rw [he]; rfl
    clear he
    by_cases h1 : 65536 < na
    · repeat (first
        | (with_reducible refine Evs.assoc ?_)
        | ((with_reducible refine Evs.some_bnd ?_); try dsimp only [sqK_nrm, sqK_exit, sqK_ret])
        | ((with_reducible apply Evs.bcndT); (focus (simp (disch := omega) [g0, g1, g2, g3, la, lt, h1] <;> omega)))
        | ((with_reducible apply Evs.bcndF); (focus (simp (disch := omega) [g0, g1, g2, g3, la, lt, h1] <;> omega)))
        | ((with_reducible apply Evs.step); (focus ((conv => lhs; simp (disch := omega) [g0, g1, g2, g3, la, lt, h1]); done)); try dsimp only)
        | (simp only [sn29, sqK_nrm, sqK_exit, sqK_ret, inBlk_nrm, inBlk_ret, inBlk_same]))
      exact Evs.ret ⟨_, _, rfl, by simp, by simp⟩
    · have h2 : 65552 < m := hb.resolve_left h1
      repeat (first
        | (with_reducible refine Evs.assoc ?_)
        | ((with_reducible refine Evs.some_bnd ?_); try dsimp only [sqK_nrm, sqK_exit, sqK_ret])
        | ((with_reducible apply Evs.bcndT); (focus (simp (disch := omega) [g0, g1, g2, g3, la, lt, h1, h2] <;> omega)))
        | ((with_reducible apply Evs.bcndF); (focus (simp (disch := omega) [g0, g1, g2, g3, la, lt, h1, h2] <;> omega)))
        | ((with_reducible apply Evs.step); (focus ((conv => lhs; simp (disch := omega) [g0, g1, g2, g3, la, lt, h1, h2]); done)); try dsimp only)
        | (simp only [sn29, sqK_nrm, sqK_exit, sqK_ret, inBlk_nrm, inBlk_ret, inBlk_same]))
      exact Evs.ret ⟨_, _, rfl, by simp, by simp⟩
  obtain ⟨r, hr, env, tr, rfl, e0, e1⟩ := main
  refine ⟨tr, ?_⟩
  rw [hr]
  simp [e0, e1, oneOrTuple]

theorem walk29s (h : Heap) (key nonce : Nat → BitVec 8) (xa xs : AV) (na m : Nat) (a s : Nat → BitVec 8) (ha : Byt h xa na a) (hs : Byt h xs m s) (hb : ¬ bigO na m) (hm : m < 16) :
    ∃ tr, evBody (cx29 callS18) Try.f29 n29_0 [arr 32 key, arr 12 nonce, xa, xs] h = some (.tuple [.nilslice, nat 4], h ++ tr) := by
  have la := ha.len
  have lt := hs.len
  have h1 : ¬ 65536 < na := fun q => hb (.inl q)
  have h2 : ¬ 65552 < m := fun q => hb (.inr q)
  have c1 : mBin .sub (nat m) (nat 16) = some (.int .i64 ((m : Int) - 16)) := by
    simp only [mBin, mBinI, nat, if_true]
    rw [wrapi (by omega)]
    rfl
  have c2 : mBin .lss (.int .i64 ((m : Int) - 16)) (nat 0) = some (.bool true) := by
    simp only [mBin, mBinI, nat, if_true]
    rw [decide_eq_true (by omega)]
  rw [b29]
  have main : Evs (evC (cx29 callS18) n29_0 ⟨[(0, arr 32 key), (1, arr 12 nonce), (2, xa), (3, xs), (4, .junk), (5, .junk), (6, .junk), (7, .junk), (8, .junk), (9, .junk), (10, .junk), (11, .junk), (12, .junk), (13, .junk), (14, .junk), (22, .junk), (27, .junk), (52, .junk)], h⟩) (fun r => ∃ env tr, r = (.ret, ⟨env, h ++ tr⟩) ∧ env.get 8 = .nilslice ∧ env.get 9 = nat 4) := by
    obtain ⟨env, he⟩ : ∃ env : Env, env = [(0, arr 32 key), (1, arr 12 nonce), (2, xa), (3, xs), (4, .junk), (5, .junk), (6, .junk), (7, .junk), (8, .junk), (9, .junk), (10, .junk), (11, .junk), (12, .junk), (13, .junk), (14, .junk), (22, .junk), (27, .junk), (52, .junk)] := ⟨_, rfl⟩
    rw [← he]
    have g0 : env.get 0 = arr 32 key := by rw [he]; rfl
    have g1 : env.get 1 = arr 12 nonce := by rw [he]; rfl
    have g2 : env.get 2 = xa := by rw [he]; rfl
    have g3 : env.get 3 = xs := by rw [he]; rfl
    clear he
    repeat (first
      | (with_reducible refine Evs.assoc ?_)
      | ((with_reducible refine Evs.some_bnd ?_); try dsimp only [sqK_nrm, sqK_exit, sqK_ret])
      | ((with_reducible apply Evs.bcndT); (focus (simp (disch := omega) [g0, g1, g2, g3, la, lt, h1, h2, c1, c2] <;> omega)))
      | ((with_reducible apply Evs.bcndF); (focus (simp (disch := omega) [g0, g1, g2, g3, la, lt, h1, h2, c1, c2] <;> omega)))
      | ((with_reducible apply Evs.step); (focus ((conv => lhs; simp (disch := omega) [g0, g1, g2, g3, la, lt, h1, h2, c1, c2]); done)); try dsimp only)
      | (simp only [sn29, sqK_nrm, sqK_exit, sqK_ret, inBlk_nrm, inBlk_ret, inBlk_same]))
    exact Evs.ret ⟨_, _, rfl, by simp, by simp⟩
  obtain ⟨r, hr, env, tr, rfl, e0, e1⟩ := main
  refine ⟨tr, ?_⟩
  rw [hr]
  simp [e0, e1, oneOrTuple]

theorem walk29 (h : Heap) (key nonce : Nat → BitVec 8) (xa xs : AV) (na m : Nat) (a s : Nat → BitVec 8) (ha : Byt h xa na a) (hs : Byt h xs m s) (hb : ¬ bigO na m) (hm : 16 ≤ m) :
    ∃ tr j, evBody (cx29 callS18) Try.f29 n29_0 [arr 32 key, arr 12 nonce, xa, xs] h = some (if openG key nonce na a m s = true then .tuple [.slice (h.length + j) 0 [] (.int .u8) 0 (m - 16) (some (m)), nat 0] else .tuple [.nilslice, nat 90], h ++ tr) ∧ tr[j]? = some ⟨arr (m) (openF key nonce m s), 0, .own⟩ := by
  have la := ha.len
  have lt := hs.len
  have h1 : ¬ 65536 < na := fun q => hb (.inl q)
  have h2 : ¬ 65552 < m := fun q => hb (.inr q)
  obtain ⟨y, y1, y2⟩ := hs.from (l := m - 16) (by omega)
  rw [show m - (m - 16) = 16 by omega] at y2
  obtain ⟨p, p1, p2⟩ := y2.arr16
  obtain ⟨z, z1, z2⟩ := hs.upto (l := m - 16) (by omega)
  have k46 : ∀ (k T : Nat → BitVec 8) (l : Heap), callS17 46 [arr 32 k, arr 16 T, z] (h ++ l) = some (.slice (h ++ l).length 0 [] (.int .u8) 0 (m - 16) (some (m)), h ++ l ++ [⟨arr (m) (turnF k T (m - 16) s), 0, .own⟩]) := fun k T l => by
    have := callS17_46 k T z (m - 16) s (h ++ l) ⟨z2.app l, by omega⟩
    rwa [show m - 16 + 16 = m by omega] at this
  have k45 : ∀ (b k : Nat → BitVec 8) (l : Heap) (i : Nat) (f : Nat → BitVec 8), l[i]? = some ⟨arr (m) f, 0, .own⟩ → still callS14 45 [arr 16 b, arr 32 k, arr 12 nonce, xa, .slice (h.length + i) 0 [] (.int .u8) 0 (m - 16) (some (m))] (h ++ l) = some (arr 16 (tagF b k nonce na a (m - 16) f), h ++ l) := fun b k l i f hi =>
    callS14_45s b k nonce xa _ na (m - 16) a f (h ++ l) ⟨ha.app l, (Byt.own (b := ⟨arr (m) f, 0, .own⟩) (by rw [blkAt_new]; unfold blkAt; rw [hi]; rfl) rfl (by omega) (by omega)).congr fun i _ => by rw [Nat.zero_add], by omega, by omega⟩
  rw [b29]
  have main : Evs (evC (cx29 callS18) n29_0 ⟨[(0, arr 32 key), (1, arr 12 nonce), (2, xa), (3, xs), (4, .junk), (5, .junk), (6, .junk), (7, .junk), (8, .junk), (9, .junk), (10, .junk), (11, .junk), (12, .junk), (13, .junk), (14, .junk), (22, .junk), (27, .junk), (52, .junk)], h⟩) (fun r => ∃ env tr j, r = (.ret, ⟨env, h ++ tr⟩) ∧ (if openG key nonce na a m s = true then env.get 8 = .slice (h.length + j) 0 [] (.int .u8) 0 (m - 16) (some (m)) ∧ env.get 9 = nat 0 else env.get 8 = .nilslice ∧ env.get 9 = nat 90) ∧ tr[j]? = some ⟨arr (m) (openF key nonce m s), 0, .own⟩) := by
    obtain ⟨env, he⟩ : ∃ env : Env, env = [(0, arr 32 key), (1, arr 12 nonce), (2, xa), (3, xs), (4, .junk), (5, .junk), (6, .junk), (7, .junk), (8, .junk), (9, .junk), (10, .junk), (11, .junk), (12, .junk), (13, .junk), (14, .junk), (22, .junk), (27, .junk), (52, .junk)] := ⟨_, rfl⟩
    rw [← he]
    have g0 : env.get 0 = arr 32 key := by rw [he]; rfl
    have g1 : env.get 1 = arr 12 nonce := by rw [he]; rfl
    have g2 : env.get 2 = xa := by rw [he]; rfl
    have g3 : env.get 3 = xs := by rw [he]; rfl
    clear he
    repeat (first
      | (with_reducible refine Evs.assoc ?_)
      | ((with_reducible refine Evs.some_bnd ?_); try dsimp only [sqK_nrm, sqK_exit, sqK_ret])
      | ((with_reducible apply Evs.bcndT); (focus (simp (disch := omega) [g0, g1, g2, g3, la, lt, h1, h2, y1, p1, p2, z1, k46] <;> omega)))
      | ((with_reducible apply Evs.bcndF); (focus (simp (disch := omega) [g0, g1, g2, g3, la, lt, h1, h2, y1, p1, p2, z1, k46] <;> omega)))
      | ((with_reducible apply Evs.step); (focus ((conv => lhs; simp (disch := omega) [g0, g1, g2, g3, la, lt, h1, h2, y1, p1, p2, z1, k46]); done)); try dsimp only)
      | (simp only [sn29, sqK_nrm, sqK_exit, sqK_ret, inBlk_nrm, inBlk_ret, inBlk_same]))
    with_reducible apply Evs.step
    · conv => lhs; simp (disch := omega) [g2, g3]
      exact k45 _ _ _ 5 _ rfl
    by_cases hg : openG key nonce na a m s = true
    · have hg' : arrEq 16 (tagF (keyA key nonce) (keyE key nonce) nonce na a (m - 16) (turnF (keyE key nonce) (fun i => s (m - 16 + i)) (m - 16) s)) (fun i => s (m - 16 + i)) = true := hg
      repeat (first
        | (with_reducible refine Evs.assoc ?_)
        | ((with_reducible refine Evs.some_bnd ?_); try dsimp only [sqK_nrm, sqK_exit, sqK_ret])
        | ((with_reducible apply Evs.bcndT); (focus (simp (disch := omega) [hg'] <;> omega)))
        | ((with_reducible apply Evs.bcndF); (focus (simp (disch := omega) [hg'] <;> omega)))
        | ((with_reducible apply Evs.step); (focus ((conv => lhs; simp (disch := omega) [hg']); done)); try dsimp only)
        | (simp only [sn29, sqK_nrm, sqK_exit, sqK_ret, inBlk_nrm, inBlk_ret, inBlk_same]))
      exact Evs.ret ⟨_, _, 5, rfl, by rw [if_pos hg]; simp, rfl⟩
    · have hg' : arrEq 16 (tagF (keyA key nonce) (keyE key nonce) nonce na a (m - 16) (turnF (keyE key nonce) (fun i => s (m - 16 + i)) (m - 16) s)) (fun i => s (m - 16 + i)) = false := Bool.eq_false_iff.2 hg
      repeat (first
        | (with_reducible refine Evs.assoc ?_)
        | ((with_reducible refine Evs.some_bnd ?_); try dsimp only [sqK_nrm, sqK_exit, sqK_ret])
        | ((with_reducible apply Evs.bcndT); (focus (simp (disch := omega) [hg'] <;> omega)))
        | ((with_reducible apply Evs.bcndF); (focus (simp (disch := omega) [hg'] <;> omega)))
        | ((with_reducible apply Evs.step); (focus ((conv => lhs; simp (disch := omega) [hg']); done)); try dsimp only)
        | (simp only [sn29, sqK_nrm, sqK_exit, sqK_ret, inBlk_nrm, inBlk_ret, inBlk_same]))
      exact Evs.ret ⟨_, _, 5, rfl, by rw [if_neg hg]; simp, rfl⟩
  obtain ⟨r, hr, env, tr, j, rfl, e0, e2⟩ := main
  refine ⟨tr, j, ?_, e2⟩
  rw [hr]
  split at e0
  · rename_i hg
    simp [e0.1, e0.2, hg, oneOrTuple]
  · rename_i hg
    simp [e0.1, e0.2, hg, oneOrTuple]

noncomputable def c29 := conC (fun x : (Nat → BitVec 8) × (Nat → BitVec 8) × (AV) × (AV) × (Nat) × (Nat) × (Nat → BitVec 8) × (Nat → BitVec 8) => [arr 32 x.1, arr 12 x.2.1, x.2.2.1, x.2.2.2.1]) (fun (x : (Nat → BitVec 8) × (Nat → BitVec 8) × (AV) × (AV) × (Nat) × (Nat) × (Nat → BitVec 8) × (Nat → BitVec 8)) h => Byt h x.2.2.1 x.2.2.2.2.1 x.2.2.2.2.2.2.1 ∧ Byt h x.2.2.2.1 x.2.2.2.2.2.1 x.2.2.2.2.2.2.2) (fun (x : (Nat → BitVec 8) × (Nat → BitVec 8) × (AV) × (AV) × (Nat) × (Nat) × (Nat → BitVec 8) × (Nat → BitVec 8)) h => (ansV (openC x.2.2.2.2.1 x.2.2.2.2.2.1 (openG x.1 x.2.1 x.2.2.2.2.1 x.2.2.2.2.2.2.1 x.2.2.2.2.2.1 x.2.2.2.2.2.2.2)) h.length (x.2.2.2.2.2.1 - 16) x.2.2.2.2.2.1, ansH (openC x.2.2.2.2.1 x.2.2.2.2.2.1 (openG x.1 x.2.1 x.2.2.2.2.1 x.2.2.2.2.2.2.1 x.2.2.2.2.2.1 x.2.2.2.2.2.2.2)) h ⟨arr x.2.2.2.2.2.1 (openF x.1 x.2.1 x.2.2.2.2.2.1 x.2.2.2.2.2.2.2), 0, .own⟩))
noncomputable def callS19 : Calling := addC callS18 29 c29
theorem c29_eq (k : Nat → BitVec 8) (n : Nat → BitVec 8) (xa : AV) (xs : AV) (na : Nat) (m : Nat) (a : Nat → BitVec 8) (s : Nat → BitVec 8) (h : Heap) (hc : Byt h xa na a ∧ Byt h xs m s) : c29 [arr 32 k, arr 12 n, xa, xs] h = some (ansV (openC na m (openG k n na a m s)) h.length (m - 16) m, ansH (openC na m (openG k n na a m s)) h ⟨arr m (openF k n m s), 0, .own⟩) :=
  conC_eqP (enc := fun x : (Nat → BitVec 8) × (Nat → BitVec 8) × (AV) × (AV) × (Nat) × (Nat) × (Nat → BitVec 8) × (Nat → BitVec 8) => [arr 32 x.1, arr 12 x.2.1, x.2.2.1, x.2.2.2.1]) (P := fun (x : (Nat → BitVec 8) × (Nat → BitVec 8) × (AV) × (AV) × (Nat) × (Nat) × (Nat → BitVec 8) × (Nat → BitVec 8)) h => Byt h x.2.2.1 x.2.2.2.2.1 x.2.2.2.2.2.2.1 ∧ Byt h x.2.2.2.1 x.2.2.2.2.2.1 x.2.2.2.2.2.2.2) (a := (k, n, xa, xs, na, m, a, s)) (f := fun (x : (Nat → BitVec 8) × (Nat → BitVec 8) × (AV) × (AV) × (Nat) × (Nat) × (Nat → BitVec 8) × (Nat → BitVec 8)) h => (ansV (openC x.2.2.2.2.1 x.2.2.2.2.2.1 (openG x.1 x.2.1 x.2.2.2.2.1 x.2.2.2.2.2.2.1 x.2.2.2.2.2.1 x.2.2.2.2.2.2.2)) h.length (x.2.2.2.2.2.1 - 16) x.2.2.2.2.2.1, ansH (openC x.2.2.2.2.1 x.2.2.2.2.2.1 (openG x.1 x.2.1 x.2.2.2.2.1 x.2.2.2.2.2.2.1 x.2.2.2.2.2.1 x.2.2.2.2.2.2.2)) h ⟨arr x.2.2.2.2.2.1 (openF x.1 x.2.1 x.2.2.2.2.2.1 x.2.2.2.2.2.2.2), 0, .own⟩)) (fun x y h hp hq e => by
    have e1 := arr_inj.1 (List.cons.inj e).1
    have e2 := arr_inj.1 (List.cons.inj (List.cons.inj e).2).1
    have e4 := (List.cons.inj (List.cons.inj (List.cons.inj e).2).2).1
    have e5 := (List.cons.inj (List.cons.inj (List.cons.inj (List.cons.inj e).2).2).2).1
    rw [e4, e5] at hp
    obtain ⟨d1, d2⟩ := hp.1.det hq.1
    obtain ⟨d3, d4⟩ := hp.2.det hq.2
    rw [← d1, ← d3]
    by_cases hm : 16 ≤ x.2.2.2.2.2.1
    · rw [openG_congr e1 e2 d2 d4 hm, arr_congr fun i _ => openF_congr e1 e2 d4 hm i]
    · have q : ∀ g g' : Bool, openC x.2.2.2.2.1 x.2.2.2.2.2.1 g = openC x.2.2.2.2.1 x.2.2.2.2.2.1 g' := fun g g' => by
        unfold openC
        rw [if_pos (show x.2.2.2.2.2.1 < 16 by omega), if_pos (show x.2.2.2.2.2.1 < 16 by omega)]
      have q0 : ∀ g, openC x.2.2.2.2.1 x.2.2.2.2.2.1 g ≠ 0 := fun g => by
        unfold openC
        rw [if_pos (show x.2.2.2.2.2.1 < 16 by omega)]
        split <;> omega
      rw [q _ (openG y.1 y.2.1 x.2.2.2.2.1 y.2.2.2.2.2.2.1 x.2.2.2.2.2.1 y.2.2.2.2.2.2.2)]
      unfold ansH
      rw [if_neg (q0 _), if_neg (q0 _)]
    ) hc
theorem callS19_ok : CallOK Try.prog callS19 := addC_con callS18_ok k29 fun x h hx => by
  show Spec _ 29 _ h (ansV (openC _ _ _) _ _ _) (ansH (openC _ _ _) _ _)
  by_cases hb : bigO x.2.2.2.2.1 x.2.2.2.2.2.1
  · obtain ⟨tr, hr⟩ := walk29b h x.1 x.2.1 _ _ _ _ _ _ hx.1 hx.2 hb
    have := (s29 callS18_ok hr).drop0 tr rfl
    have e : ∀ g, openC x.2.2.2.2.1 x.2.2.2.2.2.1 g = 3 := fun g => if_pos hb
    rw [e]
    exact this
  by_cases hm : x.2.2.2.2.2.1 < 16
  · obtain ⟨tr, hr⟩ := walk29s h x.1 x.2.1 _ _ _ _ _ _ hx.1 hx.2 hb hm
    have := (s29 callS18_ok hr).drop0 tr rfl
    have e : ∀ g, openC x.2.2.2.2.1 x.2.2.2.2.2.1 g = 4 := fun g => by unfold openC; rw [if_neg hb, if_pos hm]
    rw [e]
    exact this
  obtain ⟨tr, j, hr, hj⟩ := walk29 h x.1 x.2.1 _ _ _ _ _ _ hx.1 hx.2 hb (by omega)
  have e : ∀ g, openC x.2.2.2.2.1 x.2.2.2.2.2.1 g = if g = true then 0 else 90 := fun g => by unfold openC; rw [if_neg hb, if_neg hm]
  rw [e]
  by_cases hg : openG x.1 x.2.1 x.2.2.2.2.1 x.2.2.2.2.2.2.1 x.2.2.2.2.2.1 x.2.2.2.2.2.2.2 = true
  · rw [if_pos hg] at hr ⊢
    exact (s29 callS18_ok hr).pullT tr j _ hj ⟨_, _, rfl⟩
  · rw [if_neg hg] at hr ⊢
    exact (s29 callS18_ok hr).drop0 tr rfl
@[simp] theorem callS19_ne {f : Nat} (args : List AV) (h : Heap) (hf : f ≠ 29) : callS19 f args h = callS18 f args h := addC_ne _ _ _ args h hf
@[simp] theorem callS19_sne {f : Nat} (args : List AV) (h : Heap) (hf : f ≠ 29) : still callS19 f args h = still callS18 f args h := still_ne _ _ _ args h hf
theorem callS19_29 (k : Nat → BitVec 8) (n : Nat → BitVec 8) (xa : AV) (xs : AV) (na : Nat) (m : Nat) (a : Nat → BitVec 8) (s : Nat → BitVec 8) (h : Heap) (hc : Byt h xa na a ∧ Byt h xs m s) : callS19 29 [arr 32 k, arr 12 n, xa, xs] h = some (ansV (openC na m (openG k n na a m s)) h.length (m - 16) m, ansH (openC na m (openG k n na a m s)) h ⟨arr m (openF k n m s), 0, .own⟩) := by
  unfold callS19; rw [addC_same]; exact c29_eq k n xa xs na m a s h hc

end Go.Vab

/-
  The sealing of nothing under a known key: one computation. Printed by wip/tools/sivknown.py (own work).
-/
namespace Go.Vab
open Go Go.Proofs

def sbT : List Nat := [99, 124, 119, 123, 242, 107, 111, 197, 48, 1, 103, 43, 254, 215, 171, 118, 202, 130, 201, 125, 250, 89, 71, 240, 173, 212, 162, 175, 156, 164, 114, 192, 183, 253, 147, 38, 54, 63, 247, 204, 52, 165, 229, 241, 113, 216, 49, 21, 4, 199, 35, 195, 24, 150, 5, 154, 7, 18, 128, 226, 235, 39, 178, 117, 9, 131, 44, 26, 27, 110, 90, 160, 82, 59, 214, 179, 41, 227, 47, 132, 83, 209, 0, 237, 32, 252, 177, 91, 106, 203, 190, 57, 74, 76, 88, 207, 208, 239, 170, 251, 67, 77, 51, 133, 69, 249, 2, 127, 80, 60, 159, 168, 81, 163, 64, 143, 146, 157, 56, 245, 188, 182, 218, 33, 16, 255, 243, 210, 205, 12, 19, 236, 95, 151, 68, 23, 196, 167, 126, 61, 100, 93, 25, 115, 96, 129, 79, 220, 34, 42, 144, 136, 70, 238, 184, 20, 222, 94, 11, 219, 224, 50, 58, 10, 73, 6, 36, 92, 194, 211, 172, 98, 145, 149, 228, 121, 231, 200, 55, 109, 141, 213, 78, 169, 108, 86, 244, 234, 101, 122, 174, 8, 186, 120, 37, 46, 28, 166, 180, 198, 232, 221, 116, 31, 75, 189, 139, 138, 112, 62, 181, 102, 72, 3, 246, 14, 97, 53, 87, 185, 134, 193, 29, 158, 225, 248, 152, 17, 105, 217, 142, 148, 155, 30, 135, 233, 206, 85, 40, 223, 140, 161, 137, 13, 191, 230, 66, 104, 65, 153, 45, 15, 176, 84, 187, 22]
theorem sbT_s : all2 256 1 (fun i _ => bq (subB (BitVec.ofNat 8 i)) (BitVec.ofNat 8 (sbT.getD i 0))) = true := by kernel_rfl
def sbL (x : BitVec 8) : BitVec 8 := BitVec.ofNat 8 (sbT.getD x.toNat 0)
theorem subB_L : subB = sbL := by
  funext x
  have := bq_eq (all2_spec sbT_s x.isLt (by decide : 0 < 1))
  rw [BitVec.ofNat_toNat, BitVec.setWidth_eq] at this
  exact this
def subShL (b : Nat → BitVec 8) (i : Nat) : BitVec 8 := sbL (b ((i + 4 * (i % 4)) % 16))
theorem subSh_L : subSh = subShL := by
  funext b i
  unfold subSh subShL
  rw [subB_L]
def wOk (W : List (List Nat)) (key : Nat → BitVec 8) : Bool := all2 8 4 (fun i p => bq (at2 W i p) (key (4 * i + p))) &&
  all2 60 4 (fun i p => decide (i < 8) || bq (at2 W i p) (at2 W (i - 8) p ^^^ (if i % 8 = 0 then sbL (at2 W (i - 1) ((p + 1) % 4)) ^^^ (if p = 0 then rcon (i / 8 - 1) else 0#8) else if i % 8 = 4 then sbL (at2 W (i - 1) p) else at2 W (i - 1) p)))
theorem wOk_wd {W : List (List Nat)} {key : Nat → BitVec 8} (h : wOk W key = true) : ∀ i, i < 60 → ∀ p, p < 4 → wd key i p = at2 W i p := by
  unfold wOk at h
  rw [Bool.and_eq_true] at h
  refine wd_of (fun i hi p hp => bq_eq (all2_spec h.1 hi hp)) fun i h8 hi p hp => ?_
  have := all2_spec h.2 hi hp
  rw [Bool.or_eq_true] at this
  rw [subB_L]
  rcases this with h | h
  · exact absurd (of_decide_eq_true h) (by omega)
  · exact bq_eq h
def sOk (W S : List (List Nat)) (out : List Nat) (blk : Nat → BitVec 8) : Bool := all2 1 16 (fun _ i => bq (at2 S 0 i) (blk i)) &&
  (all2 14 16 (fun j i => bq (at2 S (j + 1) i) (if j = 13 then subShL (addK (at2 W) j (at2 S j)) i else mixC (subShL (addK (at2 W) j (at2 S j))) i)) &&
  all2 1 16 (fun _ i => bq (addK (at2 W) 14 (at2 S 14) i) (BitVec.ofNat 8 (out.getD i 0))))
theorem sOk_enc {W S : List (List Nat)} {out : List Nat} {key blk : Nat → BitVec 8} (hw : wOk W key = true) (h : sOk W S out blk = true) : ∀ i, i < 16 → encF (wd key) blk i = BitVec.ofNat 8 (out.getD i 0) := by
  unfold sOk at h
  rw [Bool.and_eq_true, Bool.and_eq_true] at h
  obtain ⟨h1, h2, h3⟩ := h
  intro i hi
  rw [encF_congr (wOk_wd hw) (fun _ _ => rfl) i hi]
  unfold encF
  have hp : ∀ j, j ≤ 14 → ∀ i, i < 16 → pre (at2 W) blk j i = at2 S j i :=
    pre_of (fun i hi => bq_eq (all2_spec h1 (by decide : 0 < 1) hi)) fun j hj i hi => by rw [subSh_L]; exact bq_eq (all2_spec h2 hj hi)
  rw [addK_congr (w := at2 W) (v := at2 W) (j := 14) (by decide) (fun _ _ _ _ => rfl) (hp 14 (by decide)) i hi]
  exact bq_eq (all2_spec h3 (by decide : 0 < 1) hi)

def key1 : Nat → BitVec 8 := upd (fun _ => 0#8) 0 1#8
def non1 : Nat → BitVec 8 := upd (fun _ => 0#8) 0 3#8

def w1K : List (List Nat) := [[1, 0, 0, 0],
  [0, 0, 0, 0],
  [0, 0, 0, 0],
  [0, 0, 0, 0],
  [0, 0, 0, 0],
  [0, 0, 0, 0],
  [0, 0, 0, 0],
  [0, 0, 0, 0],
  [99, 99, 99, 99],
  [99, 99, 99, 99],
  [99, 99, 99, 99],
  [99, 99, 99, 99],
  [251, 251, 251, 251],
  [251, 251, 251, 251],
  [251, 251, 251, 251],
  [251, 251, 251, 251],
  [110, 108, 108, 108],
  [13, 15, 15, 15],
  [110, 108, 108, 108],
  [13, 15, 15, 15],
  [44, 141, 141, 141],
  [215, 118, 118, 118],
  [44, 141, 141, 141],
  [215, 118, 118, 118],
  [82, 84, 84, 98],
  [95, 91, 91, 109],
  [49, 55, 55, 1],
  [60, 56, 56, 14],
  [199, 138, 138, 38],
  [16, 252, 252, 80],
  [60, 113, 113, 221],
  [235, 7, 7, 171],
  [159, 145, 54, 139],
  [192, 202, 109, 230],
  [241, 253, 90, 231],
  [205, 197, 98, 233],
  [122, 44, 32, 56],
  [106, 208, 220, 104],
  [86, 161, 173, 181],
  [189, 166, 170, 30],
  [171, 61, 68, 241],
  [107, 247, 41, 23],
  [154, 10, 115, 240],
  [87, 207, 17, 25],
  [33, 166, 162, 236],
  [75, 118, 126, 132],
  [29, 215, 211, 49],
  [160, 113, 121, 47],
  [40, 139, 81, 17],
  [67, 124, 120, 6],
  [217, 118, 11, 246],
  [142, 185, 26, 239],
  [56, 240, 0, 51],
  [115, 134, 126, 183],
  [110, 81, 173, 134],
  [206, 32, 212, 169],
  [223, 195, 130, 154],
  [156, 191, 250, 156],
  [69, 201, 241, 106],
  [203, 112, 235, 133]]
theorem w1K_ok : wOk w1K key1 = true := by kernel_rfl
def s2K : List (List Nat) := [[2, 0, 0, 0, 3, 0, 0, 0, 0, 0, 0, 0, 0, 0, 0, 0],
  [83, 123, 123, 75, 83, 123, 123, 75, 99, 99, 99, 99, 99, 99, 99, 99],
  [162, 66, 55, 27, 159, 165, 53, 81, 105, 198, 140, 177, 84, 33, 142, 251],
  [174, 55, 163, 111, 152, 255, 195, 251, 185, 124, 110, 227, 55, 6, 218, 136],
  [75, 242, 208, 194, 11, 235, 107, 184, 173, 89, 9, 140, 225, 121, 226, 208],
  [22, 164, 117, 66, 206, 67, 100, 161, 216, 88, 60, 102, 56, 252, 123, 216],
  [150, 16, 170, 22, 235, 58, 231, 188, 168, 142, 81, 249, 113, 39, 211, 223],
  [31, 178, 215, 132, 128, 147, 191, 12, 25, 157, 1, 46, 212, 59, 241, 194],
  [137, 32, 123, 179, 241, 27, 100, 88, 94, 108, 146, 114, 244, 88, 81, 152],
  [135, 187, 76, 66, 201, 135, 210, 30, 93, 85, 19, 113, 76, 176, 166, 171],
  [62, 222, 44, 184, 234, 172, 39, 240, 247, 109, 132, 26, 109, 80, 64, 227],
  [90, 205, 180, 117, 102, 78, 125, 54, 223, 202, 202, 233, 4, 195, 78, 52],
  [48, 231, 127, 245, 40, 208, 122, 138, 99, 181, 197, 113, 9, 91, 99, 29],
  [235, 155, 177, 255, 83, 139, 157, 203, 21, 232, 162, 102, 190, 57, 144, 48],
  [102, 215, 118, 238, 183, 86, 27, 75, 33, 212, 200, 16, 81, 127, 17, 225]]
def o2K : List Nat := [185, 20, 244, 116, 43, 233, 225, 215, 100, 29, 57, 122, 154, 15, 250, 100]
theorem s2K_ok : sOk w1K s2K o2K (kblk non1 2) = true := by kernel_rfl
def s3K : List (List Nat) := [[3, 0, 0, 0, 3, 0, 0, 0, 0, 0, 0, 0, 0, 0, 0, 0],
  [75, 119, 119, 95, 83, 123, 123, 75, 99, 99, 99, 99, 99, 99, 99, 99],
  [30, 28, 105, 249, 227, 217, 177, 169, 189, 161, 63, 101, 51, 146, 90, 47],
  [129, 251, 228, 246, 68, 9, 31, 16, 209, 153, 238, 9, 17, 71, 65, 76],
  [223, 145, 1, 236, 214, 151, 51, 243, 87, 157, 59, 88, 80, 115, 182, 145],
  [17, 162, 37, 72, 10, 215, 248, 166, 152, 198, 177, 97, 151, 218, 253, 91],
  [43, 189, 171, 27, 204, 93, 249, 129, 27, 153, 19, 63, 250, 198, 103, 144],
  [251, 57, 168, 142, 237, 243, 124, 35, 223, 124, 59, 30, 217, 116, 19, 156],
  [27, 252, 159, 169, 242, 54, 49, 78, 180, 53, 41, 42, 18, 155, 189, 153],
  [171, 255, 25, 124, 104, 194, 66, 46, 37, 114, 214, 166, 148, 133, 234, 174],
  [250, 51, 135, 127, 86, 187, 46, 192, 39, 175, 99, 10, 141, 9, 82, 99],
  [210, 28, 2, 36, 71, 28, 62, 71, 19, 117, 128, 8, 160, 99, 26, 205],
  [105, 189, 125, 211, 186, 116, 10, 19, 195, 55, 203, 147, 218, 153, 179, 124],
  [43, 234, 163, 183, 65, 207, 200, 170, 181, 29, 28, 137, 66, 167, 114, 191],
  [125, 59, 200, 71, 35, 41, 36, 95, 185, 23, 10, 164, 100, 162, 78, 118]]
def o3K : List Nat := [162, 248, 74, 221, 191, 150, 222, 195, 252, 222, 251, 206, 175, 210, 165, 243]
theorem s3K_ok : sOk w1K s3K o3K (kblk non1 3) = true := by kernel_rfl
def s4K : List (List Nat) := [[4, 0, 0, 0, 3, 0, 0, 0, 0, 0, 0, 0, 0, 0, 0, 0],
  [115, 107, 107, 123, 83, 123, 123, 75, 99, 99, 99, 99, 99, 99, 99, 99],
  [102, 32, 85, 189, 13, 55, 152, 110, 55, 36, 48, 239, 182, 157, 208, 165],
  [239, 179, 77, 3, 174, 110, 194, 77, 68, 149, 243, 107, 67, 66, 171, 216],
  [135, 216, 218, 67, 75, 109, 6, 81, 234, 56, 16, 156, 92, 158, 186, 52],
  [43, 131, 169, 71, 20, 107, 244, 49, 48, 204, 170, 158, 184, 95, 209, 231],
  [43, 88, 122, 37, 234, 163, 137, 69, 65, 55, 174, 119, 195, 173, 162, 161],
  [35, 100, 187, 156, 12, 96, 38, 228, 217, 98, 69, 128, 184, 13, 209, 1],
  [31, 74, 104, 62, 166, 147, 17, 199, 74, 200, 167, 209, 162, 8, 191, 203],
  [0, 47, 0, 238, 211, 137, 88, 179, 182, 158, 251, 33, 142, 244, 62, 64],
  [0, 199, 128, 191, 231, 44, 102, 90, 215, 154, 68, 230, 109, 246, 96, 62],
  [66, 114, 187, 6, 228, 117, 40, 49, 20, 0, 247, 237, 175, 10, 119, 188],
  [138, 139, 147, 248, 204, 4, 168, 59, 96, 241, 247, 71, 3, 168, 214, 116],
  [15, 134, 193, 106, 138, 158, 208, 245, 51, 1, 247, 19, 167, 195, 157, 127],
  [154, 173, 190, 246, 153, 83, 59, 203, 76, 17, 120, 44, 249, 56, 228, 42]]
def o4K : List Nat := [69, 110, 60, 108, 5, 236, 193, 87, 9, 216, 137, 70, 50, 72, 15, 175]
theorem s4K_ok : sOk w1K s4K o4K (kblk non1 4) = true := by kernel_rfl
def s5K : List (List Nat) := [[5, 0, 0, 0, 3, 0, 0, 0, 0, 0, 0, 0, 0, 0, 0, 0],
  [90, 242, 242, 203, 83, 123, 123, 75, 99, 99, 99, 99, 99, 99, 99, 99],
  [4, 17, 100, 238, 51, 9, 218, 18, 193, 37, 199, 25, 183, 106, 38, 83],
  [90, 94, 25, 215, 123, 8, 50, 123, 17, 207, 84, 215, 220, 232, 209, 97],
  [178, 27, 30, 73, 61, 184, 151, 83, 199, 3, 157, 246, 37, 205, 248, 118],
  [224, 129, 183, 238, 188, 200, 61, 178, 216, 19, 168, 159, 146, 183, 158, 132],
  [201, 196, 27, 69, 131, 36, 79, 252, 113, 200, 248, 26, 191, 142, 173, 118],
  [115, 146, 22, 7, 203, 24, 139, 46, 197, 131, 204, 200, 54, 150, 137, 240],
  [249, 232, 91, 237, 13, 102, 30, 161, 156, 10, 177, 18, 217, 221, 118, 178],
  [30, 19, 32, 95, 16, 75, 111, 40, 8, 153, 18, 142, 71, 225, 120, 251],
  [107, 170, 55, 112, 150, 149, 56, 214, 33, 175, 37, 57, 74, 146, 191, 176],
  [232, 238, 7, 115, 74, 99, 149, 6, 236, 128, 43, 22, 143, 239, 79, 92],
  [132, 35, 140, 97, 203, 30, 91, 119, 81, 174, 147, 211, 249, 93, 193, 7],
  [1, 143, 1, 105, 216, 135, 63, 45, 74, 237, 202, 162, 181, 63, 58, 158],
  [18, 124, 133, 154, 98, 101, 40, 190, 54, 192, 124, 184, 33, 210, 131, 54]]
def o5K : List Nat := [205, 191, 7, 0, 254, 218, 210, 34, 115, 9, 141, 210, 234, 162, 104, 179]
theorem s5K_ok : sOk w1K s5K o5K (kblk non1 5) = true := by kernel_rfl
def kEK : List Nat := [185, 20, 244, 116, 43, 233, 225, 215, 162, 248, 74, 221, 191, 150, 222, 195, 69, 110, 60, 108, 5, 236, 193, 87, 205, 191, 7, 0, 254, 218, 210, 34]
def kEF (i : Nat) : BitVec 8 := BitVec.ofNat 8 (kEK.getD i 0)
set_option maxHeartbeats 4000000 in
theorem kE_known : ∀ j, j < 32 → keyE key1 non1 j = kEF j := by
  have c2 : all2 1 8 (fun _ j => Nat.beq (o2K.getD j 0) (kEK.getD j 0) && (Nat.beq (o3K.getD j 0) (kEK.getD (8 + j) 0) && (Nat.beq (o4K.getD j 0) (kEK.getD (16 + j) 0) && Nat.beq (o5K.getD j 0) (kEK.getD (24 + j) 0)))) = true := by kernel_rfl
  intro j hj
  have c := all2_spec c2 (by decide : 0 < 1) (show j % 8 < 8 by omega)
  rw [Bool.and_eq_true, Bool.and_eq_true, Bool.and_eq_true] at c
  obtain ⟨a2, a3, a4, a5⟩ := c
  have b2 := Nat.eq_of_beq_eq_true a2
  have b3 := Nat.eq_of_beq_eq_true a3
  have b4 := Nat.eq_of_beq_eq_true a4
  have b5 := Nat.eq_of_beq_eq_true a5
  have e2 := sOk_enc w1K_ok s2K_ok (j % 8) (by omega)
  have e3 := sOk_enc w1K_ok s3K_ok (j % 8) (by omega)
  have e4 := sOk_enc w1K_ok s4K_ok (j % 8) (by omega)
  have e5 := sOk_enc w1K_ok s5K_ok (j % 8) (by omega)
  unfold keyE kF kEF
  rcases (by omega : j / 8 = 0 ∨ j / 8 = 1 ∨ j / 8 = 2 ∨ j / 8 = 3) with h | h | h | h
  · rw [h]
    refine e2.trans ?_
    rw [b2, show j % 8 = j by omega]
  · rw [h]
    refine e3.trans ?_
    rw [b3, show 8 + j % 8 = j by omega]
  · rw [h]
    refine e4.trans ?_
    rw [b4, show 16 + j % 8 = j by omega]
  · rw [h]
    refine e5.trans ?_
    rw [b5, show 24 + j % 8 = j by omega]

def w2K : List (List Nat) := [[185, 20, 244, 116],
  [43, 233, 225, 215],
  [162, 248, 74, 221],
  [191, 150, 222, 195],
  [69, 110, 60, 108],
  [5, 236, 193, 87],
  [205, 191, 7, 0],
  [254, 218, 210, 34],
  [239, 161, 103, 207],
  [196, 72, 134, 24],
  [102, 176, 204, 197],
  [217, 38, 18, 6],
  [112, 153, 245, 3],
  [117, 117, 52, 84],
  [184, 202, 51, 84],
  [70, 16, 225, 118],
  [39, 89, 95, 149],
  [227, 17, 217, 141],
  [133, 161, 21, 72],
  [92, 135, 7, 78],
  [58, 142, 48, 44],
  [79, 251, 4, 120],
  [247, 49, 55, 44],
  [177, 33, 214, 90],
  [222, 175, 225, 93],
  [61, 190, 56, 208],
  [184, 31, 45, 152],
  [228, 152, 42, 214],
  [83, 200, 213, 218],
  [28, 51, 209, 162],
  [235, 2, 230, 142],
  [90, 35, 48, 212],
  [240, 171, 169, 227],
  [205, 21, 145, 51],
  [117, 10, 188, 171],
  [145, 146, 150, 125],
  [210, 135, 69, 37],
  [206, 180, 148, 135],
  [37, 182, 114, 9],
  [127, 149, 66, 221],
  [202, 135, 104, 49],
  [7, 146, 249, 2],
  [114, 152, 69, 169],
  [227, 10, 211, 212],
  [195, 224, 35, 109],
  [13, 84, 183, 234],
  [40, 226, 197, 227],
  [87, 119, 135, 62],
  [31, 144, 218, 106],
  [24, 2, 35, 104],
  [106, 154, 102, 193],
  [137, 144, 181, 21],
  [100, 128, 246, 52],
  [105, 212, 65, 222],
  [65, 54, 132, 61],
  [22, 65, 3, 3],
  [220, 235, 161, 45],
  [196, 233, 130, 69],
  [174, 115, 228, 132],
  [39, 227, 81, 145]]
theorem w2K_ok : wOk w2K kEF = true := by kernel_rfl
def s6K : List (List Nat) := [[3, 0, 0, 0, 0, 0, 0, 0, 0, 0, 0, 0, 0, 0, 0, 0],
  [41, 135, 47, 147, 181, 198, 39, 107, 110, 213, 221, 125, 60, 53, 65, 131],
  [241, 74, 77, 38, 25, 138, 124, 192, 248, 195, 9, 113, 25, 111, 38, 26],
  [177, 85, 191, 54, 21, 242, 92, 243, 223, 40, 66, 1, 239, 137, 133, 16],
  [89, 155, 103, 90, 221, 168, 111, 135, 178, 127, 56, 20, 217, 118, 13, 131],
  [98, 145, 210, 225, 181, 171, 228, 184, 183, 173, 156, 221, 94, 69, 240, 93],
  [134, 175, 169, 30, 105, 53, 218, 63, 245, 134, 180, 175, 190, 221, 62, 2],
  [53, 113, 72, 253, 137, 232, 15, 64, 226, 22, 83, 167, 192, 81, 67, 13],
  [86, 11, 100, 83, 2, 131, 154, 136, 4, 251, 78, 54, 41, 150, 32, 201],
  [231, 18, 49, 116, 94, 230, 133, 191, 7, 106, 21, 126, 150, 148, 56, 195],
  [192, 112, 17, 192, 90, 211, 33, 69, 44, 193, 217, 78, 53, 34, 47, 123],
  [247, 122, 200, 6, 207, 171, 4, 246, 250, 81, 224, 49, 186, 17, 251, 59],
  [94, 30, 205, 215, 146, 176, 233, 236, 81, 111, 240, 61, 161, 60, 243, 91],
  [251, 105, 254, 103, 237, 61, 162, 202, 216, 143, 105, 226, 135, 42, 14, 74],
  [219, 30, 85, 59, 95, 86, 215, 237, 238, 127, 48, 250, 129, 30, 17, 158]]
def o6K : List Nat := [7, 245, 244, 22, 155, 191, 85, 168, 64, 12, 212, 126, 166, 253, 64, 15]
theorem s6K_ok : sOk w2K s6K o6K (mixF (fun _ => 0#8) non1) = true := by kernel_rfl
set_option maxHeartbeats 4000000 in
/-- The tag of nothing. -/
theorem tag_known (a t : Nat → BitVec 8) : ∀ j, j < 16 → tagS key1 non1 0 a 0 t j = BitVec.ofNat 8 (o6K.getD j 0) := by
  intro j hj
  have hs : sumX (val16 (keyA key1 non1)) 0 a 0 t = 0#128 := by
    unfold sumX
    show dotX (0#128 ^^^ lenX 0 0) _ = 0#128
    have : (0#128 ^^^ lenX 0 0) = 0#128 := rfl
    rw [this, (dotX_zero _ _).2 (.inl rfl)]
  have e := encF_congr (w := wd (keyE key1 non1)) (v := wd kEF) (b := mixF (fun _ => 0#8) non1) (d := mixF (fun _ => 0#8) non1) (fun i hi p hp => wd_congr kE_known i p hp) (fun i _ => rfl) j hj
  have z : bytesX 0#128 = fun _ => 0#8 := by funext i; unfold bytesX; simp
  unfold tagS tagF
  rw [hs, z]
  exact e.trans (sOk_enc w2K_ok s6K_ok j hj)

end Go.Vab

/- How the evaluator reads the functions of a seat. Printed by wip/tools/gen.py (own work). -/
namespace Go.Vab
open Go Go.Proofs
/-! vestry/vestrylaw09.known -/
noncomputable def cx24 (call : Calling) : Ctx := ⟨call, TT, 34, [5, 6, 7, 8, 9, 10, 11, 12, 13, 14, 15, 16, 17, 18, 19, 20, 21, 22, 23, 24, 25, 26, 27, 28, 29, 30, 31, 32, 33]⟩
noncomputable def n24_0 : Code := bodyOf Try.f24
noncomputable def n24_1 : Code := cR n24_0
noncomputable def n24_2 : Code := cR n24_1
noncomputable def n24_3 : Code := cR n24_2
noncomputable def n24_4 : Code := cR n24_3
@[simp] theorem n24_4_eq (call : Calling) (s : St) : evC (cx24 call) n24_4 s = some (.ret, s) := xE
@[simp] theorem n24_3_eq (call : Calling) (env : Env) (h : Heap) : evC (cx24 call) n24_3 ⟨env, h⟩ = (bnd (pureV h (mBin .eql (env.get 2) (nat 0))) fun r1 => bnd (gdo r1.1 true (some ((env.get 4), r1.2)) r1.2) fun r3 => bnd (gdo r1.1 true (pureV r3.2 (mBin .eql r3.1 (nat 0))) r3.2) fun r4 => bnd (pureV r4.2 (mPick r1.1 r4.1 (.bool false))) fun r5 => bnd (gdo r5.1 true (some ((env.get 3), r5.2)) r5.2) fun r7 => bnd (gdo r5.1 true (pureV r7.2 (mLenS r7.1)) r7.2) fun r8 => bnd (gdo r5.1 true (pureV r8.2 (mBin .eql r8.1 (nat 0))) r8.2) fun r9 => bnd (pureV r9.2 (mPick r5.1 r9.1 (.bool false))) fun r10 => bnd (gdo r10.1 true (some ((env.get 1), r10.2)) r10.2) fun r12 => bnd (gdo r10.1 true (pureV r12.2 (mStr r12.1 r12.2)) r12.2) fun r13 => bnd (gdo r10.1 true (pureV r13.2 (mBinT .eql r13.1 (.str { data := #[7, 245, 244, 22, 155, 191, 85, 168, 64, 12, 212, 126, 166, 253, 64, 15] }))) r13.2) fun r14 => bnd (pureV r14.2 (mPick r10.1 r14.1 (.bool false))) fun r15 => evC (cx24 call) n24_4 ⟨(Env.put env 0 r15.1), r15.2⟩) := (xSR 3 (cOps (cL n24_3)) (cR n24_3)).trans (by
  refine opsK_0 ?_
  refine oT 18 (env.get 2) ?_
  refine oP 19 fun r1 => ?_
  refine oT 20 r1.1 ?_
  refine oP 21 fun r3 => ?_
  refine oP 22 fun r4 => ?_
  refine oP 23 fun r5 => ?_
  refine oT 24 r5.1 ?_
  refine oP 25 fun r7 => ?_
  refine oP 26 fun r8 => ?_
  refine oP 27 fun r9 => ?_
  refine oP 28 fun r10 => ?_
  refine oT 29 r10.1 ?_
  refine oP 30 fun r12 => ?_
  refine oP 31 fun r13 => ?_
  refine oP 32 fun r14 => ?_
  refine oP 33 fun r15 => ?_
  refine oT 0 r15.1 ?_
  exact oE)
@[simp] theorem n24_2_eq (call : Calling) (env : Env) (h : Heap) : evC (cx24 call) n24_2 ⟨env, h⟩ = (bnd (pureV h (fillRow (.arr 32 (.int .u8)) (arr 32 fun _ => 0#8) [(0, (u8 1#8))])) fun r0 => bnd (pureV r0.2 (fillRow (.arr 12 (.int .u8)) (arr 12 fun _ => 0#8) [(0, (u8 3#8))])) fun r1 => bnd (call 29 [r0.1, r1.1, .nilslice, (env.get 1)] r1.2) fun r3 => bnd (pureV r3.2 (mExtract r3.1 0)) fun r5 => bnd (pureV r5.2 (mExtract r3.1 1)) fun r6 => evC (cx24 call) n24_3 ⟨(Env.put (Env.put env 3 r5.1) 4 r6.1), r6.2⟩) := (xSR 2 (cOps (cL n24_2)) (cR n24_2)).trans (by
  refine opsK_0 ?_
  refine oP 12 fun r0 => ?_
  refine oP 13 fun r1 => ?_
  refine oT 14 (env.get 1) ?_
  refine oP 15 fun r3 => ?_
  refine oT 11 r3.1 ?_
  refine oP 16 fun r5 => ?_
  refine oP 17 fun r6 => ?_
  refine oT 3 r5.1 ?_
  refine oT 4 r6.1 ?_
  exact oE)
@[simp] theorem n24_1_eq (call : Calling) (env : Env) (h : Heap) : evC (cx24 call) n24_1 ⟨env, h⟩ = (bnd (pureV h (fillRow (.arr 32 (.int .u8)) (arr 32 fun _ => 0#8) [(0, (u8 1#8))])) fun r0 => bnd (pureV r0.2 (fillRow (.arr 12 (.int .u8)) (arr 12 fun _ => 0#8) [(0, (u8 3#8))])) fun r1 => bnd (call 26 [r0.1, r1.1, .nilslice, .nilslice] r1.2) fun r2 => bnd (pureV r2.2 (mExtract r2.1 0)) fun r4 => bnd (pureV r4.2 (mExtract r2.1 1)) fun r5 => evC (cx24 call) n24_2 ⟨(Env.put (Env.put env 1 r4.1) 2 r5.1), r5.2⟩) := (xSR 1 (cOps (cL n24_1)) (cR n24_1)).trans (by
  refine opsK_0 ?_
  refine oP 6 fun r0 => ?_
  refine oP 7 fun r1 => ?_
  refine oP 8 fun r2 => ?_
  refine oT 5 r2.1 ?_
  refine oP 9 fun r4 => ?_
  refine oP 10 fun r5 => ?_
  refine oT 1 r4.1 ?_
  refine oT 2 r5.1 ?_
  exact oE)
@[simp] theorem n24_0_eq (call : Calling) (env : Env) (h : Heap) : evC (cx24 call) n24_0 ⟨env, h⟩ = ( evC (cx24 call) n24_1 ⟨(Env.put env 0 (.bool false)), h⟩) := (xSR 0 (cOps (cL n24_0)) (cR n24_0)).trans (by
  refine opsK_0 ?_
  refine oT 0 (.bool false) ?_
  exact oE)
theorem b24 (call : Calling) (h : Heap) : evBody (cx24 call) Try.f24 n24_0 [] h = bnd (evC (cx24 call) n24_0 ⟨[(0, .junk), (1, .junk), (2, .junk), (3, .junk), (4, .junk)], h⟩) (retK fun s => bnd (bnd (some (s.env.get 0)) fun v => bnd (some []) fun vs => some (v :: vs)) fun vs => some (oneOrTuple vs)) := by kernel_rfl
theorem fn24 : Try.prog.funcs[24]? = some Try.f24 := by kernel_rfl
theorem k24 : Callable Try.prog 24 := ⟨Try.f24, fn24, by kernel_rfl, by kernel_rfl⟩
theorem s24 {call : Calling} (hc : CallOK Try.prog call) {args : List AV} {h h' : Heap} {v : AV} (he : evBody (cx24 call) Try.f24 n24_0 args h = some (v, h')) : Spec Try.prog 24 args h v h' := body_sound (C := cx24 call) TT_ok hc mixed_ok fn24 (by kernel_rfl) (by kernel_rfl) he
def sn24 := And.intro n24_4_eq (And.intro n24_3_eq (And.intro n24_2_eq (And.intro n24_1_eq (n24_0_eq))))
end Go.Vab

/-
  The known sealing, walked.
-/
namespace Go.Vab
open Go Go.Proofs

def zF : Nat → BitVec 8 := fun _ => 0#8
def sl1 : Nat → BitVec 8 := sealF key1 non1 0 zF 0 zF
theorem sl1_eq (j : Nat) (hj : j < 16) : sl1 j = BitVec.ofNat 8 (o6K.getD j 0) := by
  unfold sl1 sealF
  rw [if_neg (by omega), Nat.sub_zero]
  exact tag_known _ _ j hj
theorem open1 : openG key1 non1 0 zF 16 sl1 = true := by
  unfold openG
  rw [arrEq_iff]
  intro i hi
  rw [tag_known _ _ i hi]
  unfold tailF
  rw [show 16 - 16 + i = i by omega, sl1_eq i hi]
theorem str1 : strOf 16 sl1 = ⟨#[7, 245, 244, 22, 155, 191, 85, 168, 64, 12, 212, 126, 166, 253, 64, 15]⟩ := by
  rw [strOf_congr sl1_eq]
  kernel_rfl

theorem walk24 (h : Heap) : ∃ tr, evBody (cx24 callS19) Try.f24 n24_0 [] h = some (.bool true, h ++ tr) := by
  have f1 : fillRow (.arr 32 (.int .u8)) (arr 32 fun _ => 0#8) [(0, u8 1#8)] = some (arr 32 key1) := by simp [fillRow, key1]
  have f2 : fillRow (.arr 12 (.int .u8)) (arr 12 fun _ => 0#8) [(0, u8 3#8)] = some (arr 12 non1) := by simp [fillRow, non1]
  have k26 : callS18 26 [arr 32 key1, arr 12 non1, .nilslice, .nilslice] h = some (.tuple [.slice h.length 0 [] (.int .u8) 0 16 (some 16), nat 0], h ++ [⟨arr 16 sl1, 0, .own⟩]) :=
    callS18_26 key1 non1 .nilslice .nilslice 0 0 zF zF h ⟨Byt.nil _ _, Byt.nil _ _⟩
  have hb : Byt (h ++ [⟨arr 16 sl1, 0, .own⟩]) (.slice h.length 0 [] (.int .u8) 0 16 (some 16)) 16 sl1 := (Byt.own (b := ⟨arr 16 sl1, 0, .own⟩) (m := 16) (off := 0) (by simp) rfl (by omega) (by omega)).congr fun i _ => by rw [Nat.zero_add]
  have k29 : callS19 29 [arr 32 key1, arr 12 non1, .nilslice, .slice h.length 0 [] (.int .u8) 0 16 (some 16)] (h ++ [⟨arr 16 sl1, 0, .own⟩]) = some (.tuple [.slice (h.length + 1) 0 [] (.int .u8) 0 0 (some 16), nat 0], h ++ [⟨arr 16 sl1, 0, .own⟩, ⟨arr 16 (openF key1 non1 16 sl1), 0, .own⟩]) := by
    have := callS19_29 key1 non1 .nilslice _ 0 16 zF sl1 (h ++ [⟨arr 16 sl1, 0, .own⟩]) ⟨Byt.nil _ _, hb⟩
    rw [open1] at this
    simpa [ansV, ansH, openC, bigO] using this
  have hs : ∀ t, mStr (.slice h.length 0 [] (.int .u8) 0 16 (some 16)) (h ++ (⟨arr 16 sl1, 0, .own⟩ :: t)) = some (.str ⟨#[7, 245, 244, 22, 155, 191, 85, 168, 64, 12, 212, 126, 166, 253, 64, 15]⟩) := fun t => by
    have := hb.strT t
    rw [str1] at this
    simpa using this
  rw [b24]
  have main : Evs (evC (cx24 callS19) n24_0 ⟨[(0, .junk), (1, .junk), (2, .junk), (3, .junk), (4, .junk)], h⟩) (fun r => ∃ env tr, r = (.ret, ⟨env, h ++ tr⟩) ∧ env.get 0 = .bool true) := by
    obtain ⟨env, he⟩ : ∃ env : Env, env = [(0, .junk), (1, .junk), (2, .junk), (3, .junk), (4, .junk)] := ⟨_, rfl⟩
    rw [← he]
    clear he
    repeat (first
      | (with_reducible refine Evs.assoc ?_)
      | ((with_reducible refine Evs.some_bnd ?_); try dsimp only [sqK_nrm, sqK_exit, sqK_ret])
      | ((with_reducible apply Evs.bcndT); (focus (simp (disch := omega) [f1, f2, k26, k29, hs] <;> omega)))
      | ((with_reducible apply Evs.bcndF); (focus (simp (disch := omega) [f1, f2, k26, k29, hs] <;> omega)))
      | ((with_reducible apply Evs.step); (focus ((conv => lhs; simp (disch := omega) [f1, f2, k26, k29, hs]); done)); try dsimp only)
      | (simp only [sn24, sqK_nrm, sqK_exit, sqK_ret, inBlk_nrm, inBlk_ret, inBlk_same]))
    exact Evs.ret ⟨_, _, rfl, by simp⟩
  obtain ⟨r, hr, env, tr, rfl, e0⟩ := main
  refine ⟨tr, ?_⟩
  rw [hr]
  simp [e0, oneOrTuple]

noncomputable def c24 := conC (fun x : Unit => []) (fun (x : Unit) h => True) (fun (x : Unit) h => (.bool true, h))
noncomputable def callS20 : Calling := addC callS19 24 c24
theorem c24_eq  (h : Heap) : c24 [] h = some (.bool true, h) :=
  conC_eq (enc := fun x : Unit => []) (P := fun (x : Unit) h => True) (a := ()) (f := fun (x : Unit) h => (.bool true, h)) (fun x y h e => by
    rfl
    ) trivial
theorem callS20_ok : CallOK Try.prog callS20 := addC_con callS19_ok k24 fun x h hx => by
  obtain ⟨t, ht⟩ := walk24 h
  exact (s24 callS19_ok ht).drop0 t rfl
@[simp] theorem callS20_ne {f : Nat} (args : List AV) (h : Heap) (hf : f ≠ 24) : callS20 f args h = callS19 f args h := addC_ne _ _ _ args h hf
@[simp] theorem callS20_sne {f : Nat} (args : List AV) (h : Heap) (hf : f ≠ 24) : still callS20 f args h = still callS19 f args h := still_ne _ _ _ args h hf
@[simp] theorem callS20_24  (h : Heap) : callS20 24 [] h = some (.bool true, h) := by
  unfold callS20; rw [addC_same]; exact c24_eq  h
@[simp] theorem callS20_24s  (h : Heap) : still callS20 24 [] h = some (.bool true, h) := still_of fun t => by simp

end Go.Vab

/- How the evaluator reads the functions of a seat. Printed by wip/tools/gen.py (own work). -/
namespace Go.Vab
open Go Go.Proofs
/-! vestry/vestryref09.Full -/
noncomputable def cx58 (call : Calling) : Ctx := ⟨call, TT, 15, [4, 5, 6, 7, 8, 9, 11, 12, 13, 14]⟩
noncomputable def n58_0 : Code := bodyOf Try.f58
noncomputable def n58_1 : Code := cR n58_0
noncomputable def n58_2 : Code := cR n58_1
noncomputable def n58_3 : Code := cL n58_2
noncomputable def n58_4 : Code := cB n58_3
noncomputable def n58_5 : Code := cB n58_4
noncomputable def n58_6 : Code := cL n58_5
noncomputable def n58_7 : Code := cR n58_6
noncomputable def n58_8 : Code := cL n58_7
noncomputable def n58_9 : Code := cR n58_7
noncomputable def n58_10 : Code := cR n58_5
noncomputable def n58_11 : Code := cB n58_10
noncomputable def n58_12 : Code := cR n58_2
noncomputable def n58_13 : Code := cR n58_12
@[simp] theorem n58_8_eq (call : Calling) (s : St) : evC (cx58 call) n58_8 s = some (.nrm, s) := xK
@[simp] theorem n58_9_eq (call : Calling) (s : St) : evC (cx58 call) n58_9 s = some (.exit 0, s) := xX 0
@[simp] theorem n58_7_eq (call : Calling) (s : St) : evC (cx58 call) n58_7 s = cnd (s.env.get 10) (evC (cx58 call) n58_8 s) (evC (cx58 call) n58_9 s) := xC 10 _ _
@[simp] theorem n58_6_eq (call : Calling) (env : Env) (h : Heap) : evC (cx58 call) n58_6 ⟨env, h⟩ = (bnd (pureV h (mLenS (env.get 3))) fun r1 => bnd (pureV r1.2 (mBin .rem r1.1 (nat 16))) fun r2 => bnd (pureV r2.2 (mBin .neq r2.1 (nat 0))) fun r3 => evC (cx58 call) n58_7 ⟨(Env.put env 10 r3.1), r3.2⟩) := (xSR 2 (cOps (cL n58_6)) (cR n58_6)).trans (by
  refine opsK_0 ?_
  refine oT 7 (env.get 3) ?_
  refine oP 8 fun r1 => ?_
  refine oP 9 fun r2 => ?_
  refine oP 10 fun r3 => ?_
  exact oE)
@[simp] theorem n58_11_eq (call : Calling) (env : Env) (h : Heap) : evC (cx58 call) n58_11 ⟨env, h⟩ = (bnd (mBuildSlice (.int .u8) (u8 0#8) 1 [(0, (u8 0#8))] h) fun r1 => bnd (mApp (.int .u8) 1 (env.get 3) r1.1 r1.2) fun r2 => some (.nrm, ⟨(Env.put env 3 r2.1), r2.2⟩)) := (xR 3 (cOps n58_11)).trans (by
  refine opsK_0 ?_
  refine oT 11 (env.get 3) ?_
  refine oP 12 fun r1 => ?_
  refine oP 13 fun r2 => ?_
  refine oT 3 r2.1 ?_
  exact oE)
@[simp] theorem n58_10_eq (call : Calling) (s : St) : evC (cx58 call) n58_10 s = bnd (evC (cx58 call) n58_11 s) fun r => some (inBlk 1 r) := xB 1 _
@[simp] theorem n58_5_eq (call : Calling) (s : St) : evC (cx58 call) n58_5 s = bnd (evC (cx58 call) n58_6 s) (sqK (evC (cx58 call) n58_10)) := xS _ _
@[simp] theorem n58_4_eq (call : Calling) (s : St) : evC (cx58 call) n58_4 s = evLoop (evC (cx58 call) n58_5) s := xL _
@[simp] theorem n58_3_eq (call : Calling) (s : St) : evC (cx58 call) n58_3 s = bnd (evC (cx58 call) n58_4 s) fun r => some (inBlk 0 r) := xB 0 _
@[simp] theorem n58_13_eq (call : Calling) (s : St) : evC (cx58 call) n58_13 s = some (.ret, s) := xE
@[simp] theorem n58_12_eq (call : Calling) (env : Env) (h : Heap) : evC (cx58 call) n58_12 ⟨env, h⟩ = ( evC (cx58 call) n58_13 ⟨(Env.put env 2 (env.get 3)), h⟩) := (xSR 4 (cOps (cL n58_12)) (cR n58_12)).trans (by
  refine opsK_0 ?_
  refine oT 14 (env.get 3) ?_
  refine oT 2 (env.get 3) ?_
  exact oE)
@[simp] theorem n58_2_eq (call : Calling) (s : St) : evC (cx58 call) n58_2 s = bnd (evC (cx58 call) n58_3 s) (sqK (evC (cx58 call) n58_12)) := xS _ _
@[simp] theorem n58_1_eq (call : Calling) (env : Env) (h : Heap) : evC (cx58 call) n58_1 ⟨env, h⟩ = (bnd (mBuildSlice (.int .u8) (u8 0#8) 0 [] h) fun r0 => bnd (mApp (.int .u8) 1 r0.1 (env.get 0) r0.2) fun r2 => evC (cx58 call) n58_2 ⟨(Env.put env 3 r2.1), r2.2⟩) := (xSR 1 (cOps (cL n58_1)) (cR n58_1)).trans (by
  refine opsK_0 ?_
  refine oP 4 fun r0 => ?_
  refine oT 5 (env.get 0) ?_
  refine oP 6 fun r2 => ?_
  refine oT 3 r2.1 ?_
  exact oE)
@[simp] theorem n58_0_eq (call : Calling) (env : Env) (h : Heap) : evC (cx58 call) n58_0 ⟨env, h⟩ = ( evC (cx58 call) n58_1 ⟨(Env.put env 2 .nilslice), h⟩) := (xSR 0 (cOps (cL n58_0)) (cR n58_0)).trans (by
  refine opsK_0 ?_
  refine oT 2 .nilslice ?_
  exact oE)
theorem b58 (call : Calling) (a0 : AV) (h : Heap) : evBody (cx58 call) Try.f58 n58_0 [a0] h = bnd (evC (cx58 call) n58_0 ⟨[(0, a0), (1, .junk), (2, .junk), (3, .junk), (10, .junk)], h⟩) (retK fun s => bnd (bnd (some (s.env.get 2)) fun v => bnd (some []) fun vs => some (v :: vs)) fun vs => some (oneOrTuple vs)) := by kernel_rfl
theorem fn58 : Try.prog.funcs[58]? = some Try.f58 := by kernel_rfl
theorem k58 : Callable Try.prog 58 := ⟨Try.f58, fn58, by kernel_rfl, by kernel_rfl⟩
theorem s58 {call : Calling} (hc : CallOK Try.prog call) {args : List AV} {h h' : Heap} {v : AV} (he : evBody (cx58 call) Try.f58 n58_0 args h = some (v, h')) : Spec Try.prog 58 args h v h' := body_sound (C := cx58 call) TT_ok hc mixed_ok fn58 (by kernel_rfl) (by kernel_rfl) he
def sn58 := And.intro n58_8_eq (And.intro n58_9_eq (And.intro n58_7_eq (And.intro n58_6_eq (And.intro n58_11_eq (And.intro n58_10_eq (And.intro n58_5_eq (And.intro n58_4_eq (And.intro n58_3_eq (And.intro n58_13_eq (And.intro n58_12_eq (And.intro n58_2_eq (And.intro n58_1_eq (n58_0_eq)))))))))))))
end Go.Vab

/- How the evaluator reads the functions of a seat. Printed by wip/tools/gen.py (own work). -/
namespace Go.Vab
open Go Go.Proofs
/-! vestry/vestryref09.Polyval -/
noncomputable def cx36 (call : Calling) : Ctx := ⟨call, TT, 37, [9, 10, 11, 12, 13, 15, 16, 17, 19, 20, 21, 22, 23, 24, 25, 26, 27, 28, 29, 30, 31, 32, 33, 34, 35, 36]⟩
noncomputable def n36_0 : Code := bodyOf Try.f36
noncomputable def n36_1 : Code := cR n36_0
noncomputable def n36_2 : Code := cR n36_1
noncomputable def n36_3 : Code := cR n36_2
noncomputable def n36_4 : Code := cL n36_3
noncomputable def n36_5 : Code := cR n36_4
noncomputable def n36_6 : Code := cB n36_5
noncomputable def n36_7 : Code := cB n36_6
noncomputable def n36_8 : Code := cL n36_7
noncomputable def n36_9 : Code := cR n36_8
noncomputable def n36_10 : Code := cL n36_9
noncomputable def n36_11 : Code := cR n36_9
noncomputable def n36_12 : Code := cR n36_7
noncomputable def n36_13 : Code := cL n36_12
noncomputable def n36_14 : Code := cB n36_13
noncomputable def n36_15 : Code := cL n36_14
noncomputable def n36_16 : Code := cR n36_15
noncomputable def n36_17 : Code := cB n36_16
noncomputable def n36_18 : Code := cB n36_17
noncomputable def n36_19 : Code := cL n36_18
noncomputable def n36_20 : Code := cR n36_19
noncomputable def n36_21 : Code := cL n36_20
noncomputable def n36_22 : Code := cR n36_20
noncomputable def n36_23 : Code := cR n36_18
noncomputable def n36_24 : Code := cL n36_23
noncomputable def n36_25 : Code := cB n36_24
noncomputable def n36_26 : Code := cR n36_23
noncomputable def n36_27 : Code := cR n36_14
noncomputable def n36_28 : Code := cR n36_12
noncomputable def n36_29 : Code := cR n36_3
noncomputable def n36_30 : Code := cR n36_29
@[simp] theorem n36_10_eq (call : Calling) (s : St) : evC (cx36 call) n36_10 s = some (.nrm, s) := xK
@[simp] theorem n36_11_eq (call : Calling) (s : St) : evC (cx36 call) n36_11 s = some (.exit 0, s) := xX 0
@[simp] theorem n36_9_eq (call : Calling) (s : St) : evC (cx36 call) n36_9 s = cnd (s.env.get 14) (evC (cx36 call) n36_10 s) (evC (cx36 call) n36_11 s) := xC 14 _ _
@[simp] theorem n36_8_eq (call : Calling) (env : Env) (h : Heap) : evC (cx36 call) n36_8 ⟨env, h⟩ = (bnd (pureV h (mLenS (env.get 6))) fun r2 => bnd (pureV r2.2 (mBin .lss (env.get 7) r2.1)) fun r3 => evC (cx36 call) n36_9 ⟨(Env.put env 14 r3.1), r3.2⟩) := (xSR 4 (cOps (cL n36_8)) (cR n36_8)).trans (by
  refine opsK_0 ?_
  refine oT 11 (env.get 7) ?_
  refine oT 12 (env.get 6) ?_
  refine oP 13 fun r2 => ?_
  refine oP 14 fun r3 => ?_
  exact oE)
@[simp] theorem n36_21_eq (call : Calling) (s : St) : evC (cx36 call) n36_21 s = some (.nrm, s) := xK
@[simp] theorem n36_22_eq (call : Calling) (s : St) : evC (cx36 call) n36_22 s = some (.exit 2, s) := xX 2
@[simp] theorem n36_20_eq (call : Calling) (s : St) : evC (cx36 call) n36_20 s = cnd (s.env.get 18) (evC (cx36 call) n36_21 s) (evC (cx36 call) n36_22 s) := xC 18 _ _
@[simp] theorem n36_19_eq (call : Calling) (env : Env) (h : Heap) : evC (cx36 call) n36_19 ⟨env, h⟩ = (bnd (pureV h (mBin .lss (env.get 8) (nat 16))) fun r1 => evC (cx36 call) n36_20 ⟨(Env.put env 18 r1.1), r1.2⟩) := (xSR 7 (cOps (cL n36_19)) (cR n36_19)).trans (by
  refine opsK_0 ?_
  refine oT 17 (env.get 8) ?_
  refine oP 18 fun r1 => ?_
  exact oE)
theorem n36_25_ok : drawOk (cOps n36_25).toList = true := by kernel_rfl
@[simp] theorem n36_25_eq (call : Calling) (env : Env) (h : Heap) : evC (cx36 call) n36_25 ⟨env, h⟩ = (bnd (pureV h (mIdxA (.arr 16 (.int .u8)) (env.get 5) (env.get 8))) fun r2 => bnd (pureV r2.2 (mLoad (.int .u8) r2.1 r2.2)) fun r3 => bnd (pureV r3.2 (mBin .add (env.get 7) (env.get 8))) fun r7 => bnd (pureV r7.2 (mIdxS (.int .u8) (env.get 6) r7.1)) fun r8 => bnd (pureV r8.2 (mLoad (.int .u8) r8.1 r8.2)) fun r9 => bnd (pureV r9.2 (mBin .xor r3.1 r9.1)) fun r10 => bnd (pureV r10.2 (mIdxA (.arr 16 (.int .u8)) (env.get 5) (env.get 8))) fun r11 => bnd (stU (.int .u8) r11.1 r10.1 r11.2) fun r12 => some (.nrm, ⟨env, r12.2⟩)) := (xD 9 (cOps n36_25) n36_25_ok).trans (by
  refine opsK_0 ?_
  refine oT 21 (env.get 8) ?_
  refine oT 22 (env.get 8) ?_
  refine oP 23 fun r2 => ?_
  refine oP 24 fun r3 => ?_
  refine oT 25 (env.get 6) ?_
  refine oT 26 (env.get 7) ?_
  refine oT 27 (env.get 8) ?_
  refine oP 28 fun r7 => ?_
  refine oP 29 fun r8 => ?_
  refine oP 30 fun r9 => ?_
  refine oP 31 fun r10 => ?_
  refine oP 32 fun r11 => ?_
  refine oN fun r12 => ?_
  exact oE)
@[simp] theorem n36_24_eq (call : Calling) (s : St) : evC (cx36 call) n36_24 s = bnd (evC (cx36 call) n36_25 s) fun r => some (inBlk 3 r) := xB 3 _
@[simp] theorem n36_26_eq (call : Calling) (env : Env) (h : Heap) : evC (cx36 call) n36_26 ⟨env, h⟩ = (bnd (pureV h (mBin .add (env.get 8) (nat 1))) fun r1 => some (.nrm, ⟨(Env.put env 8 r1.1), r1.2⟩)) := (xR 8 (cOps n36_26)).trans (by
  refine opsK_0 ?_
  refine oT 19 (env.get 8) ?_
  refine oP 20 fun r1 => ?_
  refine oT 8 r1.1 ?_
  exact oE)
@[simp] theorem n36_23_eq (call : Calling) (s : St) : evC (cx36 call) n36_23 s = bnd (evC (cx36 call) n36_24 s) (sqK (evC (cx36 call) n36_26)) := xS _ _
@[simp] theorem n36_18_eq (call : Calling) (s : St) : evC (cx36 call) n36_18 s = bnd (evC (cx36 call) n36_19 s) (sqK (evC (cx36 call) n36_23)) := xS _ _
@[simp] theorem n36_17_eq (call : Calling) (s : St) : evC (cx36 call) n36_17 s = evLoop (evC (cx36 call) n36_18) s := xL _
@[simp] theorem n36_16_eq (call : Calling) (s : St) : evC (cx36 call) n36_16 s = bnd (evC (cx36 call) n36_17 s) fun r => some (inBlk 2 r) := xB 2 _
@[simp] theorem n36_15_eq (call : Calling) (env : Env) (h : Heap) : evC (cx36 call) n36_15 ⟨env, h⟩ = ( evC (cx36 call) n36_16 ⟨(Env.put env 8 (nat 0)), h⟩) := (xSR 6 (cOps (cL n36_15)) (cR n36_15)).trans (by
  refine opsK_0 ?_
  refine oT 8 (nat 0) ?_
  exact oE)
@[simp] theorem n36_27_eq (call : Calling) (env : Env) (h : Heap) : evC (cx36 call) n36_27 ⟨env, h⟩ = (bnd (pureV h (mLoad (.arr 16 (.int .u8)) (env.get 5) h)) fun r0 => bnd (pureV r0.2 (mLoad (.arr 16 (.int .u8)) (env.get 2) r0.2)) fun r1 => bnd (call 32 [r0.1, r1.1] r1.2) fun r2 => bnd (stU (.arr 16 (.int .u8)) (env.get 5) r2.1 r2.2) fun r3 => some (.nrm, ⟨env, r3.2⟩)) := (xR 10 (cOps n36_27)).trans (by
  refine opsK_0 ?_
  refine oP 33 fun r0 => ?_
  refine oP 34 fun r1 => ?_
  refine oP 35 fun r2 => ?_
  refine oN fun r3 => ?_
  exact oE)
@[simp] theorem n36_14_eq (call : Calling) (s : St) : evC (cx36 call) n36_14 s = bnd (evC (cx36 call) n36_15 s) (sqK (evC (cx36 call) n36_27)) := xS _ _
@[simp] theorem n36_13_eq (call : Calling) (s : St) : evC (cx36 call) n36_13 s = bnd (evC (cx36 call) n36_14 s) fun r => some (inBlk 1 r) := xB 1 _
@[simp] theorem n36_28_eq (call : Calling) (env : Env) (h : Heap) : evC (cx36 call) n36_28 ⟨env, h⟩ = (bnd (pureV h (mBin .add (env.get 7) (nat 16))) fun r1 => some (.nrm, ⟨(Env.put env 7 r1.1), r1.2⟩)) := (xR 5 (cOps n36_28)).trans (by
  refine opsK_0 ?_
  refine oT 15 (env.get 7) ?_
  refine oP 16 fun r1 => ?_
  refine oT 7 r1.1 ?_
  exact oE)
@[simp] theorem n36_12_eq (call : Calling) (s : St) : evC (cx36 call) n36_12 s = bnd (evC (cx36 call) n36_13 s) (sqK (evC (cx36 call) n36_28)) := xS _ _
@[simp] theorem n36_7_eq (call : Calling) (s : St) : evC (cx36 call) n36_7 s = bnd (evC (cx36 call) n36_8 s) (sqK (evC (cx36 call) n36_12)) := xS _ _
@[simp] theorem n36_6_eq (call : Calling) (s : St) : evC (cx36 call) n36_6 s = evLoop (evC (cx36 call) n36_7) s := xL _
@[simp] theorem n36_5_eq (call : Calling) (s : St) : evC (cx36 call) n36_5 s = bnd (evC (cx36 call) n36_6 s) fun r => some (inBlk 0 r) := xB 0 _
@[simp] theorem n36_4_eq (call : Calling) (env : Env) (h : Heap) : evC (cx36 call) n36_4 ⟨env, h⟩ = ( evC (cx36 call) n36_5 ⟨(Env.put env 7 (nat 0)), h⟩) := (xSR 3 (cOps (cL n36_4)) (cR n36_4)).trans (by
  refine opsK_0 ?_
  refine oT 7 (nat 0) ?_
  exact oE)
@[simp] theorem n36_30_eq (call : Calling) (s : St) : evC (cx36 call) n36_30 s = some (.ret, s) := xE
@[simp] theorem n36_29_eq (call : Calling) (env : Env) (h : Heap) : evC (cx36 call) n36_29 ⟨env, h⟩ = (bnd (pureV h (mLoad (.arr 16 (.int .u8)) (env.get 5) h)) fun r0 => bnd (stU (.arr 16 (.int .u8)) (env.get 4) r0.1 r0.2) fun r1 => evC (cx36 call) n36_30 ⟨env, r1.2⟩) := (xSR 11 (cOps (cL n36_29)) (cR n36_29)).trans (by
  refine opsK_0 ?_
  refine oP 36 fun r0 => ?_
  refine oN fun r1 => ?_
  exact oE)
@[simp] theorem n36_3_eq (call : Calling) (s : St) : evC (cx36 call) n36_3 s = bnd (evC (cx36 call) n36_4 s) (sqK (evC (cx36 call) n36_29)) := xS _ _
@[simp] theorem n36_2_eq (call : Calling) (env : Env) (h : Heap) : evC (cx36 call) n36_2 ⟨env, h⟩ = (bnd (call 58 [(env.get 1)] h) fun r1 => evC (cx36 call) n36_3 ⟨(Env.put env 6 r1.1), r1.2⟩) := (xSR 2 (cOps (cL n36_2)) (cR n36_2)).trans (by
  refine opsK_0 ?_
  refine oT 9 (env.get 1) ?_
  refine oP 10 fun r1 => ?_
  refine oT 6 r1.1 ?_
  exact oE)
@[simp] theorem n36_1_eq (call : Calling) (env : Env) (h : Heap) : evC (cx36 call) n36_1 ⟨env, h⟩ = (bnd (mNew (.arr 16 (.int .u8)) (arr 16 fun _ => 0#8) h) fun r0 => evC (cx36 call) n36_2 ⟨(Env.put env 5 r0.1), r0.2⟩) := (xSR 1 (cOps (cL n36_1)) (cR n36_1)).trans (by
  refine opsK_0 ?_
  refine oP 5 fun r0 => ?_
  exact oE)
@[simp] theorem n36_0_eq (call : Calling) (env : Env) (h : Heap) : evC (cx36 call) n36_0 ⟨env, h⟩ = (bnd (mNew (.arr 16 (.int .u8)) (env.get 0) h) fun r0 => bnd (mNew (.arr 16 (.int .u8)) (arr 16 fun _ => 0#8) r0.2) fun r1 => evC (cx36 call) n36_1 ⟨(Env.put (Env.put env 2 r0.1) 4 r1.1), r1.2⟩) := (xSR 0 (cOps (cL n36_0)) (cR n36_0)).trans (by
  refine opsK_0 ?_
  refine oP 2 fun r0 => ?_
  refine oP 4 fun r1 => ?_
  exact oE)
theorem b36 (call : Calling) (a0 a1 : AV) (h : Heap) : evBody (cx36 call) Try.f36 n36_0 [a0, a1] h = bnd (evC (cx36 call) n36_0 ⟨[(0, a0), (1, a1), (2, .junk), (3, .junk), (4, .junk), (5, .junk), (6, .junk), (7, .junk), (8, .junk), (14, .junk), (18, .junk)], h⟩) (retK fun s => bnd (bnd (mLoad (.arr 16 (.int .u8)) (s.env.get 4) s.heap) fun v => bnd (some []) fun vs => some (v :: vs)) fun vs => some (oneOrTuple vs)) := by kernel_rfl
theorem fn36 : Try.prog.funcs[36]? = some Try.f36 := by kernel_rfl
theorem k36 : Callable Try.prog 36 := ⟨Try.f36, fn36, by kernel_rfl, by kernel_rfl⟩
theorem s36 {call : Calling} (hc : CallOK Try.prog call) {args : List AV} {h h' : Heap} {v : AV} (he : evBody (cx36 call) Try.f36 n36_0 args h = some (v, h')) : Spec Try.prog 36 args h v h' := body_sound (C := cx36 call) TT_ok hc mixed_ok fn36 (by kernel_rfl) (by kernel_rfl) he
def sn36 := And.intro n36_10_eq (And.intro n36_11_eq (And.intro n36_9_eq (And.intro n36_8_eq (And.intro n36_21_eq (And.intro n36_22_eq (And.intro n36_20_eq (And.intro n36_19_eq (And.intro n36_25_eq (And.intro n36_24_eq (And.intro n36_26_eq (And.intro n36_23_eq (And.intro n36_18_eq (And.intro n36_17_eq (And.intro n36_16_eq (And.intro n36_15_eq (And.intro n36_27_eq (And.intro n36_14_eq (And.intro n36_13_eq (And.intro n36_28_eq (And.intro n36_12_eq (And.intro n36_7_eq (And.intro n36_6_eq (And.intro n36_5_eq (And.intro n36_4_eq (And.intro n36_30_eq (And.intro n36_29_eq (And.intro n36_3_eq (And.intro n36_2_eq (And.intro n36_1_eq (n36_0_eq))))))))))))))))))))))))))))))
end Go.Vab

/-
  The document's filling up and POLYVAL, walked.
-/
namespace Go.Vab
open Go Go.Proofs

@[simp] theorem fillRow_nil (t : Ty) (r : AV) : fillRow t r [] = some r := rfl
@[simp] theorem fillRow_cons (n i : Nat) (f : Nat → BitVec 8) (x : BitVec 8) (ps : List (Nat × AV)) : fillRow (.arr n (.int .u8)) (arr n f) ((i, u8 x) :: ps) = if i < n then fillRow (.arr n (.int .u8)) (arr n (upd f i x)) ps else none := by
  simp only [fillRow, arr_put]
  by_cases h : i < n
  · simp [h]
  · simp [h]
theorem zeroRow_u8 (n : Nat) : zeroRow n (u8 0#8) = arr n fun _ => 0#8 := repl_arr n
@[simp] theorem mBuildSlice_u8 (n : Nat) (ps : List (Nat × AV)) (h : Heap) (hn : n ≤ 16777216) : mBuildSlice (.int .u8) (u8 0#8) n ps h = bnd (fillRow (.arr n (.int .u8)) (arr n fun _ => 0#8) ps) fun r => some (.slice h.length 0 [] (.int .u8) 0 n (some n), h ++ [⟨r, 0, .own⟩]) := by
  unfold mBuildSlice
  rw [zeroRow_u8]
  congr 1
  funext r
  rw [if_pos (by simp [Ty.size, hn])]

/-- The number of bytes, filled up; the bytes. -/
def upN (n : Nat) : Nat := 16 * ((n + 15) / 16)
def fullF (n : Nat) (g : Nat → BitVec 8) : Nat → BitVec 8 := fun j => if j < n then g j else 0#8
theorem fullF_congr {n : Nat} {g f : Nat → BitVec 8} (h : ∀ i, i < n → g i = f i) : ∀ j, fullF n g j = fullF n f j := fun j => by
  unfold fullF
  split
  · exact h j (by assumption)
  · rfl

def H58 (h : Heap) (m : Nat) (f : Nat → BitVec 8) (tr : Heap) : Heap := h ++ (⟨arr 0 fun _ => 0#8, 0, .own⟩ :: ⟨arr m f, m, .open⟩ :: tr)

theorem walk58 (call : Calling) (h : Heap) (b : AV) (n : Nat) (g : Nat → BitVec 8) (hb : Byt h b n g) (hn : n < 100000000) :
    ∃ tr, evBody (cx58 call) Try.f58 n58_0 [b] h = some (.slice (h.length + 1) (upN n) [] (.int .u8) 0 (upN n) none, h ++ tr) ∧ tr[1]? = some ⟨arr (upN n) (fullF n g), upN n, .open⟩ := by
  have lb := hb.len
  have eb := hb.elems
  have e00 : ∀ m, upN n = n + m → m < 16 := fun m q => by unfold upN at q; omega
  obtain ⟨p, hp⟩ : ∃ p, upN n = n + p := ⟨upN n - n, by unfold upN; omega⟩
  have hp16 := e00 p hp
  have hp0 : (n + p) % 16 = 0 := by rw [← hp]; unfold upN; omega
  rw [b58]
  have main : Evs (evC (cx58 call) n58_0 ⟨[(0, b), (1, .junk), (2, .junk), (3, .junk), (10, .junk)], h⟩) (fun r => ∃ env tr, r = (.ret, ⟨env, h ++ tr⟩) ∧ env.get 2 = .slice (h.length + 1) (upN n) [] (.int .u8) 0 (upN n) none ∧ tr[1]? = some ⟨arr (upN n) (fullF n g), upN n, .open⟩) := by
    obtain ⟨env, he⟩ : ∃ env : Env, env = [(0, b), (1, .junk), (2, .junk), (3, .junk), (10, .junk)] := ⟨_, rfl⟩
    rw [← he]
    have g0 : env.get 0 = b := by rw [he]; rfl
    clear he
    repeat (first
      | (with_reducible refine Evs.assoc ?_)
      | ((with_reducible refine Evs.some_bnd ?_); try dsimp only [sqK_nrm, sqK_exit, sqK_ret])
      | ((with_reducible apply Evs.bcndT); (focus (simp (disch := omega) [g0, lb, eb] <;> omega)))
      | ((with_reducible apply Evs.bcndF); (focus (simp (disch := omega) [g0, lb, eb] <;> omega)))
      | ((with_reducible apply Evs.step); (focus ((conv => lhs; simp (disch := omega) [g0, lb, eb]); done)); try dsimp only)
      | (simp only [sn58, sqK_nrm, sqK_exit, sqK_ret, inBlk_nrm, inBlk_ret, inBlk_same]))
    refine Evs.bnd (Q := fun r => ∃ env' tr f, r = (.exit 0, ⟨env', H58 h (n + p) f tr⟩) ∧ env'.get 3 = .slice (h.length + 1) (n + p) [] (.int .u8) 0 (n + p) none ∧ ∀ j, j < n + p → f j = fullF n g j) ?_ ?_
    · refine Evs.up p (fun i s => ∃ env' tr f, s = ⟨env', H58 h (n + i) f tr⟩ ∧ env'.get 3 = .slice (h.length + 1) (n + i) [] (.int .u8) 0 (n + i) none ∧ ∀ j, j < n + i → f j = fullF n g j) ?_ ?_
        ⟨_, [], _, rfl, by simp, fun j hj => by simp [fullF, show j < n by omega]⟩
      · rintro i s hi ⟨env', tr, f, rfl, e3, hf⟩
        unfold H58
        have q : ¬ (n + i) % 16 = 0 := by omega
        have e1 : mBin .rem (nat (n + i)) (nat 16) = some (nat ((n + i) % 16)) := nat_rem (by decide)
        repeat (first
          | (with_reducible refine Evs.assoc ?_)
          | ((with_reducible refine Evs.some_bnd ?_); try dsimp only [sqK_nrm, sqK_exit, sqK_ret])
          | ((with_reducible apply Evs.bcndT); (focus (simp (disch := omega) [e3, e1, q] <;> omega)))
          | ((with_reducible apply Evs.bcndF); (focus (simp (disch := omega) [e3, e1, q] <;> omega)))
          | ((with_reducible apply Evs.step); (focus ((conv => lhs; simp (disch := omega) [e3, e1, q]); done)); try dsimp only)
          | (simp only [sn58, sqK_nrm, sqK_exit, sqK_ret, inBlk_nrm, inBlk_ret, inBlk_same]))
        refine Evs.ret ⟨rfl, _, _, _, rfl, by simp; rfl, fun j hj => ?_⟩
        by_cases hlt : j < n + i
        · simp only [hlt, if_true]; exact hf j hlt
        · simp [hlt, fullF, show ¬ j < n by omega, upd]
      · rintro s ⟨env', tr, f, rfl, e3, hf⟩
        have e1 : mBin .rem (nat (n + p)) (nat 16) = some (nat 0) := by rw [nat_rem (by decide), hp0]
        repeat (first
          | (with_reducible refine Evs.assoc ?_)
          | ((with_reducible refine Evs.some_bnd ?_); try dsimp only [sqK_nrm, sqK_exit, sqK_ret])
          | ((with_reducible apply Evs.bcndT); (focus (simp (disch := omega) [e3, e1] <;> omega)))
          | ((with_reducible apply Evs.bcndF); (focus (simp (disch := omega) [e3, e1] <;> omega)))
          | ((with_reducible apply Evs.step); (focus ((conv => lhs; simp (disch := omega) [e3, e1]); done)); try dsimp only)
          | (simp only [sn58, sqK_nrm, sqK_exit, sqK_ret, inBlk_nrm, inBlk_ret, inBlk_same]))
        exact Evs.ret ⟨by simp, _, _, _, rfl, by simp [e3], hf⟩
    · rintro r ⟨env', tr, f, rfl, e3, hf⟩
      unfold H58
      repeat (first
        | (with_reducible refine Evs.assoc ?_)
        | ((with_reducible refine Evs.some_bnd ?_); try dsimp only [sqK_nrm, sqK_exit, sqK_ret])
        | ((with_reducible apply Evs.bcndT); (focus (simp (disch := omega) [e3] <;> omega)))
        | ((with_reducible apply Evs.bcndF); (focus (simp (disch := omega) [e3] <;> omega)))
        | ((with_reducible apply Evs.step); (focus ((conv => lhs; simp (disch := omega) [e3]); done)); try dsimp only)
        | (simp only [sn58, sqK_nrm, sqK_exit, sqK_ret, inBlk_nrm, inBlk_ret, inBlk_same]))
      refine Evs.ret ⟨_, _, rfl, by simp [e3, hp], ?_⟩
      simp only [List.getElem?_cons_succ, List.getElem?_cons_zero]
      rw [hp, arr_congr hf]
  obtain ⟨r, hr, env, tr, rfl, e0, e1⟩ := main
  refine ⟨tr, ?_, e1⟩
  rw [hr]
  simp [e0, oneOrTuple]

noncomputable def c58 := conC (fun x : (AV) × (Nat) × (Nat → BitVec 8) => [x.1]) (fun (x : (AV) × (Nat) × (Nat → BitVec 8)) h => Byt h x.1 x.2.1 x.2.2 ∧ x.2.1 < 100000000) (fun (x : (AV) × (Nat) × (Nat → BitVec 8)) h => (.slice h.length (upN x.2.1) [] (.int .u8) 0 (upN x.2.1) none, h ++ [(⟨arr (upN x.2.1) (fullF x.2.1 x.2.2), upN x.2.1, .open⟩ : Blk)]))
noncomputable def callS21 : Calling := addC callS20 58 c58
theorem c58_eq (b : AV) (n : Nat) (g : Nat → BitVec 8) (h : Heap) (hc : Byt h b n g ∧ n < 100000000) : c58 [b] h = some (.slice h.length (upN n) [] (.int .u8) 0 (upN n) none, h ++ [(⟨arr (upN n) (fullF n g), upN n, .open⟩ : Blk)]) :=
  conC_eqP (enc := fun x : (AV) × (Nat) × (Nat → BitVec 8) => [x.1]) (P := fun (x : (AV) × (Nat) × (Nat → BitVec 8)) h => Byt h x.1 x.2.1 x.2.2 ∧ x.2.1 < 100000000) (a := (b, n, g)) (f := fun (x : (AV) × (Nat) × (Nat → BitVec 8)) h => (.slice h.length (upN x.2.1) [] (.int .u8) 0 (upN x.2.1) none, h ++ [(⟨arr (upN x.2.1) (fullF x.2.1 x.2.2), upN x.2.1, .open⟩ : Blk)])) (fun x y h hp hq e => by
    have e3 := (List.cons.inj e).1
    rw [e3] at hp
    obtain ⟨e4, e5⟩ := hp.1.det hq.1
    rw [← e4, arr_congr fun i _ => fullF_congr e5 i]
    ) hc
theorem callS21_ok : CallOK Try.prog callS21 := addC_con callS20_ok k58 fun x h hx => by
  obtain ⟨t, ht, h1⟩ := walk58 callS20 h _ _ _ hx.1 hx.2
  exact (s58 callS20_ok ht).pull t 1 _ h1 ⟨_, _, rfl⟩
@[simp] theorem callS21_ne {f : Nat} (args : List AV) (h : Heap) (hf : f ≠ 58) : callS21 f args h = callS20 f args h := addC_ne _ _ _ args h hf
@[simp] theorem callS21_sne {f : Nat} (args : List AV) (h : Heap) (hf : f ≠ 58) : still callS21 f args h = still callS20 f args h := still_ne _ _ _ args h hf
theorem callS21_58 (b : AV) (n : Nat) (g : Nat → BitVec 8) (h : Heap) (hc : Byt h b n g ∧ n < 100000000) : callS21 58 [b] h = some (.slice h.length (upN n) [] (.int .u8) 0 (upN n) none, h ++ [(⟨arr (upN n) (fullF n g), upN n, .open⟩ : Blk)]) := by
  unfold callS21; rw [addC_same]; exact c58_eq b n g h hc

def H36 (h : Heap) (y s : Nat → BitVec 8) (n : Nat) (g : Nat → BitVec 8) : Heap := h ++ [⟨arr 16 y, 0, .own⟩, ⟨arr 16 fun _ => 0#8, 0, .own⟩, ⟨arr 16 s, 0, .own⟩, ⟨arr (upN n) (fullF n g), upN n, .open⟩]
def B36 (L N : Nat) (env : Env) : Prop := env.get 2 = .ptr L 0 [] (.arr 16 (.int .u8)) ∧ env.get 4 = .ptr (L + 1) 0 [] (.arr 16 (.int .u8)) ∧ env.get 5 = .ptr (L + 2) 0 [] (.arr 16 (.int .u8)) ∧ env.get 6 = .slice (L + 3) N [] (.int .u8) 0 N none
theorem B36.same {L N : Nat} {env env' : Env} (h : B36 L N env) (hs : Same [2, 4, 5, 6] env env') : B36 L N env' :=
  ⟨by rw [hs.get 2 rfl]; exact h.1, by rw [hs.get 4 rfl]; exact h.2.1, by rw [hs.get 5 rfl]; exact h.2.2.1, by rw [hs.get 6 rfl]; exact h.2.2.2⟩

theorem walk36 (h : Heap) (y : Nat → BitVec 8) (b : AV) (n : Nat) (g : Nat → BitVec 8) (hb : Byt h b n g) (hn : n < 100000000) : ∃ t, evBody (cx36 callS21) Try.f36 n36_0 [arr 16 y, b] h = some (arr 16 (bytesX (polyX 0#128 (val16 y) n g)), h ++ t) := by
  have k58 : ∀ l, callS21 58 [b] (h ++ l) = some (.slice (h ++ l).length (upN n) [] (.int .u8) 0 (upN n) none, h ++ l ++ [⟨arr (upN n) (fullF n g), upN n, .open⟩]) := fun l => callS21_58 b n g (h ++ l) ⟨hb.app l, hn⟩
  have hN : upN n = 16 * ((n + 15) / 16) := rfl
  have hN2 : upN n < 100000020 := by unfold upN; omega
  rw [b36]
  have main : Evs (evC (cx36 callS21) n36_0 ⟨[(0, arr 16 y), (1, b), (2, .junk), (3, .junk), (4, .junk), (5, .junk), (6, .junk), (7, .junk), (8, .junk), (14, .junk), (18, .junk)], h⟩) (fun r => ∃ env t, r = (.ret, ⟨env, h ++ t⟩) ∧ mLoad (.arr 16 (.int .u8)) (env.get 4) (h ++ t) = some (arr 16 (bytesX (polyX 0#128 (val16 y) n g)))) := by
    obtain ⟨env, he⟩ : ∃ env : Env, env = [(0, arr 16 y), (1, b), (2, .junk), (3, .junk), (4, .junk), (5, .junk), (6, .junk), (7, .junk), (8, .junk), (14, .junk), (18, .junk)] := ⟨_, rfl⟩
    rw [← he]
    have g0 : env.get 0 = arr 16 y := by rw [he]; rfl
    have g1 : env.get 1 = b := by rw [he]; rfl
    clear he
    repeat (first
      | (with_reducible refine Evs.assoc ?_)
      | ((with_reducible refine Evs.some_bnd ?_); try dsimp only [sqK_nrm, sqK_exit, sqK_ret])
      | ((with_reducible apply Evs.bcndT); (focus (simp (disch := omega) [g0, g1, k58] <;> omega)))
      | ((with_reducible apply Evs.bcndF); (focus (simp (disch := omega) [g0, g1, k58] <;> omega)))
      | ((with_reducible apply Evs.step); (focus ((conv => lhs; simp (disch := omega) [g0, g1, k58]); done)); try dsimp only)
      | (simp only [sn36, sqK_nrm, sqK_exit, sqK_ret, inBlk_nrm, inBlk_ret, inBlk_same]))
    refine Evs.bnd (Q := fun r => ∃ env' s, r = (.exit 0, ⟨env', H36 h y s n g⟩) ∧ B36 h.length (upN n) env' ∧ ∀ j, j < 16 → s j = bytesX (polyX 0#128 (val16 y) n g) j) ?_ ?_
    · refine Evs.up ((n + 15) / 16) (fun i st => ∃ env' s, st = ⟨env', H36 h y s n g⟩ ∧ B36 h.length (upN n) env' ∧ env'.get 7 = nat (16 * i) ∧ ∀ j, j < 16 → s j = bytesX (onX 0#128 (val16 y) n g i) j) ?_ ?_
        ⟨_, _, rfl, ⟨by simp, by simp, by simp, by simp⟩, by simp, fun j _ => by simp [onX, bytesX]⟩
      · rintro i st hi ⟨env', s, rfl, ⟨e2, e4, e5, e6⟩, e7, hs⟩
        have hlt : 16 * i < upN n := by omega
        unfold H36
        repeat (first
          | (with_reducible refine Evs.assoc ?_)
          | ((with_reducible refine Evs.some_bnd ?_); try dsimp only [sqK_nrm, sqK_exit, sqK_ret])
          | ((with_reducible apply Evs.bcndT); (focus (simp (disch := omega) [e2, e4, e5, e6, e7] <;> omega)))
          | ((with_reducible apply Evs.bcndF); (focus (simp (disch := omega) [e2, e4, e5, e6, e7] <;> omega)))
          | ((with_reducible apply Evs.step); (focus ((conv => lhs; simp (disch := omega) [e2, e4, e5, e6, e7]); done)); try dsimp only)
          | (simp only [sn36, sqK_nrm, sqK_exit, sqK_ret, inBlk_nrm, inBlk_ret, inBlk_same]))
        refine Evs.bnd (Q := fun r => ∃ env2 f, r = (.exit 2, ⟨env2, H36 h y f n g⟩) ∧ Same [2, 4, 5, 6, 7] env' env2 ∧ ∀ j, j < 16 → f j = s j ^^^ fullF n g (16 * i + j)) ?_ ?_
        · refine Evs.up 16 (fun k st => ∃ env2 f, st = ⟨env2, H36 h y f n g⟩ ∧ Same [2, 4, 5, 6, 7] env' env2 ∧ env2.get 8 = nat k ∧ ∀ j, j < 16 → f j = if j < k then s j ^^^ fullF n g (16 * i + j) else s j) ?_ ?_
            ⟨_, _, rfl, by repeat (first | exact Same.refl _ _ | refine Same.put rfl ?_), by simp, fun j _ => by simp⟩
          · rintro k st hk ⟨env2, f, rfl, hs2, c8, hf⟩
            have c5 := (hs2.get 5 rfl).trans e5
            have c6 := (hs2.get 6 rfl).trans e6
            have c7 := (hs2.get 7 rfl).trans e7
            have hik : 16 * i + k < upN n := by omega
            unfold H36
            repeat (first
              | (with_reducible refine Evs.assoc ?_)
              | ((with_reducible refine Evs.some_bnd ?_); try dsimp only [sqK_nrm, sqK_exit, sqK_ret])
              | ((with_reducible apply Evs.bcndT); (focus (simp (disch := omega) [c5, c6, c7, c8] <;> omega)))
              | ((with_reducible apply Evs.bcndF); (focus (simp (disch := omega) [c5, c6, c7, c8] <;> omega)))
              | ((with_reducible apply Evs.step); (focus ((conv => lhs; simp (disch := omega) [c5, c6, c7, c8]); done)); try dsimp only)
              | (simp only [sn36, sqK_nrm, sqK_exit, sqK_ret, inBlk_nrm, inBlk_ret, inBlk_same]))
            refine Evs.ret ⟨rfl, _, _, rfl, by repeat (first | exact hs2 | refine Same.put rfl ?_), by simp, fun j hj => ?_⟩
            by_cases hjk : j = k
            · subst hjk
              rw [upd_same, hf j hj, if_neg (Nat.lt_irrefl _), if_pos (Nat.lt_succ_self _)]
            · rw [upd_ne _ _ hjk, hf j hj]
              by_cases hlt : j < k
              · rw [if_pos hlt, if_pos (by omega)]
              · rw [if_neg hlt, if_neg (by omega)]
          · rintro st ⟨env2, f, rfl, hs2, c8, hf⟩
            repeat (first
              | (with_reducible refine Evs.assoc ?_)
              | ((with_reducible refine Evs.some_bnd ?_); try dsimp only [sqK_nrm, sqK_exit, sqK_ret])
              | ((with_reducible apply Evs.bcndT); (focus (simp (disch := omega) [c8] <;> omega)))
              | ((with_reducible apply Evs.bcndF); (focus (simp (disch := omega) [c8] <;> omega)))
              | ((with_reducible apply Evs.step); (focus ((conv => lhs; simp (disch := omega) [c8]); done)); try dsimp only)
              | (simp only [sn36, sqK_nrm, sqK_exit, sqK_ret, inBlk_nrm, inBlk_ret, inBlk_same]))
            exact Evs.ret ⟨by simp, _, _, rfl, by repeat (first | exact hs2 | refine Same.put rfl ?_), fun j hj => by rw [hf j hj, if_pos hj]⟩
        · rintro r ⟨env2, f, rfl, hs2, hf⟩
          have c2 := (hs2.get 2 rfl).trans e2
          have c4 := (hs2.get 4 rfl).trans e4
          have c5 := (hs2.get 5 rfl).trans e5
          have c6 := (hs2.get 6 rfl).trans e6
          have c7 := (hs2.get 7 rfl).trans e7
          unfold H36
          repeat (first
            | (with_reducible refine Evs.assoc ?_)
            | ((with_reducible refine Evs.some_bnd ?_); try dsimp only [sqK_nrm, sqK_exit, sqK_ret])
            | ((with_reducible apply Evs.bcndT); (focus (simp (disch := omega) [c2, c4, c5, c6, c7] <;> omega)))
            | ((with_reducible apply Evs.bcndF); (focus (simp (disch := omega) [c2, c4, c5, c6, c7] <;> omega)))
            | ((with_reducible apply Evs.step); (focus ((conv => lhs; simp (disch := omega) [c2, c4, c5, c6, c7]); done)); try dsimp only)
            | (simp only [sn36, sqK_nrm, sqK_exit, sqK_ret, inBlk_nrm, inBlk_ret, inBlk_same]))
          refine Evs.ret ⟨rfl, _, _, rfl, ⟨by simp [c2], by simp [c4], by simp [c5], by simp [c6]⟩, by rw [show 16 * (i + 1) = 16 * i + 16 by omega]; simp, fun j hj => ?_⟩
          have ev : val16 f = onX 0#128 (val16 y) n g i ^^^ val16 (blkF n g i) := by
            rw [val16_congr (f := fun j => bytesX (onX 0#128 (val16 y) n g i) j ^^^ blkF n g i j) (fun j hj => by rw [hf j hj, hs j hj]; rfl), val16_xor, val_bytes]
          unfold dotB
          rw [ev]
          rfl
      · rintro st ⟨env', s, rfl, hB, e7, hs⟩
        have e6 := hB.2.2.2
        rw [← hN] at e7
        repeat (first
          | (with_reducible refine Evs.assoc ?_)
          | ((with_reducible refine Evs.some_bnd ?_); try dsimp only [sqK_nrm, sqK_exit, sqK_ret])
          | ((with_reducible apply Evs.bcndT); (focus (simp (disch := omega) [e6, e7] <;> omega)))
          | ((with_reducible apply Evs.bcndF); (focus (simp (disch := omega) [e6, e7] <;> omega)))
          | ((with_reducible apply Evs.step); (focus ((conv => lhs; simp (disch := omega) [e6, e7]); done)); try dsimp only)
          | (simp only [sn36, sqK_nrm, sqK_exit, sqK_ret, inBlk_nrm, inBlk_ret, inBlk_same]))
        exact Evs.ret ⟨by simp, _, _, rfl, hB.same (by repeat (first | exact Same.refl _ _ | refine Same.put rfl ?_)), hs⟩
    · rintro r ⟨env', s, rfl, ⟨e2, e4, e5, e6⟩, hs⟩
      unfold H36
      repeat (first
        | (with_reducible refine Evs.assoc ?_)
        | ((with_reducible refine Evs.some_bnd ?_); try dsimp only [sqK_nrm, sqK_exit, sqK_ret])
        | ((with_reducible apply Evs.bcndT); (focus (simp (disch := omega) [e4, e5] <;> omega)))
        | ((with_reducible apply Evs.bcndF); (focus (simp (disch := omega) [e4, e5] <;> omega)))
        | ((with_reducible apply Evs.step); (focus ((conv => lhs; simp (disch := omega) [e4, e5]); done)); try dsimp only)
        | (simp only [sn36, sqK_nrm, sqK_exit, sqK_ret, inBlk_nrm, inBlk_ret, inBlk_same]))
      refine Evs.ret ⟨_, _, rfl, ?_⟩
      simp [e4]
      exact arr_congr hs
  obtain ⟨r, hr, env, t, rfl, e0⟩ := main
  refine ⟨t, ?_⟩
  rw [hr]
  simp [e0, oneOrTuple]

noncomputable def c36 := conC (fun x : (Nat → BitVec 8) × (AV) × (Nat) × (Nat → BitVec 8) => [arr 16 x.1, x.2.1]) (fun (x : (Nat → BitVec 8) × (AV) × (Nat) × (Nat → BitVec 8)) h => Byt h x.2.1 x.2.2.1 x.2.2.2 ∧ x.2.2.1 < 100000000) (fun (x : (Nat → BitVec 8) × (AV) × (Nat) × (Nat → BitVec 8)) h => (arr 16 (bytesX (polyX 0#128 (val16 x.1) x.2.2.1 x.2.2.2)), h))
noncomputable def callS22 : Calling := addC callS21 36 c36
theorem c36_eq (y : Nat → BitVec 8) (b : AV) (n : Nat) (g : Nat → BitVec 8) (h : Heap) (hc : Byt h b n g ∧ n < 100000000) : c36 [arr 16 y, b] h = some (arr 16 (bytesX (polyX 0#128 (val16 y) n g)), h) :=
  conC_eqP (enc := fun x : (Nat → BitVec 8) × (AV) × (Nat) × (Nat → BitVec 8) => [arr 16 x.1, x.2.1]) (P := fun (x : (Nat → BitVec 8) × (AV) × (Nat) × (Nat → BitVec 8)) h => Byt h x.2.1 x.2.2.1 x.2.2.2 ∧ x.2.2.1 < 100000000) (a := (y, b, n, g)) (f := fun (x : (Nat → BitVec 8) × (AV) × (Nat) × (Nat → BitVec 8)) h => (arr 16 (bytesX (polyX 0#128 (val16 x.1) x.2.2.1 x.2.2.2)), h)) (fun x y h hp hq e => by
    have e1 := arr_inj.1 (List.cons.inj e).1
    have e3 := (List.cons.inj (List.cons.inj e).2).1
    rw [e3] at hp
    obtain ⟨e4, e5⟩ := hp.1.det hq.1
    rw [val16_congr e1, e4]
    rw [polyX_congr (by rw [← e4]; exact e5)]
    ) hc
theorem callS22_ok : CallOK Try.prog callS22 := addC_con callS21_ok k36 fun x h hx => by
  obtain ⟨t, ht⟩ := walk36 h _ _ _ _ hx.1 hx.2
  exact (s36 callS21_ok ht).drop0 t rfl
@[simp] theorem callS22_ne {f : Nat} (args : List AV) (h : Heap) (hf : f ≠ 36) : callS22 f args h = callS21 f args h := addC_ne _ _ _ args h hf
@[simp] theorem callS22_sne {f : Nat} (args : List AV) (h : Heap) (hf : f ≠ 36) : still callS22 f args h = still callS21 f args h := still_ne _ _ _ args h hf
theorem callS22_36 (y : Nat → BitVec 8) (b : AV) (n : Nat) (g : Nat → BitVec 8) (h : Heap) (hc : Byt h b n g ∧ n < 100000000) : callS22 36 [arr 16 y, b] h = some (arr 16 (bytesX (polyX 0#128 (val16 y) n g)), h) := by
  unfold callS22; rw [addC_same]; exact c36_eq y b n g h hc
theorem callS22_36s (y : Nat → BitVec 8) (b : AV) (n : Nat) (g : Nat → BitVec 8) (h : Heap) (hc : Byt h b n g ∧ n < 100000000) : still callS22 36 [arr 16 y, b] h = some (arr 16 (bytesX (polyX 0#128 (val16 y) n g)), h) := still_of fun tt => callS22_36 y b n g (h ++ tt) (⟨hc.1.app tt, hc.2⟩)

end Go.Vab

/- How the evaluator reads the functions of a seat. Printed by wip/tools/gen.py (own work). -/
namespace Go.Vab
open Go Go.Proofs
/-! vestry/vestryref09.first -/
noncomputable def cx57 (call : Calling) : Ctx := ⟨call, TT, 45, [11, 12, 13, 14, 16, 17, 18, 19, 20, 21, 22, 23, 24, 25, 26, 27, 28, 29, 30, 31, 32, 33, 34, 35, 36, 37, 38, 39, 40, 41, 42, 43, 44]⟩
noncomputable def n57_0 : Code := bodyOf Try.f57
noncomputable def n57_1 : Code := cR n57_0
noncomputable def n57_2 : Code := cR n57_1
noncomputable def n57_3 : Code := cL n57_2
noncomputable def n57_4 : Code := cR n57_3
noncomputable def n57_5 : Code := cB n57_4
noncomputable def n57_6 : Code := cB n57_5
noncomputable def n57_7 : Code := cL n57_6
noncomputable def n57_8 : Code := cR n57_7
noncomputable def n57_9 : Code := cL n57_8
noncomputable def n57_10 : Code := cR n57_8
noncomputable def n57_11 : Code := cR n57_6
noncomputable def n57_12 : Code := cL n57_11
noncomputable def n57_13 : Code := cB n57_12
noncomputable def n57_14 : Code := cR n57_11
noncomputable def n57_15 : Code := cR n57_2
noncomputable def n57_16 : Code := cR n57_15
noncomputable def n57_17 : Code := cR n57_16
@[simp] theorem n57_9_eq (call : Calling) (s : St) : evC (cx57 call) n57_9 s = some (.nrm, s) := xK
@[simp] theorem n57_10_eq (call : Calling) (s : St) : evC (cx57 call) n57_10 s = some (.exit 0, s) := xX 0
@[simp] theorem n57_8_eq (call : Calling) (s : St) : evC (cx57 call) n57_8 s = cnd (s.env.get 15) (evC (cx57 call) n57_9 s) (evC (cx57 call) n57_10 s) := xC 15 _ _
@[simp] theorem n57_7_eq (call : Calling) (env : Env) (h : Heap) : evC (cx57 call) n57_7 ⟨env, h⟩ = (bnd (pureV h (mBin .lss (env.get 10) (nat 12))) fun r1 => evC (cx57 call) n57_8 ⟨(Env.put env 15 r1.1), r1.2⟩) := (xSR 3 (cOps (cL n57_7)) (cR n57_7)).trans (by
  refine opsK_0 ?_
  refine oT 14 (env.get 10) ?_
  refine oP 15 fun r1 => ?_
  exact oE)
@[simp] theorem n57_13_eq (call : Calling) (env : Env) (h : Heap) : evC (cx57 call) n57_13 ⟨env, h⟩ = (bnd (pureV h (mBin .add (nat 4) (env.get 10))) fun r1 => bnd (pureV r1.2 (mIdxA (.arr 12 (.int .u8)) (env.get 5) (env.get 10))) fun r3 => bnd (pureV r3.2 (mLoad (.int .u8) r3.1 r3.2)) fun r4 => bnd (pureV r4.2 (mIdxA (.arr 16 (.int .u8)) (env.get 9) r1.1)) fun r5 => bnd (stU (.int .u8) r5.1 r4.1 r5.2) fun r6 => some (.nrm, ⟨env, r6.2⟩)) := (xR 5 (cOps n57_13)).trans (by
  refine opsK_0 ?_
  refine oT 18 (env.get 10) ?_
  refine oP 19 fun r1 => ?_
  refine oT 20 (env.get 10) ?_
  refine oP 21 fun r3 => ?_
  refine oP 22 fun r4 => ?_
  refine oP 23 fun r5 => ?_
  refine oN fun r6 => ?_
  exact oE)
@[simp] theorem n57_12_eq (call : Calling) (s : St) : evC (cx57 call) n57_12 s = bnd (evC (cx57 call) n57_13 s) fun r => some (inBlk 1 r) := xB 1 _
@[simp] theorem n57_14_eq (call : Calling) (env : Env) (h : Heap) : evC (cx57 call) n57_14 ⟨env, h⟩ = (bnd (pureV h (mBin .add (env.get 10) (nat 1))) fun r1 => some (.nrm, ⟨(Env.put env 10 r1.1), r1.2⟩)) := (xR 4 (cOps n57_14)).trans (by
  refine opsK_0 ?_
  refine oT 16 (env.get 10) ?_
  refine oP 17 fun r1 => ?_
  refine oT 10 r1.1 ?_
  exact oE)
@[simp] theorem n57_11_eq (call : Calling) (s : St) : evC (cx57 call) n57_11 s = bnd (evC (cx57 call) n57_12 s) (sqK (evC (cx57 call) n57_14)) := xS _ _
@[simp] theorem n57_6_eq (call : Calling) (s : St) : evC (cx57 call) n57_6 s = bnd (evC (cx57 call) n57_7 s) (sqK (evC (cx57 call) n57_11)) := xS _ _
@[simp] theorem n57_5_eq (call : Calling) (s : St) : evC (cx57 call) n57_5 s = evLoop (evC (cx57 call) n57_6) s := xL _
@[simp] theorem n57_4_eq (call : Calling) (s : St) : evC (cx57 call) n57_4 s = bnd (evC (cx57 call) n57_5 s) fun r => some (inBlk 0 r) := xB 0 _
@[simp] theorem n57_3_eq (call : Calling) (env : Env) (h : Heap) : evC (cx57 call) n57_3 ⟨env, h⟩ = ( evC (cx57 call) n57_4 ⟨(Env.put env 10 (nat 0)), h⟩) := (xSR 2 (cOps (cL n57_3)) (cR n57_3)).trans (by
  refine opsK_0 ?_
  refine oT 10 (nat 0) ?_
  exact oE)
@[simp] theorem n57_17_eq (call : Calling) (s : St) : evC (cx57 call) n57_17 s = some (.ret, s) := xE
@[simp] theorem n57_16_eq (call : Calling) (env : Env) (h : Heap) : evC (cx57 call) n57_16 ⟨env, h⟩ = (bnd (pureV h (mIdxA (.arr 16 (.int .u8)) (env.get 9) (nat 0))) fun r0 => bnd (pureV r0.2 (mLoad (.int .u8) r0.1 r0.2)) fun r1 => bnd (pureV r1.2 (mIdxA (.arr 16 (.int .u8)) (env.get 9) (nat 1))) fun r2 => bnd (pureV r2.2 (mLoad (.int .u8) r2.1 r2.2)) fun r3 => bnd (pureV r3.2 (mIdxA (.arr 16 (.int .u8)) (env.get 9) (nat 2))) fun r4 => bnd (pureV r4.2 (mLoad (.int .u8) r4.1 r4.2)) fun r5 => bnd (pureV r5.2 (mIdxA (.arr 16 (.int .u8)) (env.get 9) (nat 3))) fun r6 => bnd (pureV r6.2 (mLoad (.int .u8) r6.1 r6.2)) fun r7 => bnd (pureV r7.2 (mIdxA (.arr 16 (.int .u8)) (env.get 9) (nat 4))) fun r8 => bnd (pureV r8.2 (mLoad (.int .u8) r8.1 r8.2)) fun r9 => bnd (pureV r9.2 (mIdxA (.arr 16 (.int .u8)) (env.get 9) (nat 5))) fun r10 => bnd (pureV r10.2 (mLoad (.int .u8) r10.1 r10.2)) fun r11 => bnd (pureV r11.2 (mIdxA (.arr 16 (.int .u8)) (env.get 9) (nat 6))) fun r12 => bnd (pureV r12.2 (mLoad (.int .u8) r12.1 r12.2)) fun r13 => bnd (pureV r13.2 (mIdxA (.arr 16 (.int .u8)) (env.get 9) (nat 7))) fun r14 => bnd (pureV r14.2 (mLoad (.int .u8) r14.1 r14.2)) fun r15 => bnd (mBuildSlice (.int .u8) (u8 0#8) 8 [(0, r1.1), (1, r3.1), (2, r5.1), (3, r7.1), (4, r9.1), (5, r11.1), (6, r13.1), (7, r15.1)] r15.2) fun r16 => evC (cx57 call) n57_17 ⟨(Env.put env 8 r16.1), r16.2⟩) := (xSR 7 (cOps (cL n57_16)) (cR n57_16)).trans (by
  refine opsK_0 ?_
  refine oP 28 fun r0 => ?_
  refine oP 29 fun r1 => ?_
  refine oP 30 fun r2 => ?_
  refine oP 31 fun r3 => ?_
  refine oP 32 fun r4 => ?_
  refine oP 33 fun r5 => ?_
  refine oP 34 fun r6 => ?_
  refine oP 35 fun r7 => ?_
  refine oP 36 fun r8 => ?_
  refine oP 37 fun r9 => ?_
  refine oP 38 fun r10 => ?_
  refine oP 39 fun r11 => ?_
  refine oP 40 fun r12 => ?_
  refine oP 41 fun r13 => ?_
  refine oP 42 fun r14 => ?_
  refine oP 43 fun r15 => ?_
  refine oP 44 fun r16 => ?_
  refine oT 8 r16.1 ?_
  exact oE)
@[simp] theorem n57_15_eq (call : Calling) (env : Env) (h : Heap) : evC (cx57 call) n57_15 ⟨env, h⟩ = (bnd (pureV h (mLoad (.arr 32 (.int .u8)) (env.get 4) h)) fun r0 => bnd (pureV r0.2 (mLoad (.arr 16 (.int .u8)) (env.get 9) r0.2)) fun r1 => bnd (pureV r1.2 (mLoad (.arr 256 (.int .u8)) (env.get 7) r1.2)) fun r2 => bnd (call 42 [r0.1, r1.1, r2.1] r2.2) fun r3 => bnd (stU (.arr 16 (.int .u8)) (env.get 9) r3.1 r3.2) fun r4 => evC (cx57 call) n57_16 ⟨env, r4.2⟩) := (xSR 6 (cOps (cL n57_15)) (cR n57_15)).trans (by
  refine opsK_0 ?_
  refine oP 24 fun r0 => ?_
  refine oP 25 fun r1 => ?_
  refine oP 26 fun r2 => ?_
  refine oP 27 fun r3 => ?_
  refine oN fun r4 => ?_
  exact oE)
@[simp] theorem n57_2_eq (call : Calling) (s : St) : evC (cx57 call) n57_2 s = bnd (evC (cx57 call) n57_3 s) (sqK (evC (cx57 call) n57_15)) := xS _ _
@[simp] theorem n57_1_eq (call : Calling) (env : Env) (h : Heap) : evC (cx57 call) n57_1 ⟨env, h⟩ = (bnd (pureV h (mConv .u8 (env.get 2))) fun r1 => bnd (pureV r1.2 (fillRow (.arr 16 (.int .u8)) (arr 16 fun _ => 0#8) [(0, r1.1)])) fun r2 => bnd (mNew (.arr 16 (.int .u8)) (arr 16 fun _ => 0#8) r2.2) fun r3 => bnd (stU (.arr 16 (.int .u8)) r3.1 r2.1 r3.2) fun r4 => evC (cx57 call) n57_2 ⟨(Env.put env 9 r3.1), r4.2⟩) := (xSR 1 (cOps (cL n57_1)) (cR n57_1)).trans (by
  refine opsK_0 ?_
  refine oT 11 (env.get 2) ?_
  refine oP 12 fun r1 => ?_
  refine oP 13 fun r2 => ?_
  refine oP 9 fun r3 => ?_
  refine oN fun r4 => ?_
  exact oE)
@[simp] theorem n57_0_eq (call : Calling) (env : Env) (h : Heap) : evC (cx57 call) n57_0 ⟨env, h⟩ = (bnd (mNew (.arr 32 (.int .u8)) (env.get 0) h) fun r0 => bnd (mNew (.arr 12 (.int .u8)) (env.get 1) r0.2) fun r1 => bnd (mNew (.arr 256 (.int .u8)) (env.get 3) r1.2) fun r2 => evC (cx57 call) n57_1 ⟨(Env.put (Env.put (Env.put (Env.put env 4 r0.1) 5 r1.1) 7 r2.1) 8 .nilslice), r2.2⟩) := (xSR 0 (cOps (cL n57_0)) (cR n57_0)).trans (by
  refine opsK_0 ?_
  refine oP 4 fun r0 => ?_
  refine oP 5 fun r1 => ?_
  refine oP 7 fun r2 => ?_
  refine oT 8 .nilslice ?_
  exact oE)
theorem b57 (call : Calling) (a0 a1 a2 a3 : AV) (h : Heap) : evBody (cx57 call) Try.f57 n57_0 [a0, a1, a2, a3] h = bnd (evC (cx57 call) n57_0 ⟨[(0, a0), (1, a1), (2, a2), (3, a3), (4, .junk), (5, .junk), (6, .junk), (7, .junk), (8, .junk), (9, .junk), (10, .junk), (15, .junk)], h⟩) (retK fun s => bnd (bnd (some (s.env.get 8)) fun v => bnd (some []) fun vs => some (v :: vs)) fun vs => some (oneOrTuple vs)) := by kernel_rfl
theorem fn57 : Try.prog.funcs[57]? = some Try.f57 := by kernel_rfl
theorem k57 : Callable Try.prog 57 := ⟨Try.f57, fn57, by kernel_rfl, by kernel_rfl⟩
theorem s57 {call : Calling} (hc : CallOK Try.prog call) {args : List AV} {h h' : Heap} {v : AV} (he : evBody (cx57 call) Try.f57 n57_0 args h = some (v, h')) : Spec Try.prog 57 args h v h' := body_sound (C := cx57 call) TT_ok hc mixed_ok fn57 (by kernel_rfl) (by kernel_rfl) he
def sn57 := And.intro n57_9_eq (And.intro n57_10_eq (And.intro n57_8_eq (And.intro n57_7_eq (And.intro n57_13_eq (And.intro n57_12_eq (And.intro n57_14_eq (And.intro n57_11_eq (And.intro n57_6_eq (And.intro n57_5_eq (And.intro n57_4_eq (And.intro n57_3_eq (And.intro n57_17_eq (And.intro n57_16_eq (And.intro n57_15_eq (And.intro n57_2_eq (And.intro n57_1_eq (n57_0_eq)))))))))))))))))
end Go.Vab

/- How the evaluator reads the functions of a seat. Printed by wip/tools/gen.py (own work). -/
namespace Go.Vab
open Go Go.Proofs
/-! vestry/vestryref09.Keys -/
noncomputable def cx35 (call : Calling) : Ctx := ⟨call, TT, 48, [13, 14, 16, 17, 18, 19, 20, 21, 22, 23, 24, 25, 27, 28, 29, 30, 31, 32, 33, 34, 35, 37, 38, 39, 40, 41, 42, 43, 44, 45, 46, 47]⟩
noncomputable def n35_0 : Code := bodyOf Try.f35
noncomputable def n35_1 : Code := cR n35_0
noncomputable def n35_2 : Code := cR n35_1
noncomputable def n35_3 : Code := cR n35_2
noncomputable def n35_4 : Code := cL n35_3
noncomputable def n35_5 : Code := cR n35_4
noncomputable def n35_6 : Code := cB n35_5
noncomputable def n35_7 : Code := cB n35_6
noncomputable def n35_8 : Code := cL n35_7
noncomputable def n35_9 : Code := cR n35_8
noncomputable def n35_10 : Code := cL n35_9
noncomputable def n35_11 : Code := cR n35_9
noncomputable def n35_12 : Code := cR n35_7
noncomputable def n35_13 : Code := cL n35_12
noncomputable def n35_14 : Code := cB n35_13
noncomputable def n35_15 : Code := cR n35_12
noncomputable def n35_16 : Code := cR n35_3
noncomputable def n35_17 : Code := cR n35_16
noncomputable def n35_18 : Code := cR n35_17
noncomputable def n35_19 : Code := cL n35_18
noncomputable def n35_20 : Code := cR n35_19
noncomputable def n35_21 : Code := cB n35_20
noncomputable def n35_22 : Code := cB n35_21
noncomputable def n35_23 : Code := cL n35_22
noncomputable def n35_24 : Code := cR n35_23
noncomputable def n35_25 : Code := cL n35_24
noncomputable def n35_26 : Code := cR n35_24
noncomputable def n35_27 : Code := cR n35_22
noncomputable def n35_28 : Code := cL n35_27
noncomputable def n35_29 : Code := cB n35_28
noncomputable def n35_30 : Code := cR n35_27
noncomputable def n35_31 : Code := cR n35_18
noncomputable def n35_32 : Code := cL n35_31
noncomputable def n35_33 : Code := cR n35_32
noncomputable def n35_34 : Code := cB n35_33
noncomputable def n35_35 : Code := cB n35_34
noncomputable def n35_36 : Code := cL n35_35
noncomputable def n35_37 : Code := cR n35_36
noncomputable def n35_38 : Code := cL n35_37
noncomputable def n35_39 : Code := cR n35_37
noncomputable def n35_40 : Code := cR n35_35
noncomputable def n35_41 : Code := cL n35_40
noncomputable def n35_42 : Code := cB n35_41
noncomputable def n35_43 : Code := cR n35_40
noncomputable def n35_44 : Code := cR n35_31
noncomputable def n35_45 : Code := cR n35_44
@[simp] theorem n35_10_eq (call : Calling) (s : St) : evC (cx35 call) n35_10 s = some (.nrm, s) := xK
@[simp] theorem n35_11_eq (call : Calling) (s : St) : evC (cx35 call) n35_11 s = some (.exit 0, s) := xX 0
@[simp] theorem n35_9_eq (call : Calling) (s : St) : evC (cx35 call) n35_9 s = cnd (s.env.get 15) (evC (cx35 call) n35_10 s) (evC (cx35 call) n35_11 s) := xC 15 _ _
@[simp] theorem n35_8_eq (call : Calling) (env : Env) (h : Heap) : evC (cx35 call) n35_8 ⟨env, h⟩ = (bnd (pureV h (mBin .lss (env.get 8) (nat 6))) fun r1 => evC (cx35 call) n35_9 ⟨(Env.put env 15 r1.1), r1.2⟩) := (xSR 4 (cOps (cL n35_8)) (cR n35_8)).trans (by
  refine opsK_0 ?_
  refine oT 14 (env.get 8) ?_
  refine oP 15 fun r1 => ?_
  exact oE)
@[simp] theorem n35_14_eq (call : Calling) (env : Env) (h : Heap) : evC (cx35 call) n35_14 ⟨env, h⟩ = (bnd (pureV h (mLoad (.arr 32 (.int .u8)) (env.get 2) h)) fun r1 => bnd (pureV r1.2 (mLoad (.arr 12 (.int .u8)) (env.get 3) r1.2)) fun r2 => bnd (pureV r2.2 (mLoad (.arr 256 (.int .u8)) (env.get 6) r2.2)) fun r4 => bnd (call 57 [r1.1, r2.1, (env.get 8), r4.1] r4.2) fun r5 => bnd (mApp (.int .u8) 1 (env.get 7) r5.1 r5.2) fun r6 => some (.nrm, ⟨(Env.put env 7 r6.1), r6.2⟩)) := (xR 6 (cOps n35_14)).trans (by
  refine opsK_0 ?_
  refine oT 18 (env.get 7) ?_
  refine oP 19 fun r1 => ?_
  refine oP 20 fun r2 => ?_
  refine oT 21 (env.get 8) ?_
  refine oP 22 fun r4 => ?_
  refine oP 23 fun r5 => ?_
  refine oP 24 fun r6 => ?_
  refine oT 7 r6.1 ?_
  exact oE)
@[simp] theorem n35_13_eq (call : Calling) (s : St) : evC (cx35 call) n35_13 s = bnd (evC (cx35 call) n35_14 s) fun r => some (inBlk 1 r) := xB 1 _
@[simp] theorem n35_15_eq (call : Calling) (env : Env) (h : Heap) : evC (cx35 call) n35_15 ⟨env, h⟩ = (bnd (pureV h (mBin .add (env.get 8) (nat 1))) fun r1 => some (.nrm, ⟨(Env.put env 8 r1.1), r1.2⟩)) := (xR 5 (cOps n35_15)).trans (by
  refine opsK_0 ?_
  refine oT 16 (env.get 8) ?_
  refine oP 17 fun r1 => ?_
  refine oT 8 r1.1 ?_
  exact oE)
@[simp] theorem n35_12_eq (call : Calling) (s : St) : evC (cx35 call) n35_12 s = bnd (evC (cx35 call) n35_13 s) (sqK (evC (cx35 call) n35_15)) := xS _ _
@[simp] theorem n35_7_eq (call : Calling) (s : St) : evC (cx35 call) n35_7 s = bnd (evC (cx35 call) n35_8 s) (sqK (evC (cx35 call) n35_12)) := xS _ _
@[simp] theorem n35_6_eq (call : Calling) (s : St) : evC (cx35 call) n35_6 s = evLoop (evC (cx35 call) n35_7) s := xL _
@[simp] theorem n35_5_eq (call : Calling) (s : St) : evC (cx35 call) n35_5 s = bnd (evC (cx35 call) n35_6 s) fun r => some (inBlk 0 r) := xB 0 _
@[simp] theorem n35_4_eq (call : Calling) (env : Env) (h : Heap) : evC (cx35 call) n35_4 ⟨env, h⟩ = ( evC (cx35 call) n35_5 ⟨(Env.put env 8 (nat 0)), h⟩) := (xSR 3 (cOps (cL n35_4)) (cR n35_4)).trans (by
  refine opsK_0 ?_
  refine oT 8 (nat 0) ?_
  exact oE)
@[simp] theorem n35_25_eq (call : Calling) (s : St) : evC (cx35 call) n35_25 s = some (.nrm, s) := xK
@[simp] theorem n35_26_eq (call : Calling) (s : St) : evC (cx35 call) n35_26 s = some (.exit 2, s) := xX 2
@[simp] theorem n35_24_eq (call : Calling) (s : St) : evC (cx35 call) n35_24 s = cnd (s.env.get 26) (evC (cx35 call) n35_25 s) (evC (cx35 call) n35_26 s) := xC 26 _ _
@[simp] theorem n35_23_eq (call : Calling) (env : Env) (h : Heap) : evC (cx35 call) n35_23 ⟨env, h⟩ = (bnd (pureV h (mBin .lss (env.get 11) (nat 16))) fun r1 => evC (cx35 call) n35_24 ⟨(Env.put env 26 r1.1), r1.2⟩) := (xSR 10 (cOps (cL n35_23)) (cR n35_23)).trans (by
  refine opsK_0 ?_
  refine oT 25 (env.get 11) ?_
  refine oP 26 fun r1 => ?_
  exact oE)
@[simp] theorem n35_29_eq (call : Calling) (env : Env) (h : Heap) : evC (cx35 call) n35_29 ⟨env, h⟩ = (bnd (pureV h (mIdxS (.int .u8) (env.get 7) (env.get 11))) fun r3 => bnd (pureV r3.2 (mLoad (.int .u8) r3.1 r3.2)) fun r4 => bnd (pureV r4.2 (mIdxA (.arr 16 (.int .u8)) (env.get 9) (env.get 11))) fun r5 => bnd (stU (.int .u8) r5.1 r4.1 r5.2) fun r6 => some (.nrm, ⟨env, r6.2⟩)) := (xR 12 (cOps n35_29)).trans (by
  refine opsK_0 ?_
  refine oT 29 (env.get 11) ?_
  refine oT 30 (env.get 7) ?_
  refine oT 31 (env.get 11) ?_
  refine oP 32 fun r3 => ?_
  refine oP 33 fun r4 => ?_
  refine oP 34 fun r5 => ?_
  refine oN fun r6 => ?_
  exact oE)
@[simp] theorem n35_28_eq (call : Calling) (s : St) : evC (cx35 call) n35_28 s = bnd (evC (cx35 call) n35_29 s) fun r => some (inBlk 3 r) := xB 3 _
@[simp] theorem n35_30_eq (call : Calling) (env : Env) (h : Heap) : evC (cx35 call) n35_30 ⟨env, h⟩ = (bnd (pureV h (mBin .add (env.get 11) (nat 1))) fun r1 => some (.nrm, ⟨(Env.put env 11 r1.1), r1.2⟩)) := (xR 11 (cOps n35_30)).trans (by
  refine opsK_0 ?_
  refine oT 27 (env.get 11) ?_
  refine oP 28 fun r1 => ?_
  refine oT 11 r1.1 ?_
  exact oE)
@[simp] theorem n35_27_eq (call : Calling) (s : St) : evC (cx35 call) n35_27 s = bnd (evC (cx35 call) n35_28 s) (sqK (evC (cx35 call) n35_30)) := xS _ _
@[simp] theorem n35_22_eq (call : Calling) (s : St) : evC (cx35 call) n35_22 s = bnd (evC (cx35 call) n35_23 s) (sqK (evC (cx35 call) n35_27)) := xS _ _
@[simp] theorem n35_21_eq (call : Calling) (s : St) : evC (cx35 call) n35_21 s = evLoop (evC (cx35 call) n35_22) s := xL _
@[simp] theorem n35_20_eq (call : Calling) (s : St) : evC (cx35 call) n35_20 s = bnd (evC (cx35 call) n35_21 s) fun r => some (inBlk 2 r) := xB 2 _
@[simp] theorem n35_19_eq (call : Calling) (env : Env) (h : Heap) : evC (cx35 call) n35_19 ⟨env, h⟩ = ( evC (cx35 call) n35_20 ⟨(Env.put env 11 (nat 0)), h⟩) := (xSR 9 (cOps (cL n35_19)) (cR n35_19)).trans (by
  refine opsK_0 ?_
  refine oT 11 (nat 0) ?_
  exact oE)
@[simp] theorem n35_38_eq (call : Calling) (s : St) : evC (cx35 call) n35_38 s = some (.nrm, s) := xK
@[simp] theorem n35_39_eq (call : Calling) (s : St) : evC (cx35 call) n35_39 s = some (.exit 4, s) := xX 4
@[simp] theorem n35_37_eq (call : Calling) (s : St) : evC (cx35 call) n35_37 s = cnd (s.env.get 36) (evC (cx35 call) n35_38 s) (evC (cx35 call) n35_39 s) := xC 36 _ _
@[simp] theorem n35_36_eq (call : Calling) (env : Env) (h : Heap) : evC (cx35 call) n35_36 ⟨env, h⟩ = (bnd (pureV h (mBin .lss (env.get 12) (nat 32))) fun r1 => evC (cx35 call) n35_37 ⟨(Env.put env 36 r1.1), r1.2⟩) := (xSR 14 (cOps (cL n35_36)) (cR n35_36)).trans (by
  refine opsK_0 ?_
  refine oT 35 (env.get 12) ?_
  refine oP 36 fun r1 => ?_
  exact oE)
@[simp] theorem n35_42_eq (call : Calling) (env : Env) (h : Heap) : evC (cx35 call) n35_42 ⟨env, h⟩ = (bnd (pureV h (mBin .add (nat 16) (env.get 12))) fun r3 => bnd (pureV r3.2 (mIdxS (.int .u8) (env.get 7) r3.1)) fun r4 => bnd (pureV r4.2 (mLoad (.int .u8) r4.1 r4.2)) fun r5 => bnd (pureV r5.2 (mIdxA (.arr 32 (.int .u8)) (env.get 10) (env.get 12))) fun r6 => bnd (stU (.int .u8) r6.1 r5.1 r6.2) fun r7 => some (.nrm, ⟨env, r7.2⟩)) := (xR 16 (cOps n35_42)).trans (by
  refine opsK_0 ?_
  refine oT 39 (env.get 12) ?_
  refine oT 40 (env.get 7) ?_
  refine oT 41 (env.get 12) ?_
  refine oP 42 fun r3 => ?_
  refine oP 43 fun r4 => ?_
  refine oP 44 fun r5 => ?_
  refine oP 45 fun r6 => ?_
  refine oN fun r7 => ?_
  exact oE)
@[simp] theorem n35_41_eq (call : Calling) (s : St) : evC (cx35 call) n35_41 s = bnd (evC (cx35 call) n35_42 s) fun r => some (inBlk 5 r) := xB 5 _
@[simp] theorem n35_43_eq (call : Calling) (env : Env) (h : Heap) : evC (cx35 call) n35_43 ⟨env, h⟩ = (bnd (pureV h (mBin .add (env.get 12) (nat 1))) fun r1 => some (.nrm, ⟨(Env.put env 12 r1.1), r1.2⟩)) := (xR 15 (cOps n35_43)).trans (by
  refine opsK_0 ?_
  refine oT 37 (env.get 12) ?_
  refine oP 38 fun r1 => ?_
  refine oT 12 r1.1 ?_
  exact oE)
@[simp] theorem n35_40_eq (call : Calling) (s : St) : evC (cx35 call) n35_40 s = bnd (evC (cx35 call) n35_41 s) (sqK (evC (cx35 call) n35_43)) := xS _ _
@[simp] theorem n35_35_eq (call : Calling) (s : St) : evC (cx35 call) n35_35 s = bnd (evC (cx35 call) n35_36 s) (sqK (evC (cx35 call) n35_40)) := xS _ _
@[simp] theorem n35_34_eq (call : Calling) (s : St) : evC (cx35 call) n35_34 s = evLoop (evC (cx35 call) n35_35) s := xL _
@[simp] theorem n35_33_eq (call : Calling) (s : St) : evC (cx35 call) n35_33 s = bnd (evC (cx35 call) n35_34 s) fun r => some (inBlk 4 r) := xB 4 _
@[simp] theorem n35_32_eq (call : Calling) (env : Env) (h : Heap) : evC (cx35 call) n35_32 ⟨env, h⟩ = ( evC (cx35 call) n35_33 ⟨(Env.put env 12 (nat 0)), h⟩) := (xSR 13 (cOps (cL n35_32)) (cR n35_32)).trans (by
  refine opsK_0 ?_
  refine oT 12 (nat 0) ?_
  exact oE)
@[simp] theorem n35_45_eq (call : Calling) (s : St) : evC (cx35 call) n35_45 s = some (.ret, s) := xE
theorem n35_44_ok : drawOkQ true (cOps (cL n35_44)).toList = false := by kernel_rfl
@[simp] theorem n35_44_eq (call : Calling) (env : Env) (h : Heap) : evC (cx35 call) n35_44 ⟨env, h⟩ = (bnd (pureV h (mLoad (.arr 16 (.int .u8)) (env.get 9) h)) fun r0 => bnd (pureV r0.2 (mLoad (.arr 32 (.int .u8)) (env.get 10) r0.2)) fun r1 => bnd (stU (.arr 16 (.int .u8)) (env.get 4) r0.1 r1.2) fun r2 => bnd (stU (.arr 32 (.int .u8)) (env.get 5) r1.1 r2.2) fun r3 => bnd (anyK (cx35 call) (cOps (cL n35_44)) ⟨env, h⟩ env r3.2) (sqK (evC (cx35 call) n35_45))) := (ev_seqdrawany 17 (cOps (cL n35_44)) (cR n35_44) (by kernel_rfl) n35_44_ok (by kernel_rfl)).trans (by
  refine opsK_0 ?_
  refine oP 46 fun r0 => ?_
  refine oP 47 fun r1 => ?_
  refine oN fun r2 => ?_
  refine oN fun r3 => ?_
  exact oE)
@[simp] theorem n35_31_eq (call : Calling) (s : St) : evC (cx35 call) n35_31 s = bnd (evC (cx35 call) n35_32 s) (sqK (evC (cx35 call) n35_44)) := xS _ _
@[simp] theorem n35_18_eq (call : Calling) (s : St) : evC (cx35 call) n35_18 s = bnd (evC (cx35 call) n35_19 s) (sqK (evC (cx35 call) n35_31)) := xS _ _
@[simp] theorem n35_17_eq (call : Calling) (env : Env) (h : Heap) : evC (cx35 call) n35_17 ⟨env, h⟩ = (bnd (mNew (.arr 32 (.int .u8)) (arr 32 fun _ => 0#8) h) fun r0 => evC (cx35 call) n35_18 ⟨(Env.put env 10 r0.1), r0.2⟩) := (xSR 8 (cOps (cL n35_17)) (cR n35_17)).trans (by
  refine opsK_0 ?_
  refine oP 10 fun r0 => ?_
  exact oE)
@[simp] theorem n35_16_eq (call : Calling) (env : Env) (h : Heap) : evC (cx35 call) n35_16 ⟨env, h⟩ = (bnd (mNew (.arr 16 (.int .u8)) (arr 16 fun _ => 0#8) h) fun r0 => evC (cx35 call) n35_17 ⟨(Env.put env 9 r0.1), r0.2⟩) := (xSR 7 (cOps (cL n35_16)) (cR n35_16)).trans (by
  refine opsK_0 ?_
  refine oP 9 fun r0 => ?_
  exact oE)
@[simp] theorem n35_3_eq (call : Calling) (s : St) : evC (cx35 call) n35_3 s = bnd (evC (cx35 call) n35_4 s) (sqK (evC (cx35 call) n35_16)) := xS _ _
@[simp] theorem n35_2_eq (call : Calling) (env : Env) (h : Heap) : evC (cx35 call) n35_2 ⟨env, h⟩ = ( evC (cx35 call) n35_3 ⟨(Env.put env 7 .nilslice), h⟩) := (xSR 2 (cOps (cL n35_2)) (cR n35_2)).trans (by
  refine opsK_0 ?_
  refine oT 7 .nilslice ?_
  exact oE)
@[simp] theorem n35_1_eq (call : Calling) (env : Env) (h : Heap) : evC (cx35 call) n35_1 ⟨env, h⟩ = (bnd (call 43 [] h) fun r0 => bnd (mNew (.arr 256 (.int .u8)) (arr 256 fun _ => 0#8) r0.2) fun r1 => bnd (stU (.arr 256 (.int .u8)) r1.1 r0.1 r1.2) fun r2 => evC (cx35 call) n35_2 ⟨(Env.put env 6 r1.1), r2.2⟩) := (xSR 1 (cOps (cL n35_1)) (cR n35_1)).trans (by
  refine opsK_0 ?_
  refine oP 13 fun r0 => ?_
  refine oP 6 fun r1 => ?_
  refine oN fun r2 => ?_
  exact oE)
@[simp] theorem n35_0_eq (call : Calling) (env : Env) (h : Heap) : evC (cx35 call) n35_0 ⟨env, h⟩ = (bnd (mNew (.arr 32 (.int .u8)) (env.get 0) h) fun r0 => bnd (mNew (.arr 12 (.int .u8)) (env.get 1) r0.2) fun r1 => bnd (mNew (.arr 16 (.int .u8)) (arr 16 fun _ => 0#8) r1.2) fun r2 => bnd (mNew (.arr 32 (.int .u8)) (arr 32 fun _ => 0#8) r2.2) fun r3 => evC (cx35 call) n35_1 ⟨(Env.put (Env.put (Env.put (Env.put env 2 r0.1) 3 r1.1) 4 r2.1) 5 r3.1), r3.2⟩) := (xSR 0 (cOps (cL n35_0)) (cR n35_0)).trans (by
  refine opsK_0 ?_
  refine oP 2 fun r0 => ?_
  refine oP 3 fun r1 => ?_
  refine oP 4 fun r2 => ?_
  refine oP 5 fun r3 => ?_
  exact oE)
theorem b35 (call : Calling) (a0 a1 : AV) (h : Heap) : evBody (cx35 call) Try.f35 n35_0 [a0, a1] h = bnd (evC (cx35 call) n35_0 ⟨[(0, a0), (1, a1), (2, .junk), (3, .junk), (4, .junk), (5, .junk), (6, .junk), (7, .junk), (8, .junk), (9, .junk), (10, .junk), (11, .junk), (12, .junk), (15, .junk), (26, .junk), (36, .junk)], h⟩) (retK fun s => bnd (bnd (mLoad (.arr 16 (.int .u8)) (s.env.get 4) s.heap) fun v => bnd (bnd (mLoad (.arr 32 (.int .u8)) (s.env.get 5) s.heap) fun v => bnd (some []) fun vs => some (v :: vs)) fun vs => some (v :: vs)) fun vs => some (oneOrTuple vs)) := by kernel_rfl
theorem fn35 : Try.prog.funcs[35]? = some Try.f35 := by kernel_rfl
theorem k35 : Callable Try.prog 35 := ⟨Try.f35, fn35, by kernel_rfl, by kernel_rfl⟩
theorem s35 {call : Calling} (hc : CallOK Try.prog call) {args : List AV} {h h' : Heap} {v : AV} (he : evBody (cx35 call) Try.f35 n35_0 args h = some (v, h')) : Spec Try.prog 35 args h v h' := body_sound (C := cx35 call) TT_ok hc mixed_ok fn35 (by kernel_rfl) (by kernel_rfl) he
def sn35 := And.intro n35_10_eq (And.intro n35_11_eq (And.intro n35_9_eq (And.intro n35_8_eq (And.intro n35_14_eq (And.intro n35_13_eq (And.intro n35_15_eq (And.intro n35_12_eq (And.intro n35_7_eq (And.intro n35_6_eq (And.intro n35_5_eq (And.intro n35_4_eq (And.intro n35_25_eq (And.intro n35_26_eq (And.intro n35_24_eq (And.intro n35_23_eq (And.intro n35_29_eq (And.intro n35_28_eq (And.intro n35_30_eq (And.intro n35_27_eq (And.intro n35_22_eq (And.intro n35_21_eq (And.intro n35_20_eq (And.intro n35_19_eq (And.intro n35_38_eq (And.intro n35_39_eq (And.intro n35_37_eq (And.intro n35_36_eq (And.intro n35_42_eq (And.intro n35_41_eq (And.intro n35_43_eq (And.intro n35_40_eq (And.intro n35_35_eq (And.intro n35_34_eq (And.intro n35_33_eq (And.intro n35_32_eq (And.intro n35_45_eq (And.intro n35_44_eq (And.intro n35_31_eq (And.intro n35_18_eq (And.intro n35_17_eq (And.intro n35_16_eq (And.intro n35_3_eq (And.intro n35_2_eq (And.intro n35_1_eq (n35_0_eq)))))))))))))))))))))))))))))))))))))))))))))
end Go.Vab

/-
  The document's keys, walked.
-/
namespace Go.Vab
open Go Go.Proofs

theorem arr8 (f : Nat → BitVec 8) : arr 8 (upd (upd (upd (upd (upd (upd (upd (upd (fun _ => 0#8) 0 (f 0)) 1 (f 1)) 2 (f 2)) 3 (f 3)) 4 (f 4)) 5 (f 5)) 6 (f 6)) 7 (f 7)) = arr 8 f := arr_congr fun j hj => by
  rcases (by omega : j = 0 ∨ j = 1 ∨ j = 2 ∨ j = 3 ∨ j = 4 ∨ j = 5 ∨ j = 6 ∨ j = 7) with rfl | rfl | rfl | rfl | rfl | rfl | rfl | rfl <;> simp [upd]

theorem walk57 (h : Heap) (key nonce : Nat → BitVec 8) (n : Nat) : ∃ tr, evBody (cx57 callS22) Try.f57 n57_0 [arr 32 key, arr 12 nonce, nat n, arr 256 sbF] h = some (.slice (h.length + 4) 0 [] (.int .u8) 0 8 (some 8), h ++ tr) ∧ tr[4]? = some ⟨arr 8 (kF key nonce n), 0, .own⟩ := by
  rw [b57]
  have main : Evs (evC (cx57 callS22) n57_0 ⟨[(0, arr 32 key), (1, arr 12 nonce), (2, nat n), (3, arr 256 sbF), (4, .junk), (5, .junk), (6, .junk), (7, .junk), (8, .junk), (9, .junk), (10, .junk), (15, .junk)], h⟩) (fun r => ∃ env tr, r = (.ret, ⟨env, h ++ tr⟩) ∧ env.get 8 = .slice (h.length + 4) 0 [] (.int .u8) 0 8 (some 8) ∧ tr[4]? = some ⟨arr 8 (kF key nonce n), 0, .own⟩) := by
    obtain ⟨env, he⟩ : ∃ env : Env, env = [(0, arr 32 key), (1, arr 12 nonce), (2, nat n), (3, arr 256 sbF), (4, .junk), (5, .junk), (6, .junk), (7, .junk), (8, .junk), (9, .junk), (10, .junk), (15, .junk)] := ⟨_, rfl⟩
    rw [← he]
    have g0 : env.get 0 = arr 32 key := by rw [he]; rfl
    have g1 : env.get 1 = arr 12 nonce := by rw [he]; rfl
    have g2 : env.get 2 = nat n := by rw [he]; rfl
    have g3 : env.get 3 = arr 256 sbF := by rw [he]; rfl
    clear he
    repeat (first
      | (with_reducible refine Evs.assoc ?_)
      | ((with_reducible refine Evs.some_bnd ?_); try dsimp only [sqK_nrm, sqK_exit, sqK_ret])
      | ((with_reducible apply Evs.bcndT); (focus (simp (disch := omega) [g0, g1, g2, g3] <;> omega)))
      | ((with_reducible apply Evs.bcndF); (focus (simp (disch := omega) [g0, g1, g2, g3] <;> omega)))
      | ((with_reducible apply Evs.step); (focus ((conv => lhs; simp (disch := omega) [g0, g1, g2, g3]); done)); try dsimp only)
      | (simp only [sn57, sqK_nrm, sqK_exit, sqK_ret, inBlk_nrm, inBlk_ret, inBlk_same]))
    refine Evs.bnd (Q := fun r => ∃ env' f, r = (.exit 0, ⟨env', h ++ [⟨arr 32 key, 0, .own⟩, ⟨arr 12 nonce, 0, .own⟩, ⟨arr 256 sbF, 0, .own⟩, ⟨arr 16 f, 0, .own⟩]⟩) ∧ env'.get 4 = .ptr h.length 0 [] (.arr 32 (.int .u8)) ∧ env'.get 7 = .ptr (h.length + 2) 0 [] (.arr 256 (.int .u8)) ∧ env'.get 9 = .ptr (h.length + 3) 0 [] (.arr 16 (.int .u8)) ∧ ∀ j, j < 16 → f j = kblk nonce n j) ?_ ?_
    · refine Evs.up 12 (fun i s => ∃ env' f, s = ⟨env', h ++ [⟨arr 32 key, 0, .own⟩, ⟨arr 12 nonce, 0, .own⟩, ⟨arr 256 sbF, 0, .own⟩, ⟨arr 16 f, 0, .own⟩]⟩ ∧ env'.get 4 = .ptr h.length 0 [] (.arr 32 (.int .u8)) ∧ env'.get 5 = .ptr (h.length + 1) 0 [] (.arr 12 (.int .u8)) ∧ env'.get 7 = .ptr (h.length + 2) 0 [] (.arr 256 (.int .u8)) ∧ env'.get 9 = .ptr (h.length + 3) 0 [] (.arr 16 (.int .u8)) ∧ env'.get 10 = nat i ∧ ∀ j, j < 16 → f j = if 4 ≤ j ∧ j < 4 + i then nonce (j - 4) else upd (fun _ => 0#8) 0 (BitVec.ofNat 8 n) j) ?_ ?_
        ⟨_, _, rfl, by simp, by simp, by simp, by simp, by simp, fun j _ => by rw [if_neg (by omega)]⟩
      · rintro i s hi ⟨env', f, rfl, e4, e5, e7, e9, e10, hf⟩
        repeat (first
          | (with_reducible refine Evs.assoc ?_)
          | ((with_reducible refine Evs.some_bnd ?_); try dsimp only [sqK_nrm, sqK_exit, sqK_ret])
          | ((with_reducible apply Evs.bcndT); (focus (simp (disch := omega) [e4, e5, e7, e9, e10] <;> omega)))
          | ((with_reducible apply Evs.bcndF); (focus (simp (disch := omega) [e4, e5, e7, e9, e10] <;> omega)))
          | ((with_reducible apply Evs.step); (focus ((conv => lhs; simp (disch := omega) [e4, e5, e7, e9, e10]); done)); try dsimp only)
          | (simp only [sn57, sqK_nrm, sqK_exit, sqK_ret, inBlk_nrm, inBlk_ret, inBlk_same]))
        refine Evs.ret ⟨rfl, _, _, rfl, by simp [e4], by simp [e5], by simp [e7], by simp [e9], by simp, fun j hj => ?_⟩
        by_cases hji : j = 4 + i
        · subst hji
          rw [upd_same, if_pos (by omega)]
          congr 1; omega
        · rw [upd_ne _ _ hji, hf j hj]
          by_cases hlt : 4 ≤ j ∧ j < 4 + i
          · rw [if_pos hlt, if_pos (by omega)]
          · rw [if_neg hlt, if_neg (by omega)]
      · rintro s ⟨env', f, rfl, e4, e5, e7, e9, e10, hf⟩
        repeat (first
          | (with_reducible refine Evs.assoc ?_)
          | ((with_reducible refine Evs.some_bnd ?_); try dsimp only [sqK_nrm, sqK_exit, sqK_ret])
          | ((with_reducible apply Evs.bcndT); (focus (simp (disch := omega) [e10] <;> omega)))
          | ((with_reducible apply Evs.bcndF); (focus (simp (disch := omega) [e10] <;> omega)))
          | ((with_reducible apply Evs.step); (focus ((conv => lhs; simp (disch := omega) [e10]); done)); try dsimp only)
          | (simp only [sn57, sqK_nrm, sqK_exit, sqK_ret, inBlk_nrm, inBlk_ret, inBlk_same]))
        exact Evs.ret ⟨by simp, _, _, rfl, by simp [e4], by simp [e7], by simp [e9], hf⟩
    · rintro r ⟨env', f, rfl, e4, e7, e9, hf⟩
      repeat (first
        | (with_reducible refine Evs.assoc ?_)
        | ((with_reducible refine Evs.some_bnd ?_); try dsimp only [sqK_nrm, sqK_exit, sqK_ret])
        | ((with_reducible apply Evs.bcndT); (focus (simp (disch := omega) [e4, e7, e9] <;> omega)))
        | ((with_reducible apply Evs.bcndF); (focus (simp (disch := omega) [e4, e7, e9] <;> omega)))
        | ((with_reducible apply Evs.step); (focus ((conv => lhs; simp (disch := omega) [e4, e7, e9]); done)); try dsimp only)
        | (simp only [sn57, sqK_nrm, sqK_exit, sqK_ret, inBlk_nrm, inBlk_ret, inBlk_same]))
      refine Evs.ret ⟨_, _, rfl, by simp, ?_⟩
      simp only [List.getElem?_cons_succ, List.getElem?_cons_zero]
      rw [arr8 (encF (wd key) f)]
      refine congrArg some (congrArg (fun v => Blk.mk v 0 .own) (arr_congr fun i hi => ?_))
      exact encF_congr (fun i _ p hp => rfl) hf i (by omega)
  obtain ⟨r, hr, env, tr, rfl, e0, e1⟩ := main
  refine ⟨tr, ?_, e1⟩
  rw [hr]
  simp [e0, oneOrTuple]

noncomputable def c57 := conC (fun x : (Nat → BitVec 8) × (Nat → BitVec 8) × (Nat) => [arr 32 x.1, arr 12 x.2.1, nat x.2.2, arr 256 sbF]) (fun (x : (Nat → BitVec 8) × (Nat → BitVec 8) × (Nat)) h => True) (fun (x : (Nat → BitVec 8) × (Nat → BitVec 8) × (Nat)) h => (.slice h.length 0 [] (.int .u8) 0 8 (some 8), h ++ [(⟨arr 8 (kF x.1 x.2.1 x.2.2), 0, .own⟩ : Blk)]))
noncomputable def callS23 : Calling := addC callS22 57 c57
theorem c57_eq (k : Nat → BitVec 8) (n : Nat → BitVec 8) (i : Nat) (h : Heap) : c57 [arr 32 k, arr 12 n, nat i, arr 256 sbF] h = some (.slice h.length 0 [] (.int .u8) 0 8 (some 8), h ++ [(⟨arr 8 (kF k n i), 0, .own⟩ : Blk)]) :=
  conC_eq (enc := fun x : (Nat → BitVec 8) × (Nat → BitVec 8) × (Nat) => [arr 32 x.1, arr 12 x.2.1, nat x.2.2, arr 256 sbF]) (P := fun (x : (Nat → BitVec 8) × (Nat → BitVec 8) × (Nat)) h => True) (a := (k, n, i)) (f := fun (x : (Nat → BitVec 8) × (Nat → BitVec 8) × (Nat)) h => (.slice h.length 0 [] (.int .u8) 0 8 (some 8), h ++ [(⟨arr 8 (kF x.1 x.2.1 x.2.2), 0, .own⟩ : Blk)])) (fun x y h e => by
    have e1 := arr_inj.1 (List.cons.inj e).1
    have e2 := arr_inj.1 (List.cons.inj (List.cons.inj e).2).1
    have e3 := nat_inj.1 (List.cons.inj (List.cons.inj (List.cons.inj e).2).2).1
    rw [e3, arr_congr (fun j hj => kF_congr e1 e2 y.2.2 j (by omega))]
    ) trivial
theorem callS23_ok : CallOK Try.prog callS23 := addC_con callS22_ok k57 fun x h hx => by
  obtain ⟨t, ht, h4⟩ := walk57 h x.1 x.2.1 x.2.2
  exact (s57 callS22_ok ht).pull t 4 _ h4 ⟨_, _, rfl⟩
@[simp] theorem callS23_ne {f : Nat} (args : List AV) (h : Heap) (hf : f ≠ 57) : callS23 f args h = callS22 f args h := addC_ne _ _ _ args h hf
@[simp] theorem callS23_sne {f : Nat} (args : List AV) (h : Heap) (hf : f ≠ 57) : still callS23 f args h = still callS22 f args h := still_ne _ _ _ args h hf
@[simp] theorem callS23_57 (k : Nat → BitVec 8) (n : Nat → BitVec 8) (i : Nat) (h : Heap) : callS23 57 [arr 32 k, arr 12 n, nat i, arr 256 sbF] h = some (.slice h.length 0 [] (.int .u8) 0 8 (some 8), h ++ [(⟨arr 8 (kF k n i), 0, .own⟩ : Blk)]) := by
  unfold callS23; rw [addC_same]; exact c57_eq k n i h

end Go.Vab

/-
  The document's keys: the last statement in every order.
-/
namespace Go.Vab
open Go Go.Proofs

theorem AnyRun.more {C : Ctx} {q : Bool} {ops : Array Oper} {Q : (Nat → AV) × Heap → Prop} {n : Nat} {listed : Array Bool} {s : (Nat → AV) × Heap} (l : List Nat) (hl : readyF ops listed = l) (hne : l ≠ [])
    (h : ∀ i ∈ l, ∃ o, ops[i]? = some o ∧ ∃ s', stepF C q ops.toList o s = some s' ∧ AnyRun C q ops Q n (listed.setIfInBounds i true) s') : AnyRun C q ops Q (n + 1) listed s :=
  ⟨fun h0 => absurd (hl.symm.trans h0) hne, fun i hi o ho => by
    rw [hl] at hi
    obtain ⟨o', h1, h2⟩ := h i hi
    rw [ho] at h1
    cases h1
    exact h2⟩

noncomputable def op35 (i : Nat) : Oper := opAt (cOps (cL n35_44)).toList i

section
variable (call : Calling) {σ : Nat → AV} {H H' : Heap} {a : AV}
theorem st35_0 (ha : mLoad (.arr 16 (.int .u8)) (σ 9) H = some a) : stepF (cx35 call) true (cOps (cL n35_44)).toList (op35 0) (σ, H) = some (updF σ 46 a, H) := by
  have e : evOneF (cx35 call) true (cOps (cL n35_44)).toList (op35 0) σ H = pureV H (mLoad (.arr 16 (.int .u8)) (σ 9) H) := by kernel_rfl
  have hd : (op35 0).dst = some 46 := by kernel_rfl
  refine stepF_some.2 ⟨a, by rw [e, ha]; rfl, fun d h => ?_, by rw [hd]; rfl⟩
  rw [hd] at h; cases h; exact of_decide_eq_true (by kernel_rfl)
theorem st35_1 (ha : mLoad (.arr 32 (.int .u8)) (σ 10) H = some a) : stepF (cx35 call) true (cOps (cL n35_44)).toList (op35 1) (σ, H) = some (updF σ 47 a, H) := by
  have e : evOneF (cx35 call) true (cOps (cL n35_44)).toList (op35 1) σ H = pureV H (mLoad (.arr 32 (.int .u8)) (σ 10) H) := by kernel_rfl
  have hd : (op35 1).dst = some 47 := by kernel_rfl
  refine stepF_some.2 ⟨a, by rw [e, ha]; rfl, fun d h => ?_, by rw [hd]; rfl⟩
  rw [hd] at h; cases h; exact of_decide_eq_true (by kernel_rfl)
theorem st35_2 (hs : stU (.arr 16 (.int .u8)) (σ 4) (σ 46) H = some (.undef, H')) : stepF (cx35 call) true (cOps (cL n35_44)).toList (op35 2) (σ, H) = some (σ, H') := by
  have e : evOneF (cx35 call) true (cOps (cL n35_44)).toList (op35 2) σ H = stU (.arr 16 (.int .u8)) (σ 4) (σ 46) H := by kernel_rfl
  have hd : (op35 2).dst = none := by kernel_rfl
  exact stepF_some.2 ⟨.undef, by rw [e, hs], fun d h => (by rw [hd] at h; cases h), by rw [hd]; rfl⟩
theorem st35_3 (hs : stU (.arr 32 (.int .u8)) (σ 5) (σ 47) H = some (.undef, H')) : stepF (cx35 call) true (cOps (cL n35_44)).toList (op35 3) (σ, H) = some (σ, H') := by
  have e : evOneF (cx35 call) true (cOps (cL n35_44)).toList (op35 3) σ H = stU (.arr 32 (.int .u8)) (σ 5) (σ 47) H := by kernel_rfl
  have hd : (op35 3).dst = none := by kernel_rfl
  exact stepF_some.2 ⟨.undef, by rw [e, hs], fun d h => (by rw [hd] at h; cases h), by rw [hd]; rfl⟩
end

theorem any35 (call : Calling) {env : Env} {H H1 H2 : Heap} {a e : AV} (l9 : mLoad (.arr 16 (.int .u8)) (env.get 9) H = some a) (l10 : mLoad (.arr 32 (.int .u8)) (env.get 10) H = some e)
    (s4 : stU (.arr 16 (.int .u8)) (env.get 4) a H = some (.undef, H1)) (l10' : mLoad (.arr 32 (.int .u8)) (env.get 10) H1 = some e) (s5 : stU (.arr 32 (.int .u8)) (env.get 5) e H1 = some (.undef, H2)) :
    AnyTo (cx35 call) true (cOps (cL n35_44)) ⟨env, H⟩ ⟨env, H2⟩ := by
  unfold AnyTo
  rw [show (cOps (cL n35_44)).size = 4 by kernel_rfl]
  have fin : ∀ σ : Nat → AV, (∀ t, t ≠ 46 → t ≠ 47 → σ t = env.get t) → Ends (cx35 call) ⟨env, H2⟩ (σ, H2) := fun σ hσ => by
    refine ⟨fun t ht => hσ t ?_ ?_, rfl⟩
    · rintro rfl; have q : (cx35 call).vol.contains 46 = true := rfl; rw [q] at ht; cases ht
    · rintro rfl; have q : (cx35 call).vol.contains 47 = true := rfl; rw [q] at ht; cases ht
  have u : ∀ (σ : Nat → AV) (d t : Nat) (v : AV), t ≠ d → updF σ d v t = σ t := fun σ d t v h => if_neg h
  have us : ∀ (σ : Nat → AV) (d : Nat) (v : AV), updF σ d v d = v := fun σ d v => if_pos rfl
  refine AnyRun.more [0, 1] (by kernel_rfl) (by simp) fun i hi => ?_
  rcases List.mem_cons.1 hi with rfl | hi
  · refine ⟨op35 0, by kernel_rfl, _, st35_0 call l9, ?_⟩
    refine AnyRun.more [1, 2] (by kernel_rfl) (by simp) fun i hi => ?_
    rcases List.mem_cons.1 hi with rfl | hi
    · refine ⟨op35 1, by kernel_rfl, _, st35_1 call (by rw [u _ _ _ _ (by decide)]; exact l10), ?_⟩
      refine AnyRun.more [2] (by kernel_rfl) (by simp) fun i hi => ?_
      obtain rfl := List.mem_singleton.1 hi
      refine ⟨op35 2, by kernel_rfl, _, st35_2 call (by rw [u _ _ _ _ (by decide), u _ _ _ _ (by decide), u _ _ _ _ (by decide), us]; exact s4), ?_⟩
      refine AnyRun.more [3] (by kernel_rfl) (by simp) fun i hi => ?_
      obtain rfl := List.mem_singleton.1 hi
      refine ⟨op35 3, by kernel_rfl, _, st35_3 call (by rw [u _ _ _ _ (by decide), u _ _ _ _ (by decide), us]; exact s5), by kernel_rfl, fin _ fun t h1 h2 => ?_⟩
      rw [u _ _ _ _ h2, u _ _ _ _ h1]
    · obtain rfl := List.mem_singleton.1 hi
      refine ⟨op35 2, by kernel_rfl, _, st35_2 call (by rw [u _ _ _ _ (by decide), us]; exact s4), ?_⟩
      refine AnyRun.more [1] (by kernel_rfl) (by simp) fun i hi => ?_
      obtain rfl := List.mem_singleton.1 hi
      refine ⟨op35 1, by kernel_rfl, _, st35_1 call (by rw [u _ _ _ _ (by decide)]; exact l10'), ?_⟩
      refine AnyRun.more [3] (by kernel_rfl) (by simp) fun i hi => ?_
      obtain rfl := List.mem_singleton.1 hi
      refine ⟨op35 3, by kernel_rfl, _, st35_3 call (by rw [u _ _ _ _ (by decide), u _ _ _ _ (by decide), us]; exact s5), by kernel_rfl, fin _ fun t h1 h2 => ?_⟩
      rw [u _ _ _ _ h2, u _ _ _ _ h1]
  · obtain rfl := List.mem_singleton.1 hi
    refine ⟨op35 1, by kernel_rfl, _, st35_1 call l10, ?_⟩
    refine AnyRun.more [0] (by kernel_rfl) (by simp) fun i hi => ?_
    obtain rfl := List.mem_singleton.1 hi
    refine ⟨op35 0, by kernel_rfl, _, st35_0 call (by rw [u _ _ _ _ (by decide)]; exact l9), ?_⟩
    refine AnyRun.more [2] (by kernel_rfl) (by simp) fun i hi => ?_
    obtain rfl := List.mem_singleton.1 hi
    refine ⟨op35 2, by kernel_rfl, _, st35_2 call (by rw [u _ _ _ _ (by decide), u _ _ _ _ (by decide), us]; exact s4), ?_⟩
    refine AnyRun.more [3] (by kernel_rfl) (by simp) fun i hi => ?_
    obtain rfl := List.mem_singleton.1 hi
    refine ⟨op35 3, by kernel_rfl, _, st35_3 call (by rw [u _ _ _ _ (by decide), u _ _ _ _ (by decide), u _ _ _ _ (by decide), us]; exact s5), by kernel_rfl, fin _ fun t h1 h2 => ?_⟩
    rw [u _ _ _ _ h1, u _ _ _ _ h2]

end Go.Vab

/-
  The document's keys, walked to their end.
-/
namespace Go.Vab
open Go Go.Proofs

/-- The bytes of the blocks' first halves, in a row. -/
def rowK (key nonce : Nat → BitVec 8) : Nat → BitVec 8 := fun j => kF key nonce (j / 8) (j % 8)
def H35 (h : Heap) (key nonce a e : Nat → BitVec 8) (x : Blk) (m : Nat) (f : Nat → BitVec 8) (tr : Heap) : Heap :=
  h ++ (⟨arr 32 key, 0, .own⟩ :: ⟨arr 12 nonce, 0, .own⟩ :: ⟨arr 16 a, 0, .own⟩ :: ⟨arr 32 e, 0, .own⟩ :: ⟨arr 256 sbF, 0, .own⟩ :: x :: ⟨arr m f, m, .open⟩ :: tr)
def B35 (L : Nat) (env : Env) : Prop := env.get 2 = .ptr L 0 [] (.arr 32 (.int .u8)) ∧ env.get 3 = .ptr (L + 1) 0 [] (.arr 12 (.int .u8)) ∧ env.get 4 = .ptr (L + 2) 0 [] (.arr 16 (.int .u8)) ∧ env.get 5 = .ptr (L + 3) 0 [] (.arr 32 (.int .u8)) ∧ env.get 6 = .ptr (L + 4) 0 [] (.arr 256 (.int .u8))
theorem B35.same {L : Nat} {env env' : Env} (h : B35 L env) (hs : Same [2, 3, 4, 5, 6] env env') : B35 L env' :=
  ⟨by rw [hs.get 2 rfl]; exact h.1, by rw [hs.get 3 rfl]; exact h.2.1, by rw [hs.get 4 rfl]; exact h.2.2.1, by rw [hs.get 5 rfl]; exact h.2.2.2.1, by rw [hs.get 6 rfl]; exact h.2.2.2.2⟩

def zF16 : Nat → BitVec 8 := fun _ => 0#8

set_option maxHeartbeats 1000000 in
theorem rows35 (h : Heap) (key nonce : Nat → BitVec 8) (env : Env) (hB : B35 h.length env) (e7 : env.get 7 = .nilslice) (e8 : env.get 8 = nat 0) :
    Evs (evLoop (evC (cx35 callS23) n35_7) ⟨env, h ++ [⟨arr 32 key, 0, .own⟩, ⟨arr 12 nonce, 0, .own⟩, ⟨arr 16 zF16, 0, .own⟩, ⟨arr 32 zF16, 0, .own⟩, ⟨arr 256 sbF, 0, .own⟩]⟩) (fun r => ∃ env' x f tr, r = (.exit 0, ⟨env', H35 h key nonce zF16 zF16 x 48 f tr⟩) ∧ B35 h.length env' ∧ env'.get 7 = .slice (h.length + 6) 48 [] (.int .u8) 0 48 none ∧ ∀ j, j < 48 → f j = rowK key nonce j) := by
  refine Evs.up 6 (fun i s => ∃ env', Same [2, 3, 4, 5, 6] env env' ∧ env'.get 8 = nat i ∧ ((i = 0 ∧ s = ⟨env', h ++ [⟨arr 32 key, 0, .own⟩, ⟨arr 12 nonce, 0, .own⟩, ⟨arr 16 zF16, 0, .own⟩, ⟨arr 32 zF16, 0, .own⟩, ⟨arr 256 sbF, 0, .own⟩]⟩ ∧ env'.get 7 = .nilslice) ∨
      (0 < i ∧ ∃ x f tr, s = ⟨env', H35 h key nonce zF16 zF16 x (8 * i) f tr⟩ ∧ env'.get 7 = .slice (h.length + 6) (8 * i) [] (.int .u8) 0 (8 * i) none ∧ ∀ j, j < 8 * i → f j = rowK key nonce j))) ?_ ?_
    ⟨env, Same.refl _ _, e8, .inl ⟨rfl, rfl, e7⟩⟩
  · rintro i s hi ⟨env', hs, f8, hor⟩
    obtain ⟨b2, b3, b4, b5, b6⟩ := hB.same hs
    rcases hor with ⟨rfl, rfl, f7⟩ | ⟨hpos, x, f, tr, rfl, f7, hf⟩
    · repeat (first
        | (with_reducible refine Evs.assoc ?_)
        | ((with_reducible refine Evs.some_bnd ?_); try dsimp only [sqK_nrm, sqK_exit, sqK_ret])
        | ((with_reducible apply Evs.bcndT); (focus (simp (disch := omega) [b2, b3, b6, f7, f8] <;> omega)))
        | ((with_reducible apply Evs.bcndF); (focus (simp (disch := omega) [b2, b3, b6, f7, f8] <;> omega)))
        | ((with_reducible apply Evs.step); (focus ((conv => lhs; simp (disch := omega) [b2, b3, b6, f7, f8]); done)); try dsimp only)
        | (simp only [sn35, sqK_nrm, sqK_exit, sqK_ret, inBlk_nrm, inBlk_ret, inBlk_same]))
      refine Evs.ret ⟨rfl, _, by repeat (first | exact hs | refine Same.put rfl ?_), by simp, .inr ⟨by omega, _, _, [], rfl, by simp, fun j hj => ?_⟩⟩
      unfold rowK
      rw [show j / 8 = 0 by omega, show j % 8 = j by omega]
    · unfold H35
      repeat (first
        | (with_reducible refine Evs.assoc ?_)
        | ((with_reducible refine Evs.some_bnd ?_); try dsimp only [sqK_nrm, sqK_exit, sqK_ret])
        | ((with_reducible apply Evs.bcndT); (focus (simp (disch := omega) [b2, b3, b6, f7, f8] <;> omega)))
        | ((with_reducible apply Evs.bcndF); (focus (simp (disch := omega) [b2, b3, b6, f7, f8] <;> omega)))
        | ((with_reducible apply Evs.step); (focus ((conv => lhs; simp (disch := omega) [b2, b3, b6, f7, f8]); done)); try dsimp only)
        | (simp only [sn35, sqK_nrm, sqK_exit, sqK_ret, inBlk_nrm, inBlk_ret, inBlk_same]))
      refine Evs.ret ⟨rfl, _, by repeat (first | exact hs | refine Same.put rfl ?_), by simp, .inr ⟨by omega, _, _, _, rfl, by simp; rfl, fun j hj => ?_⟩⟩
      by_cases hlt : j < 8 * i
      · simp only [hlt, if_true]; exact hf j hlt
      · simp only [hlt, if_false]
        unfold rowK
        rw [show j / 8 = i by omega, show j % 8 = j - 8 * i by omega]
  · rintro s ⟨env', hs, f8, hor⟩
    rcases hor with ⟨h0, _, _⟩ | ⟨hpos, x, f, tr, rfl, f7, hf⟩
    · omega
    · repeat (first
        | (with_reducible refine Evs.assoc ?_)
        | ((with_reducible refine Evs.some_bnd ?_); try dsimp only [sqK_nrm, sqK_exit, sqK_ret])
        | ((with_reducible apply Evs.bcndT); (focus (simp (disch := omega) [f8] <;> omega)))
        | ((with_reducible apply Evs.bcndF); (focus (simp (disch := omega) [f8] <;> omega)))
        | ((with_reducible apply Evs.step); (focus ((conv => lhs; simp (disch := omega) [f8]); done)); try dsimp only)
        | (simp only [sn35, sqK_nrm, sqK_exit, sqK_ret, inBlk_nrm, inBlk_ret, inBlk_same]))
      exact Evs.ret ⟨by simp, _, x, f, tr, rfl, (hB.same hs).same (by repeat (first | exact Same.refl _ _ | refine Same.put rfl ?_)), by simp [f7], hf⟩

def G35 (h : Heap) (key nonce : Nat → BitVec 8) (x : Blk) (f : Nat → BitVec 8) (tr : Heap) (a e : Nat → BitVec 8) : Heap :=
  h ++ (⟨arr 32 key, 0, .own⟩ :: ⟨arr 12 nonce, 0, .own⟩ :: ⟨arr 16 zF16, 0, .own⟩ :: ⟨arr 32 zF16, 0, .own⟩ :: ⟨arr 256 sbF, 0, .own⟩ :: x :: ⟨arr 48 f, 48, .open⟩ :: (tr ++ [⟨arr 16 a, 0, .own⟩, ⟨arr 32 e, 0, .own⟩]))
def C35 (L T : Nat) (env : Env) : Prop := env.get 4 = .ptr (L + 2) 0 [] (.arr 16 (.int .u8)) ∧ env.get 5 = .ptr (L + 3) 0 [] (.arr 32 (.int .u8)) ∧ env.get 7 = .slice (L + 6) 48 [] (.int .u8) 0 48 none ∧ env.get 9 = .ptr (L + (T + 1 + 1 + 1 + 1 + 1 + 1 + 1)) 0 [] (.arr 16 (.int .u8)) ∧ env.get 10 = .ptr (L + (T + 1 + 1 + 1 + 1 + 1 + 1 + 1 + 1)) 0 [] (.arr 32 (.int .u8))

set_option maxHeartbeats 1000000 in
theorem walk35 (h : Heap) (key nonce : Nat → BitVec 8) : ∃ t, evBody (cx35 callS23) Try.f35 n35_0 [arr 32 key, arr 12 nonce] h = some (.tuple [arr 16 (keyA key nonce), arr 32 (keyE key nonce)], h ++ t) := by
  rw [b35]
  have main : Evs (evC (cx35 callS23) n35_0 ⟨[(0, arr 32 key), (1, arr 12 nonce), (2, .junk), (3, .junk), (4, .junk), (5, .junk), (6, .junk), (7, .junk), (8, .junk), (9, .junk), (10, .junk), (11, .junk), (12, .junk), (15, .junk), (26, .junk), (36, .junk)], h⟩) (fun r => ∃ env t, r = (.ret, ⟨env, h ++ t⟩) ∧ mLoad (.arr 16 (.int .u8)) (env.get 4) (h ++ t) = some (arr 16 (keyA key nonce)) ∧ mLoad (.arr 32 (.int .u8)) (env.get 5) (h ++ t) = some (arr 32 (keyE key nonce))) := by
    obtain ⟨env, he⟩ : ∃ env : Env, env = [(0, arr 32 key), (1, arr 12 nonce), (2, .junk), (3, .junk), (4, .junk), (5, .junk), (6, .junk), (7, .junk), (8, .junk), (9, .junk), (10, .junk), (11, .junk), (12, .junk), (15, .junk), (26, .junk), (36, .junk)] := ⟨_, rfl⟩
    rw [← he]
    have g0 : env.get 0 = arr 32 key := by rw [he]; rfl
    have g1 : env.get 1 = arr 12 nonce := by rw [he]; rfl
    clear he
    repeat (first
      | (with_reducible refine Evs.assoc ?_)
      | ((with_reducible refine Evs.some_bnd ?_); try dsimp only [sqK_nrm, sqK_exit, sqK_ret])
      | ((with_reducible apply Evs.bcndT); (focus (simp (disch := omega) [g0, g1] <;> omega)))
      | ((with_reducible apply Evs.bcndF); (focus (simp (disch := omega) [g0, g1] <;> omega)))
      | ((with_reducible apply Evs.step); (focus ((conv => lhs; simp (disch := omega) [g0, g1]); done)); try dsimp only)
      | (simp only [sn35, sqK_nrm, sqK_exit, sqK_ret, inBlk_nrm, inBlk_ret, inBlk_same]))
    refine Evs.bnd (rows35 h key nonce _ ?_ ?_ ?_) ?_
    · exact ⟨by simp, by simp, by simp, by simp, by simp⟩
    · simp
    · simp
    rintro r ⟨env1, x, f, tr, rfl, hB, e7, hf⟩
    unfold H35
    repeat (first
      | (with_reducible refine Evs.assoc ?_)
      | ((with_reducible refine Evs.some_bnd ?_); try dsimp only [sqK_nrm, sqK_exit, sqK_ret])
      | ((with_reducible apply Evs.bcndT); (focus (simp (disch := omega) <;> omega)))
      | ((with_reducible apply Evs.bcndF); (focus (simp (disch := omega) <;> omega)))
      | ((with_reducible apply Evs.step); (focus ((conv => lhs; simp (disch := omega)); done)); try dsimp only)
      | (simp only [sn35, sqK_nrm, sqK_exit, sqK_ret, inBlk_nrm, inBlk_ret, inBlk_same]))
    refine Evs.bnd (Q := fun r => ∃ env2 a, r = (.exit 2, ⟨env2, G35 h key nonce x f tr a zF16⟩) ∧ C35 h.length tr.length env2 ∧ ∀ j, j < 16 → a j = keyA key nonce j) ?_ ?_
    · refine Evs.up 16 (fun i s => ∃ env2 a, s = ⟨env2, G35 h key nonce x f tr a zF16⟩ ∧ C35 h.length tr.length env2 ∧ env2.get 11 = nat i ∧ ∀ j, j < i → a j = keyA key nonce j) ?_ ?_
        ⟨_, _, rfl, ⟨by simp [hB.2.2.1], by simp [hB.2.2.2.1], by simp [e7], by simp, by simp⟩, by simp, fun j hj => absurd hj (by omega)⟩
      · rintro i s hi ⟨env2, a, rfl, ⟨c4, c5, c7, c9, c10⟩, c11, ha⟩
        have hi48 : i < 48 := by omega
        unfold G35
        repeat (first
          | (with_reducible refine Evs.assoc ?_)
          | ((with_reducible refine Evs.some_bnd ?_); try dsimp only [sqK_nrm, sqK_exit, sqK_ret])
          | ((with_reducible apply Evs.bcndT); (focus (simp (disch := omega) [c7, c9, c11] <;> omega)))
          | ((with_reducible apply Evs.bcndF); (focus (simp (disch := omega) [c7, c9, c11] <;> omega)))
          | ((with_reducible apply Evs.step); (focus ((conv => lhs; simp (disch := omega) [c7, c9, c11]); done)); try dsimp only)
          | (simp only [sn35, sqK_nrm, sqK_exit, sqK_ret, inBlk_nrm, inBlk_ret, inBlk_same]))
        refine Evs.ret ⟨rfl, _, _, rfl, ⟨by simp [c4], by simp [c5], by simp [c7], by simp [c9], by simp [c10]⟩, by simp, fun j hj => ?_⟩
        by_cases hji : j = i
        · subst hji
          rw [upd_same, hf j hi48]; rfl
        · rw [upd_ne _ _ hji]; exact ha j (by omega)
      · rintro s ⟨env2, a, rfl, ⟨c4, c5, c7, c9, c10⟩, c11, ha⟩
        repeat (first
          | (with_reducible refine Evs.assoc ?_)
          | ((with_reducible refine Evs.some_bnd ?_); try dsimp only [sqK_nrm, sqK_exit, sqK_ret])
          | ((with_reducible apply Evs.bcndT); (focus (simp (disch := omega) [c11] <;> omega)))
          | ((with_reducible apply Evs.bcndF); (focus (simp (disch := omega) [c11] <;> omega)))
          | ((with_reducible apply Evs.step); (focus ((conv => lhs; simp (disch := omega) [c11]); done)); try dsimp only)
          | (simp only [sn35, sqK_nrm, sqK_exit, sqK_ret, inBlk_nrm, inBlk_ret, inBlk_same]))
        exact Evs.ret ⟨by simp, _, a, rfl, ⟨by simp [c4], by simp [c5], by simp [c7], by simp [c9], by simp [c10]⟩, ha⟩
    rintro r ⟨env2, a, rfl, ⟨c4, c5, c7, c9, c10⟩, ha⟩
    repeat (first
      | (with_reducible refine Evs.assoc ?_)
      | ((with_reducible refine Evs.some_bnd ?_); try dsimp only [sqK_nrm, sqK_exit, sqK_ret])
      | ((with_reducible apply Evs.bcndT); (focus (simp (disch := omega) <;> omega)))
      | ((with_reducible apply Evs.bcndF); (focus (simp (disch := omega) <;> omega)))
      | ((with_reducible apply Evs.step); (focus ((conv => lhs; simp (disch := omega)); done)); try dsimp only)
      | (simp only [sn35, sqK_nrm, sqK_exit, sqK_ret, inBlk_nrm, inBlk_ret, inBlk_same]))
    refine Evs.bnd (Q := fun r => ∃ env3 e, r = (.exit 4, ⟨env3, G35 h key nonce x f tr a e⟩) ∧ C35 h.length tr.length env3 ∧ ∀ j, j < 32 → e j = keyE key nonce j) ?_ ?_
    · refine Evs.up 32 (fun i s => ∃ env3 e, s = ⟨env3, G35 h key nonce x f tr a e⟩ ∧ C35 h.length tr.length env3 ∧ env3.get 12 = nat i ∧ ∀ j, j < i → e j = keyE key nonce j) ?_ ?_
        ⟨_, _, rfl, ⟨by simp [c4], by simp [c5], by simp [c7], by simp [c9], by simp [c10]⟩, by simp, fun j hj => absurd hj (by omega)⟩
      · rintro i s hi ⟨env3, e, rfl, ⟨d4, d5, d7, d9, d10⟩, d12, he⟩
        have hi48 : 16 + i < 48 := by omega
        unfold G35
        repeat (first
          | (with_reducible refine Evs.assoc ?_)
          | ((with_reducible refine Evs.some_bnd ?_); try dsimp only [sqK_nrm, sqK_exit, sqK_ret])
          | ((with_reducible apply Evs.bcndT); (focus (simp (disch := omega) [d7, d10, d12] <;> omega)))
          | ((with_reducible apply Evs.bcndF); (focus (simp (disch := omega) [d7, d10, d12] <;> omega)))
          | ((with_reducible apply Evs.step); (focus ((conv => lhs; simp (disch := omega) [d7, d10, d12]); done)); try dsimp only)
          | (simp only [sn35, sqK_nrm, sqK_exit, sqK_ret, inBlk_nrm, inBlk_ret, inBlk_same]))
        refine Evs.ret ⟨rfl, _, _, rfl, ⟨by simp [d4], by simp [d5], by simp [d7], by simp [d9], by simp [d10]⟩, by simp, fun j hj => ?_⟩
        by_cases hji : j = i
        · subst hji
          rw [upd_same, hf (16 + j) hi48]
          unfold rowK keyE
          rw [show (16 + j) / 8 = 2 + j / 8 by omega, show (16 + j) % 8 = j % 8 by omega]
        · rw [upd_ne _ _ hji]; exact he j (by omega)
      · rintro s ⟨env3, e, rfl, ⟨d4, d5, d7, d9, d10⟩, d12, he⟩
        repeat (first
          | (with_reducible refine Evs.assoc ?_)
          | ((with_reducible refine Evs.some_bnd ?_); try dsimp only [sqK_nrm, sqK_exit, sqK_ret])
          | ((with_reducible apply Evs.bcndT); (focus (simp (disch := omega) [d12] <;> omega)))
          | ((with_reducible apply Evs.bcndF); (focus (simp (disch := omega) [d12] <;> omega)))
          | ((with_reducible apply Evs.step); (focus ((conv => lhs; simp (disch := omega) [d12]); done)); try dsimp only)
          | (simp only [sn35, sqK_nrm, sqK_exit, sqK_ret, inBlk_nrm, inBlk_ret, inBlk_same]))
        exact Evs.ret ⟨by simp, _, e, rfl, ⟨by simp [d4], by simp [d5], by simp [d7], by simp [d9], by simp [d10]⟩, he⟩
    rintro r ⟨env3, e, rfl, ⟨d4, d5, d7, d9, d10⟩, he⟩
    unfold G35
    repeat (first
      | (with_reducible refine Evs.assoc ?_)
      | ((with_reducible refine Evs.some_bnd ?_); try dsimp only [sqK_nrm, sqK_exit, sqK_ret])
      | ((with_reducible apply Evs.bcndT); (focus (simp (disch := omega) [d4, d5, d9, d10] <;> omega)))
      | ((with_reducible apply Evs.bcndF); (focus (simp (disch := omega) [d4, d5, d9, d10] <;> omega)))
      | ((with_reducible apply Evs.step); (focus ((conv => lhs; simp (disch := omega) [d4, d5, d9, d10]); done)); try dsimp only)
      | (simp only [sn35, sqK_nrm, sqK_exit, sqK_ret, inBlk_nrm, inBlk_ret, inBlk_same]))
    have hany := any35 callS23 (env := env3) (H := G35 h key nonce x f tr a e) (a := arr 16 a) (e := arr 32 e)
      (H1 := h ++ (⟨arr 32 key, 0, .own⟩ :: ⟨arr 12 nonce, 0, .own⟩ :: ⟨arr 16 a, 0, .own⟩ :: ⟨arr 32 zF16, 0, .own⟩ :: ⟨arr 256 sbF, 0, .own⟩ :: x :: ⟨arr 48 f, 48, .open⟩ :: (tr ++ [⟨arr 16 a, 0, .own⟩, ⟨arr 32 e, 0, .own⟩])))
      (H2 := h ++ (⟨arr 32 key, 0, .own⟩ :: ⟨arr 12 nonce, 0, .own⟩ :: ⟨arr 16 a, 0, .own⟩ :: ⟨arr 32 e, 0, .own⟩ :: ⟨arr 256 sbF, 0, .own⟩ :: x :: ⟨arr 48 f, 48, .open⟩ :: (tr ++ [⟨arr 16 a, 0, .own⟩, ⟨arr 32 e, 0, .own⟩])))
      (by simp [d9, G35]) (by simp [d10, G35]) (by simp [d4, G35]) (by simp [d10]) (by simp [d5])
    refine Evs.step (a := (.nrm, ⟨env3, h ++ (⟨arr 32 key, 0, .own⟩ :: ⟨arr 12 nonce, 0, .own⟩ :: ⟨arr 16 a, 0, .own⟩ :: ⟨arr 32 e, 0, .own⟩ :: ⟨arr 256 sbF, 0, .own⟩ :: x :: ⟨arr 48 f, 48, .open⟩ :: (tr ++ [⟨arr 16 a, 0, .own⟩, ⟨arr 32 e, 0, .own⟩]))⟩)) (by unfold anyK; exact if_pos hany) ?_
    repeat (first
      | (with_reducible refine Evs.assoc ?_)
      | ((with_reducible refine Evs.some_bnd ?_); try dsimp only [sqK_nrm, sqK_exit, sqK_ret])
      | ((with_reducible apply Evs.bcndT); (focus (simp (disch := omega) <;> omega)))
      | ((with_reducible apply Evs.bcndF); (focus (simp (disch := omega) <;> omega)))
      | ((with_reducible apply Evs.step); (focus ((conv => lhs; simp (disch := omega)); done)); try dsimp only)
      | (simp only [sn35, sqK_nrm, sqK_exit, sqK_ret, inBlk_nrm, inBlk_ret, inBlk_same]))
    refine Evs.ret ⟨_, _, rfl, ?_, ?_⟩
    · simp [d4]; exact arr_congr ha
    · simp [d5]; exact arr_congr he
  obtain ⟨r, hr, env, t, rfl, e0, e1⟩ := main
  refine ⟨t, ?_⟩
  rw [hr]
  simp [e0, e1, oneOrTuple]

noncomputable def c35 := conC (fun x : (Nat → BitVec 8) × (Nat → BitVec 8) => [arr 32 x.1, arr 12 x.2]) (fun (x : (Nat → BitVec 8) × (Nat → BitVec 8)) h => True) (fun (x : (Nat → BitVec 8) × (Nat → BitVec 8)) h => (.tuple [arr 16 (keyA x.1 x.2), arr 32 (keyE x.1 x.2)], h))
noncomputable def callS24 : Calling := addC callS23 35 c35
theorem c35_eq (k : Nat → BitVec 8) (n : Nat → BitVec 8) (h : Heap) : c35 [arr 32 k, arr 12 n] h = some (.tuple [arr 16 (keyA k n), arr 32 (keyE k n)], h) :=
  conC_eq (enc := fun x : (Nat → BitVec 8) × (Nat → BitVec 8) => [arr 32 x.1, arr 12 x.2]) (P := fun (x : (Nat → BitVec 8) × (Nat → BitVec 8)) h => True) (a := (k, n)) (f := fun (x : (Nat → BitVec 8) × (Nat → BitVec 8)) h => (.tuple [arr 16 (keyA x.1 x.2), arr 32 (keyE x.1 x.2)], h)) (fun x y h e => by
    have e1 := arr_inj.1 (List.cons.inj e).1
    have e2 := arr_inj.1 (List.cons.inj (List.cons.inj e).2).1
    show (AV.tuple [_, _], _) = (AV.tuple [_, _], _)
    rw [arr_congr (keyA_congr e1 e2), arr_congr (keyE_congr e1 e2)]
    ) trivial
theorem callS24_ok : CallOK Try.prog callS24 := addC_con callS23_ok k35 fun x h hx => by
  obtain ⟨t, ht⟩ := walk35 h x.1 x.2
  exact (s35 callS23_ok ht).drop0 t rfl
@[simp] theorem callS24_ne {f : Nat} (args : List AV) (h : Heap) (hf : f ≠ 35) : callS24 f args h = callS23 f args h := addC_ne _ _ _ args h hf
@[simp] theorem callS24_sne {f : Nat} (args : List AV) (h : Heap) (hf : f ≠ 35) : still callS24 f args h = still callS23 f args h := still_ne _ _ _ args h hf
@[simp] theorem callS24_35 (k : Nat → BitVec 8) (n : Nat → BitVec 8) (h : Heap) : callS24 35 [arr 32 k, arr 12 n] h = some (.tuple [arr 16 (keyA k n), arr 32 (keyE k n)], h) := by
  unfold callS24; rw [addC_same]; exact c35_eq k n h
@[simp] theorem callS24_35s (k : Nat → BitVec 8) (n : Nat → BitVec 8) (h : Heap) : still callS24 35 [arr 32 k, arr 12 n] h = some (.tuple [arr 16 (keyA k n), arr 32 (keyE k n)], h) := still_of fun t => by simp

end Go.Vab

/-
  Rows as strings.
-/
namespace Go.Vab
open Go

def rowStr : AV → Option AV
  | .ints _ xs => some (.str ⟨(xs.map fun n => UInt8.ofNat n.toNat).toArray⟩)
  | _ => none
@[simp] theorem rowStr_arr (n : Nat) (f : Nat → BitVec 8) : rowStr (arr n f) = some (.str (strOf n f)) := by
  simp only [rowStr, arr, bytes, strOf, List.map_map]
  congr 4
@[simp] theorem mStr_own (i ver len : Nat) (cap : Option Nat) (h : Heap) : mStr (.slice i ver [] (.int .u8) 0 len cap) h = bnd (blkAt h i ver) fun b => bnd (b.v.cut 0 len) rowStr := by
  simp only [mStr, mElems_slc, bnd_assoc]
  cases blkAt h i ver with
  | none => rfl
  | some b =>
    simp only [bnd_some, get_nil]
    rfl

end Go.Vab

/- How the evaluator reads the functions of a seat. Printed by wip/tools/gen.py (own work). -/
namespace Go.Vab
open Go Go.Proofs
/-! vestry/vestrylaw09.lent -/
noncomputable def cx25 (call : Calling) : Ctx := ⟨call, TT, 11, [3, 4, 5, 6, 7, 8, 9, 10]⟩
noncomputable def n25_0 : Code := bodyOf Try.f25
noncomputable def n25_1 : Code := cR n25_0
noncomputable def n25_2 : Code := cR n25_1
@[simp] theorem n25_2_eq (call : Calling) (s : St) : evC (cx25 call) n25_2 s = some (.ret, s) := xE
@[simp] theorem n25_1_eq (call : Calling) (env : Env) (h : Heap) : evC (cx25 call) n25_1 ⟨env, h⟩ = (bnd (mBuildSlice (.int .u8) (u8 0#8) 0 [] h) fun r0 => bnd (mApp (.int .u8) 1 r0.1 (env.get 0) r0.2) fun r2 => bnd (mBuildSlice (.int .u8) (u8 0#8) 1 [(0, (u8 77#8))] r2.2) fun r3 => bnd (mApp (.int .u8) 1 r2.1 r3.1 r3.2) fun r4 => bnd (pureV r4.2 (mLenS (env.get 0))) fun r6 => bnd (pureV r6.2 (mSliceS (.int .u8) r4.1 none (some r6.1) none)) fun r7 => evC (cx25 call) n25_2 ⟨(Env.put env 2 r7.1), r7.2⟩) := (xSR 1 (cOps (cL n25_1)) (cR n25_1)).trans (by
  refine opsK_0 ?_
  refine oP 3 fun r0 => ?_
  refine oT 4 (env.get 0) ?_
  refine oP 5 fun r2 => ?_
  refine oP 6 fun r3 => ?_
  refine oP 7 fun r4 => ?_
  refine oT 8 (env.get 0) ?_
  refine oP 9 fun r6 => ?_
  refine oP 10 fun r7 => ?_
  refine oT 2 r7.1 ?_
  exact oE)
@[simp] theorem n25_0_eq (call : Calling) (env : Env) (h : Heap) : evC (cx25 call) n25_0 ⟨env, h⟩ = ( evC (cx25 call) n25_1 ⟨(Env.put env 2 .nilslice), h⟩) := (xSR 0 (cOps (cL n25_0)) (cR n25_0)).trans (by
  refine opsK_0 ?_
  refine oT 2 .nilslice ?_
  exact oE)
theorem b25 (call : Calling) (a0 : AV) (h : Heap) : evBody (cx25 call) Try.f25 n25_0 [a0] h = bnd (evC (cx25 call) n25_0 ⟨[(0, a0), (1, .junk), (2, .junk)], h⟩) (retK fun s => bnd (bnd (some (s.env.get 2)) fun v => bnd (some []) fun vs => some (v :: vs)) fun vs => some (oneOrTuple vs)) := by kernel_rfl
theorem fn25 : Try.prog.funcs[25]? = some Try.f25 := by kernel_rfl
theorem k25 : Callable Try.prog 25 := ⟨Try.f25, fn25, by kernel_rfl, by kernel_rfl⟩
theorem s25 {call : Calling} (hc : CallOK Try.prog call) {args : List AV} {h h' : Heap} {v : AV} (he : evBody (cx25 call) Try.f25 n25_0 args h = some (v, h')) : Spec Try.prog 25 args h v h' := body_sound (C := cx25 call) TT_ok hc mixed_ok fn25 (by kernel_rfl) (by kernel_rfl) he
def sn25 := And.intro n25_2_eq (And.intro n25_1_eq (n25_0_eq))
end Go.Vab

/- How the evaluator reads the functions of a seat. Printed by wip/tools/gen.py (own work). -/
namespace Go.Vab
open Go Go.Proofs
/-! vestry/vestrylaw09.kept -/
noncomputable def cx28 (call : Calling) : Ctx := ⟨call, TT, 22, [5, 6, 7, 8, 9, 10, 11, 12, 13, 14, 15, 16, 17, 18, 19, 20, 21]⟩
noncomputable def n28_0 : Code := bodyOf Try.f28
noncomputable def n28_1 : Code := cR n28_0
noncomputable def n28_2 : Code := cR n28_1
@[simp] theorem n28_2_eq (call : Calling) (s : St) : evC (cx28 call) n28_2 s = some (.ret, s) := xE
@[simp] theorem n28_1_eq (call : Calling) (env : Env) (h : Heap) : evC (cx28 call) n28_1 ⟨env, h⟩ = (bnd (pureV h (mStr (env.get 0) h)) fun r1 => bnd (pureV r1.2 (mStr (env.get 1) r1.2)) fun r3 => bnd (pureV r3.2 (mBinT .eql r1.1 r3.1)) fun r4 => bnd (gdo r4.1 true (some ((env.get 0), r4.2)) r4.2) fun r6 => bnd (gdo r4.1 true (some ((env.get 1), r6.2)) r6.2) fun r7 => bnd (gdo r4.1 true (pureV r7.2 (mLenS r7.1)) r7.2) fun r8 => bnd (gdo r4.1 true (pureV r8.2 (mBin .add r8.1 (nat 1))) r8.2) fun r9 => bnd (gdo r4.1 true (pureV r9.2 (mSliceS (.int .u8) r6.1 none (some r9.1) none)) r9.2) fun r10 => bnd (gdo r4.1 true (some ((env.get 1), r10.2)) r10.2) fun r11 => bnd (gdo r4.1 true (pureV r11.2 (mLenS r11.1)) r11.2) fun r12 => bnd (gdo r4.1 true (pureV r12.2 (mIdxS (.int .u8) r10.1 r12.1)) r12.2) fun r13 => bnd (gdo r4.1 true (pureV r13.2 (mLoad (.int .u8) r13.1 r13.2)) r13.2) fun r14 => bnd (gdo r4.1 true (pureV r14.2 (mBin .eql r14.1 (u8 77#8))) r14.2) fun r15 => bnd (pureV r15.2 (mPick r4.1 r15.1 (.bool false))) fun r16 => evC (cx28 call) n28_2 ⟨(Env.put env 4 r16.1), r16.2⟩) := (xSR 1 (cOps (cL n28_1)) (cR n28_1)).trans (by
  refine opsK_0 ?_
  refine oT 5 (env.get 0) ?_
  refine oP 6 fun r1 => ?_
  refine oT 7 (env.get 1) ?_
  refine oP 8 fun r3 => ?_
  refine oP 9 fun r4 => ?_
  refine oT 10 r4.1 ?_
  refine oP 11 fun r6 => ?_
  refine oP 12 fun r7 => ?_
  refine oP 13 fun r8 => ?_
  refine oP 14 fun r9 => ?_
  refine oP 15 fun r10 => ?_
  refine oP 16 fun r11 => ?_
  refine oP 17 fun r12 => ?_
  refine oP 18 fun r13 => ?_
  refine oP 19 fun r14 => ?_
  refine oP 20 fun r15 => ?_
  refine oP 21 fun r16 => ?_
  refine oT 4 r16.1 ?_
  exact oE)
@[simp] theorem n28_0_eq (call : Calling) (env : Env) (h : Heap) : evC (cx28 call) n28_0 ⟨env, h⟩ = ( evC (cx28 call) n28_1 ⟨(Env.put env 4 (.bool false)), h⟩) := (xSR 0 (cOps (cL n28_0)) (cR n28_0)).trans (by
  refine opsK_0 ?_
  refine oT 4 (.bool false) ?_
  exact oE)
theorem b28 (call : Calling) (a0 a1 : AV) (h : Heap) : evBody (cx28 call) Try.f28 n28_0 [a0, a1] h = bnd (evC (cx28 call) n28_0 ⟨[(0, a0), (1, a1), (2, .junk), (3, .junk), (4, .junk)], h⟩) (retK fun s => bnd (bnd (some (s.env.get 4)) fun v => bnd (some []) fun vs => some (v :: vs)) fun vs => some (oneOrTuple vs)) := by kernel_rfl
theorem fn28 : Try.prog.funcs[28]? = some Try.f28 := by kernel_rfl
theorem k28 : Callable Try.prog 28 := ⟨Try.f28, fn28, by kernel_rfl, by kernel_rfl⟩
theorem s28 {call : Calling} (hc : CallOK Try.prog call) {args : List AV} {h h' : Heap} {v : AV} (he : evBody (cx28 call) Try.f28 n28_0 args h = some (v, h')) : Spec Try.prog 28 args h v h' := body_sound (C := cx28 call) TT_ok hc mixed_ok fn28 (by kernel_rfl) (by kernel_rfl) he
def sn28 := And.intro n28_2_eq (And.intro n28_1_eq (n28_0_eq))
end Go.Vab

/-
  A copy with a byte behind it, and whether it was kept, walked.
-/
namespace Go.Vab
open Go Go.Proofs

@[simp] theorem mSliceS_open (i ver : Nat) (path : List Nat) (off len k : Nat) : mSliceS (.int .u8) (.slice i ver path (.int .u8) off len none) none (some (nat k)) none = if k ≤ ver - off then some (.slice i ver path (.int .u8) off k none) else none := by
  by_cases h : k ≤ ver - off <;> simp [mSliceS, optBound, mBound, h]

def lentF (n : Nat) (g : Nat → BitVec 8) : Nat → BitVec 8 := fun j => if j < n then g j else 77#8
theorem lentF_congr {n : Nat} {g f : Nat → BitVec 8} (h : ∀ i, i < n → g i = f i) : ∀ j, lentF n g j = lentF n f j := fun j => by
  unfold lentF
  split
  · exact h j (by assumption)
  · rfl

theorem walk25 (call : Calling) (h : Heap) (b : AV) (n : Nat) (g : Nat → BitVec 8) (hb : Byt h b n g) (hn : n < 100000000) :
    ∃ tr, evBody (cx25 call) Try.f25 n25_0 [b] h = some (.slice (h.length + 1) (n + 1) [] (.int .u8) 0 n none, h ++ tr) ∧ tr[1]? = some ⟨arr (n + 1) (lentF n g), n + 1, .open⟩ := by
  have lb := hb.len
  have eb := hb.elems
  rw [b25]
  have main : Evs (evC (cx25 call) n25_0 ⟨[(0, b), (1, .junk), (2, .junk)], h⟩) (fun r => ∃ env tr, r = (.ret, ⟨env, h ++ tr⟩) ∧ env.get 2 = .slice (h.length + 1) (n + 1) [] (.int .u8) 0 n none ∧ tr[1]? = some ⟨arr (n + 1) (lentF n g), n + 1, .open⟩) := by
    obtain ⟨env, he⟩ : ∃ env : Env, env = [(0, b), (1, .junk), (2, .junk)] := ⟨_, rfl⟩
    rw [← he]
    have g0 : env.get 0 = b := by rw [he]; rfl
    clear he
    repeat (first
      | (with_reducible refine Evs.assoc ?_)
      | ((with_reducible refine Evs.some_bnd ?_); try dsimp only [sqK_nrm, sqK_exit, sqK_ret])
      | ((with_reducible apply Evs.bcndT); (focus (simp (disch := omega) [g0, lb, eb] <;> omega)))
      | ((with_reducible apply Evs.bcndF); (focus (simp (disch := omega) [g0, lb, eb] <;> omega)))
      | ((with_reducible apply Evs.step); (focus ((conv => lhs; simp (disch := omega) [g0, lb, eb]); done)); try dsimp only)
      | (simp only [sn25, sqK_nrm, sqK_exit, sqK_ret, inBlk_nrm, inBlk_ret, inBlk_same]))
    refine Evs.ret ⟨_, _, rfl, by simp, ?_⟩
    simp only [List.getElem?_cons_succ, List.getElem?_cons_zero]
    refine congrArg some (congrArg (fun v => Blk.mk v (n + 1) .open) (arr_congr fun i hi => ?_))
    unfold lentF
    by_cases hlt : i < n
    · simp [hlt]
    · simp [hlt, show i - n = 0 by omega]
  obtain ⟨r, hr, env, tr, rfl, e0, e1⟩ := main
  refine ⟨tr, ?_, e1⟩
  rw [hr]
  simp [e0, oneOrTuple]

noncomputable def c25 := conC (fun x : (AV) × (Nat) × (Nat → BitVec 8) => [x.1]) (fun (x : (AV) × (Nat) × (Nat → BitVec 8)) h => Byt h x.1 x.2.1 x.2.2 ∧ x.2.1 < 100000000) (fun (x : (AV) × (Nat) × (Nat → BitVec 8)) h => (.slice h.length (x.2.1 + 1) [] (.int .u8) 0 x.2.1 none, h ++ [(⟨arr (x.2.1 + 1) (lentF x.2.1 x.2.2), x.2.1 + 1, .open⟩ : Blk)]))
noncomputable def callS25 : Calling := addC callS24 25 c25
theorem c25_eq (b : AV) (n : Nat) (g : Nat → BitVec 8) (h : Heap) (hc : Byt h b n g ∧ n < 100000000) : c25 [b] h = some (.slice h.length (n + 1) [] (.int .u8) 0 n none, h ++ [(⟨arr (n + 1) (lentF n g), n + 1, .open⟩ : Blk)]) :=
  conC_eqP (enc := fun x : (AV) × (Nat) × (Nat → BitVec 8) => [x.1]) (P := fun (x : (AV) × (Nat) × (Nat → BitVec 8)) h => Byt h x.1 x.2.1 x.2.2 ∧ x.2.1 < 100000000) (a := (b, n, g)) (f := fun (x : (AV) × (Nat) × (Nat → BitVec 8)) h => (.slice h.length (x.2.1 + 1) [] (.int .u8) 0 x.2.1 none, h ++ [(⟨arr (x.2.1 + 1) (lentF x.2.1 x.2.2), x.2.1 + 1, .open⟩ : Blk)])) (fun x y h hp hq e => by
    have e3 := (List.cons.inj e).1
    rw [e3] at hp
    obtain ⟨e4, e5⟩ := hp.1.det hq.1
    rw [← e4, arr_congr fun i _ => lentF_congr e5 i]
    ) hc
theorem callS25_ok : CallOK Try.prog callS25 := addC_con callS24_ok k25 fun x h hx => by
  obtain ⟨t, ht, h1⟩ := walk25 callS24 h _ _ _ hx.1 hx.2
  exact (s25 callS24_ok ht).pull t 1 _ h1 ⟨_, _, rfl⟩
@[simp] theorem callS25_ne {f : Nat} (args : List AV) (h : Heap) (hf : f ≠ 25) : callS25 f args h = callS24 f args h := addC_ne _ _ _ args h hf
@[simp] theorem callS25_sne {f : Nat} (args : List AV) (h : Heap) (hf : f ≠ 25) : still callS25 f args h = still callS24 f args h := still_ne _ _ _ args h hf
theorem callS25_25 (b : AV) (n : Nat) (g : Nat → BitVec 8) (h : Heap) (hc : Byt h b n g ∧ n < 100000000) : callS25 25 [b] h = some (.slice h.length (n + 1) [] (.int .u8) 0 n none, h ++ [(⟨arr (n + 1) (lentF n g), n + 1, .open⟩ : Blk)]) := by
  unfold callS25; rw [addC_same]; exact c25_eq b n g h hc

/-- A copy that was kept. -/
def Kept (h : Heap) (i ver n : Nat) (y : AV) : Prop := ∃ m md g, blkAt h i ver = some ⟨arr m (lentF n g), ver, md⟩ ∧ n < m ∧ n < ver ∧ n < 100000000 ∧ Byt h y n g
theorem Kept.app {h : Heap} {i ver n : Nat} {y : AV} (hk : Kept h i ver n y) (t : Heap) : Kept (h ++ t) i ver n y := by
  obtain ⟨m, md, g, h1, h2, h3, h4, h5⟩ := hk
  exact ⟨m, md, g, blkAt_app h1 t, h2, h3, h4, h5.app t⟩

theorem walk28 (call : Calling) (h : Heap) (i ver n : Nat) (y : AV) (hk : Kept h i ver n y) : evBody (cx28 call) Try.f28 n28_0 [.slice i ver [] (.int .u8) 0 n none, y] h = some (.bool true, h) := by
  obtain ⟨m, md, g, h1, h2, h3, h4, h5⟩ := hk
  have ly := h5.len
  have sy := h5.str
  have sx : strOf n (lentF n g) = strOf n g := strOf_congr fun j hj => by unfold lentF; rw [if_pos hj]
  have e77 : lentF n g n = 77#8 := by unfold lentF; rw [if_neg (Nat.lt_irrefl _)]
  rw [b28]
  have main : Evs (evC (cx28 call) n28_0 ⟨[(0, .slice i ver [] (.int .u8) 0 n none), (1, y), (2, .junk), (3, .junk), (4, .junk)], h⟩) (fun r => ∃ env, r = (.ret, ⟨env, h⟩) ∧ env.get 4 = .bool true) := by
    obtain ⟨env, he⟩ : ∃ env : Env, env = [(0, .slice i ver [] (.int .u8) 0 n none), (1, y), (2, .junk), (3, .junk), (4, .junk)] := ⟨_, rfl⟩
    rw [← he]
    have g0 : env.get 0 = .slice i ver [] (.int .u8) 0 n none := by rw [he]; rfl
    have g1 : env.get 1 = y := by rw [he]; rfl
    clear he
    repeat (first
      | (with_reducible refine Evs.assoc ?_)
      | ((with_reducible refine Evs.some_bnd ?_); try dsimp only [sqK_nrm, sqK_exit, sqK_ret])
      | ((with_reducible apply Evs.bcndT); (focus (simp (disch := omega) [g0, g1, ly, sy, sx, h1, e77] <;> omega)))
      | ((with_reducible apply Evs.bcndF); (focus (simp (disch := omega) [g0, g1, ly, sy, sx, h1, e77] <;> omega)))
      | ((with_reducible apply Evs.step); (focus ((conv => lhs; simp (disch := omega) [g0, g1, ly, sy, sx, h1, e77]); done)); try dsimp only)
      | (simp only [sn28, sqK_nrm, sqK_exit, sqK_ret, inBlk_nrm, inBlk_ret, inBlk_same]))
    exact Evs.ret ⟨_, rfl, by simp⟩
  obtain ⟨r, hr, env, rfl, e0⟩ := main
  rw [hr]
  simp [e0, oneOrTuple]

noncomputable def c28 := conC (fun x : (Nat) × (Nat) × (Nat) × (AV) => [.slice x.1 x.2.1 [] (.int .u8) 0 x.2.2.1 none, x.2.2.2]) (fun (x : (Nat) × (Nat) × (Nat) × (AV)) h => Kept h x.1 x.2.1 x.2.2.1 x.2.2.2) (fun (x : (Nat) × (Nat) × (Nat) × (AV)) h => (.bool true, h))
noncomputable def callS26 : Calling := addC callS25 28 c28
theorem c28_eq (i : Nat) (ver : Nat) (n : Nat) (y : AV) (h : Heap) (hc : Kept h i ver n y) : c28 [.slice i ver [] (.int .u8) 0 n none, y] h = some (.bool true, h) :=
  conC_eqP (enc := fun x : (Nat) × (Nat) × (Nat) × (AV) => [.slice x.1 x.2.1 [] (.int .u8) 0 x.2.2.1 none, x.2.2.2]) (P := fun (x : (Nat) × (Nat) × (Nat) × (AV)) h => Kept h x.1 x.2.1 x.2.2.1 x.2.2.2) (a := (i, ver, n, y)) (f := fun (x : (Nat) × (Nat) × (Nat) × (AV)) h => (.bool true, h)) (fun x y h hp hq e => by
    rfl
    ) hc
theorem callS26_ok : CallOK Try.prog callS26 := addC_con callS25_ok k28 fun x h hx => by
  have := s28 callS25_ok (walk28 callS25 h _ _ _ _ hx)
  exact this
@[simp] theorem callS26_ne {f : Nat} (args : List AV) (h : Heap) (hf : f ≠ 28) : callS26 f args h = callS25 f args h := addC_ne _ _ _ args h hf
@[simp] theorem callS26_sne {f : Nat} (args : List AV) (h : Heap) (hf : f ≠ 28) : still callS26 f args h = still callS25 f args h := still_ne _ _ _ args h hf
theorem callS26_28 (i : Nat) (ver : Nat) (n : Nat) (y : AV) (h : Heap) (hc : Kept h i ver n y) : callS26 28 [.slice i ver [] (.int .u8) 0 n none, y] h = some (.bool true, h) := by
  unfold callS26; rw [addC_same]; exact c28_eq i ver n y h hc
theorem callS26_28s (i : Nat) (ver : Nat) (n : Nat) (y : AV) (h : Heap) (hc : Kept h i ver n y) : still callS26 28 [.slice i ver [] (.int .u8) 0 n none, y] h = some (.bool true, h) := still_of fun tt => callS26_28 i ver n y (h ++ tt) (hc.app tt)

end Go.Vab

/-
  Unlike blocks stay unlike: each part of a round can be undone.
-/
namespace Go.Vab

theorem xor_cancel {x y k : BitVec 8} (h : x ^^^ k = y ^^^ k) : x = y := by
  have := congrArg (· ^^^ k) h
  simpa [BitVec.xor_assoc] using this

theorem addK_inj {w : Nat → Nat → BitVec 8} {j : Nat} {b d : Nat → BitVec 8} (h : ∀ i, i < 16 → addK w j b i = addK w j d i) : ∀ i, i < 16 → b i = d i :=
  fun i hi => xor_cancel (h i hi)
theorem subSh_inj {b d : Nat → BitVec 8} (h : ∀ i, i < 16 → subSh b i = subSh d i) : ∀ i, i < 16 → b i = d i := by
  intro m hm
  have := h ((m + 12 * (m % 4)) % 16) (Nat.mod_lt _ (by decide))
  unfold subSh at this
  have e : ((m + 12 * (m % 4)) % 16 + 4 * ((m + 12 * (m % 4)) % 16 % 4)) % 16 = m := by omega
  rw [e] at this
  exact sub_inj this

def m0 (a b d e : BitVec 8) : BitVec 8 := a ^^^ (a ^^^ b ^^^ d ^^^ e) ^^^ mulB (a ^^^ b) 2#8
def un (a b d e : BitVec 8) : BitVec 8 := mulB (m0 a b d e) 14#8 ^^^ mulB (m0 b d e a) 11#8 ^^^ mulB (m0 d e a b) 13#8 ^^^ mulB (m0 e a b d) 9#8

theorem mulL' (x y k : BitVec 8) : mulB (x ^^^ y) k = mulB x k ^^^ mulB y k := mul_addL k x y
theorem m0_add (a a' b b' d d' e e' : BitVec 8) : m0 (a ^^^ a') (b ^^^ b') (d ^^^ d') (e ^^^ e') = m0 a b d e ^^^ m0 a' b' d' e' := by
  unfold m0
  simp only [mulL']
  ac_rfl
theorem un_add (a a' b b' d d' e e' : BitVec 8) : un (a ^^^ a') (b ^^^ b') (d ^^^ d') (e ^^^ e') = un a b d e ^^^ un a' b' d' e' := by
  unfold un
  simp only [m0_add, mulL']
  ac_rfl
theorem un_a (a : BitVec 8) : un a 0#8 0#8 0#8 = a := bq_eq (all256_spec (f := fun a => bq (un a 0#8 0#8 0#8) a) (by kernel_rfl) a)
theorem un_b (a : BitVec 8) : un 0#8 a 0#8 0#8 = 0#8 := bq_eq (all256_spec (f := fun a => bq (un 0#8 a 0#8 0#8) 0#8) (by kernel_rfl) a)
theorem un_d (a : BitVec 8) : un 0#8 0#8 a 0#8 = 0#8 := bq_eq (all256_spec (f := fun a => bq (un 0#8 0#8 a 0#8) 0#8) (by kernel_rfl) a)
theorem un_e (a : BitVec 8) : un 0#8 0#8 0#8 a = 0#8 := bq_eq (all256_spec (f := fun a => bq (un 0#8 0#8 0#8 a) 0#8) (by kernel_rfl) a)
theorem un_eq (a b d e : BitVec 8) : un a b d e = a := by
  have h1 := un_add a 0#8 0#8 b 0#8 d 0#8 e
  have h2 := un_add 0#8 0#8 b 0#8 0#8 d 0#8 e
  have h3 := un_add 0#8 0#8 0#8 0#8 d 0#8 0#8 e
  simp only [BitVec.xor_zero, BitVec.zero_xor] at h1 h2 h3
  rw [h1, h2, h3, un_a, un_b, un_d, un_e]
  simp

theorem mixC_at (c : Nat → BitVec 8) (q p : Nat) (hp : p < 4) : mixC c (4 * q + p) = m0 (c (4 * q + p)) (c (4 * q + (p + 1) % 4)) (c (4 * q + (p + 2) % 4)) (c (4 * q + (p + 3) % 4)) := by
  unfold mixC m0
  rw [show (4 * q + p) / 4 = q by omega, show (4 * q + p) % 4 = p by omega]
  match p, hp with
  | 0, _ => rfl
  | 1, _ =>
    show _ ^^^ (c (4 * q) ^^^ c (4 * q + 1) ^^^ c (4 * q + 2) ^^^ c (4 * q + 3)) ^^^ mulB (c (4 * q + 1) ^^^ c (4 * q + 2)) 2#8 = c (4 * q + 1) ^^^ (c (4 * q + 1) ^^^ c (4 * q + 2) ^^^ c (4 * q + 3) ^^^ c (4 * q)) ^^^ mulB (c (4 * q + 1) ^^^ c (4 * q + 2)) 2#8
    ac_rfl
  | 2, _ =>
    show _ ^^^ (c (4 * q) ^^^ c (4 * q + 1) ^^^ c (4 * q + 2) ^^^ c (4 * q + 3)) ^^^ mulB (c (4 * q + 2) ^^^ c (4 * q + 3)) 2#8 = c (4 * q + 2) ^^^ (c (4 * q + 2) ^^^ c (4 * q + 3) ^^^ c (4 * q) ^^^ c (4 * q + 1)) ^^^ mulB (c (4 * q + 2) ^^^ c (4 * q + 3)) 2#8
    ac_rfl
  | 3, _ =>
    show _ ^^^ (c (4 * q) ^^^ c (4 * q + 1) ^^^ c (4 * q + 2) ^^^ c (4 * q + 3)) ^^^ mulB (c (4 * q + 3) ^^^ c (4 * q)) 2#8 = c (4 * q + 3) ^^^ (c (4 * q + 3) ^^^ c (4 * q) ^^^ c (4 * q + 1) ^^^ c (4 * q + 2)) ^^^ mulB (c (4 * q + 3) ^^^ c (4 * q)) 2#8
    ac_rfl

theorem mix_un (c : Nat → BitVec 8) (q p : Nat) (hp : p < 4) : c (4 * q + p) = mulB (mixC c (4 * q + p)) 14#8 ^^^ mulB (mixC c (4 * q + (p + 1) % 4)) 11#8 ^^^ mulB (mixC c (4 * q + (p + 2) % 4)) 13#8 ^^^ mulB (mixC c (4 * q + (p + 3) % 4)) 9#8 := by
  have h := un_eq (c (4 * q + p)) (c (4 * q + (p + 1) % 4)) (c (4 * q + (p + 2) % 4)) (c (4 * q + (p + 3) % 4))
  unfold un at h
  rw [mixC_at c q p hp, mixC_at c q ((p + 1) % 4) (Nat.mod_lt _ (by decide)), mixC_at c q ((p + 2) % 4) (Nat.mod_lt _ (by decide)), mixC_at c q ((p + 3) % 4) (Nat.mod_lt _ (by decide))]
  have e1 : ((p + 1) % 4 + 1) % 4 = (p + 2) % 4 ∧ ((p + 1) % 4 + 2) % 4 = (p + 3) % 4 ∧ ((p + 1) % 4 + 3) % 4 = p := by omega
  have e2 : ((p + 2) % 4 + 1) % 4 = (p + 3) % 4 ∧ ((p + 2) % 4 + 2) % 4 = p ∧ ((p + 2) % 4 + 3) % 4 = (p + 1) % 4 := by omega
  have e3 : ((p + 3) % 4 + 1) % 4 = p ∧ ((p + 3) % 4 + 2) % 4 = (p + 1) % 4 ∧ ((p + 3) % 4 + 3) % 4 = (p + 2) % 4 := by omega
  rw [e1.1, e1.2.1, e1.2.2, e2.1, e2.2.1, e2.2.2, e3.1, e3.2.1, e3.2.2]
  exact h.symm

theorem mixC_inj {b d : Nat → BitVec 8} (h : ∀ i, i < 16 → mixC b i = mixC d i) : ∀ i, i < 16 → b i = d i := by
  intro i hi
  have e : i = 4 * (i / 4) + i % 4 := by omega
  rw [e, mix_un b (i / 4) (i % 4) (Nat.mod_lt _ (by decide)), mix_un d (i / 4) (i % 4) (Nat.mod_lt _ (by decide)), h _ (by omega), h _ (by omega), h _ (by omega), h _ (by omega)]

theorem pre_inj {w : Nat → Nat → BitVec 8} {b d : Nat → BitVec 8} : ∀ j, (∀ i, i < 16 → pre w b j i = pre w d j i) → ∀ i, i < 16 → b i = d i
  | 0, h => h
  | j + 1, h => by
    refine pre_inj (w := w) j (addK_inj (w := w) (j := j) (subSh_inj ?_))
    simp only [pre] at h
    split at h
    · exact h
    · exact mixC_inj h
theorem encF_inj {w : Nat → Nat → BitVec 8} {b d : Nat → BitVec 8} (h : ∀ i, i < 16 → encF w b i = encF w d i) : ∀ i, i < 16 → b i = d i :=
  pre_inj (w := w) 14 (addK_inj h)

theorem arrEq_enc (key a b : Nat → BitVec 8) : arrEq 16 (encF (wd key) a) (encF (wd key) b) = arrEq 16 a b := by
  rw [Bool.eq_iff_iff, arrEq_iff, arrEq_iff]
  exact ⟨encF_inj, fun h => encF_congr (fun _ _ _ _ => rfl) h⟩

/-- One bit turned. -/
def flip (a : Nat → BitVec 8) (bit : BitVec 8) : Nat → BitVec 8 := upd a (bit % 128#8 / 8#8).toNat (a (bit % 128#8 / 8#8).toNat ^^^ 1#8 <<< (bit % 8#8).toNat)
theorem flip_lt (bit : BitVec 8) : (bit % 128#8 / 8#8).toNat < 16 := by
  have := all256_spec (f := fun bit => decide ((bit % 128#8 / 8#8).toNat < 16)) (by kernel_rfl) bit
  exact of_decide_eq_true this
theorem flip_ne (a : Nat → BitVec 8) (bit : BitVec 8) : arrEq 16 a (flip a bit) = false := by
  rw [Bool.eq_false_iff]
  intro h
  have h1 := arrEq_iff.1 h _ (flip_lt bit)
  unfold flip at h1
  rw [upd_same] at h1
  have h2 : 1#8 <<< (bit % 8#8).toNat = 0#8 := by
    have := congrArg (a (bit % 128#8 / 8#8).toNat ^^^ ·) h1
    simp only [BitVec.xor_self] at this
    rw [← BitVec.xor_assoc, BitVec.xor_self, BitVec.zero_xor] at this
    exact this.symm
  have := all256_spec (f := fun bit => !bq (1#8 <<< (bit % 8#8).toNat) 0#8) (by kernel_rfl) bit
  simp only [Bool.not_eq_true'] at this
  exact bq_ne this h2

end Go.Vab

/- How the evaluator reads the functions of a seat. Printed by wip/tools/gen.py (own work). -/
namespace Go.Vab
open Go Go.Proofs
/-! vestry/vestryref08.Words -/
noncomputable def cx22 (call : Calling) : Ctx := ⟨call, TT, 6, [3, 4, 5]⟩
noncomputable def n22_0 : Code := bodyOf Try.f22
noncomputable def n22_1 : Code := cR n22_0
noncomputable def n22_2 : Code := cR n22_1
@[simp] theorem n22_2_eq (call : Calling) (s : St) : evC (cx22 call) n22_2 s = some (.ret, s) := xE
theorem n22_1_ok : drawOk (cOps (cL n22_1)).toList = true := by kernel_rfl
@[simp] theorem n22_1_eq (call : Calling) (env : Env) (h : Heap) : evC (cx22 call) n22_1 ⟨env, h⟩ = (bnd (pureV h (mLoad (.arr 32 (.int .u8)) (env.get 1) h)) fun r0 => bnd (still call 43 [] r0.2) fun r1 => bnd (still call 44 [r0.1, r1.1] r1.2) fun r2 => bnd (stU (.arr 60 (.arr 4 (.int .u8))) (env.get 2) r2.1 r2.2) fun r3 => evC (cx22 call) n22_2 ⟨env, r3.2⟩) := (xSD 1 (cOps (cL n22_1)) (cR n22_1) n22_1_ok).trans (by
  refine opsK_0 ?_
  refine oP 3 fun r0 => ?_
  refine oP 4 fun r1 => ?_
  refine oP 5 fun r2 => ?_
  refine oN fun r3 => ?_
  exact oE)
@[simp] theorem n22_0_eq (call : Calling) (env : Env) (h : Heap) : evC (cx22 call) n22_0 ⟨env, h⟩ = (bnd (mNew (.arr 32 (.int .u8)) (env.get 0) h) fun r0 => bnd (mNew (.arr 60 (.arr 4 (.int .u8))) (mat 60 4 fun _ _ => 0#8) r0.2) fun r1 => evC (cx22 call) n22_1 ⟨(Env.put (Env.put env 1 r0.1) 2 r1.1), r1.2⟩) := (xSR 0 (cOps (cL n22_0)) (cR n22_0)).trans (by
  refine opsK_0 ?_
  refine oP 1 fun r0 => ?_
  refine oP 2 fun r1 => ?_
  exact oE)
theorem b22 (call : Calling) (a0 : AV) (h : Heap) : evBody (cx22 call) Try.f22 n22_0 [a0] h = bnd (evC (cx22 call) n22_0 ⟨[(0, a0), (1, .junk), (2, .junk)], h⟩) (retK fun s => bnd (bnd (mLoad (.arr 60 (.arr 4 (.int .u8))) (s.env.get 2) s.heap) fun v => bnd (some []) fun vs => some (v :: vs)) fun vs => some (oneOrTuple vs)) := by kernel_rfl
theorem fn22 : Try.prog.funcs[22]? = some Try.f22 := by kernel_rfl
theorem k22 : Callable Try.prog 22 := ⟨Try.f22, fn22, by kernel_rfl, by kernel_rfl⟩
theorem s22 {call : Calling} (hc : CallOK Try.prog call) {args : List AV} {h h' : Heap} {v : AV} (he : evBody (cx22 call) Try.f22 n22_0 args h = some (v, h')) : Spec Try.prog 22 args h v h' := body_sound (C := cx22 call) TT_ok hc mixed_ok fn22 (by kernel_rfl) (by kernel_rfl) he
def sn22 := And.intro n22_2_eq (And.intro n22_1_eq (n22_0_eq))
end Go.Vab

/- How the evaluator reads the functions of a seat. Printed by wip/tools/gen.py (own work). -/
namespace Go.Vab
open Go Go.Proofs
/-! vestry/vestrylaw08.AesElements -/
noncomputable def cx3 (call : Calling) : Ctx := ⟨call, TT, 22, [5, 6, 7, 8, 9, 10, 11, 12, 13, 14, 15, 16, 17, 18, 19, 20, 21]⟩
noncomputable def n3_0 : Code := bodyOf Try.f3
noncomputable def n3_1 : Code := cR n3_0
noncomputable def n3_2 : Code := cR n3_1
@[simp] theorem n3_2_eq (call : Calling) (s : St) : evC (cx3 call) n3_2 s = some (.ret, s) := xE
@[simp] theorem n3_1_eq (call : Calling) (env : Env) (h : Heap) : evC (cx3 call) n3_1 ⟨env, h⟩ = (bnd (call 14 [(env.get 0), (env.get 1)] h) fun r2 => bnd (call 15 [(env.get 0), (env.get 1)] r2.2) fun r5 => bnd (pureV r5.2 (mBin .eql r2.1 r5.1)) fun r6 => bnd (gdo r6.1 true (some ((env.get 0), r6.2)) r6.2) fun r8 => bnd (gdo r6.1 true (call 16 [r8.1] r8.2) r8.2) fun r9 => bnd (gdo r6.1 true (some ((env.get 0), r9.2)) r9.2) fun r10 => bnd (gdo r6.1 true (call 17 [r10.1] r10.2) r10.2) fun r11 => bnd (gdo r6.1 true (pureV r11.2 (mBin .eql r9.1 r11.1)) r11.2) fun r12 => bnd (pureV r12.2 (mPick r6.1 r12.1 (.bool false))) fun r13 => bnd (gdo r13.1 true (call 18 [] r13.2) r13.2) fun r15 => bnd (pureV r15.2 (mPick r13.1 r15.1 (.bool false))) fun r16 => evC (cx3 call) n3_2 ⟨(Env.put env 4 r16.1), r16.2⟩) := (xSR 1 (cOps (cL n3_1)) (cR n3_1)).trans (by
  refine opsK_0 ?_
  refine oT 5 (env.get 0) ?_
  refine oT 6 (env.get 1) ?_
  refine oP 7 fun r2 => ?_
  refine oT 8 (env.get 0) ?_
  refine oT 9 (env.get 1) ?_
  refine oP 10 fun r5 => ?_
  refine oP 11 fun r6 => ?_
  refine oT 12 r6.1 ?_
  refine oP 13 fun r8 => ?_
  refine oP 14 fun r9 => ?_
  refine oP 15 fun r10 => ?_
  refine oP 16 fun r11 => ?_
  refine oP 17 fun r12 => ?_
  refine oP 18 fun r13 => ?_
  refine oT 19 r13.1 ?_
  refine oP 20 fun r15 => ?_
  refine oP 21 fun r16 => ?_
  refine oT 4 r16.1 ?_
  exact oE)
@[simp] theorem n3_0_eq (call : Calling) (env : Env) (h : Heap) : evC (cx3 call) n3_0 ⟨env, h⟩ = ( evC (cx3 call) n3_1 ⟨(Env.put env 4 (.bool false)), h⟩) := (xSR 0 (cOps (cL n3_0)) (cR n3_0)).trans (by
  refine opsK_0 ?_
  refine oT 4 (.bool false) ?_
  exact oE)
theorem b3 (call : Calling) (a0 a1 : AV) (h : Heap) : evBody (cx3 call) Try.f3 n3_0 [a0, a1] h = bnd (evC (cx3 call) n3_0 ⟨[(0, a0), (1, a1), (2, .junk), (3, .junk), (4, .junk)], h⟩) (retK fun s => bnd (bnd (some (s.env.get 4)) fun v => bnd (some []) fun vs => some (v :: vs)) fun vs => some (oneOrTuple vs)) := by kernel_rfl
theorem fn3 : Try.prog.funcs[3]? = some Try.f3 := by kernel_rfl
theorem k3 : Callable Try.prog 3 := ⟨Try.f3, fn3, by kernel_rfl, by kernel_rfl⟩
theorem s3 {call : Calling} (hc : CallOK Try.prog call) {args : List AV} {h h' : Heap} {v : AV} (he : evBody (cx3 call) Try.f3 n3_0 args h = some (v, h')) : Spec Try.prog 3 args h v h' := body_sound (C := cx3 call) TT_ok hc mixed_ok fn3 (by kernel_rfl) (by kernel_rfl) he
def sn3 := And.intro n3_2_eq (And.intro n3_1_eq (n3_0_eq))
end Go.Vab

/- How the evaluator reads the functions of a seat. Printed by wip/tools/gen.py (own work). -/
namespace Go.Vab
open Go Go.Proofs
/-! vestry/vestrylaw08.AesEncrypts -/
noncomputable def cx4 (call : Calling) : Ctx := ⟨call, TT, 15, [5, 6, 7, 8, 9, 10, 11, 12, 13, 14]⟩
noncomputable def n4_0 : Code := bodyOf Try.f4
noncomputable def n4_1 : Code := cR n4_0
noncomputable def n4_2 : Code := cR n4_1
@[simp] theorem n4_2_eq (call : Calling) (s : St) : evC (cx4 call) n4_2 s = some (.ret, s) := xE
theorem n4_1_ok : drawOk (cOps (cL n4_1)).toList = true := by kernel_rfl
@[simp] theorem n4_1_eq (call : Calling) (env : Env) (h : Heap) : evC (cx4 call) n4_1 ⟨env, h⟩ = (bnd (pureV h (mLoad (.arr 32 (.int .u8)) (env.get 2) h)) fun r0 => bnd (pureV r0.2 (mLoad (.arr 16 (.int .u8)) (env.get 3) r0.2)) fun r1 => bnd (still call 19 [r0.1, r1.1] r1.2) fun r2 => bnd (pureV r2.2 (mLoad (.arr 32 (.int .u8)) (env.get 2) r2.2)) fun r3 => bnd (pureV r3.2 (mLoad (.arr 16 (.int .u8)) (env.get 3) r3.2)) fun r4 => bnd (still call 20 [r3.1, r4.1] r4.2) fun r5 => bnd (pureV r5.2 (mEq (.arr 16 (.int .u8)) .eql r2.1 r5.1)) fun r6 => bnd (gdo r6.1 true (still call 18 [] r6.2) r6.2) fun r8 => bnd (pureV r8.2 (mPick r6.1 r8.1 (.bool false))) fun r9 => evC (cx4 call) n4_2 ⟨(Env.put env 4 r9.1), r9.2⟩) := (xSD 1 (cOps (cL n4_1)) (cR n4_1) n4_1_ok).trans (by
  refine opsK_0 ?_
  refine oP 5 fun r0 => ?_
  refine oP 6 fun r1 => ?_
  refine oP 7 fun r2 => ?_
  refine oP 8 fun r3 => ?_
  refine oP 9 fun r4 => ?_
  refine oP 10 fun r5 => ?_
  refine oP 11 fun r6 => ?_
  refine oT 12 r6.1 ?_
  refine oP 13 fun r8 => ?_
  refine oP 14 fun r9 => ?_
  refine oT 4 r9.1 ?_
  exact oE)
@[simp] theorem n4_0_eq (call : Calling) (env : Env) (h : Heap) : evC (cx4 call) n4_0 ⟨env, h⟩ = (bnd (mNew (.arr 32 (.int .u8)) (env.get 0) h) fun r0 => bnd (mNew (.arr 16 (.int .u8)) (env.get 1) r0.2) fun r1 => evC (cx4 call) n4_1 ⟨(Env.put (Env.put (Env.put env 2 r0.1) 3 r1.1) 4 (.bool false)), r1.2⟩) := (xSR 0 (cOps (cL n4_0)) (cR n4_0)).trans (by
  refine opsK_0 ?_
  refine oP 2 fun r0 => ?_
  refine oP 3 fun r1 => ?_
  refine oT 4 (.bool false) ?_
  exact oE)
theorem b4 (call : Calling) (a0 a1 : AV) (h : Heap) : evBody (cx4 call) Try.f4 n4_0 [a0, a1] h = bnd (evC (cx4 call) n4_0 ⟨[(0, a0), (1, a1), (2, .junk), (3, .junk), (4, .junk)], h⟩) (retK fun s => bnd (bnd (some (s.env.get 4)) fun v => bnd (some []) fun vs => some (v :: vs)) fun vs => some (oneOrTuple vs)) := by kernel_rfl
theorem fn4 : Try.prog.funcs[4]? = some Try.f4 := by kernel_rfl
theorem k4 : Callable Try.prog 4 := ⟨Try.f4, fn4, by kernel_rfl, by kernel_rfl⟩
theorem s4 {call : Calling} (hc : CallOK Try.prog call) {args : List AV} {h h' : Heap} {v : AV} (he : evBody (cx4 call) Try.f4 n4_0 args h = some (v, h')) : Spec Try.prog 4 args h v h' := body_sound (C := cx4 call) TT_ok hc mixed_ok fn4 (by kernel_rfl) (by kernel_rfl) he
def sn4 := And.intro n4_2_eq (And.intro n4_1_eq (n4_0_eq))
end Go.Vab

/- How the evaluator reads the functions of a seat. Printed by wip/tools/gen.py (own work). -/
namespace Go.Vab
open Go Go.Proofs
/-! vestry/vestrylaw08.AesUnlike -/
noncomputable def cx6 (call : Calling) : Ctx := ⟨call, TT, 44, [11, 12, 13, 14, 15, 16, 17, 18, 19, 20, 21, 22, 23, 24, 25, 26, 27, 28, 29, 30, 31, 32, 33, 34, 35, 36, 37, 38, 39, 40, 41, 42, 43]⟩
noncomputable def n6_0 : Code := bodyOf Try.f6
noncomputable def n6_1 : Code := cR n6_0
noncomputable def n6_2 : Code := cR n6_1
noncomputable def n6_3 : Code := cR n6_2
noncomputable def n6_4 : Code := cR n6_3
noncomputable def n6_5 : Code := cR n6_4
@[simp] theorem n6_5_eq (call : Calling) (s : St) : evC (cx6 call) n6_5 s = some (.ret, s) := xE
theorem n6_4_ok : drawOk (cOps (cL n6_4)).toList = true := by kernel_rfl
@[simp] theorem n6_4_eq (call : Calling) (env : Env) (h : Heap) : evC (cx6 call) n6_4 ⟨env, h⟩ = (bnd (pureV h (mLoad (.arr 16 (.int .u8)) (env.get 9) h)) fun r0 => bnd (pureV r0.2 (mLoad (.arr 32 (.int .u8)) (env.get 4) r0.2)) fun r1 => bnd (pureV r1.2 (mLoad (.arr 16 (.int .u8)) (env.get 6) r1.2)) fun r2 => bnd (still call 19 [r1.1, r2.1] r2.2) fun r3 => bnd (pureV r3.2 (mEq (.arr 16 (.int .u8)) .eql r0.1 r3.1)) fun r4 => bnd (pureV r4.2 (mLoad (.arr 16 (.int .u8)) (env.get 5) r4.2)) fun r5 => bnd (pureV r5.2 (mLoad (.arr 16 (.int .u8)) (env.get 6) r5.2)) fun r6 => bnd (pureV r6.2 (mEq (.arr 16 (.int .u8)) .eql r5.1 r6.1)) fun r7 => bnd (pureV r7.2 (mBinB .eql r4.1 r7.1)) fun r8 => bnd (gdo r8.1 true (pureV r8.2 (mLoad (.arr 16 (.int .u8)) (env.get 9) r8.2)) r8.2) fun r10 => bnd (gdo r8.1 true (pureV r10.2 (mLoad (.arr 32 (.int .u8)) (env.get 4) r10.2)) r10.2) fun r11 => bnd (gdo r8.1 true (pureV r11.2 (mLoad (.arr 16 (.int .u8)) (env.get 10) r11.2)) r11.2) fun r12 => bnd (gdo r8.1 true (still call 19 [r11.1, r12.1] r12.2) r12.2) fun r13 => bnd (gdo r8.1 true (pureV r13.2 (mEq (.arr 16 (.int .u8)) .neq r10.1 r13.1)) r13.2) fun r14 => bnd (pureV r14.2 (mPick r8.1 r14.1 (.bool false))) fun r15 => bnd (gdo r15.1 true (still call 18 [] r15.2) r15.2) fun r17 => bnd (pureV r17.2 (mPick r15.1 r17.1 (.bool false))) fun r18 => evC (cx6 call) n6_5 ⟨(Env.put env 8 r18.1), r18.2⟩) := (xSD 4 (cOps (cL n6_4)) (cR n6_4) n6_4_ok).trans (by
  refine opsK_0 ?_
  refine oP 25 fun r0 => ?_
  refine oP 26 fun r1 => ?_
  refine oP 27 fun r2 => ?_
  refine oP 28 fun r3 => ?_
  refine oP 29 fun r4 => ?_
  refine oP 30 fun r5 => ?_
  refine oP 31 fun r6 => ?_
  refine oP 32 fun r7 => ?_
  refine oP 33 fun r8 => ?_
  refine oT 34 r8.1 ?_
  refine oP 35 fun r10 => ?_
  refine oP 36 fun r11 => ?_
  refine oP 37 fun r12 => ?_
  refine oP 38 fun r13 => ?_
  refine oP 39 fun r14 => ?_
  refine oP 40 fun r15 => ?_
  refine oT 41 r15.1 ?_
  refine oP 42 fun r17 => ?_
  refine oP 43 fun r18 => ?_
  refine oT 8 r18.1 ?_
  exact oE)
@[simp] theorem n6_3_eq (call : Calling) (env : Env) (h : Heap) : evC (cx6 call) n6_3 ⟨env, h⟩ = (bnd (pureV h (mBin .rem (env.get 3) (u8 128#8))) fun r1 => bnd (pureV r1.2 (mBin .quo r1.1 (u8 8#8))) fun r2 => bnd (pureV r2.2 (mIdxA (.arr 16 (.int .u8)) (env.get 10) r2.1)) fun r3 => bnd (pureV r3.2 (mLoad (.int .u8) r3.1 r3.2)) fun r4 => bnd (pureV r4.2 (mBin .rem (env.get 3) (u8 8#8))) fun r6 => bnd (pureV r6.2 (mBin .shl (u8 1#8) r6.1)) fun r7 => bnd (pureV r7.2 (mBin .xor r4.1 r7.1)) fun r8 => bnd (pureV r8.2 (mIdxA (.arr 16 (.int .u8)) (env.get 10) r2.1)) fun r9 => bnd (stU (.int .u8) r9.1 r8.1 r9.2) fun r10 => evC (cx6 call) n6_4 ⟨env, r10.2⟩) := (xSR 3 (cOps (cL n6_3)) (cR n6_3)).trans (by
  refine opsK_0 ?_
  refine oT 15 (env.get 3) ?_
  refine oP 16 fun r1 => ?_
  refine oP 17 fun r2 => ?_
  refine oP 18 fun r3 => ?_
  refine oP 19 fun r4 => ?_
  refine oT 20 (env.get 3) ?_
  refine oP 21 fun r6 => ?_
  refine oP 22 fun r7 => ?_
  refine oP 23 fun r8 => ?_
  refine oP 24 fun r9 => ?_
  refine oN fun r10 => ?_
  exact oE)
@[simp] theorem n6_2_eq (call : Calling) (env : Env) (h : Heap) : evC (cx6 call) n6_2 ⟨env, h⟩ = (bnd (pureV h (mLoad (.arr 16 (.int .u8)) (env.get 5) h)) fun r0 => bnd (mNew (.arr 16 (.int .u8)) (arr 16 fun _ => 0#8) r0.2) fun r1 => bnd (stU (.arr 16 (.int .u8)) r1.1 r0.1 r1.2) fun r2 => evC (cx6 call) n6_3 ⟨(Env.put env 10 r1.1), r2.2⟩) := (xSR 2 (cOps (cL n6_2)) (cR n6_2)).trans (by
  refine opsK_0 ?_
  refine oP 14 fun r0 => ?_
  refine oP 10 fun r1 => ?_
  refine oN fun r2 => ?_
  exact oE)
@[simp] theorem n6_1_eq (call : Calling) (env : Env) (h : Heap) : evC (cx6 call) n6_1 ⟨env, h⟩ = (bnd (pureV h (mLoad (.arr 32 (.int .u8)) (env.get 4) h)) fun r0 => bnd (pureV r0.2 (mLoad (.arr 16 (.int .u8)) (env.get 5) r0.2)) fun r1 => bnd (call 19 [r0.1, r1.1] r1.2) fun r2 => bnd (mNew (.arr 16 (.int .u8)) (arr 16 fun _ => 0#8) r2.2) fun r3 => bnd (stU (.arr 16 (.int .u8)) r3.1 r2.1 r3.2) fun r4 => evC (cx6 call) n6_2 ⟨(Env.put env 9 r3.1), r4.2⟩) := (xSR 1 (cOps (cL n6_1)) (cR n6_1)).trans (by
  refine opsK_0 ?_
  refine oP 11 fun r0 => ?_
  refine oP 12 fun r1 => ?_
  refine oP 13 fun r2 => ?_
  refine oP 9 fun r3 => ?_
  refine oN fun r4 => ?_
  exact oE)
@[simp] theorem n6_0_eq (call : Calling) (env : Env) (h : Heap) : evC (cx6 call) n6_0 ⟨env, h⟩ = (bnd (mNew (.arr 32 (.int .u8)) (env.get 0) h) fun r0 => bnd (mNew (.arr 16 (.int .u8)) (env.get 1) r0.2) fun r1 => bnd (mNew (.arr 16 (.int .u8)) (env.get 2) r1.2) fun r2 => evC (cx6 call) n6_1 ⟨(Env.put (Env.put (Env.put (Env.put env 4 r0.1) 5 r1.1) 6 r2.1) 8 (.bool false)), r2.2⟩) := (xSR 0 (cOps (cL n6_0)) (cR n6_0)).trans (by
  refine opsK_0 ?_
  refine oP 4 fun r0 => ?_
  refine oP 5 fun r1 => ?_
  refine oP 6 fun r2 => ?_
  refine oT 8 (.bool false) ?_
  exact oE)
theorem b6 (call : Calling) (a0 a1 a2 a3 : AV) (h : Heap) : evBody (cx6 call) Try.f6 n6_0 [a0, a1, a2, a3] h = bnd (evC (cx6 call) n6_0 ⟨[(0, a0), (1, a1), (2, a2), (3, a3), (4, .junk), (5, .junk), (6, .junk), (7, .junk), (8, .junk), (9, .junk), (10, .junk)], h⟩) (retK fun s => bnd (bnd (some (s.env.get 8)) fun v => bnd (some []) fun vs => some (v :: vs)) fun vs => some (oneOrTuple vs)) := by kernel_rfl
theorem fn6 : Try.prog.funcs[6]? = some Try.f6 := by kernel_rfl
theorem k6 : Callable Try.prog 6 := ⟨Try.f6, fn6, by kernel_rfl, by kernel_rfl⟩
theorem s6 {call : Calling} (hc : CallOK Try.prog call) {args : List AV} {h h' : Heap} {v : AV} (he : evBody (cx6 call) Try.f6 n6_0 args h = some (v, h')) : Spec Try.prog 6 args h v h' := body_sound (C := cx6 call) TT_ok hc mixed_ok fn6 (by kernel_rfl) (by kernel_rfl) he
def sn6 := And.intro n6_5_eq (And.intro n6_4_eq (And.intro n6_3_eq (And.intro n6_2_eq (And.intro n6_1_eq (n6_0_eq)))))
end Go.Vab

/- How the evaluator reads the functions of a seat. Printed by wip/tools/gen.py (own work). -/
namespace Go.Vab
open Go Go.Proofs
/-! vestry/vestrylaw08.AesWords -/
noncomputable def cx7 (call : Calling) : Ctx := ⟨call, TT, 11, [3, 4, 5, 6, 7, 8, 9, 10]⟩
noncomputable def n7_0 : Code := bodyOf Try.f7
noncomputable def n7_1 : Code := cR n7_0
noncomputable def n7_2 : Code := cR n7_1
@[simp] theorem n7_2_eq (call : Calling) (s : St) : evC (cx7 call) n7_2 s = some (.ret, s) := xE
theorem n7_1_ok : drawOk (cOps (cL n7_1)).toList = true := by kernel_rfl
@[simp] theorem n7_1_eq (call : Calling) (env : Env) (h : Heap) : evC (cx7 call) n7_1 ⟨env, h⟩ = (bnd (pureV h (mLoad (.arr 32 (.int .u8)) (env.get 1) h)) fun r0 => bnd (still call 21 [r0.1] r0.2) fun r1 => bnd (pureV r1.2 (mLoad (.arr 32 (.int .u8)) (env.get 1) r1.2)) fun r2 => bnd (still call 22 [r2.1] r2.2) fun r3 => bnd (pureV r3.2 (mEq (.arr 60 (.arr 4 (.int .u8))) .eql r1.1 r3.1)) fun r4 => bnd (gdo r4.1 true (still call 18 [] r4.2) r4.2) fun r6 => bnd (pureV r6.2 (mPick r4.1 r6.1 (.bool false))) fun r7 => evC (cx7 call) n7_2 ⟨(Env.put env 2 r7.1), r7.2⟩) := (xSD 1 (cOps (cL n7_1)) (cR n7_1) n7_1_ok).trans (by
  refine opsK_0 ?_
  refine oP 3 fun r0 => ?_
  refine oP 4 fun r1 => ?_
  refine oP 5 fun r2 => ?_
  refine oP 6 fun r3 => ?_
  refine oP 7 fun r4 => ?_
  refine oT 8 r4.1 ?_
  refine oP 9 fun r6 => ?_
  refine oP 10 fun r7 => ?_
  refine oT 2 r7.1 ?_
  exact oE)
@[simp] theorem n7_0_eq (call : Calling) (env : Env) (h : Heap) : evC (cx7 call) n7_0 ⟨env, h⟩ = (bnd (mNew (.arr 32 (.int .u8)) (env.get 0) h) fun r0 => evC (cx7 call) n7_1 ⟨(Env.put (Env.put env 1 r0.1) 2 (.bool false)), r0.2⟩) := (xSR 0 (cOps (cL n7_0)) (cR n7_0)).trans (by
  refine opsK_0 ?_
  refine oP 1 fun r0 => ?_
  refine oT 2 (.bool false) ?_
  exact oE)
theorem b7 (call : Calling) (a0 : AV) (h : Heap) : evBody (cx7 call) Try.f7 n7_0 [a0] h = bnd (evC (cx7 call) n7_0 ⟨[(0, a0), (1, .junk), (2, .junk)], h⟩) (retK fun s => bnd (bnd (some (s.env.get 2)) fun v => bnd (some []) fun vs => some (v :: vs)) fun vs => some (oneOrTuple vs)) := by kernel_rfl
theorem fn7 : Try.prog.funcs[7]? = some Try.f7 := by kernel_rfl
theorem k7 : Callable Try.prog 7 := ⟨Try.f7, fn7, by kernel_rfl, by kernel_rfl⟩
theorem s7 {call : Calling} (hc : CallOK Try.prog call) {args : List AV} {h h' : Heap} {v : AV} (he : evBody (cx7 call) Try.f7 n7_0 args h = some (v, h')) : Spec Try.prog 7 args h v h' := body_sound (C := cx7 call) TT_ok hc mixed_ok fn7 (by kernel_rfl) (by kernel_rfl) he
def sn7 := And.intro n7_2_eq (And.intro n7_1_eq (n7_0_eq))
end Go.Vab

/-
  The statements AesElements, AesEncrypts, AesWords, AesUnlike: their walks.
-/
namespace Go.Vab
open Go Go.Proofs

theorem walk22 (h : Heap) (key : Nat → BitVec 8) : ∃ t, evBody (cx22 callA13) Try.f22 n22_0 [arr 32 key] h = some (mat 60 4 (wd key), h ++ t) := by
  rw [b22]
  have main : Evs (evC (cx22 callA13) n22_0 ⟨[(0, arr 32 key), (1, .junk), (2, .junk)], h⟩) (fun r => ∃ env t, r = (.ret, ⟨env, h ++ t⟩) ∧ mLoad (.arr 60 (.arr 4 (.int .u8))) (env.get 2) (h ++ t) = some (mat 60 4 (wd key))) := by
    obtain ⟨env, he⟩ : ∃ env : Env, env = [(0, arr 32 key), (1, .junk), (2, .junk)] := ⟨_, rfl⟩
    rw [← he]
    have g0 : env.get 0 = arr 32 key := by rw [he]; rfl
    clear he
    repeat (first
      | (with_reducible refine Evs.assoc ?_)
      | ((with_reducible refine Evs.some_bnd ?_); try dsimp only [sqK_nrm, sqK_exit, sqK_ret])
      | ((with_reducible apply Evs.bcndT); (focus (simp (disch := omega) [g0] <;> omega)))
      | ((with_reducible apply Evs.bcndF); (focus (simp (disch := omega) [g0] <;> omega)))
      | ((with_reducible apply Evs.step); (focus ((conv => lhs; simp (disch := omega) [g0]); done)); try dsimp only)
      | (simp only [sn22, sqK_nrm, sqK_exit, sqK_ret, inBlk_nrm, inBlk_ret, inBlk_same]))
    exact Evs.ret ⟨_, _, rfl, by simp⟩
  obtain ⟨r, hr, env, t, rfl, e0⟩ := main
  refine ⟨t, ?_⟩
  rw [hr]
  simp [e0, oneOrTuple]

noncomputable def c22 := conC (fun x : Nat → BitVec 8 => [arr 32 x]) (fun _ _ => True) (fun x h => (mat 60 4 (wd x), h))
noncomputable def callA15 : Calling := addC callA14 22 c22
theorem c22_eq (key : Nat → BitVec 8) (h : Heap) : c22 [arr 32 key] h = some (mat 60 4 (wd key), h) :=
  conC_eq (enc := fun x : Nat → BitVec 8 => [arr 32 x]) (a := key) (f := fun x h => (mat 60 4 (wd x), h))
    (fun x y h e => by
      have e1 := arr_inj.1 (List.cons.inj e).1
      simp only [Prod.mk.injEq, and_true]
      exact mat_congr fun i _ p hp => wd_congr e1 i p hp) trivial
theorem callA15_ok : CallOK Try.prog callA15 := addC_con callA14_ok k22 fun x h _ => by
  obtain ⟨t, ht⟩ := walk22 h x
  have : Spec Try.prog 22 [arr 32 x] h (mat 60 4 (wd x)) (h ++ t) := s22 callA13_ok ht
  exact this.drop0 t (mat_under _ _ _ _)

@[simp] theorem callA15_14 (a b : BitVec 8) (h : Heap) : callA15 14 [u8 a, u8 b] h = some (u8 (mulB a b), h) := by simp [callA15, callA14, callA13, callA12, callA11, callA10, callA9, callA8, callA7, callA6, callA5, callA4, callA3, callA2, callA1, addC, c14_eq]
@[simp] theorem callA15_15 (a b : BitVec 8) (h : Heap) : callA15 15 [u8 a, u8 b] h = some (u8 (mulB a b), h) := by simp [callA15, callA14, callA13, addC]
@[simp] theorem callA15_16 (a : BitVec 8) (h : Heap) : callA15 16 [u8 a] h = some (u8 (subB a), h) := by simp [callA15, callA14, callA13, callA12, callA11, callA10, callA9, callA8, callA7, callA6, callA5, callA4, callA3, addC]
@[simp] theorem callA15_17 (a : BitVec 8) (h : Heap) : callA15 17 [u8 a] h = some (u8 (subB a), h) := by simp [callA15, callA14, callA13, callA12, callA11, addC]
@[simp] theorem callA15_18 (h : Heap) : callA15 18 [] h = some (.bool true, h) := by simp [callA15, callA14, callA13, callA12, callA11, callA10, callA9, callA8, callA7, callA6, addC, c18_eq]
@[simp] theorem callA15_19 (key b : Nat → BitVec 8) (h : Heap) : callA15 19 [arr 32 key, arr 16 b] h = some (arr 16 (encF (wd key) b), h) := by simp [callA15, callA14, callA13, callA12, callA11, callA10, callA9, callA8, callA7, callA6, addC]
@[simp] theorem callA15_20 (key b : Nat → BitVec 8) (h : Heap) : callA15 20 [arr 32 key, arr 16 b] h = some (arr 16 (encF (wd key) b), h) := by simp [callA15, callA14, addC, c20_eq]
@[simp] theorem callA15_21 (key : Nat → BitVec 8) (h : Heap) : callA15 21 [arr 32 key] h = some (mat 60 4 (wd key), h) := by simp [callA15, callA14, callA13, callA12, callA11, callA10, callA9, callA8, callA7, addC, c21_eq]
@[simp] theorem callA15_22 (key : Nat → BitVec 8) (h : Heap) : callA15 22 [arr 32 key] h = some (mat 60 4 (wd key), h) := by simp [callA15, addC, c22_eq]
@[simp] theorem callA15_18s (h : Heap) : still callA15 18 [] h = some (.bool true, h) := still_of fun t => by simp
@[simp] theorem callA15_19s (key b : Nat → BitVec 8) (h : Heap) : still callA15 19 [arr 32 key, arr 16 b] h = some (arr 16 (encF (wd key) b), h) := still_of fun t => by simp
@[simp] theorem callA15_20s (key b : Nat → BitVec 8) (h : Heap) : still callA15 20 [arr 32 key, arr 16 b] h = some (arr 16 (encF (wd key) b), h) := still_of fun t => by simp
@[simp] theorem callA15_21s (key : Nat → BitVec 8) (h : Heap) : still callA15 21 [arr 32 key] h = some (mat 60 4 (wd key), h) := still_of fun t => by simp
@[simp] theorem callA15_22s (key : Nat → BitVec 8) (h : Heap) : still callA15 22 [arr 32 key] h = some (mat 60 4 (wd key), h) := still_of fun t => by simp

theorem arrEq_self (n : Nat) (g : Nat → BitVec 8) : arrEq n g g = true := arrEq_iff.2 fun _ _ => rfl
theorem matEq_self (m n : Nat) (g : Nat → Nat → BitVec 8) : matEq m n g g = true := matEq_iff.2 fun _ _ _ _ => rfl

theorem walk3 (h : Heap) (a b : BitVec 8) : ∃ t, evBody (cx3 callA15) Try.f3 n3_0 [u8 a, u8 b] h = some (.bool true, h ++ t) := by
  rw [b3]
  have main : Evs (evC (cx3 callA15) n3_0 ⟨[(0, u8 a), (1, u8 b), (2, .junk), (3, .junk), (4, .junk)], h⟩) (fun r => ∃ env t, r = (.ret, ⟨env, h ++ t⟩) ∧ env.get 4 = .bool true) := by
    obtain ⟨env, he⟩ : ∃ env : Env, env = [(0, u8 a), (1, u8 b), (2, .junk), (3, .junk), (4, .junk)] := ⟨_, rfl⟩
    rw [← he]
    have g0 : env.get 0 = u8 a := by rw [he]; rfl
    have g1 : env.get 1 = u8 b := by rw [he]; rfl
    clear he
    repeat (first
      | (with_reducible refine Evs.assoc ?_)
      | ((with_reducible refine Evs.some_bnd ?_); try dsimp only [sqK_nrm, sqK_exit, sqK_ret])
      | ((with_reducible apply Evs.bcndT); (focus (simp (disch := omega) [g0, g1] <;> omega)))
      | ((with_reducible apply Evs.bcndF); (focus (simp (disch := omega) [g0, g1] <;> omega)))
      | ((with_reducible apply Evs.step); (focus ((conv => lhs; simp (disch := omega) [g0, g1]); done)); try dsimp only)
      | (simp only [sn3, sqK_nrm, sqK_exit, sqK_ret, inBlk_nrm, inBlk_ret, inBlk_same]))
    exact Evs.ret ⟨_, [], by rw [List.append_nil], by simp⟩
  obtain ⟨r, hr, env, t, rfl, e0⟩ := main
  refine ⟨t, ?_⟩
  rw [hr]
  simp [e0, oneOrTuple]

theorem walk4 (h : Heap) (key b : Nat → BitVec 8) : ∃ t, evBody (cx4 callA15) Try.f4 n4_0 [arr 32 key, arr 16 b] h = some (.bool true, h ++ t) := by
  rw [b4]
  have main : Evs (evC (cx4 callA15) n4_0 ⟨[(0, arr 32 key), (1, arr 16 b), (2, .junk), (3, .junk), (4, .junk)], h⟩) (fun r => ∃ env t, r = (.ret, ⟨env, h ++ t⟩) ∧ env.get 4 = .bool true) := by
    obtain ⟨env, he⟩ : ∃ env : Env, env = [(0, arr 32 key), (1, arr 16 b), (2, .junk), (3, .junk), (4, .junk)] := ⟨_, rfl⟩
    rw [← he]
    have g0 : env.get 0 = arr 32 key := by rw [he]; rfl
    have g1 : env.get 1 = arr 16 b := by rw [he]; rfl
    clear he
    repeat (first
      | (with_reducible refine Evs.assoc ?_)
      | ((with_reducible refine Evs.some_bnd ?_); try dsimp only [sqK_nrm, sqK_exit, sqK_ret])
      | ((with_reducible apply Evs.bcndT); (focus (simp (disch := omega) [g0, g1, arrEq_self] <;> omega)))
      | ((with_reducible apply Evs.bcndF); (focus (simp (disch := omega) [g0, g1, arrEq_self] <;> omega)))
      | ((with_reducible apply Evs.step); (focus ((conv => lhs; simp (disch := omega) [g0, g1, arrEq_self]); done)); try dsimp only)
      | (simp only [sn4, sqK_nrm, sqK_exit, sqK_ret, inBlk_nrm, inBlk_ret, inBlk_same]))
    exact Evs.ret ⟨_, _, rfl, by simp⟩
  obtain ⟨r, hr, env, t, rfl, e0⟩ := main
  refine ⟨t, ?_⟩
  rw [hr]
  simp [e0, oneOrTuple]

theorem walk7 (h : Heap) (key : Nat → BitVec 8) : ∃ t, evBody (cx7 callA15) Try.f7 n7_0 [arr 32 key] h = some (.bool true, h ++ t) := by
  rw [b7]
  have main : Evs (evC (cx7 callA15) n7_0 ⟨[(0, arr 32 key), (1, .junk), (2, .junk)], h⟩) (fun r => ∃ env t, r = (.ret, ⟨env, h ++ t⟩) ∧ env.get 2 = .bool true) := by
    obtain ⟨env, he⟩ : ∃ env : Env, env = [(0, arr 32 key), (1, .junk), (2, .junk)] := ⟨_, rfl⟩
    rw [← he]
    have g0 : env.get 0 = arr 32 key := by rw [he]; rfl
    clear he
    repeat (first
      | (with_reducible refine Evs.assoc ?_)
      | ((with_reducible refine Evs.some_bnd ?_); try dsimp only [sqK_nrm, sqK_exit, sqK_ret])
      | ((with_reducible apply Evs.bcndT); (focus (simp (disch := omega) [g0, matEq_self] <;> omega)))
      | ((with_reducible apply Evs.bcndF); (focus (simp (disch := omega) [g0, matEq_self] <;> omega)))
      | ((with_reducible apply Evs.step); (focus ((conv => lhs; simp (disch := omega) [g0, matEq_self]); done)); try dsimp only)
      | (simp only [sn7, sqK_nrm, sqK_exit, sqK_ret, inBlk_nrm, inBlk_ret, inBlk_same]))
    exact Evs.ret ⟨_, _, rfl, by simp⟩
  obtain ⟨r, hr, env, t, rfl, e0⟩ := main
  refine ⟨t, ?_⟩
  rw [hr]
  simp [e0, oneOrTuple]

theorem walk6 (h : Heap) (key a b : Nat → BitVec 8) (bit : BitVec 8) : ∃ t, evBody (cx6 callA15) Try.f6 n6_0 [arr 32 key, arr 16 a, arr 16 b, u8 bit] h = some (.bool true, h ++ t) := by
  have hlt := flip_lt bit
  have e1 : mBin .rem (u8 bit) (u8 128#8) = some (u8 (bit % 128#8)) := u8_rem _ _ (by decide)
  have e2 : ∀ x, mBin .quo (u8 x) (u8 8#8) = some (u8 (x / 8#8)) := fun x => u8_quo _ _ (by decide)
  have e3 : mBin .rem (u8 bit) (u8 8#8) = some (u8 (bit % 8#8)) := u8_rem _ _ (by decide)
  have e4 := arrEq_enc key a b
  have e5 : arrEq 16 (encF (wd key) a) (encF (wd key) (upd a (bit % 128#8 / 8#8).toNat (a (bit % 128#8 / 8#8).toNat ^^^ 1#8 <<< (bit % 8#8).toNat))) = false := by
    rw [arrEq_enc]; exact flip_ne a bit
  rw [show (bit % 8#8).toNat = bit.toNat % 8 by simp] at e5
  generalize hk : (bit % 128#8 / 8#8).toNat = k at hlt e5
  have e6 : ∀ (H : Heap) (u : Ty) (i : Nat), mIdxA (.arr 16 u) (.ptr i 0 [] (.arr 16 u)) (u8 (bit % 128#8 / 8#8)) = some (.ptr i 0 [k] u) := fun H u i => by
    rw [mIdxA_u8, hk, if_pos hlt]; rfl
  rw [b6]
  have main : Evs (evC (cx6 callA15) n6_0 ⟨[(0, arr 32 key), (1, arr 16 a), (2, arr 16 b), (3, u8 bit), (4, .junk), (5, .junk), (6, .junk), (7, .junk), (8, .junk), (9, .junk), (10, .junk)], h⟩) (fun r => ∃ env t, r = (.ret, ⟨env, h ++ t⟩) ∧ env.get 8 = .bool true) := by
    obtain ⟨env, he⟩ : ∃ env : Env, env = [(0, arr 32 key), (1, arr 16 a), (2, arr 16 b), (3, u8 bit), (4, .junk), (5, .junk), (6, .junk), (7, .junk), (8, .junk), (9, .junk), (10, .junk)] := ⟨_, rfl⟩
    rw [← he]
    have g0 : env.get 0 = arr 32 key := by rw [he]; rfl
    have g1 : env.get 1 = arr 16 a := by rw [he]; rfl
    have g2 : env.get 2 = arr 16 b := by rw [he]; rfl
    have g3 : env.get 3 = u8 bit := by rw [he]; rfl
    clear he
    repeat (first
      | (with_reducible refine Evs.assoc ?_)
      | ((with_reducible refine Evs.some_bnd ?_); try dsimp only [sqK_nrm, sqK_exit, sqK_ret])
      | ((with_reducible apply Evs.bcndT); (focus (simp (disch := omega) [g0, g1, g2, g3, e1, e2, e3, e4, e5, e6 h, arrEq_self] <;> omega)))
      | ((with_reducible apply Evs.bcndF); (focus (simp (disch := omega) [g0, g1, g2, g3, e1, e2, e3, e4, e5, e6 h, arrEq_self] <;> omega)))
      | ((with_reducible apply Evs.step); (focus ((conv => lhs; simp (disch := omega) [g0, g1, g2, g3, e1, e2, e3, e4, e5, e6 h, arrEq_self]); done)); try dsimp only)
      | (simp only [sn6, sqK_nrm, sqK_exit, sqK_ret, inBlk_nrm, inBlk_ret, inBlk_same]))
    exact Evs.ret ⟨_, _, rfl, by simp⟩
  obtain ⟨r, hr, env, t, rfl, e0⟩ := main
  refine ⟨t, ?_⟩
  rw [hr]
  simp [e0, oneOrTuple]

end Go.Vab
