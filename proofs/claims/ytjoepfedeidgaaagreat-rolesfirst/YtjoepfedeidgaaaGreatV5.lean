/-
  Where somebody stands in the program's lists: the search.
-/
import Derived.Test.YtjoepfedeidgaaaGreatV2
import Derived.Test.YtjoepfedeidgaaaGreatV4
import Derived.Test.YtjoepfedeidgaaaGreatV3
set_option linter.all false
set_option linter.unusedSectionVars false
namespace Go.Vab
open Go Go.Proofs
theorem runRp4_0 {G X : Prop} (f : Hd X → G := by
 intro xX
 repeat' (first | refine stp (x := ?_) | (simp (decide := true) only [sn107, snB, if_true, if_false]) | (with_reducible refine n107_13_w _ _ _ ?_) | (with_reducible refine n107_17_w _ _ _ ?_))
 exact xX.get) (x : X) : G := f ⟨x⟩
theorem runRp4_1 {G X : Prop} (f : Hd X → G := by
 intro xX
 repeat' (first | refine stp (x := ?_) | (with_reducible refine ValW_i (c108 (hcc _)) ?_; try dsimp only) | (with_reducible refine SpecQ.step (c108 (hcc _)) ?_; rintro _ rfl; try dsimp only) | (simp (decide := true) only [sn107, snB, if_true, if_false]) | (with_reducible refine n107_13_w _ _ _ ?_) | (with_reducible refine n107_17_w _ _ _ ?_))
 exact xX.get) (x : X) : G := f ⟨x⟩
theorem runRp4_2 {G X : Prop} (f : Hd X → G := by
 intro xX
 repeat' (first | refine stp (x := ?_) | (simp (decide := true) only [sn119, snB, if_true, if_false]) | (with_reducible refine n119_13_w _ _ _ ?_) | (with_reducible refine n119_17_w _ _ _ ?_))
 exact xX.get) (x : X) : G := f ⟨x⟩
theorem runRp4_3 {G X : Prop} (f : Hd X → G := by
 intro xX
 repeat' (first | refine stp (x := ?_) | (with_reducible refine ValW_i (c120 (hcc _)) ?_; try dsimp only) | (with_reducible refine SpecQ.step (c120 (hcc _)) ?_; rintro _ rfl; try dsimp only) | (simp (decide := true) only [sn119, snB, if_true, if_false]) | (with_reducible refine n119_13_w _ _ _ ?_) | (with_reducible refine n119_17_w _ _ _ ?_))
 exact xX.get) (x : X) : G := f ⟨x⟩
theorem runRp4_4 {G X : Prop} (f : Hd X → G := by
 intro xX
 repeat' (first | refine stp (x := ?_) | (simp (decide := true) only [sn121, snB, if_true, if_false]) | (with_reducible refine n121_13_w _ _ _ ?_) | (with_reducible refine n121_17_w _ _ _ ?_))
 exact xX.get) (x : X) : G := f ⟨x⟩
theorem runRp4_5 {G X : Prop} (f : Hd X → G := by
 intro xX
 repeat' (first | refine stp (x := ?_) | (with_reducible refine ValW_i (c122 (hcc _)) ?_; try dsimp only) | (with_reducible refine SpecQ.step (c122 (hcc _)) ?_; rintro _ rfl; try dsimp only) | (simp (decide := true) only [sn121, snB, if_true, if_false]) | (with_reducible refine n121_13_w _ _ _ ?_) | (with_reducible refine n121_17_w _ _ _ ?_))
 exact xX.get) (x : X) : G := f ⟨x⟩
theorem runRp4_6 {G X : Prop} (f : Hd X → G := by
 intro xX
 repeat' (first | refine stp (x := ?_) | (simp (decide := true) only [sn130, snB, if_true, if_false]) | (with_reducible refine n130_13_w _ _ _ ?_) | (with_reducible refine n130_17_w _ _ _ ?_))
 exact xX.get) (x : X) : G := f ⟨x⟩
theorem runRp4_7 {G X : Prop} (f : Hd X → G := by
 intro xX
 repeat' (first | refine stp (x := ?_) | (with_reducible refine ValW_i (c131 (hcc _)) ?_; try dsimp only) | (with_reducible refine SpecQ.step (c131 (hcc _)) ?_; rintro _ rfl; try dsimp only) | (simp (decide := true) only [sn130, snB, if_true, if_false]) | (with_reducible refine n130_13_w _ _ _ ?_) | (with_reducible refine n130_17_w _ _ _ ?_))
 exact xX.get) (x : X) : G := f ⟨x⟩
theorem mid64 {m : Nat} (h : m ≤ 100000) : mConv .i64 (u64 (BitVec.ofNat 64 m >>> 1)) = some (nat (m / 2)) := by
 simp only [mConv, u64, nat]
 congr 2
 rw [BitVec.toNat_ushiftRight, BitVec.toNat_ofNat, Nat.shiftRight_eq_div_pow, Nat.mod_eq_of_lt (by omega)]
 unfold IntKind.wrap
 simp [IntKind.bits, IntKind.signed]
 omega
theorem cmp_eq (p q : Pt) : decide (cmpB p.l q.l = 0) = decide (p = q) := by
 apply dec_iff
 exact ⟨fun h => Pt.ext' (cmpB_zero h), fun h => by rw [h]; exact cmpB_self _⟩
@[simp] theorem cmp_eql (p q : Pt) : mBin .eql (.int .i64 (cmpB p.l q.l)) (nat 0) = some (.bool (decide (p = q))) := by rw [← cmp_eq]; simp only [mBin, mBinI, nat, if_true]; congr 2
set_option maxHeartbeats 1000000 in
theorem c107 {h : Heap} {x : AV} {l : List Seat} {e : Pt} {c : Nat} (hx : Row tSeat h x (l.map eSeat)) (hl : l.length ≤ 1000) (hs : srt fS l) (hc : ∀ l, mLoad .cell (.ptr c 0 [1] .cell) (h ++ l) = some (.fn 91 [])) : SpecQ Tryz.prog 107 [x, pt e, .fn 108 [.ptr c 0 [] tRollSeat]] h fun r => r = (.tuple [nat (low fS l e), .bool (hasP fS l e)], h) := by
 have lx := hx.len
 rw [List.length_map] at lx
 have hcc : ∀ u l, mLoad .cell (.ptr c 0 [1] .cell) ((h ++ u) ++ l) = some (.fn 91 []) := fun u l => by rw [List.append_assoc]; exact hc _
 refine SpecQ.drop1 rfl (q107 fun env g0 g1 g2 => ?_)
 have ff := aI g0 (aI g1 (aI g2 lx))
 refine runRp4_0 (x := ?_)
 clear ff
 refine loop_cut (fun r => ∃ env', r = (.exit 0, ⟨env', h ++ [⟨pt e, 0, .own⟩]⟩) ∧ env'.get 0 = x ∧ env'.get 2 = .fn 108 [.ptr c 0 [] tRollSeat] ∧ env'.get 4 = .ptr h.length 0 [] (.arr 32 (.int .u8)) ∧ env'.get 8 = nat l.length ∧ env'.get 9 = nat (low fS l e)) ?_ ?_
 ·refine ⟨fun m st => ∃ i j env', st = ⟨env', h ++ [⟨pt e, 0, .own⟩]⟩ ∧ i + m = j ∧ j ≤ l.length ∧ env'.get 0 = x ∧ env'.get 2 = .fn 108 [.ptr c 0 [] tRollSeat] ∧ env'.get 4 = .ptr h.length 0 [] (.arr 32 (.int .u8)) ∧ env'.get 8 = nat l.length ∧ env'.get 9 = nat i ∧ env'.get 10 = nat j ∧ (∀ k (hk : k < l.length), k < i → ltP (fS l[k]) e = true) ∧ (∀ k (hk : k < l.length), j ≤ k → ltP (fS l[k]) e = false), l.length, ⟨0, l.length, _, rfl, by omega, Nat.le_refl _, by simp [g0], by simp [g2], by simp, by simp, by simp, by simp, fun k _ hk => absurd hk (by omega), fun k hk hj => absurd hk (by omega)⟩, ?_⟩
  rintro m st ⟨i, j, env', rfl, hm, hj, e0, e2, e4, e8, e9, e10, h1, h2⟩
  by_cases hij : i < j
  ·have mid := mid64 (m := i + j) (by omega)
   have hmid : (i + j) / 2 < l.length := by omega
   obtain ⟨p, p1, p2⟩ := hx.idx (i := (i + j) / 2) (by simpa using hmid)
   have p3 : ∀ u, mLoad tSeat p (h ++ u) = some (eSeat l[(i + j) / 2]) := fun u => by rw [p2, List.getElem?_map, List.getElem?_eq_getElem hmid]; rfl
   by_cases hlt : ltP (fS l[(i + j) / 2]) e = true
   ·have hlt' : cmpB l[(i + j) / 2].who.e.l e.l < 0 := of_decide_eq_true hlt
    have ff := aI e0 (aI e2 (aI e4 (aI e8 (aI e9 (aI e10 (aI hij (aI mid (aI p1 (aI p3 hlt')))))))))
    refine runRp4_1 (x := ?_)
    clear ff
    refine .inl ⟨by simp, j - ((i + j) / 2 + 1), by omega, (i + j) / 2 + 1, j, _, rfl, by omega, hj, by simp [e0], by simp [e2], by simp [e4], by simp [e8], by simp, by simp [e10], fun k hk hki => ?_, h2⟩
    by_cases hq : k = (i + j) / 2
    ·subst hq; exact hlt
    ·have h3 := hs k ((i + j) / 2) hk hmid (by omega)
     exact ltP_trans h3 hlt
   ·have hlt : ltP (fS l[(i + j) / 2]) e = false := by simpa using hlt
    have hlt' : ¬ cmpB l[(i + j) / 2].who.e.l e.l < 0 := of_decide_eq_false hlt
    have ff := aI e0 (aI e2 (aI e4 (aI e8 (aI e9 (aI e10 (aI hij (aI mid (aI p1 (aI p3 hlt')))))))))
    refine runRp4_1 (x := ?_)
    clear ff
    refine .inl ⟨by simp, (i + j) / 2 - i, by omega, i, (i + j) / 2, _, rfl, by omega, by omega, by simp [e0], by simp [e2], by simp [e4], by simp [e8], by simp [e9], by simp, h1, fun k hk hki => ?_⟩
    by_cases hq : k = (i + j) / 2
    ·subst hq; exact hlt
    ·have h3 := hs ((i + j) / 2) k hmid hk (by omega)
     cases h4 : ltP (fS l[k]) e
     ·rfl
     ·rw [ltP_trans h3 h4] at hlt; cases hlt
  ·have hij' : j = i := by omega
   subst hij'
   have ff := aI e9 (aI e10 hij)
   refine runRp4_0 (x := ?_)
   clear ff
   refine .inr ⟨by simp, _, rfl, by simp [e0], by simp [e2], by simp [e4], by simp [e8], ?_⟩
   rw [low_stop fS hj h1 (fun hi => h2 _ hi (Nat.le_refl _))]
   simp [e9]
 ·rintro r ⟨env', rfl, e0, e2, e4, e8, e9⟩
  by_cases hlt : low fS l e < l.length
  ·obtain ⟨p, p1, p2⟩ := hx.idx (i := low fS l e) (by simpa using hlt)
   have p3 : ∀ u, mLoad tSeat p (h ++ u) = some (eSeat l[low fS l e]) := fun u => by rw [p2, List.getElem?_map, List.getElem?_eq_getElem hlt]; rfl
   have hp := hasP_low hs hlt
   have ff := aI e0 (aI e2 (aI e4 (aI e8 (aI e9 (aI hlt (aI p1 p3))))))
   refine runRp4_1 (x := ?_)
   clear ff
   rw [hp]
   exact ⟨_, rfl⟩
  ·have hp := hasP_end hs hlt
   have ff := aI e0 (aI e2 (aI e4 (aI e8 (aI e9 hlt))))
   refine runRp4_0 (x := ?_)
   clear ff
   rw [hp]
   exact ⟨_, rfl⟩
set_option maxHeartbeats 1000000 in
theorem c119 {h : Heap} {x : AV} {l : List Inv} {e : Pt} {c : Nat} (hx : Row tInvite h x (l.map eInv)) (hl : l.length ≤ 1000) (hs : srt fI l) (hc : ∀ l, mLoad .cell (.ptr c 0 [1] .cell) (h ++ l) = some (.fn 92 [])) : SpecQ Tryz.prog 119 [x, pt e, .fn 120 [.ptr c 0 [] tRollInvite]] h fun r => r = (.tuple [nat (low fI l e), .bool (hasP fI l e)], h) := by
 have lx := hx.len
 rw [List.length_map] at lx
 have hcc : ∀ u l, mLoad .cell (.ptr c 0 [1] .cell) ((h ++ u) ++ l) = some (.fn 92 []) := fun u l => by rw [List.append_assoc]; exact hc _
 refine SpecQ.drop1 rfl (q119 fun env g0 g1 g2 => ?_)
 have ff := aI g0 (aI g1 (aI g2 lx))
 refine runRp4_2 (x := ?_)
 clear ff
 refine loop_cut (fun r => ∃ env', r = (.exit 0, ⟨env', h ++ [⟨pt e, 0, .own⟩]⟩) ∧ env'.get 0 = x ∧ env'.get 2 = .fn 120 [.ptr c 0 [] tRollInvite] ∧ env'.get 4 = .ptr h.length 0 [] (.arr 32 (.int .u8)) ∧ env'.get 8 = nat l.length ∧ env'.get 9 = nat (low fI l e)) ?_ ?_
 ·refine ⟨fun m st => ∃ i j env', st = ⟨env', h ++ [⟨pt e, 0, .own⟩]⟩ ∧ i + m = j ∧ j ≤ l.length ∧ env'.get 0 = x ∧ env'.get 2 = .fn 120 [.ptr c 0 [] tRollInvite] ∧ env'.get 4 = .ptr h.length 0 [] (.arr 32 (.int .u8)) ∧ env'.get 8 = nat l.length ∧ env'.get 9 = nat i ∧ env'.get 10 = nat j ∧ (∀ k (hk : k < l.length), k < i → ltP (fI l[k]) e = true) ∧ (∀ k (hk : k < l.length), j ≤ k → ltP (fI l[k]) e = false), l.length, ⟨0, l.length, _, rfl, by omega, Nat.le_refl _, by simp [g0], by simp [g2], by simp, by simp, by simp, by simp, fun k _ hk => absurd hk (by omega), fun k hk hj => absurd hk (by omega)⟩, ?_⟩
  rintro m st ⟨i, j, env', rfl, hm, hj, e0, e2, e4, e8, e9, e10, h1, h2⟩
  by_cases hij : i < j
  ·have mid := mid64 (m := i + j) (by omega)
   have hmid : (i + j) / 2 < l.length := by omega
   obtain ⟨p, p1, p2⟩ := hx.idx (i := (i + j) / 2) (by simpa using hmid)
   have p3 : ∀ u, mLoad tInvite p (h ++ u) = some (eInv l[(i + j) / 2]) := fun u => by rw [p2, List.getElem?_map, List.getElem?_eq_getElem hmid]; rfl
   by_cases hlt : ltP (fI l[(i + j) / 2]) e = true
   ·have hlt' : cmpB l[(i + j) / 2].who.e.l e.l < 0 := of_decide_eq_true hlt
    have ff := aI e0 (aI e2 (aI e4 (aI e8 (aI e9 (aI e10 (aI hij (aI mid (aI p1 (aI p3 hlt')))))))))
    refine runRp4_3 (x := ?_)
    clear ff
    refine .inl ⟨by simp, j - ((i + j) / 2 + 1), by omega, (i + j) / 2 + 1, j, _, rfl, by omega, hj, by simp [e0], by simp [e2], by simp [e4], by simp [e8], by simp, by simp [e10], fun k hk hki => ?_, h2⟩
    by_cases hq : k = (i + j) / 2
    ·subst hq; exact hlt
    ·have h3 := hs k ((i + j) / 2) hk hmid (by omega)
     exact ltP_trans h3 hlt
   ·have hlt : ltP (fI l[(i + j) / 2]) e = false := by simpa using hlt
    have hlt' : ¬ cmpB l[(i + j) / 2].who.e.l e.l < 0 := of_decide_eq_false hlt
    have ff := aI e0 (aI e2 (aI e4 (aI e8 (aI e9 (aI e10 (aI hij (aI mid (aI p1 (aI p3 hlt')))))))))
    refine runRp4_3 (x := ?_)
    clear ff
    refine .inl ⟨by simp, (i + j) / 2 - i, by omega, i, (i + j) / 2, _, rfl, by omega, by omega, by simp [e0], by simp [e2], by simp [e4], by simp [e8], by simp [e9], by simp, h1, fun k hk hki => ?_⟩
    by_cases hq : k = (i + j) / 2
    ·subst hq; exact hlt
    ·have h3 := hs ((i + j) / 2) k hmid hk (by omega)
     cases h4 : ltP (fI l[k]) e
     ·rfl
     ·rw [ltP_trans h3 h4] at hlt; cases hlt
  ·have hij' : j = i := by omega
   subst hij'
   have ff := aI e9 (aI e10 hij)
   refine runRp4_2 (x := ?_)
   clear ff
   refine .inr ⟨by simp, _, rfl, by simp [e0], by simp [e2], by simp [e4], by simp [e8], ?_⟩
   rw [low_stop fI hj h1 (fun hi => h2 _ hi (Nat.le_refl _))]
   simp [e9]
 ·rintro r ⟨env', rfl, e0, e2, e4, e8, e9⟩
  by_cases hlt : low fI l e < l.length
  ·obtain ⟨p, p1, p2⟩ := hx.idx (i := low fI l e) (by simpa using hlt)
   have p3 : ∀ u, mLoad tInvite p (h ++ u) = some (eInv l[low fI l e]) := fun u => by rw [p2, List.getElem?_map, List.getElem?_eq_getElem hlt]; rfl
   have hp := hasP_low hs hlt
   have ff := aI e0 (aI e2 (aI e4 (aI e8 (aI e9 (aI hlt (aI p1 p3))))))
   refine runRp4_3 (x := ?_)
   clear ff
   rw [hp]
   exact ⟨_, rfl⟩
  ·have hp := hasP_end hs hlt
   have ff := aI e0 (aI e2 (aI e4 (aI e8 (aI e9 hlt))))
   refine runRp4_2 (x := ?_)
   clear ff
   rw [hp]
   exact ⟨_, rfl⟩
set_option maxHeartbeats 1000000 in
theorem c121 {h : Heap} {x : AV} {l : List Ask} {e : Pt} {c : Nat} (hx : Row tAsk h x (l.map eAsk)) (hl : l.length ≤ 1000) (hs : srt fA l) (hc : ∀ l, mLoad .cell (.ptr c 0 [1] .cell) (h ++ l) = some (.fn 93 [])) : SpecQ Tryz.prog 121 [x, pt e, .fn 122 [.ptr c 0 [] tRollAsk]] h fun r => r = (.tuple [nat (low fA l e), .bool (hasP fA l e)], h) := by
 have lx := hx.len
 rw [List.length_map] at lx
 have hcc : ∀ u l, mLoad .cell (.ptr c 0 [1] .cell) ((h ++ u) ++ l) = some (.fn 93 []) := fun u l => by rw [List.append_assoc]; exact hc _
 refine SpecQ.drop1 rfl (q121 fun env g0 g1 g2 => ?_)
 have ff := aI g0 (aI g1 (aI g2 lx))
 refine runRp4_4 (x := ?_)
 clear ff
 refine loop_cut (fun r => ∃ env', r = (.exit 0, ⟨env', h ++ [⟨pt e, 0, .own⟩]⟩) ∧ env'.get 0 = x ∧ env'.get 2 = .fn 122 [.ptr c 0 [] tRollAsk] ∧ env'.get 4 = .ptr h.length 0 [] (.arr 32 (.int .u8)) ∧ env'.get 8 = nat l.length ∧ env'.get 9 = nat (low fA l e)) ?_ ?_
 ·refine ⟨fun m st => ∃ i j env', st = ⟨env', h ++ [⟨pt e, 0, .own⟩]⟩ ∧ i + m = j ∧ j ≤ l.length ∧ env'.get 0 = x ∧ env'.get 2 = .fn 122 [.ptr c 0 [] tRollAsk] ∧ env'.get 4 = .ptr h.length 0 [] (.arr 32 (.int .u8)) ∧ env'.get 8 = nat l.length ∧ env'.get 9 = nat i ∧ env'.get 10 = nat j ∧ (∀ k (hk : k < l.length), k < i → ltP (fA l[k]) e = true) ∧ (∀ k (hk : k < l.length), j ≤ k → ltP (fA l[k]) e = false), l.length, ⟨0, l.length, _, rfl, by omega, Nat.le_refl _, by simp [g0], by simp [g2], by simp, by simp, by simp, by simp, fun k _ hk => absurd hk (by omega), fun k hk hj => absurd hk (by omega)⟩, ?_⟩
  rintro m st ⟨i, j, env', rfl, hm, hj, e0, e2, e4, e8, e9, e10, h1, h2⟩
  by_cases hij : i < j
  ·have mid := mid64 (m := i + j) (by omega)
   have hmid : (i + j) / 2 < l.length := by omega
   obtain ⟨p, p1, p2⟩ := hx.idx (i := (i + j) / 2) (by simpa using hmid)
   have p3 : ∀ u, mLoad tAsk p (h ++ u) = some (eAsk l[(i + j) / 2]) := fun u => by rw [p2, List.getElem?_map, List.getElem?_eq_getElem hmid]; rfl
   by_cases hlt : ltP (fA l[(i + j) / 2]) e = true
   ·have hlt' : cmpB l[(i + j) / 2].who.e.l e.l < 0 := of_decide_eq_true hlt
    have ff := aI e0 (aI e2 (aI e4 (aI e8 (aI e9 (aI e10 (aI hij (aI mid (aI p1 (aI p3 hlt')))))))))
    refine runRp4_5 (x := ?_)
    clear ff
    refine .inl ⟨by simp, j - ((i + j) / 2 + 1), by omega, (i + j) / 2 + 1, j, _, rfl, by omega, hj, by simp [e0], by simp [e2], by simp [e4], by simp [e8], by simp, by simp [e10], fun k hk hki => ?_, h2⟩
    by_cases hq : k = (i + j) / 2
    ·subst hq; exact hlt
    ·have h3 := hs k ((i + j) / 2) hk hmid (by omega)
     exact ltP_trans h3 hlt
   ·have hlt : ltP (fA l[(i + j) / 2]) e = false := by simpa using hlt
    have hlt' : ¬ cmpB l[(i + j) / 2].who.e.l e.l < 0 := of_decide_eq_false hlt
    have ff := aI e0 (aI e2 (aI e4 (aI e8 (aI e9 (aI e10 (aI hij (aI mid (aI p1 (aI p3 hlt')))))))))
    refine runRp4_5 (x := ?_)
    clear ff
    refine .inl ⟨by simp, (i + j) / 2 - i, by omega, i, (i + j) / 2, _, rfl, by omega, by omega, by simp [e0], by simp [e2], by simp [e4], by simp [e8], by simp [e9], by simp, h1, fun k hk hki => ?_⟩
    by_cases hq : k = (i + j) / 2
    ·subst hq; exact hlt
    ·have h3 := hs ((i + j) / 2) k hmid hk (by omega)
     cases h4 : ltP (fA l[k]) e
     ·rfl
     ·rw [ltP_trans h3 h4] at hlt; cases hlt
  ·have hij' : j = i := by omega
   subst hij'
   have ff := aI e9 (aI e10 hij)
   refine runRp4_4 (x := ?_)
   clear ff
   refine .inr ⟨by simp, _, rfl, by simp [e0], by simp [e2], by simp [e4], by simp [e8], ?_⟩
   rw [low_stop fA hj h1 (fun hi => h2 _ hi (Nat.le_refl _))]
   simp [e9]
 ·rintro r ⟨env', rfl, e0, e2, e4, e8, e9⟩
  by_cases hlt : low fA l e < l.length
  ·obtain ⟨p, p1, p2⟩ := hx.idx (i := low fA l e) (by simpa using hlt)
   have p3 : ∀ u, mLoad tAsk p (h ++ u) = some (eAsk l[low fA l e]) := fun u => by rw [p2, List.getElem?_map, List.getElem?_eq_getElem hlt]; rfl
   have hp := hasP_low hs hlt
   have ff := aI e0 (aI e2 (aI e4 (aI e8 (aI e9 (aI hlt (aI p1 p3))))))
   refine runRp4_5 (x := ?_)
   clear ff
   rw [hp]
   exact ⟨_, rfl⟩
  ·have hp := hasP_end hs hlt
   have ff := aI e0 (aI e2 (aI e4 (aI e8 (aI e9 hlt))))
   refine runRp4_4 (x := ?_)
   clear ff
   rw [hp]
   exact ⟨_, rfl⟩
set_option maxHeartbeats 1000000 in
theorem c130 {h : Heap} {x : AV} {l : List Ban} {e : Pt} {c : Nat} (hx : Row tBan h x (l.map eBan)) (hl : l.length ≤ 1000) (hs : srt fB l) (hc : ∀ l, mLoad .cell (.ptr c 0 [1] .cell) (h ++ l) = some (.fn 117 [])) : SpecQ Tryz.prog 130 [x, pt e, .fn 131 [.ptr c 0 [] tRollBan]] h fun r => r = (.tuple [nat (low fB l e), .bool (hasP fB l e)], h) := by
 have lx := hx.len
 rw [List.length_map] at lx
 have hcc : ∀ u l, mLoad .cell (.ptr c 0 [1] .cell) ((h ++ u) ++ l) = some (.fn 117 []) := fun u l => by rw [List.append_assoc]; exact hc _
 refine SpecQ.drop1 rfl (q130 fun env g0 g1 g2 => ?_)
 have ff := aI g0 (aI g1 (aI g2 lx))
 refine runRp4_6 (x := ?_)
 clear ff
 refine loop_cut (fun r => ∃ env', r = (.exit 0, ⟨env', h ++ [⟨pt e, 0, .own⟩]⟩) ∧ env'.get 0 = x ∧ env'.get 2 = .fn 131 [.ptr c 0 [] tRollBan] ∧ env'.get 4 = .ptr h.length 0 [] (.arr 32 (.int .u8)) ∧ env'.get 8 = nat l.length ∧ env'.get 9 = nat (low fB l e)) ?_ ?_
 ·refine ⟨fun m st => ∃ i j env', st = ⟨env', h ++ [⟨pt e, 0, .own⟩]⟩ ∧ i + m = j ∧ j ≤ l.length ∧ env'.get 0 = x ∧ env'.get 2 = .fn 131 [.ptr c 0 [] tRollBan] ∧ env'.get 4 = .ptr h.length 0 [] (.arr 32 (.int .u8)) ∧ env'.get 8 = nat l.length ∧ env'.get 9 = nat i ∧ env'.get 10 = nat j ∧ (∀ k (hk : k < l.length), k < i → ltP (fB l[k]) e = true) ∧ (∀ k (hk : k < l.length), j ≤ k → ltP (fB l[k]) e = false), l.length, ⟨0, l.length, _, rfl, by omega, Nat.le_refl _, by simp [g0], by simp [g2], by simp, by simp, by simp, by simp, fun k _ hk => absurd hk (by omega), fun k hk hj => absurd hk (by omega)⟩, ?_⟩
  rintro m st ⟨i, j, env', rfl, hm, hj, e0, e2, e4, e8, e9, e10, h1, h2⟩
  by_cases hij : i < j
  ·have mid := mid64 (m := i + j) (by omega)
   have hmid : (i + j) / 2 < l.length := by omega
   obtain ⟨p, p1, p2⟩ := hx.idx (i := (i + j) / 2) (by simpa using hmid)
   have p3 : ∀ u, mLoad tBan p (h ++ u) = some (eBan l[(i + j) / 2]) := fun u => by rw [p2, List.getElem?_map, List.getElem?_eq_getElem hmid]; rfl
   by_cases hlt : ltP (fB l[(i + j) / 2]) e = true
   ·have hlt' : cmpB l[(i + j) / 2].who.e.l e.l < 0 := of_decide_eq_true hlt
    have ff := aI e0 (aI e2 (aI e4 (aI e8 (aI e9 (aI e10 (aI hij (aI mid (aI p1 (aI p3 hlt')))))))))
    refine runRp4_7 (x := ?_)
    clear ff
    refine .inl ⟨by simp, j - ((i + j) / 2 + 1), by omega, (i + j) / 2 + 1, j, _, rfl, by omega, hj, by simp [e0], by simp [e2], by simp [e4], by simp [e8], by simp, by simp [e10], fun k hk hki => ?_, h2⟩
    by_cases hq : k = (i + j) / 2
    ·subst hq; exact hlt
    ·have h3 := hs k ((i + j) / 2) hk hmid (by omega)
     exact ltP_trans h3 hlt
   ·have hlt : ltP (fB l[(i + j) / 2]) e = false := by simpa using hlt
    have hlt' : ¬ cmpB l[(i + j) / 2].who.e.l e.l < 0 := of_decide_eq_false hlt
    have ff := aI e0 (aI e2 (aI e4 (aI e8 (aI e9 (aI e10 (aI hij (aI mid (aI p1 (aI p3 hlt')))))))))
    refine runRp4_7 (x := ?_)
    clear ff
    refine .inl ⟨by simp, (i + j) / 2 - i, by omega, i, (i + j) / 2, _, rfl, by omega, by omega, by simp [e0], by simp [e2], by simp [e4], by simp [e8], by simp [e9], by simp, h1, fun k hk hki => ?_⟩
    by_cases hq : k = (i + j) / 2
    ·subst hq; exact hlt
    ·have h3 := hs ((i + j) / 2) k hmid hk (by omega)
     cases h4 : ltP (fB l[k]) e
     ·rfl
     ·rw [ltP_trans h3 h4] at hlt; cases hlt
  ·have hij' : j = i := by omega
   subst hij'
   have ff := aI e9 (aI e10 hij)
   refine runRp4_6 (x := ?_)
   clear ff
   refine .inr ⟨by simp, _, rfl, by simp [e0], by simp [e2], by simp [e4], by simp [e8], ?_⟩
   rw [low_stop fB hj h1 (fun hi => h2 _ hi (Nat.le_refl _))]
   simp [e9]
 ·rintro r ⟨env', rfl, e0, e2, e4, e8, e9⟩
  by_cases hlt : low fB l e < l.length
  ·obtain ⟨p, p1, p2⟩ := hx.idx (i := low fB l e) (by simpa using hlt)
   have p3 : ∀ u, mLoad tBan p (h ++ u) = some (eBan l[low fB l e]) := fun u => by rw [p2, List.getElem?_map, List.getElem?_eq_getElem hlt]; rfl
   have hp := hasP_low hs hlt
   have ff := aI e0 (aI e2 (aI e4 (aI e8 (aI e9 (aI hlt (aI p1 p3))))))
   refine runRp4_7 (x := ?_)
   clear ff
   rw [hp]
   exact ⟨_, rfl⟩
  ·have hp := hasP_end hs hlt
   have ff := aI e0 (aI e2 (aI e4 (aI e8 (aI e9 hlt))))
   refine runRp4_6 (x := ?_)
   clear ff
   rw [hp]
   exact ⟨_, rfl⟩
end Go.Vab

/- How the code of a function is read. Printed by wip/tools/gen2.py and gen3.py (own work). -/
namespace Go.Vab
open Go Go.Proofs
noncomputable section
def cx78 : Ctx := ⟨fun _ _ _ => none,TT,15,[6,7,8,9,10,11,12,13,14]⟩
def n78_0 := bodyOf Tryz.f78
def n78_1 := cR n78_0
def n78_2 := cR n78_1
def q78 := zQ2 cx78 78 Tryz.f78 n78_0 fun s => (bnd (some (s.env.get 4)) fun v => bnd (bnd (some (s.env.get 5)) fun v => bnd (some []) fun vs => some (v :: vs)) fun vs => some (v :: vs))
set_option maxRecDepth 20000
set_option maxHeartbeats 4000000
def n78_1_w := zDr cx78 [n78_2,n78_1] [] [0,1,3,7,0,0,63,127,127,511,1023] [0,1,2,3,4,5,6,7,8,9,10] .f
def sn78 := zAll cx78 [[n78_2],[n78_1,n78_0]]
end
end Go.Vab

/- How the code of a function is read. Printed by wip/tools/gen2.py and gen3.py (own work). -/
namespace Go.Vab
open Go Go.Proofs
noncomputable section
def cx99 : Ctx := ⟨fun _ _ _ => none,TT,15,[6,7,8,9,10,11,12,13,14]⟩
def n99_0 := bodyOf Tryz.f99
def n99_1 := cR n99_0
def n99_2 := cR n99_1
def q99 := zQ2 cx99 99 Tryz.f99 n99_0 fun s => (bnd (some (s.env.get 4)) fun v => bnd (bnd (some (s.env.get 5)) fun v => bnd (some []) fun vs => some (v :: vs)) fun vs => some (v :: vs))
set_option maxRecDepth 20000
set_option maxHeartbeats 4000000
def n99_1_w := zDr cx99 [n99_2,n99_1] [] [0,1,3,7,0,0,63,127,127,511,1023] [0,1,2,3,4,5,6,7,8,9,10] .f
def sn99 := zAll cx99 [[n99_2],[n99_1,n99_0]]
end
end Go.Vab

/- How the code of a function is read. Printed by wip/tools/gen2.py and gen3.py (own work). -/
namespace Go.Vab
open Go Go.Proofs
noncomputable section
def cx101 : Ctx := ⟨fun _ _ _ => none,TT,15,[6,7,8,9,10,11,12,13,14]⟩
def n101_0 := bodyOf Tryz.f101
def n101_1 := cR n101_0
def n101_2 := cR n101_1
def q101 := zQ2 cx101 101 Tryz.f101 n101_0 fun s => (bnd (some (s.env.get 4)) fun v => bnd (bnd (some (s.env.get 5)) fun v => bnd (some []) fun vs => some (v :: vs)) fun vs => some (v :: vs))
set_option maxRecDepth 20000
set_option maxHeartbeats 4000000
def n101_1_w := zDr cx101 [n101_2,n101_1] [] [0,1,3,7,0,0,63,127,127,511,1023] [0,1,2,3,4,5,6,7,8,9,10] .f
def sn101 := zAll cx101 [[n101_2],[n101_1,n101_0]]
end
end Go.Vab

/- How the code of a function is read. Printed by wip/tools/gen2.py and gen3.py (own work). -/
namespace Go.Vab
open Go Go.Proofs
noncomputable section
def cx118 : Ctx := ⟨fun _ _ _ => none,TT,15,[6,7,8,9,10,11,12,13,14]⟩
def n118_0 := bodyOf Tryz.f118
def n118_1 := cR n118_0
def n118_2 := cR n118_1
def q118 := zQ2 cx118 118 Tryz.f118 n118_0 fun s => (bnd (some (s.env.get 4)) fun v => bnd (bnd (some (s.env.get 5)) fun v => bnd (some []) fun vs => some (v :: vs)) fun vs => some (v :: vs))
set_option maxRecDepth 20000
set_option maxHeartbeats 4000000
def n118_1_w := zDr cx118 [n118_2,n118_1] [] [0,1,3,7,0,0,63,127,127,511,1023] [0,1,2,3,4,5,6,7,8,9,10] .f
def sn118 := zAll cx118 [[n118_2],[n118_1,n118_0]]
end
end Go.Vab

/- How the code of a function is read. Printed by wip/tools/gen2.py and gen3.py (own work). -/
namespace Go.Vab
open Go Go.Proofs
noncomputable section
def cx76 : Ctx := ⟨fun _ _ _ => none,TT,14,[5,7,8,9,10,11,12,13]⟩
def n76_0 := bodyOf Tryz.f76
def n76_1 := cR n76_0
def n76_2 := cR n76_1
def n76_3 := cR n76_2
def q76 := zQ2 cx76 76 Tryz.f76 n76_0 fun s => (bnd (some (s.env.get 4)) fun v => bnd (some []) fun vs => some (v :: vs))
set_option maxRecDepth 20000
set_option maxHeartbeats 4000000
def sn76 := zAll cx76 [[n76_3],[n76_3,n76_2],[n76_2,n76_1],[n76_1,n76_0]]
end
end Go.Vab

/- How the code of a function is read. Printed by wip/tools/gen2.py and gen3.py (own work). -/
namespace Go.Vab
open Go Go.Proofs
noncomputable section
def cx96 : Ctx := ⟨fun _ _ _ => none,TT,14,[5,7,8,9,10,11,12,13]⟩
def n96_0 := bodyOf Tryz.f96
def n96_1 := cR n96_0
def n96_2 := cR n96_1
def n96_3 := cR n96_2
def q96 := zQ2 cx96 96 Tryz.f96 n96_0 fun s => (bnd (some (s.env.get 4)) fun v => bnd (some []) fun vs => some (v :: vs))
set_option maxRecDepth 20000
set_option maxHeartbeats 4000000
def sn96 := zAll cx96 [[n96_3],[n96_3,n96_2],[n96_2,n96_1],[n96_1,n96_0]]
end
end Go.Vab

/- How the code of a function is read. Printed by wip/tools/gen2.py and gen3.py (own work). -/
namespace Go.Vab
open Go Go.Proofs
noncomputable section
def cx97 : Ctx := ⟨fun _ _ _ => none,TT,14,[5,7,8,9,10,11,12,13]⟩
def n97_0 := bodyOf Tryz.f97
def n97_1 := cR n97_0
def n97_2 := cR n97_1
def n97_3 := cR n97_2
def q97 := zQ2 cx97 97 Tryz.f97 n97_0 fun s => (bnd (some (s.env.get 4)) fun v => bnd (some []) fun vs => some (v :: vs))
set_option maxRecDepth 20000
set_option maxHeartbeats 4000000
def sn97 := zAll cx97 [[n97_3],[n97_3,n97_2],[n97_2,n97_1],[n97_1,n97_0]]
end
end Go.Vab

/- How the code of a function is read. Printed by wip/tools/gen2.py and gen3.py (own work). -/
namespace Go.Vab
open Go Go.Proofs
noncomputable section
def cx95 : Ctx := ⟨fun _ _ _ => none,TT,14,[5,7,8,9,10,11,12,13]⟩
def n95_0 := bodyOf Tryz.f95
def n95_1 := cR n95_0
def n95_2 := cR n95_1
def n95_3 := cR n95_2
def q95 := zQ2 cx95 95 Tryz.f95 n95_0 fun s => (bnd (some (s.env.get 4)) fun v => bnd (some []) fun vs => some (v :: vs))
set_option maxRecDepth 20000
set_option maxHeartbeats 4000000
def sn95 := zAll cx95 [[n95_3],[n95_3,n95_2],[n95_2,n95_1],[n95_1,n95_0]]
end
end Go.Vab

/- How the code of a function is read. Printed by wip/tools/gen2.py and gen3.py (own work). -/
namespace Go.Vab
open Go Go.Proofs
noncomputable section
def cx67 : Ctx := ⟨fun _ _ _ => none,TT,9,[3,4,5,6,7,8]⟩
def n67_0 := bodyOf Tryz.f67
def n67_1 := cR n67_0
def n67_2 := cR n67_1
def q67 := zQ1 cx67 67 Tryz.f67 n67_0 fun s => (bnd (some (s.env.get 2)) fun v => bnd (some []) fun vs => some (v :: vs))
set_option maxRecDepth 20000
set_option maxHeartbeats 4000000
def sn67 := zAll cx67 [[n67_2],[n67_2,n67_1],[n67_1,n67_0]]
end
end Go.Vab

/- How the code of a function is read. Printed by wip/tools/gen2.py and gen3.py (own work). -/
namespace Go.Vab
open Go Go.Proofs
noncomputable section
def cx71 : Ctx := ⟨fun _ _ _ => none,TT,9,[3,4,5,6,7,8]⟩
def n71_0 := bodyOf Tryz.f71
def n71_1 := cR n71_0
def n71_2 := cR n71_1
def q71 := zQ1 cx71 71 Tryz.f71 n71_0 fun s => (bnd (some (s.env.get 2)) fun v => bnd (some []) fun vs => some (v :: vs))
set_option maxRecDepth 20000
set_option maxHeartbeats 4000000
def sn71 := zAll cx71 [[n71_2],[n71_2,n71_1],[n71_1,n71_0]]
end
end Go.Vab

/- How the code of a function is read. Printed by wip/tools/gen2.py and gen3.py (own work). -/
namespace Go.Vab
open Go Go.Proofs
noncomputable section
def cx74 : Ctx := ⟨fun _ _ _ => none,TT,9,[3,4,5,6,7,8]⟩
def n74_0 := bodyOf Tryz.f74
def n74_1 := cR n74_0
def n74_2 := cR n74_1
def q74 := zQ1 cx74 74 Tryz.f74 n74_0 fun s => (bnd (some (s.env.get 2)) fun v => bnd (some []) fun vs => some (v :: vs))
set_option maxRecDepth 20000
set_option maxHeartbeats 4000000
def sn74 := zAll cx74 [[n74_2],[n74_2,n74_1],[n74_1,n74_0]]
end
end Go.Vab

/- How the code of a function is read. Printed by wip/tools/gen2.py and gen3.py (own work). -/
namespace Go.Vab
open Go Go.Proofs
noncomputable section
def cx113 : Ctx := ⟨fun _ _ _ => none,TT,9,[3,4,5,6,7,8]⟩
def n113_0 := bodyOf Tryz.f113
def n113_1 := cR n113_0
def n113_2 := cR n113_1
def q113 := zQ1 cx113 113 Tryz.f113 n113_0 fun s => (bnd (some (s.env.get 2)) fun v => bnd (some []) fun vs => some (v :: vs))
set_option maxRecDepth 20000
set_option maxHeartbeats 4000000
def sn113 := zAll cx113 [[n113_2],[n113_2,n113_1],[n113_1,n113_0]]
end
end Go.Vab

/-
  The program's lists: where somebody stands, whether they are there, whether there is room.
-/
namespace Go.Vab
open Go Go.Proofs
theorem runRp5_0 {G X : Prop} (f : Hd X → G := by
 intro xX
 repeat' (first | refine stp (x := ?_) | (with_reducible refine ValW_i (c107 (w.app _).ws w.fs.le hs.s (hq _)) ?_; try dsimp only) | (with_reducible refine SpecQ.step (c107 (w.app _).ws w.fs.le hs.s (hq _)) ?_; rintro _ rfl; try dsimp only) | (simp (decide := true) only [sn78, snB, if_true, if_false]) | (with_reducible refine n78_1_w _ _ _ ?_))
 exact xX.get) (x : X) : G := f ⟨x⟩
theorem runRp5_1 {G X : Prop} (f : Hd X → G := by
 intro xX
 repeat' (first | refine stp (x := ?_) | (with_reducible refine SpecQ.step (c78 (w.app _) hs) ?_; rintro _ rfl; try dsimp only) | (simp (decide := true) only [sn76, snB, if_true, if_false]))
 exact xX.get) (x : X) : G := f ⟨x⟩
theorem runRp5_2 {G X : Prop} (f : Hd X → G := by
 intro xX
 repeat' (first | refine stp (x := ?_) | (simp (decide := true) only [sn67, snB, if_true, if_false]))
 exact xX.get) (x : X) : G := f ⟨x⟩
theorem runRp5_3 {G X : Prop} (f : Hd X → G := by
 intro xX
 repeat' (first | refine stp (x := ?_) | (with_reducible refine ValW_i (c119 (w.app _).wi w.fi.le hs.i (hq _)) ?_; try dsimp only) | (with_reducible refine SpecQ.step (c119 (w.app _).wi w.fi.le hs.i (hq _)) ?_; rintro _ rfl; try dsimp only) | (simp (decide := true) only [sn99, snB, if_true, if_false]) | (with_reducible refine n99_1_w _ _ _ ?_))
 exact xX.get) (x : X) : G := f ⟨x⟩
theorem runRp5_4 {G X : Prop} (f : Hd X → G := by
 intro xX
 repeat' (first | refine stp (x := ?_) | (with_reducible refine SpecQ.step (c99 (w.app _) hs) ?_; rintro _ rfl; try dsimp only) | (simp (decide := true) only [sn96, snB, if_true, if_false]))
 exact xX.get) (x : X) : G := f ⟨x⟩
theorem runRp5_5 {G X : Prop} (f : Hd X → G := by
 intro xX
 repeat' (first | refine stp (x := ?_) | (simp (decide := true) only [sn71, snB, if_true, if_false]))
 exact xX.get) (x : X) : G := f ⟨x⟩
theorem runRp5_6 {G X : Prop} (f : Hd X → G := by
 intro xX
 repeat' (first | refine stp (x := ?_) | (with_reducible refine ValW_i (c121 (w.app _).wa w.fa.le hs.a (hq _)) ?_; try dsimp only) | (with_reducible refine SpecQ.step (c121 (w.app _).wa w.fa.le hs.a (hq _)) ?_; rintro _ rfl; try dsimp only) | (simp (decide := true) only [sn101, snB, if_true, if_false]) | (with_reducible refine n101_1_w _ _ _ ?_))
 exact xX.get) (x : X) : G := f ⟨x⟩
theorem runRp5_7 {G X : Prop} (f : Hd X → G := by
 intro xX
 repeat' (first | refine stp (x := ?_) | (with_reducible refine SpecQ.step (c101 (w.app _) hs) ?_; rintro _ rfl; try dsimp only) | (simp (decide := true) only [sn97, snB, if_true, if_false]))
 exact xX.get) (x : X) : G := f ⟨x⟩
theorem runRp5_8 {G X : Prop} (f : Hd X → G := by
 intro xX
 repeat' (first | refine stp (x := ?_) | (simp (decide := true) only [sn74, snB, if_true, if_false]))
 exact xX.get) (x : X) : G := f ⟨x⟩
theorem runRp5_9 {G X : Prop} (f : Hd X → G := by
 intro xX
 repeat' (first | refine stp (x := ?_) | (with_reducible refine ValW_i (c130 (w.app _).wb w.fb.le hs.b (hq _)) ?_; try dsimp only) | (with_reducible refine SpecQ.step (c130 (w.app _).wb w.fb.le hs.b (hq _)) ?_; rintro _ rfl; try dsimp only) | (simp (decide := true) only [sn118, snB, if_true, if_false]) | (with_reducible refine n118_1_w _ _ _ ?_))
 exact xX.get) (x : X) : G := f ⟨x⟩
theorem runRp5_10 {G X : Prop} (f : Hd X → G := by
 intro xX
 repeat' (first | refine stp (x := ?_) | (with_reducible refine SpecQ.step (c118 (w.app _) hs) ?_; rintro _ rfl; try dsimp only) | (simp (decide := true) only [sn95, snB, if_true, if_false]))
 exact xX.get) (x : X) : G := f ⟨x⟩
theorem runRp5_11 {G X : Prop} (f : Hd X → G := by
 intro xX
 repeat' (first | refine stp (x := ?_) | (simp (decide := true) only [sn113, snB, if_true, if_false]))
 exact xX.get) (x : X) : G := f ⟨x⟩
@[simp high] theorem node2_get0 (a b : AV) (r : List Nat) : (AV.node [a, b]).get (0 :: r) = a.get r := by simp
@[simp high] theorem node2_get1 (a b : AV) (r : List Nat) : (AV.node [a, b]).get (1 :: r) = b.get r := by simp
theorem c78 {κ : Nat → Nat} {H : Heap} {c : Nat} {s : Stt} {vt vp vs vi va vb : AV} {e : Pt} (w : Wk κ H c s vt vp vs vi va vb) (hs : Srt s) : SpecQ Tryz.prog 78 [.node [.ptr c 0 [5] .cell, .fn 91 []], pt e] H fun r => r = (.tuple [nat (low fS s.seats e), .bool (hasP fS s.seats e)], H) := by
 refine SpecQ.drop1 rfl (q78 fun env g0 g1 => ?_)
 have wb := w.blk
 have hq : ∀ u l : Heap, mLoad .cell (.ptr H.length 0 [1] .cell) ((H ++ ⟨.node [.ptr c 0 [5] .cell, .fn 91 []], 0, .own⟩ :: u) ++ l) = some (.fn 91 []) := fun u l => by simp
 have ff := aI g0 (aI g1 wb)
 refine runRp5_0 (x := ?_)
 clear ff
 exact ⟨_, rfl⟩
theorem c76 {κ : Nat → Nat} {H : Heap} {c : Nat} {s : Stt} {vt vp vs vi va vb : AV} {e : Pt} (w : Wk κ H c s vt vp vs vi va vb) (hs : Srt s) : SpecQ Tryz.prog 76 [.node [.ptr c 0 [5] .cell, .fn 91 []], pt e] H fun r => r = (.bool (hasP fS s.seats e), H) := by
 refine SpecQ.drop1 rfl (q76 fun env g0 g1 => ?_)
 have ff := aI g0 g1
 refine runRp5_1 (x := ?_)
 clear ff
 exact ⟨_, rfl⟩
theorem c67 {κ : Nat → Nat} {H : Heap} {c : Nat} {s : Stt} {vt vp vs vi va vb : AV} (w : Wk κ H c s vt vp vs vi va vb) : SpecQ Tryz.prog 67 [.node [.ptr c 0 [5] .cell, .fn 91 []]] H fun r => r = (.bool (decide (40 ≤ s.seats.length)), H) := by
 refine SpecQ.drop1 rfl (q67 fun env g0 => ?_)
 have wb := w.blk
 have wl := w.fs.len
 have ff := aI g0 (aI wb wl)
 refine runRp5_2 (x := ?_)
 clear ff
 exact ⟨_, rfl⟩
theorem c99 {κ : Nat → Nat} {H : Heap} {c : Nat} {s : Stt} {vt vp vs vi va vb : AV} {e : Pt} (w : Wk κ H c s vt vp vs vi va vb) (hs : Srt s) : SpecQ Tryz.prog 99 [.node [.ptr c 0 [6] .cell, .fn 92 []], pt e] H fun r => r = (.tuple [nat (low fI s.invites e), .bool (hasP fI s.invites e)], H) := by
 refine SpecQ.drop1 rfl (q99 fun env g0 g1 => ?_)
 have wb := w.blk
 have hq : ∀ u l : Heap, mLoad .cell (.ptr H.length 0 [1] .cell) ((H ++ ⟨.node [.ptr c 0 [6] .cell, .fn 92 []], 0, .own⟩ :: u) ++ l) = some (.fn 92 []) := fun u l => by simp
 have ff := aI g0 (aI g1 wb)
 refine runRp5_3 (x := ?_)
 clear ff
 exact ⟨_, rfl⟩
theorem c96 {κ : Nat → Nat} {H : Heap} {c : Nat} {s : Stt} {vt vp vs vi va vb : AV} {e : Pt} (w : Wk κ H c s vt vp vs vi va vb) (hs : Srt s) : SpecQ Tryz.prog 96 [.node [.ptr c 0 [6] .cell, .fn 92 []], pt e] H fun r => r = (.bool (hasP fI s.invites e), H) := by
 refine SpecQ.drop1 rfl (q96 fun env g0 g1 => ?_)
 have ff := aI g0 g1
 refine runRp5_4 (x := ?_)
 clear ff
 exact ⟨_, rfl⟩
theorem c71 {κ : Nat → Nat} {H : Heap} {c : Nat} {s : Stt} {vt vp vs vi va vb : AV} (w : Wk κ H c s vt vp vs vi va vb) : SpecQ Tryz.prog 71 [.node [.ptr c 0 [6] .cell, .fn 92 []]] H fun r => r = (.bool (decide (40 ≤ s.invites.length)), H) := by
 refine SpecQ.drop1 rfl (q71 fun env g0 => ?_)
 have wb := w.blk
 have wl := w.fi.len
 have ff := aI g0 (aI wb wl)
 refine runRp5_5 (x := ?_)
 clear ff
 exact ⟨_, rfl⟩
theorem c101 {κ : Nat → Nat} {H : Heap} {c : Nat} {s : Stt} {vt vp vs vi va vb : AV} {e : Pt} (w : Wk κ H c s vt vp vs vi va vb) (hs : Srt s) : SpecQ Tryz.prog 101 [.node [.ptr c 0 [7] .cell, .fn 93 []], pt e] H fun r => r = (.tuple [nat (low fA s.asks e), .bool (hasP fA s.asks e)], H) := by
 refine SpecQ.drop1 rfl (q101 fun env g0 g1 => ?_)
 have wb := w.blk
 have hq : ∀ u l : Heap, mLoad .cell (.ptr H.length 0 [1] .cell) ((H ++ ⟨.node [.ptr c 0 [7] .cell, .fn 93 []], 0, .own⟩ :: u) ++ l) = some (.fn 93 []) := fun u l => by simp
 have ff := aI g0 (aI g1 wb)
 refine runRp5_6 (x := ?_)
 clear ff
 exact ⟨_, rfl⟩
theorem c97 {κ : Nat → Nat} {H : Heap} {c : Nat} {s : Stt} {vt vp vs vi va vb : AV} {e : Pt} (w : Wk κ H c s vt vp vs vi va vb) (hs : Srt s) : SpecQ Tryz.prog 97 [.node [.ptr c 0 [7] .cell, .fn 93 []], pt e] H fun r => r = (.bool (hasP fA s.asks e), H) := by
 refine SpecQ.drop1 rfl (q97 fun env g0 g1 => ?_)
 have ff := aI g0 g1
 refine runRp5_7 (x := ?_)
 clear ff
 exact ⟨_, rfl⟩
theorem c74 {κ : Nat → Nat} {H : Heap} {c : Nat} {s : Stt} {vt vp vs vi va vb : AV} (w : Wk κ H c s vt vp vs vi va vb) : SpecQ Tryz.prog 74 [.node [.ptr c 0 [7] .cell, .fn 93 []]] H fun r => r = (.bool (decide (40 ≤ s.asks.length)), H) := by
 refine SpecQ.drop1 rfl (q74 fun env g0 => ?_)
 have wb := w.blk
 have wl := w.fa.len
 have ff := aI g0 (aI wb wl)
 refine runRp5_8 (x := ?_)
 clear ff
 exact ⟨_, rfl⟩
theorem c118 {κ : Nat → Nat} {H : Heap} {c : Nat} {s : Stt} {vt vp vs vi va vb : AV} {e : Pt} (w : Wk κ H c s vt vp vs vi va vb) (hs : Srt s) : SpecQ Tryz.prog 118 [.node [.ptr c 0 [8] .cell, .fn 117 []], pt e] H fun r => r = (.tuple [nat (low fB s.bans e), .bool (hasP fB s.bans e)], H) := by
 refine SpecQ.drop1 rfl (q118 fun env g0 g1 => ?_)
 have wb := w.blk
 have hq : ∀ u l : Heap, mLoad .cell (.ptr H.length 0 [1] .cell) ((H ++ ⟨.node [.ptr c 0 [8] .cell, .fn 117 []], 0, .own⟩ :: u) ++ l) = some (.fn 117 []) := fun u l => by simp
 have ff := aI g0 (aI g1 wb)
 refine runRp5_9 (x := ?_)
 clear ff
 exact ⟨_, rfl⟩
theorem c95 {κ : Nat → Nat} {H : Heap} {c : Nat} {s : Stt} {vt vp vs vi va vb : AV} {e : Pt} (w : Wk κ H c s vt vp vs vi va vb) (hs : Srt s) : SpecQ Tryz.prog 95 [.node [.ptr c 0 [8] .cell, .fn 117 []], pt e] H fun r => r = (.bool (hasP fB s.bans e), H) := by
 refine SpecQ.drop1 rfl (q95 fun env g0 g1 => ?_)
 have ff := aI g0 g1
 refine runRp5_10 (x := ?_)
 clear ff
 exact ⟨_, rfl⟩
theorem c113 {κ : Nat → Nat} {H : Heap} {c : Nat} {s : Stt} {vt vp vs vi va vb : AV} (w : Wk κ H c s vt vp vs vi va vb) : SpecQ Tryz.prog 113 [.node [.ptr c 0 [8] .cell, .fn 117 []]] H fun r => r = (.bool (decide (40 ≤ s.bans.length)), H) := by
 refine SpecQ.drop1 rfl (q113 fun env g0 => ?_)
 have wb := w.blk
 have wl := w.fb.len
 have ff := aI g0 (aI wb wl)
 refine runRp5_11 (x := ?_)
 clear ff
 exact ⟨_, rfl⟩
end Go.Vab

/- How the code of a function is read. Printed by wip/tools/gen2.py and gen3.py (own work). -/
namespace Go.Vab
open Go Go.Proofs
noncomputable section
def cx77 : Ctx := ⟨fun _ _ _ => none,TT,34,[7,8,9,10,11,12,14,15,16,17,18,19,20,21,22,23,24,25,26,27,28,29,30,31,32,33]⟩
def n77_0 := bodyOf Tryz.f77
def n77_1 := cR n77_0
def n77_2 := cR n77_1
def n77_3 := cL n77_2
def n77_4 := cR n77_3
def n77_5 := cL n77_4
def n77_6 := cR n77_5
def n77_7 := cR n77_4
def n77_8 := cR n77_2
def n77_9 := cR n77_8
def q77 := zQ2 cx77 77 Tryz.f77 n77_0 fun s => (bnd (mLoad tSeat (s.env.get 4) s.heap) fun v => bnd (bnd (some (s.env.get 5)) fun v => bnd (some []) fun vs => some (v :: vs)) fun vs => some (v :: vs))
set_option maxRecDepth 20000
set_option maxHeartbeats 4000000
def n77_6_w := zDr cx77 [n77_6] [9,11] [0,1,0,4,12,28,0,0,128,508,1023,2047] [0,1,2,3,4,5,6,7,8] (.o 9 [10] [1] (.o 11 [] [] .f))
def sn77 := zAll cx77 [[n77_6,n77_5],[n77_7],[n77_5,n77_7,n77_4],[n77_4,n77_3],[n77_9],[n77_9,n77_8],[n77_3,n77_8,n77_2],[n77_2,n77_1],[n77_1,n77_0]]
end
end Go.Vab

/- How the code of a function is read. Printed by wip/tools/gen2.py and gen3.py (own work). -/
namespace Go.Vab
open Go Go.Proofs
noncomputable section
def cx68 : Ctx := ⟨fun _ _ _ => none,TT,34,[7,8,9,10,11,12,14,15,16,17,18,19,20,21,22,23,24,25,26,27,28,29,30,31,32,33]⟩
def n68_0 := bodyOf Tryz.f68
def n68_1 := cR n68_0
def n68_2 := cR n68_1
def n68_3 := cL n68_2
def n68_4 := cR n68_3
def n68_5 := cL n68_4
def n68_6 := cR n68_5
def n68_7 := cR n68_4
def n68_8 := cR n68_2
def n68_9 := cR n68_8
def q68 := zQ2 cx68 68 Tryz.f68 n68_0 fun s => (bnd (mLoad tInvite (s.env.get 4) s.heap) fun v => bnd (bnd (some (s.env.get 5)) fun v => bnd (some []) fun vs => some (v :: vs)) fun vs => some (v :: vs))
set_option maxRecDepth 20000
set_option maxHeartbeats 4000000
def n68_6_w := zDr cx68 [n68_6] [9,11] [0,1,0,4,12,28,0,0,128,508,1023,2047] [0,1,2,3,4,5,6,7,8] (.o 9 [10] [1] (.o 11 [] [] .f))
def sn68 := zAll cx68 [[n68_6,n68_5],[n68_7],[n68_5,n68_7,n68_4],[n68_4,n68_3],[n68_9],[n68_9,n68_8],[n68_3,n68_8,n68_2],[n68_2,n68_1],[n68_1,n68_0]]
end
end Go.Vab

/- How the code of a function is read. Printed by wip/tools/gen2.py and gen3.py (own work). -/
namespace Go.Vab
open Go Go.Proofs
noncomputable section
def cx69 : Ctx := ⟨fun _ _ _ => none,TT,34,[7,8,9,10,11,12,14,15,16,17,18,19,20,21,22,23,24,25,26,27,28,29,30,31,32,33]⟩
def n69_0 := bodyOf Tryz.f69
def n69_1 := cR n69_0
def n69_2 := cR n69_1
def n69_3 := cL n69_2
def n69_4 := cR n69_3
def n69_5 := cL n69_4
def n69_6 := cR n69_5
def n69_7 := cR n69_4
def n69_8 := cR n69_2
def n69_9 := cR n69_8
def q69 := zQ2 cx69 69 Tryz.f69 n69_0 fun s => (bnd (mLoad tAsk (s.env.get 4) s.heap) fun v => bnd (bnd (some (s.env.get 5)) fun v => bnd (some []) fun vs => some (v :: vs)) fun vs => some (v :: vs))
set_option maxRecDepth 20000
set_option maxHeartbeats 4000000
def n69_6_w := zDr cx69 [n69_6] [9,11] [0,1,0,4,12,28,0,0,128,508,1023,2047] [0,1,2,3,4,5,6,7,8] (.o 9 [10] [1] (.o 11 [] [] .f))
def sn69 := zAll cx69 [[n69_6,n69_5],[n69_7],[n69_5,n69_7,n69_4],[n69_4,n69_3],[n69_9],[n69_9,n69_8],[n69_3,n69_8,n69_2],[n69_2,n69_1],[n69_1,n69_0]]
end
end Go.Vab

/- How the code of a function is read. Printed by wip/tools/gen2.py and gen3.py (own work). -/
namespace Go.Vab
open Go Go.Proofs
noncomputable section
def cx112 : Ctx := ⟨fun _ _ _ => none,TT,34,[7,8,9,10,11,12,14,15,16,17,18,19,20,21,22,23,24,25,26,27,28,29,30,31,32,33]⟩
def n112_0 := bodyOf Tryz.f112
def n112_1 := cR n112_0
def n112_2 := cR n112_1
def n112_3 := cL n112_2
def n112_4 := cR n112_3
def n112_5 := cL n112_4
def n112_6 := cR n112_5
def n112_7 := cR n112_4
def n112_8 := cR n112_2
def n112_9 := cR n112_8
def q112 := zQ2 cx112 112 Tryz.f112 n112_0 fun s => (bnd (mLoad tBan (s.env.get 4) s.heap) fun v => bnd (bnd (some (s.env.get 5)) fun v => bnd (some []) fun vs => some (v :: vs)) fun vs => some (v :: vs))
set_option maxRecDepth 20000
set_option maxHeartbeats 4000000
def n112_6_w := zDr cx112 [n112_6] [9,11] [0,1,0,4,12,28,0,0,128,508,1023,2047] [0,1,2,3,4,5,6,7,8] (.o 9 [10] [1] (.o 11 [] [] .f))
def sn112 := zAll cx112 [[n112_6,n112_5],[n112_7],[n112_5,n112_7,n112_4],[n112_4,n112_3],[n112_9],[n112_9,n112_8],[n112_3,n112_8,n112_2],[n112_2,n112_1],[n112_1,n112_0]]
end
end Go.Vab

/- How the code of a function is read. Printed by wip/tools/gen2.py and gen3.py (own work). -/
namespace Go.Vab
open Go Go.Proofs
noncomputable section
def cx103 : Ctx := ⟨fun _ _ _ => none,TT,28,[5,6,7,8,9,10,11,12,13,14,15,16,17,18,19,20,21,22,23,24,25,26,27]⟩
def n103_0 := bodyOf Tryz.f103
def n103_1 := cR n103_0
def n103_2 := cR n103_1
def q103 := zQ2 cx103 103 Tryz.f103 n103_0 fun s => (some [])
set_option maxRecDepth 20000
set_option maxHeartbeats 4000000
def n103_2_w := zDr cx103 [n103_2] [8,9,11] [0,1,0,4,12,28,0,0,128,508,1023,2047] [0,1,2,3,4,5,6,7] (.o 8 [] [1,3,5] (.o 9 [10] [1] (.o 11 [] [] .f)))
def n103_1_w := zDr cx103 [n103_2,n103_1] [] [0,0,2,6,14,30,62,127,255,511,511,1023,4095] [0,1,2,3,4,5,6,7,8,9,10,11,12] .f
def sn103 := zAll cx103 [[n103_1,n103_0]]
end
end Go.Vab

/- How the code of a function is read. Printed by wip/tools/gen2.py and gen3.py (own work). -/
namespace Go.Vab
open Go Go.Proofs
noncomputable section
def cx72 : Ctx := ⟨fun _ _ _ => none,TT,28,[5,6,7,8,9,10,11,12,13,14,15,16,17,18,19,20,21,22,23,24,25,26,27]⟩
def n72_0 := bodyOf Tryz.f72
def n72_1 := cR n72_0
def n72_2 := cR n72_1
def q72 := zQ2 cx72 72 Tryz.f72 n72_0 fun s => (some [])
set_option maxRecDepth 20000
set_option maxHeartbeats 4000000
def n72_2_w := zDr cx72 [n72_2] [8,9,11] [0,1,0,4,12,28,0,0,128,508,1023,2047] [0,1,2,3,4,5,6,7] (.o 8 [] [1,3,5] (.o 9 [10] [1] (.o 11 [] [] .f)))
def n72_1_w := zDr cx72 [n72_2,n72_1] [] [0,0,2,6,14,30,62,127,255,511,511,1023,4095] [0,1,2,3,4,5,6,7,8,9,10,11,12] .f
def sn72 := zAll cx72 [[n72_1,n72_0]]
end
end Go.Vab

/- How the code of a function is read. Printed by wip/tools/gen2.py and gen3.py (own work). -/
namespace Go.Vab
open Go Go.Proofs
noncomputable section
def cx75 : Ctx := ⟨fun _ _ _ => none,TT,28,[5,6,7,8,9,10,11,12,13,14,15,16,17,18,19,20,21,22,23,24,25,26,27]⟩
def n75_0 := bodyOf Tryz.f75
def n75_1 := cR n75_0
def n75_2 := cR n75_1
def q75 := zQ2 cx75 75 Tryz.f75 n75_0 fun s => (some [])
set_option maxRecDepth 20000
set_option maxHeartbeats 4000000
def n75_2_w := zDr cx75 [n75_2] [8,9,11] [0,1,0,4,12,28,0,0,128,508,1023,2047] [0,1,2,3,4,5,6,7] (.o 8 [] [1,3,5] (.o 9 [10] [1] (.o 11 [] [] .f)))
def n75_1_w := zDr cx75 [n75_2,n75_1] [] [0,0,2,6,14,30,62,127,255,511,511,1023,4095] [0,1,2,3,4,5,6,7,8,9,10,11,12] .f
def sn75 := zAll cx75 [[n75_1,n75_0]]
end
end Go.Vab

/- How the code of a function is read. Printed by wip/tools/gen2.py and gen3.py (own work). -/
namespace Go.Vab
open Go Go.Proofs
noncomputable section
def cx114 : Ctx := ⟨fun _ _ _ => none,TT,28,[5,6,7,8,9,10,11,12,13,14,15,16,17,18,19,20,21,22,23,24,25,26,27]⟩
def n114_0 := bodyOf Tryz.f114
def n114_1 := cR n114_0
def n114_2 := cR n114_1
def q114 := zQ2 cx114 114 Tryz.f114 n114_0 fun s => (some [])
set_option maxRecDepth 20000
set_option maxHeartbeats 4000000
def n114_2_w := zDr cx114 [n114_2] [8,9,11] [0,1,0,4,12,28,0,0,128,508,1023,2047] [0,1,2,3,4,5,6,7] (.o 8 [] [1,3,5] (.o 9 [10] [1] (.o 11 [] [] .f)))
def n114_1_w := zDr cx114 [n114_2,n114_1] [] [0,0,2,6,14,30,62,127,255,511,511,1023,4095] [0,1,2,3,4,5,6,7,8,9,10,11,12] .f
def sn114 := zAll cx114 [[n114_1,n114_0]]
end
end Go.Vab

/-
  The program's lists: somebody is taken out, somebody is put in.
-/
namespace Go.Vab
open Go Go.Proofs
theorem runRp8_0 {G X : Prop} (f : Hd X → G := by
 intro xX
 repeat' (first | refine stp (x := ?_) | (with_reducible refine SpecQ.step (c78 (w.app _) hs) ?_; rintro _ rfl; try dsimp only) | (with_reducible refine stabP_i (c78 (w.app _) hs) ?_) | (simp (decide := true) only [sn77, snB, if_true, if_false]) | (with_reducible refine n77_6_w _ _ _ ?_))
 exact xX.get) (x : X) : G := f ⟨x⟩
theorem runRp8_1 {G X : Prop} (f : Hd X → G := by
 intro xX
 repeat' (first | refine stp (x := ?_) | (simp (decide := true) only [sn77, snB, if_true, if_false]) | (with_reducible refine n77_6_w _ _ _ ?_))
 exact xX.get) (x : X) : G := f ⟨x⟩
theorem runRp8_2 {G X : Prop} (f : Hd X → G := by
 intro xX
 repeat' (first | refine stp (x := ?_) | (with_reducible refine ValW_i (c91) ?_; try dsimp only) | (with_reducible refine SpecQ.step (c91) ?_; rintro _ rfl; try dsimp only) | (with_reducible refine stabP_i (c91) ?_) | (with_reducible refine ValW_i (c78 (w.app _) hs) ?_; try dsimp only) | (with_reducible refine SpecQ.step (c78 (w.app _) hs) ?_; rintro _ rfl; try dsimp only) | (with_reducible refine stabP_i (c78 (w.app _) hs) ?_) | (simp (decide := true) only [sn103, snB, if_true, if_false]) | (with_reducible refine n103_2_w _ _ _ ?_) | (with_reducible refine n103_1_w _ _ _ ?_))
 exact xX.get) (x : X) : G := f ⟨x⟩
theorem runRp8_3 {G X : Prop} (f : Hd X → G := by
 intro xX
 repeat' (first | refine stp (x := ?_) | (simp (decide := true) only [sn103, snB, if_true, if_false]) | (with_reducible refine n103_2_w _ _ _ ?_) | (with_reducible refine n103_1_w _ _ _ ?_))
 exact xX.get) (x : X) : G := f ⟨x⟩
theorem runRp8_4 {G X : Prop} (f : Hd X → G := by
 intro xX
 repeat' (first | refine stp (x := ?_) | (with_reducible refine SpecQ.step (c99 (w.app _) hs) ?_; rintro _ rfl; try dsimp only) | (with_reducible refine stabP_i (c99 (w.app _) hs) ?_) | (simp (decide := true) only [sn68, snB, if_true, if_false]) | (with_reducible refine n68_6_w _ _ _ ?_))
 exact xX.get) (x : X) : G := f ⟨x⟩
theorem runRp8_5 {G X : Prop} (f : Hd X → G := by
 intro xX
 repeat' (first | refine stp (x := ?_) | (simp (decide := true) only [sn68, snB, if_true, if_false]) | (with_reducible refine n68_6_w _ _ _ ?_))
 exact xX.get) (x : X) : G := f ⟨x⟩
theorem runRp8_6 {G X : Prop} (f : Hd X → G := by
 intro xX
 repeat' (first | refine stp (x := ?_) | (with_reducible refine ValW_i (c92) ?_; try dsimp only) | (with_reducible refine SpecQ.step (c92) ?_; rintro _ rfl; try dsimp only) | (with_reducible refine stabP_i (c92) ?_) | (with_reducible refine ValW_i (c99 (w.app _) hs) ?_; try dsimp only) | (with_reducible refine SpecQ.step (c99 (w.app _) hs) ?_; rintro _ rfl; try dsimp only) | (with_reducible refine stabP_i (c99 (w.app _) hs) ?_) | (simp (decide := true) only [sn72, snB, if_true, if_false]) | (with_reducible refine n72_2_w _ _ _ ?_) | (with_reducible refine n72_1_w _ _ _ ?_))
 exact xX.get) (x : X) : G := f ⟨x⟩
theorem runRp8_7 {G X : Prop} (f : Hd X → G := by
 intro xX
 repeat' (first | refine stp (x := ?_) | (simp (decide := true) only [sn72, snB, if_true, if_false]) | (with_reducible refine n72_2_w _ _ _ ?_) | (with_reducible refine n72_1_w _ _ _ ?_))
 exact xX.get) (x : X) : G := f ⟨x⟩
theorem runRp8_8 {G X : Prop} (f : Hd X → G := by
 intro xX
 repeat' (first | refine stp (x := ?_) | (with_reducible refine SpecQ.step (c101 (w.app _) hs) ?_; rintro _ rfl; try dsimp only) | (with_reducible refine stabP_i (c101 (w.app _) hs) ?_) | (simp (decide := true) only [sn69, snB, if_true, if_false]) | (with_reducible refine n69_6_w _ _ _ ?_))
 exact xX.get) (x : X) : G := f ⟨x⟩
theorem runRp8_9 {G X : Prop} (f : Hd X → G := by
 intro xX
 repeat' (first | refine stp (x := ?_) | (simp (decide := true) only [sn69, snB, if_true, if_false]) | (with_reducible refine n69_6_w _ _ _ ?_))
 exact xX.get) (x : X) : G := f ⟨x⟩
theorem runRp8_10 {G X : Prop} (f : Hd X → G := by
 intro xX
 repeat' (first | refine stp (x := ?_) | (with_reducible refine ValW_i (c93) ?_; try dsimp only) | (with_reducible refine SpecQ.step (c93) ?_; rintro _ rfl; try dsimp only) | (with_reducible refine stabP_i (c93) ?_) | (with_reducible refine ValW_i (c101 (w.app _) hs) ?_; try dsimp only) | (with_reducible refine SpecQ.step (c101 (w.app _) hs) ?_; rintro _ rfl; try dsimp only) | (with_reducible refine stabP_i (c101 (w.app _) hs) ?_) | (simp (decide := true) only [sn75, snB, if_true, if_false]) | (with_reducible refine n75_2_w _ _ _ ?_) | (with_reducible refine n75_1_w _ _ _ ?_))
 exact xX.get) (x : X) : G := f ⟨x⟩
theorem runRp8_11 {G X : Prop} (f : Hd X → G := by
 intro xX
 repeat' (first | refine stp (x := ?_) | (simp (decide := true) only [sn75, snB, if_true, if_false]) | (with_reducible refine n75_2_w _ _ _ ?_) | (with_reducible refine n75_1_w _ _ _ ?_))
 exact xX.get) (x : X) : G := f ⟨x⟩
theorem runRp8_12 {G X : Prop} (f : Hd X → G := by
 intro xX
 repeat' (first | refine stp (x := ?_) | (with_reducible refine SpecQ.step (c118 (w.app _) hs) ?_; rintro _ rfl; try dsimp only) | (with_reducible refine stabP_i (c118 (w.app _) hs) ?_) | (simp (decide := true) only [sn112, snB, if_true, if_false]) | (with_reducible refine n112_6_w _ _ _ ?_))
 exact xX.get) (x : X) : G := f ⟨x⟩
theorem runRp8_13 {G X : Prop} (f : Hd X → G := by
 intro xX
 repeat' (first | refine stp (x := ?_) | (simp (decide := true) only [sn112, snB, if_true, if_false]) | (with_reducible refine n112_6_w _ _ _ ?_))
 exact xX.get) (x : X) : G := f ⟨x⟩
theorem runRp8_14 {G X : Prop} (f : Hd X → G := by
 intro xX
 repeat' (first | refine stp (x := ?_) | (with_reducible refine ValW_i (c117) ?_; try dsimp only) | (with_reducible refine SpecQ.step (c117) ?_; rintro _ rfl; try dsimp only) | (with_reducible refine stabP_i (c117) ?_) | (with_reducible refine ValW_i (c118 (w.app _) hs) ?_; try dsimp only) | (with_reducible refine SpecQ.step (c118 (w.app _) hs) ?_; rintro _ rfl; try dsimp only) | (with_reducible refine stabP_i (c118 (w.app _) hs) ?_) | (simp (decide := true) only [sn114, snB, if_true, if_false]) | (with_reducible refine n114_2_w _ _ _ ?_) | (with_reducible refine n114_1_w _ _ _ ?_))
 exact xX.get) (x : X) : G := f ⟨x⟩
theorem runRp8_15 {G X : Prop} (f : Hd X → G := by
 intro xX
 repeat' (first | refine stp (x := ?_) | (simp (decide := true) only [sn114, snB, if_true, if_false]) | (with_reducible refine n114_2_w _ _ _ ?_) | (with_reducible refine n114_1_w _ _ _ ?_))
 exact xX.get) (x : X) : G := f ⟨x⟩
set_option maxHeartbeats 1000000 in
theorem c77 {κ : Nat → Nat} {H : Heap} {c : Nat} {s : Stt} {vt vp vs vi va vb : AV} {e : Pt} (w : Wk κ H c s vt vp vs vi va vb) (hs : Srt s) : SpecQ Tryz.prog 77 [.node [.ptr c 0 [5] .cell, .fn 91 []], pt e] H fun r =>
  ∃ (y : Seat) (κ' : Nat → Nat) (H' : Heap) (q : AV), r = (.tuple [eSeat y, .bool (hasP fS s.seats e)], H') ∧ (∀ x, fnd fS s.seats e = some x → y = x) ∧ Wk κ' H' c { s with seats := del fS s.seats e } vt vp q vi va vb ∧ Fr κ H κ' H' := by
 refine q77 fun env g0 g1 => ?_
 have wb := w.blk
 have wc := w.cells
 have wl := w.lt
 cases hp : hasP fS s.seats e
 ·have ff := aI g0 (aI g1 (aI wb (aI wc hp)))
  refine runRp8_0 (x := ?_)
  clear ff
  refine ⟨⟨ci0, 0#8, 0#32⟩, κ, _, vs, rfl, fun x hx => ?_, ?_, (Fr.refl _ _).app⟩
  ·rw [hasP_fnd hp] at hx; cases hx
  ·rw [del_no hp]; exact w.app _
 ·obtain ⟨hlow, he, hf⟩ := low_yes hs.s hp
  obtain ⟨pb, pv, pp, bb, p1, p2, p3, p4⟩ := w.ws.idxE hlow
  have ad : mBin .add (nat (low fS s.seats e)) (nat 1) = some (nat (low fS s.seats e + 1)) := nat_add (by have := w.fs.le; omega)
  have ff := aI ad (aI g0 (aI g1 (aI wb (aI wc (aI hp (aI p1 (aI p2 (aI p3 p4))))))))
  refine runRp8_0 (x := ?_)
  clear ff
  have w1 := w.app (⟨.node [.ptr c 0 [5] .cell, .fn 91 []], 0, .own⟩ :: ⟨pt e, 0, .own⟩ :: [⟨eSeat s.seats[low fS s.seats e], 0, .own⟩])
  refine SpecQ.step (c106 w1.fs hlow) ?_
  rintro _ ⟨q, H1, rfl, k1, ch⟩
  have hr := blk_of (ch.blk (by decide) (i := H.length) (b := ⟨.node [.ptr c 0 [5] .cell, .fn 91 []], 0, .own⟩) (by simp) (w.top _ (Nat.le_refl _)))
  have hz1 := ch.blk (by decide) (i := H.length + 2) (b := ⟨eSeat s.seats[low fS s.seats e], 0, .own⟩) (by simp) (w.top _ (by omega))
  have hc1 := blk_of (w1.rest ch (by decide)).1
  obtain ⟨w2, fr⟩ := w1.newS ch k1
  obtain ⟨H2, h2⟩ : ∃ G, G = H1.set c ⟨eSt { s with seats := s.seats.take (low fS s.seats e) ++ s.seats.drop (low fS s.seats e + 1) } vt vp q vi va vb, 0, .own⟩ := ⟨_, rfl⟩
  rw [← h2] at w2 fr
  have h2' : H1.set c ⟨eStH s.version s.key s.acc vt vp q vi va vb, 0, .own⟩ = H2 := h2.symm
  have hz2 : H2[H.length + 2]? = some ⟨eSeat s.seats[low fS s.seats e], 0, .own⟩ := by rw [h2, List.getElem?_set_ne (by omega)]; exact hz1
  have hz3 := blk_of hz2
  have hz4 := set_self hz2
  have qc := k1.cell
  have ff := aI g0 (aI g1 (aI hr (aI hc1 (aI h2' (aI hz3 (aI hz4 (aI qc (aI wc hp))))))))
  refine runRp8_1 (x := ?_)
  clear ff
  refine ⟨_, κ, H2, q, rfl, fun x hx => ?_, ?_, fr.app⟩
  ·rw [hf] at hx; exact Option.some.inj hx
  ·rw [del_yes hs.s hp]; exact w2
set_option maxHeartbeats 1000000 in
theorem c103 {κ : Nat → Nat} {H : Heap} {c : Nat} {s : Stt} {vt vp vs vi va vb : AV} {x : Seat} (w : Wk κ H c s vt vp vs vi va vb) (hs : Srt s) (hl : s.seats.length < 1000) : SpecQ Tryz.prog 103 [.node [.ptr c 0 [5] .cell, .fn 91 []], eSeat x] H fun r =>
  ∃ (v : AV) (κ' : Nat → Nat) (H' : Heap) (q : AV), r = (v, H') ∧ Wk κ' H' c { s with seats := ins fS s.seats x } vt vp q vi va vb ∧ Fr κ H κ' H' := by
 refine q103 fun env g0 g1 => ?_
 have wb := w.blk
 have wc := w.cells
 have wl := w.lt
 have ff := aI g0 (aI g1 (aI wb wc))
 refine runRp8_2 (x := ?_)
 clear ff
 have w1 := w.app (⟨.node [.ptr c 0 [5] .cell, .fn 91 []], 0, .own⟩ :: ⟨eSeat x, 0, .own⟩ :: [⟨.node [eSeat x], 0, .own⟩])
 refine SpecQ.step (c123 w1.fs (low_le _ _ _) hl (vb := H.length + 2) (e := x) (by simp) (by rw [w.top _ (by omega)]; decide)) ?_
 rintro _ ⟨q, H1, κ', rfl, k1, ch⟩
 have hr := blk_of (ch.blk (by decide) (i := H.length) (b := ⟨.node [.ptr c 0 [5] .cell, .fn 91 []], 0, .own⟩) (by simp) (w.top _ (Nat.le_refl _)))
 have hc1 := blk_of (w1.rest ch (by decide)).1
 obtain ⟨w2, fr⟩ := w1.newS ch k1
 obtain ⟨H2, h2⟩ : ∃ G, G = H1.set c ⟨eSt { s with seats := s.seats.take (low fS s.seats x.who.e) ++ x :: s.seats.drop (low fS s.seats x.who.e) } vt vp q vi va vb, 0, .own⟩ := ⟨_, rfl⟩
 rw [← h2] at w2 fr
 have h2' : H1.set c ⟨eStH s.version s.key s.acc vt vp q vi va vb, 0, .own⟩ = H2 := h2.symm
 have qc := k1.cell
 have ff := aI g0 (aI g1 (aI hr (aI hc1 (aI h2' (aI qc wc)))))
 refine runRp8_3 (x := ?_)
 clear ff
 exact ⟨_, κ', H2, q, rfl, w2, fr.app⟩
set_option maxHeartbeats 1000000 in
theorem c68 {κ : Nat → Nat} {H : Heap} {c : Nat} {s : Stt} {vt vp vs vi va vb : AV} {e : Pt} (w : Wk κ H c s vt vp vs vi va vb) (hs : Srt s) : SpecQ Tryz.prog 68 [.node [.ptr c 0 [6] .cell, .fn 92 []], pt e] H fun r =>
  ∃ (y : Inv) (κ' : Nat → Nat) (H' : Heap) (q : AV), r = (.tuple [eInv y, .bool (hasP fI s.invites e)], H') ∧ (∀ x, fnd fI s.invites e = some x → y = x) ∧ Wk κ' H' c { s with invites := del fI s.invites e } vt vp vs q va vb ∧ Fr κ H κ' H' := by
 refine q68 fun env g0 g1 => ?_
 have wb := w.blk
 have wc := w.cells
 have wl := w.lt
 cases hp : hasP fI s.invites e
 ·have ff := aI g0 (aI g1 (aI wb (aI wc hp)))
  refine runRp8_4 (x := ?_)
  clear ff
  refine ⟨⟨ci0, 0#8, ci0⟩, κ, _, vi, rfl, fun x hx => ?_, ?_, (Fr.refl _ _).app⟩
  ·rw [hasP_fnd hp] at hx; cases hx
  ·rw [del_no hp]; exact w.app _
 ·obtain ⟨hlow, he, hf⟩ := low_yes hs.i hp
  obtain ⟨pb, pv, pp, bb, p1, p2, p3, p4⟩ := w.wi.idxE hlow
  have ad : mBin .add (nat (low fI s.invites e)) (nat 1) = some (nat (low fI s.invites e + 1)) := nat_add (by have := w.fi.le; omega)
  have ff := aI ad (aI g0 (aI g1 (aI wb (aI wc (aI hp (aI p1 (aI p2 (aI p3 p4))))))))
  refine runRp8_4 (x := ?_)
  clear ff
  have w1 := w.app (⟨.node [.ptr c 0 [6] .cell, .fn 92 []], 0, .own⟩ :: ⟨pt e, 0, .own⟩ :: [⟨eInv s.invites[low fI s.invites e], 0, .own⟩])
  refine SpecQ.step (c100 w1.fi hlow) ?_
  rintro _ ⟨q, H1, rfl, k1, ch⟩
  have hr := blk_of (ch.blk (by decide) (i := H.length) (b := ⟨.node [.ptr c 0 [6] .cell, .fn 92 []], 0, .own⟩) (by simp) (w.top _ (Nat.le_refl _)))
  have hz1 := ch.blk (by decide) (i := H.length + 2) (b := ⟨eInv s.invites[low fI s.invites e], 0, .own⟩) (by simp) (w.top _ (by omega))
  have hc1 := blk_of (w1.rest ch (by decide)).1
  obtain ⟨w2, fr⟩ := w1.newI ch k1
  obtain ⟨H2, h2⟩ : ∃ G, G = H1.set c ⟨eSt { s with invites := s.invites.take (low fI s.invites e) ++ s.invites.drop (low fI s.invites e + 1) } vt vp vs q va vb, 0, .own⟩ := ⟨_, rfl⟩
  rw [← h2] at w2 fr
  have h2' : H1.set c ⟨eStH s.version s.key s.acc vt vp vs q va vb, 0, .own⟩ = H2 := h2.symm
  have hz2 : H2[H.length + 2]? = some ⟨eInv s.invites[low fI s.invites e], 0, .own⟩ := by rw [h2, List.getElem?_set_ne (by omega)]; exact hz1
  have hz3 := blk_of hz2
  have hz4 := set_self hz2
  have qc := k1.cell
  have ff := aI g0 (aI g1 (aI hr (aI hc1 (aI h2' (aI hz3 (aI hz4 (aI qc (aI wc hp))))))))
  refine runRp8_5 (x := ?_)
  clear ff
  refine ⟨_, κ, H2, q, rfl, fun x hx => ?_, ?_, fr.app⟩
  ·rw [hf] at hx; exact Option.some.inj hx
  ·rw [del_yes hs.i hp]; exact w2
set_option maxHeartbeats 1000000 in
theorem c72 {κ : Nat → Nat} {H : Heap} {c : Nat} {s : Stt} {vt vp vs vi va vb : AV} {x : Inv} (w : Wk κ H c s vt vp vs vi va vb) (hs : Srt s) (hl : s.invites.length < 1000) : SpecQ Tryz.prog 72 [.node [.ptr c 0 [6] .cell, .fn 92 []], eInv x] H fun r =>
  ∃ (v : AV) (κ' : Nat → Nat) (H' : Heap) (q : AV), r = (v, H') ∧ Wk κ' H' c { s with invites := ins fI s.invites x } vt vp vs q va vb ∧ Fr κ H κ' H' := by
 refine q72 fun env g0 g1 => ?_
 have wb := w.blk
 have wc := w.cells
 have wl := w.lt
 have ff := aI g0 (aI g1 (aI wb wc))
 refine runRp8_6 (x := ?_)
 clear ff
 have w1 := w.app (⟨.node [.ptr c 0 [6] .cell, .fn 92 []], 0, .own⟩ :: ⟨eInv x, 0, .own⟩ :: [⟨.node [eInv x], 0, .own⟩])
 refine SpecQ.step (c104 w1.fi (low_le _ _ _) hl (vb := H.length + 2) (e := x) (by simp) (by rw [w.top _ (by omega)]; decide)) ?_
 rintro _ ⟨q, H1, κ', rfl, k1, ch⟩
 have hr := blk_of (ch.blk (by decide) (i := H.length) (b := ⟨.node [.ptr c 0 [6] .cell, .fn 92 []], 0, .own⟩) (by simp) (w.top _ (Nat.le_refl _)))
 have hc1 := blk_of (w1.rest ch (by decide)).1
 obtain ⟨w2, fr⟩ := w1.newI ch k1
 obtain ⟨H2, h2⟩ : ∃ G, G = H1.set c ⟨eSt { s with invites := s.invites.take (low fI s.invites x.who.e) ++ x :: s.invites.drop (low fI s.invites x.who.e) } vt vp vs q va vb, 0, .own⟩ := ⟨_, rfl⟩
 rw [← h2] at w2 fr
 have h2' : H1.set c ⟨eStH s.version s.key s.acc vt vp vs q va vb, 0, .own⟩ = H2 := h2.symm
 have qc := k1.cell
 have ff := aI g0 (aI g1 (aI hr (aI hc1 (aI h2' (aI qc wc)))))
 refine runRp8_7 (x := ?_)
 clear ff
 exact ⟨_, κ', H2, q, rfl, w2, fr.app⟩
set_option maxHeartbeats 1000000 in
theorem c69 {κ : Nat → Nat} {H : Heap} {c : Nat} {s : Stt} {vt vp vs vi va vb : AV} {e : Pt} (w : Wk κ H c s vt vp vs vi va vb) (hs : Srt s) : SpecQ Tryz.prog 69 [.node [.ptr c 0 [7] .cell, .fn 93 []], pt e] H fun r =>
  ∃ (y : Ask) (κ' : Nat → Nat) (H' : Heap) (q : AV), r = (.tuple [eAsk y, .bool (hasP fA s.asks e)], H') ∧ (∀ x, fnd fA s.asks e = some x → y = x) ∧ Wk κ' H' c { s with asks := del fA s.asks e } vt vp vs vi q vb ∧ Fr κ H κ' H' := by
 refine q69 fun env g0 g1 => ?_
 have wb := w.blk
 have wc := w.cells
 have wl := w.lt
 cases hp : hasP fA s.asks e
 ·have ff := aI g0 (aI g1 (aI wb (aI wc hp)))
  refine runRp8_8 (x := ?_)
  clear ff
  refine ⟨⟨ci0, 0#32⟩, κ, _, va, rfl, fun x hx => ?_, ?_, (Fr.refl _ _).app⟩
  ·rw [hasP_fnd hp] at hx; cases hx
  ·rw [del_no hp]; exact w.app _
 ·obtain ⟨hlow, he, hf⟩ := low_yes hs.a hp
  obtain ⟨pb, pv, pp, bb, p1, p2, p3, p4⟩ := w.wa.idxE hlow
  have ad : mBin .add (nat (low fA s.asks e)) (nat 1) = some (nat (low fA s.asks e + 1)) := nat_add (by have := w.fa.le; omega)
  have ff := aI ad (aI g0 (aI g1 (aI wb (aI wc (aI hp (aI p1 (aI p2 (aI p3 p4))))))))
  refine runRp8_8 (x := ?_)
  clear ff
  have w1 := w.app (⟨.node [.ptr c 0 [7] .cell, .fn 93 []], 0, .own⟩ :: ⟨pt e, 0, .own⟩ :: [⟨eAsk s.asks[low fA s.asks e], 0, .own⟩])
  refine SpecQ.step (c102 w1.fa hlow) ?_
  rintro _ ⟨q, H1, rfl, k1, ch⟩
  have hr := blk_of (ch.blk (by decide) (i := H.length) (b := ⟨.node [.ptr c 0 [7] .cell, .fn 93 []], 0, .own⟩) (by simp) (w.top _ (Nat.le_refl _)))
  have hz1 := ch.blk (by decide) (i := H.length + 2) (b := ⟨eAsk s.asks[low fA s.asks e], 0, .own⟩) (by simp) (w.top _ (by omega))
  have hc1 := blk_of (w1.rest ch (by decide)).1
  obtain ⟨w2, fr⟩ := w1.newA ch k1
  obtain ⟨H2, h2⟩ : ∃ G, G = H1.set c ⟨eSt { s with asks := s.asks.take (low fA s.asks e) ++ s.asks.drop (low fA s.asks e + 1) } vt vp vs vi q vb, 0, .own⟩ := ⟨_, rfl⟩
  rw [← h2] at w2 fr
  have h2' : H1.set c ⟨eStH s.version s.key s.acc vt vp vs vi q vb, 0, .own⟩ = H2 := h2.symm
  have hz2 : H2[H.length + 2]? = some ⟨eAsk s.asks[low fA s.asks e], 0, .own⟩ := by rw [h2, List.getElem?_set_ne (by omega)]; exact hz1
  have hz3 := blk_of hz2
  have hz4 := set_self hz2
  have qc := k1.cell
  have ff := aI g0 (aI g1 (aI hr (aI hc1 (aI h2' (aI hz3 (aI hz4 (aI qc (aI wc hp))))))))
  refine runRp8_9 (x := ?_)
  clear ff
  refine ⟨_, κ, H2, q, rfl, fun x hx => ?_, ?_, fr.app⟩
  ·rw [hf] at hx; exact Option.some.inj hx
  ·rw [del_yes hs.a hp]; exact w2
set_option maxHeartbeats 1000000 in
theorem c75 {κ : Nat → Nat} {H : Heap} {c : Nat} {s : Stt} {vt vp vs vi va vb : AV} {x : Ask} (w : Wk κ H c s vt vp vs vi va vb) (hs : Srt s) (hl : s.asks.length < 1000) : SpecQ Tryz.prog 75 [.node [.ptr c 0 [7] .cell, .fn 93 []], eAsk x] H fun r =>
  ∃ (v : AV) (κ' : Nat → Nat) (H' : Heap) (q : AV), r = (v, H') ∧ Wk κ' H' c { s with asks := ins fA s.asks x } vt vp vs vi q vb ∧ Fr κ H κ' H' := by
 refine q75 fun env g0 g1 => ?_
 have wb := w.blk
 have wc := w.cells
 have wl := w.lt
 have ff := aI g0 (aI g1 (aI wb wc))
 refine runRp8_10 (x := ?_)
 clear ff
 have w1 := w.app (⟨.node [.ptr c 0 [7] .cell, .fn 93 []], 0, .own⟩ :: ⟨eAsk x, 0, .own⟩ :: [⟨.node [eAsk x], 0, .own⟩])
 refine SpecQ.step (c105 w1.fa (low_le _ _ _) hl (vb := H.length + 2) (e := x) (by simp) (by rw [w.top _ (by omega)]; decide)) ?_
 rintro _ ⟨q, H1, κ', rfl, k1, ch⟩
 have hr := blk_of (ch.blk (by decide) (i := H.length) (b := ⟨.node [.ptr c 0 [7] .cell, .fn 93 []], 0, .own⟩) (by simp) (w.top _ (Nat.le_refl _)))
 have hc1 := blk_of (w1.rest ch (by decide)).1
 obtain ⟨w2, fr⟩ := w1.newA ch k1
 obtain ⟨H2, h2⟩ : ∃ G, G = H1.set c ⟨eSt { s with asks := s.asks.take (low fA s.asks x.who.e) ++ x :: s.asks.drop (low fA s.asks x.who.e) } vt vp vs vi q vb, 0, .own⟩ := ⟨_, rfl⟩
 rw [← h2] at w2 fr
 have h2' : H1.set c ⟨eStH s.version s.key s.acc vt vp vs vi q vb, 0, .own⟩ = H2 := h2.symm
 have qc := k1.cell
 have ff := aI g0 (aI g1 (aI hr (aI hc1 (aI h2' (aI qc wc)))))
 refine runRp8_11 (x := ?_)
 clear ff
 exact ⟨_, κ', H2, q, rfl, w2, fr.app⟩
set_option maxHeartbeats 1000000 in
theorem c112 {κ : Nat → Nat} {H : Heap} {c : Nat} {s : Stt} {vt vp vs vi va vb : AV} {e : Pt} (w : Wk κ H c s vt vp vs vi va vb) (hs : Srt s) : SpecQ Tryz.prog 112 [.node [.ptr c 0 [8] .cell, .fn 117 []], pt e] H fun r =>
  ∃ (y : Ban) (κ' : Nat → Nat) (H' : Heap) (q : AV), r = (.tuple [eBan y, .bool (hasP fB s.bans e)], H') ∧ (∀ x, fnd fB s.bans e = some x → y = x) ∧ Wk κ' H' c { s with bans := del fB s.bans e } vt vp vs vi va q ∧ Fr κ H κ' H' := by
 refine q112 fun env g0 g1 => ?_
 have wb := w.blk
 have wc := w.cells
 have wl := w.lt
 cases hp : hasP fB s.bans e
 ·have ff := aI g0 (aI g1 (aI wb (aI wc hp)))
  refine runRp8_12 (x := ?_)
  clear ff
  refine ⟨⟨ci0, ci0⟩, κ, _, vb, rfl, fun x hx => ?_, ?_, (Fr.refl _ _).app⟩
  ·rw [hasP_fnd hp] at hx; cases hx
  ·rw [del_no hp]; exact w.app _
 ·obtain ⟨hlow, he, hf⟩ := low_yes hs.b hp
  obtain ⟨pb, pv, pp, bb, p1, p2, p3, p4⟩ := w.wb.idxE hlow
  have ad : mBin .add (nat (low fB s.bans e)) (nat 1) = some (nat (low fB s.bans e + 1)) := nat_add (by have := w.fb.le; omega)
  have ff := aI ad (aI g0 (aI g1 (aI wb (aI wc (aI hp (aI p1 (aI p2 (aI p3 p4))))))))
  refine runRp8_12 (x := ?_)
  clear ff
  have w1 := w.app (⟨.node [.ptr c 0 [8] .cell, .fn 117 []], 0, .own⟩ :: ⟨pt e, 0, .own⟩ :: [⟨eBan s.bans[low fB s.bans e], 0, .own⟩])
  refine SpecQ.step (c128 w1.fb hlow) ?_
  rintro _ ⟨q, H1, rfl, k1, ch⟩
  have hr := blk_of (ch.blk (by decide) (i := H.length) (b := ⟨.node [.ptr c 0 [8] .cell, .fn 117 []], 0, .own⟩) (by simp) (w.top _ (Nat.le_refl _)))
  have hz1 := ch.blk (by decide) (i := H.length + 2) (b := ⟨eBan s.bans[low fB s.bans e], 0, .own⟩) (by simp) (w.top _ (by omega))
  have hc1 := blk_of (w1.rest ch (by decide)).1
  obtain ⟨w2, fr⟩ := w1.newB ch k1
  obtain ⟨H2, h2⟩ : ∃ G, G = H1.set c ⟨eSt { s with bans := s.bans.take (low fB s.bans e) ++ s.bans.drop (low fB s.bans e + 1) } vt vp vs vi va q, 0, .own⟩ := ⟨_, rfl⟩
  rw [← h2] at w2 fr
  have h2' : H1.set c ⟨eStH s.version s.key s.acc vt vp vs vi va q, 0, .own⟩ = H2 := h2.symm
  have hz2 : H2[H.length + 2]? = some ⟨eBan s.bans[low fB s.bans e], 0, .own⟩ := by rw [h2, List.getElem?_set_ne (by omega)]; exact hz1
  have hz3 := blk_of hz2
  have hz4 := set_self hz2
  have qc := k1.cell
  have ff := aI g0 (aI g1 (aI hr (aI hc1 (aI h2' (aI hz3 (aI hz4 (aI qc (aI wc hp))))))))
  refine runRp8_13 (x := ?_)
  clear ff
  refine ⟨_, κ, H2, q, rfl, fun x hx => ?_, ?_, fr.app⟩
  ·rw [hf] at hx; exact Option.some.inj hx
  ·rw [del_yes hs.b hp]; exact w2
set_option maxHeartbeats 1000000 in
theorem c114 {κ : Nat → Nat} {H : Heap} {c : Nat} {s : Stt} {vt vp vs vi va vb : AV} {x : Ban} (w : Wk κ H c s vt vp vs vi va vb) (hs : Srt s) (hl : s.bans.length < 1000) : SpecQ Tryz.prog 114 [.node [.ptr c 0 [8] .cell, .fn 117 []], eBan x] H fun r =>
  ∃ (v : AV) (κ' : Nat → Nat) (H' : Heap) (q : AV), r = (v, H') ∧ Wk κ' H' c { s with bans := ins fB s.bans x } vt vp vs vi va q ∧ Fr κ H κ' H' := by
 refine q114 fun env g0 g1 => ?_
 have wb := w.blk
 have wc := w.cells
 have wl := w.lt
 have ff := aI g0 (aI g1 (aI wb wc))
 refine runRp8_14 (x := ?_)
 clear ff
 have w1 := w.app (⟨.node [.ptr c 0 [8] .cell, .fn 117 []], 0, .own⟩ :: ⟨eBan x, 0, .own⟩ :: [⟨.node [eBan x], 0, .own⟩])
 refine SpecQ.step (c129 w1.fb (low_le _ _ _) hl (vb := H.length + 2) (e := x) (by simp) (by rw [w.top _ (by omega)]; decide)) ?_
 rintro _ ⟨q, H1, κ', rfl, k1, ch⟩
 have hr := blk_of (ch.blk (by decide) (i := H.length) (b := ⟨.node [.ptr c 0 [8] .cell, .fn 117 []], 0, .own⟩) (by simp) (w.top _ (Nat.le_refl _)))
 have hc1 := blk_of (w1.rest ch (by decide)).1
 obtain ⟨w2, fr⟩ := w1.newB ch k1
 obtain ⟨H2, h2⟩ : ∃ G, G = H1.set c ⟨eSt { s with bans := s.bans.take (low fB s.bans x.who.e) ++ x :: s.bans.drop (low fB s.bans x.who.e) } vt vp vs vi va q, 0, .own⟩ := ⟨_, rfl⟩
 rw [← h2] at w2 fr
 have h2' : H1.set c ⟨eStH s.version s.key s.acc vt vp vs vi va q, 0, .own⟩ = H2 := h2.symm
 have qc := k1.cell
 have ff := aI g0 (aI g1 (aI hr (aI hc1 (aI h2' (aI qc wc)))))
 refine runRp8_15 (x := ?_)
 clear ff
 exact ⟨_, κ', H2, q, rfl, w2, fr.app⟩
end Go.Vab

/- How the code of a function is read. Printed by wip/tools/gen2.py and gen3.py (own work). -/
namespace Go.Vab
open Go Go.Proofs
noncomputable section
def cx98 : Ctx := ⟨fun _ _ _ => none,TT,10,[5,6,7,8,9]⟩
def n98_0 := bodyOf Tryz.f98
def n98_1 := cR n98_0
def n98_2 := cR n98_1
def q98 := zQ2 cx98 98 Tryz.f98 n98_0 fun s => (bnd (some (s.env.get 4)) fun v => bnd (some []) fun vs => some (v :: vs))
set_option maxRecDepth 20000
set_option maxHeartbeats 4000000
def sn98 := zAll cx98 [[n98_2],[n98_2,n98_1],[n98_1,n98_0]]
end
end Go.Vab

/-
  bytes.Equal, walked.
-/
namespace Go.Vab
open Go Go.Proofs
theorem c98 {h : Heap} {x y : AV} {a b : Bs} (hx : BytL h x a) (hy : BytL h y b) : SpecQ Tryz.prog 98 [x, y] h fun r => r = (.bool (decide (a = b)), h) := by
 have sx := hx.str
 have sy := hy.str
 refine SpecQ.drop1 rfl (q98 fun env g0 g1 => ?_)
 repeat' (first | ((with_reducible refine evs_of (a := ?_) ?_ ?_); rotate_left; (focus ((conv => lhs; simp (disch := omega) [g0, g1, sx, sy]); done)); try dsimp only) | (simp (decide := true) only [sn98, sqW_nrm, sqW_exit, sqW_ret, inBlk_nrm, inBlk_ret, inBlk_same, inBlk_exit, if_true, if_false, retW_nrm, retW_ret]))
 exact ⟨[], by simp [oneOrTuple]⟩
end Go.Vab

/- How the code of a function is read. Printed by wip/tools/gen2.py and gen3.py (own work). -/
namespace Go.Vab
open Go Go.Proofs
noncomputable section
def cx109 : Ctx := ⟨fun _ _ _ => none,TT,7,[2,5]⟩
def n109_0 := bodyOf Tryz.f109
def n109_1 := cR n109_0
def n109_2 := cL n109_1
def n109_3 := cR n109_2
def n109_4 := cL n109_3
def n109_5 := cR n109_4
def n109_6 := cR n109_3
def n109_7 := cR n109_1
def n109_8 := cR n109_7
def q109 := zQ2 cx109 109 Tryz.f109 n109_0 fun s => (bnd (some (s.env.get 4)) fun v => bnd (some []) fun vs => some (v :: vs))
set_option maxRecDepth 20000
set_option maxHeartbeats 4000000
def sn109 := zAll cx109 [[n109_5],[n109_5,n109_4],[n109_6],[n109_4,n109_6,n109_3],[n109_3,n109_2],[n109_8],[n109_8,n109_7],[n109_2,n109_7,n109_1],[n109_1,n109_0]]
end
end Go.Vab

/- How the code of a function is read. Printed by wip/tools/gen2.py and gen3.py (own work). -/
namespace Go.Vab
open Go Go.Proofs
noncomputable section
def cx110 : Ctx := ⟨fun _ _ _ => none,TT,7,[2,5]⟩
def n110_0 := bodyOf Tryz.f110
def n110_1 := cR n110_0
def n110_2 := cL n110_1
def n110_3 := cR n110_2
def n110_4 := cL n110_3
def n110_5 := cR n110_4
def n110_6 := cR n110_3
def n110_7 := cR n110_1
def n110_8 := cR n110_7
def q110 := zQ2 cx110 110 Tryz.f110 n110_0 fun s => (bnd (some (s.env.get 4)) fun v => bnd (some []) fun vs => some (v :: vs))
set_option maxRecDepth 20000
set_option maxHeartbeats 4000000
def sn110 := zAll cx110 [[n110_5],[n110_5,n110_4],[n110_6],[n110_4,n110_6,n110_3],[n110_3,n110_2],[n110_8],[n110_8,n110_7],[n110_2,n110_7,n110_1],[n110_1,n110_0]]
end
end Go.Vab

/- How the code of a function is read. Printed by wip/tools/gen2.py and gen3.py (own work). -/
namespace Go.Vab
open Go Go.Proofs
noncomputable section
def cx111 : Ctx := ⟨fun _ _ _ => none,TT,7,[2,5]⟩
def n111_0 := bodyOf Tryz.f111
def n111_1 := cR n111_0
def n111_2 := cL n111_1
def n111_3 := cR n111_2
def n111_4 := cL n111_3
def n111_5 := cR n111_4
def n111_6 := cR n111_3
def n111_7 := cR n111_1
def n111_8 := cR n111_7
def q111 := zQ2 cx111 111 Tryz.f111 n111_0 fun s => (bnd (some (s.env.get 4)) fun v => bnd (some []) fun vs => some (v :: vs))
set_option maxRecDepth 20000
set_option maxHeartbeats 4000000
def sn111 := zAll cx111 [[n111_5],[n111_5,n111_4],[n111_6],[n111_4,n111_6,n111_3],[n111_3,n111_2],[n111_8],[n111_8,n111_7],[n111_2,n111_7,n111_1],[n111_1,n111_0]]
end
end Go.Vab

/- How the code of a function is read. Printed by wip/tools/gen2.py and gen3.py (own work). -/
namespace Go.Vab
open Go Go.Proofs
noncomputable section
def cx73 : Ctx := ⟨fun _ _ _ => none,TT,29,[4,5,6,7,8,9,10,11,12,13,14,15,16,17,18,19,20,21,22,23,24,25,26,27,28]⟩
def n73_0 := bodyOf Tryz.f73
def n73_1 := cR n73_0
def n73_2 := cR n73_1
def n73_3 := cR n73_2
def q73 := zQ1 cx73 73 Tryz.f73 n73_0 fun s => (bnd (mLoad tCipher (s.env.get 2) s.heap) fun v => bnd (some []) fun vs => some (v :: vs))
set_option maxRecDepth 20000
set_option maxHeartbeats 4000000
def n73_1_w := zDr cx73 [n73_2,n73_1] [] [0,1,3,7,15,0,32,96,224,511,1023,2047,2047,4095,16383] [0,1,2,3,4,5,6,7,8,9,10,11,12,13,14] .f
def sn73 := zAll cx73 [[n73_3],[n73_3,n73_2],[n73_1,n73_0]]
end
end Go.Vab

/- How the code of a function is read. Printed by wip/tools/gen2.py and gen3.py (own work). -/
namespace Go.Vab
open Go Go.Proofs
noncomputable section
def cx79 : Ctx := ⟨fun _ _ _ => none,TT,26,[6,7,8,9,10,11,16,17,18,19,21,22,23,24,25]⟩
def n79_0 := bodyOf Tryz.f79
def n79_1 := cR n79_0
def n79_2 := cR n79_1
def n79_3 := cL n79_2
def n79_4 := cR n79_3
def n79_5 := cB n79_4
def n79_6 := cB n79_5
def n79_7 := cR n79_6
def n79_8 := cL n79_7
def n79_9 := cL n79_8
def n79_10 := cR n79_8
def n79_11 := cR n79_7
def n79_12 := cL n79_11
def n79_13 := cB n79_12
def n79_14 := cR n79_13
def n79_15 := cR n79_14
def n79_16 := cL n79_15
def n79_17 := cR n79_15
def n79_18 := cR n79_11
def n79_19 := cR n79_2
def n79_20 := cR n79_19
def q79 := zQ1 cx79 79 Tryz.f79 n79_0 fun s => (bnd (some (s.env.get 2)) fun v => bnd (some []) fun vs => some (v :: vs))
set_option maxRecDepth 20000
set_option maxHeartbeats 4000000
def sn79 := zAll cx79 [[n79_9],[n79_10],[n79_9,n79_10,n79_8],[n79_16],[n79_17],[n79_16,n79_17,n79_15],[n79_15,n79_14],[n79_14,n79_13],[n79_13,n79_12],[n79_18],[n79_12,n79_18,n79_11],[n79_8,n79_11,n79_7],[n79_7,n79_6],[n79_6,n79_5],[n79_5,n79_4],[n79_4,n79_3],[n79_20],[n79_20,n79_19],[n79_3,n79_19,n79_2],[n79_2,n79_1],[n79_1,n79_0]]
end
end Go.Vab

/- How the code of a function is read. Printed by wip/tools/gen2.py and gen3.py (own work). -/
namespace Go.Vab
open Go Go.Proofs
noncomputable section
def cx70 : Ctx := ⟨fun _ _ _ => none,TT,21,[7,8,9,10,11,12,13,14,15,16,17,18,19,20]⟩
def n70_0 := bodyOf Tryz.f70
def n70_1 := cR n70_0
def n70_2 := cR n70_1
def n70_3 := cR n70_2
def q70 := zQ3 cx70 70 Tryz.f70 n70_0 fun s => (bnd (some (s.env.get 6)) fun v => bnd (some []) fun vs => some (v :: vs))
set_option maxRecDepth 20000
set_option maxHeartbeats 4000000
def n70_1_w := zDr cx70 [n70_2,n70_1] [13] [0,1,3,7,15,0,0,0,128,384,896,1920,4064,8191] [0,1,2,3,4,5,6,7,8,9,10,11,12] (.o 13 [] [] .f)
def sn70 := zAll cx70 [[n70_3],[n70_3,n70_2],[n70_1,n70_0]]
end
end Go.Vab

/- How the code of a function is read. Printed by wip/tools/gen2.py and gen3.py (own work). -/
namespace Go.Vab
open Go Go.Proofs
noncomputable section
def cx66 : Ctx := ⟨fun _ _ _ => none,TT,97,[10,11,12,13,14,15,17,18,19,20,21,22,23,25,26,27,28,29,30,31,32,33,34,35,36,37,38,39,40,41,42,43,44,45,46,47,48,49,50,51,53,54,55,56,57,58,59,60,61,62,63,64,65,66,68,69,70,71,72,73,74,75,76,77,78,79,80,81,82,83,84,85,86,87,88,89,90,91,92,93,94,95,96]⟩
def n66_0 := bodyOf Tryz.f66
def n66_1 := cR n66_0
def n66_2 := cR n66_1
def n66_3 := cL n66_2
def n66_4 := cB n66_3
def n66_5 := cR n66_4
def n66_6 := cL n66_5
def n66_7 := cR n66_6
def n66_8 := cR n66_5
def n66_9 := cL n66_8
def n66_10 := cR n66_9
def n66_11 := cL n66_10
def n66_12 := cR n66_10
def n66_13 := cR n66_12
def n66_14 := cL n66_13
def n66_15 := cR n66_13
def n66_16 := cR n66_8
def n66_17 := cL n66_16
def n66_18 := cR n66_17
def n66_19 := cR n66_16
def n66_20 := cR n66_19
def n66_21 := cL n66_20
def n66_22 := cR n66_21
def n66_23 := cR n66_20
def n66_24 := cR n66_23
def n66_25 := cL n66_24
def n66_26 := cR n66_25
def n66_27 := cR n66_24
def n66_28 := cR n66_2
def n66_29 := cR n66_28
def q66 := zQ4 cx66 66 Tryz.f66 n66_0 fun s => (bnd (some (s.env.get 8)) fun v => bnd (some []) fun vs => some (v :: vs))
set_option maxRecDepth 20000
set_option maxHeartbeats 4000000
def n66_15_w := zDr cx66 [n66_15] [] [0,1,3,7,15,31,63,3,255,511,1023] [0,1,2,3,4,5,6,7,8,9,10] .f
def n66_12_w := zDr cx66 [n66_13,n66_12] [] [0,1,3,7,15,31,63,3,255,511,1023] [0,1,2,3,4,5,6,7,8,9,10] .f
def n66_9_w := zDr cx66 [n66_10,n66_9] [] [0,1,3,7,15,0,63,127] [0,1,2,3,4,5,6,7] .f
def n66_23_w := zDr cx66 [n66_24,n66_23] [] [0,1,3,7,15,31,63,127,255,511,1023,2047,4095,8191,16383,32767,65535,131071,262143,524287,8191,1056767,3153919,7348223,15736831,33554431,67108863,134217727,268435455,536870911] [0,1,2,3,4,5,6,7,8,9,10,11,12,13,14,15,16,17,18,19,20,21,22,23,24,25,26,27,28,29] .f
def n66_4_w := zDr cx66 [n66_5,n66_4] [] [0,1,3,7,15,0,63,127] [0,1,2,3,4,5,6,7] .f
def sn66 := zAll cx66 [[n66_7],[n66_7,n66_6],[n66_11],[n66_14],[n66_14,n66_15,n66_13],[n66_11,n66_12,n66_10],[n66_18],[n66_18,n66_17],[n66_22],[n66_22,n66_21],[n66_26],[n66_26,n66_25],[n66_27],[n66_25,n66_27,n66_24],[n66_21,n66_23,n66_20],[n66_20,n66_19],[n66_17,n66_19,n66_16],[n66_9,n66_16,n66_8],[n66_6,n66_8,n66_5],[n66_4,n66_3],[n66_29],[n66_29,n66_28],[n66_3,n66_28,n66_2],[n66_2,n66_1],[n66_1,n66_0]]
end
end Go.Vab

/-
  The parts of a step: who asks, whether there is but one admin, a seat, a newcomer; walked.
-/
namespace Go.Vab
open Go Go.Proofs
theorem runRp9_0 {G X : Prop} (f : Hd X → G := by
 intro xX
 repeat' (first | refine stp (x := ?_) | (simp (decide := true) only [sn109, snB, if_true, if_false]))
 exact xX.get) (x : X) : G := f ⟨x⟩
theorem runRp9_1 {G X : Prop} (f : Hd X → G := by
 intro xX
 repeat' (first | refine stp (x := ?_) | (simp (decide := true) only [sn110, snB, if_true, if_false]))
 exact xX.get) (x : X) : G := f ⟨x⟩
theorem runRp9_2 {G X : Prop} (f : Hd X → G := by
 intro xX
 repeat' (first | refine stp (x := ?_) | (simp (decide := true) only [sn111, snB, if_true, if_false]))
 exact xX.get) (x : X) : G := f ⟨x⟩
theorem runRp9_3 {G X : Prop} (f : Hd X → G := by
 intro xX
 repeat' (first | refine stp (x := ?_) | (with_reducible refine ValW_i (c63 (x.lt _)) ?_; try dsimp only) | (with_reducible refine SpecQ.step (c63 (x.lt _)) ?_; rintro _ rfl; try dsimp only) | (with_reducible refine ValW_i (c78 (x.w.app _) hs) ?_; try dsimp only) | (with_reducible refine SpecQ.step (c78 (x.w.app _) hs) ?_; rintro _ rfl; try dsimp only) | (simp (decide := true) only [sn73, snB, if_true, if_false]) | (with_reducible refine n73_1_w _ _ _ ?_))
 exact xX.get) (x : X) : G := f ⟨x⟩
theorem runRp9_4 {G X : Prop} (f : Hd X → G := by
 intro xX
 repeat' (first | refine stp (x := ?_) | (simp (decide := true) only [sn79, snB, if_true, if_false]))
 exact xX.get) (x : X) : G := f ⟨x⟩
theorem runRp9_5 {G X : Prop} (f : Hd X → G := by
 intro xX
 repeat' (first | refine stp (x := ?_) | (with_reducible refine ValW_i (c63 (x.lt _)) ?_; try dsimp only) | (with_reducible refine SpecQ.step (c63 (x.lt _)) ?_; rintro _ rfl; try dsimp only) | (simp (decide := true) only [sn70, snB, if_true, if_false]) | (with_reducible refine n70_1_w _ _ _ ?_))
 exact xX.get) (x : X) : G := f ⟨x⟩
theorem runRp9_6 {G X : Prop} (f : Hd X → G := by
 intro xX
 repeat' (first | refine stp (x := ?_) | (simp (decide := true) only [sn70, snB, if_true, if_false]) | (with_reducible refine n70_1_w _ _ _ ?_))
 exact xX.get) (x : X) : G := f ⟨x⟩
theorem runRp9_7 {G X : Prop} (f : Hd X → G := by
 intro xX
 repeat' (first | refine stp (x := ?_) | (with_reducible refine ValW_i (c94 (x.lt _)) ?_; try dsimp only) | (with_reducible refine SpecQ.step (c94 (x.lt _)) ?_; rintro _ rfl; try dsimp only) | (with_reducible refine ValW_i (c95 (x.w.app _) hs) ?_; try dsimp only) | (with_reducible refine SpecQ.step (c95 (x.w.app _) hs) ?_; rintro _ rfl; try dsimp only) | (simp (decide := true) only [sn66, snB, if_true, if_false]) | (with_reducible refine n66_15_w _ _ _ ?_) | (with_reducible refine n66_12_w _ _ _ ?_) | (with_reducible refine n66_9_w _ _ _ ?_) | (with_reducible refine n66_23_w _ _ _ ?_) | (with_reducible refine n66_4_w _ _ _ ?_))
 exact xX.get) (x : X) : G := f ⟨x⟩
theorem runRp9_8 {G X : Prop} (f : Hd X → G := by
 intro xX
 repeat' (first | refine stp (x := ?_) | (with_reducible refine ValW_i (c94 (x.lt _)) ?_; try dsimp only) | (with_reducible refine SpecQ.step (c94 (x.lt _)) ?_; rintro _ rfl; try dsimp only) | (with_reducible refine ValW_i (c95 (x.w.app _) hs) ?_; try dsimp only) | (with_reducible refine SpecQ.step (c95 (x.w.app _) hs) ?_; rintro _ rfl; try dsimp only) | (with_reducible refine ValW_i (c63 (x.lt _)) ?_; try dsimp only) | (with_reducible refine SpecQ.step (c63 (x.lt _)) ?_; rintro _ rfl; try dsimp only) | (with_reducible refine ValW_i (c76 (x.w.app _) hs) ?_; try dsimp only) | (with_reducible refine SpecQ.step (c76 (x.w.app _) hs) ?_; rintro _ rfl; try dsimp only) | (simp (decide := true) only [sn66, snB, if_true, if_false]) | (with_reducible refine n66_15_w _ _ _ ?_) | (with_reducible refine n66_12_w _ _ _ ?_) | (with_reducible refine n66_9_w _ _ _ ?_) | (with_reducible refine n66_23_w _ _ _ ?_) | (with_reducible refine n66_4_w _ _ _ ?_))
 exact xX.get) (x : X) : G := f ⟨x⟩
theorem runRp9_9 {G X : Prop} (f : Hd X → G := by
 intro xX
 repeat' (first | refine stp (x := ?_) | (with_reducible refine ValW_i (c94 (x.lt _)) ?_; try dsimp only) | (with_reducible refine SpecQ.step (c94 (x.lt _)) ?_; rintro _ rfl; try dsimp only) | (with_reducible refine ValW_i (c95 (x.w.app _) hs) ?_; try dsimp only) | (with_reducible refine SpecQ.step (c95 (x.w.app _) hs) ?_; rintro _ rfl; try dsimp only) | (with_reducible refine ValW_i (c63 (x.lt _)) ?_; try dsimp only) | (with_reducible refine SpecQ.step (c63 (x.lt _)) ?_; rintro _ rfl; try dsimp only) | (with_reducible refine ValW_i (c76 (x.w.app _) hs) ?_; try dsimp only) | (with_reducible refine SpecQ.step (c76 (x.w.app _) hs) ?_; rintro _ rfl; try dsimp only) | (with_reducible refine ValW_i (c64 (x.lt _)) ?_; try dsimp only) | (with_reducible refine SpecQ.step (c64 (x.lt _)) ?_; rintro _ rfl; try dsimp only) | (with_reducible refine ValW_i (c96 (x.w.app _) hs) ?_; try dsimp only) | (with_reducible refine SpecQ.step (c96 (x.w.app _) hs) ?_; rintro _ rfl; try dsimp only) | (with_reducible refine ValW_i (c65 (x.lt _)) ?_; try dsimp only) | (with_reducible refine SpecQ.step (c65 (x.lt _)) ?_; rintro _ rfl; try dsimp only) | (with_reducible refine ValW_i (c97 (x.w.app _) hs) ?_; try dsimp only) | (with_reducible refine SpecQ.step (c97 (x.w.app _) hs) ?_; rintro _ rfl; try dsimp only) | (simp (decide := true) only [sn66, snB, if_true, if_false]) | (with_reducible refine n66_15_w _ _ _ ?_) | (with_reducible refine n66_12_w _ _ _ ?_) | (with_reducible refine n66_9_w _ _ _ ?_) | (with_reducible refine n66_23_w _ _ _ ?_) | (with_reducible refine n66_4_w _ _ _ ?_))
 exact xX.get) (x : X) : G := f ⟨x⟩
theorem runRp9_10 {G X : Prop} (f : Hd X → G := by
 intro xX
 repeat' (first | refine stp (x := ?_) | (simp (decide := true) only [sn66, snB, if_true, if_false]) | (with_reducible refine n66_15_w _ _ _ ?_) | (with_reducible refine n66_12_w _ _ _ ?_) | (with_reducible refine n66_9_w _ _ _ ?_) | (with_reducible refine n66_23_w _ _ _ ?_) | (with_reducible refine n66_4_w _ _ _ ?_))
 exact xX.get) (x : X) : G := f ⟨x⟩
theorem runRp9_11 {G X : Prop} (f : Hd X → G := by
 intro xX
 repeat' (first | refine stp (x := ?_) | (with_reducible refine ValW_i (c98 (x.w.app _).fp.b (x.app _).ra.p) ?_; try dsimp only) | (with_reducible refine SpecQ.step (c98 (x.w.app _).fp.b (x.app _).ra.p) ?_; rintro _ rfl; try dsimp only) | (simp (decide := true) only [sn66, snB, if_true, if_false]) | (with_reducible refine n66_15_w _ _ _ ?_) | (with_reducible refine n66_12_w _ _ _ ?_) | (with_reducible refine n66_9_w _ _ _ ?_) | (with_reducible refine n66_23_w _ _ _ ?_) | (with_reducible refine n66_4_w _ _ _ ?_))
 exact xX.get) (x : X) : G := f ⟨x⟩
theorem c109 {h : Heap} {y : Inv} {ok : Bool} : SpecQ Tryz.prog 109 [eInv y, .bool ok] h fun r => r = (nat (if ok = true then 0 else 7), h) := by
 refine SpecQ.drop1 rfl (q109 fun env g0 g1 => ?_)
 cases ok
 ·have ff := aI g0 g1
  refine runRp9_0 (x := ?_)
  clear ff
  exact ⟨_, rfl⟩
 ·have ff := aI g0 g1
  refine runRp9_0 (x := ?_)
  clear ff
  exact ⟨_, rfl⟩
theorem c110 {h : Heap} {y : Ask} {ok : Bool} : SpecQ Tryz.prog 110 [eAsk y, .bool ok] h fun r => r = (nat (if ok = true then 0 else 7), h) := by
 refine SpecQ.drop1 rfl (q110 fun env g0 g1 => ?_)
 cases ok
 ·have ff := aI g0 g1
  refine runRp9_1 (x := ?_)
  clear ff
  exact ⟨_, rfl⟩
 ·have ff := aI g0 g1
  refine runRp9_1 (x := ?_)
  clear ff
  exact ⟨_, rfl⟩
theorem c111 {h : Heap} {y : Ban} {ok : Bool} : SpecQ Tryz.prog 111 [eBan y, .bool ok] h fun r => r = (nat (if ok = true then 0 else 7), h) := by
 refine SpecQ.drop1 rfl (q111 fun env g0 g1 => ?_)
 cases ok
 ·have ff := aI g0 g1
  refine runRp9_2 (x := ?_)
  clear ff
  exact ⟨_, rfl⟩
 ·have ff := aI g0 g1
  refine runRp9_2 (x := ?_)
  clear ff
  exact ⟨_, rfl⟩
section
variable {κ : Nat → Nat} {H : Heap} {c xb : Nat} {s : Stt} {b : Pt} {a : Actn} {m : BitVec 8} {vt vp vs vi va vb wt wp : AV}
theorem c73 (x : Sx κ H c xb s b a m vt vp vs vi va vb wt wp) (hs : Srt s) (hp : hasP fS s.seats b = true) : SpecQ Tryz.prog 73 [.ptr xb 0 [] tLstep] H fun r => r = (eCi (meOf s b), H) := by
 refine SpecQ.drop1 rfl (q73 fun env g0 => ?_)
 have sx := x.blk
 have wb := x.w.blk
 have sx0 := blk_of x.st
 have wb0 := blk_of x.w.cell
 obtain ⟨hlow, he, hf⟩ := low_yes hs.s hp
 obtain ⟨pb, pv, pp, bb, p1, p2, p3, p4⟩ := x.w.ws.idxE hlow
 have ff := aI g0 (aI sx (aI wb (aI sx0 (aI wb0 (aI p1 (aI p2 (aI p3 p4)))))))
 refine runRp9_3 (x := ?_)
 clear ff
 exact ⟨_, by simp only [meOf, hf]; rfl⟩
theorem c79 (x : Sx κ H c xb s b a m vt vp vs vi va vb wt wp) : SpecQ Tryz.prog 79 [.ptr xb 0 [] tLstep] H fun r => r = (.bool (decide (admins s = 1)), H) := by
 have sx := x.blk
 have wb := x.w.blk
 have sx0 := blk_of x.st
 have wb0 := blk_of x.w.cell
 have lx := x.w.fs.len
 have bx := x.w.fs.le
 refine SpecQ.drop1 rfl (q79 fun env g0 => ?_)
 have ff := aI g0 (aI sx (aI wb (aI sx0 (aI wb0 lx))))
 refine runRp9_4 (x := ?_)
 clear ff
 refine loop_up s.seats.length (fun i st => ∃ env' t, st = ⟨env', H ++ t⟩ ∧ env'.get 3 = nat ((s.seats.take i).countP fun x => decide (x.role = 2#8)) ∧ env'.get 12 = vs ∧ env'.get 13 = nat s.seats.length ∧ env'.get 14 = nat i) ?_ ?_ ⟨_, [], by simp only [List.append_nil]; rfl, by simp, by simp, by simp, by simp⟩
 ·rintro i st hi ⟨env', t, rfl, e3, e12, e13, e14⟩
  obtain ⟨pb, pv, pp, bb, p1, p2, p3, p4⟩ := x.w.ws.idxE hi
  have hc : (s.seats.take (i + 1)).countP (fun x => decide (x.role = 2#8)) = (s.seats.take i).countP (fun x => decide (x.role = 2#8)) + if s.seats[i].role = 2#8 then 1 else 0 := by
   rw [List.take_add_one, List.getElem?_eq_getElem hi, List.countP_append]
   simp [List.countP_cons]
  have hle : (s.seats.take i).countP (fun x => decide (x.role = 2#8)) ≤ s.seats.length := Nat.le_trans List.countP_le_length (by simp; omega)
  generalize (s.seats.take i).countP (fun x => decide (x.role = 2#8)) = n at *
  have hl : (H ++ t).length = H.length + t.length := List.length_append
  by_cases hq : s.seats[i].role = 2#8
  ·have ff := aI e3 (aI e12 (aI e13 (aI e14 (aI hi (aI p1 (aI p2 (aI p3 (aI p4 hq))))))))
   refine runRp9_4 (x := ?_)
   clear ff
   exact .inl ⟨by simp, _, _, rfl, by simp [hc, hq], by simp [e12], by simp [e13], by simp⟩
  ·have ff := aI e3 (aI e12 (aI e13 (aI e14 (aI hi (aI p1 (aI p2 (aI p3 (aI p4 hq))))))))
   refine runRp9_4 (x := ?_)
   clear ff
   exact .inl ⟨by simp, _, _, rfl, by simp [hc, hq, e3], by simp [e12], by simp [e13], by simp⟩
 ·rintro st ⟨env', t, rfl, e3, e12, e13, e14⟩
  rw [List.take_length] at e3
  have ff := aI e3 (aI e13 e14)
  refine runRp9_4 (x := ?_)
  clear ff
  refine ⟨by simp, ?_⟩
  have ff := aI e3 (aI e13 e14)
  refine runRp9_4 (x := ?_)
  clear ff
  exact ⟨_, rfl⟩
theorem c70 (x : Sx κ H c xb s b a m vt vp vs vi va vb wt wp) (hs : Srt s) (hl : s.seats.length < 1000) {w : Ci} {r : BitVec 8} : SpecQ Tryz.prog 70 [.ptr xb 0 [] tLstep, eCi w, u8 r] H fun q =>
  ∃ (κ' : Nat → Nat) (H' : Heap) (us : AV), q = (nat 0, H') ∧ Wk κ' H' c { s with seats := ins fS s.seats ⟨w, r, a.version⟩ } vt vp us vi va vb ∧ Fr κ H κ' H' := by
 refine q70 fun env g0 g1 g2 => ?_
 have sx := x.blk
 have wb := x.w.blk
 have sx0 := blk_of x.st
 have wb0 := blk_of x.w.cell
 have ff := aI g0 (aI g1 (aI g2 (aI sx (aI wb (aI sx0 wb0)))))
 refine runRp9_5 (x := ?_)
 clear ff
 refine SpecQ.step (c103 (x := ⟨w, r, a.version⟩) (x.w.app _) hs hl) ?_
 rintro _ ⟨v, κ', H', q, rfl, w2, fr⟩
 have ff := aI g0 (aI g1 g2)
 refine runRp9_6 (x := ?_)
 clear ff
 exact ⟨κ', H', q, rfl, w2, fr.app⟩
set_option maxHeartbeats 2000000 in
theorem c66 (x : Sx κ H c xb s b a m vt vp vs vi va vb wt wp) (hs : Srt s) {link : BitVec 8} {iv ak : Bool} : SpecQ Tryz.prog 66 [.ptr xb 0 [] tLstep, u8 link, .bool iv, .bool ak] H fun r => r = (nat (newWhy s a link iv ak), H) := by
 refine SpecQ.drop1 rfl (q66 fun env g0 g1 g2 g3 => ?_)
 have sx := x.blk
 have wb := x.w.blk
 have sx0 := blk_of x.st
 have wb0 := blk_of x.w.cell
 have lp := x.w.fp.len
 cases h1 : hasP fB s.bans a.who.e
 rotate_left
 ·have ff := aI g0 (aI g1 (aI g2 (aI g3 (aI sx (aI wb (aI sx0 (aI wb0 h1)))))))
  refine runRp9_7 (x := ?_)
  clear ff
  exact ⟨_, by simp only [newWhy, h1, if_true]; rfl⟩
 cases h2 : hasP fS s.seats a.who.e
 rotate_left
 ·have ff := aI g0 (aI g1 (aI g2 (aI g3 (aI sx (aI wb (aI sx0 (aI wb0 (aI h1 h2))))))))
  refine runRp9_8 (x := ?_)
  clear ff
  exact ⟨_, by simp only [newWhy, h1, h2, if_true]; rfl⟩
 cases iv
 all_goals cases ak
 all_goals cases h3 : hasP fI s.invites a.who.e
 all_goals cases h4 : hasP fA s.asks a.who.e
 all_goals
  have ff := aI g0 (aI g1 (aI g2 (aI g3 (aI sx (aI wb (aI sx0 (aI wb0 (aI h1 (aI h2 (aI h3 h4))))))))))
  refine runRp9_9 (x := ?_)
  clear ff
 all_goals first | exact ⟨_, by simp only [newWhy, h1, h2, h3, h4, Bool.and_true, Bool.true_and, if_true]; rfl⟩ | skip
 all_goals by_cases h5 : link = 0#8
 all_goals
  have ff := aI g0 (aI g1 (aI g2 (aI g3 (aI sx (aI wb (aI sx0 (aI wb0 (aI h1 (aI h2 (aI h3 (aI h4 h5)))))))))))
  refine runRp9_10 (x := ?_)
  clear ff
 all_goals first | exact ⟨_, by simp only [newWhy, h1, h2, h3, h4, h5, Bool.and_true, Bool.true_and, if_true]; rfl⟩ | skip
 all_goals by_cases h6 : s.acc.link = link
 all_goals
  have ff := aI g0 (aI g1 (aI g2 (aI g3 (aI sx (aI wb (aI h1 (aI h2 (aI h3 (aI h4 (aI h5 h6))))))))))
  refine runRp9_10 (x := ?_)
  clear ff
 all_goals first | exact ⟨_, by simp only [newWhy, h1, h2, h3, h4, h5, h6, Bool.and_true, Bool.true_and, Bool.and_false, Bool.false_and, Bool.false_eq_true, if_true, if_false, ne_eq, not_true_eq_false, not_false_eq_true]; rfl⟩ | skip
 all_goals by_cases h7 : s.pass.length = 0
 all_goals
  have ff := aI g0 (aI g1 (aI g2 (aI g3 (aI sx (aI wb (aI h1 (aI h2 (aI h3 (aI h4 (aI h5 (aI h6 (aI h7 lp))))))))))))
  refine runRp9_11 (x := ?_)
  clear ff
 all_goals first | exact ⟨_, by simp only [newWhy, h1, h2, h3, h4, h5, h6, passOk, h7, Bool.and_true, Bool.true_and, Bool.and_false, Bool.false_and, Bool.false_eq_true, if_true, if_false, ne_eq, not_true_eq_false, not_false_eq_true, Nat.lt_irrefl, decide_false]; rfl⟩ | skip
 all_goals have hpk : passOk s a = decide (s.pass = a.pass) := by have : 0 < s.pass.length := by omega
                                                                  simp [passOk, this]
 all_goals by_cases h8 : s.pass = a.pass
 all_goals
  have ff := aI g0 (aI g1 (aI g2 (aI g3 (aI sx (aI wb (aI h1 (aI h2 (aI h3 (aI h4 (aI h5 (aI h6 (aI h7 h8))))))))))))
  refine runRp9_10 (x := ?_)
  clear ff
 all_goals exact ⟨_, by simp only [newWhy, h1, h2, h3, h4, h5, h6, hpk, h8, eq_self, Bool.and_true, Bool.true_and, Bool.and_false, Bool.false_and, Bool.false_eq_true, Bool.true_eq_false, if_true, if_false, ne_eq, not_true_eq_false, not_false_eq_true, decide_true, decide_false]; rfl⟩
end
end Go.Vab

/- How the code of a function is read. Printed by wip/tools/gen2.py and gen3.py (own work). -/
namespace Go.Vab
open Go Go.Proofs
noncomputable section
def cx33 : Ctx := ⟨fun _ _ _ => none,TT,209,[15,16,17,18,19,20,21,22,23,24,25,26,27,28,29,30,31,32,33,34,35,36,37,38,39,40,41,42,43,44,46,47,49,50,51,52,53,54,55,56,57,58,59,60,62,63,64,65,67,68,70,71,72,73,74,75,76,77,78,79,80,81,82,83,85,86,87,88,90,91,93,94,95,96,97,98,99,100,101,102,103,104,105,106,107,108,109,110,112,113,114,115,117,118,120,121,122,123,124,125,126,127,128,129,130,131,132,134,135,136,137,139,140,141,142,143,145,146,147,149,150,151,152,153,154,155,157,158,160,161,162,163,164,165,166,167,168,169,170,171,172,173,174,175,176,178,179,180,181,182,183,184,185,186,187,188,189,190,191,192,193,194,195,196,197,198,199,200,201,202,203,204,205,206,207,208]⟩
def n33_0 := bodyOf Tryz.f33
def n33_1 := cR n33_0
def n33_2 := cR n33_1
def n33_3 := cR n33_2
def n33_4 := cL n33_3
def n33_5 := cR n33_4
def n33_6 := cB n33_5
def n33_7 := cL n33_6
def n33_8 := cR n33_7
def n33_9 := cL n33_8
def n33_10 := cR n33_8
def n33_11 := cR n33_6
def n33_12 := cL n33_11
def n33_13 := cR n33_12
def n33_14 := cL n33_13
def n33_15 := cR n33_14
def n33_16 := cL n33_15
def n33_17 := cR n33_15
def n33_18 := cR n33_13
def n33_19 := cL n33_18
def n33_20 := cR n33_19
def n33_21 := cR n33_20
def n33_22 := cL n33_21
def n33_23 := cR n33_22
def n33_24 := cR n33_21
def n33_25 := cR n33_18
def n33_26 := cL n33_25
def n33_27 := cR n33_26
def n33_28 := cL n33_27
def n33_29 := cR n33_28
def n33_30 := cR n33_27
def n33_31 := cR n33_25
def n33_32 := cR n33_31
def n33_33 := cR n33_32
def n33_34 := cR n33_33
def n33_35 := cR n33_11
def n33_36 := cR n33_35
def n33_37 := cL n33_36
def n33_38 := cL n33_37
def n33_39 := cR n33_38
def n33_40 := cR n33_39
def n33_41 := cL n33_40
def n33_42 := cR n33_41
def n33_43 := cR n33_40
def n33_44 := cR n33_37
def n33_45 := cL n33_44
def n33_46 := cR n33_45
def n33_47 := cL n33_46
def n33_48 := cR n33_47
def n33_49 := cR n33_46
def n33_50 := cR n33_44
def n33_51 := cR n33_50
def n33_52 := cR n33_36
def n33_53 := cR n33_52
def n33_54 := cL n33_53
def n33_55 := cL n33_54
def n33_56 := cR n33_55
def n33_57 := cR n33_56
def n33_58 := cL n33_57
def n33_59 := cR n33_58
def n33_60 := cR n33_57
def n33_61 := cR n33_54
def n33_62 := cL n33_61
def n33_63 := cR n33_62
def n33_64 := cL n33_63
def n33_65 := cR n33_64
def n33_66 := cR n33_63
def n33_67 := cR n33_61
def n33_68 := cR n33_53
def n33_69 := cR n33_68
def n33_70 := cL n33_69
def n33_71 := cL n33_70
def n33_72 := cR n33_71
def n33_73 := cL n33_72
def n33_74 := cR n33_73
def n33_75 := cR n33_72
def n33_76 := cR n33_70
def n33_77 := cL n33_76
def n33_78 := cR n33_77
def n33_79 := cL n33_78
def n33_80 := cR n33_79
def n33_81 := cR n33_78
def n33_82 := cR n33_76
def n33_83 := cR n33_69
def n33_84 := cR n33_83
def n33_85 := cL n33_84
def n33_86 := cR n33_85
def n33_87 := cL n33_86
def n33_88 := cB n33_87
def n33_89 := cR n33_88
def n33_90 := cL n33_89
def n33_91 := cR n33_90
def n33_92 := cR n33_89
def n33_93 := cR n33_92
def n33_94 := cL n33_93
def n33_95 := cR n33_94
def n33_96 := cR n33_93
def n33_97 := cR n33_96
def n33_98 := cL n33_97
def n33_99 := cR n33_98
def n33_100 := cR n33_97
def n33_101 := cR n33_86
def n33_102 := cR n33_84
def n33_103 := cR n33_102
def n33_104 := cR n33_3
def n33_105 := cR n33_104
def q33 := zQ1 cx33 33 Tryz.f33 n33_0 fun s => (bnd (some (s.env.get 2)) fun v => bnd (some []) fun vs => some (v :: vs))
set_option maxRecDepth 20000
set_option maxHeartbeats 4000000
def n33_0_eq := zAll cx33 [[n33_1, n33_0]]
def n33_12_w := zDr cx33 [n33_13,n33_12] [] [0,1,3,7,15,0,63] [0,1,2,3,4,5,6] .f
def n33_51_w := zDr cx33 [n33_51] [14] [0,0,2,6,14,30,0,64,192,448,960,0,2048,8190,16383] [0,1,2,3,4,5,6,7,8,9,10,11,12,13] (.o 14 [] [] .f)
def n33_67_w := zDr cx33 [n33_67] [12] [0,0,2,6,14,30,0,64,192,448,960,2046,4095] [0,1,2,3,4,5,6,7,8,9,10,11] (.o 12 [] [] .f)
def n33_77_w := zDr cx33 [n33_78,n33_77] [] [0,0,2,6,14,31] [0,1,2,3,4,5] .f
def n33_92_w := zDr cx33 [n33_93,n33_92] [] [0,1,3,7,15,31,63,0,255,511,1023,0,2048,6144,14336,30720,65535,131071] [0,1,2,3,4,5,6,7,8,9,10,11,12,13,14,15,16,17] .f
def n33_101_w := zDr cx33 [n33_101] [15] [0,1,3,7,15,31,63,0,0,256,768,1792,3840,8191,16383,32767] [0,1,2,3,4,5,6,7,8,9,10,11,12,13,14] (.o 15 [] [] .f)
def n33_2_w := zDr cx33 [n33_3,n33_2] [11,12,13,14] [0,1,3,7,15,31,0,64,192,448,960,0,0,6207,16383] [0,1,2,3,4,5,6,7,8,9,10] (.b 11 [] [5,10] (.o 12 [] [5,10] (.o 13 [] [10] (.o 14 [] [] .f))) (.o 12 [] [5,10] (.o 11 [] [5,10] (.o 13 [] [10] (.o 14 [] [] .f)))))
def n33_1_w := zDr cx33 [n33_2,n33_1] [15,16,17,18,19,20] [0,1,3,7,15,0,32,96,224,511,0,1024,3072,7168,16383,0,0,0,262143,524287,1048575] [0,1,2,3,4,5,6,7,8,9,10,11,12,13,14] (.b 15 [] [3,4,8,9,13,14] (.b 16 [] [3,4,8,9,13,14] (.o 17 [] [3,4,8,9,13,14] (.o 18 [] [] (.o 19 [] [] (.o 20 [] [] .f)))) (.o 17 [] [3,4,8,9,13,14] (.o 16 [] [3,4,8,9,13,14] (.o 18 [] [] (.o 19 [] [] (.o 20 [] [] .f)))))) (.b 16 [] [3,4,8,9,13,14] (.b 15 [] [3,4,8,9,13,14] (.o 17 [] [3,4,8,9,13,14] (.o 18 [] [] (.o 19 [] [] (.o 20 [] [] .f)))) (.o 17 [] [3,4,8,9,13,14] (.o 15 [] [3,4,8,9,13,14] (.o 18 [] [] (.o 19 [] [] (.o 20 [] [] .f)))))) (.o 17 [] [3,4,8,9,13,14] (.b 15 [] [3,4,8,9,13,14] (.o 16 [] [3,4,8,9,13,14] (.o 18 [] [] (.o 19 [] [] (.o 20 [] [] .f)))) (.o 16 [] [3,4,8,9,13,14] (.o 15 [] [3,4,8,9,13,14] (.o 18 [] [] (.o 19 [] [] (.o 20 [] [] .f)))))))))
def sn33 := zAll cx33 [[n33_9],[n33_10],[n33_9,n33_10,n33_8],[n33_8,n33_7],[n33_16],[n33_17],[n33_16,n33_17,n33_15],[n33_15,n33_14],[n33_23],[n33_23,n33_22],[n33_24],[n33_22,n33_24,n33_21],[n33_21,n33_20],[n33_20,n33_19],[n33_29],[n33_29,n33_28],[n33_30],[n33_28,n33_30,n33_27],[n33_27,n33_26],[n33_34],[n33_34,n33_33],[n33_33,n33_32],[n33_32,n33_31],[n33_26,n33_31,n33_25],[n33_19,n33_25,n33_18],[n33_14,n33_18,n33_13],[n33_42],[n33_42,n33_41],[n33_43],[n33_41,n33_43,n33_40],[n33_40,n33_39],[n33_39,n33_38],[n33_48],[n33_48,n33_47],[n33_49],[n33_47,n33_49,n33_46],[n33_46,n33_45],[n33_51,n33_50],[n33_45,n33_50,n33_44],[n33_38,n33_44,n33_37],[n33_59],[n33_59,n33_58],[n33_60],[n33_58,n33_60,n33_57],[n33_57,n33_56],[n33_56,n33_55],[n33_65],[n33_65,n33_64],[n33_66],[n33_64,n33_66,n33_63],[n33_63,n33_62],[n33_62,n33_67,n33_61],[n33_55,n33_61,n33_54],[n33_74],[n33_74,n33_73],[n33_75],[n33_73,n33_75,n33_72],[n33_72,n33_71],[n33_80],[n33_80,n33_79],[n33_81],[n33_79,n33_81,n33_78],[n33_82],[n33_77,n33_82,n33_76],[n33_71,n33_76,n33_70],[n33_91],[n33_91,n33_90],[n33_95],[n33_95,n33_94],[n33_99],[n33_99,n33_98],[n33_100],[n33_98,n33_100,n33_97],[n33_97,n33_96],[n33_94,n33_96,n33_93],[n33_90,n33_92,n33_89],[n33_89,n33_88],[n33_88,n33_87],[n33_87,n33_101,n33_86],[n33_86,n33_85],[n33_103],[n33_103,n33_102],[n33_85,n33_102,n33_84],[n33_84,n33_83],[n33_70,n33_83,n33_69],[n33_69,n33_68],[n33_54,n33_68,n33_53],[n33_53,n33_52],[n33_37,n33_52,n33_36],[n33_36,n33_35],[n33_12,n33_35,n33_11],[n33_7,n33_11,n33_6],[n33_6,n33_5],[n33_5,n33_4],[n33_105],[n33_105,n33_104],[n33_4,n33_104,n33_3],[n33_1,n33_0]]
end
end Go.Vab

/-
  A step is done: its first statements, whose order is open; walked.
-/
namespace Go.Vab
open Go Go.Proofs
def Cel (κ : Nat → Nat) (G : Heap) (p : Nat) (v : AV) : Prop := G[p]? = some ⟨v, 0, .own⟩ ∧ (κ p = 0 ∨ 6 ≤ κ p)
theorem Cel.lt {κ : Nat → Nat} {G : Heap} {p : Nat} {v : AV} (h : Cel κ G p v) : p < G.length := (List.getElem?_eq_some_iff.1 h.1).1
theorem Cel.next {κ κ' : Nat → Nat} {G G' : Heap} {p : Nat} {v : AV} (h : Cel κ G p v) (fr : Fr κ G κ' G') : Cel κ' G' p v := ⟨fr.blk h.1 h.2, by rw [fr.old _ h.lt]; exact h.2⟩
theorem Cel.app {κ : Nat → Nat} {G : Heap} {p : Nat} {v : AV} (h : Cel κ G p v) (l : Heap) : Cel κ (G ++ l) p v := ⟨by rw [List.getElem?_append_left h.lt]; exact h.1, h.2⟩
theorem Cel.blk {κ : Nat → Nat} {G : Heap} {p : Nat} {v : AV} (h : Cel κ G p v) (l : Heap) : blkAt (G ++ l) p 0 = some ⟨v, 0, .own⟩ := blkAt_app (blk_of h.1) l
theorem Cel.blk0 {κ : Nat → Nat} {G : Heap} {p : Nat} {v : AV} (h : Cel κ G p v) : blkAt G p 0 = some ⟨v, 0, .own⟩ := blk_of h.1
theorem Cel.new {κ : Nat → Nat} {H l : Heap} {k : Nat} {v : AV} (top : ∀ i, H.length ≤ i → κ i = 0) (h : l[k]? = some ⟨v, 0, .own⟩) : Cel κ (H ++ l) (H.length + k) v := ⟨by rw [List.getElem?_append_right (by omega), Nat.add_sub_cancel_left]; exact h, .inl (top _ (by omega))⟩
theorem Cel.new0 {κ : Nat → Nat} {H l : Heap} {v : AV} (top : ∀ i, H.length ≤ i → κ i = 0) (h : l[0]? = some ⟨v, 0, .own⟩) : Cel κ (H ++ l) H.length v := Cel.new top h
theorem Cel.scr {κ : Nat → Nat} {G : Heap} {p : Nat} {v : AV} (h : Cel κ G p v) (w : Blk) : Cel (Go.Vab.scr κ G.length) (G ++ [w]) p v := ⟨by rw [List.getElem?_append_left h.lt]; exact h.1, by rw [scr_ne (by have := h.lt; omega)]; exact h.2⟩
theorem Cel.own (κ : Nat → Nat) (G : Heap) (v : AV) : Cel (Go.Vab.scr κ G.length) (G ++ [⟨v, 0, .own⟩]) G.length v := ⟨by simp, .inr (by rw [scr_self]; decide)⟩
theorem Cel.wr {κ : Nat → Nat} {G : Heap} {p q : Nat} {v : AV} (h : Cel κ G p v) (hq : q ≠ p) (w : Blk) : Cel κ (G.set q w) p v := ⟨by rw [List.getElem?_set_ne hq]; exact h.1, h.2⟩
theorem Cel.set {κ : Nat → Nat} {G : Heap} {p : Nat} {v : AV} (h : Cel κ G p v) (w : AV) : Cel κ (G.set p ⟨w, 0, .own⟩) p w := ⟨List.getElem?_set_self h.lt, h.2⟩
abbrev rollS (c : Nat) : AV := .node [.ptr c 0 [5] .cell, .fn 91 []]
abbrev rollI (c : Nat) : AV := .node [.ptr c 0 [6] .cell, .fn 92 []]
abbrev rollA (c : Nat) : AV := .node [.ptr c 0 [7] .cell, .fn 93 []]
abbrev rollB (c : Nat) : AV := .node [.ptr c 0 [8] .cell, .fn 117 []]
section
variable {κ : Nat → Nat} {H : Heap} {c xb : Nat} {s : Stt} {b : Pt} {a : Actn} {m : BitVec 8} {vt vp vs vi va vb wt wp : AV}
set_option maxHeartbeats 4000000 in
theorem do_start1 (x : Sx κ H c xb s b a m vt vp vs vi va vb wt wp) {Q : Ex × St → Prop} {env : Env} (g0 : env.get 0 = .ptr xb 0 [] tLstep)
  (tail : ∀ (env' : Env) (l : Heap) (p3 p4 p5 : Nat), env'.get 0 = .ptr xb 0 [] tLstep → env'.get 3 = .ptr p3 0 [] tRollSeat → env'.get 4 = .ptr p4 0 [] tRollInvite → env'.get 5 = .ptr p5 0 [] tRollAsk → Cel κ (H ++ l) p3 (rollS c) → Cel κ (H ++ l) p4 (rollI c) → Cel κ (H ++ l) p5 (rollA c) → wC Tryz.prog cx33 n33_2 Q ⟨env', H ++ l⟩) :
  wC Tryz.prog cx33 n33_0 Q ⟨env, H⟩ := by
 have sx := x.blk
 have wb := x.w.blk
 have sx0 := blk_of x.st
 have wb0 := blk_of x.w.cell
 have top := x.w.top
 repeat' (first | ((with_reducible refine evs_of (a := ?_) ?_ ?_); rotate_left; (focus ((conv => lhs; simp (disch := omega) [g0, sx, wb, sx0, wb0]); done)); try dsimp only) | ((with_reducible refine gW_do ?_ ?_); (focus (simp (disch := omega) [g0, sx, wb, sx0, wb0]; done))) | ((with_reducible refine gW_no ?_ ?_); (focus (simp (disch := omega) [g0, sx, wb, sx0, wb0]; done)); try dsimp only) | ((with_reducible refine gW_un ?_ ?_); (focus (simp (disch := omega) [g0, sx, wb, sx0, wb0]; done)); try dsimp only) | ((with_reducible refine cndW_T ?_ ?_); (focus (simp (disch := omega) [g0, sx, wb, sx0, wb0] <;> omega))) | ((with_reducible refine cndW_F ?_ ?_); (focus (simp (disch := omega) [g0, sx, wb, sx0, wb0] <;> omega))) | ((with_reducible refine stabP_i ?_ ?_); (focus (simp (disch := omega) [g0, sx, wb, sx0, wb0]; done))) | (with_reducible refine bothP_i ?_ ?_) | (with_reducible refine wL_i ?_) | ((with_reducible refine ValW_do ?_ ?_); (focus (simp (disch := omega) [g0, sx, wb, sx0, wb0]; done)); try dsimp only) | ((with_reducible refine ValW_no ?_ ?_); (focus (simp (disch := omega) [g0, sx, wb, sx0, wb0]; done)); try dsimp only) | ((with_reducible refine ValW_un ?_ ?_); (focus (simp (disch := omega) [g0, sx, wb, sx0, wb0]; done)); try dsimp only) | (with_reducible refine ValW_i (c63 x.w.lt) ?_; try dsimp only) | (with_reducible refine SpecQ.step (c63 x.w.lt) ?_; rintro _ rfl; try dsimp only) | (with_reducible refine stabP_i (c63 x.w.lt) ?_) | (with_reducible refine ValW_i (c64 x.w.lt) ?_; try dsimp only) | (with_reducible refine SpecQ.step (c64 x.w.lt) ?_; rintro _ rfl; try dsimp only) | (with_reducible refine stabP_i (c64 x.w.lt) ?_) | (with_reducible refine ValW_i (c65 x.w.lt) ?_; try dsimp only) | (with_reducible refine SpecQ.step (c65 x.w.lt) ?_; rintro _ rfl; try dsimp only) | (with_reducible refine stabP_i (c65 x.w.lt) ?_) | (with_reducible refine ValW_i (c63 (x.lt _)) ?_; try dsimp only) | (with_reducible refine SpecQ.step (c63 (x.lt _)) ?_; rintro _ rfl; try dsimp only) | (with_reducible refine stabP_i (c63 (x.lt _)) ?_) | (with_reducible refine ValW_i (c64 (x.lt _)) ?_; try dsimp only) | (with_reducible refine SpecQ.step (c64 (x.lt _)) ?_; rintro _ rfl; try dsimp only) | (with_reducible refine stabP_i (c64 (x.lt _)) ?_) | (with_reducible refine ValW_i (c65 (x.lt _)) ?_; try dsimp only) | (with_reducible refine SpecQ.step (c65 (x.lt _)) ?_; rintro _ rfl; try dsimp only) | (with_reducible refine stabP_i (c65 (x.lt _)) ?_) | ((with_reducible refine SpecA_i (args' := ?_) ?_ ?_); rotate_left; (focus ((conv => lhs; simp (disch := omega) [g0, sx, wb, sx0, wb0]); done))) | ((with_reducible refine ValA_i (args' := ?_) ?_ ?_); rotate_left; (focus ((conv => lhs; simp (disch := omega) [g0, sx, wb, sx0, wb0]); done))) | ((with_reducible refine stabA_i (args' := ?_) ?_ ?_); rotate_left; (focus ((conv => lhs; simp (disch := omega) [g0, sx, wb, sx0, wb0]); done))) | ((with_reducible refine ValA_fn (g := ?_) (caps := ?_) ?_ ?_); rotate_left; rotate_left; (focus ((conv => lhs; simp (disch := omega) [g0, sx, wb, sx0, wb0]); done))) | ((with_reducible refine stabA_fn (g := ?_) (caps := ?_) ?_ ?_); rotate_left; rotate_left; (focus ((conv => lhs; simp (disch := omega) [g0, sx, wb, sx0, wb0]); done))) | ((with_reducible refine stab_do ?_ ?_); (focus (simp (disch := omega) [g0, sx, wb, sx0, wb0]; done))) | (simp (decide := true) only [n33_0_eq, sqW_nrm, sqW_exit, sqW_ret, inBlk_nrm, inBlk_ret, inBlk_same, inBlk_exit, if_true, if_false, retW_nrm, retW_ret]) | (with_reducible refine n33_1_w _ _ _ ?_) | ((with_reducible refine cndW_splitE (b := ?_) ?_ ?_ ?_); rotate_left; (focus ((conv => lhs; simp (disch := omega) [g0, sx, wb, sx0, wb0]); done)); all_goals ((intro hb; try simp only [Bool.not_true, Bool.not_false] at hb); try simp only [hb])) | ((with_reducible refine gv_splitE (b := ?_) ?_ ?_ ?_); rotate_left; (focus ((conv => lhs; simp (disch := omega) [g0, sx, wb, sx0, wb0]); done)); all_goals ((intro hb; try simp only [Bool.not_true, Bool.not_false] at hb); try simp only [hb])) | ((with_reducible refine gW_splitE (b := ?_) ?_ ?_ ?_); rotate_left; (focus ((conv => lhs; simp (disch := omega) [g0, sx, wb, sx0, wb0]); done)); all_goals ((intro hb; try simp only [Bool.not_true, Bool.not_false] at hb); try simp only [hb])) | (with_reducible refine gv_split ?_ ?_ <;> (intro hb; try simp only [Bool.not_true, Bool.not_false] at hb) <;> try simp only [hb]) | (with_reducible refine gW_split ?_ ?_ <;> (intro hb; try simp only [Bool.not_true, Bool.not_false] at hb) <;> try simp only [hb]) | (with_reducible refine cndW_split ?_ ?_ <;> (intro hb; try simp only [Bool.not_true, Bool.not_false] at hb) <;> try simp only [hb]) | (with_reducible refine ValW_split ?_ ?_ <;> (intro hb; try simp only [Bool.not_true, Bool.not_false] at hb) <;> try simp only [hb]))
 all_goals first
  | exact tail _ _ H.length (H.length + 1) (H.length + 2) (by simp [g0]) (by simp) (by simp) (by simp) (Cel.new0 top (by rfl)) (Cel.new (k := 1) top (by rfl)) (Cel.new (k := 2) top (by rfl))
  | exact tail _ _ H.length (H.length + 2) (H.length + 1) (by simp [g0]) (by simp) (by simp) (by simp) (Cel.new0 top (by rfl)) (Cel.new (k := 2) top (by rfl)) (Cel.new (k := 1) top (by rfl))
  | exact tail _ _ (H.length + 1) H.length (H.length + 2) (by simp [g0]) (by simp) (by simp) (by simp) (Cel.new (k := 1) top (by rfl)) (Cel.new0 top (by rfl)) (Cel.new (k := 2) top (by rfl))
  | exact tail _ _ (H.length + 1) (H.length + 2) H.length (by simp [g0]) (by simp) (by simp) (by simp) (Cel.new (k := 1) top (by rfl)) (Cel.new (k := 2) top (by rfl)) (Cel.new0 top (by rfl))
  | exact tail _ _ (H.length + 2) H.length (H.length + 1) (by simp [g0]) (by simp) (by simp) (by simp) (Cel.new (k := 2) top (by rfl)) (Cel.new0 top (by rfl)) (Cel.new (k := 1) top (by rfl))
  | exact tail _ _ (H.length + 2) (H.length + 1) H.length (by simp [g0]) (by simp) (by simp) (by simp) (Cel.new (k := 2) top (by rfl)) (Cel.new (k := 1) top (by rfl)) (Cel.new0 top (by rfl))
set_option maxHeartbeats 4000000 in
theorem do_start2 (x : Sx κ H c xb s b a m vt vp vs vi va vb wt wp) {Q : Ex × St → Prop} {env : Env} {l : Heap} {p3 p4 p5 : Nat} (g0 : env.get 0 = .ptr xb 0 [] tLstep) (g3 : env.get 3 = .ptr p3 0 [] tRollSeat) (g4 : env.get 4 = .ptr p4 0 [] tRollInvite) (g5 : env.get 5 = .ptr p5 0 [] tRollAsk)
  (tail : ∀ (env' : Env) (u : Heap) (p6 p7 : Nat), env'.get 0 = .ptr xb 0 [] tLstep → env'.get 3 = .ptr p3 0 [] tRollSeat → env'.get 4 = .ptr p4 0 [] tRollInvite → env'.get 5 = .ptr p5 0 [] tRollAsk → env'.get 6 = .ptr p6 0 [] (.arr 32 (.int .u8)) → env'.get 7 = .ptr p7 0 [] (.arr 32 (.int .u8)) → Cel κ (H ++ u) p6 (pt a.who.e) → Cel κ (H ++ u) p7 (pt a.e) → wC Tryz.prog cx33 n33_3 Q ⟨env', H ++ u⟩) :
  wC Tryz.prog cx33 n33_2 Q ⟨env, H⟩ := by
 have sx := x.blk
 have sx0 := blk_of x.st
 have top := x.w.top
 repeat' (first | ((with_reducible refine evs_of (a := ?_) ?_ ?_); rotate_left; (focus ((conv => lhs; simp (disch := omega) [g0, sx, sx0]); done)); try dsimp only) | ((with_reducible refine gW_do ?_ ?_); (focus (simp (disch := omega) [g0, sx, sx0]; done))) | ((with_reducible refine gW_no ?_ ?_); (focus (simp (disch := omega) [g0, sx, sx0]; done)); try dsimp only) | ((with_reducible refine gW_un ?_ ?_); (focus (simp (disch := omega) [g0, sx, sx0]; done)); try dsimp only) | ((with_reducible refine cndW_T ?_ ?_); (focus (simp (disch := omega) [g0, sx, sx0] <;> omega))) | ((with_reducible refine cndW_F ?_ ?_); (focus (simp (disch := omega) [g0, sx, sx0] <;> omega))) | ((with_reducible refine stabP_i ?_ ?_); (focus (simp (disch := omega) [g0, sx, sx0]; done))) | (with_reducible refine bothP_i ?_ ?_) | (with_reducible refine wL_i ?_) | ((with_reducible refine ValW_do ?_ ?_); (focus (simp (disch := omega) [g0, sx, sx0]; done)); try dsimp only) | ((with_reducible refine ValW_no ?_ ?_); (focus (simp (disch := omega) [g0, sx, sx0]; done)); try dsimp only) | ((with_reducible refine ValW_un ?_ ?_); (focus (simp (disch := omega) [g0, sx, sx0]; done)); try dsimp only) | ((with_reducible refine SpecA_i (args' := ?_) ?_ ?_); rotate_left; (focus ((conv => lhs; simp (disch := omega) [g0, sx, sx0]); done))) | ((with_reducible refine ValA_i (args' := ?_) ?_ ?_); rotate_left; (focus ((conv => lhs; simp (disch := omega) [g0, sx, sx0]); done))) | ((with_reducible refine stabA_i (args' := ?_) ?_ ?_); rotate_left; (focus ((conv => lhs; simp (disch := omega) [g0, sx, sx0]); done))) | ((with_reducible refine ValA_fn (g := ?_) (caps := ?_) ?_ ?_); rotate_left; rotate_left; (focus ((conv => lhs; simp (disch := omega) [g0, sx, sx0]); done))) | ((with_reducible refine stabA_fn (g := ?_) (caps := ?_) ?_ ?_); rotate_left; rotate_left; (focus ((conv => lhs; simp (disch := omega) [g0, sx, sx0]); done))) | ((with_reducible refine stab_do ?_ ?_); (focus (simp (disch := omega) [g0, sx, sx0]; done))) | (simp (decide := true) only [sqW_nrm, sqW_exit, sqW_ret, inBlk_nrm, inBlk_ret, inBlk_same, inBlk_exit, if_true, if_false, retW_nrm, retW_ret]) | (with_reducible refine n33_2_w _ _ _ ?_) | ((with_reducible refine cndW_splitE (b := ?_) ?_ ?_ ?_); rotate_left; (focus ((conv => lhs; simp (disch := omega) [g0, sx, sx0]); done)); all_goals ((intro hb; try simp only [Bool.not_true, Bool.not_false] at hb); try simp only [hb])) | ((with_reducible refine gv_splitE (b := ?_) ?_ ?_ ?_); rotate_left; (focus ((conv => lhs; simp (disch := omega) [g0, sx, sx0]); done)); all_goals ((intro hb; try simp only [Bool.not_true, Bool.not_false] at hb); try simp only [hb])) | ((with_reducible refine gW_splitE (b := ?_) ?_ ?_ ?_); rotate_left; (focus ((conv => lhs; simp (disch := omega) [g0, sx, sx0]); done)); all_goals ((intro hb; try simp only [Bool.not_true, Bool.not_false] at hb); try simp only [hb])) | (with_reducible refine gv_split ?_ ?_ <;> (intro hb; try simp only [Bool.not_true, Bool.not_false] at hb) <;> try simp only [hb]) | (with_reducible refine gW_split ?_ ?_ <;> (intro hb; try simp only [Bool.not_true, Bool.not_false] at hb) <;> try simp only [hb]) | (with_reducible refine cndW_split ?_ ?_ <;> (intro hb; try simp only [Bool.not_true, Bool.not_false] at hb) <;> try simp only [hb]) | (with_reducible refine ValW_split ?_ ?_ <;> (intro hb; try simp only [Bool.not_true, Bool.not_false] at hb) <;> try simp only [hb]))
 all_goals first
  | exact tail _ _ H.length (H.length + 1) (by simp [g0]) (by simp [g3]) (by simp [g4]) (by simp [g5]) (by simp) (by simp) (Cel.new0 top (by rfl)) (Cel.new (k := 1) top (by rfl))
  | exact tail _ _ (H.length + 1) H.length (by simp [g0]) (by simp [g3]) (by simp [g4]) (by simp [g5]) (by simp) (by simp) (Cel.new (k := 1) top (by rfl)) (Cel.new0 top (by rfl))
def DoR (κ : Nat → Nat) (H : Heap) (c : Nat) (x : Except Nat Stt) (r : AV × Heap) : Prop := ∃ (κ' : Nat → Nat) (H' : Heap), Fr κ H κ' H' ∧ match x with
 | .error k => r = (nat k, H')
 | .ok t => r = (nat 0, H') ∧ ∃ vt vp vs vi va vb, Wk κ' H' c t vt vp vs vi va vb
theorem DoR.app {κ : Nat → Nat} {H l : Heap} {c : Nat} {x : Except Nat Stt} {r : AV × Heap} (h : DoR κ (H ++ l) c x r) : DoR κ H c x r := by
 obtain ⟨κ', H', fr, h⟩ := h
 exact ⟨κ', H', fr.app, h⟩
theorem DoR.err {κ κ1 : Nat → Nat} {H H1 : Heap} {c : Nat} {x : Except Nat Stt} {k : Nat} (e : x = .error k) (f : Fr κ H κ1 H1) : DoR κ H c x (oneOrTuple [nat k], H1) := ⟨κ1, H1, f, by rw [e]; rfl⟩
theorem DoR.ok {κ κ1 : Nat → Nat} {H H1 : Heap} {c : Nat} {x : Except Nat Stt} {t : Stt} {vt vp vs vi va vb : AV} (e : x = .ok t) (f : Fr κ H κ1 H1) (w : Wk κ1 H1 c t vt vp vs vi va vb) : DoR κ H c x (oneOrTuple [nat 0], H1) := ⟨κ1, H1, f, by rw [e]; exact ⟨rfl, _, _, _, _, _, _, w⟩⟩
structure Dx (κ : Nat → Nat) (G : Heap) (c xb : Nat) (s : Stt) (b : Pt) (a : Actn) (m : BitVec 8) (vt vp vs vi va vb wt wp : AV) (env : Env) (p3 p4 p5 p6 p7 : Nat) : Prop where
 x : Sx κ G c xb s b a m vt vp vs vi va vb wt wp
 c3 : Cel κ G p3 (rollS c)
 c4 : Cel κ G p4 (rollI c)
 c5 : Cel κ G p5 (rollA c)
 c6 : Cel κ G p6 (pt a.who.e)
 c7 : Cel κ G p7 (pt a.e)
 e0 : env.get 0 = .ptr xb 0 [] tLstep
 e3 : env.get 3 = .ptr p3 0 [] tRollSeat
 e4 : env.get 4 = .ptr p4 0 [] tRollInvite
 e5 : env.get 5 = .ptr p5 0 [] tRollAsk
 e6 : env.get 6 = .ptr p6 0 [] (.arr 32 (.int .u8))
 e7 : env.get 7 = .ptr p7 0 [] (.arr 32 (.int .u8))
theorem Dx.next {G : Heap} {env : Env} {p3 p4 p5 p6 p7 : Nat} {κ' : Nat → Nat} {G' : Heap} {s' : Stt} {ut up us ui ua ub : AV} (d : Dx κ G c xb s b a m vt vp vs vi va vb wt wp env p3 p4 p5 p6 p7) (fr : Fr κ G κ' G') (w' : Wk κ' G' c s' ut up us ui ua ub) : Dx κ' G' c xb s' b a m ut up us ui ua ub wt wp env p3 p4 p5 p6 p7 :=
 ⟨d.x.next fr w', d.c3.next fr, d.c4.next fr, d.c5.next fr, d.c6.next fr, d.c7.next fr, d.e0, d.e3, d.e4, d.e5, d.e6, d.e7⟩
theorem do_start (x : Sx κ H c xb s b a m vt vp vs vi va vb wt wp) {Q : Ex × St → Prop} {env : Env} (g0 : env.get 0 = .ptr xb 0 [] tLstep)
  (tail : ∀ (env' : Env) (u : Heap) (p3 p4 p5 p6 p7 : Nat), Dx κ (H ++ u) c xb s b a m vt vp vs vi va vb wt wp env' p3 p4 p5 p6 p7 → wC Tryz.prog cx33 n33_3 Q ⟨env', H ++ u⟩) : wC Tryz.prog cx33 n33_0 Q ⟨env, H⟩ :=
 do_start1 x g0 fun env' l p3 p4 p5 e0 e3 e4 e5 c3 c4 c5 => do_start2 (x.app l) e0 e3 e4 e5 (l := l) fun env' u p6 p7 e0 e3 e4 e5 e6 e7 c6 c7 => by
  have := tail env' (l ++ u) p3 p4 p5 p6 p7
  rw [← List.append_assoc] at this
  exact this ⟨(x.app l).app u, c3.app u, c4.app u, c5.app u, c6, c7, e0, e3, e4, e5, e6, e7⟩
end
end Go.Vab

/-
  A step is done: add, join, invite, ask, remove; walked.
-/
namespace Go.Vab
open Go Go.Proofs
theorem runRp12_0 {G X : Prop} (f : Hd X → G := by
 intro xX
 repeat' (first | refine stp (x := ?_) | (with_reducible refine bothP_i ?_ ?_) | (with_reducible refine ValW_i (c76 x.w hs) ?_; try dsimp only) | (with_reducible refine SpecQ.step (c76 x.w hs) ?_; rintro _ rfl; try dsimp only) | (with_reducible refine stabP_i (c76 x.w hs) ?_) | (simp (decide := true) only [sn33, snB, if_true, if_false]) | (with_reducible refine n33_12_w _ _ _ ?_) | (with_reducible refine n33_51_w _ _ _ ?_) | (with_reducible refine n33_67_w _ _ _ ?_) | (with_reducible refine n33_77_w _ _ _ ?_) | (with_reducible refine n33_92_w _ _ _ ?_) | (with_reducible refine n33_101_w _ _ _ ?_) | (with_reducible refine n33_2_w _ _ _ ?_) | (with_reducible refine n33_1_w _ _ _ ?_))
 exact xX.get) (x : X) : G := f ⟨x⟩
theorem runRp12_1 {G X : Prop} (f : Hd X → G := by
 intro xX
 repeat' (first | refine stp (x := ?_) | (with_reducible refine bothP_i ?_ ?_) | (simp (decide := true) only [sn33, snB, if_true, if_false]) | (with_reducible refine n33_12_w _ _ _ ?_) | (with_reducible refine n33_51_w _ _ _ ?_) | (with_reducible refine n33_67_w _ _ _ ?_) | (with_reducible refine n33_77_w _ _ _ ?_) | (with_reducible refine n33_92_w _ _ _ ?_) | (with_reducible refine n33_101_w _ _ _ ?_) | (with_reducible refine n33_2_w _ _ _ ?_) | (with_reducible refine n33_1_w _ _ _ ?_))
 exact xX.get) (x : X) : G := f ⟨x⟩
theorem runRp12_2 {G X : Prop} (f : Hd X → G := by
 intro xX
 repeat' (first | refine stp (x := ?_) | (with_reducible refine bothP_i ?_ ?_) | (with_reducible refine ValW_i (c66 x hs) ?_; try dsimp only) | (with_reducible refine SpecQ.step (c66 x hs) ?_; rintro _ rfl; try dsimp only) | (with_reducible refine stabP_i (c66 x hs) ?_) | (simp (decide := true) only [sn33, snB, if_true, if_false]) | (with_reducible refine n33_12_w _ _ _ ?_) | (with_reducible refine n33_51_w _ _ _ ?_) | (with_reducible refine n33_67_w _ _ _ ?_) | (with_reducible refine n33_77_w _ _ _ ?_) | (with_reducible refine n33_92_w _ _ _ ?_) | (with_reducible refine n33_101_w _ _ _ ?_) | (with_reducible refine n33_2_w _ _ _ ?_) | (with_reducible refine n33_1_w _ _ _ ?_))
 exact xX.get) (x : X) : G := f ⟨x⟩
theorem runRp12_3 {G X : Prop} (f : Hd X → G := by
 intro xX
 repeat' (first | refine stp (x := ?_) | (with_reducible refine bothP_i ?_ ?_) | (with_reducible refine ValW_i (c66 x hs) ?_; try dsimp only) | (with_reducible refine SpecQ.step (c66 x hs) ?_; rintro _ rfl; try dsimp only) | (with_reducible refine stabP_i (c66 x hs) ?_) | (with_reducible refine ValW_i (c67 x.w) ?_; try dsimp only) | (with_reducible refine SpecQ.step (c67 x.w) ?_; rintro _ rfl; try dsimp only) | (with_reducible refine stabP_i (c67 x.w) ?_) | (simp (decide := true) only [sn33, snB, if_true, if_false]) | (with_reducible refine n33_12_w _ _ _ ?_) | (with_reducible refine n33_51_w _ _ _ ?_) | (with_reducible refine n33_67_w _ _ _ ?_) | (with_reducible refine n33_77_w _ _ _ ?_) | (with_reducible refine n33_92_w _ _ _ ?_) | (with_reducible refine n33_101_w _ _ _ ?_) | (with_reducible refine n33_2_w _ _ _ ?_) | (with_reducible refine n33_1_w _ _ _ ?_))
 exact xX.get) (x : X) : G := f ⟨x⟩
theorem runRp12_4 {G X : Prop} (f : Hd X → G := by
 intro xX
 repeat' (first | refine stp (x := ?_) | (with_reducible refine bothP_i ?_ ?_) | (with_reducible refine ValW_i (c66 x hs) ?_; try dsimp only) | (with_reducible refine SpecQ.step (c66 x hs) ?_; rintro _ rfl; try dsimp only) | (with_reducible refine stabP_i (c66 x hs) ?_) | (with_reducible refine ValW_i (c71 x.w) ?_; try dsimp only) | (with_reducible refine SpecQ.step (c71 x.w) ?_; rintro _ rfl; try dsimp only) | (with_reducible refine stabP_i (c71 x.w) ?_) | (simp (decide := true) only [sn33, snB, if_true, if_false]) | (with_reducible refine n33_12_w _ _ _ ?_) | (with_reducible refine n33_51_w _ _ _ ?_) | (with_reducible refine n33_67_w _ _ _ ?_) | (with_reducible refine n33_77_w _ _ _ ?_) | (with_reducible refine n33_92_w _ _ _ ?_) | (with_reducible refine n33_101_w _ _ _ ?_) | (with_reducible refine n33_2_w _ _ _ ?_) | (with_reducible refine n33_1_w _ _ _ ?_))
 exact xX.get) (x : X) : G := f ⟨x⟩
theorem runRp12_5 {G X : Prop} (f : Hd X → G := by
 intro xX
 repeat' (first | refine stp (x := ?_) | (with_reducible refine bothP_i ?_ ?_) | (with_reducible refine ValW_i (c73 d1.x (hs.a' _) hme) ?_; try dsimp only) | (with_reducible refine SpecQ.step (c73 d1.x (hs.a' _) hme) ?_; rintro _ rfl; try dsimp only) | (with_reducible refine stabP_i (c73 d1.x (hs.a' _) hme) ?_) | (simp (decide := true) only [sn33, snB, if_true, if_false]) | (with_reducible refine n33_12_w _ _ _ ?_) | (with_reducible refine n33_51_w _ _ _ ?_) | (with_reducible refine n33_67_w _ _ _ ?_) | (with_reducible refine n33_77_w _ _ _ ?_) | (with_reducible refine n33_92_w _ _ _ ?_) | (with_reducible refine n33_101_w _ _ _ ?_) | (with_reducible refine n33_2_w _ _ _ ?_) | (with_reducible refine n33_1_w _ _ _ ?_))
 exact xX.get) (x : X) : G := f ⟨x⟩
theorem runRp12_6 {G X : Prop} (f : Hd X → G := by
 intro xX
 repeat' (first | refine stp (x := ?_) | (with_reducible refine bothP_i ?_ ?_) | (with_reducible refine ValW_i (c66 x hs) ?_; try dsimp only) | (with_reducible refine SpecQ.step (c66 x hs) ?_; rintro _ rfl; try dsimp only) | (with_reducible refine stabP_i (c66 x hs) ?_) | (with_reducible refine ValW_i (c74 x.w) ?_; try dsimp only) | (with_reducible refine SpecQ.step (c74 x.w) ?_; rintro _ rfl; try dsimp only) | (with_reducible refine stabP_i (c74 x.w) ?_) | (simp (decide := true) only [sn33, snB, if_true, if_false]) | (with_reducible refine n33_12_w _ _ _ ?_) | (with_reducible refine n33_51_w _ _ _ ?_) | (with_reducible refine n33_67_w _ _ _ ?_) | (with_reducible refine n33_77_w _ _ _ ?_) | (with_reducible refine n33_92_w _ _ _ ?_) | (with_reducible refine n33_101_w _ _ _ ?_) | (with_reducible refine n33_2_w _ _ _ ?_) | (with_reducible refine n33_1_w _ _ _ ?_))
 exact xX.get) (x : X) : G := f ⟨x⟩
theorem runRp12_7 {G X : Prop} (f : Hd X → G := by
 intro xX
 repeat' (first | refine stp (x := ?_) | (with_reducible refine bothP_i ?_ ?_) | (with_reducible refine ValW_i (c78 x.w hs) ?_; try dsimp only) | (with_reducible refine SpecQ.step (c78 x.w hs) ?_; rintro _ rfl; try dsimp only) | (with_reducible refine stabP_i (c78 x.w hs) ?_) | (simp (decide := true) only [sn33, snB, if_true, if_false]) | (with_reducible refine n33_12_w _ _ _ ?_) | (with_reducible refine n33_51_w _ _ _ ?_) | (with_reducible refine n33_67_w _ _ _ ?_) | (with_reducible refine n33_77_w _ _ _ ?_) | (with_reducible refine n33_92_w _ _ _ ?_) | (with_reducible refine n33_101_w _ _ _ ?_) | (with_reducible refine n33_2_w _ _ _ ?_) | (with_reducible refine n33_1_w _ _ _ ?_))
 exact xX.get) (x : X) : G := f ⟨x⟩
theorem runRp12_8 {G X : Prop} (f : Hd X → G := by
 intro xX
 repeat' (first | ((with_reducible refine evs_of (a := ?_) ?_ ?_); rotate_left; (focus ((conv => lhs; simp (disch := omega) [ff, hn.symm]); done)); try dsimp only) | ((with_reducible refine gW_do ?_ ?_); (focus (simp (disch := omega) [ff, hn.symm]; done))) | ((with_reducible refine gW_no ?_ ?_); (focus (simp (disch := omega) [ff, hn.symm]; done)); try dsimp only) | ((with_reducible refine gW_un ?_ ?_); (focus (simp (disch := omega) [ff, hn.symm]; done)); try dsimp only) | ((with_reducible refine cndW_T ?_ ?_); (focus (simp (disch := omega) [ff, hn.symm] <;> omega))) | ((with_reducible refine cndW_F ?_ ?_); (focus (simp (disch := omega) [ff, hn.symm] <;> omega))) | ((with_reducible refine stabP_i ?_ ?_); (focus (simp (disch := omega) [ff, hn.symm]; done))) | (with_reducible refine bothP_i ?_ ?_) | (with_reducible refine wL_i ?_) | ((with_reducible refine ValW_do ?_ ?_); (focus (simp (disch := omega) [ff, hn.symm]; done)); try dsimp only) | ((with_reducible refine ValW_no ?_ ?_); (focus (simp (disch := omega) [ff, hn.symm]; done)); try dsimp only) | ((with_reducible refine ValW_un ?_ ?_); (focus (simp (disch := omega) [ff, hn.symm]; done)); try dsimp only) | (with_reducible refine ValW_i (c78 x.w hs) ?_; try dsimp only) | (with_reducible refine SpecQ.step (c78 x.w hs) ?_; rintro _ rfl; try dsimp only) | (with_reducible refine stabP_i (c78 x.w hs) ?_) | ((with_reducible refine SpecA_i (args' := ?_) ?_ ?_); rotate_left; (focus ((conv => lhs; simp (disch := omega) [ff, hn.symm]); done))) | ((with_reducible refine ValA_i (args' := ?_) ?_ ?_); rotate_left; (focus ((conv => lhs; simp (disch := omega) [ff, hn.symm]); done))) | ((with_reducible refine stabA_i (args' := ?_) ?_ ?_); rotate_left; (focus ((conv => lhs; simp (disch := omega) [ff, hn.symm]); done))) | ((with_reducible refine ValA_fn (g := ?_) (caps := ?_) ?_ ?_); rotate_left; rotate_left; (focus ((conv => lhs; simp (disch := omega) [ff, hn.symm]); done))) | ((with_reducible refine stabA_fn (g := ?_) (caps := ?_) ?_ ?_); rotate_left; rotate_left; (focus ((conv => lhs; simp (disch := omega) [ff, hn.symm]); done))) | ((with_reducible refine stab_do ?_ ?_); (focus (simp (disch := omega) [ff, hn.symm]; done))) | (simp (decide := true) only [sn33, sqW_nrm, sqW_exit, sqW_ret, inBlk_nrm, inBlk_ret, inBlk_same, inBlk_exit, if_true, if_false, retW_nrm, retW_ret]) | (with_reducible refine n33_12_w _ _ _ ?_) | (with_reducible refine n33_51_w _ _ _ ?_) | (with_reducible refine n33_67_w _ _ _ ?_) | (with_reducible refine n33_77_w _ _ _ ?_) | (with_reducible refine n33_92_w _ _ _ ?_) | (with_reducible refine n33_101_w _ _ _ ?_) | (with_reducible refine n33_2_w _ _ _ ?_) | (with_reducible refine n33_1_w _ _ _ ?_))
 exact xX.get) (x : X) : G := f ⟨x⟩
theorem runRp12_9 {G X : Prop} (f : Hd X → G := by
 intro xX
 repeat' (first | ((with_reducible refine evs_of (a := ?_) ?_ ?_); rotate_left; (focus ((conv => lhs; simp (disch := omega) [ff, hn.symm]); done)); try dsimp only) | ((with_reducible refine gW_do ?_ ?_); (focus (simp (disch := omega) [ff, hn.symm]; done))) | ((with_reducible refine gW_no ?_ ?_); (focus (simp (disch := omega) [ff, hn.symm]; done)); try dsimp only) | ((with_reducible refine gW_un ?_ ?_); (focus (simp (disch := omega) [ff, hn.symm]; done)); try dsimp only) | ((with_reducible refine cndW_T ?_ ?_); (focus (simp (disch := omega) [ff, hn.symm] <;> omega))) | ((with_reducible refine cndW_F ?_ ?_); (focus (simp (disch := omega) [ff, hn.symm] <;> omega))) | ((with_reducible refine stabP_i ?_ ?_); (focus (simp (disch := omega) [ff, hn.symm]; done))) | (with_reducible refine bothP_i ?_ ?_) | (with_reducible refine wL_i ?_) | ((with_reducible refine ValW_do ?_ ?_); (focus (simp (disch := omega) [ff, hn.symm]; done)); try dsimp only) | ((with_reducible refine ValW_no ?_ ?_); (focus (simp (disch := omega) [ff, hn.symm]; done)); try dsimp only) | ((with_reducible refine ValW_un ?_ ?_); (focus (simp (disch := omega) [ff, hn.symm]; done)); try dsimp only) | (with_reducible refine ValW_i (c78 x.w hs) ?_; try dsimp only) | (with_reducible refine SpecQ.step (c78 x.w hs) ?_; rintro _ rfl; try dsimp only) | (with_reducible refine stabP_i (c78 x.w hs) ?_) | (with_reducible refine ValW_i (c79 x) ?_; try dsimp only) | (with_reducible refine SpecQ.step (c79 x) ?_; rintro _ rfl; try dsimp only) | (with_reducible refine stabP_i (c79 x) ?_) | ((with_reducible refine SpecA_i (args' := ?_) ?_ ?_); rotate_left; (focus ((conv => lhs; simp (disch := omega) [ff, hn.symm]); done))) | ((with_reducible refine ValA_i (args' := ?_) ?_ ?_); rotate_left; (focus ((conv => lhs; simp (disch := omega) [ff, hn.symm]); done))) | ((with_reducible refine stabA_i (args' := ?_) ?_ ?_); rotate_left; (focus ((conv => lhs; simp (disch := omega) [ff, hn.symm]); done))) | ((with_reducible refine ValA_fn (g := ?_) (caps := ?_) ?_ ?_); rotate_left; rotate_left; (focus ((conv => lhs; simp (disch := omega) [ff, hn.symm]); done))) | ((with_reducible refine stabA_fn (g := ?_) (caps := ?_) ?_ ?_); rotate_left; rotate_left; (focus ((conv => lhs; simp (disch := omega) [ff, hn.symm]); done))) | ((with_reducible refine stab_do ?_ ?_); (focus (simp (disch := omega) [ff, hn.symm]; done))) | (simp (decide := true) only [sn33, sqW_nrm, sqW_exit, sqW_ret, inBlk_nrm, inBlk_ret, inBlk_same, inBlk_exit, if_true, if_false, retW_nrm, retW_ret]) | (with_reducible refine n33_12_w _ _ _ ?_) | (with_reducible refine n33_51_w _ _ _ ?_) | (with_reducible refine n33_67_w _ _ _ ?_) | (with_reducible refine n33_77_w _ _ _ ?_) | (with_reducible refine n33_92_w _ _ _ ?_) | (with_reducible refine n33_101_w _ _ _ ?_) | (with_reducible refine n33_2_w _ _ _ ?_) | (with_reducible refine n33_1_w _ _ _ ?_))
 exact xX.get) (x : X) : G := f ⟨x⟩
theorem Srt.i' {s : Stt} (h : Srt s) (e : Pt) : Srt { s with invites := del fI s.invites e } := ⟨h.s, srt_del h.i, h.a, h.b⟩
theorem Srt.a' {s : Stt} (h : Srt s) (e : Pt) : Srt { s with asks := del fA s.asks e } := ⟨h.s, h.i, srt_del h.a, h.b⟩
section
variable {κ : Nat → Nat} {G : Heap} {c xb : Nat} {s : Stt} {b : Pt} {a : Actn} {m : BitVec 8} {vt vp vs vi va vb wt wp : AV} {env : Env} {p3 p4 p5 p6 p7 : Nat} {K : AV × Heap → Prop}
set_option maxHeartbeats 2000000 in
theorem do_2 (d : Dx κ G c xb s b a m vt vp vs vi va vb wt wp env p3 p4 p5 p6 p7) (hs : Srt s) (ok : Okd s b a) (hk : a.kind = 2#8) (hK : ∀ r, DoR κ G c (madeP s b a) r → K r) : wC Tryz.prog cx33 n33_3 (retW (fun s => (bnd (some (s.env.get 2)) fun v => bnd (some []) fun vs => some (v :: vs))) K) ⟨env, G⟩ := by
 have sx0 := blk_of d.x.st
 have hm := ok.adm (by simp [hk])
 obtain ⟨x, c3, c4, c5, c6, c7, e0, e3, e4, e5, e6, e7⟩ := d
 have b3 := c3.blk0
 have b7 := c7.blk0
 cases h1 : hasP fS s.seats a.e
 ·have hmd : madeP s b a = .error 7 := by simp [madeP, hk, hm, h1]
  have ff := aI sx0 (aI hk (aI h1 (aI b3 (aI b7 (aI e0 (aI e3 e7))))))
  refine runRp12_0 (x := ?_)
  clear ff
  exact hK _ ⟨κ, G, Fr.refl _ _, by rw [hmd]; rfl⟩
 by_cases h2 : a.e = b
 ·have hmd : madeP s b a = .error 195 := by rw [h2] at h1; simp [madeP, hk, hm, h1, h2]
  have h1b : hasP fS s.seats b = true := h2 ▸ h1
  have ff := aI sx0 (aI hk (aI h1b (aI h2 (aI b3 (aI b7 (aI e0 (aI e3 e7)))))))
  refine runRp12_0 (x := ?_)
  clear ff
  exact hK _ ⟨κ, G, Fr.refl _ _, by rw [hmd]; rfl⟩
 ·have hmd : madeP s b a = .ok { s with seats := del fS s.seats a.e } := by simp [madeP, hk, hm, h1, h2]
  have ff := aI sx0 (aI hk (aI h1 (aI h2 (aI b3 (aI b7 (aI e0 (aI e3 e7)))))))
  refine runRp12_0 (x := ?_)
  clear ff
  refine SpecQ.step (c77 x.w hs) ?_
  rintro _ ⟨y, κ', H', q, rfl, _, w2, fr⟩
  have ff := aI sx0 hk
  refine runRp12_1 (x := ?_)
  clear ff
  exact hK _ ⟨κ', H', fr, by rw [hmd]; exact ⟨rfl, _, _, _, _, _, _, w2⟩⟩
set_option maxHeartbeats 4000000 in
theorem do_1 (d : Dx κ G c xb s b a m vt vp vs vi va vb wt wp env p3 p4 p5 p6 p7) (hs : Srt s) (ms : mayS s = true) (ok : Okd s b a) (hk : a.kind = 1#8) (hK : ∀ r, DoR κ G c (madeP s b a) r → K r) : wC Tryz.prog cx33 n33_3 (retW (fun s => (bnd (some (s.env.get 2)) fun v => bnd (some []) fun vs => some (v :: vs))) K) ⟨env, G⟩ := by
 have sx0 := blk_of d.x.st
 have hA := ok.add (by simp [hk])
 have d0 := d
 obtain ⟨x, c3, c4, c5, c6, c7, e0, e3, e4, e5, e6, e7⟩ := d
 have b3 := c3.blk0
 have b4 := c4.blk0
 have b5 := c5.blk0
 have b6 := c6.blk0
 have hl := (may_lens ms).1
 by_cases hn : newWhy s a 0#8 false false = 0
 rotate_left
 ·have hmd : madeP s b a = .error (newWhy s a 0#8 false false) := mk_1 ms hk hA hn
  have ff := aI sx0 (aI hk (aI hn e0))
  refine runRp12_2 (x := ?_)
  clear ff
  exact hK _ ⟨κ, G, Fr.refl _ _, by rw [hmd]; rfl⟩
 by_cases h3 : 40 ≤ s.seats.length
 ·have hmd : madeP s b a = .error 9 := mf_1 ms hk hA hn h3
  have ff := aI sx0 (aI hk (aI hn (aI h3 (aI b3 (aI e0 e3)))))
  refine runRp12_3 (x := ?_)
  clear ff
  exact hK _ ⟨κ, G, Fr.refl _ _, by rw [hmd]; rfl⟩
 have hmd : madeP s b a = .ok { s with invites := del fI s.invites a.who.e, asks := del fA s.asks a.who.e, seats := ins fS s.seats ⟨a.who, a.role, a.version⟩ } := mo_1 ms hk hA hn h3
 have ff := aI sx0 (aI hk (aI hn (aI h3 (aI b3 (aI b4 (aI b6 (aI e0 (aI e3 (aI e4 e6)))))))))
 refine runRp12_3 (x := ?_)
 clear ff
 refine SpecQ.step (c68 x.w hs) ?_
 rintro _ ⟨y, κ1, H1, q1, rfl, _, w1, fr1⟩
 have d1 := d0.next fr1 w1
 have b51 := d1.c5.blk0
 have b61 := d1.c6.blk0
 have ff := aI b51 (aI b61 (aI e0 (aI e5 e6)))
 refine runRp12_1 (x := ?_)
 clear ff
 refine SpecQ.step (c69 d1.x.w (hs.i' _)) ?_
 rintro _ ⟨y, κ2, H2, q2, rfl, _, w2, fr2⟩
 have d2 := d1.next fr2 w2
 have sx2 := blk_of d2.x.st
 have ff := aI sx2 e0
 refine runRp12_1 (x := ?_)
 clear ff
 refine SpecQ.step (c70 d2.x ((hs.i' _).a' _) (by simp only; omega)) ?_
 rintro _ ⟨κ3, H3, q3, rfl, w3, fr3⟩
 have ff := e0
 refine runRp12_1 (x := ?_)
 clear ff
 exact hK _ ⟨κ3, H3, (fr1.trans fr2).trans fr3, by rw [hmd]; exact ⟨rfl, _, _, _, _, _, _, w3⟩⟩
set_option maxHeartbeats 4000000 in
theorem do_9 (d : Dx κ G c xb s b a m vt vp vs vi va vb wt wp env p3 p4 p5 p6 p7) (hs : Srt s) (ms : mayS s = true) (ok : Okd s b a) (hk : a.kind = 9#8) (hK : ∀ r, DoR κ G c (madeP s b a) r → K r) : wC Tryz.prog cx33 n33_3 (retW (fun s => (bnd (some (s.env.get 2)) fun v => bnd (some []) fun vs => some (v :: vs))) K) ⟨env, G⟩ := by
 have sx0 := blk_of d.x.st
 have hw := ok.who (by simp [hk])
 have d0 := d
 obtain ⟨x, c3, c4, c5, c6, c7, e0, e3, e4, e5, e6, e7⟩ := d
 have b3 := c3.blk0
 have b4 := c4.blk0
 have b5 := c5.blk0
 have b6 := c6.blk0
 have hl := (may_lens ms).1
 by_cases hn : newWhy s a 1#8 false false = 0
 rotate_left
 ·have hmd : madeP s b a = .error (newWhy s a 1#8 false false) := mk_9 ms hk hw hn
  have ff := aI sx0 (aI hk (aI hn e0))
  refine runRp12_2 (x := ?_)
  clear ff
  exact hK _ ⟨κ, G, Fr.refl _ _, by rw [hmd]; rfl⟩
 by_cases h3 : 40 ≤ s.seats.length
 ·have hmd : madeP s b a = .error 9 := mf_9 ms hk hw hn h3
  have ff := aI sx0 (aI hk (aI hn (aI h3 (aI b3 (aI e0 e3)))))
  refine runRp12_3 (x := ?_)
  clear ff
  exact hK _ ⟨κ, G, Fr.refl _ _, by rw [hmd]; rfl⟩
 have hmd : madeP s b a = .ok { s with invites := del fI s.invites a.who.e, asks := del fA s.asks a.who.e, seats := ins fS s.seats ⟨a.who, 1#8, a.version⟩ } := mo_9 ms hk hw hn h3
 have ff := aI sx0 (aI hk (aI hn (aI h3 (aI b3 (aI b4 (aI b6 (aI e0 (aI e3 (aI e4 e6)))))))))
 refine runRp12_3 (x := ?_)
 clear ff
 refine SpecQ.step (c68 x.w hs) ?_
 rintro _ ⟨y, κ1, H1, q1, rfl, _, w1, fr1⟩
 have d1 := d0.next fr1 w1
 have b51 := d1.c5.blk0
 have b61 := d1.c6.blk0
 have ff := aI b51 (aI b61 (aI e0 (aI e5 e6)))
 refine runRp12_1 (x := ?_)
 clear ff
 refine SpecQ.step (c69 d1.x.w (hs.i' _)) ?_
 rintro _ ⟨y, κ2, H2, q2, rfl, _, w2, fr2⟩
 have d2 := d1.next fr2 w2
 have sx2 := blk_of d2.x.st
 have ff := aI sx2 e0
 refine runRp12_1 (x := ?_)
 clear ff
 refine SpecQ.step (c70 d2.x ((hs.i' _).a' _) (by simp only; omega)) ?_
 rintro _ ⟨κ3, H3, q3, rfl, w3, fr3⟩
 have ff := e0
 refine runRp12_1 (x := ?_)
 clear ff
 exact hK _ ⟨κ3, H3, (fr1.trans fr2).trans fr3, by rw [hmd]; exact ⟨rfl, _, _, _, _, _, _, w3⟩⟩
set_option maxHeartbeats 4000000 in
theorem do_5 (d : Dx κ G c xb s b a m vt vp vs vi va vb wt wp env p3 p4 p5 p6 p7) (hs : Srt s) (ms : mayS s = true) (ok : Okd s b a) (hk : a.kind = 5#8) (hK : ∀ r, DoR κ G c (madeP s b a) r → K r) : wC Tryz.prog cx33 n33_3 (retW (fun s => (bnd (some (s.env.get 2)) fun v => bnd (some []) fun vs => some (v :: vs))) K) ⟨env, G⟩ := by
 have sx0 := blk_of d.x.st
 have hA := ok.add (by simp [hk])
 have hme := role_has ms (adds_iff.1 hA).1
 have hmd := m5_eq ms hk hA
 have d0 := d
 obtain ⟨x, c3, c4, c5, c6, c7, e0, e3, e4, e5, e6, e7⟩ := d
 have b4 := c4.blk0
 have b5 := c5.blk0
 have b6 := c6.blk0
 have hl := (may_lens ms).2.1
 by_cases hn : newWhy s a 0#8 true false = 0
 rotate_left
 ·rw [if_pos hn] at hmd
  have ff := aI sx0 (aI hk (aI hn e0))
  refine runRp12_2 (x := ?_)
  clear ff
  exact hK _ ⟨κ, G, Fr.refl _ _, by rw [hmd]; rfl⟩
 rw [if_neg (by simp [hn])] at hmd
 by_cases h3 : 40 ≤ s.invites.length
 ·rw [if_pos h3] at hmd
  have ff := aI sx0 (aI hk (aI hn (aI h3 (aI b4 (aI e0 e4)))))
  refine runRp12_4 (x := ?_)
  clear ff
  exact hK _ ⟨κ, G, Fr.refl _ _, by rw [hmd]; rfl⟩
 rw [if_neg h3] at hmd
 have ff := aI sx0 (aI hk (aI hn (aI h3 (aI b4 (aI b5 (aI b6 (aI e0 (aI e4 (aI e5 e6)))))))))
 refine runRp12_4 (x := ?_)
 clear ff
 refine SpecQ.step (c69 x.w hs) ?_
 rintro _ ⟨y, κ1, H1, q1, rfl, _, w1, fr1⟩
 have d1 := d0.next fr1 w1
 have b41 := d1.c4.blk0
 have sx1 := blk_of d1.x.st
 have ff := aI sx1 (aI b41 (aI e0 e4))
 refine runRp12_5 (x := ?_)
 clear ff
 refine SpecQ.step (c72 (x := ⟨a.who, a.role, meOf s b⟩) d1.x.w (hs.a' _) (by simp only; omega)) ?_
 rintro _ ⟨v, κ2, H2, q2, rfl, w2, fr2⟩
 have ff := e0
 refine runRp12_1 (x := ?_)
 clear ff
 exact hK _ ⟨κ2, H2, fr1.trans fr2, by rw [hmd]; exact ⟨rfl, _, _, _, _, _, _, w2⟩⟩
set_option maxHeartbeats 4000000 in
theorem do_10 (d : Dx κ G c xb s b a m vt vp vs vi va vb wt wp env p3 p4 p5 p6 p7) (hs : Srt s) (ms : mayS s = true) (ok : Okd s b a) (hk : a.kind = 10#8) (hK : ∀ r, DoR κ G c (madeP s b a) r → K r) : wC Tryz.prog cx33 n33_3 (retW (fun s => (bnd (some (s.env.get 2)) fun v => bnd (some []) fun vs => some (v :: vs))) K) ⟨env, G⟩ := by
 have sx0 := blk_of d.x.st
 have hw := ok.who (by simp [hk])
 have hmd := m10_eq ms hk hw
 obtain ⟨x, c3, c4, c5, c6, c7, e0, e3, e4, e5, e6, e7⟩ := d
 have b5 := c5.blk0
 have hl := (may_lens ms).2.2.1
 by_cases hn : newWhy s a 2#8 true true = 0
 rotate_left
 ·rw [if_pos hn] at hmd
  have ff := aI sx0 (aI hk (aI hn e0))
  refine runRp12_2 (x := ?_)
  clear ff
  exact hK _ ⟨κ, G, Fr.refl _ _, by rw [hmd]; rfl⟩
 rw [if_neg (by simp [hn])] at hmd
 by_cases h3 : 40 ≤ s.asks.length
 ·rw [if_pos h3] at hmd
  have ff := aI sx0 (aI hk (aI hn (aI h3 (aI b5 (aI e0 e5)))))
  refine runRp12_6 (x := ?_)
  clear ff
  exact hK _ ⟨κ, G, Fr.refl _ _, by rw [hmd]; rfl⟩
 rw [if_neg h3] at hmd
 have ff := aI sx0 (aI hk (aI hn (aI h3 (aI b5 (aI e0 e5)))))
 refine runRp12_6 (x := ?_)
 clear ff
 refine SpecQ.step (c75 (x := ⟨a.who, a.version⟩) x.w hs (by omega)) ?_
 rintro _ ⟨v, κ2, H2, q2, rfl, w2, fr2⟩
 have ff := e0
 refine runRp12_1 (x := ?_)
 clear ff
 exact hK _ ⟨κ2, H2, fr2, by rw [hmd]; exact ⟨rfl, _, _, _, _, _, _, w2⟩⟩
set_option maxHeartbeats 4000000 in
theorem do_3 (d : Dx κ G c xb s b a m vt vp vs vi va vb wt wp env p3 p4 p5 p6 p7) (hs : Srt s) (ms : mayS s = true) (ok : Okd s b a) (hk : a.kind = 3#8) (hK : ∀ r, DoR κ G c (madeP s b a) r → K r) : wC Tryz.prog cx33 n33_3 (retW (fun s => (bnd (some (s.env.get 2)) fun v => bnd (some []) fun vs => some (v :: vs))) K) ⟨env, G⟩ := by
 have sx0 := blk_of d.x.st
 have wb0 := blk_of d.x.w.cell
 have hm := ok.adm (by simp [hk])
 obtain ⟨x, c3, c4, c5, c6, c7, e0, e3, e4, e5, e6, e7⟩ := d
 have b3 := c3.blk0
 have b7 := c7.blk0
 cases h1 : hasP fS s.seats a.e
 ·have hmd : madeP s b a = .error 7 := by simp [madeP, hk, hm, hasP_fnd h1]
  have ff := aI sx0 (aI hk (aI h1 (aI b3 (aI b7 (aI e0 (aI e3 e7))))))
  refine runRp12_7 (x := ?_)
  clear ff
  exact hK _ ⟨κ, G, Fr.refl _ _, by rw [hmd]; rfl⟩
 obtain ⟨hlow, he, hf⟩ := low_yes hs.s h1
 obtain ⟨hl0, ⟨h0, _⟩ | ⟨bb, cc, xs, kk, hvs, hb, hc, h0, ht⟩⟩ := x.w.fs
 ·rw [h0] at hlow; simp at hlow
 have hle : s.seats.length ≤ xs.length := by
  have := congrArg List.length ht
  rw [List.length_take] at this; omega
 obtain ⟨z, hz⟩ : ∃ z, z = s.seats[low fS s.seats a.e] := ⟨_, rfl⟩
 have hxz : xs[low fS s.seats a.e]? = some z := by
  have := congrArg (fun l => l[low fS s.seats a.e]?) ht
  simp only [List.getElem?_take_of_lt hlow, List.getElem?_eq_getElem hlow] at this
  rw [this, hz]
 rw [← hz] at hf
 obtain ⟨n, hn⟩ : ∃ n, n = low fS s.seats a.e := ⟨_, rfl⟩
 rw [← hn] at hxz hlow
 have i1 : mIdxS tSeat vs (nat n) = some (.ptr bb 0 [n] tSeat) := by rw [hvs]; simp [mIdxS, hlow]
 obtain ⟨B, hB⟩ : ∃ B, B = AV.node (xs.map eSeat) := ⟨_, rfl⟩
 have hbb : blkAt G bb 0 = some ⟨B, 0, .own⟩ := by rw [hB]; exact blk_of hb
 have hbg : B.get [n, 1] = some (u8 z.role) := by rw [hB]; simp [hxz, eSeat, -fold_eSeat]
 by_cases h2 : z.role = a.role
 ·have hmd : madeP s b a = .error 8 := by simp [madeP, hk, hm, hf, h2]
  have ff := aI sx0 (aI wb0 (aI hk (aI h1 (aI i1 (aI hbb (aI hbg (aI h2 (aI b3 (aI b7 (aI e0 (aI e3 e7)))))))))))
  refine runRp12_8 (x := ?_)
  clear ff
  exact hK _ ⟨κ, G, Fr.refl _ _, by rw [hmd]; rfl⟩
 have hok : ¬ (z.role = 2#8 ∧ admins s = 1) → madeP s b a = .ok { s with seats := s.seats.set n { z with role := a.role } } := fun h => by
  have e : ins fS (del fS s.seats a.e) { z with role := a.role } = s.seats.set n { z with role := a.role } := by rw [hn]; exact ins_del_set hs.s h1 (fnd_mem hf).2
  simp only [madeP, hk, hm, hf, h2, h, e]; simp
 obtain ⟨B', hB'⟩ : ∃ B', B' = AV.node ((xs.set n { z with role := a.role }).map eSeat) := ⟨_, rfl⟩
 have hbp : B.put [n, 1] (u8 a.role) = some B' := by
  rw [hB, hB']
  simp [hxz, List.map_set]
 obtain ⟨G', hG'⟩ : ∃ G', G.set bb ⟨B', 0, .own⟩ = G' := ⟨_, rfl⟩
 have hnl : n < xs.length := by omega
 have fin : Wk κ G' c { s with seats := s.seats.set n { z with role := a.role } } vt vp vs vi va vb ∧ Fr κ G κ G' := by
  obtain ⟨k1, ch⟩ := krow_set (t := tSeat) (E := eSeat) (l := s.seats.set n { z with role := a.role }) (xs' := xs.set n { z with role := a.role }) (c := cc) kk hb (by simpa using hl0) (by simpa using hc) h0 (by rw [List.length_set, List.take_set, ht])
  rw [← hB', hG', List.length_set, ← hvs] at k1
  rw [← hB', hG'] at ch
  obtain ⟨r1, r2, r3, r4, r5, r6, r7, _, r8, r9, r10⟩ := x.w.rest ch (by decide)
  exact ⟨⟨r1, r2, r3, r4, r5, r6, r7, k1, r8 (by decide), r9 (by decide), r10 (by decide)⟩, ch.fr (by decide)⟩
 by_cases h4 : z.role = 2#8
 ·by_cases h5 : admins s = 1
  ·have hmd : madeP s b a = .error 192 := by rw [h4] at h2; simp [madeP, hk, hm, hf, h2, h4, h5]
   have hbg2 : B.get [n, 1] = some (u8 2#8) := by rw [hbg, h4]
   have h2' : ¬ 2#8 = a.role := by rw [← h4]; exact h2
   have ff := aI sx0 (aI wb0 (aI hk (aI h1 (aI i1 (aI hbb (aI hbg2 (aI h2' (aI h5 (aI b3 (aI b7 (aI e0 (aI e3 e7))))))))))))
   refine runRp12_9 (x := ?_)
   clear ff
   exact hK _ ⟨κ, G, Fr.refl _ _, by rw [hmd]; rfl⟩
  ·have hmd := hok fun h => h5 h.2
   have hbg2 : B.get [n, 1] = some (u8 2#8) := by rw [hbg, h4]
   have h2' : ¬ 2#8 = a.role := by rw [← h4]; exact h2
   have ff := aI sx0 (aI wb0 (aI hk (aI h1 (aI i1 (aI hbb (aI hbg2 (aI h2' (aI h5 (aI hbp (aI hG' (aI b3 (aI b7 (aI e0 (aI e3 e7))))))))))))))
   refine runRp12_9 (x := ?_)
   clear ff
   exact hK _ ⟨κ, G', fin.2, by rw [hmd]; exact ⟨rfl, _, _, _, _, _, _, fin.1⟩⟩
 ·have hmd := hok fun h => h4 h.1
  have ff := aI sx0 (aI wb0 (aI hk (aI h1 (aI i1 (aI hbb (aI hbg (aI h2 (aI h4 (aI hbp (aI hG' (aI b3 (aI b7 (aI e0 (aI e3 e7))))))))))))))
  refine runRp12_9 (x := ?_)
  clear ff
  exact hK _ ⟨κ, G', fin.2, by rw [hmd]; exact ⟨rfl, _, _, _, _, _, _, fin.1⟩⟩
end
end Go.Vab

/- How the code of a function is read. Printed by wip/tools/gen2.py and gen3.py (own work). -/
namespace Go.Vab
open Go Go.Proofs
noncomputable section
def cx80 : Ctx := ⟨fun _ _ _ => none,TT,281,[21,22,23,24,25,26,27,28,29,30,31,32,33,34,35,36,37,38,39,40,41,42,43,44,45,46,47,48,49,52,54,56,58,60,62,64,66,68,70,72,74,75,76,77,78,79,80,81,82,83,84,85,86,87,88,89,90,91,92,93,95,96,97,98,99,100,101,102,103,104,105,106,107,109,110,111,112,113,114,115,116,117,118,119,120,121,122,123,124,125,126,127,128,129,130,131,133,134,135,136,137,138,139,140,141,142,143,144,145,147,149,150,151,152,153,154,155,156,157,158,159,160,161,163,165,166,167,168,169,170,171,172,173,174,175,176,177,178,179,180,181,182,183,184,185,186,187,188,189,190,191,192,193,194,195,196,197,198,200,201,202,203,204,205,207,208,209,210,211,212,213,214,215,216,217,218,220,221,222,223,224,225,226,227,228,230,231,232,233,234,235,236,237,238,240,241,242,243,245,246,247,248,249,250,251,252,253,254,255,256,257,258,259,260,261,262,263,264,265,266,267,268,269,270,271,272,273,274,275,276,277,278,279,280]⟩
def n80_0 := bodyOf Tryz.f80
def n80_1 := cR n80_0
def n80_2 := cR n80_1
def n80_3 := cR n80_2
def n80_4 := cL n80_3
def n80_5 := cR n80_4
def n80_6 := cB n80_5
def n80_7 := cL n80_6
def n80_8 := cB n80_7
def n80_9 := cL n80_8
def n80_10 := cB n80_9
def n80_11 := cL n80_10
def n80_12 := cB n80_11
def n80_13 := cL n80_12
def n80_14 := cB n80_13
def n80_15 := cL n80_14
def n80_16 := cB n80_15
def n80_17 := cL n80_16
def n80_18 := cB n80_17
def n80_19 := cL n80_18
def n80_20 := cB n80_19
def n80_21 := cL n80_20
def n80_22 := cB n80_21
def n80_23 := cL n80_22
def n80_24 := cB n80_23
def n80_25 := cL n80_24
def n80_26 := cB n80_25
def n80_27 := cL n80_26
def n80_28 := cB n80_27
def n80_29 := cL n80_28
def n80_30 := cB n80_29
def n80_31 := cL n80_30
def n80_32 := cL n80_31
def n80_33 := cR n80_32
def n80_34 := cL n80_33
def n80_35 := cR n80_33
def n80_36 := cR n80_31
def n80_37 := cL n80_36
def n80_38 := cR n80_37
def n80_39 := cL n80_38
def n80_40 := cR n80_38
def n80_41 := cR n80_36
def n80_42 := cL n80_41
def n80_43 := cR n80_42
def n80_44 := cL n80_43
def n80_45 := cR n80_43
def n80_46 := cR n80_41
def n80_47 := cL n80_46
def n80_48 := cR n80_47
def n80_49 := cL n80_48
def n80_50 := cR n80_48
def n80_51 := cR n80_46
def n80_52 := cL n80_51
def n80_53 := cR n80_52
def n80_54 := cL n80_53
def n80_55 := cR n80_53
def n80_56 := cR n80_51
def n80_57 := cL n80_56
def n80_58 := cR n80_57
def n80_59 := cL n80_58
def n80_60 := cR n80_58
def n80_61 := cR n80_56
def n80_62 := cL n80_61
def n80_63 := cR n80_62
def n80_64 := cL n80_63
def n80_65 := cR n80_63
def n80_66 := cR n80_61
def n80_67 := cL n80_66
def n80_68 := cR n80_67
def n80_69 := cL n80_68
def n80_70 := cR n80_68
def n80_71 := cR n80_66
def n80_72 := cL n80_71
def n80_73 := cR n80_72
def n80_74 := cL n80_73
def n80_75 := cR n80_73
def n80_76 := cR n80_71
def n80_77 := cL n80_76
def n80_78 := cR n80_77
def n80_79 := cL n80_78
def n80_80 := cR n80_78
def n80_81 := cR n80_76
def n80_82 := cL n80_81
def n80_83 := cR n80_82
def n80_84 := cL n80_83
def n80_85 := cR n80_83
def n80_86 := cR n80_81
def n80_87 := cR n80_86
def n80_88 := cL n80_87
def n80_89 := cR n80_87
def n80_90 := cR n80_30
def n80_91 := cR n80_28
def n80_92 := cL n80_91
def n80_93 := cL n80_92
def n80_94 := cR n80_93
def n80_95 := cL n80_94
def n80_96 := cR n80_95
def n80_97 := cR n80_94
def n80_98 := cR n80_92
def n80_99 := cR n80_91
def n80_100 := cR n80_26
def n80_101 := cL n80_100
def n80_102 := cR n80_101
def n80_103 := cL n80_102
def n80_104 := cR n80_103
def n80_105 := cL n80_104
def n80_106 := cR n80_105
def n80_107 := cR n80_104
def n80_108 := cR n80_102
def n80_109 := cL n80_108
def n80_110 := cR n80_109
def n80_111 := cL n80_110
def n80_112 := cR n80_111
def n80_113 := cR n80_110
def n80_114 := cR n80_108
def n80_115 := cR n80_100
def n80_116 := cR n80_24
def n80_117 := cL n80_116
def n80_118 := cR n80_117
def n80_119 := cL n80_118
def n80_120 := cR n80_119
def n80_121 := cL n80_120
def n80_122 := cR n80_121
def n80_123 := cR n80_120
def n80_124 := cR n80_118
def n80_125 := cL n80_124
def n80_126 := cR n80_125
def n80_127 := cL n80_126
def n80_128 := cR n80_127
def n80_129 := cR n80_126
def n80_130 := cR n80_124
def n80_131 := cR n80_130
def n80_132 := cR n80_116
def n80_133 := cR n80_22
def n80_134 := cL n80_133
def n80_135 := cR n80_134
def n80_136 := cL n80_135
def n80_137 := cR n80_136
def n80_138 := cL n80_137
def n80_139 := cR n80_138
def n80_140 := cR n80_137
def n80_141 := cR n80_135
def n80_142 := cL n80_141
def n80_143 := cR n80_142
def n80_144 := cL n80_143
def n80_145 := cR n80_144
def n80_146 := cR n80_143
def n80_147 := cR n80_141
def n80_148 := cR n80_147
def n80_149 := cR n80_133
def n80_150 := cR n80_20
def n80_151 := cL n80_150
def n80_152 := cR n80_151
def n80_153 := cR n80_150
def n80_154 := cR n80_18
def n80_155 := cR n80_16
def n80_156 := cL n80_155
def n80_157 := cR n80_156
def n80_158 := cR n80_155
def n80_159 := cR n80_14
def n80_160 := cL n80_159
def n80_161 := cR n80_160
def n80_162 := cR n80_159
def n80_163 := cR n80_12
def n80_164 := cL n80_163
def n80_165 := cL n80_164
def n80_166 := cB n80_165
def n80_167 := cR n80_166
def n80_168 := cL n80_167
def n80_169 := cR n80_168
def n80_170 := cR n80_167
def n80_171 := cR n80_170
def n80_172 := cL n80_171
def n80_173 := cR n80_172
def n80_174 := cR n80_171
def n80_175 := cR n80_164
def n80_176 := cR n80_175
def n80_177 := cL n80_176
def n80_178 := cR n80_177
def n80_179 := cR n80_178
def n80_180 := cL n80_179
def n80_181 := cR n80_179
def n80_182 := cR n80_181
def n80_183 := cR n80_182
def n80_184 := cL n80_183
def n80_185 := cR n80_183
def n80_186 := cR n80_185
def n80_187 := cR n80_186
def n80_188 := cL n80_187
def n80_189 := cR n80_187
def n80_190 := cR n80_189
def n80_191 := cR n80_176
def n80_192 := cL n80_191
def n80_193 := cR n80_192
def n80_194 := cL n80_193
def n80_195 := cR n80_194
def n80_196 := cR n80_193
def n80_197 := cR n80_191
def n80_198 := cR n80_163
def n80_199 := cR n80_10
def n80_200 := cR n80_199
def n80_201 := cR n80_8
def n80_202 := cR n80_201
def n80_203 := cR n80_6
def n80_204 := cR n80_203
def n80_205 := cR n80_3
def n80_206 := cR n80_205
def q80 := zQ1 cx80 80 Tryz.f80 n80_0 fun s => (bnd (some (s.env.get 2)) fun v => bnd (some []) fun vs => some (v :: vs))
set_option maxRecDepth 20000
set_option maxHeartbeats 4000000
def n80_2_eq := zAll cx80 [[n80_3, n80_2]]
def n80_0_eq := zAll cx80 [[n80_1, n80_0]]
def n80_98_w := zDr cx80 [n80_98] [5] [0,0,2,6,14,31] [0,1,2,3,4] (.o 5 [] [] .f)
def n80_109_w := zDr cx80 [n80_110,n80_109] [] [0,1,3,7,15,31,63,127,255,511,1023,2047,4095,63,16383,32767,65535,131071,63,262207,786495,1835071,4194303,8388607] [0,1,2,3,4,5,6,7,8,9,10,11,12,13,14,15,16,17,18,19,20,21,22,23] .f
def n80_117_w := zDr cx80 [n80_118,n80_117] [5,9,10] [0,0,2,6,14,31,63,127,127,0,767,2047] [0,1,2,3,4] (.b 5 [6,7,8] [] (.o 9 [] [0,4] (.o 10 [11] [] .f)) (.o 9 [] [0,4] (.o 5 [6,7,8] [] (.o 10 [11] [] .f))))
def n80_147_w := zDr cx80 [n80_148,n80_147] [8] [0,0,2,0,8,24,56,120,255,511] [0,1,2,3,4,5,6,7] (.o 8 [9] [] .f)
def n80_151_w := zDr cx80 [n80_152,n80_151] [5] [0,0,2,6,14,31,63,63,255,511] [0,1,2,3,4] (.o 5 [6,7,8,9] [] .f)
def n80_166_w := zDr cx80 [n80_167,n80_166] [] [0,0,2,6,14,31,63] [0,1,2,3,4,5,6] .f
def n80_199_w := zDr cx80 [n80_200,n80_199] [11] [0,1,3,7,0,16,48,112,240,511,1023,2047] [0,1,2,3,4,5,6,7,8,9,10] (.o 11 [] [] .f)
def n80_201_w := zDr cx80 [n80_202,n80_201] [11] [0,1,3,7,0,16,48,112,240,511,1023,2047] [0,1,2,3,4,5,6,7,8,9,10] (.o 11 [] [] .f)
def n80_203_w := zDr cx80 [n80_204,n80_203] [11] [0,1,3,7,0,16,48,112,240,511,1023,2047] [0,1,2,3,4,5,6,7,8,9,10] (.o 11 [] [] .f)
def n80_1_w := zDr cx80 [n80_2,n80_1] [20,21,22,23,24,25,26,27] [0,1,3,7,15,0,32,96,224,511,0,1024,3072,7168,16383,0,32768,98304,229376,524287,0,0,0,0,16777215,33554431,67108863,134217727] [0,1,2,3,4,5,6,7,8,9,10,11,12,13,14,15,16,17,18,19] (.b 20 [] [3,4,8,9,13,14,18,19] (.b 21 [] [3,4,8,9,13,14,18,19] (.b 22 [] [3,4,8,9,13,14,18,19] (.o 23 [] [3,4,8,9,13,14,18,19] (.o 24 [] [] (.o 25 [] [] (.o 26 [] [] (.o 27 [] [] .f))))) (.o 23 [] [3,4,8,9,13,14,18,19] (.o 22 [] [3,4,8,9,13,14,18,19] (.o 24 [] [] (.o 25 [] [] (.o 26 [] [] (.o 27 [] [] .f))))))) (.b 22 [] [3,4,8,9,13,14,18,19] (.b 21 [] [3,4,8,9,13,14,18,19] (.o 23 [] [3,4,8,9,13,14,18,19] (.o 24 [] [] (.o 25 [] [] (.o 26 [] [] (.o 27 [] [] .f))))) (.o 23 [] [3,4,8,9,13,14,18,19] (.o 21 [] [3,4,8,9,13,14,18,19] (.o 24 [] [] (.o 25 [] [] (.o 26 [] [] (.o 27 [] [] .f))))))) (.o 23 [] [3,4,8,9,13,14,18,19] (.b 21 [] [3,4,8,9,13,14,18,19] (.o 22 [] [3,4,8,9,13,14,18,19] (.o 24 [] [] (.o 25 [] [] (.o 26 [] [] (.o 27 [] [] .f))))) (.o 22 [] [3,4,8,9,13,14,18,19] (.o 21 [] [3,4,8,9,13,14,18,19] (.o 24 [] [] (.o 25 [] [] (.o 26 [] [] (.o 27 [] [] .f)))))))))) (.b 21 [] [3,4,8,9,13,14,18,19] (.b 20 [] [3,4,8,9,13,14,18,19] (.b 22 [] [3,4,8,9,13,14,18,19] (.o 23 [] [3,4,8,9,13,14,18,19] (.o 24 [] [] (.o 25 [] [] (.o 26 [] [] (.o 27 [] [] .f))))) (.o 23 [] [3,4,8,9,13,14,18,19] (.o 22 [] [3,4,8,9,13,14,18,19] (.o 24 [] [] (.o 25 [] [] (.o 26 [] [] (.o 27 [] [] .f))))))) (.b 22 [] [3,4,8,9,13,14,18,19] (.b 20 [] [3,4,8,9,13,14,18,19] (.o 23 [] [3,4,8,9,13,14,18,19] (.o 24 [] [] (.o 25 [] [] (.o 26 [] [] (.o 27 [] [] .f))))) (.o 23 [] [3,4,8,9,13,14,18,19] (.o 20 [] [3,4,8,9,13,14,18,19] (.o 24 [] [] (.o 25 [] [] (.o 26 [] [] (.o 27 [] [] .f))))))) (.o 23 [] [3,4,8,9,13,14,18,19] (.b 20 [] [3,4,8,9,13,14,18,19] (.o 22 [] [3,4,8,9,13,14,18,19] (.o 24 [] [] (.o 25 [] [] (.o 26 [] [] (.o 27 [] [] .f))))) (.o 22 [] [3,4,8,9,13,14,18,19] (.o 20 [] [3,4,8,9,13,14,18,19] (.o 24 [] [] (.o 25 [] [] (.o 26 [] [] (.o 27 [] [] .f)))))))))) (.b 22 [] [3,4,8,9,13,14,18,19] (.b 20 [] [3,4,8,9,13,14,18,19] (.b 21 [] [3,4,8,9,13,14,18,19] (.o 23 [] [3,4,8,9,13,14,18,19] (.o 24 [] [] (.o 25 [] [] (.o 26 [] [] (.o 27 [] [] .f))))) (.o 23 [] [3,4,8,9,13,14,18,19] (.o 21 [] [3,4,8,9,13,14,18,19] (.o 24 [] [] (.o 25 [] [] (.o 26 [] [] (.o 27 [] [] .f))))))) (.b 21 [] [3,4,8,9,13,14,18,19] (.b 20 [] [3,4,8,9,13,14,18,19] (.o 23 [] [3,4,8,9,13,14,18,19] (.o 24 [] [] (.o 25 [] [] (.o 26 [] [] (.o 27 [] [] .f))))) (.o 23 [] [3,4,8,9,13,14,18,19] (.o 20 [] [3,4,8,9,13,14,18,19] (.o 24 [] [] (.o 25 [] [] (.o 26 [] [] (.o 27 [] [] .f))))))) (.o 23 [] [3,4,8,9,13,14,18,19] (.b 20 [] [3,4,8,9,13,14,18,19] (.o 21 [] [3,4,8,9,13,14,18,19] (.o 24 [] [] (.o 25 [] [] (.o 26 [] [] (.o 27 [] [] .f))))) (.o 21 [] [3,4,8,9,13,14,18,19] (.o 20 [] [3,4,8,9,13,14,18,19] (.o 24 [] [] (.o 25 [] [] (.o 26 [] [] (.o 27 [] [] .f)))))))))) (.o 23 [] [3,4,8,9,13,14,18,19] (.b 20 [] [3,4,8,9,13,14,18,19] (.b 21 [] [3,4,8,9,13,14,18,19] (.o 22 [] [3,4,8,9,13,14,18,19] (.o 24 [] [] (.o 25 [] [] (.o 26 [] [] (.o 27 [] [] .f))))) (.o 22 [] [3,4,8,9,13,14,18,19] (.o 21 [] [3,4,8,9,13,14,18,19] (.o 24 [] [] (.o 25 [] [] (.o 26 [] [] (.o 27 [] [] .f))))))) (.b 21 [] [3,4,8,9,13,14,18,19] (.b 20 [] [3,4,8,9,13,14,18,19] (.o 22 [] [3,4,8,9,13,14,18,19] (.o 24 [] [] (.o 25 [] [] (.o 26 [] [] (.o 27 [] [] .f))))) (.o 22 [] [3,4,8,9,13,14,18,19] (.o 20 [] [3,4,8,9,13,14,18,19] (.o 24 [] [] (.o 25 [] [] (.o 26 [] [] (.o 27 [] [] .f))))))) (.o 22 [] [3,4,8,9,13,14,18,19] (.b 20 [] [3,4,8,9,13,14,18,19] (.o 21 [] [3,4,8,9,13,14,18,19] (.o 24 [] [] (.o 25 [] [] (.o 26 [] [] (.o 27 [] [] .f))))) (.o 21 [] [3,4,8,9,13,14,18,19] (.o 20 [] [3,4,8,9,13,14,18,19] (.o 24 [] [] (.o 25 [] [] (.o 26 [] [] (.o 27 [] [] .f))))))))))))))
def sn80 := zAll cx80 [[n80_34],[n80_35],[n80_34,n80_35,n80_33],[n80_33,n80_32],[n80_39],[n80_40],[n80_39,n80_40,n80_38],[n80_38,n80_37],[n80_44],[n80_45],[n80_44,n80_45,n80_43],[n80_43,n80_42],[n80_49],[n80_50],[n80_49,n80_50,n80_48],[n80_48,n80_47],[n80_54],[n80_55],[n80_54,n80_55,n80_53],[n80_53,n80_52],[n80_59],[n80_60],[n80_59,n80_60,n80_58],[n80_58,n80_57],[n80_64],[n80_65],[n80_64,n80_65,n80_63],[n80_63,n80_62],[n80_69],[n80_70],[n80_69,n80_70,n80_68],[n80_68,n80_67],[n80_74],[n80_75],[n80_74,n80_75,n80_73],[n80_73,n80_72],[n80_79],[n80_80],[n80_79,n80_80,n80_78],[n80_78,n80_77],[n80_84],[n80_85],[n80_84,n80_85,n80_83],[n80_83,n80_82],[n80_88],[n80_89],[n80_88,n80_89,n80_87],[n80_87,n80_86],[n80_82,n80_86,n80_81],[n80_77,n80_81,n80_76],[n80_72,n80_76,n80_71],[n80_67,n80_71,n80_66],[n80_62,n80_66,n80_61],[n80_57,n80_61,n80_56],[n80_52,n80_56,n80_51],[n80_47,n80_51,n80_46],[n80_42,n80_46,n80_41],[n80_37,n80_41,n80_36],[n80_32,n80_36,n80_31],[n80_90],[n80_31,n80_90,n80_30],[n80_30,n80_29],[n80_96],[n80_96,n80_95],[n80_97],[n80_95,n80_97,n80_94],[n80_94,n80_93],[n80_93,n80_98,n80_92],[n80_99],[n80_92,n80_99,n80_91],[n80_29,n80_91,n80_28],[n80_28,n80_27],[n80_106],[n80_106,n80_105],[n80_107],[n80_105,n80_107,n80_104],[n80_104,n80_103],[n80_112],[n80_112,n80_111],[n80_113],[n80_111,n80_113,n80_110],[n80_114],[n80_109,n80_114,n80_108],[n80_103,n80_108,n80_102],[n80_102,n80_101],[n80_115],[n80_101,n80_115,n80_100],[n80_27,n80_100,n80_26],[n80_26,n80_25],[n80_122],[n80_122,n80_121],[n80_123],[n80_121,n80_123,n80_120],[n80_120,n80_119],[n80_128],[n80_128,n80_127],[n80_129],[n80_127,n80_129,n80_126],[n80_126,n80_125],[n80_131],[n80_131,n80_130],[n80_125,n80_130,n80_124],[n80_119,n80_124,n80_118],[n80_132],[n80_117,n80_132,n80_116],[n80_25,n80_116,n80_24],[n80_24,n80_23],[n80_139],[n80_139,n80_138],[n80_140],[n80_138,n80_140,n80_137],[n80_137,n80_136],[n80_145],[n80_145,n80_144],[n80_146],[n80_144,n80_146,n80_143],[n80_143,n80_142],[n80_148],[n80_142,n80_147,n80_141],[n80_136,n80_141,n80_135],[n80_135,n80_134],[n80_149],[n80_134,n80_149,n80_133],[n80_23,n80_133,n80_22],[n80_22,n80_21],[n80_152],[n80_153],[n80_151,n80_153,n80_150],[n80_21,n80_150,n80_20],[n80_20,n80_19],[n80_154],[n80_19,n80_154,n80_18],[n80_18,n80_17],[n80_157],[n80_157,n80_156],[n80_158],[n80_156,n80_158,n80_155],[n80_17,n80_155,n80_16],[n80_16,n80_15],[n80_161],[n80_161,n80_160],[n80_162],[n80_160,n80_162,n80_159],[n80_15,n80_159,n80_14],[n80_14,n80_13],[n80_169],[n80_169,n80_168],[n80_173],[n80_173,n80_172],[n80_174],[n80_172,n80_174,n80_171],[n80_171,n80_170],[n80_168,n80_170,n80_167],[n80_166,n80_165],[n80_180],[n80_184],[n80_188],[n80_190],[n80_190,n80_189],[n80_188,n80_189,n80_187],[n80_187,n80_186],[n80_186,n80_185],[n80_184,n80_185,n80_183],[n80_183,n80_182],[n80_182,n80_181],[n80_180,n80_181,n80_179],[n80_179,n80_178],[n80_178,n80_177],[n80_195],[n80_195,n80_194],[n80_196],[n80_194,n80_196,n80_193],[n80_193,n80_192],[n80_197],[n80_192,n80_197,n80_191],[n80_177,n80_191,n80_176],[n80_176,n80_175],[n80_165,n80_175,n80_164],[n80_198],[n80_164,n80_198,n80_163],[n80_13,n80_163,n80_12],[n80_12,n80_11],[n80_200],[n80_11,n80_199,n80_10],[n80_10,n80_9],[n80_202],[n80_9,n80_201,n80_8],[n80_8,n80_7],[n80_204],[n80_7,n80_203,n80_6],[n80_6,n80_5],[n80_5,n80_4],[n80_206],[n80_206,n80_205],[n80_4,n80_205,n80_3],[n80_3,n80_2],[n80_1,n80_0]]
end
end Go.Vab

/-
  A step is done, for oneself, or to what waits: the first statements, whose order is open; walked.
-/
namespace Go.Vab
open Go Go.Proofs
theorem runRp13_0 {G X : Prop} (f : Hd X → G := by
 intro xX
 repeat' (first | refine stp (x := ?_) | (with_reducible refine bothP_i ?_ ?_) | (simp (decide := true) only [n80_2_eq, snB, if_true, if_false]))
 exact xX.get) (x : X) : G := f ⟨x⟩
section
variable {κ : Nat → Nat} {H : Heap} {c xb : Nat} {s : Stt} {b : Pt} {a : Actn} {m : BitVec 8} {vt vp vs vi va vb wt wp : AV}
set_option maxHeartbeats 8000000 in
theorem more_start1 (x : Sx κ H c xb s b a m vt vp vs vi va vb wt wp) {Q : Ex × St → Prop} {env : Env} (g0 : env.get 0 = .ptr xb 0 [] tLstep)
  (tail : ∀ (env' : Env) (l : Heap) (p3 p4 p5 p6 : Nat), env'.get 0 = .ptr xb 0 [] tLstep → env'.get 3 = .ptr p3 0 [] tRollSeat → env'.get 4 = .ptr p4 0 [] tRollInvite → env'.get 5 = .ptr p5 0 [] tRollAsk → env'.get 6 = .ptr p6 0 [] tRollBan → Cel κ (H ++ l) p3 (rollS c) → Cel κ (H ++ l) p4 (rollI c) → Cel κ (H ++ l) p5 (rollA c) → Cel κ (H ++ l) p6 (rollB c) → wC Tryz.prog cx80 n80_2 Q ⟨env', H ++ l⟩) :
  wC Tryz.prog cx80 n80_0 Q ⟨env, H⟩ := by
 have sx := x.blk
 have wb := x.w.blk
 have sx0 := blk_of x.st
 have wb0 := blk_of x.w.cell
 have top := x.w.top
 repeat' (first | ((with_reducible refine evs_of (a := ?_) ?_ ?_); rotate_left; (focus ((conv => lhs; simp (disch := omega) [g0, sx, wb, sx0, wb0]); done)); try dsimp only) | ((with_reducible refine gW_do ?_ ?_); (focus (simp (disch := omega) [g0, sx, wb, sx0, wb0]; done))) | ((with_reducible refine gW_no ?_ ?_); (focus (simp (disch := omega) [g0, sx, wb, sx0, wb0]; done)); try dsimp only) | ((with_reducible refine gW_un ?_ ?_); (focus (simp (disch := omega) [g0, sx, wb, sx0, wb0]; done)); try dsimp only) | ((with_reducible refine cndW_T ?_ ?_); (focus (simp (disch := omega) [g0, sx, wb, sx0, wb0] <;> omega))) | ((with_reducible refine cndW_F ?_ ?_); (focus (simp (disch := omega) [g0, sx, wb, sx0, wb0] <;> omega))) | ((with_reducible refine stabP_i ?_ ?_); (focus (simp (disch := omega) [g0, sx, wb, sx0, wb0]; done))) | (with_reducible refine bothP_i ?_ ?_) | (with_reducible refine wL_i ?_) | ((with_reducible refine ValW_do ?_ ?_); (focus (simp (disch := omega) [g0, sx, wb, sx0, wb0]; done)); try dsimp only) | ((with_reducible refine ValW_no ?_ ?_); (focus (simp (disch := omega) [g0, sx, wb, sx0, wb0]; done)); try dsimp only) | ((with_reducible refine ValW_un ?_ ?_); (focus (simp (disch := omega) [g0, sx, wb, sx0, wb0]; done)); try dsimp only) | (with_reducible refine ValW_i (c63 x.w.lt) ?_; try dsimp only) | (with_reducible refine SpecQ.step (c63 x.w.lt) ?_; rintro _ rfl; try dsimp only) | (with_reducible refine stabP_i (c63 x.w.lt) ?_) | (with_reducible refine ValW_i (c64 x.w.lt) ?_; try dsimp only) | (with_reducible refine SpecQ.step (c64 x.w.lt) ?_; rintro _ rfl; try dsimp only) | (with_reducible refine stabP_i (c64 x.w.lt) ?_) | (with_reducible refine ValW_i (c65 x.w.lt) ?_; try dsimp only) | (with_reducible refine SpecQ.step (c65 x.w.lt) ?_; rintro _ rfl; try dsimp only) | (with_reducible refine stabP_i (c65 x.w.lt) ?_) | (with_reducible refine ValW_i (c94 x.w.lt) ?_; try dsimp only) | (with_reducible refine SpecQ.step (c94 x.w.lt) ?_; rintro _ rfl; try dsimp only) | (with_reducible refine stabP_i (c94 x.w.lt) ?_) | (with_reducible refine ValW_i (c63 (x.lt _)) ?_; try dsimp only) | (with_reducible refine SpecQ.step (c63 (x.lt _)) ?_; rintro _ rfl; try dsimp only) | (with_reducible refine stabP_i (c63 (x.lt _)) ?_) | (with_reducible refine ValW_i (c64 (x.lt _)) ?_; try dsimp only) | (with_reducible refine SpecQ.step (c64 (x.lt _)) ?_; rintro _ rfl; try dsimp only) | (with_reducible refine stabP_i (c64 (x.lt _)) ?_) | (with_reducible refine ValW_i (c65 (x.lt _)) ?_; try dsimp only) | (with_reducible refine SpecQ.step (c65 (x.lt _)) ?_; rintro _ rfl; try dsimp only) | (with_reducible refine stabP_i (c65 (x.lt _)) ?_) | (with_reducible refine ValW_i (c94 (x.lt _)) ?_; try dsimp only) | (with_reducible refine SpecQ.step (c94 (x.lt _)) ?_; rintro _ rfl; try dsimp only) | (with_reducible refine stabP_i (c94 (x.lt _)) ?_) | ((with_reducible refine SpecA_i (args' := ?_) ?_ ?_); rotate_left; (focus ((conv => lhs; simp (disch := omega) [g0, sx, wb, sx0, wb0]); done))) | ((with_reducible refine ValA_i (args' := ?_) ?_ ?_); rotate_left; (focus ((conv => lhs; simp (disch := omega) [g0, sx, wb, sx0, wb0]); done))) | ((with_reducible refine stabA_i (args' := ?_) ?_ ?_); rotate_left; (focus ((conv => lhs; simp (disch := omega) [g0, sx, wb, sx0, wb0]); done))) | ((with_reducible refine ValA_fn (g := ?_) (caps := ?_) ?_ ?_); rotate_left; rotate_left; (focus ((conv => lhs; simp (disch := omega) [g0, sx, wb, sx0, wb0]); done))) | ((with_reducible refine stabA_fn (g := ?_) (caps := ?_) ?_ ?_); rotate_left; rotate_left; (focus ((conv => lhs; simp (disch := omega) [g0, sx, wb, sx0, wb0]); done))) | ((with_reducible refine stab_do ?_ ?_); (focus (simp (disch := omega) [g0, sx, wb, sx0, wb0]; done))) | (simp (decide := true) only [n80_0_eq, sqW_nrm, sqW_exit, sqW_ret, inBlk_nrm, inBlk_ret, inBlk_same, inBlk_exit, if_true, if_false, retW_nrm, retW_ret]) | (with_reducible refine n80_1_w _ _ _ ?_) | ((with_reducible refine cndW_splitE (b := ?_) ?_ ?_ ?_); rotate_left; (focus ((conv => lhs; simp (disch := omega) [g0, sx, wb, sx0, wb0]); done)); all_goals ((intro hb; try simp only [Bool.not_true, Bool.not_false] at hb); try simp only [hb])) | ((with_reducible refine gv_splitE (b := ?_) ?_ ?_ ?_); rotate_left; (focus ((conv => lhs; simp (disch := omega) [g0, sx, wb, sx0, wb0]); done)); all_goals ((intro hb; try simp only [Bool.not_true, Bool.not_false] at hb); try simp only [hb])) | ((with_reducible refine gW_splitE (b := ?_) ?_ ?_ ?_); rotate_left; (focus ((conv => lhs; simp (disch := omega) [g0, sx, wb, sx0, wb0]); done)); all_goals ((intro hb; try simp only [Bool.not_true, Bool.not_false] at hb); try simp only [hb])) | (with_reducible refine gv_split ?_ ?_ <;> (intro hb; try simp only [Bool.not_true, Bool.not_false] at hb) <;> try simp only [hb]) | (with_reducible refine gW_split ?_ ?_ <;> (intro hb; try simp only [Bool.not_true, Bool.not_false] at hb) <;> try simp only [hb]) | (with_reducible refine cndW_split ?_ ?_ <;> (intro hb; try simp only [Bool.not_true, Bool.not_false] at hb) <;> try simp only [hb]) | (with_reducible refine ValW_split ?_ ?_ <;> (intro hb; try simp only [Bool.not_true, Bool.not_false] at hb) <;> try simp only [hb]))
 all_goals first
  | exact tail _ _ H.length (H.length + 1) (H.length + 2) (H.length + 3) (by simp [g0]) (by simp) (by simp) (by simp) (by simp) (Cel.new0 top (by rfl)) (Cel.new (k := 1) top (by rfl)) (Cel.new (k := 2) top (by rfl)) (Cel.new (k := 3) top (by rfl))
  | exact tail _ _ H.length (H.length + 1) (H.length + 3) (H.length + 2) (by simp [g0]) (by simp) (by simp) (by simp) (by simp) (Cel.new0 top (by rfl)) (Cel.new (k := 1) top (by rfl)) (Cel.new (k := 3) top (by rfl)) (Cel.new (k := 2) top (by rfl))
  | exact tail _ _ H.length (H.length + 2) (H.length + 1) (H.length + 3) (by simp [g0]) (by simp) (by simp) (by simp) (by simp) (Cel.new0 top (by rfl)) (Cel.new (k := 2) top (by rfl)) (Cel.new (k := 1) top (by rfl)) (Cel.new (k := 3) top (by rfl))
  | exact tail _ _ H.length (H.length + 2) (H.length + 3) (H.length + 1) (by simp [g0]) (by simp) (by simp) (by simp) (by simp) (Cel.new0 top (by rfl)) (Cel.new (k := 2) top (by rfl)) (Cel.new (k := 3) top (by rfl)) (Cel.new (k := 1) top (by rfl))
  | exact tail _ _ H.length (H.length + 3) (H.length + 1) (H.length + 2) (by simp [g0]) (by simp) (by simp) (by simp) (by simp) (Cel.new0 top (by rfl)) (Cel.new (k := 3) top (by rfl)) (Cel.new (k := 1) top (by rfl)) (Cel.new (k := 2) top (by rfl))
  | exact tail _ _ H.length (H.length + 3) (H.length + 2) (H.length + 1) (by simp [g0]) (by simp) (by simp) (by simp) (by simp) (Cel.new0 top (by rfl)) (Cel.new (k := 3) top (by rfl)) (Cel.new (k := 2) top (by rfl)) (Cel.new (k := 1) top (by rfl))
  | exact tail _ _ (H.length + 1) H.length (H.length + 2) (H.length + 3) (by simp [g0]) (by simp) (by simp) (by simp) (by simp) (Cel.new (k := 1) top (by rfl)) (Cel.new0 top (by rfl)) (Cel.new (k := 2) top (by rfl)) (Cel.new (k := 3) top (by rfl))
  | exact tail _ _ (H.length + 1) H.length (H.length + 3) (H.length + 2) (by simp [g0]) (by simp) (by simp) (by simp) (by simp) (Cel.new (k := 1) top (by rfl)) (Cel.new0 top (by rfl)) (Cel.new (k := 3) top (by rfl)) (Cel.new (k := 2) top (by rfl))
  | exact tail _ _ (H.length + 1) (H.length + 2) H.length (H.length + 3) (by simp [g0]) (by simp) (by simp) (by simp) (by simp) (Cel.new (k := 1) top (by rfl)) (Cel.new (k := 2) top (by rfl)) (Cel.new0 top (by rfl)) (Cel.new (k := 3) top (by rfl))
  | exact tail _ _ (H.length + 1) (H.length + 2) (H.length + 3) H.length (by simp [g0]) (by simp) (by simp) (by simp) (by simp) (Cel.new (k := 1) top (by rfl)) (Cel.new (k := 2) top (by rfl)) (Cel.new (k := 3) top (by rfl)) (Cel.new0 top (by rfl))
  | exact tail _ _ (H.length + 1) (H.length + 3) H.length (H.length + 2) (by simp [g0]) (by simp) (by simp) (by simp) (by simp) (Cel.new (k := 1) top (by rfl)) (Cel.new (k := 3) top (by rfl)) (Cel.new0 top (by rfl)) (Cel.new (k := 2) top (by rfl))
  | exact tail _ _ (H.length + 1) (H.length + 3) (H.length + 2) H.length (by simp [g0]) (by simp) (by simp) (by simp) (by simp) (Cel.new (k := 1) top (by rfl)) (Cel.new (k := 3) top (by rfl)) (Cel.new (k := 2) top (by rfl)) (Cel.new0 top (by rfl))
  | exact tail _ _ (H.length + 2) H.length (H.length + 1) (H.length + 3) (by simp [g0]) (by simp) (by simp) (by simp) (by simp) (Cel.new (k := 2) top (by rfl)) (Cel.new0 top (by rfl)) (Cel.new (k := 1) top (by rfl)) (Cel.new (k := 3) top (by rfl))
  | exact tail _ _ (H.length + 2) H.length (H.length + 3) (H.length + 1) (by simp [g0]) (by simp) (by simp) (by simp) (by simp) (Cel.new (k := 2) top (by rfl)) (Cel.new0 top (by rfl)) (Cel.new (k := 3) top (by rfl)) (Cel.new (k := 1) top (by rfl))
  | exact tail _ _ (H.length + 2) (H.length + 1) H.length (H.length + 3) (by simp [g0]) (by simp) (by simp) (by simp) (by simp) (Cel.new (k := 2) top (by rfl)) (Cel.new (k := 1) top (by rfl)) (Cel.new0 top (by rfl)) (Cel.new (k := 3) top (by rfl))
  | exact tail _ _ (H.length + 2) (H.length + 1) (H.length + 3) H.length (by simp [g0]) (by simp) (by simp) (by simp) (by simp) (Cel.new (k := 2) top (by rfl)) (Cel.new (k := 1) top (by rfl)) (Cel.new (k := 3) top (by rfl)) (Cel.new0 top (by rfl))
  | exact tail _ _ (H.length + 2) (H.length + 3) H.length (H.length + 1) (by simp [g0]) (by simp) (by simp) (by simp) (by simp) (Cel.new (k := 2) top (by rfl)) (Cel.new (k := 3) top (by rfl)) (Cel.new0 top (by rfl)) (Cel.new (k := 1) top (by rfl))
  | exact tail _ _ (H.length + 2) (H.length + 3) (H.length + 1) H.length (by simp [g0]) (by simp) (by simp) (by simp) (by simp) (Cel.new (k := 2) top (by rfl)) (Cel.new (k := 3) top (by rfl)) (Cel.new (k := 1) top (by rfl)) (Cel.new0 top (by rfl))
  | exact tail _ _ (H.length + 3) H.length (H.length + 1) (H.length + 2) (by simp [g0]) (by simp) (by simp) (by simp) (by simp) (Cel.new (k := 3) top (by rfl)) (Cel.new0 top (by rfl)) (Cel.new (k := 1) top (by rfl)) (Cel.new (k := 2) top (by rfl))
  | exact tail _ _ (H.length + 3) H.length (H.length + 2) (H.length + 1) (by simp [g0]) (by simp) (by simp) (by simp) (by simp) (Cel.new (k := 3) top (by rfl)) (Cel.new0 top (by rfl)) (Cel.new (k := 2) top (by rfl)) (Cel.new (k := 1) top (by rfl))
  | exact tail _ _ (H.length + 3) (H.length + 1) H.length (H.length + 2) (by simp [g0]) (by simp) (by simp) (by simp) (by simp) (Cel.new (k := 3) top (by rfl)) (Cel.new (k := 1) top (by rfl)) (Cel.new0 top (by rfl)) (Cel.new (k := 2) top (by rfl))
  | exact tail _ _ (H.length + 3) (H.length + 1) (H.length + 2) H.length (by simp [g0]) (by simp) (by simp) (by simp) (by simp) (Cel.new (k := 3) top (by rfl)) (Cel.new (k := 1) top (by rfl)) (Cel.new (k := 2) top (by rfl)) (Cel.new0 top (by rfl))
  | exact tail _ _ (H.length + 3) (H.length + 2) H.length (H.length + 1) (by simp [g0]) (by simp) (by simp) (by simp) (by simp) (Cel.new (k := 3) top (by rfl)) (Cel.new (k := 2) top (by rfl)) (Cel.new0 top (by rfl)) (Cel.new (k := 1) top (by rfl))
  | exact tail _ _ (H.length + 3) (H.length + 2) (H.length + 1) H.length (by simp [g0]) (by simp) (by simp) (by simp) (by simp) (Cel.new (k := 3) top (by rfl)) (Cel.new (k := 2) top (by rfl)) (Cel.new (k := 1) top (by rfl)) (Cel.new0 top (by rfl))
structure Mx (κ : Nat → Nat) (G : Heap) (c xb : Nat) (s : Stt) (b : Pt) (a : Actn) (m : BitVec 8) (vt vp vs vi va vb wt wp : AV) (pe : Pt) (env : Env) (p3 p4 p5 p6 p7 : Nat) : Prop where
 x : Sx κ G c xb s b a m vt vp vs vi va vb wt wp
 c3 : Cel κ G p3 (rollS c)
 c4 : Cel κ G p4 (rollI c)
 c5 : Cel κ G p5 (rollA c)
 c6 : Cel κ G p6 (rollB c)
 c7 : Cel κ G p7 (pt pe)
 e0 : env.get 0 = .ptr xb 0 [] tLstep
 e3 : env.get 3 = .ptr p3 0 [] tRollSeat
 e4 : env.get 4 = .ptr p4 0 [] tRollInvite
 e5 : env.get 5 = .ptr p5 0 [] tRollAsk
 e6 : env.get 6 = .ptr p6 0 [] tRollBan
 e7 : env.get 7 = .ptr p7 0 [] (.arr 32 (.int .u8))
theorem Mx.next {G : Heap} {pe : Pt} {env : Env} {p3 p4 p5 p6 p7 : Nat} {κ' : Nat → Nat} {G' : Heap} {s' : Stt} {ut up us ui ua ub : AV} (d : Mx κ G c xb s b a m vt vp vs vi va vb wt wp pe env p3 p4 p5 p6 p7) (fr : Fr κ G κ' G') (w' : Wk κ' G' c s' ut up us ui ua ub) : Mx κ' G' c xb s' b a m ut up us ui ua ub wt wp pe env p3 p4 p5 p6 p7 :=
 ⟨d.x.next fr w', d.c3.next fr, d.c4.next fr, d.c5.next fr, d.c6.next fr, d.c7.next fr, d.e0, d.e3, d.e4, d.e5, d.e6, d.e7⟩
theorem more_start (x : Sx κ H c xb s b a m vt vp vs vi va vb wt wp) {Q : Ex × St → Prop} {env : Env} (g0 : env.get 0 = .ptr xb 0 [] tLstep)
  (tail : ∀ (κ' : Nat → Nat) (env' : Env) (G : Heap) (p3 p4 p5 p6 p7 : Nat), Mx κ' G c xb s b a m vt vp vs vi va vb wt wp a.e env' p3 p4 p5 p6 p7 → Fr κ H κ' G → κ' p7 = 6 → H.length ≤ p7 → p5 ≠ p7 → wC Tryz.prog cx80 n80_3 Q ⟨env', G⟩) : wC Tryz.prog cx80 n80_0 Q ⟨env, H⟩ := by
 refine more_start1 x g0 fun env' l p3 p4 p5 p6 e0 e3 e4 e5 e6 c3 c4 c5 c6 => ?_
 have x1 := x.app l
 have sx0 := blk_of x1.st
 have hl : (H ++ l).length = H.length + l.length := List.length_append
 obtain ⟨G, hG⟩ : ∃ G, G = H ++ l := ⟨_, rfl⟩
 have f0 : Fr κ H κ G := by rw [hG]; exact (Fr.refl _ _).app
 rw [← hG] at x1 c3 c4 c5 c6 sx0 hl ⊢
 have ff := aI e0 sx0
 refine runRp13_0 (x := ?_)
 clear ff
 refine tail (scr κ G.length) _ _ p3 p4 p5 p6 G.length ⟨x1.scr _, c3.scr _, c4.scr _, c5.scr _, c6.scr _, Cel.own _ _ _, by simp [e0], by simp [e3], by simp [e4], by simp [e5], by simp [e6], by simp⟩ ?_ (scr_self _ _) (by omega) (by have := c5.lt; omega)
 have := Fr.scr (κ := κ) (H := G) (l := [⟨pt a.e, 0, .own⟩]) (n := G.length) (Fr.refl _ _) (Nat.le_refl _)
 exact f0.trans this
end
end Go.Vab

/-
  A step is done, for oneself, or to what waits: leave, uninvite, decline, unask, refuse, unban, title, access, password, approve; walked.
-/
namespace Go.Vab
open Go Go.Proofs
theorem runRp14_0 {G X : Prop} (f : Hd X → G := by
 intro xX
 repeat' (first | refine stp (x := ?_) | (with_reducible refine bothP_i ?_ ?_) | (with_reducible refine ValW_i (c79 x) ?_; try dsimp only) | (with_reducible refine SpecQ.step (c79 x) ?_; rintro _ rfl; try dsimp only) | (with_reducible refine stabP_i (c79 x) ?_) | (simp (decide := true) only [sn80, snB, if_true, if_false]) | (with_reducible refine n80_98_w _ _ _ ?_) | (with_reducible refine n80_109_w _ _ _ ?_) | (with_reducible refine n80_117_w _ _ _ ?_) | (with_reducible refine n80_147_w _ _ _ ?_) | (with_reducible refine n80_151_w _ _ _ ?_) | (with_reducible refine n80_166_w _ _ _ ?_) | (with_reducible refine n80_199_w _ _ _ ?_) | (with_reducible refine n80_201_w _ _ _ ?_) | (with_reducible refine n80_203_w _ _ _ ?_) | (with_reducible refine n80_1_w _ _ _ ?_))
 exact xX.get) (x : X) : G := f ⟨x⟩
theorem runRp14_1 {G X : Prop} (f : Hd X → G := by
 intro xX
 repeat' (first | refine stp (x := ?_) | (with_reducible refine bothP_i ?_ ?_) | (simp (decide := true) only [sn80, snB, if_true, if_false]) | (with_reducible refine n80_98_w _ _ _ ?_) | (with_reducible refine n80_109_w _ _ _ ?_) | (with_reducible refine n80_117_w _ _ _ ?_) | (with_reducible refine n80_147_w _ _ _ ?_) | (with_reducible refine n80_151_w _ _ _ ?_) | (with_reducible refine n80_166_w _ _ _ ?_) | (with_reducible refine n80_199_w _ _ _ ?_) | (with_reducible refine n80_201_w _ _ _ ?_) | (with_reducible refine n80_203_w _ _ _ ?_) | (with_reducible refine n80_1_w _ _ _ ?_))
 exact xX.get) (x : X) : G := f ⟨x⟩
theorem runRp14_2 {G X : Prop} (f : Hd X → G := by
 intro xX
 repeat' (first | refine stp (x := ?_) | (with_reducible refine bothP_i ?_ ?_) | (with_reducible refine ValW_i (c99 x.w hs) ?_; try dsimp only) | (with_reducible refine SpecQ.step (c99 x.w hs) ?_; rintro _ rfl; try dsimp only) | (with_reducible refine stabP_i (c99 x.w hs) ?_) | (simp (decide := true) only [sn80, snB, if_true, if_false]) | (with_reducible refine n80_98_w _ _ _ ?_) | (with_reducible refine n80_109_w _ _ _ ?_) | (with_reducible refine n80_117_w _ _ _ ?_) | (with_reducible refine n80_147_w _ _ _ ?_) | (with_reducible refine n80_151_w _ _ _ ?_) | (with_reducible refine n80_166_w _ _ _ ?_) | (with_reducible refine n80_199_w _ _ _ ?_) | (with_reducible refine n80_201_w _ _ _ ?_) | (with_reducible refine n80_203_w _ _ _ ?_) | (with_reducible refine n80_1_w _ _ _ ?_))
 exact xX.get) (x : X) : G := f ⟨x⟩
theorem runRp14_3 {G X : Prop} (f : Hd X → G := by
 intro xX
 repeat' (first | refine stp (x := ?_) | (with_reducible refine bothP_i ?_ ?_) | (with_reducible refine ValW_i (c109) ?_; try dsimp only) | (with_reducible refine SpecQ.step (c109) ?_; rintro _ rfl; try dsimp only) | (with_reducible refine stabP_i (c109) ?_) | (simp (decide := true) only [sn80, snB, if_true, if_false]) | (with_reducible refine n80_98_w _ _ _ ?_) | (with_reducible refine n80_109_w _ _ _ ?_) | (with_reducible refine n80_117_w _ _ _ ?_) | (with_reducible refine n80_147_w _ _ _ ?_) | (with_reducible refine n80_151_w _ _ _ ?_) | (with_reducible refine n80_166_w _ _ _ ?_) | (with_reducible refine n80_199_w _ _ _ ?_) | (with_reducible refine n80_201_w _ _ _ ?_) | (with_reducible refine n80_203_w _ _ _ ?_) | (with_reducible refine n80_1_w _ _ _ ?_))
 exact xX.get) (x : X) : G := f ⟨x⟩
theorem runRp14_4 {G X : Prop} (f : Hd X → G := by
 intro xX
 repeat' (first | refine stp (x := ?_) | (with_reducible refine bothP_i ?_ ?_) | (with_reducible refine ValW_i (c110) ?_; try dsimp only) | (with_reducible refine SpecQ.step (c110) ?_; rintro _ rfl; try dsimp only) | (with_reducible refine stabP_i (c110) ?_) | (simp (decide := true) only [sn80, snB, if_true, if_false]) | (with_reducible refine n80_98_w _ _ _ ?_) | (with_reducible refine n80_109_w _ _ _ ?_) | (with_reducible refine n80_117_w _ _ _ ?_) | (with_reducible refine n80_147_w _ _ _ ?_) | (with_reducible refine n80_151_w _ _ _ ?_) | (with_reducible refine n80_166_w _ _ _ ?_) | (with_reducible refine n80_199_w _ _ _ ?_) | (with_reducible refine n80_201_w _ _ _ ?_) | (with_reducible refine n80_203_w _ _ _ ?_) | (with_reducible refine n80_1_w _ _ _ ?_))
 exact xX.get) (x : X) : G := f ⟨x⟩
theorem runRp14_5 {G X : Prop} (f : Hd X → G := by
 intro xX
 repeat' (first | refine stp (x := ?_) | (with_reducible refine bothP_i ?_ ?_) | (with_reducible refine ValW_i (c111) ?_; try dsimp only) | (with_reducible refine SpecQ.step (c111) ?_; rintro _ rfl; try dsimp only) | (with_reducible refine stabP_i (c111) ?_) | (simp (decide := true) only [sn80, snB, if_true, if_false]) | (with_reducible refine n80_98_w _ _ _ ?_) | (with_reducible refine n80_109_w _ _ _ ?_) | (with_reducible refine n80_117_w _ _ _ ?_) | (with_reducible refine n80_147_w _ _ _ ?_) | (with_reducible refine n80_151_w _ _ _ ?_) | (with_reducible refine n80_166_w _ _ _ ?_) | (with_reducible refine n80_199_w _ _ _ ?_) | (with_reducible refine n80_201_w _ _ _ ?_) | (with_reducible refine n80_203_w _ _ _ ?_) | (with_reducible refine n80_1_w _ _ _ ?_))
 exact xX.get) (x : X) : G := f ⟨x⟩
theorem runRp14_6 {G X : Prop} (f : Hd X → G := by
 intro xX
 repeat' (first | refine stp (x := ?_) | (with_reducible refine bothP_i ?_ ?_) | (with_reducible refine ValW_i (c67 (d1.x.w.app _)) ?_; try dsimp only) | (with_reducible refine SpecQ.step (c67 (d1.x.w.app _)) ?_; rintro _ rfl; try dsimp only) | (with_reducible refine stabP_i (c67 (d1.x.w.app _)) ?_) | (simp (decide := true) only [sn80, snB, if_true, if_false]) | (with_reducible refine n80_98_w _ _ _ ?_) | (with_reducible refine n80_109_w _ _ _ ?_) | (with_reducible refine n80_117_w _ _ _ ?_) | (with_reducible refine n80_147_w _ _ _ ?_) | (with_reducible refine n80_151_w _ _ _ ?_) | (with_reducible refine n80_166_w _ _ _ ?_) | (with_reducible refine n80_199_w _ _ _ ?_) | (with_reducible refine n80_201_w _ _ _ ?_) | (with_reducible refine n80_203_w _ _ _ ?_) | (with_reducible refine n80_1_w _ _ _ ?_))
 exact xX.get) (x : X) : G := f ⟨x⟩
section
variable {κ κ0 : Nat → Nat} {G H0 : Heap} {c xb : Nat} {s : Stt} {b : Pt} {a : Actn} {m : BitVec 8} {vt vp vs vi va vb wt wp : AV} {env : Env} {p3 p4 p5 p6 p7 : Nat} {K : AV × Heap → Prop}
set_option maxHeartbeats 2000000 in
theorem more_4 (d : Mx κ G c xb s b a m vt vp vs vi va vb wt wp a.e env p3 p4 p5 p6 p7) (f0 : Fr κ0 H0 κ G) (hs : Srt s) (ms : mayS s = true) (ok : Okd s b a) (hmm : m = roleOf s b) (hk : a.kind = 4#8) (hK : ∀ r, DoR κ0 H0 c (madeP s b a) r → K r) : wC Tryz.prog cx80 n80_3 (retW (fun s => (bnd (some (s.env.get 2)) fun v => bnd (some []) fun vs => some (v :: vs))) K) ⟨env, G⟩ := by
 have sx0 := blk_of d.x.st
 have wb0 := blk_of d.x.w.cell
 have wc0 := d.x.w.cells
 have d0 := d
 obtain ⟨x, c3, c4, c5, c6, c7, e0, e3, e4, e5, e6, e7⟩ := d
 subst hmm
 have hm := ok.mem (by simp [hk])
 have hl := x.w.fs.len
 have b3 := c3.blk0
 have go : ¬ (roleOf s b = 2#8 ∧ admins s = 1 ∧ 1 < s.seats.length) → madeP s b a = .ok { s with seats := del fS s.seats b } := fun h => by simp [madeP, hk, hm, h]
 by_cases h2 : roleOf s b = 2#8
 ·by_cases h3 : admins s = 1
  ·by_cases h4 : 1 < s.seats.length
   ·have hmd : madeP s b a = .error 192 := by simp [madeP, hk, h2, h3, h4]
    have ff := aI sx0 (aI wb0 (aI hk (aI h2 (aI h3 (aI h4 (aI hl e0))))))
    refine runRp14_0 (x := ?_)
    clear ff
    exact hK _ (.err hmd f0)
   ·have hmd := go fun h => h4 h.2.2
    have ff := aI sx0 (aI wb0 (aI hk (aI h2 (aI h3 (aI h4 (aI hl (aI b3 (aI e0 e3))))))))
    refine runRp14_0 (x := ?_)
    clear ff
    refine SpecQ.step (c77 x.w hs) ?_
    rintro _ ⟨y, κ', H', q, rfl, _, w2, fr⟩
    have ff := hk
    refine runRp14_1 (x := ?_)
    clear ff
    exact hK _ (.ok hmd (f0.trans fr) w2)
  ·have hmd := go fun h => h3 h.2.1
   have ff := aI sx0 (aI wb0 (aI hk (aI h2 (aI h3 (aI hl (aI b3 (aI e0 e3)))))))
   refine runRp14_0 (x := ?_)
   clear ff
   refine SpecQ.step (c77 x.w hs) ?_
   rintro _ ⟨y, κ', H', q, rfl, _, w2, fr⟩
   have ff := hk
   refine runRp14_1 (x := ?_)
   clear ff
   exact hK _ (.ok hmd (f0.trans fr) w2)
 ·have hmd := go fun h => h2 h.1
  have ff := aI sx0 (aI wb0 (aI hk (aI h2 (aI hl (aI b3 (aI e0 e3))))))
  refine runRp14_0 (x := ?_)
  clear ff
  refine SpecQ.step (c77 x.w hs) ?_
  rintro _ ⟨y, κ', H', q, rfl, _, w2, fr⟩
  have ff := hk
  refine runRp14_1 (x := ?_)
  clear ff
  exact hK _ (.ok hmd (f0.trans fr) w2)
set_option maxHeartbeats 2000000 in
theorem more_6 (d : Mx κ G c xb s b a m vt vp vs vi va vb wt wp a.e env p3 p4 p5 p6 p7) (f0 : Fr κ0 H0 κ G) (hs : Srt s) (ms : mayS s = true) (ok : Okd s b a) (hmm : m = roleOf s b) (hk : a.kind = 6#8) (hK : ∀ r, DoR κ0 H0 c (madeP s b a) r → K r) : wC Tryz.prog cx80 n80_3 (retW (fun s => (bnd (some (s.env.get 2)) fun v => bnd (some []) fun vs => some (v :: vs))) K) ⟨env, G⟩ := by
 have sx0 := blk_of d.x.st
 have wb0 := blk_of d.x.w.cell
 have wc0 := d.x.w.cells
 have d0 := d
 obtain ⟨x, c3, c4, c5, c6, c7, e0, e3, e4, e5, e6, e7⟩ := d
 subst hmm
 have hm := ok.mem (by simp [hk])
 have b4 := c4.blk0
 have b7 := c7.blk0
 cases h1 : hasP fI s.invites a.e
 ·have hmd : madeP s b a = .error 7 := by simp [madeP, hk, hm, hasP_fnd h1]
  have ff := aI sx0 (aI hk (aI h1 (aI b4 (aI b7 (aI e0 (aI e4 e7))))))
  refine runRp14_2 (x := ?_)
  clear ff
  exact hK _ (.err hmd f0)
 obtain ⟨hlow, he, hf⟩ := low_yes hs.i h1
 obtain ⟨pb, pv, pp, bb, i1, i2, i3, i4⟩ := x.w.wi.idxE hlow
 have i20 : blkAt G pb pv = some bb := by simpa using i2 []
 obtain ⟨z, hz⟩ : ∃ z, z = s.invites[low fI s.invites a.e] := ⟨_, rfl⟩
 rw [← hz] at hf i3 i4
 by_cases h2 : roleOf s b = 2#8
 ·have hmd : madeP s b a = .ok { s with invites := del fI s.invites a.e } := by simp [madeP, hk, h2, hf]
  have ff := aI sx0 (aI wb0 (aI hk (aI h1 (aI h2 (aI b4 (aI b7 (aI e0 (aI e4 e7))))))))
  refine runRp14_2 (x := ?_)
  clear ff
  refine SpecQ.step (c68 x.w hs) ?_
  rintro _ ⟨y, κ', H', q, rfl, _, w2, fr⟩
  have ff := hk
  refine runRp14_1 (x := ?_)
  clear ff
  exact hK _ (.ok hmd (f0.trans fr) w2)
 by_cases h3 : z.by_.e = b
 ·have hmd : madeP s b a = .ok { s with invites := del fI s.invites a.e } := by simp [madeP, hk, hm, h2, hf, h3]
  have ff := aI sx0 (aI wb0 (aI hk (aI h1 (aI h2 (aI h3 (aI i1 (aI i20 (aI i4 (aI b4 (aI b7 (aI e0 (aI e4 e7))))))))))))
  refine runRp14_2 (x := ?_)
  clear ff
  refine SpecQ.step (c68 x.w hs) ?_
  rintro _ ⟨y, κ', H', q, rfl, _, w2, fr⟩
  have ff := hk
  refine runRp14_1 (x := ?_)
  clear ff
  exact hK _ (.ok hmd (f0.trans fr) w2)
 ·have hmd : madeP s b a = .error 191 := by simp [madeP, hk, hm, h2, hf, h3]
  have ff := aI sx0 (aI wb0 (aI hk (aI h1 (aI h2 (aI h3 (aI i1 (aI i20 (aI i4 (aI b4 (aI b7 (aI e0 (aI e4 e7))))))))))))
  refine runRp14_2 (x := ?_)
  clear ff
  exact hK _ (.err hmd f0)
set_option maxHeartbeats 2000000 in
theorem more_8 (d : Mx κ G c xb s b a m vt vp vs vi va vb wt wp a.e env p3 p4 p5 p6 p7) (f0 : Fr κ0 H0 κ G) (hs : Srt s) (ms : mayS s = true) (ok : Okd s b a) (hk : a.kind = 8#8) (hK : ∀ r, DoR κ0 H0 c (madeP s b a) r → K r) : wC Tryz.prog cx80 n80_3 (retW (fun s => (bnd (some (s.env.get 2)) fun v => bnd (some []) fun vs => some (v :: vs))) K) ⟨env, G⟩ := by
 have sx0 := blk_of d.x.st
 have wb0 := blk_of d.x.w.cell
 have wc0 := d.x.w.cells
 have d0 := d
 obtain ⟨x, c3, c4, c5, c6, c7, e0, e3, e4, e5, e6, e7⟩ := d
 have b4 := c4.blk0
 have ff := aI sx0 (aI hk (aI b4 (aI e0 e4)))
 refine runRp14_1 (x := ?_)
 clear ff
 refine SpecQ.step (c68 x.w hs) ?_
 rintro _ ⟨y, κ', H', q, rfl, _, w2, fr⟩
 cases h1 : hasP fI s.invites b
 ·have hmd : madeP s b a = .error 7 := by simp [madeP, hk, h1]
  have ff := aI hk h1
  refine runRp14_3 (x := ?_)
  clear ff
  exact hK _ (.err hmd (f0.trans fr))
 ·have hmd : madeP s b a = .ok { s with invites := del fI s.invites b } := by simp [madeP, hk, h1]
  have ff := aI hk h1
  refine runRp14_3 (x := ?_)
  clear ff
  exact hK _ (.ok hmd (f0.trans fr) w2)
set_option maxHeartbeats 2000000 in
theorem more_13 (d : Mx κ G c xb s b a m vt vp vs vi va vb wt wp a.e env p3 p4 p5 p6 p7) (f0 : Fr κ0 H0 κ G) (hs : Srt s) (ms : mayS s = true) (ok : Okd s b a) (hk : a.kind = 13#8) (hK : ∀ r, DoR κ0 H0 c (madeP s b a) r → K r) : wC Tryz.prog cx80 n80_3 (retW (fun s => (bnd (some (s.env.get 2)) fun v => bnd (some []) fun vs => some (v :: vs))) K) ⟨env, G⟩ := by
 have sx0 := blk_of d.x.st
 have wb0 := blk_of d.x.w.cell
 have wc0 := d.x.w.cells
 have d0 := d
 obtain ⟨x, c3, c4, c5, c6, c7, e0, e3, e4, e5, e6, e7⟩ := d
 have hm := ok.adm (by simp [hk])
 have b5 := c5.blk0
 have b6 := c6.blk0
 have b7 := c7.blk0
 have ff := aI sx0 (aI hk (aI b5 (aI b6 (aI b7 (aI e0 (aI e5 (aI e6 e7)))))))
 refine runRp14_1 (x := ?_)
 clear ff
 refine SpecQ.step (c69 x.w hs) ?_
 rintro _ ⟨y, κ', H', q, rfl, _, w2, fr⟩
 cases h1 : hasP fA s.asks a.e
 ·have hmd : madeP s b a = .error 7 := by simp [madeP, hk, hm, h1]
  have ff := aI hk h1
  refine runRp14_4 (x := ?_)
  clear ff
  exact hK _ (.err hmd (f0.trans fr))
 ·have hmd : madeP s b a = .ok { s with asks := del fA s.asks a.e } := by simp [madeP, hk, hm, h1]
  have ff := aI hk h1
  refine runRp14_4 (x := ?_)
  clear ff
  exact hK _ (.ok hmd (f0.trans fr) w2)
set_option maxHeartbeats 2000000 in
theorem more_15 (d : Mx κ G c xb s b a m vt vp vs vi va vb wt wp a.e env p3 p4 p5 p6 p7) (f0 : Fr κ0 H0 κ G) (hs : Srt s) (ms : mayS s = true) (ok : Okd s b a) (hk : a.kind = 15#8) (hK : ∀ r, DoR κ0 H0 c (madeP s b a) r → K r) : wC Tryz.prog cx80 n80_3 (retW (fun s => (bnd (some (s.env.get 2)) fun v => bnd (some []) fun vs => some (v :: vs))) K) ⟨env, G⟩ := by
 have sx0 := blk_of d.x.st
 have wb0 := blk_of d.x.w.cell
 have wc0 := d.x.w.cells
 have d0 := d
 obtain ⟨x, c3, c4, c5, c6, c7, e0, e3, e4, e5, e6, e7⟩ := d
 have hm := ok.adm (by simp [hk])
 have b5 := c5.blk0
 have b6 := c6.blk0
 have b7 := c7.blk0
 have ff := aI sx0 (aI hk (aI b5 (aI b6 (aI b7 (aI e0 (aI e5 (aI e6 e7)))))))
 refine runRp14_1 (x := ?_)
 clear ff
 refine SpecQ.step (c112 x.w hs) ?_
 rintro _ ⟨y, κ', H', q, rfl, _, w2, fr⟩
 cases h1 : hasP fB s.bans a.e
 ·have hmd : madeP s b a = .error 7 := by simp [madeP, hk, hm, h1]
  have ff := aI hk h1
  refine runRp14_5 (x := ?_)
  clear ff
  exact hK _ (.err hmd (f0.trans fr))
 ·have hmd : madeP s b a = .ok { s with bans := del fB s.bans a.e } := by simp [madeP, hk, hm, h1]
  have ff := aI hk h1
  refine runRp14_5 (x := ?_)
  clear ff
  exact hK _ (.ok hmd (f0.trans fr) w2)
set_option maxHeartbeats 2000000 in
theorem more_11 (d : Mx κ G c xb s b a m vt vp vs vi va vb wt wp a.e env p3 p4 p5 p6 p7) (f0 : Fr κ0 H0 κ G) (hs : Srt s) (ms : mayS s = true) (ok : Okd s b a) (h6 : κ p7 = 6) (hp7 : H0.length ≤ p7) (h57 : p5 ≠ p7) (hk : a.kind = 11#8) (hK : ∀ r, DoR κ0 H0 c (madeP s b a) r → K r) : wC Tryz.prog cx80 n80_3 (retW (fun s => (bnd (some (s.env.get 2)) fun v => bnd (some []) fun vs => some (v :: vs))) K) ⟨env, G⟩ := by
 have sx0 := blk_of d.x.st
 have wb0 := blk_of d.x.w.cell
 have wc0 := d.x.w.cells
 have d0 := d
 obtain ⟨x, c3, c4, c5, c6, c7, e0, e3, e4, e5, e6, e7⟩ := d
 have b7 := c7.blk0
 obtain ⟨G1, hG1⟩ : ∃ G1, G.set p7 ⟨pt b, 0, .own⟩ = G1 := ⟨_, rfl⟩
 have ff := aI sx0 (aI hk (aI b7 (aI hG1 (aI e0 e7))))
 refine runRp14_1 (x := ?_)
 clear ff
 have x1 := x.wr h6 ⟨pt b, 0, .own⟩
 have c51 := c5.wr (q := p7) (fun q => h57 q.symm) ⟨pt b, 0, .own⟩
 have c71 := c7.set (pt b)
 have f1 := f0.wr hp7 ⟨pt b, 0, .own⟩
 rw [hG1] at x1 c51 c71 f1
 have b51 := c51.blk0
 have b71 := c71.blk0
 have ff := aI b51 (aI b71 (aI hk (aI e5 e7)))
 refine runRp14_1 (x := ?_)
 clear ff
 refine SpecQ.step (c69 x1.w hs) ?_
 rintro _ ⟨y, κ', H', q, rfl, _, w2, fr⟩
 cases h1 : hasP fA s.asks b
 ·have hmd : madeP s b a = .error 7 := by simp [madeP, hk, h1]
  have ff := aI hk h1
  refine runRp14_4 (x := ?_)
  clear ff
  exact hK _ (.err hmd (f1.trans fr))
 ·have hmd : madeP s b a = .ok { s with asks := del fA s.asks b } := by simp [madeP, hk, h1]
  have ff := aI hk h1
  refine runRp14_4 (x := ?_)
  clear ff
  exact hK _ (.ok hmd (f1.trans fr) w2)
set_option maxHeartbeats 2000000 in
theorem more_16 (d : Mx κ G c xb s b a m vt vp vs vi va vb wt wp a.e env p3 p4 p5 p6 p7) (f0 : Fr κ0 H0 κ G) (hs : Srt s) (ms : mayS s = true) (ok : Okd s b a) (hk : a.kind = 16#8) (hK : ∀ r, DoR κ0 H0 c (madeP s b a) r → K r) : wC Tryz.prog cx80 n80_3 (retW (fun s => (bnd (some (s.env.get 2)) fun v => bnd (some []) fun vs => some (v :: vs))) K) ⟨env, G⟩ := by
 have sx0 := blk_of d.x.st
 have wb0 := blk_of d.x.w.cell
 have wc0 := d.x.w.cells
 have d0 := d
 obtain ⟨x, c3, c4, c5, c6, c7, e0, e3, e4, e5, e6, e7⟩ := d
 have hm := ok.tit (by simp [hk])
 have wt0 := x.ra.cells
 have hmd : madeP s b a = .ok { s with title := a.title } := by simp [madeP, hk]; simpa using hm
 obtain ⟨w2, fr⟩ := x.w.put (s' := { s with title := a.title }) ⟨x.ra.t, x.ot⟩ x.w.fp x.kt x.w.kp x.w.fs x.w.fi x.w.fa x.w.fb
 obtain ⟨G1, hG1⟩ : ∃ G1, G.set c ⟨eStH s.version s.key s.acc wt vp vs vi va vb, 0, .own⟩ = G1 := ⟨_, rfl⟩
 have ff := aI sx0 (aI wb0 (aI wc0 (aI wt0 (aI hk (aI hG1 e0)))))
 refine runRp14_1 (x := ?_)
 clear ff
 rw [← hG1]
 exact hK _ (.ok hmd (f0.trans fr) w2)
set_option maxHeartbeats 2000000 in
theorem more_17 (d : Mx κ G c xb s b a m vt vp vs vi va vb wt wp a.e env p3 p4 p5 p6 p7) (f0 : Fr κ0 H0 κ G) (hs : Srt s) (ms : mayS s = true) (ok : Okd s b a) (hk : a.kind = 17#8) (hK : ∀ r, DoR κ0 H0 c (madeP s b a) r → K r) : wC Tryz.prog cx80 n80_3 (retW (fun s => (bnd (some (s.env.get 2)) fun v => bnd (some []) fun vs => some (v :: vs))) K) ⟨env, G⟩ := by
 have sx0 := blk_of d.x.st
 have wb0 := blk_of d.x.w.cell
 have wc0 := d.x.w.cells
 have d0 := d
 obtain ⟨x, c3, c4, c5, c6, c7, e0, e3, e4, e5, e6, e7⟩ := d
 have hm := ok.adm (by simp [hk])
 have hmd : madeP s b a = .ok { s with acc := a.acc } := by simp [madeP, hk, hm]
 obtain ⟨w2, fr⟩ := x.w.put (s' := { s with acc := a.acc }) x.w.ft x.w.fp x.w.kt x.w.kp x.w.fs x.w.fi x.w.fa x.w.fb
 obtain ⟨G1, hG1⟩ : ∃ G1, G.set c ⟨eStH s.version s.key a.acc vt vp vs vi va vb, 0, .own⟩ = G1 := ⟨_, rfl⟩
 have ff := aI sx0 (aI wb0 (aI wc0 (aI hk (aI hG1 e0))))
 refine runRp14_1 (x := ?_)
 clear ff
 rw [← hG1]
 exact hK _ (.ok hmd (f0.trans fr) w2)
set_option maxHeartbeats 2000000 in
theorem more_18 (d : Mx κ G c xb s b a m vt vp vs vi va vb wt wp a.e env p3 p4 p5 p6 p7) (f0 : Fr κ0 H0 κ G) (hs : Srt s) (ms : mayS s = true) (ok : Okd s b a) (hk : a.kind = 18#8) (hK : ∀ r, DoR κ0 H0 c (madeP s b a) r → K r) : wC Tryz.prog cx80 n80_3 (retW (fun s => (bnd (some (s.env.get 2)) fun v => bnd (some []) fun vs => some (v :: vs))) K) ⟨env, G⟩ := by
 have sx0 := blk_of d.x.st
 have wb0 := blk_of d.x.w.cell
 have wc0 := d.x.w.cells
 have d0 := d
 obtain ⟨x, c3, c4, c5, c6, c7, e0, e3, e4, e5, e6, e7⟩ := d
 have hm := ok.adm (by simp [hk])
 have wt0 := x.ra.cells
 have hmd : madeP s b a = .ok { s with pass := a.pass } := by simp [madeP, hk, hm]
 obtain ⟨w2, fr⟩ := x.w.put (s' := { s with pass := a.pass }) x.w.ft ⟨x.ra.p, x.op⟩ x.w.kt x.kp x.w.fs x.w.fi x.w.fa x.w.fb
 obtain ⟨G1, hG1⟩ : ∃ G1, G.set c ⟨eStH s.version s.key s.acc vt wp vs vi va vb, 0, .own⟩ = G1 := ⟨_, rfl⟩
 have ff := aI sx0 (aI wb0 (aI wc0 (aI wt0 (aI hk (aI hG1 e0)))))
 refine runRp14_1 (x := ?_)
 clear ff
 rw [← hG1]
 exact hK _ (.ok hmd (f0.trans fr) w2)
set_option maxHeartbeats 2000000 in
theorem more_12 (d : Mx κ G c xb s b a m vt vp vs vi va vb wt wp a.e env p3 p4 p5 p6 p7) (f0 : Fr κ0 H0 κ G) (hs : Srt s) (ms : mayS s = true) (ok : Okd s b a) (hk : a.kind = 12#8) (hK : ∀ r, DoR κ0 H0 c (madeP s b a) r → K r) : wC Tryz.prog cx80 n80_3 (retW (fun s => (bnd (some (s.env.get 2)) fun v => bnd (some []) fun vs => some (v :: vs))) K) ⟨env, G⟩ := by
 have sx0 := blk_of d.x.st
 have wb0 := blk_of d.x.w.cell
 have wc0 := d.x.w.cells
 have d0 := d
 obtain ⟨x, c3, c4, c5, c6, c7, e0, e3, e4, e5, e6, e7⟩ := d
 have hA := ok.add (by simp [hk])
 have b5 := c5.blk0
 have b7 := c7.blk0
 have hl := (may_lens ms).1
 have ff := aI sx0 (aI hk (aI b5 (aI b7 (aI e0 (aI e5 e7)))))
 refine runRp14_1 (x := ?_)
 clear ff
 refine SpecQ.step (c69 x.w hs) ?_
 rintro _ ⟨y, κ', H', q, rfl, hy, w2, fr⟩
 have d1 := d0.next fr w2
 have b31 := d1.c3.blk
 have sx1 := d1.x.blk
 cases h1 : hasP fA s.asks a.e
 ·have hmd : madeP s b a = .error 7 := by simp [madeP, hk, hA, hasP_fnd h1]
  have ff := aI hk h1
  refine runRp14_1 (x := ?_)
  clear ff
  exact hK _ (.err hmd (f0.trans (fr.trans (Fr.refl _ _).app)))
 obtain ⟨_, _, hf⟩ := low_yes hs.a h1
 have hyf := hy _ hf
 rw [← hyf] at hf
 by_cases h3 : 40 ≤ s.seats.length
 ·have hmd : madeP s b a = .error 9 := by simp [madeP, hk, hA, hf, h3]
  have ff := aI hk (aI h1 (aI h3 (aI b31 e3)))
  refine runRp14_6 (x := ?_)
  clear ff
  exact hK _ (.err hmd (f0.trans (fr.trans (Fr.refl _ _).app)))
 have hmd : madeP s b a = .ok { s with asks := del fA s.asks a.e, seats := ins fS s.seats ⟨y.who, a.role, a.version⟩ } := by simp [madeP, hk, hA, hf, h3]
 have ff := aI sx1 (aI hk (aI h1 (aI h3 (aI b31 (aI e0 e3)))))
 refine runRp14_6 (x := ?_)
 clear ff
 refine SpecQ.step (c70 (d1.x.app _) (hs.a' _) (by simp only; omega)) ?_
 rintro _ ⟨κ3, H3, q3, rfl, w3, fr3⟩
 have ff := hk
 refine runRp14_1 (x := ?_)
 clear ff
 exact hK _ (.ok hmd (f0.trans (fr.trans fr3.app)) w3)
end
end Go.Vab
