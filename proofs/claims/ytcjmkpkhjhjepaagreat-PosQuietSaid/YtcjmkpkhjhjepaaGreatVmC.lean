/-
  The abstract machine that the proofs of this seat walk on. No condition.
-/
import Derived.Test.YtcjmkpkhjhjepaaGreatVmB
/-! The abstract machine, part 20: regions that draw their order, whole; calls with data. -/
namespace Go.Vm
open Go Go.RowKit
/-- operations that look at slots alone -/
def AOp.free : AOp → Bool
 | .mov _ | .bin _ _ _ | .un _ _ | .ext _ _ | .fldA _ _ | .conv _ _ | .eqb _ _ _ | .eqs _ _ _ | .nilck _ => true
 | _ => false
/-- operations that read -/
def AOp.reads : AOp → Bool
 | .load _ _ _ | .idxA _ _ _ => true
 | _ => false
/-- operations that look at slots alone, all of them -/
def AOp.slots : AOp → Bool
 | .mov _ | .bin _ _ _ | .un _ _ | .ext _ _ | .fldA _ _ | .conv _ _ | .eqb _ _ _ | .eqs _ _ _ | .nilck _ | .pick _ _ _ | .fld _ _ _ _ | .idxV _ _ _ _ _ | .build _ _ | .eqv _ _ _ _ | .idxAA _ _ _ _ | .mx _ _ | .mn _ _ => true
 | _ => false
theorem AOp.free_slots {op : AOp} (h : op.free = true) : op.slots = true := by
 cases op <;> simp only [AOp.free, Bool.false_eq_true] at h <;> rfl
def isStore : AI → Bool
 | ⟨none, none, .store _ _ _⟩ => true
 | _ => false
/-- the operations ahead of the tail that are followed by writings alone -/
def coreLen (is : List AI) : Nat → Nat
 | 0 => 0
 | n + 1 => if isStore (is.getD n default) = true then coreLen is n else n + 1
/-- what is read behind a writing that it may also follow is what is read ahead of it -/
def lateOk : List AI → Env → Heap → Prop
 | [], _, _ => True
 | i :: r, env, H => (match i.dst, i.guard with
  | some d, none => aFun env H i.op = some (env.get d)
  | some d, some (t, b) => env.get t = .pure (.bool b) → aFun env H i.op = some (env.get d)
  | none, _ => False) ∧ lateOk r env H
def lateK (P : Program) (lates post : List AI) (K : Env → Heap → Prop) (env : Env) (H : Heap) : Prop := lateOk lates env H ∧ aOps P post K env H
def notAwaited (ops : Array Oper) (m : Nat) : List Nat := (List.range m).filter fun j => !((ancs ops.toList []).getD m []).contains j
def lateFine (ops : Array Oper) (is : List AI) (m n : Nat) : Bool :=
 ((notAwaited ops m).all fun j => (is.getD j default).guard == none && ((is.getD j default).op.free || ((is.getD j default).op.reads && (is.getD j default).dst.isSome))) &&
 ((List.range n).all fun k => decide (k ≤ m) || (directs (ops.getD k default)).contains (k - 1))
def lateOps (ops : Array Oper) (is : List AI) (m : Nat) : List AI := ((notAwaited ops m).filter fun j => !(is.getD j default).op.free).map fun j => is.getD j default
/-- the translation's look at a region, and what it is good for -/
def RC1 (ops : Array Oper) (is : List AI) : Option AC :=
 match regC ops is with
 | none => none
 | some n =>
  if coreLen is n = n then some (.regq (is.take n) (is.drop n))
  else if lateFine ops is (coreLen is n) n = true then
   (if (lateOps ops is (coreLen is n)).isEmpty = true then some (.regq (is.take (coreLen is n)) (is.drop (coreLen is n)))
   else if n = coreLen is n + 1 then some (.regs (is.take (coreLen is n)) (is.getD (coreLen is n) default) (lateOps ops is (coreLen is n)) (is.drop n)) else none)
  else none
/-- the look at a region that is told in another order -/
def regP (ops : Array Oper) (is : List AI) (l : List Nat) : Bool :=
 ((List.range ops.size).all fun i => (directs (ops.getD i default)).all fun j => decide (j < ops.size) && decide (l.getD j 0 < l.getD i 0)) &&
 (((List.range ops.size).all fun i => (insSlots (is.getD i default)).all fun t => (List.range ops.size).all fun j => (is.getD j default).dst != some t || ((directs (ops.getD i default)).contains j && decide (j < i))) &&
 ((List.range ops.size).all fun j => (List.range ops.size).all fun k => j == k || (is.getD j default).dst == none || (is.getD j default).dst != (is.getD k default).dst))
/-- writings alone at the end, with reads that do not wait for them -/
def RC3 (ops : Array Oper) (is : List AI) (l : List Nat) : Option AC :=
 if regP ops is l = true ∧ coreLen is ops.size ≠ ops.size ∧ lateFine ops is (coreLen is ops.size) ops.size = true then
  some (.regm (is.take (coreLen is ops.size)) (is.drop (coreLen is ops.size)) (lateOps ops is (coreLen is ops.size))) else none
def lateFine2 (ops : Array Oper) (is : List AI) (m n : Nat) : Bool :=
 ((notAwaited ops m).all fun j => (is.getD j default).op.slots || ((is.getD j default).op.reads && (is.getD j default).dst.isSome)) &&
 ((List.range n).all fun k => decide (k ≤ m) || (directs (ops.getD k default)).contains (k - 1))
def lateOps2 (ops : Array Oper) (is : List AI) (m : Nat) : List AI := ((notAwaited ops m).filter fun j => !(is.getD j default).op.slots).map fun j => is.getD j default
/-- the same, where some of these are guarded -/
def RC4 (ops : Array Oper) (is : List AI) (l : List Nat) : Option AC :=
 if regP ops is l = true ∧ coreLen is ops.size ≠ ops.size ∧ lateFine2 ops is (coreLen is ops.size) ops.size = true then
  some (.regm (is.take (coreLen is ops.size)) (is.drop (coreLen is ops.size)) (lateOps2 ops is (coreLen is ops.size))) else none
/-- one writing behind the other -/
def stK (P : Program) (lates : List AI) : List AI → (Env → Heap → Prop) → Env → Heap → Prop
 | [], K => K
 | s :: r, K => aOps P [s] fun e H => lateOk lates e H ∧ stK P lates r K e H
def stL (P : Program) (lates sts : List AI) (K : Env → Heap → Prop) (env : Env) (H : Heap) : Prop := lateOk lates env H ∧ stK P lates sts K env H
/-- what is read behind a call that it may also follow, and what stands behind both -/
def lateQ (P : Program) (lates pre2 post : List AI) (K : Env → Heap → Prop) (env : Env) (H : Heap) : Prop := lateOk lates env H ∧ aQs P pre2 (aOps P post K) env H
def RQs (P : Program) : AC → (Env → Heap → Prop) → Env → Heap → Prop
 | .regq pre post, K => aQs P pre (aOps P post K)
 | .regm core sts lates, K => aQs P core (stK P lates sts K)
 | .regs core st lates post, K => aQs P core (aOps P [st] (lateK P lates post K))
 | .regd a b c d, K => aQs P a (aOps P b (aQs P c (aOps P d K)))
 | .rege a b l c d, K => aQs P a (aOps P b (lateQ P l c d K))
 | _, _ => fun _ _ => False
theorem count_set {listed : Array Bool} {i : Nat} (hi : i < listed.size) (h : listed.getD i false = false) : (listed.setIfInBounds i true).toList.countP (fun b => !b) + 1 = listed.toList.countP (fun b => !b) := by
 have hi' : i < listed.toList.length := by simpa using hi
 have hv : listed.toList[i] = false := by
  rw [Array.getD_eq_getD_getElem?, Array.getElem?_eq_getElem hi] at h
  simpa using h
 rw [Array.toList_setIfInBounds, List.countP_set hi']
 have hpos : 0 < listed.toList.countP (fun b => !b) := by
  rw [List.countP_pos_iff]
  exact ⟨listed.toList[i], List.getElem_mem _, by rw [hv]; rfl⟩
 have hv2 : listed[i] = false := by simpa using hv
 simp only [Array.getElem_toList, hv2, Bool.not_false, Bool.not_true, if_true, Bool.false_eq_true, if_false]
 omega
theorem count_zero {listed : Array Bool} (h : listed.toList.countP (fun b => !b) = 0) (i : Nat) (hi : i < listed.size) : listed.getD i false = true := by
 rw [List.countP_eq_zero] at h
 have := h listed.toList[i] (List.getElem_mem _)
 rw [Array.getD_eq_getD_getElem?, Array.getElem?_eq_getElem hi]
 simpa using this
section
variable {P : Program} {w0 : World} {X0 : Nat → Prop} {μ0 : Mu} {n0 n : Nat} {ops : Array Oper} {is : List AI} {K0 : Env → Heap → Prop} {Q : Exit → Act → World → Prop}
/-- some operation may be carried out -/
theorem Looked.ready (K : Looked n ops is) {listed : Array Bool} (hs : listed.size = ops.size) (hcl : Closed ops (fun j => listed.getD j false)) (hex : ∃ j, j < n ∧ listed.getD j false = false) : ∃ j, j < n ∧ listed.getD j false = false ∧ j ∈ Region.ready .any ops listed := by
 obtain ⟨r, hr⟩ := K.rk
 obtain ⟨u, hu, hul⟩ := hex
 have hle := K.le
 have main : ∀ (m : Nat), ∀ j, j < ops.size → listed.getD j false = false → r j ≤ m → ∃ k, k < ops.size ∧ listed.getD k false = false ∧ ∀ d ∈ directs (ops.getD k default), listed.getD d false = true := by
  intro m
  induction m with
  | zero =>
   intro j hj hjl hm
   refine ⟨j, hj, hjl, fun d hd => ?_⟩
   have := hr j (ops.getD j default) (by simp [Array.getD_eq_getD_getElem?, hj]) d hd
   omega
  | succ m ih =>
   intro j hj hjl hm
   by_cases hall : ∀ d ∈ directs (ops.getD j default), listed.getD d false = true
   ·exact ⟨j, hj, hjl, hall⟩
   ·simp only [Classical.not_forall] at hall
    obtain ⟨d, hd, hdl⟩ := hall
    have := hr j (ops.getD j default) (by simp [Array.getD_eq_getD_getElem?, hj]) d hd
    exact ih d this.1 (by simpa using hdl) (by omega)
 obtain ⟨k, hk, hkl, hd⟩ := main (r u) u (by omega) hul (Nat.le_refl _)
 have hok : ops[k]? = some (ops.getD k default) := by simp [Array.getD_eq_getD_getElem?, hk]
 refine ⟨k, ?_, hkl, (ready_iff hs).2 ⟨_, hok, hkl, hd⟩⟩
 rcases Nat.lt_or_ge k n with h | h
 ·exact h
 ·have := K.full k u _ h (by omega) hok _ hcl hd
  rw [hul] at this
  cases this
theorem tail_any (K : Looked n ops is) (hc : cReg P n0 ops ops.toList = some is) (hQ : ∀ a w, Lands w0 X0 μ0 n0 K0 a w → Q .normal a w) : ∀ (fuel k : Nat) (listed : Array Bool), n ≤ k → listed.size = ops.size → Closed ops (fun j => listed.getD j false) →
  (∀ j, j < k → j < ops.size → listed.getD j false = true) → (∀ j, k ≤ j → listed.getD j false = false) → listed.toList.countP (fun b => !b) ≤ fuel →
  ∀ {env : Env} {H : Heap} {a : Act} {w : World} {μ : Mu}, Rel w0 X0 μ0 n0 env H a w μ → aOps P (is.drop k) K0 env H → wpAny P .any ops Q fuel listed a w := by
 intro fuel
 induction fuel with
 | zero =>
  intro k listed hk hs hcl hlo hhi hcnt env H a w μ hrel hops
  have hall := count_zero (Nat.le_zero.1 hcnt)
  obtain ⟨hlen, _⟩ := cReg_get hc
  have hNk : ops.size ≤ k := by
   rcases Nat.lt_or_ge k ops.size with h | h
   ·have h1 := hall k (by omega)
    rw [hhi k (Nat.le_refl _)] at h1
    cases h1
   ·exact h
  have hnil : is.drop k = [] := List.drop_eq_nil_of_le (by rw [← hlen]; simpa using hNk)
  rw [hnil] at hops
  refine wpAny_done ?_ (hQ a w ⟨env, H, μ, hops, hrel⟩) 0
  rw [List.eq_nil_iff_forall_not_mem]
  intro j hj
  obtain ⟨o, ho, h1, _⟩ := (ready_iff hs).1 hj
  rw [hall j (by rw [hs]; exact (Array.getElem?_eq_some_iff.1 ho).1)] at h1
  cases h1
 | succ fuel ih =>
  intro k listed hk hs hcl hlo hhi hcnt env H a w μ hrel hops
  obtain ⟨hlen, hget⟩ := cReg_get hc
  rcases Nat.lt_or_ge k ops.size with hkN | hkN
  ·have hok : ops[k]? = some ops[k] := Array.getElem?_eq_getElem hkN
   obtain ⟨ai, hai, hci⟩ := hget k ops[k] (by simp)
   have hdrop : is.drop k = ai :: is.drop (k + 1) := by
    have hkl := (List.getElem?_eq_some_iff.1 hai).1
    rw [List.drop_eq_getElem_cons hkl]
    congr 1
    exact (List.getElem?_eq_some_iff.1 hai).2
   rw [hdrop] at hops
   have hready : k ∈ Region.ready .any ops listed := (ready_iff hs).2 ⟨_, hok, hhi k (Nat.le_refl _), fun d hd => by
    have := K.lexT k _ hk hok d hd
    exact hlo d this (by omega)⟩
   refine ⟨(fun h => by rw [h] at hready; cases hready), fun i hi => ?_⟩
   obtain ⟨o, ho, h1, h2⟩ := (ready_iff hs).1 hi
   have hiN := (Array.getElem?_eq_some_iff.1 ho).1
   have hik : i = k := by
    rcases Nat.lt_trichotomy i k with h | h | h
    ·rw [hlo i h hiN] at h1; cases h1
    ·exact h
    ·have := K.full i k o (by omega) h ho _ hcl h2
     rw [hhi k (Nat.le_refl _)] at this
     cases this
   subst hik
   rw [hok] at ho
   cases ho
   have hset := setL (listed := listed) (i := i) (by omega)
   refine wpOp_mono ?_ (ins_sound hrel hci hops hok)
   rintro a' w' ⟨env', H', μ', h3, h4⟩
   refine ih (i + 1) _ (by omega) (by simpa using hs) ?_ (fun j hj hjN => ?_) (fun j hj => ?_) ?_ h4 h3
   ·intro j oj hj hjl d hd
    simp only [hset] at hjl ⊢
    by_cases hji : j = i
    ·subst hji
     rw [hok] at hj
     cases hj
     have := h2 d hd
     split
     ·rfl
     ·exact this
    ·rw [if_neg hji] at hjl
     have := hcl j oj hj hjl d hd
     split
     ·rfl
     ·exact this
   ·rw [hset]
    split
    ·rfl
    ·exact hlo j (by omega) hjN
   ·rw [hset, if_neg (by omega)]
    exact hhi j (by omega)
   ·have := count_set (listed := listed) (i := i) (by omega) h1
    omega
  ·have hnil : is.drop k = [] := List.drop_eq_nil_of_le (by rw [← hlen]; simpa using hkN)
   rw [hnil] at hops
   refine wpAny_done ?_ (hQ a w ⟨env, H, μ, hops, hrel⟩) _
   rw [List.eq_nil_iff_forall_not_mem]
   intro j hj
   obtain ⟨o, ho, h1, _⟩ := (ready_iff hs).1 hj
   have hjN := (Array.getElem?_eq_some_iff.1 ho).1
   rw [hlo j (by omega) hjN] at h1
   cases h1
theorem prefix_any (K : Looked n ops is) (hc : cReg P n0 ops ops.toList = some is) (hQ : ∀ a w, Lands w0 X0 μ0 n0 K0 a w → Q .normal a w) {qs : List QI} {env : Env} {H : Heap} (hrun : QRun P (is.take n) qs env H)
  (hops : aOps P (is.drop n) K0 (envOf (is.take n) qs env) (heapOf qs H)) : ∀ (fuel : Nat) (listed : Array Bool), listed.size = ops.size → listed.toList.countP (fun b => !b) ≤ fuel →
  ∀ {a : Act} {w : World} {μ : Mu}, Inv P w0 X0 μ0 n0 n n ops is qs env H (heapL qs H fun j => listed.getD j false) (fun j => listed.getD j false) a w μ → wpAny P .any ops Q fuel listed a w := by
 obtain ⟨hlen, hget⟩ := cReg_get hc
 have hisl : is.length = ops.size := by rw [← hlen]; simp
 have hql : qs.length = n := by rw [← hrun.len, List.length_take]; have := K.le; omega
 intro fuel
 induction fuel with
 | zero =>
  intro listed hs hcnt a w μ hinv
  have hall := count_zero (Nat.le_zero.1 hcnt)
  by_cases hN : n < ops.size
  ·have h1 := hinv.tail n (Nat.le_refl _)
   rw [hall n (by omega)] at h1
   cases h1
  · -- every operation has been carried out
   have hall' : ∀ j, j < n → listed.getD j false = true := fun j hj => hall j (by have := K.le; omega)
   have hheap : heapL qs H (fun j => listed.getD j false) = heapOf qs H := by
    apply List.ext_getElem?
    intro b
    refine heapL_of ?_
    cases hda : deadAt qs H (fun j => listed.getD j false) b with
    | false => rfl
    | true =>
     obtain ⟨j, q, g1, g2, _, _⟩ := deadAt_true hda
     have := (List.getElem?_eq_some_iff.1 g1).1
     rw [hall' j (by omega)] at g2
     cases g2
   have hrel : Rel w0 X0 μ0 n0 (envOf (is.take n) qs env) (heapOf qs H) a w μ := by
    rw [← hheap]
    refine ⟨hinv.tmps, hinv.defers, fun t => ?_, hinv.heap, hinv.fr, hinv.own, hinv.pre, hinv.xo⟩
    by_cases hex : ∃ (j : Nat) (aj : AI), j < n ∧ is[j]? = some aj ∧ aj.dst = some t
    ·obtain ⟨j, aj, hj, haj, hd⟩ := hex
     obtain ⟨qj, hqj⟩ : ∃ q, qs[j]? = some q := ⟨_, List.getElem?_eq_getElem (by omega)⟩
     rw [envOf_at (is.take n) qs env t j aj qj (by rw [List.getElem?_take_of_lt hj]; exact haj) hqj hd (fun k ak hk hak hdk => by
      have hkn : k < n := by
       have := (List.getElem?_eq_some_iff.1 hak).1
       simp at this
       omega
      rw [List.getElem?_take_of_lt hkn] at hak
      have := K.uniq j k aj ak t hj hkn haj hak hd hdk
      omega)]
     exact hinv.done j qj aj t hj hqj haj (hall' j hj) hd
    ·rw [envOf_other (is.take n) qs env t (fun ak hak hdk => by
      obtain ⟨k, hk, rfl⟩ := List.mem_iff_getElem.1 hak
      simp at hk
      exact hex ⟨k, is[k], by omega, List.getElem?_eq_getElem (by omega), by simpa using hdk⟩)]
     exact hinv.other t fun j aj hj haj _ hd => hex ⟨j, aj, hj, haj, hd⟩
   exact tail_any K hc hQ 0 n listed (Nat.le_refl _) hs hinv.closed (fun j hj _ => hall' j hj) hinv.tail hcnt hrel hops
 | succ fuel ih =>
  intro listed hs hcnt a w μ hinv
  by_cases hex : ∃ j, j < n ∧ listed.getD j false = false
  ·obtain ⟨j, hj, hjl, hready⟩ := K.ready hs hinv.closed hex
   refine ⟨(fun h => by rw [h] at hready; cases hready), fun i hi => ?_⟩
   obtain ⟨o, ho, h1, h2⟩ := (ready_iff hs).1 hi
   have hiN := (Array.getElem?_eq_some_iff.1 ho).1
   have hin : i < n := by
    rcases Nat.lt_or_ge i n with h | h
    ·exact h
    ·have := K.full i j o h (by omega) ho _ hinv.closed h2
     rw [hjl] at this
     cases this
   refine wpOp_mono ?_ (inv_step K.toLook hc hrun hs hinv hin hi)
   rintro a' w' ⟨μ', h3⟩
   refine ih _ (by simpa using hs) ?_ h3
   have := count_set (listed := listed) (i := i) (by omega) h1
   omega
  ·have hall' : ∀ j, j < n → listed.getD j false = true := fun j hj => by
    cases h : listed.getD j false with
    | true => rfl
    | false => exact absurd ⟨j, hj, h⟩ hex
   have hheap : heapL qs H (fun j => listed.getD j false) = heapOf qs H := by
    apply List.ext_getElem?
    intro b
    refine heapL_of ?_
    cases hda : deadAt qs H (fun j => listed.getD j false) b with
    | false => rfl
    | true =>
     obtain ⟨j, q, g1, g2, _, _⟩ := deadAt_true hda
     have := (List.getElem?_eq_some_iff.1 g1).1
     rw [hall' j (by omega)] at g2
     cases g2
   have hrel : Rel w0 X0 μ0 n0 (envOf (is.take n) qs env) (heapOf qs H) a w μ := by
    rw [← hheap]
    refine ⟨hinv.tmps, hinv.defers, fun t => ?_, hinv.heap, hinv.fr, hinv.own, hinv.pre, hinv.xo⟩
    by_cases hex : ∃ (j : Nat) (aj : AI), j < n ∧ is[j]? = some aj ∧ aj.dst = some t
    ·obtain ⟨j, aj, hj, haj, hd⟩ := hex
     obtain ⟨qj, hqj⟩ : ∃ q, qs[j]? = some q := ⟨_, List.getElem?_eq_getElem (by omega)⟩
     rw [envOf_at (is.take n) qs env t j aj qj (by rw [List.getElem?_take_of_lt hj]; exact haj) hqj hd (fun k ak hk hak hdk => by
      have hkn : k < n := by
       have := (List.getElem?_eq_some_iff.1 hak).1
       simp at this
       omega
      rw [List.getElem?_take_of_lt hkn] at hak
      have := K.uniq j k aj ak t hj hkn haj hak hd hdk
      omega)]
     exact hinv.done j qj aj t hj hqj haj (hall' j hj) hd
    ·rw [envOf_other (is.take n) qs env t (fun ak hak hdk => by
      obtain ⟨k, hk, rfl⟩ := List.mem_iff_getElem.1 hak
      simp at hk
      exact hex ⟨k, is[k], by omega, List.getElem?_eq_getElem (by omega), by simpa using hdk⟩)]
     exact hinv.other t fun j aj hj haj _ hd => hex ⟨j, aj, hj, haj, hd⟩
   exact tail_any K hc hQ (fuel + 1) n listed (Nat.le_refl _) hs hinv.closed (fun j hj _ => hall' j hj) hinv.tail hcnt hrel hops
/-! ### writings that some reads need not wait for -/
/-- the slots that an operation looks at hold what they hold behind the operations ahead of the writings -/
theorem slot_ok {m tl : Nat} {qs : List QI} {env : Env} {H G : Heap} {L : Nat → Bool} {a : Act} {w : World} {μ : Mu} (K : Look n ops is) (hm : m ≤ n) (hql : qs.length = m) (h : Inv P w0 X0 μ0 n0 m tl ops is qs env H G L a w μ)
  {i : Nat} {ai : AI} {o : Oper} (hi : i < n) (hai : is[i]? = some ai) (ho : ops[i]? = some o) (hready : ∀ d ∈ directs o, L d = true) :
  ∀ t ∈ insSlots ai, Rep w (excl μ G) μ (a.tmps.getD t undef) ((envOf (is.take m) qs env).get t) := by
 intro t ht
 by_cases hex : ∃ (j : Nat) (aj : AI), j < m ∧ is[j]? = some aj ∧ aj.dst = some t
 ·obtain ⟨j, aj, hj, haj, hd⟩ := hex
  have hdep := (K.dep i j ai aj o t hi (by omega) hai haj ho ht hd).1
  obtain ⟨qj, hqj⟩ : ∃ q, qs[j]? = some q := ⟨_, List.getElem?_eq_getElem (by omega)⟩
  rw [envOf_at (is.take m) qs env t j aj qj (by rw [List.getElem?_take_of_lt hj]; exact haj) hqj hd (fun k ak hk hak hdk => by
   have hkn : k < m := by
    have := (List.getElem?_eq_some_iff.1 hak).1
    simp at this
    omega
   rw [List.getElem?_take_of_lt hkn] at hak
   have := K.uniq j k aj ak t (by omega) (by omega) haj hak hd hdk
   omega)]
  exact h.done j qj aj t hj hqj haj (hready j hdep) hd
 ·rw [envOf_other (is.take m) qs env t (fun ak hak hdk => by
   obtain ⟨k, hk, rfl⟩ := List.mem_iff_getElem.1 hak
   simp at hk
   exact hex ⟨k, is[k], by omega, List.getElem?_eq_getElem (by omega), by simpa using hdk⟩)]
  exact h.other t fun j aj hj haj _ hd => hex ⟨j, aj, hj, haj, hd⟩
/-- at its place in the text an operation sees what it sees behind them all -/
theorem slot_eq {m : Nat} {qs : List QI} {env : Env} (K : Look n ops is) (hm : m ≤ n) (hql : qs.length = m) {i : Nat} {ai : AI} {o : Oper} (hi : i < m) (hai : is[i]? = some ai) (ho : ops[i]? = some o) :
  ∀ t ∈ insSlots ai, (envOf (is.take i) (qs.take i) env).get t = (envOf (is.take m) qs env).get t := by
 intro t ht
 by_cases hex : ∃ (j : Nat) (aj : AI), j < m ∧ is[j]? = some aj ∧ aj.dst = some t
 ·obtain ⟨j, aj, hj, haj, hd⟩ := hex
  have hji := (K.dep i j ai aj o t (by omega) (by omega) hai haj ho ht hd).2
  obtain ⟨qj, hqj⟩ : ∃ q, qs[j]? = some q := ⟨_, List.getElem?_eq_getElem (by omega)⟩
  rw [envOf_at (is.take m) qs env t j aj qj (by rw [List.getElem?_take_of_lt hj]; exact haj) hqj hd (fun k ak hk hak hdk => by
   have hkn : k < m := by
    have := (List.getElem?_eq_some_iff.1 hak).1
    simp at this
    omega
   rw [List.getElem?_take_of_lt hkn] at hak
   have := K.uniq j k aj ak t (by omega) (by omega) haj hak hd hdk
   omega)]
  exact envOf_at (is.take i) (qs.take i) env t j aj qj (by rw [List.getElem?_take_of_lt hji]; exact haj) (by rw [List.getElem?_take_of_lt hji]; exact hqj) hd (fun k ak hk hak hdk => by
   have hki : k < i := by
    have := (List.getElem?_eq_some_iff.1 hak).1
    simp at this
    omega
   rw [List.getElem?_take_of_lt hki] at hak
   have := K.uniq j k aj ak t (by omega) (by omega) haj hak hd hdk
   omega)
 ·rw [envOf_other (is.take m) qs env t (fun ak hak hdk => by
   obtain ⟨k, hk, rfl⟩ := List.mem_iff_getElem.1 hak
   simp at hk
   exact hex ⟨k, is[k], by omega, List.getElem?_eq_getElem (by omega), by simpa using hdk⟩),
   envOf_other (is.take i) (qs.take i) env t (fun ak hak hdk => by
   obtain ⟨k, hk, rfl⟩ := List.mem_iff_getElem.1 hak
   simp at hk
   exact hex ⟨k, is[k], by omega, List.getElem?_eq_getElem (by omega), by simpa using hdk⟩)]
theorem mem_insSlots {i : AI} {t : Nat} (h : O.s t ∈ i.op.os) : t ∈ insSlots i := by
 simp only [insSlots, List.mem_append, List.mem_filterMap]
 exact .inl ⟨.s t, h, rfl⟩
theorem ev_map {i : AI} {e : Env} {x : O} (h : x ∈ i.op.os) : x.ev ((insSlots i).map fun t => (t, e.get t)) = x.ev e := by
 cases x with
 | c s => rfl
 | s t => simp only [O.ev]; rw [map_get, if_pos (mem_insSlots h)]
theorem aFun_free {op : AOp} (hf : op.slots = true) {e : Env} {H H' : Heap} : aFun e H op = aFun e H' op := by
 cases op <;> simp only [AOp.slots, Bool.false_eq_true] at hf <;> rfl
theorem QV.late {e : Env} {H : Heap} {nb : Nat} {op : AOp} {s : S} {row : Option Row} (hf : op.slots = true ∨ op.reads = true) (h : QV P e H nb op s row) : row = none ∧ aFun e H op = some s := by
 cases h with
 | fn _ _ h => exact ⟨rfl, h⟩
 | _ => rcases hf with hf | hf <;> simp [AOp.slots, AOp.reads] at hf
/-- what a late operation yields, or that it is passed by -/
def LQ (e : Env) (G : Heap) (ai : AI) (s : S) : Prop :=
 match ai.guard with
 | none => aFun e G ai.op = some s
 | some (t, b) => (e.get t = .tup [] ∧ s = .tup []) ∨ ∃ c, e.get t = .pure (.bool c) ∧ ((c = b ∧ aFun e G ai.op = some s) ∨ (c = (!b) ∧ s = .tup []))
theorem QOk.late {ai : AI} {e : Env} {H : Heap} {q : QI} (hf : ai.op.slots = true ∨ ai.op.reads = true) (h : QOk P ai e H q) : q.row = none ∧ LQ e H ai q.s := by
 unfold QOk at h
 unfold LQ
 cases hg : ai.guard with
 | none =>
  rw [hg] at h
  exact h.2.late hf
 | some g =>
  obtain ⟨t, b⟩ := g
  rw [hg] at h
  simp only at h ⊢
  rcases h with ⟨h1, h2, h3⟩ | ⟨c, h1, h2⟩
  ·exact ⟨h3, .inl ⟨h1, h2⟩⟩
  ·rcases h2 with ⟨h2, _, h3⟩ | ⟨h2, _, h3, h4⟩
   ·exact ⟨(h3.late hf).1, .inr ⟨c, h1, .inl ⟨h2, (h3.late hf).2⟩⟩⟩
   ·exact ⟨h4, .inr ⟨c, h1, .inr ⟨h2, h3⟩⟩⟩
theorem guard_mem {ai : AI} {t : Nat} {b : Bool} (h : ai.guard = some (t, b)) : t ∈ insSlots ai := by
 simp [insSlots, h]
/-- where the slots are the same, and so is what is yielded -/
theorem LQ.congr {ai : AI} {e e' : Env} {H H' : Heap} {s : S} (h : LQ e H ai s) (he : ∀ t ∈ insSlots ai, e.get t = e'.get t) (hf : (∀ t b, ai.guard = some (t, b) → e'.get t = .pure (.bool b)) → aFun e H ai.op = some s → aFun e' H' ai.op = some s) : LQ e' H' ai s := by
 unfold LQ at h ⊢
 cases hg : ai.guard with
 | none =>
  rw [hg] at h
  exact hf (fun t b h => by rw [hg] at h; cases h) h
 | some g =>
  obtain ⟨t, b⟩ := g
  rw [hg] at h
  simp only at h ⊢
  have ht := he t (guard_mem hg)
  rcases h with ⟨h1, h2⟩ | ⟨c, h1, h2⟩
  ·exact .inl ⟨by rw [← ht, h1], h2⟩
  ·refine .inr ⟨c, by rw [← ht, h1], ?_⟩
   rcases h2 with ⟨h2, h3⟩ | h2
   ·refine .inl ⟨h2, hf (fun t' b' h => ?_) h3⟩
    rw [hg] at h
    cases h
    rw [← ht, h1, h2]
   ·exact .inr h2
/-- a writing has been carried out -/
theorem Inv.wrote {m tl : Nat} {qs : List QI} {env : Env} {H G G' : Heap} {L L' : Nat → Bool} {a : Act} {w w' : World} {μ μ' : Mu} (h : Inv P w0 X0 μ0 n0 m tl ops is qs env H G L a w μ) {i : Nat} {o : Oper} {v : Value} {s : S} (ho : ops[i]? = some o) (hmi : m ≤ i) (hit : i < tl)
  (hL' : ∀ j, L' j = if j = i then true else L j) (hready : ∀ d ∈ directs o, L d = true) (hrow : ∀ (j : Nat) (q : QI), qs[j]? = some q → L j = false → q.row = none)
  (st : Step w μ G w' μ' G' v s) : Inv P w0 X0 μ0 n0 m tl ops is qs env H G' L' a w' μ' := by
 have keep : ∀ {u : Value} {s : S}, Rep w (excl μ G) μ u s → Rep w' (excl μ' G') μ' u s := fun hr => hr.keeps st.fr.keep.excl (excl_of st.own st.xo) st.ext
 have up : ∀ j, L j = true → L' j = true := fun j hj => by rw [hL']; split <;> simp [hj]
 refine ⟨?_, ?_, h.tmps, h.defers, ?_, ?_, st.heap, ?_, ?_, ?_, fun b l hb => st.ext b l (h.pre b l hb), st.xo.trans h.xo⟩
 ·intro j oj hj hjl d hd
  rw [hL'] at hjl
  by_cases hji : j = i
  ·subst hji
   rw [ho] at hj
   cases hj
   exact up _ (hready d hd)
  ·rw [if_neg hji] at hjl
   exact up _ (h.closed j oj hj hjl d hd)
 ·intro k hk
  rw [hL', if_neg (by omega)]
  exact h.tail k hk
 ·intro j qj ij t hj hqj hij hjl hd
  rw [hL', if_neg (by omega)] at hjl
  exact keep (h.done j qj ij t hj hqj hij hjl hd)
 ·intro t ht
  exact keep (h.other t fun j ij hj hij hjl => ht j ij hj hij (up j hjl))
 ·intro j qj hqj hjl hr
  have : L j = false := by
   cases hLj : L j with
   | false => rfl
   | true => rw [up j hLj] at hjl; cases hjl
  rw [hrow j qj hqj this] at hr
  cases hr
 ·refine ⟨st.fr.os.trans h.fr.os, st.fr.tape.trans h.fr.tape, st.fr.output.trans h.fr.output, Nat.le_trans h.fr.size st.fr.size, fun k hk hx => ?_⟩
  rw [st.fr.keep k (Nat.lt_of_lt_of_le hk h.fr.size) (fun ho' => by rcases h.own k ho' with h1 | h1; exact hx h1; omega)]
  exact h.fr.keep k hk hx
 ·intro k hk
  rcases st.own k hk with h1 | h1
  ·exact h.own k h1
  ·exact .inr (Nat.le_trans h.fr.size h1)
theorem store_step {m : Nat} {qs : List QI} {env : Env} {H G : Heap} {a : Act} {w : World} {μ : Mu} {listed : Array Bool} (hs : listed.size = ops.size) (K : Look n ops is) (hc : cReg P n0 ops ops.toList = some is) (hm : m ≤ n) (hql : qs.length = m)
  (h : Inv P w0 X0 μ0 n0 m n ops is qs env H G (fun j => listed.getD j false) a w μ) {i sz : Nat} {x v : O} (hi : i < n) (hmi : m ≤ i) (hai : is[i]? = some ⟨none, none, .store sz x v⟩) (hr : i ∈ Region.ready .any ops listed)
  (hrow : ∀ (j : Nat) (q : QI), qs[j]? = some q → listed.getD j false = false → q.row = none) {KV : S → Heap → Prop} (hv : aVal P (envOf (is.take m) qs env) G (.store sz x v) KV) :
  wpOp P ops Q i (fun a' w' => ∃ s G' μ', KV s G' ∧ Inv P w0 X0 μ0 n0 m n ops is qs env H G' (fun j => (listed.setIfInBounds i true).getD j false) a' w' μ') a w := by
 obtain ⟨o, ho, hun, hready⟩ := (ready_iff hs).1 hr
 obtain ⟨hlen, hget⟩ := cReg_get hc
 obtain ⟨ai, hai', hci⟩ := hget i o (by simpa using ho)
 rw [hai] at hai'
 cases hai'
 have hLi : i < listed.size := by rw [hs]; have := K.le; omega
 have hset := setL hLi
 have hsl := slot_ok K hm hql h hi hai ho hready
 have hev : Evs w (excl μ G) μ a.eval ((insSlots ⟨none, none, .store sz x v⟩).map fun t => (t, (envOf (is.take m) qs env).get t)) := evs_of fun t => by
  rw [map_get]
  split
  ·exact hsl t (by assumption)
  ·exact .dead _
 have hv' : aVal P ((insSlots ⟨none, none, .store sz x v⟩).map fun t => (t, (envOf (is.take m) qs env).get t)) G (.store sz x v) KV := by
  have e1 := ev_map (i := ⟨none, none, .store sz x v⟩) (e := envOf (is.take m) qs env) (x := x) (by simp [AOp.os])
  have e2 := ev_map (i := ⟨none, none, .store sz x v⟩) (e := envOf (is.take m) qs env) (x := v) (by simp [AOp.os])
  simp only [aVal, e1, e2] at hv ⊢
  exact hv
 unfold cIns at hci
 split at hci
 ·cases hci
 ·rename_i op hop
  split at hci
  ·split at hci
   ·rename_i hg
    simp only [Option.some.injEq, AI.mk.injEq] at hci
    obtain ⟨hd, _, rfl⟩ := hci
    unfold wpOp
    rw [ho]
    simp only [Region.wanted, hg, if_true]
    refine .inl (Oper.wp_mono ?_ (op_sound h.heap hev hop hv'))
    rintro a' w' ⟨u, s, G', μ', rfl, h1, h2⟩
    refine ⟨s, G', μ', h1, ?_⟩
    rw [hd]
    exact h.wrote ho hmi hi hset hready hrow h2
   ·split at hci
    ·split at hci
     ·simp at hci
     ·cases hci
    ·cases hci
  ·cases hci
/-- what has been looked at where writings stand ahead of the tail -/
structure Early (m n : Nat) (ops : Array Oper) (is : List AI) (Lt : Nat → Prop) : Prop where
 lt : m < n
 st : ∀ k, m ≤ k → k < n → ∃ sz x v, is[k]? = some ⟨none, none, .store sz x v⟩
 chain : ∀ k o, m < k → k < n → ops[k]? = some o → k - 1 ∈ directs o
 aw : ∀ j o, j < m → ¬ Lt j → ops[m]? = some o → ∀ L, Closed ops L → (∀ d ∈ directs o, L d = true) → L j = true
 pl : ∀ j ai, j < m → is[j]? = some ai → Lt j → ai.op.slots = true ∨ ai.op.reads = true
def LateFit (m : Nat) (is : List AI) (Lt : Nat → Prop) (e : Env) (G : Heap) : Prop := ∀ j ai, j < m → is[j]? = some ai → Lt j → ai.op.slots = true ∨ ∃ d, ai.dst = some d ∧ ((∀ t b, ai.guard = some (t, b) → e.get t = .pure (.bool b)) → aFun e G ai.op = some (e.get d))
/-- the writings, one behind the other, from number k on -/
def StF (P : Program) (m : Nat) (is : List AI) (Lt : Nat → Prop) (K0 : Env → Heap → Prop) : Nat → Nat → Env → Heap → Prop
 | 0, k => aOps P (is.drop k) K0
 | f + 1, k => aOps P ((is.drop k).take 1) fun e G => LateFit m is Lt e G ∧ StF P m is Lt K0 f (k + 1) e G
/-- behind the first writing -/
theorem late_any (K : Looked n ops is) {m : Nat} {Lt : Nat → Prop} (E : Early m n ops is Lt) (hc : cReg P n0 ops ops.toList = some is) (hQ : ∀ a w, Lands w0 X0 μ0 n0 K0 a w → Q .normal a w) {qs : List QI} {env : Env} {H : Heap} (hrun : QRun P (is.take m) qs env H) :
  ∀ (fuel k : Nat) (listed : Array Bool), listed.size = ops.size → listed.toList.countP (fun b => !b) ≤ fuel → m < k → k ≤ n → (∀ j, m ≤ j → j < n → listed.getD j false = decide (j < k)) →
   (∀ j, j < m → ¬ Lt j → listed.getD j false = true) →
  ∀ {G : Heap} {a : Act} {w : World} {μ : Mu}, Inv P w0 X0 μ0 n0 m n ops is qs env H G (fun j => listed.getD j false) a w μ → LateFit m is Lt (envOf (is.take m) qs env) G → StF P m is Lt K0 (n - k) k (envOf (is.take m) qs env) G → wpAny P .any ops Q fuel listed a w := by
 obtain ⟨hlen, hget⟩ := cReg_get hc
 have hisl : is.length = ops.size := by rw [← hlen]; simp
 have hmn := E.lt
 have hql : qs.length = m := by rw [← hrun.len, List.length_take]; have := K.le; omega
 -- what is late yields the same here
 have late : ∀ {G : Heap}, LateFit m is Lt (envOf (is.take m) qs env) G → ∀ (j : Nat) (ai : AI) (o : Oper) (q : QI), j < m → Lt j → is[j]? = some ai → ops[j]? = some o → qs[j]? = some q → q.row = none ∧ LQ (envOf (is.take m) qs env) G ai q.s := by
  intro G hfit j ai o q hj hl hai ho hq
  have h2 := E.pl j ai hj hai hl
  have hok := hrun.at (by rw [List.getElem?_take_of_lt hj]; exact hai) hq
  rw [List.take_take, Nat.min_eq_left (by omega)] at hok
  obtain ⟨g1, g2⟩ := hok.late h2
  refine ⟨g1, g2.congr (slot_eq K.toLook (by omega) hql hj hai ho) fun hgd g2 => ?_⟩
  rcases hfit j ai hj hai hl with h3 | ⟨d, hd, h4⟩
  ·rw [aFun_free h3 (H' := G)] at g2
   refine aFun_congr (fun _ _ h => h) ai.op (fun x hx => ?_) g2
   cases x with
   | c s => rfl
   | s t => exact slot_eq K.toLook (by omega) hql hj hai ho t (mem_insSlots hx)
  ·rw [h4 hgd, envOf_at (is.take m) qs env d j ai q (by rw [List.getElem?_take_of_lt hj]; exact hai) hq hd (fun k ak hk hak hdk => by
    have hkn : k < m := by
     have := (List.getElem?_eq_some_iff.1 hak).1
     simp at this
     omega
    rw [List.getElem?_take_of_lt hkn] at hak
    have := K.uniq j k ai ak d (by omega) (by omega) hai hak hd hdk
    omega)]
 have rowless : ∀ {G : Heap}, LateFit m is Lt (envOf (is.take m) qs env) G → ∀ {listed : Array Bool}, (∀ j, j < m → ¬ Lt j → listed.getD j false = true) → ∀ (j : Nat) (q : QI), qs[j]? = some q → listed.getD j false = false → q.row = none := by
  intro G hfit listed hl j q hq hj
  have hjm : j < m := by have := (List.getElem?_eq_some_iff.1 hq).1; omega
  have hjN : j < ops.size := by have := K.le; omega
  by_cases hLt : Lt j
  ·exact (late hfit j is[j] ops[j] q hjm hLt (List.getElem?_eq_getElem (by omega)) (Array.getElem?_eq_getElem hjN) hq).1
  ·rw [hl j hjm hLt] at hj; cases hj
 have fin : ∀ {fuel k : Nat} {listed : Array Bool} {G : Heap} {a : Act} {w : World} {μ : Mu}, listed.size = ops.size → listed.toList.countP (fun b => !b) ≤ fuel → k ≤ n → (∀ j, m ≤ j → j < n → listed.getD j false = decide (j < k)) → (∀ j, j < n → listed.getD j false = true) →
   Inv P w0 X0 μ0 n0 m n ops is qs env H G (fun j => listed.getD j false) a w μ → StF P m is Lt K0 (n - k) k (envOf (is.take m) qs env) G → wpAny P .any ops Q fuel listed a w := by
  intro fuel k listed G a w μ hs hcnt hkn hst hall hinv hops
  have hk : k = n := by
   rcases Nat.lt_or_ge k n with h | h
   ·have h1 := hall k h
    by_cases hmk : m ≤ k
    ·rw [hst k hmk h] at h1; simp at h1
    ·have h2 := hst m (Nat.le_refl _) hmn
     rw [hall m hmn] at h2
     simp at h2
     omega
   ·omega
  subst hk
  rw [Nat.sub_self] at hops
  have hops : aOps P (is.drop k) K0 (envOf (is.take m) qs env) G := hops
  have hrel : Rel w0 X0 μ0 n0 (envOf (is.take m) qs env) G a w μ := by
   refine ⟨hinv.tmps, hinv.defers, fun t => ?_, hinv.heap, hinv.fr, hinv.own, hinv.pre, hinv.xo⟩
   by_cases hex : ∃ (j : Nat) (aj : AI), j < m ∧ is[j]? = some aj ∧ aj.dst = some t
   ·obtain ⟨j, aj, hj, haj, hd⟩ := hex
    obtain ⟨qj, hqj⟩ : ∃ q, qs[j]? = some q := ⟨_, List.getElem?_eq_getElem (by omega)⟩
    rw [envOf_at (is.take m) qs env t j aj qj (by rw [List.getElem?_take_of_lt hj]; exact haj) hqj hd (fun k ak hk hak hdk => by
     have hkn : k < m := by
      have := (List.getElem?_eq_some_iff.1 hak).1
      simp at this
      omega
     rw [List.getElem?_take_of_lt hkn] at hak
     have := K.uniq j k aj ak t (by omega) (by omega) haj hak hd hdk
     omega)]
    exact hinv.done j qj aj t hj hqj haj (hall j (by omega)) hd
   ·rw [envOf_other (is.take m) qs env t (fun ak hak hdk => by
     obtain ⟨k, hk, rfl⟩ := List.mem_iff_getElem.1 hak
     simp at hk
     exact hex ⟨k, is[k], by omega, List.getElem?_eq_getElem (by omega), by simpa using hdk⟩)]
    exact hinv.other t fun j aj hj haj _ hd => hex ⟨j, aj, hj, haj, hd⟩
  exact tail_any K hc hQ fuel k listed (Nat.le_refl _) hs hinv.closed (fun j hj _ => hall j hj) hinv.tail hcnt hrel hops
 intro fuel
 induction fuel with
 | zero =>
  intro k listed hs hcnt hmk hkn hst hlt G a w μ hinv hfit hops
  have hall := count_zero (Nat.le_zero.1 hcnt)
  exact fin hs hcnt hkn hst (fun j hj => hall j (by have := K.le; omega)) hinv hops
 | succ fuel ih =>
  intro k listed hs hcnt hmk hkn hst hlt G a w μ hinv hfit hops
  by_cases hex : ∃ j, j < n ∧ listed.getD j false = false
  ·obtain ⟨j, hj, hjl, hready⟩ := K.ready hs hinv.closed hex
   refine ⟨(fun h => by rw [h] at hready; cases hready), fun i hi => ?_⟩
   obtain ⟨o, ho, h1, h2⟩ := (ready_iff hs).1 hi
   have hiN := (Array.getElem?_eq_some_iff.1 ho).1
   have hin : i < n := by
    rcases Nat.lt_or_ge i n with h | h
    ·exact h
    ·have := K.full i j o h (by omega) ho _ hinv.closed h2
     rw [hjl] at this
     cases this
   have hset := setL (listed := listed) (i := i) (by omega)
   have hcnt' : (listed.setIfInBounds i true).toList.countP (fun b => !b) ≤ fuel := by
    have := count_set (listed := listed) (i := i) (by omega) h1
    omega
   have hlt' : ∀ j, j < m → ¬ Lt j → (listed.setIfInBounds i true).getD j false = true := fun j hj hl => by
    rw [hset]
    split
    ·rfl
    ·exact hlt j hj hl
   rcases Nat.lt_or_ge i m with him | him
   · -- a late one
    have hLt : Lt i := Classical.byContradiction fun hl => by rw [hlt i him hl] at h1; cases h1
    obtain ⟨q, hq⟩ : ∃ q, qs[i]? = some q := ⟨_, List.getElem?_eq_getElem (by omega)⟩
    obtain ⟨ai, hai, hci⟩ := hget i o (by simpa using ho)
    obtain ⟨_, g3⟩ := late hfit i ai o q him hLt hai ho hq
    have hsl := slot_ok K.toLook (by omega) hql hinv hin hai ho h2
    have hev : Evs w (excl μ G) μ a.eval ((insSlots ai).map fun t => (t, (envOf (is.take m) qs env).get t)) := evs_of fun t => by
     rw [map_get]
     split
     ·exact hsl t (by assumption)
     ·exact .dead _
    -- where it stands there
    have next : ∀ {v : Value}, Rep w (excl μ G) μ v q.s → (∀ t, o.dst = some t → t < n0) → ai.dst = o.dst → wpAny P .any ops Q fuel (listed.setIfInBounds i true) (a.put o.dst v) w := by
     intro v h4 hd hdst
     have hst' : ∀ j, m ≤ j → j < n → (listed.setIfInBounds i true).getD j false = decide (j < k) := fun j hj hjn => by
      rw [hset, if_neg (by omega)]
      exact hst j hj hjn
     have := hinv.next (K.toLook.less (by omega)) him hin hai hq ho hset h1 h2 (by rw [hdst]; simpa [Option.all_eq_true] using hd) (Step.same hinv.heap h4) (fun _ _ => rfl)
     rw [hdst] at this
     exact ih k _ (by simpa using hs) hcnt' hmk hkn hst' hlt' this hfit hops
    have carried : ∀ {op : AOp}, cOp P o = some op → ai.op = op → (∀ t, o.dst = some t → t < n0) → ai.dst = o.dst → aFun (envOf (is.take m) qs env) G ai.op = some q.s → o.wp P a w (fun a' w' => wpAny P .any ops Q fuel (listed.setIfInBounds i true) a' w') Q := by
     intro op hop hai' hd hdst g3
     have g4 : aFun ((insSlots ai).map fun t => (t, (envOf (is.take m) qs env).get t)) G ai.op = some q.s := aFun_congr (fun _ _ h => h) ai.op (fun x hx => (ev_map hx).symm) g3
     rw [hai'] at g4
     obtain ⟨v, h3, h4⟩ := fun_sound (P := P) hinv.heap (fun _ _ _ => rfl) hev hop g4
     unfold Oper.wp
     rw [h3]
     exact next h4 hd hdst
    unfold cIns at hci
    split at hci
    ·cases hci
    ·rename_i op hop
     split at hci
     ·rename_i hd
      have hd' : ∀ t, o.dst = some t → t < n0 := by simpa [Option.all_eq_true] using hd
      unfold wpOp
      rw [ho]
      unfold LQ at g3
      split at hci
      ·rename_i hg
       cases hci
       simp only at g3
       simp only [Region.wanted, hg, if_true]
       exact .inl (carried hop rfl hd' rfl g3)
      ·rename_i k' b hg
       split at hci
       ·rename_i t ht
        split at hci
        ·rename_i htn
         cases hci
         simp only at g3
         have hsl' := hsl t (guard_mem rfl)
         rcases g3 with ⟨he, hs0⟩ | ⟨c, he, hcase⟩
         ·rw [he] at hsl'
          simp only [Region.wanted, hg, guard_skip' hsl' ht]
          exact next (by rw [hs0]; exact rep_skip) hd' rfl
         ·rw [he] at hsl'
          have hy := guard_val' hinv.tmps hsl' ht htn
          simp only [Region.wanted, hg, hy]
          rcases hcase with ⟨rfl, h3⟩ | ⟨hcb, hs0⟩
          ·simp only [BEq.rfl, if_true]
           exact .inl (carried hop rfl hd' rfl h3)
          ·have hne : (some c == some b) = false := by subst hcb; cases b <;> rfl
           simp only [hne, Bool.false_eq_true, if_false]
           exact next (by rw [hs0]; exact rep_skip) hd' rfl
        ·cases hci
       ·cases hci
     ·cases hci
   · -- the next writing
    have hik : i = k := by
     rcases Nat.lt_trichotomy i k with h | h | h
     ·rw [hst i him hin] at h1; simp at h1; omega
     ·exact h
     ·have h3 := h2 _ (E.chain i o (by omega) hin ho)
      rw [hst (i - 1) (by omega) (by omega)] at h3
      simp at h3
      omega
    subst hik
    obtain ⟨sz, x, v, hai⟩ := E.st i him hin
    have hdrop : (is.drop i).take 1 = [⟨none, none, .store sz x v⟩] := by
     have hkl := (List.getElem?_eq_some_iff.1 hai).1
     rw [List.drop_eq_getElem_cons hkl, List.take_succ_cons, List.take_zero]
     congr 1
     exact (List.getElem?_eq_some_iff.1 hai).2
    rw [show n - i = (n - (i + 1)) + 1 by omega, StF, hdrop] at hops
    have hops' : aVal P (envOf (is.take m) qs env) G (.store sz x v) fun _ G' => LateFit m is Lt (envOf (is.take m) qs env) G' ∧ StF P m is Lt K0 (n - (i + 1)) (i + 1) (envOf (is.take m) qs env) G' := hops
    refine wpOp_mono ?_ (store_step hs K.toLook hc (by omega) hql hinv hin him hai hi (rowless hfit hlt) hops')
    rintro a' w' ⟨s, G', μ', ⟨h3, h3'⟩, h4⟩
    refine ih (i + 1) _ (by simpa using hs) hcnt' (by omega) (by omega) (fun j hj hjn => ?_) hlt' h4 h3 h3'
    rw [hset]
    split
    ·rename_i h; subst h; simp
    ·rw [hst j hj hjn, decide_eq_decide]; omega
  ·exact fin hs hcnt hkn hst (fun j hj => by
    cases h : listed.getD j false with
    | true => rfl
    | false => exact absurd ⟨j, hj, h⟩ hex) hinv hops
/-- ahead of the first writing -/
theorem early_any (K : Looked n ops is) {m : Nat} {Lt : Nat → Prop} (E : Early m n ops is Lt) (hc : cReg P n0 ops ops.toList = some is) (hQ : ∀ a w, Lands w0 X0 μ0 n0 K0 a w → Q .normal a w) {qs : List QI} {env : Env} {H : Heap} (hrun : QRun P (is.take m) qs env H)
  (hops : StF P m is Lt K0 (n - m) m (envOf (is.take m) qs env) (heapOf qs H)) : ∀ (fuel : Nat) (listed : Array Bool), listed.size = ops.size → listed.toList.countP (fun b => !b) ≤ fuel →
  ∀ {a : Act} {w : World} {μ : Mu}, Inv P w0 X0 μ0 n0 m m ops is qs env H (heapL qs H fun j => listed.getD j false) (fun j => listed.getD j false) a w μ → wpAny P .any ops Q fuel listed a w := by
 obtain ⟨hlen, hget⟩ := cReg_get hc
 have hisl : is.length = ops.size := by rw [← hlen]; simp
 have hmn := E.lt
 have hql : qs.length = m := by rw [← hrun.len, List.length_take]; have := K.le; omega
 intro fuel
 induction fuel with
 | zero =>
  intro listed hs hcnt a w μ hinv
  have h1 := hinv.tail m (Nat.le_refl _)
  rw [count_zero (Nat.le_zero.1 hcnt) m (by have := K.le; omega)] at h1
  cases h1
 | succ fuel ih =>
  intro listed hs hcnt a w μ hinv
  have hex : ∃ j, j < n ∧ listed.getD j false = false := ⟨m, hmn, hinv.tail m (Nat.le_refl _)⟩
  obtain ⟨j, hj, hjl, hready⟩ := K.ready hs hinv.closed hex
  refine ⟨(fun h => by rw [h] at hready; cases hready), fun i hi => ?_⟩
  obtain ⟨o, ho, h1, h2⟩ := (ready_iff hs).1 hi
  have hiN := (Array.getElem?_eq_some_iff.1 ho).1
  have hin : i < n := by
   rcases Nat.lt_or_ge i n with h | h
   ·exact h
   ·have := K.full i j o h (by omega) ho _ hinv.closed h2
    rw [hjl] at this
    cases this
  have hset := setL (listed := listed) (i := i) (by omega)
  have hcnt' : (listed.setIfInBounds i true).toList.countP (fun b => !b) ≤ fuel := by
   have := count_set (listed := listed) (i := i) (by omega) h1
   omega
  rcases Nat.lt_or_ge i m with him | him
  ·refine wpOp_mono ?_ (inv_step (K.toLook.less (by omega)) hc hrun hs hinv him hi)
   rintro a' w' ⟨μ', h3⟩
   exact ih _ (by simpa using hs) hcnt' h3
  ·have hik : i = m := by
    rcases Nat.lt_or_ge m i with h | h
    ·have h3 := h2 _ (E.chain i o h hin ho)
     rw [hinv.tail (i - 1) (by omega)] at h3
     cases h3
    ·omega
   subst hik
   have hlt : ∀ j, j < i → ¬ Lt j → listed.getD j false = true := fun j hj hl => E.aw j o hj hl ho _ hinv.closed h2
   have hrow : ∀ (j : Nat) (q : QI), qs[j]? = some q → listed.getD j false = false → q.row = none := by
    intro j q hq hjf
    have hjm : j < i := by have := (List.getElem?_eq_some_iff.1 hq).1; omega
    by_cases hLt : Lt j
    ·have hai : is[j]? = some is[j] := List.getElem?_eq_getElem (by omega)
     have hok := hrun.at (by rw [List.getElem?_take_of_lt hjm]; exact hai) hq
     exact (hok.late (E.pl j _ hjm hai hLt)).1
    ·rw [hlt j hjm hLt] at hjf; cases hjf
   have hheap : heapL qs H (fun j => listed.getD j false) = heapOf qs H := by
    apply List.ext_getElem?
    intro b
    refine heapL_of ?_
    cases hda : deadAt qs H (fun j => listed.getD j false) b with
    | false => rfl
    | true =>
     obtain ⟨j, q, g1, g2, g3, _⟩ := deadAt_true hda
     rw [hrow j q g1 g2] at g3
     cases g3
   rw [hheap] at hinv
   have hinv' : Inv P w0 X0 μ0 n0 i n ops is qs env H (heapOf qs H) (fun j => listed.getD j false) a w μ :=
    ⟨hinv.closed, fun k hk => hinv.tail k (by omega), hinv.tmps, hinv.defers, hinv.done, hinv.other, hinv.heap, hinv.unl, hinv.fr, hinv.own, hinv.pre, hinv.xo⟩
   obtain ⟨sz, x, v, hai⟩ := E.st i (Nat.le_refl _) hin
   have hdrop : (is.drop i).take 1 = [⟨none, none, .store sz x v⟩] := by
    have hkl := (List.getElem?_eq_some_iff.1 hai).1
    rw [List.drop_eq_getElem_cons hkl, List.take_succ_cons, List.take_zero]
    congr 1
    exact (List.getElem?_eq_some_iff.1 hai).2
   rw [show n - i = (n - (i + 1)) + 1 by omega, StF, hdrop] at hops
   refine wpOp_mono ?_ (store_step hs K.toLook hc (by omega) hql hinv' hin (Nat.le_refl _) hai hi hrow (KV := fun _ G => LateFit i is Lt (envOf (is.take i) qs env) G ∧ StF P i is Lt K0 (n - (i + 1)) (i + 1) (envOf (is.take i) qs env) G) hops)
   rintro a' w' ⟨s, G', μ', ⟨h3, h4⟩, h5⟩
   refine late_any K E hc hQ hrun fuel (i + 1) _ (by simpa using hs) hcnt' (by omega) (by omega) (fun j hj hjn => ?_) (fun j hj hl => ?_) h5 h3 h4
   ·rw [hset]
    split
    ·rename_i h; subst h; simp
    ·rw [hinv.tail j hj]; symm; rw [decide_eq_false_iff_not]; omega
   ·rw [hset]
    split
    ·rfl
    ·exact hlt j hj hl
end
/-- nothing has been carried out yet -/
theorem inv_start {P : Program} {w0 : World} {X0 : Nat → Prop} {μ0 : Mu} {n k : Nat} {ops : Array Oper} {is : List AI} {env : Env} {H : Heap} {a : Act} {w : World} {μ : Mu} (hrel : Rel w0 X0 μ0 n env H a w μ) (qs : List QI) :
  Inv P w0 X0 μ0 n k k ops is qs env H (heapL qs H fun j => (Array.replicate ops.size false).getD j false) (fun j => (Array.replicate ops.size false).getD j false) a w.drew μ := by
 have hfalse : ∀ j, (Array.replicate ops.size false).getD j false = false := by
  intro j
  simp only [Array.getD_eq_getD_getElem?, Array.getElem?_replicate]
  split <;> rfl
 have hk : Keeps (excl μ H) w w.drew := Keeps.drew _ _
 obtain ⟨R, hR, _⟩ := heapOf_append qs H
 have old : ∀ (b : Nat) (r : Row), (heapL qs H fun j => (Array.replicate ops.size false).getD j false)[b]? = some r → r.st ≠ .dead → H[b]? = some r := by
  intro b r hb hd
  obtain ⟨h1, h2⟩ := heapL_alive hb hd
  rcases Nat.lt_or_ge b H.length with h | h
  ·rw [hR, List.getElem?_append_left h] at h2
   exact h2
  · -- a row of an operation that has not been carried out
   exfalso
   have : ∀ (qs : List QI) (H : Heap) (b : Nat) (r : Row), H.length ≤ b → (heapOf qs H)[b]? = some r → ∃ j q, qs[j]? = some q ∧ q.row.isSome = true ∧ nameAt qs H j = b := by
    intro qs
    induction qs with
    | nil =>
     intro H b r hb hr
     simp only [heapOf] at hr
     have := (List.getElem?_eq_some_iff.1 hr).1
     omega
    | cons q qs ih =>
     intro H b r hb hr
     simp only [heapOf] at hr
     rcases Nat.lt_or_ge b (H ++ q.row.toList).length with h | h
     ·refine ⟨0, q, rfl, ?_, ?_⟩
      ·cases hq : q.row with
       | none => rw [hq] at h; simp at h; omega
       | some _ => rfl
      ·cases hq : q.row with
       | none => rw [hq] at h; simp at h; omega
       | some _ => rw [hq] at h; simp at h; simp [nameAt, heapOf]; omega
     ·obtain ⟨j, q', g1, g2, g3⟩ := ih _ b r h hr
      exact ⟨j + 1, q', by simpa using g1, g2, by simpa [nameAt, heapOf] using g3⟩
   obtain ⟨j, q, g1, g2, g3⟩ := this qs H b r h h2
   rw [← g3, deadAt_of g1 (hfalse j) g2] at h1
   cases h1
 have ho : ∀ k, owned μ (heapL qs H fun j => (Array.replicate ops.size false).getD j false) k → owned μ H k := by
  rintro k ⟨b, r, l, hb, hst, hl, hv, rfl⟩
  exact ⟨b, r, l, old b r hb (by rw [hst]; decide), hst, hl, hv, rfl⟩
 have keep : ∀ {u : Value} {s : S}, Rep w (excl μ H) μ u s → Rep w.drew (excl μ (heapL qs H fun j => (Array.replicate ops.size false).getD j false)) μ u s :=
  fun h => h.keeps hk (fun k hk' => .inl (hk'.imp (ho k) id)) (fun _ _ h => h)
 refine ⟨fun i o _ hL => ?_, fun k _ => hfalse k, hrel.tmps, hrel.defers, fun j q i t _ _ _ hL _ => ?_, fun t _ => keep (hrel.env t), ?_, fun j q hj _ hr => ?_, ?_, fun k hk' => hrel.own k (ho k hk'), hrel.pre, hrel.xo⟩
 ·simp only [hfalse] at hL; cases hL
 ·simp only [hfalse] at hL; cases hL
 ·refine hrel.heap.drew.alter (Keeps.drew _ _) (fun k hk' => .inl (ho k hk')) (fun _ _ h => h) rfl (Nat.le_refl _) ?_ (fun b r l hb hd hl => .inr ⟨old b r hb hd, hl, fun _ _ => rfl⟩) ?_
  ·intro b l hb
   rw [heapL_len, hR, List.length_append]
   have := hrel.heap.dom b l hb
   omega
  ·intro b b' r r' l l' hb hb' hst hst' hl hl' hv hv' heq
   exact hrel.heap.inj b b' r r' l l' (old b r hb (by rw [hst]; decide)) (old b' r' hb' (by rw [hst']; decide)) hst hst' hl hl' hv hv' heq
 ·cases hn : μ (nameAt qs H j) with
  | none => rfl
  | some l =>
   have := hrel.heap.dom _ l hn
   have := nameAt_ge (qs := qs) (H := H) j
   omega
 ·exact ⟨hrel.fr.os, hrel.fr.tape, hrel.fr.output, hrel.fr.size, fun k hk' hx => hrel.fr.keep k hk' hx⟩
theorem coreLen_le (is : List AI) : ∀ n, coreLen is n ≤ n
 | 0 => Nat.le_refl _
 | n + 1 => by
  rw [coreLen]
  split
  ·have := coreLen_le is n; omega
  ·exact Nat.le_refl _
theorem coreLen_st (is : List AI) : ∀ n k, coreLen is n ≤ k → k < n → isStore (is.getD k default) = true
 | 0, k, _, h => by omega
 | n + 1, k, h1, h2 => by
  rw [coreLen] at h1
  split at h1
  ·rename_i hst
   by_cases hk : k = n
   ·subst hk; exact hst
   ·exact coreLen_st is n k h1 (by omega)
  ·omega
theorem isStore_inv {i : AI} (h : isStore i = true) : ∃ sz x v, i = ⟨none, none, .store sz x v⟩ := by
 unfold isStore at h
 split at h
 ·exact ⟨_, _, _, rfl⟩
 ·cases h
theorem lateOk_mem {e : Env} {H : Heap} : ∀ {l : List AI}, lateOk l e H → ∀ i ∈ l, ∃ d, i.dst = some d ∧ ((∀ t b, i.guard = some (t, b) → e.get t = .pure (.bool b)) → aFun e H i.op = some (e.get d))
 | [], _, i, hi => by cases hi
 | x :: r, h, i, hi => by
  obtain ⟨h1, h2⟩ := h
  rcases List.mem_cons.1 hi with rfl | hi
  ·split at h1
   ·rename_i d hd _; exact ⟨d, hd, fun _ => h1⟩
   ·rename_i d t b hd hg; exact ⟨d, hd, fun h => h1 (h t b hg)⟩
   ·exact h1.elim
  ·exact lateOk_mem h2 i hi
theorem early_of {ops : Array Oper} {is : List AI} {n : Nat} (hisl : is.length = ops.size) (K : Looked n ops is) (hne : coreLen is n ≠ n) (hf : lateFine ops is (coreLen is n) n = true) : Early (coreLen is n) n ops is (fun j => j ∈ notAwaited ops (coreLen is n)) := by
 have hle := coreLen_le is n
 have hn := K.le
 obtain ⟨h1, h2⟩ := Bool.and_eq_true_iff.1 hf
 simp only [List.all_eq_true, Bool.and_eq_true, beq_iff_eq, Bool.or_eq_true, List.mem_range, decide_eq_true_eq, List.contains_iff_mem] at h1 h2
 refine ⟨by omega, fun k hk hkn => ?_, fun k o hk hkn ho => ?_, fun j o hj hl ho L hL hd => ?_, fun j ai hj hai hl => ?_⟩
 ·obtain ⟨sz, x, v, h⟩ := isStore_inv (coreLen_st is n k hk hkn)
  refine ⟨sz, x, v, ?_⟩
  rw [← h, List.getD_eq_getElem?_getD, List.getElem?_eq_getElem (by omega)]
  rfl
 ·rcases h2 k hkn with h | h
  ·omega
  ·rwa [show ops.getD k default = o by simp [Array.getD_eq_getD_getElem?, ho]] at h
 ·have hA : j ∈ (ancs ops.toList []).getD (coreLen is n) [] := by
   refine Classical.byContradiction fun hc => hl ?_
   simp only [notAwaited, List.mem_filter, List.mem_range, Bool.not_eq_true', List.contains_eq_mem, decide_eq_false_iff_not]
   exact ⟨hj, hc⟩
  cases hA' : (ancs ops.toList [])[coreLen is n]? with
  | none => rw [List.getD_eq_getElem?_getD, hA'] at hA; simp at hA
  | some A =>
   rw [List.getD_eq_getElem?_getD, hA'] at hA
   exact ancs_sound ops ops.toList [] (fun j => by simp) (fun i A h => by simp at h) _ A hA' L hL o ho hd j hA
 ·have := h1 j hl
  rw [show is.getD j default = ai by simp [List.getD_eq_getElem?_getD, hai]] at this
  exact this.2.imp AOp.free_slots (·.1)
theorem early_of2 {ops : Array Oper} {is : List AI} {n : Nat} (hisl : is.length = ops.size) (K : Looked n ops is) (hne : coreLen is n ≠ n) (hf : lateFine2 ops is (coreLen is n) n = true) : Early (coreLen is n) n ops is (fun j => j ∈ notAwaited ops (coreLen is n)) := by
 have hle := coreLen_le is n
 have hn := K.le
 obtain ⟨h1, h2⟩ := Bool.and_eq_true_iff.1 hf
 simp only [List.all_eq_true, Bool.and_eq_true, Bool.or_eq_true, List.mem_range, decide_eq_true_eq, List.contains_iff_mem] at h1 h2
 refine ⟨by omega, fun k hk hkn => ?_, fun k o hk hkn ho => ?_, fun j o hj hl ho L hL hd => ?_, fun j ai hj hai hl => ?_⟩
 ·obtain ⟨sz, x, v, h⟩ := isStore_inv (coreLen_st is n k hk hkn)
  refine ⟨sz, x, v, ?_⟩
  rw [← h, List.getD_eq_getElem?_getD, List.getElem?_eq_getElem (by omega)]
  rfl
 ·rcases h2 k hkn with h | h
  ·omega
  ·rwa [show ops.getD k default = o by simp [Array.getD_eq_getD_getElem?, ho]] at h
 ·have hA : j ∈ (ancs ops.toList []).getD (coreLen is n) [] := by
   refine Classical.byContradiction fun hc => hl ?_
   simp only [notAwaited, List.mem_filter, List.mem_range, Bool.not_eq_true', List.contains_eq_mem, decide_eq_false_iff_not]
   exact ⟨hj, hc⟩
  cases hA' : (ancs ops.toList [])[coreLen is n]? with
  | none => rw [List.getD_eq_getElem?_getD, hA'] at hA; simp at hA
  | some A =>
   rw [List.getD_eq_getElem?_getD, hA'] at hA
   exact ancs_sound ops ops.toList [] (fun j => by simp) (fun i A h => by simp at h) _ A hA' L hL o ho hd j hA
 ·have := h1 j hl
  rw [show is.getD j default = ai by simp [List.getD_eq_getElem?_getD, hai]] at this
  exact this.imp id (·.1)
theorem aOps_append {P : Program} {K : Env → Heap → Prop} : ∀ (a b : List AI), aOps P (a ++ b) K = aOps P a (aOps P b K)
 | [], _ => rfl
 | i :: a, b => by
  show aIns P i (aOps P (a ++ b) K) = aIns P i (aOps P a (aOps P b K))
  rw [aOps_append a b]
theorem store_mono {P : Program} {K K' : Env → Heap → Prop} (hK : ∀ e h, K e h → K' e h) {i : AI} (hi : isStore i = true) {e : Env} {H : Heap} (h : aOps P [i] K e H) : aOps P [i] K' e H := by
 obtain ⟨sz, x, v, rfl⟩ := isStore_inv hi
 have h' : aVal P e H (.store sz x v) fun _ H' => K e H' := h
 show aVal P e H (.store sz x v) fun _ H' => K' e H'
 simp only [aVal] at h' ⊢
 split at h'
 ·rename_i heq
  split at h'
  ·rename_i hb
   obtain ⟨g1, g2⟩ := h'
   split at g2
   ·rename_i he
    try simp only [heq, hb, he]
    exact ⟨g1, g2.1, g2.2.1, g2.2.2.1, hK _ _ g2.2.2.2⟩
   ·exact g2.elim
  ·exact h'.elim
 ·exact h'.elim
theorem stF_free {P : Program} {m : Nat} {is : List AI} {Lt : Nat → Prop} {K0 : Env → Heap → Prop} (hL : ∀ e G, LateFit m is Lt e G) : ∀ (f k : Nat), (∀ j, k ≤ j → j < k + f → isStore (is.getD j default) = true) → k + f ≤ is.length → ∀ {e : Env} {G : Heap}, aOps P (is.drop k) K0 e G → StF P m is Lt K0 f k e G
 | 0, _, _, _, _, _, h => h
 | f + 1, k, hs, hl, e, G, h => by
  have hdrop : is.drop k = [is.getD k default] ++ is.drop (k + 1) := by
   rw [List.drop_eq_getElem_cons (by omega), List.getD_eq_getElem?_getD, List.getElem?_eq_getElem (by omega)]
   rfl
  have ht : (is.drop k).take 1 = [is.getD k default] := by rw [hdrop]; rfl
  rw [hdrop, aOps_append] at h
  rw [StF, ht]
  exact store_mono (fun e h hh => ⟨hL e h, stF_free hL f (k + 1) (fun j h1 h2 => hs j (by omega) (by omega)) (by omega) hh⟩) (hs k (Nat.le_refl _) (by omega)) h
theorem stF_late {P : Program} {m : Nat} {is lates : List AI} {Lt : Nat → Prop} {K0 : Env → Heap → Prop} (hL : ∀ e G, lateOk lates e G → LateFit m is Lt e G) : ∀ (f k : Nat), (∀ j, k ≤ j → j < k + f → isStore (is.getD j default) = true) → k + f = is.length → ∀ {e : Env} {G : Heap}, stK P lates (is.drop k) K0 e G → StF P m is Lt K0 f k e G
 | 0, k, _, hl, e, G, h => by
  have : is.drop k = [] := List.drop_eq_nil_of_le (by omega)
  rw [this] at h
  rw [StF, this]
  exact h
 | f + 1, k, hs, hl, e, G, h => by
  have hdrop : is.drop k = is.getD k default :: is.drop (k + 1) := by
   rw [List.drop_eq_getElem_cons (by omega), List.getD_eq_getElem?_getD, List.getElem?_eq_getElem (by omega)]
   rfl
  have ht : (is.drop k).take 1 = [is.getD k default] := by rw [hdrop]; rfl
  rw [hdrop, stK] at h
  rw [StF, ht]
  exact store_mono (fun e h hh => ⟨hL e h hh.1, stF_late hL f (k + 1) (fun j h1 h2 => hs j (by omega) (by omega)) (by omega) hh.2⟩) (hs k (Nat.le_refl _) (by omega)) h
theorem reg1 (ops : Array Oper) (is : List AI) (ac : AC) (h : RC1 ops is = some ac) : ac.isReg = true := by
 unfold RC1 at h
 split at h
 ·cases h
 ·split at h
  ·cases h; rfl
  ·split at h
   ·split at h
    ·cases h; rfl
    ·split at h
     ·cases h; rfl
     ·cases h
   ·cases h
theorem regAny {P : Program} {w0 : World} {X0 : Nat → Prop} {μ0 : Mu} {n : Nat} {ops : Array Oper} {is : List AI} {ac : AC} {K : Env → Heap → Prop} {Q : Exit → Act → World → Prop} {env : Env} {H : Heap} {a : Act} {w : World} {μ : Mu}
  (hQ : ∀ a w, Lands w0 X0 μ0 n K a w → Q .normal a w) (hc : cReg P n ops ops.toList = some is) (hr : RC1 ops is = some ac) (hrel : Rel w0 X0 μ0 n env H a w μ) (hq : RQs P ac K env H) :
  wpAny P .any ops Q ops.size (Array.replicate ops.size false) a { w with drawn := w.drawn + 1 } := by
 obtain ⟨hlen, _⟩ := cReg_get hc
 have hisl : is.length = ops.size := by rw [← hlen]; simp
 unfold RC1 at hr
 split at hr
 ·cases hr
 rename_i k hk
 have L := regC_looked hisl hk
 have hle := coreLen_le is k
 split at hr
 ·cases hr
  obtain ⟨qs, hrun, hops⟩ := aQs_inv (is.take k) hq
  exact prefix_any L hc hQ hrun hops ops.size _ (by simp) (by simp [List.countP_replicate]) (μ := μ) (inv_start hrel qs)
 ·rename_i hne
  split at hr
  ·rename_i hf
   have E := early_of hisl L hne hf
   have hcl : coreLen is k < is.length := by have := L.le; have := E.lt; omega
   have memLate : ∀ (j : Nat) (ai : AI), is[j]? = some ai → j ∈ notAwaited ops (coreLen is k) → ai.op.free = false → ai ∈ lateOps ops is (coreLen is k) := by
    intro j ai hai hl hfr
    have hg : is.getD j default = ai := by simp [List.getD_eq_getElem?_getD, hai]
    simp only [lateOps, List.mem_map, List.mem_filter, Bool.not_eq_true']
    exact ⟨j, ⟨hl, by rw [hg]; exact hfr⟩, hg⟩
   split at hr
   ·rename_i hemp
    cases hr
    obtain ⟨qs, hrun, hops⟩ := aQs_inv (is.take (coreLen is k)) hq
    refine early_any L E hc hQ hrun (qs := qs) (env := env) (H := H) ?_ ops.size _ (by simp) (by simp [List.countP_replicate]) (μ := μ) (inv_start hrel qs)
    refine stF_free (fun e G j ai hj hai hl => ?_) _ _ (fun j h1 h2 => coreLen_st is k j h1 (by omega)) (by have := L.le; omega) hops
    cases hfr : ai.op.free with
    | true => exact .inl (AOp.free_slots hfr)
    | false =>
     have := memLate j ai hai hl hfr
     rw [List.isEmpty_iff.1 hemp] at this
     cases this
   ·split at hr
    ·rename_i hk1
     cases hr
     obtain ⟨qs, hrun, hops⟩ := aQs_inv (is.take (coreLen is k)) hq
     refine early_any L E hc hQ hrun (qs := qs) (env := env) (H := H) ?_ ops.size _ (by simp) (by simp [List.countP_replicate]) (μ := μ) (inv_start hrel qs)
     have h1 : (is.drop (coreLen is k)).take 1 = [is.getD (coreLen is k) default] := by
      rw [List.drop_eq_getElem_cons hcl, List.take_succ_cons, List.take_zero, List.getD_eq_getElem?_getD, List.getElem?_eq_getElem hcl]
      rfl
     have h2 : k - coreLen is k = 1 := by omega
     rw [h2, StF, h1]
     refine store_mono (fun e h hh => ⟨fun j ai hj hai hl => ?_, by rw [← hk1]; exact hh.2⟩) (coreLen_st is k _ (Nat.le_refl _) E.lt) hops
     cases hfr : ai.op.free with
     | true => exact .inl (AOp.free_slots hfr)
     | false => exact .inr (lateOk_mem hh.1 ai (memLate j ai hai hl hfr))
    ·cases hr
  ·cases hr
theorem regP_looked {ops : Array Oper} {is : List AI} {l : List Nat} (_ : is.length = ops.size) (h : regP ops is l = true) : Looked ops.size ops is := by
 simp only [regP, Bool.and_eq_true, List.all_eq_true, List.mem_range, decide_eq_true_eq, Bool.or_eq_true, bne_iff_ne, ne_eq, beq_iff_eq, List.contains_iff_mem] at h
 obtain ⟨h1, h2, h3⟩ := h
 have hg : ∀ {j : Nat} {ai : AI}, is[j]? = some ai → is.getD j default = ai := fun h => by simp [List.getD_eq_getElem?_getD, h]
 have ho : ∀ {j : Nat} {o : Oper}, ops[j]? = some o → ops.getD j default = o := fun h => by simp [Array.getD_eq_getD_getElem?, h]
 refine ⟨⟨⟨fun i => l.getD i 0, fun i o hi d hd => ?_⟩, fun i j ai aj o t hi hj hai haj hoi ht hd => ?_, fun j k aj ak t hj hk haj hak hd1 hd2 => ?_, Nat.le_refl _⟩, fun k o hk hok => ?_, fun k j o hk hj hok => ?_⟩
 ·exact h1 i (Array.getElem?_eq_some_iff.1 hi).1 d (by rw [ho hi]; exact hd)
 ·rcases h2 i hi t (by rw [hg hai]; exact ht) j hj with h | h
  ·rw [hg haj] at h; exact absurd hd h
  ·rw [ho hoi] at h; exact h
 ·rcases h3 j hj k hk with (h | h) | h
  ·exact h
  ·rw [hg haj, hd1] at h; cases h
  ·rw [hg haj, hg hak, hd1, hd2] at h; exact absurd rfl h
 ·have := (Array.getElem?_eq_some_iff.1 hok).1; omega
 ·have := (Array.getElem?_eq_some_iff.1 hok).1; omega
theorem regAny3 {P : Program} {w0 : World} {X0 : Nat → Prop} {μ0 : Mu} {n : Nat} {ops : Array Oper} {is : List AI} {l : List Nat} {ac : AC} {K : Env → Heap → Prop} {Q : Exit → Act → World → Prop} {env : Env} {H : Heap} {a : Act} {w : World} {μ : Mu}
  (hQ : ∀ a w, Lands w0 X0 μ0 n K a w → Q .normal a w) (hc : cReg P n ops ops.toList = some is) (hr : RC3 ops is l = some ac) (hrel : Rel w0 X0 μ0 n env H a w μ) (hq : RQs P ac K env H) :
  wpAny P .any ops Q ops.size (Array.replicate ops.size false) a { w with drawn := w.drawn + 1 } := by
 obtain ⟨hlen, _⟩ := cReg_get hc
 have hisl : is.length = ops.size := by rw [← hlen]; simp
 unfold RC3 at hr
 split at hr
 ·rename_i hh
  obtain ⟨hp, hne, hf⟩ := hh
  cases hr
  have L := regP_looked hisl hp
  have E := early_of hisl L hne hf
  have hle := coreLen_le is ops.size
  obtain ⟨qs, hrun, hops⟩ := aQs_inv (is.take (coreLen is ops.size)) hq
  refine early_any L E hc hQ hrun (qs := qs) (env := env) (H := H) ?_ ops.size _ (by simp) (by simp [List.countP_replicate]) (μ := μ) (inv_start hrel qs)
  refine stF_late (lates := lateOps ops is (coreLen is ops.size)) (fun e G hlo j ai hj hai hl => ?_) _ _ (fun j h1 h2 => coreLen_st is ops.size j h1 (by omega)) (by omega) hops
  cases hfr : ai.op.free with
  | true => exact .inl (AOp.free_slots hfr)
  | false =>
   have hg : is.getD j default = ai := by simp [List.getD_eq_getElem?_getD, hai]
   refine .inr (lateOk_mem hlo ai ?_)
   simp only [lateOps, List.mem_map, List.mem_filter, Bool.not_eq_true']
   exact ⟨j, ⟨hl, by rw [hg]; exact hfr⟩, hg⟩
 ·cases hr
theorem regAny4 {P : Program} {w0 : World} {X0 : Nat → Prop} {μ0 : Mu} {n : Nat} {ops : Array Oper} {is : List AI} {l : List Nat} {ac : AC} {K : Env → Heap → Prop} {Q : Exit → Act → World → Prop} {env : Env} {H : Heap} {a : Act} {w : World} {μ : Mu}
  (hQ : ∀ a w, Lands w0 X0 μ0 n K a w → Q .normal a w) (hc : cReg P n ops ops.toList = some is) (hr : RC4 ops is l = some ac) (hrel : Rel w0 X0 μ0 n env H a w μ) (hq : RQs P ac K env H) :
  wpAny P .any ops Q ops.size (Array.replicate ops.size false) a { w with drawn := w.drawn + 1 } := by
 obtain ⟨hlen, _⟩ := cReg_get hc
 have hisl : is.length = ops.size := by rw [← hlen]; simp
 unfold RC4 at hr
 split at hr
 ·rename_i hh
  obtain ⟨hp, hne, hf⟩ := hh
  cases hr
  have L := regP_looked hisl hp
  have E := early_of2 hisl L hne hf
  have hle := coreLen_le is ops.size
  obtain ⟨qs, hrun, hops⟩ := aQs_inv (is.take (coreLen is ops.size)) hq
  refine early_any L E hc hQ hrun (qs := qs) (env := env) (H := H) ?_ ops.size _ (by simp) (by simp [List.countP_replicate]) (μ := μ) (inv_start hrel qs)
  refine stF_late (lates := lateOps2 ops is (coreLen is ops.size)) (fun e G hlo j ai hj hai hl => ?_) _ _ (fun j h1 h2 => coreLen_st is ops.size j h1 (by omega)) (by omega) hops
  cases hfr : ai.op.slots with
  | true => exact .inl rfl
  | false =>
   have hg : is.getD j default = ai := by simp [List.getD_eq_getElem?_getD, hai]
   refine .inr (lateOk_mem hlo ai ?_)
   simp only [lateOps2, List.mem_map, List.mem_filter, Bool.not_eq_true']
   exact ⟨j, ⟨hl, by rw [hg]; exact hfr⟩, hg⟩
 ·cases hr
/-! ### the same operations, told in another order -/
def renOp (l : List Nat) (o : Oper) : Oper := { o with after := o.after.map fun e => { e with on := l.idxOf e.on }, guard := o.guard.map fun g => (l.idxOf g.1, g.2) }
def permOps (ops : Array Oper) (l : List Nat) : Array Oper := (l.map fun i => renOp l (ops.getD i default)).toArray
def permIs (is : List AI) (l : List Nat) : List AI := l.map fun i => is.getD i default
def permOk (n : Nat) (l : List Nat) : Bool := (l.length == n) && ((List.range n).all fun i => l.contains i) && (l.all fun i => decide (i < n)) && ((List.range n).all fun k => l.idxOf (l.getD k 0) == k)
structure Perm (n : Nat) (l : List Nat) : Prop where
 len : l.length = n
 all : ∀ i, i < n → i ∈ l
 lt : ∀ i ∈ l, i < n
 idx : ∀ k, k < n → l.idxOf (l.getD k 0) = k
theorem permOk_of {n : Nat} {l : List Nat} (h : permOk n l = true) : Perm n l := by
 simp only [permOk, Bool.and_eq_true, beq_iff_eq, List.all_eq_true, List.mem_range, List.contains_iff_mem, decide_eq_true_eq] at h
 exact ⟨h.1.1.1, h.1.1.2, h.1.2, h.2⟩
theorem Perm.at {n : Nat} {l : List Nat} (h : Perm n l) {i : Nat} (hi : i < n) : l.idxOf i < n ∧ l[l.idxOf i]? = some i := by
 have hm := h.all i hi
 have h1 : l.idxOf i < l.length := List.idxOf_lt_length_iff.2 hm
 refine ⟨by rw [← h.len]; exact h1, ?_⟩
 rw [List.getElem?_eq_getElem h1, List.getElem_idxOf]
theorem Perm.out {n : Nat} {l : List Nat} (h : Perm n l) {i : Nat} (hi : n ≤ i) : l.idxOf i = n := by
 rw [← h.len]
 exact List.idxOf_eq_length (fun hm => by have := h.lt i hm; omega)
theorem permOps_size {ops : Array Oper} {l : List Nat} (h : Perm ops.size l) : (permOps ops l).size = ops.size := by simp [permOps, h.len]
theorem permOps_at {ops : Array Oper} {l : List Nat} (h : Perm ops.size l) {i : Nat} {o : Oper} (ho : ops[i]? = some o) : (permOps ops l)[l.idxOf i]? = some (renOp l o) := by
 have hi := (Array.getElem?_eq_some_iff.1 ho).1
 obtain ⟨h1, h2⟩ := h.at hi
 simp [permOps, h2, Array.getD_eq_getD_getElem?, ho]
theorem permOps_none {ops : Array Oper} {l : List Nat} (h : Perm ops.size l) {i : Nat} (hi : ops.size ≤ i) : (permOps ops l)[l.idxOf i]? = none := by
 rw [h.out hi]
 exact Array.getElem?_eq_none (by rw [permOps_size h]; exact Nat.le_refl _)
theorem perm_yielded {ops : Array Oper} {l : List Nat} (h : Perm ops.size l) (tmps : Array Value) (j : Nat) : yielded (permOps ops l) tmps (l.idxOf j) = yielded ops tmps j := by
 unfold yielded
 cases hj : ops[j]? with
 | none =>
  rw [permOps_none h (Array.getElem?_eq_none_iff.1 hj)]
 | some o => rw [permOps_at h hj]; rfl
theorem perm_wanted {ops : Array Oper} {l : List Nat} (h : Perm ops.size l) (o : Oper) (tmps : Array Value) : Region.wanted (renOp l o) (yielded (permOps ops l) tmps) = Region.wanted o (yielded ops tmps) := by
 unfold Region.wanted renOp
 cases hg : o.guard with
 | none => simp
 | some g => simp [perm_yielded h]
theorem ren_wp {P : Program} {l : List Nat} {o : Oper} {a : Act} {w : World} {K : Act → World → Prop} {Q : Exit → Act → World → Prop} : (renOp l o).wp P a w K Q = o.wp P a w K Q := by
 cases o; rfl
theorem ren_asks {P : Program} {l : List Nat} {o : Oper} {a : Act} {w : World} : (renOp l o).asks P a w = o.asks P a w := by
 cases o; rfl
theorem perm_directs {l : List Nat} {o : Oper} : directs (renOp l o) = (directs o).map (fun d => l.idxOf d) := by
 simp only [directs, renOp, Array.toList_map, List.filter_map, List.map_map]
 rfl
theorem perm_wpOp {P : Program} {ops : Array Oper} {l : List Nat} (h : Perm ops.size l) {Q : Exit → Act → World → Prop} {i : Nat} (hi : i < ops.size) {K K' : Act → World → Prop} (hK : ∀ a w, K' a w → K a w) {a : Act} {w : World}
  (hw : wpOp P (permOps ops l) Q (l.idxOf i) K' a w) : wpOp P ops Q i K a w := by
 have ho : ops[i]? = some ops[i] := Array.getElem?_eq_getElem hi
 unfold wpOp at *
 rw [permOps_at h ho] at hw
 rw [ho]
 simp only [perm_wanted h] at hw ⊢
 split at hw
 ·rename_i hwd
  rw [if_pos hwd]
  rcases hw with hw | hw
  ·rw [ren_wp] at hw
   exact .inl (Oper.wp_mono hK hw)
  ·rw [ren_asks] at hw
   exact .inr hw
 ·rename_i hwd
  rw [if_neg hwd]
  exact hK _ _ hw
theorem perm_ready {ops : Array Oper} {l : List Nat} (h : Perm ops.size l) {u v : Array Bool} (hu : u.size = ops.size) (hv : v.size = ops.size) (huv : ∀ i, i < ops.size → v.getD (l.idxOf i) false = u.getD i false) {i : Nat} (hi : i < ops.size) :
  i ∈ Region.ready .any ops u ↔ l.idxOf i ∈ Region.ready .any (permOps ops l) v := by
 have ho : ops[i]? = some ops[i] := Array.getElem?_eq_getElem hi
 have hd : ∀ d, v.getD (l.idxOf d) false = u.getD d false := by
  intro d
  by_cases hd : d < ops.size
  ·exact huv d hd
  ·rw [h.out (by omega)]
   simp [Array.getD_eq_getD_getElem?, Array.getElem?_eq_none (show v.size ≤ ops.size by omega), Array.getElem?_eq_none (show u.size ≤ d by omega)]
 rw [ready_iff hu, ready_iff (by rw [hv, permOps_size h])]
 constructor
 ·rintro ⟨o, h1, h2, h3⟩
  refine ⟨_, permOps_at h h1, by rw [huv i hi]; exact h2, fun d hdm => ?_⟩
  rw [perm_directs] at hdm
  obtain ⟨d', hd', rfl⟩ := List.mem_map.1 hdm
  rw [hd]
  exact h3 d' hd'
 ·rintro ⟨o, h1, h2, h3⟩
  rw [permOps_at h ho] at h1
  cases h1
  refine ⟨_, ho, by rw [← huv i hi]; exact h2, fun d hdm => ?_⟩
  rw [← hd]
  exact h3 _ (by rw [perm_directs]; exact List.mem_map_of_mem hdm)
theorem wpAny_perm {P : Program} {ops : Array Oper} {l : List Nat} (h : Perm ops.size l) {Q : Exit → Act → World → Prop} : ∀ (fuel : Nat) (u v : Array Bool), u.size = ops.size → v.size = ops.size → (∀ i, i < ops.size → v.getD (l.idxOf i) false = u.getD i false) →
  ∀ {a : Act} {w : World}, wpAny P .any (permOps ops l) Q fuel v a w → wpAny P .any ops Q fuel u a w := by
 have inR : ∀ {u : Array Bool} {i : Nat}, u.size = ops.size → i ∈ Region.ready .any ops u → i < ops.size := by
  intro u i hu hi
  obtain ⟨o, ho, _⟩ := (ready_iff hu).1 hi
  exact (Array.getElem?_eq_some_iff.1 ho).1
 have empty : ∀ {u v : Array Bool}, u.size = ops.size → v.size = ops.size → (∀ i, i < ops.size → v.getD (l.idxOf i) false = u.getD i false) → (Region.ready .any ops u = [] ↔ Region.ready .any (permOps ops l) v = []) := by
  intro u v hu hv huv
  constructor
  ·intro he
   rw [List.eq_nil_iff_forall_not_mem] at he ⊢
   intro k hk
   obtain ⟨o, ho, _⟩ := (ready_iff (by rw [hv, permOps_size h])).1 hk
   have hlt := (Array.getElem?_eq_some_iff.1 ho).1
   rw [permOps_size h] at hlt
   have hm : l.getD k 0 ∈ l := by
    rw [List.getD_eq_getElem?_getD, List.getElem?_eq_getElem (by rw [h.len]; exact hlt)]
    exact List.getElem_mem _
   have := (perm_ready h hu hv huv (h.lt _ hm)).2 (by rw [h.idx k hlt]; exact hk)
   exact he _ this
  ·intro he
   rw [List.eq_nil_iff_forall_not_mem] at he ⊢
   intro i hi
   exact he _ ((perm_ready h hu hv huv (inR hu hi)).1 hi)
 intro fuel
 induction fuel with
 | zero =>
  intro u v hu hv huv a w hw
  exact ⟨(empty hu hv huv).2 hw.1, hw.2⟩
 | succ fuel ih =>
  intro u v hu hv huv a w hw
  refine ⟨fun he => hw.1 ((empty hu hv huv).1 he), fun i hi => ?_⟩
  have hlt := inR hu hi
  have hk := (perm_ready h hu hv huv hlt).1 hi
  have hkl := (h.at hlt).1
  refine perm_wpOp h hlt (fun a w => ih _ _ (by simpa using hu) (by simpa using hv) (fun j hj => ?_)) (hw.2 _ hk)
  rw [setL (by omega), setL (by omega)]
  have hiff : l.idxOf j = l.idxOf i ↔ j = i := by
   constructor
   ·intro e
    have e1 := (h.at hj).2
    have e2 := (h.at hlt).2
    rw [e] at e1
    rw [e1] at e2
    exact Option.some.inj e2
   ·rintro rfl; rfl
  by_cases hji : j = i
  ·rw [if_pos hji, if_pos (hiff.2 hji)]
  ·rw [if_neg hji, if_neg (fun e => hji (hiff.1 e))]
   exact huv j hj
theorem perm_cIns {P : Program} {n : Nat} {ops : Array Oper} {l : List Nat} (h : Perm ops.size l) {o : Oper} {i : AI} (hc : cIns P n ops o = some i) : cIns P n (permOps ops l) (renOp l o) = some i := by
 have hg : ∀ j, ((permOps ops l)[l.idxOf j]?).bind (·.dst) = (ops[j]?).bind (·.dst) := by
  intro j
  cases hj : ops[j]? with
  | none => rw [permOps_none h (Array.getElem?_eq_none_iff.1 hj)]
  | some o => rw [permOps_at h hj]; rfl
 have ho : cOp P (renOp l o) = cOp P o := by cases o; rfl
 unfold cIns at hc ⊢
 rw [ho]
 cases hop : cOp P o with
 | none => rw [hop] at hc; cases hc
 | some op =>
  rw [hop] at hc
  simp only at hc ⊢
  have hd : (renOp l o).dst = o.dst := rfl
  rw [hd]
  split at hc
  ·rename_i hd'
   rw [if_pos hd']
   cases hgu : o.guard with
   | none =>
    rw [hgu] at hc
    have : (renOp l o).guard = none := by simp [renOp, hgu]
    rw [this]
    exact hc
   | some g =>
    rw [hgu] at hc
    have : (renOp l o).guard = some (l.idxOf g.1, g.2) := by simp [renOp, hgu]
    rw [this]
    simp only [hg] at hc ⊢
    exact hc
  ·cases hc
theorem cReg_of {P : Program} {n : Nat} {ops : Array Oper} : ∀ {l : List Oper} {q : List AI}, l.length = q.length → (∀ (k : Nat) (o : Oper) (i : AI), l[k]? = some o → q[k]? = some i → cIns P n ops o = some i) → cReg P n ops l = some q
 | [], [], _, _ => rfl
 | [], _ :: _, h, _ => by simp at h
 | _ :: _, [], h, _ => by simp at h
 | o :: r, i :: q, h, hk => by
  simp only [cReg]
  rw [hk 0 o i rfl rfl, cReg_of (by simpa using h) (fun k o' i' h1 h2 => hk (k + 1) o' i' (by simpa using h1) (by simpa using h2))]
theorem perm_cReg {P : Program} {n : Nat} {ops : Array Oper} {is : List AI} {l : List Nat} (h : Perm ops.size l) (hc : cReg P n ops ops.toList = some is) : cReg P n (permOps ops l) (permOps ops l).toList = some (permIs is l) := by
 obtain ⟨hlen, hget⟩ := cReg_get hc
 refine cReg_of (by simp [permOps, permIs]) fun k o i h1 h2 => ?_
 simp only [permOps, permIs, List.getElem?_map, Option.map_eq_some_iff] at h1 h2
 obtain ⟨a, ha, rfl⟩ := h1
 obtain ⟨a', ha', rfl⟩ := h2
 rw [ha] at ha'
 cases ha'
 have hlt := h.lt a (List.mem_of_getElem? ha)
 have ho : ops.toList[a]? = some (ops.getD a default) := by simp [Array.getD_eq_getD_getElem?, hlt]
 obtain ⟨i, hi, hci⟩ := hget a _ ho
 rw [List.getD_eq_getElem?_getD, hi]
 exact perm_cIns h hci
def anyStore (is : List AI) : Bool := is.any isStore
/-- has a writing been left ahead of the tail? -/
def AC.hasSt : AC → Bool
 | .regq pre _ => anyStore pre
 | .regs core _ _ _ => anyStore core
 | .regm core _ _ => anyStore core
 | _ => false
/-- what looks at slots alone goes ahead of the first writing -/
def sortOps (is : List AI) : List Nat :=
 let n := is.length
 let f := (is.takeWhile fun i => !isStore i).length
 List.range f ++ (((List.range n).filter fun i => decide (f ≤ i) && (is.getD i default).op.free) ++ ((List.range n).filter fun i => decide (f ≤ i) && !(is.getD i default).op.free))
def RC2 (ops : Array Oper) (is : List AI) : Option AC := if permOk ops.size (sortOps is) = true then (match RC1 (permOps ops (sortOps is)) (permIs is (sortOps is)) with
 | some ac => some ac
 | none => match RC3 (permOps ops (sortOps is)) (permIs is (sortOps is)) (sortOps is) with
  | some ac => some ac
  | none => RC4 (permOps ops (sortOps is)) (permIs is (sortOps is)) (sortOps is)) else none
/-! ### a region that draws its order, but for one call that all the others stand ahead of, or behind -/
def shOp (k : Nat) (o : Oper) : Oper := { o with after := (o.after.filter fun e => decide (k ≤ e.on)).map fun e => { e with on := e.on - k }, guard := o.guard.map fun g => (g.1 - k, g.2) }
def shOps (ops : Array Oper) (k : Nat) : Array Oper := ((ops.toList.drop k).map (shOp k)).toArray
/-- the call: of a function with three arguments, or one that is handed a closure of two -/
def wideAt (is : List AI) : Option Nat := is.findIdx? fun i => match i.op with
 | .callv _ args => args.length == 3
 | .call _ _ => is.any fun i => match i.op with
  | .mkfn _ _ cs => cs.length == 2
  | _ => false
 | _ => false
def splitB (ops : Array Oper) (is : List AI) (c : Nat) : Bool :=
 decide (c < ops.size) && ((List.range ops.size).all fun i => (directs (ops.getD i default)).all fun j => decide (j < i)) &&
 ((List.range c).all fun i => (insSlots (is.getD i default)).all fun t => (List.range c).all fun j => (is.getD j default).dst != some t || (directs (ops.getD i default)).contains j) &&
 ((List.range c).all fun j => (List.range c).all fun k => j == k || (is.getD j default).dst == none || (is.getD j default).dst != (is.getD k default).dst) &&
 ((List.range c).all fun j => ((ancs ops.toList []).getD c []).contains j) &&
 ((List.range ops.size).all fun k => decide (k ≤ c) || (((ancs ops.toList []).getD k []).contains c && (match (ops.getD k default).guard with
  | none => true
  | some g => decide (c + 1 ≤ g.1))))
def regX (ops : Array Oper) (is : List AI) (c : Nat) : Option AC :=
 if splitB ops is c = true then (match regC (shOps ops (c + 1)) (is.drop (c + 1)) with
  | some n => some (.regd (is.take c) ((is.drop c).take 1) ((is.drop (c + 1)).take n) ((is.drop (c + 1)).drop n))
  | none => none) else none
theorem regX_reg {ops : Array Oper} {is : List AI} {c : Nat} {ac : AC} (h : regX ops is c = some ac) : ac.isReg = true := by
 unfold regX at h
 split at h
 ·split at h
  ·cases h; rfl
  ·cases h
 ·cases h
theorem shOps_size {ops : Array Oper} {k : Nat} : (shOps ops k).size = ops.size - k := by simp [shOps]
theorem shOps_at {ops : Array Oper} {k i : Nat} : (shOps ops k)[i]? = (ops[k + i]?).map (shOp k) := by
 simp [shOps]
theorem sh_directs {k d : Nat} {o : Oper} : d ∈ directs (shOp k o) ↔ k + d ∈ directs o := by
 simp only [directs, shOp, Array.toList_map, Array.toList_filter, List.mem_map, List.mem_filter]
 constructor
 ·rintro ⟨e, ⟨⟨e', ⟨h1, h2⟩, rfl⟩, h3⟩, rfl⟩
  refine ⟨e', ⟨h1, h3⟩, ?_⟩
  have := of_decide_eq_true h2
  simp only
  omega
 ·rintro ⟨e, ⟨h1, h2⟩, h3⟩
  exact ⟨{ e with on := e.on - k }, ⟨⟨e, ⟨h1, decide_eq_true (by omega)⟩, rfl⟩, h2⟩, by simp only; omega⟩
theorem sh_wp {P : Program} {k : Nat} {o : Oper} {a : Act} {w : World} {K : Act → World → Prop} {Q : Exit → Act → World → Prop} : (shOp k o).wp P a w K Q = o.wp P a w K Q := by
 cases o; rfl
theorem sh_asks {P : Program} {k : Nat} {o : Oper} {a : Act} {w : World} : (shOp k o).asks P a w = o.asks P a w := by
 cases o; rfl
theorem sh_dst {ops : Array Oper} {k g : Nat} (h : k ≤ g) : ((shOps ops k)[g - k]?).bind (·.dst) = (ops[g]?).bind (·.dst) := by
 rw [shOps_at, show k + (g - k) = g by omega]
 cases ops[g]? with
 | none => rfl
 | some o => rfl
theorem sh_wanted {ops : Array Oper} {k : Nat} {o : Oper} {tmps : Array Value} (hg : ∀ g b, o.guard = some (g, b) → k ≤ g) : Region.wanted (shOp k o) (yielded (shOps ops k) tmps) = Region.wanted o (yielded ops tmps) := by
 unfold Region.wanted shOp
 cases h : o.guard with
 | none => simp
 | some g =>
  obtain ⟨g, b⟩ := g
  have := sh_dst (ops := ops) (hg g b h)
  have e : yielded (shOps ops k) tmps (g - k) = yielded ops tmps g := by
   unfold yielded
   rw [shOps_at, show k + (g - k) = g by have := hg g b h; omega]
   cases ops[g]? with
   | none => rfl
   | some o => rfl
  simp [e]
theorem sh_wpOp {P : Program} {ops : Array Oper} {k i : Nat} (hg : ∀ o g b, ops[k + i]? = some o → o.guard = some (g, b) → k ≤ g) {Q : Exit → Act → World → Prop} (hi : k + i < ops.size) {K K' : Act → World → Prop} (hK : ∀ a w, K' a w → K a w) {a : Act} {w : World}
  (hw : wpOp P (shOps ops k) Q i K' a w) : wpOp P ops Q (k + i) K a w := by
 have ho : ops[k + i]? = some ops[k + i] := Array.getElem?_eq_getElem hi
 unfold wpOp at *
 rw [shOps_at, ho] at hw
 rw [ho]
 simp only [Option.map_some, sh_wanted (hg _ · · ho)] at hw ⊢
 split at hw
 ·rename_i hwd
  rw [if_pos hwd]
  rcases hw with hw | hw
  ·rw [sh_wp] at hw
   exact .inl (Oper.wp_mono hK hw)
  ·rw [sh_asks] at hw
   exact .inr hw
 ·rename_i hwd
  rw [if_neg hwd]
  exact hK _ _ hw
theorem sh_ready {ops : Array Oper} {k : Nat} {u v : Array Bool} (hu : u.size = ops.size) (hv : v.size = (shOps ops k).size) (h1 : ∀ j, j < k → u.getD j false = true) (h2 : ∀ i, v.getD i false = u.getD (k + i) false) {i : Nat} :
  k + i ∈ Region.ready .any ops u ↔ i ∈ Region.ready .any (shOps ops k) v := by
 rw [ready_iff hu, ready_iff hv, shOps_at]
 constructor
 ·rintro ⟨o, g1, g2, g3⟩
  refine ⟨_, by rw [g1]; rfl, by rw [h2]; exact g2, fun d hd => ?_⟩
  rw [h2]
  exact g3 _ (sh_directs.1 hd)
 ·rintro ⟨o, g1, g2, g3⟩
  obtain ⟨o', g4, rfl⟩ := Option.map_eq_some_iff.1 g1
  refine ⟨o', g4, by rw [← h2]; exact g2, fun d hd => ?_⟩
  by_cases hk : d < k
  ·exact h1 d hk
  ·have := g3 (d - k) (sh_directs.2 (by rw [show k + (d - k) = d by omega]; exact hd))
   rw [h2, show k + (d - k) = d by omega] at this
   exact this
theorem wpAny_sh {P : Program} {ops : Array Oper} {k : Nat} (hg : ∀ i o g b, k ≤ i → ops[i]? = some o → o.guard = some (g, b) → k ≤ g) {Q : Exit → Act → World → Prop} : ∀ (fuel : Nat) (u v : Array Bool), u.size = ops.size → v.size = (shOps ops k).size → (∀ j, j < k → u.getD j false = true) → (∀ i, v.getD i false = u.getD (k + i) false) →
  ∀ {a : Act} {w : World}, wpAny P .any (shOps ops k) Q fuel v a w → wpAny P .any ops Q fuel u a w := by
 have low : ∀ {u : Array Bool} {i : Nat}, u.size = ops.size → (∀ j, j < k → u.getD j false = true) → i ∈ Region.ready .any ops u → k ≤ i ∧ i < ops.size := by
  intro u i hu h1 hi
  obtain ⟨o, ho, h2, _⟩ := (ready_iff hu).1 hi
  refine ⟨?_, (Array.getElem?_eq_some_iff.1 ho).1⟩
  rcases Nat.lt_or_ge i k with h | h
  ·rw [h1 i h] at h2; cases h2
  ·exact h
 have empty : ∀ {u v : Array Bool}, u.size = ops.size → v.size = (shOps ops k).size → (∀ j, j < k → u.getD j false = true) → (∀ i, v.getD i false = u.getD (k + i) false) → (Region.ready .any ops u = [] ↔ Region.ready .any (shOps ops k) v = []) := by
  intro u v hu hv h1 h2
  rw [List.eq_nil_iff_forall_not_mem, List.eq_nil_iff_forall_not_mem]
  constructor
  ·exact fun h i hi => h _ ((sh_ready hu hv h1 h2).2 hi)
  ·intro h i hi
   have := (low hu h1 hi).1
   refine h (i - k) ((sh_ready hu hv h1 h2).1 ?_)
   rwa [show k + (i - k) = i by omega]
 intro fuel
 induction fuel with
 | zero =>
  intro u v hu hv h1 h2 a w hw
  exact ⟨(empty hu hv h1 h2).2 hw.1, hw.2⟩
 | succ fuel ih =>
  intro u v hu hv h1 h2 a w hw
  refine ⟨fun he => hw.1 ((empty hu hv h1 h2).1 he), fun i hi => ?_⟩
  obtain ⟨l1, l2⟩ := low hu h1 hi
  obtain ⟨j, rfl⟩ : ∃ j, i = k + j := ⟨i - k, by omega⟩
  have hj := (sh_ready hu hv h1 h2).1 hi
  have hsz := @shOps_size ops k
  refine sh_wpOp (fun o g b h3 h4 => hg _ o g b (by omega) h3 h4) l2 (fun a w => ih _ _ (by simpa using hu) (by simpa using hv) (fun m hm => ?_) (fun m => ?_)) (hw.2 _ hj)
  ·rw [setL (by omega), h1 m hm]; simp
  ·rw [setL (by omega), setL (by omega), h2]
   by_cases e : m = j
   ·rw [if_pos e, if_pos (by omega)]
   ·rw [if_neg e, if_neg (by omega)]
theorem sh_cReg {P : Program} {n : Nat} {ops : Array Oper} {is : List AI} {k : Nat} (hg : ∀ i o g b, k ≤ i → ops[i]? = some o → o.guard = some (g, b) → k ≤ g) (hc : cReg P n ops ops.toList = some is) : cReg P n (shOps ops k) (shOps ops k).toList = some (is.drop k) := by
 obtain ⟨hlen, hget⟩ := cReg_get hc
 refine cReg_of (by simp [shOps, ← hlen]) fun j o i h1 h2 => ?_
 rw [List.getElem?_drop] at h2
 have h1' : (shOps ops k)[j]? = some o := by simpa using h1
 rw [shOps_at] at h1'
 obtain ⟨o', h3, rfl⟩ := Option.map_eq_some_iff.1 h1'
 obtain ⟨i', h4, hci⟩ := hget (k + j) o' (by simpa using h3)
 rw [h2] at h4
 cases h4
 have ho : cOp P (shOp k o') = cOp P o' := by cases o'; rfl
 unfold cIns at hci ⊢
 rw [ho]
 cases hop : cOp P o' with
 | none => rw [hop] at hci; cases hci
 | some op =>
  rw [hop] at hci
  simp only at hci ⊢
  have hd : (shOp k o').dst = o'.dst := rfl
  rw [hd]
  split at hci
  ·rename_i hd'
   rw [if_pos hd']
   cases hgu : o'.guard with
   | none =>
    rw [hgu] at hci
    have : (shOp k o').guard = none := by simp [shOp, hgu]
    rw [this]
    exact hci
   | some g =>
    rw [hgu] at hci
    have : (shOp k o').guard = some (g.1 - k, g.2) := by simp [shOp, hgu]
    rw [this]
    simp only [sh_dst (hg _ _ g.1 g.2 (by omega) h3 hgu)] at hci ⊢
    exact hci
  ·cases hci
theorem HRep.undrew {w : World} {μ : Mu} {H : Heap} (h : HRep w.drew μ H) : HRep w μ H := by
 refine ⟨h.dom, h.xo, fun b r l hb hd hl => ?_, h.inj⟩
 have rr := h.row b r l hb hd hl
 exact ⟨rr.size, rr.pos, rr.virt, rr.lens, rr.cellOk, rr.fits, (fun hv i j hi hj => by
  obtain ⟨v, h1, h2⟩ := rr.cells hv i j hi hj
  exact ⟨v, h1, Rep.keeps (w := w.drew) (w' := w) (show Keeps (excl μ H) w.drew w from fun _ _ _ => rfl) (fun _ h => .inl h) (fun _ _ h => h) h2⟩), rr.live, rr.frozen⟩
/-- nothing of a region has been carried out, and nothing has been drawn for it -/
theorem inv_begin {P : Program} {w0 : World} {X0 : Nat → Prop} {μ0 : Mu} {n k : Nat} {ops : Array Oper} {is : List AI} {env : Env} {H : Heap} {a : Act} {w : World} {μ : Mu} (hrel : Rel w0 X0 μ0 n env H a w μ) (qs : List QI) :
  Inv P w0 X0 μ0 n k k ops is qs env H (heapL qs H fun j => (Array.replicate ops.size false).getD j false) (fun j => (Array.replicate ops.size false).getD j false) a w μ := by
 have h := inv_start (P := P) (k := k) (ops := ops) (is := is) hrel qs
 have hk : Keeps (excl μ (heapL qs H fun j => (Array.replicate ops.size false).getD j false)) w.drew w := fun _ _ _ => rfl
 exact ⟨h.closed, h.tail, h.tmps, h.defers, fun j q i t h1 h2 h3 h4 h5 => (h.done j q i t h1 h2 h3 h4 h5).keeps hk (fun k hk' => .inl hk') (fun _ _ h => h), fun t h1 => (h.other t h1).keeps hk (fun k hk' => .inl hk') (fun _ _ h => h), h.heap.undrew, h.unl, hrel.fr, h.own, h.pre, h.xo⟩
theorem ready_some {ops : Array Oper} (hr : ∃ r : Nat → Nat, ∀ i o, ops[i]? = some o → ∀ d ∈ directs o, d < ops.size ∧ r d < r i) {listed : Array Bool} (hs : listed.size = ops.size) (hex : ∃ j, j < ops.size ∧ listed.getD j false = false) : Region.ready .any ops listed ≠ [] := by
 obtain ⟨r, hr⟩ := hr
 obtain ⟨u, hu, hul⟩ := hex
 have main : ∀ (m : Nat), ∀ j, j < ops.size → listed.getD j false = false → r j ≤ m → ∃ k, k < ops.size ∧ listed.getD k false = false ∧ ∀ d ∈ directs (ops.getD k default), listed.getD d false = true := by
  intro m
  induction m with
  | zero =>
   intro j hj hjl hm
   refine ⟨j, hj, hjl, fun d hd => ?_⟩
   have := hr j (ops.getD j default) (by simp [Array.getD_eq_getD_getElem?, hj]) d hd
   omega
  | succ m ih =>
   intro j hj hjl hm
   by_cases hall : ∀ d ∈ directs (ops.getD j default), listed.getD d false = true
   ·exact ⟨j, hj, hjl, hall⟩
   ·simp only [Classical.not_forall] at hall
    obtain ⟨d, hd, hdl⟩ := hall
    have := hr j (ops.getD j default) (by simp [Array.getD_eq_getD_getElem?, hj]) d hd
    exact ih d this.1 (by simpa using hdl) (by omega)
 obtain ⟨k, hk, hkl, hd⟩ := main (r u) u hu hul (Nat.le_refl _)
 have hok : ops[k]? = some (ops.getD k default) := by simp [Array.getD_eq_getD_getElem?, hk]
 have : k ∈ Region.ready .any ops listed := (ready_iff hs).2 ⟨_, hok, hkl, hd⟩
 intro h
 rw [h] at this
 cases this
/-- what the look has told -/
structure Split (c : Nat) (ops : Array Oper) (is : List AI) : Prop where
 look : Look c ops is
 lt : c < ops.size
 full : ∀ j o, j < c → ops[c]? = some o → ∀ L, Closed ops L → (∀ d ∈ directs o, L d = true) → L j = true
 rest : ∀ k o, c < k → ops[k]? = some o → ∀ L, Closed ops L → (∀ d ∈ directs o, L d = true) → L c = true
 gd : ∀ i o g b, c + 1 ≤ i → ops[i]? = some o → o.guard = some (g, b) → c + 1 ≤ g
theorem split_of {ops : Array Oper} {is : List AI} {c : Nat} (_ : is.length = ops.size) (h : splitB ops is c = true) : Split c ops is := by
 simp only [splitB, Bool.and_eq_true, List.all_eq_true, List.mem_range, decide_eq_true_eq, Bool.or_eq_true, bne_iff_ne, ne_eq, beq_iff_eq, List.contains_iff_mem] at h
 obtain ⟨⟨⟨⟨⟨h0, h1⟩, h2⟩, h3⟩, h4⟩, h5⟩ := h
 have hg : ∀ {j : Nat} {ai : AI}, is[j]? = some ai → is.getD j default = ai := fun h => by simp [List.getD_eq_getElem?_getD, h]
 have ho : ∀ {j : Nat} {o : Oper}, ops[j]? = some o → ops.getD j default = o := fun h => by simp [Array.getD_eq_getD_getElem?, h]
 have anc : ∀ {k j : Nat} {o : Oper}, ops[k]? = some o → j ∈ (ancs ops.toList []).getD k [] → ∀ L, Closed ops L → (∀ d ∈ directs o, L d = true) → L j = true := by
  intro k j o hk hj L hL hd
  cases hA : (ancs ops.toList [])[k]? with
  | none => rw [List.getD_eq_getElem?_getD, hA] at hj; simp at hj
  | some A =>
   rw [List.getD_eq_getElem?_getD, hA] at hj
   exact ancs_sound ops ops.toList [] (fun j => by simp) (fun i A h => by simp at h) _ A hA L hL o hk hd j hj
 refine ⟨⟨⟨id, fun i o hi d hd => ?_⟩, fun i j ai aj o t hi hj hai haj hoi ht hd => ?_, fun j k aj ak t hj hk haj hak hd1 hd2 => ?_, by omega⟩, h0, fun j o hj hok => anc hok (h4 j hj), fun k o hk hok => ?_, fun i o g b hi hoi hgu => ?_⟩
 ·have hin := (Array.getElem?_eq_some_iff.1 hi).1
  have := h1 i hin d (by rw [ho hi]; exact hd)
  exact ⟨by omega, this⟩
 ·have hin := (Array.getElem?_eq_some_iff.1 hoi).1
  rcases h2 i hi t (by rw [hg hai]; exact ht) j hj with h | h
  ·rw [hg haj] at h; exact absurd hd h
  ·exact ⟨by rwa [ho hoi] at h, h1 i hin j h⟩
 ·rcases h3 j hj k hk with (h | h) | h
  ·exact h
  ·rw [hg haj, hd1] at h; cases h
  ·rw [hg haj, hg hak, hd1, hd2] at h; exact absurd rfl h
 ·rcases h5 k (Array.getElem?_eq_some_iff.1 hok).1 with h | h
  ·omega
  ·exact anc hok h.1
 ·rcases h5 i (Array.getElem?_eq_some_iff.1 hoi).1 with h | h
  ·omega
  ·have h6 := h.2
   rw [ho hoi, hgu] at h6
   simpa using h6
theorem split_any {P : Program} {w0 : World} {X0 : Nat → Prop} {μ0 : Mu} {n0 c : Nat} {ops : Array Oper} {is : List AI} {KB : Env → Heap → Prop} {Q : Exit → Act → World → Prop} (K : Split c ops is) (hc : cReg P n0 ops ops.toList = some is)
  (hB : ∀ (fuel : Nat) (listed : Array Bool) (a : Act) (w : World), listed.size = ops.size → (∀ j, j < c + 1 → listed.getD j false = true) → (∀ j, c < j → listed.getD j false = false) → listed.toList.countP (fun b => !b) ≤ fuel → Lands w0 X0 μ0 n0 KB a w → wpAny P .any ops Q fuel listed a w)
  {qs : List QI} {env : Env} {H : Heap} (hrun : QRun P (is.take c) qs env H) (hops : aOps P ((is.drop c).take 1) KB (envOf (is.take c) qs env) (heapOf qs H)) : ∀ (fuel : Nat) (listed : Array Bool), listed.size = ops.size → listed.toList.countP (fun b => !b) ≤ fuel →
  ∀ {a : Act} {w : World} {μ : Mu}, Inv P w0 X0 μ0 n0 c c ops is qs env H (heapL qs H fun j => listed.getD j false) (fun j => listed.getD j false) a w μ → wpAny P .any ops Q fuel listed a w := by
 obtain ⟨hlen, hget⟩ := cReg_get hc
 have hisl : is.length = ops.size := by rw [← hlen]; simp
 have hcN := K.lt
 have hql : qs.length = c := by rw [← hrun.len, List.length_take]; omega
 intro fuel
 induction fuel with
 | zero =>
  intro listed hs hcnt a w μ hinv
  have h1 := hinv.tail c (Nat.le_refl _)
  rw [count_zero (Nat.le_zero.1 hcnt) c (by omega)] at h1
  cases h1
 | succ fuel ih =>
  intro listed hs hcnt a w μ hinv
  refine ⟨fun h => absurd h (ready_some K.look.rk hs ⟨c, hcN, hinv.tail c (Nat.le_refl _)⟩), fun i hi => ?_⟩
  obtain ⟨o, ho, h1, h2⟩ := (ready_iff hs).1 hi
  have hiN := (Array.getElem?_eq_some_iff.1 ho).1
  have hset := setL (listed := listed) (i := i) (by omega)
  have hcnt' : (listed.setIfInBounds i true).toList.countP (fun b => !b) ≤ fuel := by
   have := count_set (listed := listed) (i := i) (by omega) h1
   omega
  rcases Nat.lt_trichotomy i c with hic | hic | hic
  ·refine wpOp_mono ?_ (inv_step K.look hc hrun hs hinv hic hi)
   rintro a' w' ⟨μ', h3⟩
   exact ih _ (by simpa using hs) hcnt' h3
  ·subst hic
   have hall' : ∀ j, j < i → listed.getD j false = true := fun j hj => K.full j o hj ho _ hinv.closed h2
   have hheap : heapL qs H (fun j => listed.getD j false) = heapOf qs H := by
    apply List.ext_getElem?
    intro b
    refine heapL_of ?_
    cases hda : deadAt qs H (fun j => listed.getD j false) b with
    | false => rfl
    | true =>
     obtain ⟨j, q, g1, g2, _, _⟩ := deadAt_true hda
     have := (List.getElem?_eq_some_iff.1 g1).1
     rw [hall' j (by omega)] at g2
     cases g2
   have hrel : Rel w0 X0 μ0 n0 (envOf (is.take i) qs env) (heapOf qs H) a w μ := by
    rw [← hheap]
    refine ⟨hinv.tmps, hinv.defers, fun t => ?_, hinv.heap, hinv.fr, hinv.own, hinv.pre, hinv.xo⟩
    by_cases hex : ∃ (j : Nat) (aj : AI), j < i ∧ is[j]? = some aj ∧ aj.dst = some t
    ·obtain ⟨j, aj, hj, haj, hd⟩ := hex
     obtain ⟨qj, hqj⟩ : ∃ q, qs[j]? = some q := ⟨_, List.getElem?_eq_getElem (by omega)⟩
     rw [envOf_at (is.take i) qs env t j aj qj (by rw [List.getElem?_take_of_lt hj]; exact haj) hqj hd (fun k ak hk hak hdk => by
      have hkn : k < i := by
       have := (List.getElem?_eq_some_iff.1 hak).1
       simp at this
       omega
      rw [List.getElem?_take_of_lt hkn] at hak
      have := K.look.uniq j k aj ak t hj hkn haj hak hd hdk
      omega)]
     exact hinv.done j qj aj t hj hqj haj (hall' j hj) hd
    ·rw [envOf_other (is.take i) qs env t (fun ak hak hdk => by
      obtain ⟨k, hk, rfl⟩ := List.mem_iff_getElem.1 hak
      simp at hk
      exact hex ⟨k, is[k], by omega, List.getElem?_eq_getElem (by omega), by simpa using hdk⟩)]
     exact hinv.other t fun j aj hj haj _ hd => hex ⟨j, aj, hj, haj, hd⟩
   obtain ⟨ai, hai, hci⟩ := hget i o (by simpa using ho)
   have hdrop : (is.drop i).take 1 = [ai] := by
    have hkl := (List.getElem?_eq_some_iff.1 hai).1
    rw [List.drop_eq_getElem_cons hkl, List.take_succ_cons, List.take_zero]
    congr 1
    exact (List.getElem?_eq_some_iff.1 hai).2
   rw [hdrop] at hops
   refine wpOp_mono ?_ (ins_sound hrel hci hops ho)
   intro a' w' h3
   refine hB fuel _ a' w' (by simpa using hs) (fun j hj => ?_) (fun j hj => ?_) hcnt' h3
   ·rw [hset]
    split
    ·rfl
    ·exact hall' j (by omega)
   ·rw [hset, if_neg (by omega)]
    exact hinv.tail j (by omega)
  ·exfalso
   have := K.rest i o hic ho _ hinv.closed h2
   rw [hinv.tail c (Nat.le_refl _)] at this
   cases this
theorem regX_any {P : Program} {w0 : World} {X0 : Nat → Prop} {μ0 : Mu} {n c : Nat} {ops : Array Oper} {is : List AI} {ac : AC} {K : Env → Heap → Prop} {Q : Exit → Act → World → Prop} {env : Env} {H : Heap} {a : Act} {w : World} {μ : Mu}
  (hQ : ∀ a w, Lands w0 X0 μ0 n K a w → Q .normal a w) (hc : cReg P n ops ops.toList = some is) (hr : regX ops is c = some ac) (hrel : Rel w0 X0 μ0 n env H a w μ) (hq : RQs P ac K env H) :
  wpAny P .any ops Q ops.size (Array.replicate ops.size false) a { w with drawn := w.drawn + 1 } := by
 obtain ⟨hlen, _⟩ := cReg_get hc
 have hisl : is.length = ops.size := by rw [← hlen]; simp
 unfold regX at hr
 split at hr
 ·rename_i hb
  split at hr
  ·rename_i m hm
   cases hr
   have S := split_of hisl hb
   have hcs := sh_cReg S.gd hc
   have hsz := @shOps_size ops (c + 1)
   have L := regC_looked (by rw [hsz, List.length_drop, hisl]) hm
   obtain ⟨qs, hrun, hops⟩ := aQs_inv (is.take c) hq
   refine split_any S hc (KB := aQs P ((is.drop (c + 1)).take m) (aOps P ((is.drop (c + 1)).drop m) K)) (fun fuel listed a' w' hs hlo hhi hcnt hl => ?_) hrun hops ops.size _ (by simp) (by simp [List.countP_replicate]) (μ := μ) (inv_start hrel qs)
   obtain ⟨env', H', μ', h1, h2⟩ := hl
   obtain ⟨qs', hrun', hops'⟩ := aQs_inv _ h1
   have hlt := S.lt
   refine wpAny_sh S.gd fuel listed (Array.replicate (shOps ops (c + 1)).size false) hs (by simp) hlo (fun i => ?_) (prefix_any L hcs hQ hrun' hops' fuel _ (by simp) ?_ (μ := μ') (inv_begin h2 qs'))
   ·rw [hhi (c + 1 + i) (by omega)]
    simp only [Array.getD_eq_getD_getElem?, Array.getElem?_replicate]
    split <;> rfl
   ·refine Nat.le_trans ?_ hcnt
    have e : listed.toList.countP (fun b => !b) = ops.size - (c + 1) := by
     have hl : listed.toList = List.replicate (c + 1) true ++ List.replicate (ops.size - (c + 1)) false := by
      apply List.ext_getElem (by simp [hs]; omega)
      intro j hj hj'
      have g : listed.getD j false = listed.toList[j] := by
       rw [Array.getD_eq_getD_getElem?, Array.getElem?_eq_getElem (by simpa using hj)]
       simp
      rw [← g, List.getElem_append]
      split
      ·rename_i hnl
       rw [List.getElem_replicate]; exact hlo j (by simpa using hnl)
      ·rename_i hnl
       rw [List.getElem_replicate]; exact hhi j (by simp at hnl; omega)
     rw [hl]
     simp [List.countP_append, List.countP_replicate]
    rw [e]
    simp [List.countP_replicate, hsz]
  ·cases hr
 ·cases hr
/-- the translation's look at a region that draws its order, but for one call -/
def RC0 (ops : Array Oper) (is : List AI) : Option AC := match RC1 ops is with
 | some ac => if ac.hasSt = true then RC2 ops is else some ac
 | none => RC2 ops is
/-! ### a call that some others need not wait for -/
/-- a call with one argument, in a region with another call behind it that is handed what it yields: the function may make rows -/
def freshAt (is : List AI) : Option Nat := is.findIdx? fun i => match i.op with
 | .call _ [_] => match i.dst with
  | some d => is.any fun j => match j.op with
   | .call _ (.s t :: _ :: _ :: []) => t == d
   | _ => false
  | none => false
 | _ => false
def behind (ops : Array Oper) (c : Nat) : List Nat := (List.range ops.size).filter fun k => ((ancs ops.toList []).getD k []).contains c
def ahead (ops : Array Oper) (c : Nat) : List Nat := (List.range ops.size).filter fun k => k != c && !((ancs ops.toList []).getD k []).contains c
def callOrd (ops : Array Oper) (c : Nat) : List Nat := ahead ops c ++ c :: behind ops c
def callPos (ops : Array Oper) (c : Nat) : Nat := (ahead ops c).length
def splitY (ops : Array Oper) (is : List AI) (c : Nat) : Bool :=
 decide (c < ops.size) && ((List.range ops.size).all fun i => (directs (ops.getD i default)).all fun j => decide (j < i)) &&
 ((List.range (c + 1)).all fun i => (insSlots (is.getD i default)).all fun t => (List.range (c + 1)).all fun j => (is.getD j default).dst != some t || (directs (ops.getD i default)).contains j) &&
 ((List.range (c + 1)).all fun j => (List.range (c + 1)).all fun k => j == k || (is.getD j default).dst == none || (is.getD j default).dst != (is.getD k default).dst) &&
 ((notAwaited ops c).all fun j => (is.getD j default).op.slots || ((is.getD j default).op.reads && (is.getD j default).dst.isSome)) &&
 ((is.getD c default).guard == none) && (match (is.getD c default).op with
  | .call _ _ => true
  | _ => false) &&
 ((List.range ops.size).all fun k => decide (k ≤ c) || (((List.range (c + 1)).all fun j => ((ancs ops.toList []).getD k []).contains j) && (match (ops.getD k default).guard with
  | none => true
  | some g => decide (c + 1 ≤ g.1))))
def regY (ops : Array Oper) (is : List AI) (c : Nat) : Option AC :=
 if splitY ops is c = true then (match regC (shOps ops (c + 1)) (is.drop (c + 1)) with
  | some n => some (.rege (is.take c) ((is.drop c).take 1) (lateOps2 ops is c) ((is.drop (c + 1)).take n) ((is.drop (c + 1)).drop n))
  | none => none) else none
theorem regY_reg {ops : Array Oper} {is : List AI} {c : Nat} {ac : AC} (h : regY ops is c = some ac) : ac.isReg = true := by
 unfold regY at h
 split at h
 ·split at h
  ·cases h; rfl
  ·cases h
 ·cases h
theorem CallA.mono {P : Program} {f : Nat} {args : List S} {H : Heap} {K K' : S → Heap → Prop} (h : CallA P f args H K) (hK : ∀ s H', K s H' → K' s H') : CallA P f args H K' :=
 ⟨h.1, fun w μ cargs hrep hl ha => (h.2 w μ cargs hrep hl ha).mono fun _ _ ⟨v, s, H', μ', h1, h2, h3⟩ => ⟨v, s, H', μ', h1, hK _ _ h2, h3⟩⟩
structure SplitY (c : Nat) (ops : Array Oper) (is : List AI) (Lt : Nat → Prop) : Prop where
 look : Look (c + 1) ops is
 lt : c < ops.size
 aw : ∀ j o, j < c → ¬ Lt j → ops[c]? = some o → ∀ L, Closed ops L → (∀ d ∈ directs o, L d = true) → L j = true
 pl : ∀ j ai, j < c → is[j]? = some ai → Lt j → ai.op.slots = true ∨ ai.op.reads = true
 ng : ∀ ai, is[c]? = some ai → ai.guard = none ∧ ∃ f args, ai.op = .call f args
 rest : ∀ k j o, c < k → j ≤ c → ops[k]? = some o → ∀ L, Closed ops L → (∀ d ∈ directs o, L d = true) → L j = true
 gd : ∀ i o g b, c + 1 ≤ i → ops[i]? = some o → o.guard = some (g, b) → c + 1 ≤ g
theorem splitY_of {ops : Array Oper} {is : List AI} {c : Nat} (_ : is.length = ops.size) (h : splitY ops is c = true) : SplitY c ops is (fun j => j ∈ notAwaited ops c) := by
 simp only [splitY, Bool.and_eq_true, List.all_eq_true, List.mem_range, decide_eq_true_eq, Bool.or_eq_true, bne_iff_ne, ne_eq, beq_iff_eq, List.contains_iff_mem] at h
 obtain ⟨⟨⟨⟨⟨⟨⟨h0, h1⟩, h2⟩, h3⟩, h4⟩, h5⟩, h5b⟩, h6⟩ := h
 have hg : ∀ {j : Nat} {ai : AI}, is[j]? = some ai → is.getD j default = ai := fun h => by simp [List.getD_eq_getElem?_getD, h]
 have ho : ∀ {j : Nat} {o : Oper}, ops[j]? = some o → ops.getD j default = o := fun h => by simp [Array.getD_eq_getD_getElem?, h]
 have anc : ∀ {k j : Nat} {o : Oper}, ops[k]? = some o → j ∈ (ancs ops.toList []).getD k [] → ∀ L, Closed ops L → (∀ d ∈ directs o, L d = true) → L j = true := by
  intro k j o hk hj L hL hd
  cases hA : (ancs ops.toList [])[k]? with
  | none => rw [List.getD_eq_getElem?_getD, hA] at hj; simp at hj
  | some A =>
   rw [List.getD_eq_getElem?_getD, hA] at hj
   exact ancs_sound ops ops.toList [] (fun j => by simp) (fun i A h => by simp at h) _ A hA L hL o hk hd j hj
 refine ⟨⟨⟨id, fun i o hi d hd => ?_⟩, fun i j ai aj o t hi hj hai haj hoi ht hd => ?_, fun j k aj ak t hj hk haj hak hd1 hd2 => ?_, by omega⟩, h0, fun j o hj hl hok => ?_, fun j ai hj hai hl => ?_, fun ai hai => ?_, fun k j o hk hj hok => ?_, fun i o g b hi hoi hgu => ?_⟩
 ·have hin := (Array.getElem?_eq_some_iff.1 hi).1
  have := h1 i hin d (by rw [ho hi]; exact hd)
  exact ⟨by omega, this⟩
 ·have hin := (Array.getElem?_eq_some_iff.1 hoi).1
  rcases h2 i hi t (by rw [hg hai]; exact ht) j hj with h | h
  ·rw [hg haj] at h; exact absurd hd h
  ·exact ⟨by rwa [ho hoi] at h, h1 i hin j h⟩
 ·rcases h3 j hj k hk with (h | h) | h
  ·exact h
  ·rw [hg haj, hd1] at h; cases h
  ·rw [hg haj, hg hak, hd1, hd2] at h; exact absurd rfl h
 ·refine anc hok (Classical.byContradiction fun hc => hl ?_)
  simp only [notAwaited, List.mem_filter, List.mem_range, Bool.not_eq_true', List.contains_eq_mem, decide_eq_false_iff_not]
  exact ⟨hj, hc⟩
 ·have := h4 j hl
  rw [hg hai] at this
  exact this.imp id (·.1)
 ·rw [hg hai] at h5 h5b
  refine ⟨h5, ?_⟩
  split at h5b
  ·rename_i f args he
   exact ⟨f, args, he⟩
  ·cases h5b
 ·rcases h6 k (Array.getElem?_eq_some_iff.1 hok).1 with h | h
  ·omega
  ·exact anc hok (h.1 j (by omega))
 ·rcases h6 i (Array.getElem?_eq_some_iff.1 hoi).1 with h | h
  ·omega
  ·have h7 := h.2
   rw [ho hoi, hgu] at h7
   simpa using h7
/-- a call has been carried out -/
theorem Inv.called {P : Program} {w0 : World} {X0 : Nat → Prop} {μ0 : Mu} {n0 m tl tl' : Nat} {ops : Array Oper} {is : List AI} {qs : List QI} {env : Env} {H G G' : Heap} {L L' : Nat → Bool} {a : Act} {w w' : World} {μ μ' : Mu} (h : Inv P w0 X0 μ0 n0 m tl ops is qs env H G L a w μ) {i : Nat} {o : Oper} {ai : AI} {v : Value} {s : S} (ho : ops[i]? = some o) (hai : is[i]? = some ai) (hmi : m ≤ i) (hit : i < tl') (htl : tl ≤ tl')
  (hL' : ∀ j, L' j = if j = i then true else L j) (hready : ∀ d ∈ directs o, L d = true) (hrow : ∀ (j : Nat) (q : QI), qs[j]? = some q → L j = false → q.row = none) (hdst : (ai.dst.all fun d => decide (d < n0)) = true) (hu : ∀ j aj t, j < m → is[j]? = some aj → aj.dst = some t → ai.dst ≠ some t)
  (st : Step w μ G w' μ' G' v s) : Inv P w0 X0 μ0 n0 m tl' ops is qs (putD ai.dst s env) H G' L' (a.put ai.dst v) w' μ' := by
 have keep : ∀ {u : Value} {s : S}, Rep w (excl μ G) μ u s → Rep w' (excl μ' G') μ' u s := fun hr => hr.keeps st.fr.keep.excl (excl_of st.own st.xo) st.ext
 have up : ∀ j, L j = true → L' j = true := fun j hj => by rw [hL']; split <;> simp [hj]
 have putOther : ∀ t, ai.dst ≠ some t → (a.put ai.dst v).tmps.getD t undef = a.tmps.getD t undef := by
  intro t ht
  cases hd : ai.dst with
  | none => simp [Act.put]
  | some d =>
   simp only [Act.put, Array.getD_eq_getD_getElem?]
   rw [Array.getElem?_setIfInBounds_ne (by rintro rfl; exact ht hd)]
 have putSame : ∀ t, ai.dst = some t → (a.put ai.dst v).tmps.getD t undef = v := by
  intro t ht
  have hlt : t < a.tmps.size := by rw [h.tmps]; simpa [ht] using hdst
  simp [ht, Act.put, Array.getD_eq_getD_getElem?, hlt]
 refine ⟨?_, ?_, ?_, ?_, ?_, ?_, st.heap, ?_, ?_, ?_, fun b l hb => st.ext b l (h.pre b l hb), st.xo.trans h.xo⟩
 ·intro j oj hj hjl d hd
  rw [hL'] at hjl
  by_cases hji : j = i
  ·subst hji
   rw [ho] at hj
   cases hj
   exact up _ (hready d hd)
  ·rw [if_neg hji] at hjl
   exact up _ (h.closed j oj hj hjl d hd)
 ·intro k hk
  rw [hL', if_neg (by omega)]
  exact h.tail k (by omega)
 ·rw [← h.tmps]
  cases ai.dst <;> simp [Act.put]
 ·rw [← h.defers]
  cases ai.dst <;> simp [Act.put]
 ·intro j qj ij t hj hqj hij hjl hd
  rw [hL', if_neg (by omega)] at hjl
  rw [putOther t (hu j ij t hj hij hd)]
  exact keep (h.done j qj ij t hj hqj hij hjl hd)
 ·intro t ht
  rw [putD_get]
  split
  ·rename_i hd
   rw [putSame t hd]
   exact st.val
  ·rename_i hd
   rw [putOther t hd]
   exact keep (h.other t fun j ij hj hij hjl => ht j ij hj hij (up j hjl))
 ·intro j qj hqj hjl hr
  have : L j = false := by
   cases hLj : L j with
   | false => rfl
   | true => rw [up j hLj] at hjl; cases hjl
  rw [hrow j qj hqj this] at hr
  cases hr
 ·refine ⟨st.fr.os.trans h.fr.os, st.fr.tape.trans h.fr.tape, st.fr.output.trans h.fr.output, Nat.le_trans h.fr.size st.fr.size, fun k hk hx => ?_⟩
  rw [st.fr.keep k (Nat.lt_of_lt_of_le hk h.fr.size) (fun ho' => by rcases h.own k ho' with h1 | h1; exact hx h1; omega)]
  exact h.fr.keep k hk hx
 ·intro k hk
  rcases st.own k hk with h1 | h1
  ·exact h.own k h1
  ·exact .inr (Nat.le_trans h.fr.size h1)
section
variable {P : Program} {w0 : World} {X0 : Nat → Prop} {μ0 : Mu} {n0 c : Nat} {ops : Array Oper} {is : List AI} {KB : Env → Heap → Prop} {Q : Exit → Act → World → Prop} {Lt : Nat → Prop}
/-- behind the call -/
theorem afterY (K : SplitY c ops is Lt) (hc : cReg P n0 ops ops.toList = some is)
  (hB : ∀ (fuel : Nat) (listed : Array Bool) (a : Act) (w : World), listed.size = ops.size → (∀ j, j < c + 1 → listed.getD j false = true) → (∀ j, c < j → listed.getD j false = false) → listed.toList.countP (fun b => !b) ≤ fuel → Lands w0 X0 μ0 n0 KB a w → wpAny P .any ops Q fuel listed a w)
  {qs : List QI} {env : Env} {H : Heap} (hrun : QRun P (is.take c) qs env H) {ac : AI} (hac : is[c]? = some ac) (s : S) : ∀ (fuel : Nat) (listed : Array Bool), listed.size = ops.size → listed.toList.countP (fun b => !b) ≤ fuel → listed.getD c false = true → (∀ j, j < c → ¬ Lt j → listed.getD j false = true) →
  ∀ {G : Heap} {a : Act} {w : World} {μ : Mu}, Inv P w0 X0 μ0 n0 c (c + 1) ops is qs (putD ac.dst s env) H G (fun j => listed.getD j false) a w μ → LateFit c is Lt (putD ac.dst s (envOf (is.take c) qs env)) G → KB (putD ac.dst s (envOf (is.take c) qs env)) G → wpAny P .any ops Q fuel listed a w := by
 obtain ⟨hlen, hget⟩ := cReg_get hc
 have hisl : is.length = ops.size := by rw [← hlen]; simp
 have hcN := K.lt
 have hql : qs.length = c := by rw [← hrun.len, List.length_take]; omega
 have hK := K.look.less (Nat.le_succ c)
 have nodst : ∀ (j : Nat) (aj : AI) (t : Nat), j < c → is[j]? = some aj → aj.dst = some t → ac.dst ≠ some t := fun j aj t hj haj hd h2 => by
  have := K.look.uniq j c aj ac t (by omega) (by omega) haj hac hd h2
  omega
 -- the slots, as they hold now
 have hE : ∀ t, (envOf (is.take c) qs (putD ac.dst s env)).get t = (putD ac.dst s (envOf (is.take c) qs env)).get t := by
  intro t
  rw [putD_get]
  by_cases hex : ∃ (j : Nat) (aj : AI), j < c ∧ is[j]? = some aj ∧ aj.dst = some t
  ·obtain ⟨j, aj, hj, haj, hd⟩ := hex
   obtain ⟨qj, hqj⟩ : ∃ q, qs[j]? = some q := ⟨_, List.getElem?_eq_getElem (by omega)⟩
   have hu : ∀ (k : Nat) (ak : AI), j < k → (is.take c)[k]? = some ak → ak.dst ≠ some t := fun k ak hk hak hdk => by
    have hkn : k < c := by
     have := (List.getElem?_eq_some_iff.1 hak).1
     simp at this
     omega
    rw [List.getElem?_take_of_lt hkn] at hak
    have := hK.uniq j k aj ak t hj hkn haj hak hd hdk
    omega
   rw [if_neg (nodst j aj t hj haj hd), envOf_at (is.take c) qs _ t j aj qj (by rw [List.getElem?_take_of_lt hj]; exact haj) hqj hd hu, envOf_at (is.take c) qs _ t j aj qj (by rw [List.getElem?_take_of_lt hj]; exact haj) hqj hd hu]
  ·have ho : ∀ i ∈ is.take c, i.dst ≠ some t := fun ak hak hdk => by
    obtain ⟨k, hk, rfl⟩ := List.mem_iff_getElem.1 hak
    simp at hk
    exact hex ⟨k, is[k], by omega, List.getElem?_eq_getElem (by omega), by simpa using hdk⟩
   rw [envOf_other (is.take c) qs _ t ho, envOf_other (is.take c) qs _ t ho, putD_get]
 have hin1 : ∀ {i : Nat} {ai : AI} {o : Oper}, i < c → is[i]? = some ai → ops[i]? = some o → ∀ t ∈ insSlots ai, (envOf (is.take i) (qs.take i) env).get t = (putD ac.dst s (envOf (is.take c) qs env)).get t := by
  intro i ai o hi hai ho t ht
  rw [putD_get, if_neg, slot_eq hK (Nat.le_refl c) hql hi hai ho t ht]
  intro h2
  have := (K.look.dep i c ai ac o t (by omega) (by omega) hai hac ho ht h2).2
  omega
 intro fuel
 induction fuel with
 | zero =>
  intro listed hs hcnt hcl hlt G a w μ hinv hfit hkb
  have hall := count_zero (Nat.le_zero.1 hcnt)
  refine hB 0 listed a w hs (fun j hj => hall j (by omega)) (fun j hj => hinv.tail j (by omega)) hcnt ⟨_, G, μ, hkb, ?_⟩
  refine ⟨hinv.tmps, hinv.defers, fun t => ?_, hinv.heap, hinv.fr, hinv.own, hinv.pre, hinv.xo⟩
  rw [← hE]
  by_cases hex : ∃ (j : Nat) (aj : AI), j < c ∧ is[j]? = some aj ∧ aj.dst = some t
  ·obtain ⟨j, aj, hj, haj, hd⟩ := hex
   obtain ⟨qj, hqj⟩ : ∃ q, qs[j]? = some q := ⟨_, List.getElem?_eq_getElem (by omega)⟩
   rw [envOf_at (is.take c) qs _ t j aj qj (by rw [List.getElem?_take_of_lt hj]; exact haj) hqj hd (fun k ak hk hak hdk => by
    have hkn : k < c := by
     have := (List.getElem?_eq_some_iff.1 hak).1
     simp at this
     omega
    rw [List.getElem?_take_of_lt hkn] at hak
    have := hK.uniq j k aj ak t hj hkn haj hak hd hdk
    omega)]
   exact hinv.done j qj aj t hj hqj haj (hall j (by omega)) hd
  ·rw [envOf_other (is.take c) qs _ t (fun ak hak hdk => by
    obtain ⟨k, hk, rfl⟩ := List.mem_iff_getElem.1 hak
    simp at hk
    exact hex ⟨k, is[k], by omega, List.getElem?_eq_getElem (by omega), by simpa using hdk⟩)]
   exact hinv.other t fun j aj hj haj _ hd => hex ⟨j, aj, hj, haj, hd⟩
 | succ fuel ih =>
  intro listed hs hcnt hcl hlt G a w μ hinv hfit hkb
  by_cases hex : ∃ j, j < c ∧ listed.getD j false = false
  ·obtain ⟨j0, hj0, hj0l⟩ := hex
   refine ⟨fun h => absurd h (ready_some K.look.rk hs ⟨j0, by omega, hj0l⟩), fun i hi => ?_⟩
   obtain ⟨o, ho, h1, h2⟩ := (ready_iff hs).1 hi
   have hiN := (Array.getElem?_eq_some_iff.1 ho).1
   have hset := setL (listed := listed) (i := i) (by omega)
   have hcnt' : (listed.setIfInBounds i true).toList.countP (fun b => !b) ≤ fuel := by
    have := count_set (listed := listed) (i := i) (by omega) h1
    omega
   rcases Nat.lt_trichotomy i c with hic | hic | hic
   ·have hLt : Lt i := Classical.byContradiction fun hl => by rw [hlt i hic hl] at h1; cases h1
    obtain ⟨q, hq⟩ : ∃ q, qs[i]? = some q := ⟨_, List.getElem?_eq_getElem (by omega)⟩
    obtain ⟨ai, hai, hci⟩ := hget i o (by simpa using ho)
    have hp := K.pl i ai hic hai hLt
    have hok := hrun.at (by rw [List.getElem?_take_of_lt hic]; exact hai) hq
    rw [List.take_take, Nat.min_eq_left (by omega)] at hok
    obtain ⟨_, g2⟩ := hok.late hp
    have g3 : LQ (putD ac.dst s (envOf (is.take c) qs env)) G ai q.s := g2.congr (hin1 hic hai ho) fun hgd g2 => by
     rcases hfit i ai hic hai hLt with h3 | ⟨d, hd, h4⟩
     ·rw [aFun_free h3 (H' := G)] at g2
      refine aFun_congr (fun _ _ h => h) ai.op (fun x hx => ?_) g2
      cases x with
      | c s => rfl
      | s t => exact hin1 hic hai ho t (mem_insSlots hx)
     ·rw [h4 hgd, putD_get, if_neg (nodst i ai d hic hai hd), envOf_at (is.take c) qs env d i ai q (by rw [List.getElem?_take_of_lt hic]; exact hai) hq hd (fun k ak hk hak hdk => by
       have hkn : k < c := by
        have := (List.getElem?_eq_some_iff.1 hak).1
        simp at this
        omega
       rw [List.getElem?_take_of_lt hkn] at hak
       have := hK.uniq i k ai ak d hic hkn hai hak hd hdk
       omega)]
    have hsl : ∀ t ∈ insSlots ai, Rep w (excl μ G) μ (a.tmps.getD t undef) ((putD ac.dst s (envOf (is.take c) qs env)).get t) := fun t ht => by
     rw [← hE]
     exact slot_ok hK (Nat.le_refl c) hql hinv hic hai ho h2 t ht
    have hev : Evs w (excl μ G) μ a.eval ((insSlots ai).map fun t => (t, (putD ac.dst s (envOf (is.take c) qs env)).get t)) := evs_of fun t => by
     rw [map_get]
     split
     ·exact hsl t (by assumption)
     ·exact .dead _
    have next : ∀ {v : Value}, Rep w (excl μ G) μ v q.s → (∀ t, o.dst = some t → t < n0) → ai.dst = o.dst → wpAny P .any ops Q fuel (listed.setIfInBounds i true) (a.put o.dst v) w := by
     intro v h4 hd hdst
     have := hinv.next hK hic (by omega) hai hq ho hset h1 h2 (by rw [hdst]; simpa [Option.all_eq_true] using hd) (Step.same hinv.heap h4) (fun _ _ => rfl)
     rw [hdst] at this
     refine ih _ (by simpa using hs) hcnt' (by rw [hset, if_neg (by omega)]; exact hcl) (fun j hj hl => ?_) this hfit hkb
     rw [hset]
     split
     ·rfl
     ·exact hlt j hj hl
    have carried : ∀ {op : AOp}, cOp P o = some op → ai.op = op → (∀ t, o.dst = some t → t < n0) → ai.dst = o.dst → aFun (putD ac.dst s (envOf (is.take c) qs env)) G ai.op = some q.s → o.wp P a w (fun a' w' => wpAny P .any ops Q fuel (listed.setIfInBounds i true) a' w') Q := by
     intro op hop hai' hd hdst g3
     have g4 : aFun ((insSlots ai).map fun t => (t, (putD ac.dst s (envOf (is.take c) qs env)).get t)) G ai.op = some q.s := aFun_congr (fun _ _ h => h) ai.op (fun x hx => (ev_map hx).symm) g3
     rw [hai'] at g4
     obtain ⟨v, h3, h4⟩ := fun_sound (P := P) hinv.heap (fun _ _ _ => rfl) hev hop g4
     unfold Oper.wp
     rw [h3]
     exact next h4 hd hdst
    unfold cIns at hci
    split at hci
    ·cases hci
    ·rename_i op hop
     split at hci
     ·rename_i hd
      have hd' : ∀ t, o.dst = some t → t < n0 := by simpa [Option.all_eq_true] using hd
      unfold wpOp
      rw [ho]
      unfold LQ at g3
      split at hci
      ·rename_i hg
       cases hci
       simp only at g3
       simp only [Region.wanted, hg, if_true]
       exact .inl (carried hop rfl hd' rfl g3)
      ·rename_i k' b hg
       split at hci
       ·rename_i t ht
        split at hci
        ·rename_i htn
         cases hci
         simp only at g3
         have hsl' := hsl t (guard_mem rfl)
         rcases g3 with ⟨he, hs0⟩ | ⟨c', he, hcase⟩
         ·rw [he] at hsl'
          simp only [Region.wanted, hg, guard_skip' hsl' ht]
          exact next (by rw [hs0]; exact rep_skip) hd' rfl
         ·rw [he] at hsl'
          have hy := guard_val' hinv.tmps hsl' ht htn
          simp only [Region.wanted, hg, hy]
          rcases hcase with ⟨rfl, h3⟩ | ⟨hcb, hs0⟩
          ·simp only [BEq.rfl, if_true]
           exact .inl (carried hop rfl hd' rfl h3)
          ·have hne : (some c' == some b) = false := by subst hcb; cases b <;> rfl
           simp only [hne, Bool.false_eq_true, if_false]
           exact next (by rw [hs0]; exact rep_skip) hd' rfl
        ·cases hci
       ·cases hci
     ·cases hci
   ·rw [hic, hcl] at h1
    cases h1
   ·have := K.rest i j0 o hic (by omega) ho _ hinv.closed h2
    rw [hj0l] at this
    cases this
  ·have hall : ∀ j, j < c + 1 → listed.getD j false = true := fun j hj => by
    by_cases hjc : j = c
    ·rw [hjc]; exact hcl
    ·cases h : listed.getD j false with
     | true => rfl
     | false => exact absurd ⟨j, by omega, h⟩ hex
   refine hB (fuel + 1) listed a w hs hall (fun j hj => hinv.tail j (by omega)) hcnt ⟨_, G, μ, hkb, ?_⟩
   refine ⟨hinv.tmps, hinv.defers, fun t => ?_, hinv.heap, hinv.fr, hinv.own, hinv.pre, hinv.xo⟩
   rw [← hE]
   by_cases hex : ∃ (j : Nat) (aj : AI), j < c ∧ is[j]? = some aj ∧ aj.dst = some t
   ·obtain ⟨j, aj, hj, haj, hd⟩ := hex
    obtain ⟨qj, hqj⟩ : ∃ q, qs[j]? = some q := ⟨_, List.getElem?_eq_getElem (by omega)⟩
    rw [envOf_at (is.take c) qs _ t j aj qj (by rw [List.getElem?_take_of_lt hj]; exact haj) hqj hd (fun k ak hk hak hdk => by
     have hkn : k < c := by
      have := (List.getElem?_eq_some_iff.1 hak).1
      simp at this
      omega
     rw [List.getElem?_take_of_lt hkn] at hak
     have := hK.uniq j k aj ak t hj hkn haj hak hd hdk
     omega)]
    exact hinv.done j qj aj t hj hqj haj (hall j (by omega)) hd
   ·rw [envOf_other (is.take c) qs _ t (fun ak hak hdk => by
     obtain ⟨k, hk, rfl⟩ := List.mem_iff_getElem.1 hak
     simp at hk
     exact hex ⟨k, is[k], by omega, List.getElem?_eq_getElem (by omega), by simpa using hdk⟩)]
    exact hinv.other t fun j aj hj haj _ hd => hex ⟨j, aj, hj, haj, hd⟩
/-- ahead of the call -/
theorem beforeY (K : SplitY c ops is Lt) (hc : cReg P n0 ops ops.toList = some is)
  (hB : ∀ (fuel : Nat) (listed : Array Bool) (a : Act) (w : World), listed.size = ops.size → (∀ j, j < c + 1 → listed.getD j false = true) → (∀ j, c < j → listed.getD j false = false) → listed.toList.countP (fun b => !b) ≤ fuel → Lands w0 X0 μ0 n0 KB a w → wpAny P .any ops Q fuel listed a w)
  {qs : List QI} {env : Env} {H : Heap} (hrun : QRun P (is.take c) qs env H) {ac : AI} (hac : is[c]? = some ac)
  (hops : aVal P (envOf (is.take c) qs env) (heapOf qs H) ac.op fun s G => LateFit c is Lt (putD ac.dst s (envOf (is.take c) qs env)) G ∧ KB (putD ac.dst s (envOf (is.take c) qs env)) G) : ∀ (fuel : Nat) (listed : Array Bool), listed.size = ops.size → listed.toList.countP (fun b => !b) ≤ fuel →
  ∀ {a : Act} {w : World} {μ : Mu}, Inv P w0 X0 μ0 n0 c c ops is qs env H (heapL qs H fun j => listed.getD j false) (fun j => listed.getD j false) a w μ → wpAny P .any ops Q fuel listed a w := by
 obtain ⟨hlen, hget⟩ := cReg_get hc
 have hisl : is.length = ops.size := by rw [← hlen]; simp
 have hcN := K.lt
 have hql : qs.length = c := by rw [← hrun.len, List.length_take]; omega
 have hK := K.look.less (Nat.le_succ c)
 intro fuel
 induction fuel with
 | zero =>
  intro listed hs hcnt a w μ hinv
  have h1 := hinv.tail c (Nat.le_refl _)
  rw [count_zero (Nat.le_zero.1 hcnt) c (by omega)] at h1
  cases h1
 | succ fuel ih =>
  intro listed hs hcnt a w μ hinv
  refine ⟨fun h => absurd h (ready_some K.look.rk hs ⟨c, hcN, hinv.tail c (Nat.le_refl _)⟩), fun i hi => ?_⟩
  obtain ⟨o, ho, h1, h2⟩ := (ready_iff hs).1 hi
  have hiN := (Array.getElem?_eq_some_iff.1 ho).1
  have hset := setL (listed := listed) (i := i) (by omega)
  have hcnt' : (listed.setIfInBounds i true).toList.countP (fun b => !b) ≤ fuel := by
   have := count_set (listed := listed) (i := i) (by omega) h1
   omega
  rcases Nat.lt_trichotomy i c with hic | hic | hic
  ·refine wpOp_mono ?_ (inv_step hK hc hrun hs hinv hic hi)
   rintro a' w' ⟨μ', h3⟩
   exact ih _ (by simpa using hs) hcnt' h3
  ·subst hic
   have hlt : ∀ j, j < i → ¬ Lt j → listed.getD j false = true := fun j hj hl => K.aw j o hj hl ho _ hinv.closed h2
   have hrow : ∀ (j : Nat) (q : QI), qs[j]? = some q → listed.getD j false = false → q.row = none := by
    intro j q hq hjf
    have hjm : j < i := by have := (List.getElem?_eq_some_iff.1 hq).1; omega
    by_cases hLt : Lt j
    ·have hai : is[j]? = some is[j] := List.getElem?_eq_getElem (by omega)
     have hok := hrun.at (by rw [List.getElem?_take_of_lt hjm]; exact hai) hq
     exact (hok.late (K.pl j _ hjm hai hLt)).1
    ·rw [hlt j hjm hLt] at hjf; cases hjf
   have hheap : heapL qs H (fun j => listed.getD j false) = heapOf qs H := by
    apply List.ext_getElem?
    intro b
    refine heapL_of ?_
    cases hda : deadAt qs H (fun j => listed.getD j false) b with
    | false => rfl
    | true =>
     obtain ⟨j, q, g1, g2, g3, _⟩ := deadAt_true hda
     rw [hrow j q g1 g2] at g3
     cases g3
   rw [hheap] at hinv
   obtain ⟨hng, f, args, hop'⟩ := K.ng ac hac
   obtain ⟨ai, hai, hci⟩ := hget i o (by simpa using ho)
   rw [hac] at hai
   cases hai
   have hsl := slot_ok K.look (Nat.le_succ i) hql hinv (Nat.lt_succ_self i) hac ho h2
   have hev : Evs w (excl μ (heapOf qs H)) μ a.eval ((insSlots ac).map fun t => (t, (envOf (is.take i) qs env).get t)) := evs_of fun t => by
    rw [map_get]
    split
    ·exact hsl t (by assumption)
    ·exact .dead _
   rw [hop'] at hops
   have hv' : aVal P ((insSlots ac).map fun t => (t, (envOf (is.take i) qs env).get t)) (heapOf qs H) (.call f args) fun s G => LateFit i is Lt (putD ac.dst s (envOf (is.take i) qs env)) G ∧ KB (putD ac.dst s (envOf (is.take i) qs env)) G := by
    have e : args.map (·.ev ((insSlots ac).map fun t => (t, (envOf (is.take i) qs env).get t))) = args.map (·.ev (envOf (is.take i) qs env)) := List.map_congr_left fun x hx => ev_map (by rw [hop']; exact hx)
    simp only [aVal, e] at hops ⊢
    exact hops
   unfold cIns at hci
   split at hci
   ·cases hci
   ·rename_i op hop
    split at hci
    ·rename_i hd
     split at hci
     ·rename_i hg
      cases hci
      simp only at hop' hng
      subst hop'
      unfold wpOp
      rw [ho]
      simp only [Region.wanted, hg, if_true]
      refine .inl (Oper.wp_mono ?_ (op_sound hinv.heap hev hop hv'))
      rintro a' w' ⟨u, s, G', μ', rfl, ⟨h3, h4⟩, h5⟩
      have hinv' := hinv.called (tl' := i + 1) ho hac (Nat.le_refl _) (Nat.lt_succ_self _) (Nat.le_succ _) hset h2 hrow hd (fun j aj t hj haj hdj hd2 => by
       have := K.look.uniq j i aj _ t (by omega) (by omega) haj hac hdj hd2
       omega) h5
      refine afterY K hc hB hrun hac s fuel _ (by simpa using hs) hcnt' (by rw [hset, if_pos rfl]) (fun j hj hl => ?_) hinv' h3 h4
      rw [hset]
      split
      ·rfl
      ·exact hlt j hj hl
     ·rename_i hg
      split at hci
      ·split at hci
       ·cases hci; cases hng
       ·cases hci
      ·cases hci
    ·cases hci
  ·exfalso
   have := K.rest i c o hic (Nat.le_refl _) ho _ hinv.closed h2
   rw [hinv.tail c (Nat.le_refl _)] at this
   cases this
end
theorem regY_any {P : Program} {w0 : World} {X0 : Nat → Prop} {μ0 : Mu} {n c : Nat} {ops : Array Oper} {is : List AI} {ac : AC} {K : Env → Heap → Prop} {Q : Exit → Act → World → Prop} {env : Env} {H : Heap} {a : Act} {w : World} {μ : Mu}
  (hQ : ∀ a w, Lands w0 X0 μ0 n K a w → Q .normal a w) (hc : cReg P n ops ops.toList = some is) (hr : regY ops is c = some ac) (hrel : Rel w0 X0 μ0 n env H a w μ) (hq : RQs P ac K env H) :
  wpAny P .any ops Q ops.size (Array.replicate ops.size false) a { w with drawn := w.drawn + 1 } := by
 obtain ⟨hlen, _⟩ := cReg_get hc
 have hisl : is.length = ops.size := by rw [← hlen]; simp
 unfold regY at hr
 split at hr
 ·rename_i hb
  split at hr
  ·rename_i m hm
   cases hr
   have S := splitY_of hisl hb
   have hcs := sh_cReg S.gd hc
   have hsz := @shOps_size ops (c + 1)
   have L := regC_looked (by rw [hsz, List.length_drop, hisl]) hm
   have hlt := S.lt
   obtain ⟨qs, hrun, hops⟩ := aQs_inv (is.take c) hq
   have hac : is[c]? = some is[c] := List.getElem?_eq_getElem (by omega)
   have hdrop : (is.drop c).take 1 = [is[c]] := by
    rw [List.drop_eq_getElem_cons (by omega), List.take_succ_cons, List.take_zero]
   rw [hdrop] at hops
   obtain ⟨hng, f, args, hop⟩ := S.ng _ hac
   have hops' : aVal P (envOf (is.take c) qs env) (heapOf qs H) is[c].op fun s G => lateQ P (lateOps2 ops is c) ((is.drop (c + 1)).take m) ((is.drop (c + 1)).drop m) K (putD is[c].dst s (envOf (is.take c) qs env)) G := by
    generalize is[c] = ai at *
    obtain ⟨d, g, op⟩ := ai
    simp only at hng
    subst hng
    exact hops
   refine beforeY S hc (KB := aQs P ((is.drop (c + 1)).take m) (aOps P ((is.drop (c + 1)).drop m) K)) (fun fuel listed a' w' hs hlo hhi hcnt hl => ?_) hrun hac ?_ ops.size _ (by simp) (by simp [List.countP_replicate]) (μ := μ) (inv_start hrel qs)
   ·obtain ⟨env', H', μ', h1, h2⟩ := hl
    obtain ⟨qs', hrun', hops'⟩ := aQs_inv _ h1
    refine wpAny_sh S.gd fuel listed (Array.replicate (shOps ops (c + 1)).size false) hs (by simp) hlo (fun i => ?_) (prefix_any L hcs hQ hrun' hops' fuel _ (by simp) ?_ (μ := μ') (inv_begin h2 qs'))
    ·rw [hhi (c + 1 + i) (by omega)]
     simp only [Array.getD_eq_getD_getElem?, Array.getElem?_replicate]
     split <;> rfl
    ·refine Nat.le_trans ?_ hcnt
     have e : listed.toList.countP (fun b => !b) = ops.size - (c + 1) := by
      have hl : listed.toList = List.replicate (c + 1) true ++ List.replicate (ops.size - (c + 1)) false := by
       apply List.ext_getElem (by simp [hs]; omega)
       intro j hj hj'
       have g : listed.getD j false = listed.toList[j] := by
        rw [Array.getD_eq_getD_getElem?, Array.getElem?_eq_getElem (by simpa using hj)]
        simp
       rw [← g, List.getElem_append]
       split
       ·rename_i hnl
        rw [List.getElem_replicate]; exact hlo j (by simpa using hnl)
       ·rename_i hnl
        rw [List.getElem_replicate]; exact hhi j (by simp at hnl; omega)
      rw [hl]
      simp [List.countP_append, List.countP_replicate]
     rw [e]
     simp [List.countP_replicate, hsz]
   ·rw [hop] at hops' ⊢
    have h9 : CallA P f (args.map (·.ev (envOf (is.take c) qs env))) (heapOf qs H) fun s G => lateQ P (lateOps2 ops is c) ((is.drop (c + 1)).take m) ((is.drop (c + 1)).drop m) K (putD is[c].dst s (envOf (is.take c) qs env)) G := hops'
    refine CallA.mono h9 fun s G h => ⟨fun j ai hj hai hl => ?_, h.2⟩
    cases hfr : ai.op.slots with
    | true => exact .inl rfl
    | false =>
     have hg : is.getD j default = ai := by simp [List.getD_eq_getElem?_getD, hai]
     refine .inr (lateOk_mem h.1 ai ?_)
     simp only [lateOps2, List.mem_map, List.mem_filter, Bool.not_eq_true']
     exact ⟨j, ⟨hl, by rw [hg]; exact hfr⟩, hg⟩
  ·cases hr
 ·cases hr
def callAt (is : List AI) : Option Nat := is.findIdx? fun i => match i.op with
 | .call _ _ | .callv _ _ => true
 | _ => false
def RC9 (ops : Array Oper) (is : List AI) : Option AC := match RC0 ops is with
 | some ac => some ac
 | none => match callAt is with
  | some c => regX ops is c
  | none => none
/-- the look for a call whose function makes rows, and that some others need not wait for -/
def RCy (ops : Array Oper) (is : List AI) : Option AC := match freshAt is with
 | some c => if permOk ops.size (callOrd ops c) = true then regY (permOps ops (callOrd ops c)) (permIs is (callOrd ops c)) (callPos ops c) else none
 | none => none
/-- the translation's look at a region -/
def RCs (ops : Array Oper) (is : List AI) : Option AC := match wideAt is with
 | some c => (match regX ops is c with
  | some ac => some ac
  | none => RC9 ops is)
 | none => match RCy ops is with
  | some ac => some ac
  | none => RC9 ops is
theorem reg2 (ops : Array Oper) (is : List AI) (ac : AC) (h : RC2 ops is = some ac) : ac.isReg = true := by
 unfold RC2 at h
 split at h
 ·split at h
  ·rename_i h1
   cases h
   exact reg1 _ _ _ h1
  ·split at h
   ·rename_i h1
    cases h
    unfold RC3 at h1
    split at h1
    ·cases h1; rfl
    ·cases h1
   ·unfold RC4 at h
    split at h
    ·cases h; rfl
    ·cases h
 ·cases h
/-- EVERY ORDER. -/
theorem regQ (P : Program) : RegQ P (RQs P) RCs := by
 have zero : ∀ ops is ac, RC0 ops is = some ac → ac.isReg = true := by
  intro ops is ac h
  unfold RC0 at h
  split at h
  ·rename_i ac' h1
   split at h
   ·exact reg2 _ _ _ h
   ·cases h; exact reg1 _ _ _ h1
  ·exact reg2 _ _ _ h
 have nine : ∀ ops is ac, RC9 ops is = some ac → ac.isReg = true := by
  intro ops is ac h
  unfold RC9 at h
  split at h
  ·rename_i h1
   cases h
   exact zero _ _ _ h1
  ·split at h
   ·exact regX_reg h
   ·cases h
 refine ⟨fun ops is ac h => ?_, ?_⟩
 ·unfold RCs at h
  split at h
  ·split at h
   ·rename_i h1
    cases h
    exact regX_reg h1
   ·exact nine _ _ _ h
  ·split at h
   ·rename_i h1
    cases h
    unfold RCy at h1
    split at h1
    ·split at h1
     ·exact regY_reg h1
     ·cases h1
    ·cases h1
   ·exact nine _ _ _ h
 intro w0 X0 μ0 n ops is ac rid K Q env H a w μ hm hQ hc hr hrel hq
 have two : RC2 ops is = some ac → wpAny P .any ops Q ops.size (Array.replicate ops.size false) a { w with drawn := w.drawn + 1 } := by
  intro h
  unfold RC2 at h
  split at h
  ·rename_i hp
   have hP := permOk_of hp
   have : wpAny P .any (permOps ops (sortOps is)) Q (permOps ops (sortOps is)).size (Array.replicate (permOps ops (sortOps is)).size false) a { w with drawn := w.drawn + 1 } := by
    split at h
    ·rename_i h1
     cases h
     exact regAny hQ (perm_cReg hP hc) h1 hrel hq
    ·split at h
     ·rename_i h1
      cases h
      exact regAny3 hQ (perm_cReg hP hc) h1 hrel hq
     ·exact regAny4 hQ (perm_cReg hP hc) h hrel hq
   rw [permOps_size hP] at this
   refine wpAny_perm hP ops.size _ _ (by simp) (by simp) (fun i hi => ?_) this
   have := (hP.at hi).1
   simp [Array.getD_eq_getD_getElem?, hi, this]
  ·cases h
 have one : RC0 ops is = some ac → wpAny P .any ops Q ops.size (Array.replicate ops.size false) a { w with drawn := w.drawn + 1 } := by
  intro hr
  unfold RC0 at hr
  split at hr
  ·rename_i ac' h1
   split at hr
   ·exact two hr
   ·cases hr
    exact regAny hQ hc h1 hrel hq
  ·exact two hr
 have nine' : RC9 ops is = some ac → wpAny P .any ops Q ops.size (Array.replicate ops.size false) a { w with drawn := w.drawn + 1 } := by
  intro hr
  unfold RC9 at hr
  split at hr
  ·rename_i h1
   cases hr
   exact one h1
  ·split at hr
   ·exact regX_any hQ hc hr hrel hq
   ·cases hr
 refine wp_region_any hm ?_
 unfold RCs at hr
 split at hr
 ·split at hr
  ·rename_i h1
   cases hr
   exact regX_any hQ hc h1 hrel hq
  ·exact nine' hr
 ·split at hr
  ·rename_i h1
   cases hr
   unfold RCy at h1
   split at h1
   ·rename_i c hcc
    split at h1
    ·rename_i hp
     have hP := permOk_of hp
     have := regY_any hQ (perm_cReg hP hc) h1 hrel hq
     rw [permOps_size hP] at this
     refine wpAny_perm hP ops.size _ _ (by simp) (by simp) (fun i hi => ?_) this
     have := (hP.at hi).1
     simp [Array.getD_eq_getD_getElem?, hi, this]
    ·cases h1
   ·cases h1
  ·exact nine' hr
end Go.Vm
/-! The abstract machine, part 21: results that lie in cells; the contract of a function, from its code. -/
namespace Go.Vm
open Go Go.RowKit
inductive RS where
 | t (k : Nat)
 | c (k : Nat) (agg : Bool) (n : Nat)
 deriving Inhabited
def resC (P : Program) : List ResultVar → Option (List RS)
 | [] => some []
 | .tmp t :: r => (resC P r).map (.t t :: ·)
 | .cell a t :: r => match aggT P t, sizeT P t, resC P r with
  | some g, some n, some q => some (.c a g n :: q)
  | _, _, _ => none
def RS.val (env : Env) (H : Heap) : RS → Option S
 | .t k => some (env.get k)
 | .c k g n => aFun env H (.load g n (.s k))
def resVals (env : Env) (H : Heap) : List RS → Option (List S)
 | [] => some []
 | r :: q => match r.val env H, resVals env H q with
  | some s, some l => some (s :: l)
  | _, _ => none
def resOne (tmps : Array Value) : ResultVar → Sem Value
 | .tmp t => pure (tmps.getD t undef)
 | .cell a t => do loadVar t (← asAddr (tmps.getD a undef))
theorem results_eq (fn : Func) (tmps : Array Value) : results fn tmps = (do
  let vs ← fn.results.mapM (resOne tmps)
  pure (if h : vs.size = 1 then vs[0] else .tuple vs)) := by
 unfold results
 congr 1
theorem run_resC {P : Program} {w : World} {μ : Mu} {H : Heap} (hrep : HRep w μ H) {tmps : Array Value} {env : Env} (he : ∀ d, Rep w (excl μ H) μ (tmps.getD d undef) (env.get d)) :
  ∀ {l : List ResultVar} {rs : List RS} {ss : List S}, resC P l = some rs → resVals env H rs = some ss →
   ∃ vs, (l.mapM (m := Sem) (resOne tmps)).run P w = .ok vs w ∧ vs.length = ss.length ∧ ∀ i, i < ss.length → Rep w (excl μ H) μ (vs.getD i undef) (ss.getD i .dead) := by
 intro l
 induction l with
 | nil => intro rs ss h hv; simp [resC] at h; subst h; simp [resVals] at hv; subst hv; exact ⟨[], rfl, rfl, fun i hi => by simp at hi⟩
 | cons r l ih =>
  intro rs ss h hv
  have fin : ∀ {q : List RS} {s : S} {ss' : List S}, resC P l = some q → resVals env H q = some ss' → (∃ v, (resOne tmps r).run P w = .ok v w ∧ Rep w (excl μ H) μ v s) → ss = s :: ss' →
    ∃ vs, ((r :: l).mapM (m := Sem) (resOne tmps)).run P w = .ok vs w ∧ vs.length = ss.length ∧ ∀ i, i < ss.length → Rep w (excl μ H) μ (vs.getD i undef) (ss.getD i .dead) := by
   rintro q s ss' h1 h2 ⟨v, h3, h4⟩ rfl
   obtain ⟨vs, h5, h6, h7⟩ := ih h1 h2
   refine ⟨v :: vs, ?_, by simp [h6], fun i hi => ?_⟩
   ·simp only [List.mapM_cons, Sem.run_bind, h3, Result.andThen_ok, h5, Sem.run_pure]
   ·cases i with
    | zero => simpa using h4
    | succ i => simpa using h7 i (by simpa using hi)
  cases r with
  | tmp t =>
   simp only [resC] at h
   obtain ⟨q, hq, rfl⟩ := Option.map_eq_some_iff.1 h
   simp only [resVals, RS.val] at hv
   split at hv
   ·rename_i s ss' h1 h2
    cases h1
    cases hv
    exact fin hq h2 ⟨_, rfl, he t⟩ rfl
   ·cases hv
  | cell a t =>
   simp only [resC] at h
   split at h
   ·rename_i g n q hg hn hq
    cases h
    simp only [resVals, RS.val] at hv
    split at hv
    ·rename_i s ss' h1 h2
     cases hv
     refine fin hq h2 ?_ rfl
     obtain ⟨v, h3, h4⟩ := load_sound (P := P) hrep hg hn (x := .s a) (he a) h1
     refine ⟨v, ?_, h4⟩
     cases hp : tmps.getD a undef with
     | pointer ad =>
      rw [hp] at h3
      cases ad with
      | none => simp [Instr.loadAt, Instr.sureAddr, stuck] at h3
      | some ad => simpa [resOne, hp, asAddr, Instr.loadAt, Instr.sureAddr] using h3
     | _ => rw [hp] at h3; simp [Instr.loadAt, Instr.sureAddr, stuck] at h3
    ·cases hv
   ·cases h
theorem run_results' {P : Program} {w : World} {μ : Mu} {H : Heap} (hrep : HRep w μ H) {tmps : Array Value} {env : Env} (he : ∀ d, Rep w (excl μ H) μ (tmps.getD d undef) (env.get d)) {fn : Func} {rs : List RS} {ss : List S}
  (h : resC P fn.results.toList = some rs) (hv : resVals env H rs = some ss) : ∃ v, (results fn tmps).run P w = .ok v w ∧ Rep w (excl μ H) μ v (retS ss) := by
 obtain ⟨vs, h1, h2, h3⟩ := run_resC hrep he h hv
 refine ⟨if h : vs.toArray.size = 1 then vs.toArray[0] else .tuple vs.toArray, ?_, ?_⟩
 ·rw [results_eq]
  simp only [Sem.run_bind]
  rw [Array.mapM_eq_mapM_toList]
  simp only [Sem.run_map]
  rw [h1]
  rfl
 ·rcases ss with _ | ⟨s, _ | ⟨s2, q⟩⟩
  ·rw [dif_neg (by simp [h2])]
   exact .tup _ _ (by simp [h2]) (fun i hi => by simp at hi)
  ·have hl : vs.length = 1 := by simpa using h2
   rw [dif_pos (by simpa using hl)]
   have := h3 0 (by simp)
   obtain ⟨v, rfl⟩ := List.length_eq_one_iff.1 hl
   simpa [retS] using this
  ·rw [dif_neg (by simp [h2])]
   refine .tup _ _ (by simp [h2]) (fun i hi => ?_)
   rw [Array.getD_toArray']
   exact h3 i hi
def PostR (kp : Nat) (rs : List RS) (K : S → Heap → Prop) : APost
 | .normal => Up kp fun env H => match resVals env H rs with
  | some ss => K (retS ss) H
  | none => False
 | .ret => Up kp fun env H => match resVals env H rs with
  | some ss => K (retS ss) H
  | none => False
 | .exit _ => fun _ _ => False
/-- FROM THE CODE TO THE CONTRACT. -/
theorem callA_of_code {P : Program} (hm : P.follows .mixedOrders = true) {f : Nat} {fn : Func} {ac : AC} {rs : List RS}
  (hf : P.funcs[f]? = some fn) (hname : (fn.name == "runtime.NumGoroutine") = false) (hc : (fn.body.bind fun c => cCode P fn.ntmps RCs c) = some ac) (hres : resC P fn.results.toList = some rs) {args : List S} (hn : args.length ≤ fn.ntmps) {H : Heap} {K : S → Heap → Prop}
  (h : aWp P H.length (RQs P) ac (PostR H.length rs K) (argEnv 0 args) H) : CallA P f args H K := by
 obtain ⟨c, hb, hc⟩ : ∃ c, fn.body = some c ∧ cCode P fn.ntmps RCs c = some ac := by
  cases hb : fn.body with
  | none => rw [hb] at hc; cases hc
  | some c => rw [hb] at hc; exact ⟨c, rfl, hc⟩
 refine ⟨⟨fn, hf, hname, by rw [hb]; rfl⟩, fun w μ cargs hrep hl hargs => ?_⟩
 refine calls_of_wp hf hb ?_
 have hrel : Rel w (owned μ H) μ fn.ntmps (argEnv 0 args) H { tmps := cargs ++ Array.replicate (fn.ntmps - cargs.size) undef, defers := [] } w μ := by
  refine ⟨by simp; omega, rfl, fun d => ?_, hrep, Fr.refl _ _, fun k hk => .inl hk, fun _ _ h => h, rfl⟩
  rw [argEnv_get]
  simp only [Nat.not_lt_zero, if_false, Nat.sub_zero]
  by_cases hd : d < args.length
  ·have : (cargs ++ Array.replicate (fn.ntmps - cargs.size) undef).getD d undef = cargs.getD d undef := by
    simp only [Array.getD_eq_getD_getElem?]
    rw [Array.getElem?_append_left (by omega)]
   rw [this]
   exact hargs d hd
  ·rw [List.getD_eq_getElem?_getD, List.getElem?_eq_none (by omega)]
   exact .dead _
 refine wp_mono (aWp_sound hm (regQ P) (fun b l hb => hrep.dom b l hb) c ac hc hrel h) ?_
 have fin : ∀ {a : Act} {w' : World}, Lands w (owned μ H) μ fn.ntmps (Up H.length fun env H => match resVals env H rs with
   | some ss => K (retS ss) H
   | none => False) a w' → a.defers = [] ∧ ∃ v, (results fn a.tmps).run P w' = .ok v w' ∧ ∃ v' s H' μ', Ending.returned v = .returned v' ∧ K s H' ∧ Step w μ H w' μ' H' v' s := by
  rintro a w' ⟨env', H', μ', h1, h2⟩
  obtain ⟨E, HE, μ2, h3, h4⟩ := Up.rel h1 (fun b l hb => hrep.dom b l hb) h2
  split at h3
  ·rename_i ss hss
   obtain ⟨v, h5, h6⟩ := run_results' (P := P) h4.heap h4.env hres hss
   exact ⟨h4.defers, v, h5, v, _, HE, μ2, rfl, h3, h4.heap, h6, h4.pre, h4.xo, h4.fr, h4.own⟩
  ·exact h3.elim
 rintro e a w' ⟨ex, rfl, hq⟩
 cases ex with
 | normal => exact fin hq
 | ret => exact fin hq
 | exit i => obtain ⟨env', H', μ', h1, _⟩ := hq; exact h1.elim
/-! ### rows that are looked at no more to be written -/
def freeze (H : Heap) : Heap := H.map fun r => if r.st = .live then { r with st := .frozen } else r
theorem freeze_get {H : Heap} {b : Nat} {r : Row} (h : (freeze H)[b]? = some r) : ∃ r0, H[b]? = some r0 ∧ r.es = r0.es ∧ r.size = r0.size ∧ r.st ≠ .live ∧ (r.st = .dead ↔ r0.st = .dead) := by
 simp only [freeze, List.getElem?_map] at h
 obtain ⟨r0, h1, rfl⟩ := Option.map_eq_some_iff.1 h
 refine ⟨r0, h1, ?_⟩
 cases hs : r0.st <;> simp [hs]
theorem owned_freeze {μ : Mu} {H : Heap} {k : Nat} : ¬ owned μ (freeze H) k := by
 rintro ⟨b, r, l, hb, hst, _⟩
 obtain ⟨r0, _, _, _, h, _⟩ := freeze_get hb
 exact h hst
theorem excl_freeze {μ : Mu} {H : Heap} {k : Nat} (h : excl μ (freeze H) k) : excl μ H k := h.elim (fun h => (owned_freeze h).elim) .inr
theorem HRep.freeze {w : World} {μ : Mu} {H : Heap} (h : HRep w μ H) : HRep w μ (freeze H) := by
 refine ⟨fun b l hl => by have := h.dom b l hl; simpa [Vm.freeze] using this, fun k hk => ⟨(h.xo k hk).1, owned_freeze⟩, ?_, ?_⟩
 ·intro b r l hb hd hl
  obtain ⟨r0, h1, h2, h3, h4, h5⟩ := freeze_get hb
  have hd0 : r0.st ≠ .dead := fun e => hd (h5.2 e)
  have rr := h.row b r0 l h1 hd0 hl
  refine ⟨by rw [h3, rr.size], rr.pos, fun hv => by rw [h2]; exact rr.virt hv, fun e he => rr.lens e (by rw [← h2]; exact he), fun e he => rr.cellOk e (by rw [← h2]; exact he), fun hv => by rw [h2]; exact rr.fits hv, fun hv i j hi hj => ?_, fun _ hst => absurd hst h4, fun hv hst hne hx => ?_⟩
  ·rw [h2] at hi ⊢
   obtain ⟨v, g1, g2⟩ := rr.cells hv i j hi hj
   exact ⟨v, g1, g2.keeps (fun _ _ _ => rfl) (fun k hk => .inl (excl_freeze hk)) (fun _ _ h => h)⟩
  ·have hx' : μ.xo l.blk := hx.elim (fun h => (owned_freeze h).elim) id
   cases hs : r0.st with
   | dead => exact hd0 hs
   | frozen => exact rr.frozen hv hs (by rw [← h2]; exact hne) (.inr hx')
   | live => exact (h.xo _ hx').2 ⟨b, r0, l, h1, hs, hl, hv, rfl⟩
 ·intro b b' r r' l l' hb hb' hst
  obtain ⟨r0, _, _, _, h, _⟩ := freeze_get hb
  exact absurd hst h
theorem toV0_freeze {H : Heap} {s : S} {d : V} (h : toV0 true H s = some d) : toV0 false (freeze H) s = some d := by
 cases s with
 | rsl b off len =>
  simp only [toV0] at h ⊢
  split at h
  ·rename_i r hr
   have : (freeze H)[b]? = some (if r.st = .live then { r with st := .frozen } else r) := by simp [freeze, hr]
   rw [this]
   split at h
   ·rename_i hc
    rcases hc with ⟨hc1 | ⟨_, hc1⟩, hc2⟩ <;> simp [hc1, hc2] <;> exact h
   ·cases h
  ·cases h
 | _ => exact h
theorem toVs0_freeze {H : Heap} : ∀ {ss : List S} {ds : List V}, toVs0 true H ss = some ds → toVs0 false (freeze H) ss = some ds
 | [], _, h => h
 | s :: r, ds, h => by
  simp only [toVs0] at h ⊢
  split at h
  ·rename_i v q hv hq
   rw [toV0_freeze hv, toVs0_freeze hq]
   exact h
  ·cases h
theorem toVo_freeze {H : Heap} {s : S} {d : V} (h : toVo true H s = some d) : toVo false (freeze H) s = some d := by
 cases s with
 | agg cs =>
  simp only [toVo] at h ⊢
  split at h
  ·rename_i vs hvs; rw [toVs0_freeze hvs]; exact h
  ·cases h
 | func fn f c =>
  simp only [toVo] at h ⊢
  split at h
  ·rename_i a b ha hb; rw [toVs0_freeze ha, toVs0_freeze hb]; exact h
  ·cases h
 | _ =>
  simp only [toVo] at h ⊢
  exact toV0_freeze h
theorem toVn_freeze {H : Heap} : ∀ (n : Nat) {s : S} {d : V}, toVn true H n s = some d → toVn false (freeze H) n s = some d
 | 0, _, _, h => by cases h
 | n + 1, s, d, h => by
  cases s with
  | rsl b off len =>
   simp only [toVn] at h ⊢
   split at h
   ·rename_i r hr
    have e : (freeze H)[b]? = some (if r.st = .live then { r with st := .frozen } else r) := by simp [freeze, hr]
    rw [e]
    split at h
    ·rename_i hc
     split at h
     ·rename_i vs hvs
      have hv' := mapO_imp (fun s v => toVn_freeze n) hvs
      rcases hc with ⟨hc1 | ⟨_, hc1⟩, hc2⟩ <;> simp [hc1, hc2, hv'] <;> exact Option.some.inj h
     ·cases h
    ·cases h
   ·cases h
  | agg cs =>
   simp only [toVn] at h ⊢
   split at h
   ·rename_i vs hvs
    rw [mapO_imp (fun s v => toVn_freeze n) hvs]
    exact h
   ·cases h
  | _ => exact h
theorem toV_freeze {H : Heap} {s : S} {d : V} (h : toV true H s = some d) : toV false (freeze H) s = some d := by
 unfold toV at h ⊢
 split at h
 ·rename_i v hv
  cases h
  rw [toVo_freeze hv]
 ·have hn := toVn_freeze 8 h
  split
  ·rename_i v hv
   rw [toVo_n hv hn]
  ·exact hn
theorem toVs_freeze {H : Heap} : ∀ {ss : List S} {ds : List V}, toVs true H ss = some ds → toVs false (freeze H) ss = some ds
 | [], _, h => h
 | s :: r, ds, h => by
  simp only [toVs] at h ⊢
  split at h
  ·rename_i v q hv hq
   rw [toV_freeze hv, toVs_freeze hq]
   exact h
  ·cases h
/-- what a function of data gives back, as data -/
def Gives (rs : List V) (s : S) (H : Heap) : Prop := ∃ ss, s = retS ss ∧ toVs true H ss = some rs
theorem fnQ_of_call {P : Program} {f : Nat} {vs rs : List V} (h : CallA P f (vs.map .pure) [] (Gives rs)) : FnQ P f vs rs := by
 refine ⟨h.1, fun w X cargs hX hl ha => ?_⟩
 have no : ∀ {μ : Mu} {k : Nat}, ¬ owned μ [] k := by rintro μ k ⟨b, r, l, hb, _⟩; simp at hb
 have hrep : HRep w ⟨fun _ => none, X⟩ [] := ⟨fun b l hl => by simp at hl, fun k hk => ⟨hX k hk, no⟩, fun b r l hb => by simp at hb, fun b b' r r' l l' hb => by simp at hb⟩
 refine (h.2 w ⟨fun _ => none, X⟩ cargs hrep (by simpa using hl) (fun i hi => ?_)).mono ?_
 ·have hi' : i < vs.length := by simpa using hi
  have := ha i hi'
  rw [List.getD_eq_getElem?_getD, List.getElem?_eq_getElem hi'] at this
  rw [List.getD_eq_getElem?_getD, List.getElem?_map, List.getElem?_eq_getElem hi']
  exact .pure _ _ (this.less fun k hk => hk.elim (fun h => (no h).elim) id)
 ·rintro e w' ⟨v, s, H', μ', rfl, ⟨ss, rfl, hv⟩, st⟩
  refine ⟨v, rfl, ?_, st.fr.os, st.fr.tape, st.fr.output, st.fr.size, fun k hk _ => st.fr.keep k hk no⟩
  have hr : Rep w' (excl μ' (freeze H')) μ' v (retS ss) := st.val.keeps (fun _ _ _ => rfl) (fun k hk => .inl (excl_freeze hk)) (fun _ _ h => h)
  have hXX : ∀ k, X k → excl μ' (freeze H') k := fun k hk => .inr (by rw [st.xo]; exact hk)
  have hvs := toVs_freeze hv
  obtain ⟨h1, h2⟩ := toVs_sound (X := X) st.heap.freeze (fun _ _ _ => rfl) hXX (fun h => by cases h) hvs
  rcases ss with _ | ⟨s, _ | ⟨s2, q⟩⟩
  ·obtain rfl : rs = [] := List.eq_nil_of_length_eq_zero (by simpa using h1.symm)
   cases hr with
   | tup vs _ hl hh => exact ⟨vs, rfl, by simpa using hl, fun i hi => by simp at hi⟩
  ·obtain ⟨d, rfl⟩ := List.length_eq_one_iff.1 (by simpa using h1.symm)
   have := h2 (cs := #[v]) rfl (fun i hi => by
    obtain rfl : i = 0 := by simpa using hi
    exact hr) 0 (by simp)
   exact this
  ·cases hr with
   | tup vs _ hl hh =>
    rcases rs with _ | ⟨d, _ | ⟨d2, t⟩⟩
    ·simp at h1
    ·simp at h1
    ·exact ⟨vs, rfl, by rw [hl]; simpa using h1, h2 hl hh⟩
/-- results in own rows of flat data, or flat -/
inductive Fresh (H : Heap) : S → V → Prop where
 | pure (v : V) (h : v.flat = true) : Fresh H (.pure v) v
 | empty : Fresh H .empty (.sl [])
 | rsl (b n m : Nat) (es : List V) (hb : H[b]? = some ⟨es.map .pure, m, .live⟩) (hf : ∀ e ∈ es, e.flat = true) (hn : n = es.length) : Fresh H (.rsl b 0 n) (.sl es)
inductive Freshs (H : Heap) : List S → List V → Prop where
 | nil : Freshs H [] []
 | cons {s : S} {v : V} {ss : List S} {vs : List V} (h : Fresh H s v) (hs : Freshs H ss vs) : Freshs H (s :: ss) (v :: vs)
theorem Freshs.at {H : Heap} : ∀ {ss : List S} {vs : List V}, Freshs H ss vs → ss.length = vs.length ∧ ∀ i, i < vs.length → Fresh H (ss.getD i .dead) (vs.getD i default)
 | [], [], .nil => ⟨rfl, fun i hi => by simp at hi⟩
 | _ :: _, _ :: _, .cons h hs => by
  obtain ⟨h1, h2⟩ := hs.at
  refine ⟨by simp [h1], fun i hi => ?_⟩
  cases i with
  | zero => simpa using h
  | succ i => simpa using h2 i (by simpa using hi)
def GivesF (rs : List V) (s : S) (H : Heap) : Prop := ∃ ss, s = retS ss ∧ toVs true H ss = some rs ∧ Freshs H ss rs
theorem cells_flat {e : V} (h : e.flat = true) {j : Nat} {w w' : World} {X X' : Nat → Prop} {u : Value} (hj : j < e.cells.length) (hp : PRep w X u (e.cells.getD j default)) : PRep w' X' u (e.cells.getD j default) := by
 cases e with
 | agg cs =>
  simp only [V.flat] at h
  refine flats_mem h _ ?_ hp
  simp only [V.cells] at hj ⊢
  rw [List.getD_eq_getElem?_getD, List.getElem?_eq_getElem hj]
  exact List.getElem_mem _
 | _ =>
  simp only [V.cells, List.length_singleton] at hj hp ⊢
  obtain rfl : j = 0 := by omega
  simp only [List.getD_cons_zero] at hp ⊢
  exact PRep.flat h hp
theorem Fresh.up {w : World} {X : Nat → Prop} {μ : Mu} {H : Heap} {s : S} {d : V} {v : Value} {Y : Nat → Prop} (h : Fresh H s d) (hown : ∀ k, owned μ H k → ¬ X k) (hr : Rep w Y μ v s) (hp : PRep w (fun _ => False) v d) : PRep w X v d := by
 have emp : ∀ {a : Option Addr} {d : V}, PRep w (fun _ => False) (.slice a 0 0) d → PRep w X (.slice a 0 0) d := by
  intro a d h
  cases h with
  | nils => exact .nils _
  | sl blk off len cap size es f hz hl hc hm hx hs hcell hw hr =>
   obtain rfl : es = [] := List.eq_nil_of_length_eq_zero hl
   exact .nils _
 cases h with
 | pure _ h => exact PRep.flat h hp
 | empty =>
  cases hr with
  | empty a ha => exact emp hp
 | rsl b n m es hb hf hn =>
  cases hr with
  | rsl _ _ _ cap l hl hv hc hm hr =>
   have hno : ¬ X l.blk := hown _ ⟨b, _, l, hb, rfl, hl, hv, rfl⟩
   cases hp with
   | nils a => exact .nils _
   | sl blk off len cap size es f hz hl hc hm hx hs hcell hw hr =>
    refine .sl _ _ _ _ size es f hz hl hc hm (fun _ => hno) hs hcell hw fun i j hi hj => ?_
    have he : es.getD i default ∈ es := by
     rw [List.getD_eq_getElem?_getD, List.getElem?_eq_getElem hi]
     exact List.getElem_mem _
    exact cells_flat (hf _ he) (by rw [hs _ he]; exact hj) (hr i j hi hj)
  | rslz a ha b off l hl => exact emp hp
theorem fnF_of_call {P : Program} {f : Nat} {vs rs : List V} (h : CallA P f (vs.map .pure) [] (GivesF rs)) : FnF P f vs rs := by
 refine ⟨h.1, fun w cargs hl ha => ?_⟩
 have no : ∀ {μ : Mu} {k : Nat}, ¬ owned μ [] k := by rintro μ k ⟨b, r, l, hb, _⟩; simp at hb
 have hrep : HRep w ⟨fun _ => none, fun _ => False⟩ [] := ⟨fun b l hl => by simp at hl, fun k hk => hk.elim, fun b r l hb => by simp at hb, fun b b' r r' l l' hb => by simp at hb⟩
 refine (h.2 w ⟨fun _ => none, fun _ => False⟩ cargs hrep (by simpa using hl) (fun i hi => ?_)).mono ?_
 ·have hi' : i < vs.length := by simpa using hi
  have := ha i hi'
  rw [List.getD_eq_getElem?_getD, List.getElem?_eq_getElem hi'] at this
  rw [List.getD_eq_getElem?_getD, List.getElem?_map, List.getElem?_eq_getElem hi']
  exact .pure _ _ (this.less fun k hk => hk.elim (fun h => (no h).elim) id)
 ·rintro e w' ⟨v, s, H', μ', rfl, ⟨ss, rfl, hv, hfr⟩, st⟩
  refine ⟨v, rfl, ?_, st.fr.os, st.fr.tape, st.fr.output, st.fr.size, fun k hk _ => st.fr.keep k hk no⟩
  have hr : Rep w' (excl μ' H') μ' v (retS ss) := st.val
  obtain ⟨h1, h2⟩ := toVs_sound (X := fun _ => False) st.heap (fun _ _ _ => rfl) (fun _ h => h.elim) (fun _ _ h => h) hv
  obtain ⟨_, h3⟩ := hfr.at
  have hown : ∀ k, owned μ' H' k → ¬ (k < w.heap.size) := by
   intro k hk hlt
   rcases st.own k hk with h4 | h4
   ·exact no h4
   ·omega
  rcases ss with _ | ⟨s, _ | ⟨s2, q⟩⟩
  ·obtain rfl : rs = [] := List.eq_nil_of_length_eq_zero (by simpa using h1.symm)
   cases hr with
   | tup vs _ hl hh => exact ⟨vs, rfl, by simpa using hl, fun i hi => by simp at hi⟩
  ·obtain ⟨d, rfl⟩ := List.length_eq_one_iff.1 (by simpa using h1.symm)
   have := h2 (cs := #[v]) rfl (fun i hi => by
    obtain rfl : i = 0 := by simpa using hi
    exact hr) 0 (by simp)
   exact (h3 0 (by simp)).up hown hr this
  ·cases hr with
   | tup vs _ hl hh =>
    rcases rs with _ | ⟨d, _ | ⟨d2, t⟩⟩
    ·simp at h1
    ·simp at h1
    ·exact ⟨vs, rfl, by rw [hl]; simpa using h1, fun i hi => (h3 i hi).up hown (hh i (by rw [h1]; exact hi)) (h2 hl hh i hi)⟩
theorem HRep.swap {w : World} {μ : Mu} {G HF : Heap} (h : HRep w μ G) (hF : ∀ (b : Nat) (l : Loc), μ b = some l → HF[b]? = G[b]?) : HRep w μ HF ∧ excl μ HF = excl μ G := by
 have ho : ∀ k, owned μ HF k ↔ owned μ G k := fun k => ⟨fun ⟨b, r, l, h1, h2, h3, h4⟩ => ⟨b, r, l, by rw [← hF b l h3]; exact h1, h2, h3, h4⟩, fun ⟨b, r, l, h1, h2, h3, h4⟩ => ⟨b, r, l, by rw [hF b l h3]; exact h1, h2, h3, h4⟩⟩
 have he : excl μ HF = excl μ G := funext fun k => propext (or_congr (ho k) Iff.rfl)
 refine ⟨⟨fun b l hl => ?_, fun k hk => ⟨(h.xo k hk).1, fun e => (h.xo k hk).2 ((ho k).1 e)⟩, fun b r l hb hd hl => ?_, fun b b' r r' l l' hb hb' h1 h2 hl hl' => h.inj b b' r r' l l' (by rw [← hF b l hl]; exact hb) (by rw [← hF b' l' hl']; exact hb') h1 h2 hl hl'⟩, he⟩
 ·have h1 := h.dom b l hl
  have h2 := hF b l hl
  rw [List.getElem?_eq_getElem h1] at h2
  exact (List.getElem?_eq_some_iff.1 h2).1
 ·rw [he]
  exact h.row b r l (by rw [← hF b l hl]; exact hb) hd hl
theorem PRes.of_rep {w : World} {X : Nat → Prop} {μ : Mu} {v : Value} {ds : List V} (h : Rep w X μ v (retS (ds.map .pure))) : PRes w X v ds := by
 rcases ds with _ | ⟨d, _ | ⟨d2, r⟩⟩
 ·cases h with
  | tup vs _ hl hh => exact ⟨vs, rfl, by simpa using hl, fun i hi => by simp at hi⟩
 ·exact h.pure_inv
 ·cases h with
  | tup vs _ hl hh =>
   refine ⟨vs, rfl, by rw [hl]; simp, fun i hi => ?_⟩
   have := hh i (by simpa using hi)
   have e : (((d :: d2 :: r).map S.pure).getD i .dead) = .pure ((d :: d2 :: r).getD i default) := by
    rw [List.getD_eq_getElem?_getD, List.getD_eq_getElem?_getD, List.getElem?_map, List.getElem?_eq_getElem hi]; rfl
   have h3 : Rep w X μ (vs.getD i undef) (((d :: d2 :: r).map S.pure).getD i .dead) := this
   rw [e] at h3
   exact h3.pure_inv
/-- a call that reads rows, and gives flat data -/
theorem CallR.read {P : Program} {f : Nat} {args : List S} {H : Heap} {rs : List V} (hfl : ∀ r ∈ rs, r.flat = true) (h : ∀ HF : Heap, (∀ (b : Nat) (r : Row), H[b]? = some r → HF[b]? = some r) → CallA P f args (freeze HF) fun s _ => s = retS (rs.map .pure)) : CallR P f args H rs := by
 refine ⟨(h H fun _ _ h => h).1, fun HF hF w μ G cargs hrep hG hs ha => ?_⟩
 obtain ⟨hr, he⟩ := hrep.swap hG
 refine ((h HF hF).2 w μ cargs hr.freeze hs fun i hi => (ha i hi).keeps (fun _ _ _ => rfl) (fun k hk => .inl (by rw [← he]; exact excl_freeze hk)) (fun _ _ h => h)).mono ?_
 rintro e w' ⟨v, s, H', μ', rfl, rfl, st⟩
 have h2 : Fr (fun _ => False) w w' := ⟨st.fr.os, st.fr.tape, st.fr.output, st.fr.size, fun k hk _ => st.fr.keep k hk owned_freeze⟩
 have h1 : PRes w' (excl μ G) v rs := (PRes.of_rep st.val).flat hfl
 exact ⟨v, rfl, hrep.kept h2, h1.rep, fun _ _ h => h, rfl, ⟨h2.os, h2.tape, h2.output, h2.size, fun k hk _ => h2.keep k hk id⟩, fun _ h => .inl h⟩
/-- A CALL OF A FUNCTION OF DATA. -/
theorem callA_q {P : Program} {f : Nat} {args : List S} {H : Heap} {K : S → Heap → Prop} (lv : Bool) (vs rs : List V) (hv : toVs lv H args = some vs) (hf : FnQ P f vs rs) (hl : lv = true → (∀ r ∈ rs, r.flat = true) ∨ FnF P f vs rs) (hK : K (retS (rs.map .pure)) H) : CallA P f args H K :=
 ⟨hf.1, fun _ μ _ hrep hcl ha => (callQ_sound hrep (fun _ _ _ => rfl) hv hf hl hcl ha).mono fun _ _ ⟨v, h1, h2⟩ => ⟨v, _, H, μ, h1, hK, h2⟩⟩
theorem callQ_q {P : Program} {f : Nat} {args : List S} {H : Heap} {K : S → Prop} (lv : Bool) (vs rs : List V) (hv : toVs lv H args = some vs) (hf : FnQ P f vs rs) (hl : lv = true → (∀ r ∈ rs, r.flat = true) ∨ FnF P f vs rs) (hK : K (retS (rs.map .pure))) : CallQ P f args H K :=
 ⟨rs, .data lv vs rs hv hf hl, hK⟩
theorem fnQ_of_code {P : Program} (hm : P.follows .mixedOrders = true) {f : Nat} {fn : Func} {ac : AC} {rs : List RS}
  (hf : P.funcs[f]? = some fn) (hname : (fn.name == "runtime.NumGoroutine") = false) (hc : (fn.body.bind fun c => cCode P fn.ntmps RCs c) = some ac) (hres : resC P fn.results.toList = some rs) {vs ds : List V} (hn : vs.length ≤ fn.ntmps)
  (h : aWp P 0 (RQs P) ac (PostR 0 rs (Gives ds)) (argEnv 0 (vs.map .pure)) []) : FnQ P f vs ds :=
 fnQ_of_call (callA_of_code hm hf hname hc hres (by simpa using hn) h)
end Go.Vm
/-! The abstract machine, part 22: a plainer form of what a code does ('aWx'), to be reckoned by simp; loops. -/
namespace Go.Vm
open Go Go.RowKit
/-- as 'aWp', with nothing said of weaker states but at loops -/
def aWx (P : Program) (kp : Nat) : AC → APost → Env → Heap → Prop
 | .skip, Q => Q .normal
 | .reg is, Q => aOps P is (Q .normal)
 | .regq pre post, Q => aQs P pre (aOps P post (Q .normal))
 | .regs core st lates post, Q => aQs P core (aOps P [st] (lateK P lates post (Q .normal)))
 | .regm core sts lates, Q => aQs P core (stK P lates sts (Q .normal))
 | .regd a b c d, Q => aQs P a (aOps P b (aQs P c (aOps P d (Q .normal))))
 | .rege a b l c d, Q => aQs P a (aOps P b (lateQ P l c d (Q .normal)))
 | .seq a b, Q => aWx P kp a (thenA (aWx P kp b Q) Q)
 | .cond c a b, Q => fun env H => match c.ev env with
  | .pure (.bool t) => (t = true → aWx P kp a Q env H) ∧ (t = false → aWx P kp b Q env H)
  | _ => False
 | .block id c, Q => aWx P kp c (blockA id Q)
 | .loop c, Q => LoopW kp (aWx P kp c) Q
 | .exit id, Q => Q (.exit id)
 | .ret, Q => Q .ret
theorem aVal_mono {P : Program} {env : Env} {H : Heap} {op : AOp} {K K' : S → Heap → Prop} (hK : ∀ s h, K s h → K' s h) (h : aVal P env H op K) : aVal P env H op K' := by
 cases op
 case call => exact h.mono hK
 case callv =>
  simp only [aVal] at h ⊢
  split at h
  ·rename_i heq; try rw [heq]
   exact h.mono hK
  ·rename_i heq; try rw [heq]
   exact h.mono hK
  ·exact h.elim
 case box => exact ⟨h.1, hK _ _ h.2⟩
 case bslice => exact ⟨h.1, hK _ _ h.2⟩
 case mksl =>
  simp only [aVal] at h ⊢
  split at h
  ·rename_i heq heq'; try rw [heq, heq']
   exact ⟨h.1, hK _ _ h.2⟩
  ·exact h.elim
 case store =>
  simp only [aVal] at h ⊢
  split at h
  ·rename_i heq
   split at h
   ·rename_i hb
    split at h
    ·rename_i he
     obtain ⟨h1, h2, h3, h4, h5⟩ := h
     try simp only [heq, hb, he]
     exact ⟨h1, h2, h3, h4, hK _ _ h5⟩
    ·exact h.2.elim
   ·exact h.elim
  ·exact h.elim
 case app =>
  simp only [aVal] at h ⊢
  split at h
  ·exact h.elim
  ·rename_i ys hys
   try rw [hys]
   obtain ⟨h0, h⟩ := h
   refine ⟨h0, ?_⟩
   split at h
   ·rename_i heq
    try rw [heq]
    exact ⟨h.1, h.2.1, hK _ _ h.2.2⟩
   ·rename_i heq
    try rw [heq]
    split at h
    ·rename_i hb
     try simp only [hb]
     obtain ⟨h1, h2, h3, h4, h5, h6⟩ := h
     exact ⟨h1, h2, h3, h4, h5, hK _ _ h6⟩
    ·exact h.elim
   ·exact h.elim
 case slnil =>
  simp only [aVal] at h ⊢
  split at h
  ·rename_i heq; try rw [heq]
   exact fun b hb => hK _ _ (h b hb)
  ·exact h.elim
 case pick =>
  simp only [aVal] at h ⊢
  split at h
  ·rename_i heq; try rw [heq]
   exact ⟨fun e => hK _ _ (h.1 e), fun e => hK _ _ (h.2 e)⟩
  ·exact h.elim
 case len =>
  simp only [aVal] at h ⊢
  split at h
  ·rename_i heq; try rw [heq]
   exact hK _ _ h
  ·rename_i heq; try rw [heq]
   exact fun e => hK _ _ (h e)
  ·rename_i heq; try rw [heq]
   exact fun e => hK _ _ (h e)
  ·exact h.elim
 case lenS =>
  simp only [aVal] at h ⊢
  split at h
  ·rename_i heq; try rw [heq]
   exact fun e => hK _ _ (h e)
  ·exact h.elim
 all_goals
  simp only [aVal] at h ⊢
  split at h
  ·rename_i heq
   first | exact hK _ _ h | (simp only [heq]; exact hK _ _ h) | (rw [heq]; exact hK _ _ h)
  ·exact h.elim
theorem aIns_mono {P : Program} {i : AI} {K K' : Env → Heap → Prop} (hK : ∀ e h, K e h → K' e h) {env : Env} {H : Heap} (h : aIns P i K env H) : aIns P i K' env H := by
 unfold aIns at h ⊢
 split
 ·rename_i hg
  simp only [hg] at h
  exact aVal_mono (fun s h' => hK _ _) h
 ·rename_i t b hg
  simp only [hg] at h
  split at h
  ·rename_i c he
   exact ⟨fun e => aVal_mono (fun s h' => hK _ _) (h.1 e), fun e => hK _ _ (h.2 e)⟩
  ·exact hK _ _ h
  ·exact h.elim
theorem aOps_mono {P : Program} : ∀ {is : List AI} {K K' : Env → Heap → Prop}, (∀ e h, K e h → K' e h) → ∀ {env : Env} {H : Heap}, aOps P is K env H → aOps P is K' env H
 | [], _, _, hK, _, _, h => hK _ _ h
 | i :: is, _, _, hK, _, _, h => aIns_mono (i := i) (fun _ _ h => aOps_mono (is := is) hK h) h
theorem aQop_mono {P : Program} {op : AOp} {K K' : S → Heap → Prop} (hK : ∀ s h, K s h → K' s h) {env : Env} {H : Heap} (h : aQop P op K env H (CallQ P)) : aQop P op K' env H (CallQ P) := by
 have cq : ∀ {f : Nat} {args : List S}, CallQ P f args H (fun r => K r H) → CallQ P f args H fun r => K' r H := by
  rintro f args ⟨rs, h1, h4⟩
  exact ⟨rs, h1, hK _ _ h4⟩
 cases op
 case call => exact cq h
 case callv =>
  simp only [aQop] at h ⊢
  split at h
  ·rename_i heq; try rw [heq]
   exact cq h
  ·rename_i heq; try rw [heq]
   exact cq h
  ·exact h.elim
 case box x =>
  have h' : aVal P env H (.box x) K := h
  exact (aVal_mono hK h' : aVal P env H (.box x) K')
 case bslice n ps =>
  have h' : aVal P env H (.bslice n ps) K := h
  exact (aVal_mono hK h' : aVal P env H (.bslice n ps) K')
 case mksl n b z x y =>
  have h' : aVal P env H (.mksl n b z x y) K := h
  exact (aVal_mono hK h' : aVal P env H (.mksl n b z x y) K')
 case pick =>
  simp only [aQop] at h ⊢
  split at h
  ·rename_i heq; try rw [heq]
   exact ⟨fun e => hK _ _ (h.1 e), fun e => hK _ _ (h.2 e)⟩
  ·exact h.elim
 all_goals
  simp only [aQop] at h ⊢
  split at h
  ·rename_i heq
   first | exact hK _ _ h | (simp only [heq]; exact hK _ _ h) | (rw [heq]; exact hK _ _ h)
  ·exact h.elim
theorem aQs_mono {P : Program} : ∀ {is : List AI} {K K' : Env → Heap → Prop}, (∀ e h, K e h → K' e h) → ∀ {env : Env} {H : Heap}, aQs P is K env H → aQs P is K' env H
 | [], _, _, hK, _, _, h => hK _ _ h
 | i :: is, K, K', hK, env, H, h => by
  unfold aQs at h ⊢
  split
  ·rename_i hg
   simp only [hg] at h
   exact aQop_mono (fun s h' => aQs_mono (is := is) hK) h
  ·rename_i t b hg
   simp only [hg] at h
   split at h
   ·exact ⟨fun e => aQop_mono (fun s h' => aQs_mono (is := is) hK) (h.1 e), fun e => aQs_mono (is := is) hK (h.2 e)⟩
   ·exact aQs_mono (is := is) hK h
   ·exact h.elim
theorem thenA_mono {n n' : Env → Heap → Prop} {Q Q' : APost} (hn : ∀ e h, n e h → n' e h) (hQ : ∀ x e h, Q x e h → Q' x e h) : ∀ x e h, thenA n Q x e h → thenA n' Q' x e h := by
 intro x e h hx
 cases x with
 | normal => exact hn _ _ hx
 | exit i => exact hQ _ _ _ hx
 | ret => exact hQ _ _ _ hx
theorem blockA_mono {id : Nat} {Q Q' : APost} (hQ : ∀ x e h, Q x e h → Q' x e h) : ∀ x e h, blockA id Q x e h → blockA id Q' x e h := by
 intro x e h hx
 cases x with
 | normal => exact hQ _ _ _ hx
 | exit i =>
  simp only [blockA] at hx ⊢
  split
  ·rw [if_pos (by assumption)] at hx; exact hQ _ _ _ hx
  ·rw [if_neg (by assumption)] at hx; exact hQ _ _ _ hx
 | ret => exact hQ _ _ _ hx
theorem stK_mono {P : Program} {l : List AI} : ∀ {sts : List AI} {K K' : Env → Heap → Prop}, (∀ e h, K e h → K' e h) → ∀ {env : Env} {H : Heap}, stK P l sts K env H → stK P l sts K' env H
 | [], _, _, hK, _, _, h => hK _ _ h
 | s :: r, _, _, hK, _, _, h => aOps_mono (is := [s]) (fun _ _ h => ⟨h.1, stK_mono (sts := r) hK h.2⟩) h
theorem aWp_mono {P : Program} {kp : Nat} : ∀ (c : AC) {Q Q' : APost}, (∀ x e h, Q x e h → Q' x e h) → ∀ {env : Env} {H : Heap}, aWp P kp (RQs P) c Q env H → aWp P kp (RQs P) c Q' env H
 | .skip, _, _, hQ, _, _, h => hQ _ _ _ h
 | .reg is, _, _, hQ, _, _, h => aOps_mono (fun e h => hQ _ e h) h
 | .regq pre post, _, _, hQ, _, _, h => aQs_mono (fun _ _ h => aOps_mono (fun e h => hQ _ e h) h) h
 | .regs core st lates post, _, _, hQ, _, _, h => aQs_mono (fun _ _ h => aOps_mono (fun _ _ h => ⟨h.1, aOps_mono (fun e h => hQ _ e h) h.2⟩) h) h
 | .regm core sts lates, _, _, hQ, _, _, h => aQs_mono (fun _ _ h => stK_mono (fun e h => hQ _ e h) h) h
 | .regd a b c d, _, _, hQ, _, _, h => aQs_mono (fun _ _ h => aOps_mono (fun _ _ h => aQs_mono (fun _ _ h => aOps_mono (fun e h => hQ _ e h) h) h) h) h
 | .rege a b l c d, _, _, hQ, _, _, h => aQs_mono (fun _ _ h => aOps_mono (fun _ _ h => ⟨h.1, aQs_mono (fun _ _ h => aOps_mono (fun e h => hQ _ e h) h) h.2⟩) h) h
 | .seq a b, _, _, hQ, _, _, h => aWp_mono a (thenA_mono (fun _ _ h => h.mono fun _ _ h => aWp_mono b hQ h) hQ) h
 | .cond c a b, Q, Q', hQ, env, H, h => by
  simp only [aWp] at h ⊢
  split at h
  ·rename_i heq
   exact ⟨fun e => aWp_mono a hQ (h.1 e), fun e => aWp_mono b hQ (h.2 e)⟩
  ·exact h.elim
 | .block id c, _, _, hQ, _, _, h => aWp_mono c (blockA_mono hQ) h
 | .loop c, _, _, hQ, _, _, h => by
  obtain ⟨T, I, m, h1, h2⟩ := h
  exact ⟨T, I, m, h1, fun x e h hI => aWp_mono c (thenA_mono (fun _ _ h => h) hQ) (h2 x e h hI)⟩
 | .exit id, _, _, hQ, _, _, h => hQ _ _ _ h
 | .ret, _, _, hQ, _, _, h => hQ _ _ _ h
theorem aWx_sound {P : Program} {kp : Nat} : ∀ (c : AC) {Q : APost} {env : Env} {H : Heap}, aWx P kp c Q env H → aWp P kp (RQs P) c Q env H
 | .skip, _, _, _, h => h
 | .reg is, _, _, _, h => h
 | .regq pre post, _, _, _, h => h
 | .regs core st lates post, _, _, _, h => h
 | .regm core sts lates, _, _, _, h => h
 | .regd _ _ _ _, _, _, _, h => h
 | .rege _ _ _ _ _, _, _, _, h => h
 | .seq a b, Q, _, _, h => aWp_mono a (thenA_mono (fun _ _ h => .here (aWx_sound b h)) (fun _ _ _ h => h)) (aWx_sound a h)
 | .cond c a b, Q, env, H, h => by
  simp only [aWx, aWp] at h ⊢
  split at h
  ·rename_i heq
   try simp only [heq]
   exact ⟨fun e => aWx_sound a (h.1 e), fun e => aWx_sound b (h.2 e)⟩
  ·exact h.elim
 | .block id c, _, _, _, h => aWx_sound c h
 | .loop c, _, _, _, h => by
  obtain ⟨T, I, m, h1, h2⟩ := h
  exact ⟨T, I, m, h1, fun x e h hI => aWx_sound c (h2 x e h hI)⟩
 | .exit id, _, _, _, h => h
 | .ret, _, _, _, h => h
/-- what a body of a loop leads to: 'again' at the next turn -/
def PostX (rs : List RS) (K : S → Heap → Prop) : APost
 | .normal => fun env H => match resVals env H rs with
  | some ss => K (retS ss) H
  | none => False
 | .ret => fun env H => match resVals env H rs with
  | some ss => K (retS ss) H
  | none => False
 | .exit _ => fun _ _ => False
theorem PostX.up {kp : Nat} {rs : List RS} {K : S → Heap → Prop} : ∀ x e h, PostX rs K x e h → PostR kp rs K x e h
 | .normal, _, _, h => .here h
 | .ret, _, _, h => .here h
 | .exit _, _, _, h => h
theorem callA_of_x {P : Program} (hm : P.follows .mixedOrders = true) {f : Nat} {fn : Func} {ac : AC} {rs : List RS}
  (hf : P.funcs[f]? = some fn) (hname : (fn.name == "runtime.NumGoroutine") = false) (hc : (fn.body.bind fun c => cCode P fn.ntmps RCs c) = some ac) (hres : resC P fn.results.toList = some rs) {args : List S} (hn : args.length ≤ fn.ntmps) {H : Heap} {K : S → Heap → Prop}
  (h : aWx P H.length ac (PostX rs K) (argEnv 0 args) H) : CallA P f args H K :=
 callA_of_code hm hf hname hc hres hn (aWp_mono ac PostX.up (aWx_sound ac h))
theorem gives_one {d : V} {s : S} {H : Heap} (h : toV true H s = some d) : Gives [d] s H := ⟨[s], rfl, by simp [toVs, h]⟩
theorem gives_pure {d : V} {H : Heap} : Gives [d] (.pure d) H := gives_one rfl
theorem gives_tup {ds : List V} {ss : List S} {H : Heap} (h : toVs true H ss = some ds) (hl : ss.length ≠ 1) : Gives ds (.tup ss) H := by
 refine ⟨ss, ?_, h⟩
 rcases ss with _ | ⟨s, _ | ⟨s2, q⟩⟩
 ·rfl
 ·simp at hl
 ·rfl
end Go.Vm
