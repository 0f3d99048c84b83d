/-
  The abstract machine, part 20: regions that draw their order, whole; calls with data.
-/
import Derived.Test.YtbllbkhkmngclaaVm19
namespace Go.Vm
open Go Go.RowKit

/-- operations that look at slots alone -/
def AOp.free : AOp → Bool
  | .mov _ | .bin _ _ _ | .un _ _ | .ext _ _ | .fldA _ _ | .conv _ _ | .eqb _ _ _ | .nilck _ => true
  | _ => false
/-- operations that read -/
def AOp.reads : AOp → Bool
  | .load _ _ _ | .idxA _ _ _ => true
  | _ => false
def isStore : AI → Bool
  | ⟨none, none, .store _ _ _⟩ => true
  | _ => false
/-- the operations ahead of the tail that are followed by writings alone -/
def coreLen (is : List AI) : Nat → Nat
  | 0 => 0
  | n + 1 => if isStore (is.getD n default) = true then coreLen is n else n + 1
/-- what is read behind a writing that it may also follow is what is read ahead of it -/
def lateOk : List AI → Env → Heap → Prop
  | [], _, _ => True
  | i :: r, env, H => (match i.dst with
    | some d => aFun env H i.op = some (env.get d)
    | none => False) ∧ lateOk r env H
def lateK (P : Program) (lates post : List AI) (K : Env → Heap → Prop) (env : Env) (H : Heap) : Prop := lateOk lates env H ∧ aOps P post K env H
def notAwaited (ops : Array Oper) (m : Nat) : List Nat := (List.range m).filter fun j => !((ancs ops.toList []).getD m []).contains j
def lateFine (ops : Array Oper) (is : List AI) (m n : Nat) : Bool :=
  ((notAwaited ops m).all fun j => (is.getD j default).guard == none && ((is.getD j default).op.free || ((is.getD j default).op.reads && (is.getD j default).dst.isSome))) &&
  ((List.range n).all fun k => decide (k ≤ m) || (directs (ops.getD k default)).contains (k - 1))
def lateOps (ops : Array Oper) (is : List AI) (m : Nat) : List AI := ((notAwaited ops m).filter fun j => !(is.getD j default).op.free).map fun j => is.getD j default
/-- the translation's look at a region, and what it is good for -/
def RC1 (ops : Array Oper) (is : List AI) : Option AC :=
  match regC ops is with
  | none => none
  | some n =>
    if coreLen is n = n then some (.regq (is.take n) (is.drop n))
    else if lateFine ops is (coreLen is n) n = true then
      (if (lateOps ops is (coreLen is n)).isEmpty = true then some (.regq (is.take (coreLen is n)) (is.drop (coreLen is n)))
      else if n = coreLen is n + 1 then some (.regs (is.take (coreLen is n)) (is.getD (coreLen is n) default) (lateOps ops is (coreLen is n)) (is.drop n)) else none)
    else none
/-- the look at a region that is told in another order -/
def regP (ops : Array Oper) (is : List AI) (l : List Nat) : Bool :=
  ((List.range ops.size).all fun i => (directs (ops.getD i default)).all fun j => decide (j < ops.size) && decide (l.getD j 0 < l.getD i 0)) &&
  (((List.range ops.size).all fun i => (insSlots (is.getD i default)).all fun t => (List.range ops.size).all fun j => (is.getD j default).dst != some t || ((directs (ops.getD i default)).contains j && decide (j < i))) &&
  ((List.range ops.size).all fun j => (List.range ops.size).all fun k => j == k || (is.getD j default).dst == none || (is.getD j default).dst != (is.getD k default).dst))
/-- writings alone at the end, with reads that do not wait for them -/
def RC3 (ops : Array Oper) (is : List AI) (l : List Nat) : Option AC :=
  if regP ops is l = true ∧ coreLen is ops.size ≠ ops.size ∧ lateFine ops is (coreLen is ops.size) ops.size = true then
    some (.regm (is.take (coreLen is ops.size)) (is.drop (coreLen is ops.size)) (lateOps ops is (coreLen is ops.size))) else none
/-- one writing behind the other -/
def stK (P : Program) (lates : List AI) : List AI → (Env → Heap → Prop) → Env → Heap → Prop
  | [], K => K
  | s :: r, K => aOps P [s] fun e H => lateOk lates e H ∧ stK P lates r K e H
def stL (P : Program) (lates sts : List AI) (K : Env → Heap → Prop) (env : Env) (H : Heap) : Prop := lateOk lates env H ∧ stK P lates sts K env H
def RQs (P : Program) : AC → (Env → Heap → Prop) → Env → Heap → Prop
  | .regq pre post, K => aQs P pre (aOps P post K)
  | .regm core sts lates, K => aQs P core (stK P lates sts K)
  | .regs core st lates post, K => aQs P core (aOps P [st] (lateK P lates post K))
  | _, _ => fun _ _ => False

theorem count_set {listed : Array Bool} {i : Nat} (hi : i < listed.size) (h : listed.getD i false = false) : (listed.setIfInBounds i true).toList.countP (fun b => !b) + 1 = listed.toList.countP (fun b => !b) := by
  have hi' : i < listed.toList.length := by simpa using hi
  have hv : listed.toList[i] = false := by
    rw [Array.getD_eq_getD_getElem?, Array.getElem?_eq_getElem hi] at h
    simpa using h
  rw [Array.toList_setIfInBounds, List.countP_set hi']
  have hpos : 0 < listed.toList.countP (fun b => !b) := by
    rw [List.countP_pos_iff]
    exact ⟨listed.toList[i], List.getElem_mem _, by rw [hv]; rfl⟩
  have hv2 : listed[i] = false := by simpa using hv
  simp only [Array.getElem_toList, hv2, Bool.not_false, Bool.not_true, if_true, Bool.false_eq_true, if_false]
  omega
theorem count_zero {listed : Array Bool} (h : listed.toList.countP (fun b => !b) = 0) (i : Nat) (hi : i < listed.size) : listed.getD i false = true := by
  rw [List.countP_eq_zero] at h
  have := h listed.toList[i] (List.getElem_mem _)
  rw [Array.getD_eq_getD_getElem?, Array.getElem?_eq_getElem hi]
  simpa using this

section
variable {P : Program} {w0 : World} {X0 : Nat → Prop} {μ0 : Mu} {n0 n : Nat} {ops : Array Oper} {is : List AI} {K0 : Env → Heap → Prop} {Q : Exit → Act → World → Prop}

/-- some operation may be carried out -/
theorem Looked.ready (K : Looked n ops is) {listed : Array Bool} (hs : listed.size = ops.size) (hcl : Closed ops (fun j => listed.getD j false)) (hex : ∃ j, j < n ∧ listed.getD j false = false) : ∃ j, j < n ∧ listed.getD j false = false ∧ j ∈ Region.ready .any ops listed := by
  obtain ⟨r, hr⟩ := K.rk
  obtain ⟨u, hu, hul⟩ := hex
  have hle := K.le
  have main : ∀ (m : Nat), ∀ j, j < ops.size → listed.getD j false = false → r j ≤ m → ∃ k, k < ops.size ∧ listed.getD k false = false ∧ ∀ d ∈ directs (ops.getD k default), listed.getD d false = true := by
    intro m
    induction m with
    | zero =>
      intro j hj hjl hm
      refine ⟨j, hj, hjl, fun d hd => ?_⟩
      have := hr j (ops.getD j default) (by simp [Array.getD_eq_getD_getElem?, hj]) d hd
      omega
    | succ m ih =>
      intro j hj hjl hm
      by_cases hall : ∀ d ∈ directs (ops.getD j default), listed.getD d false = true
      · exact ⟨j, hj, hjl, hall⟩
      · simp only [Classical.not_forall] at hall
        obtain ⟨d, hd, hdl⟩ := hall
        have := hr j (ops.getD j default) (by simp [Array.getD_eq_getD_getElem?, hj]) d hd
        exact ih d this.1 (by simpa using hdl) (by omega)
  obtain ⟨k, hk, hkl, hd⟩ := main (r u) u (by omega) hul (Nat.le_refl _)
  have hok : ops[k]? = some (ops.getD k default) := by simp [Array.getD_eq_getD_getElem?, hk]
  refine ⟨k, ?_, hkl, (ready_iff hs).2 ⟨_, hok, hkl, hd⟩⟩
  rcases Nat.lt_or_ge k n with h | h
  · exact h
  · have := K.full k u _ h (by omega) hok _ hcl hd
    rw [hul] at this
    cases this

theorem tail_any (K : Looked n ops is) (hc : cReg P n0 ops ops.toList = some is) (hQ : ∀ a w, Lands w0 X0 μ0 n0 K0 a w → Q .normal a w) : ∀ (fuel k : Nat) (listed : Array Bool), n ≤ k → listed.size = ops.size → Closed ops (fun j => listed.getD j false) →
    (∀ j, j < k → j < ops.size → listed.getD j false = true) → (∀ j, k ≤ j → listed.getD j false = false) → listed.toList.countP (fun b => !b) ≤ fuel →
    ∀ {env : Env} {H : Heap} {a : Act} {w : World} {μ : Mu}, Rel w0 X0 μ0 n0 env H a w μ → aOps P (is.drop k) K0 env H → wpAny P .any ops Q fuel listed a w := by
  intro fuel
  induction fuel with
  | zero =>
    intro k listed hk hs hcl hlo hhi hcnt env H a w μ hrel hops
    have hall := count_zero (Nat.le_zero.1 hcnt)
    obtain ⟨hlen, _⟩ := cReg_get hc
    have hNk : ops.size ≤ k := by
      rcases Nat.lt_or_ge k ops.size with h | h
      · have h1 := hall k (by omega)
        rw [hhi k (Nat.le_refl _)] at h1
        cases h1
      · exact h
    have hnil : is.drop k = [] := List.drop_eq_nil_of_le (by rw [← hlen]; simpa using hNk)
    rw [hnil] at hops
    refine wpAny_done ?_ (hQ a w ⟨env, H, μ, hops, hrel⟩) 0
    rw [List.eq_nil_iff_forall_not_mem]
    intro j hj
    obtain ⟨o, ho, h1, _⟩ := (ready_iff hs).1 hj
    rw [hall j (by rw [hs]; exact (Array.getElem?_eq_some_iff.1 ho).1)] at h1
    cases h1
  | succ fuel ih =>
    intro k listed hk hs hcl hlo hhi hcnt env H a w μ hrel hops
    obtain ⟨hlen, hget⟩ := cReg_get hc
    rcases Nat.lt_or_ge k ops.size with hkN | hkN
    · have hok : ops[k]? = some ops[k] := Array.getElem?_eq_getElem hkN
      obtain ⟨ai, hai, hci⟩ := hget k ops[k] (by simp)
      have hdrop : is.drop k = ai :: is.drop (k + 1) := by
        have hkl := (List.getElem?_eq_some_iff.1 hai).1
        rw [List.drop_eq_getElem_cons hkl]
        congr 1
        exact (List.getElem?_eq_some_iff.1 hai).2
      rw [hdrop] at hops
      have hready : k ∈ Region.ready .any ops listed := (ready_iff hs).2 ⟨_, hok, hhi k (Nat.le_refl _), fun d hd => by
        have := K.lexT k _ hk hok d hd
        exact hlo d this (by omega)⟩
      refine ⟨(fun h => by rw [h] at hready; cases hready), fun i hi => ?_⟩
      obtain ⟨o, ho, h1, h2⟩ := (ready_iff hs).1 hi
      have hiN := (Array.getElem?_eq_some_iff.1 ho).1
      have hik : i = k := by
        rcases Nat.lt_trichotomy i k with h | h | h
        · rw [hlo i h hiN] at h1; cases h1
        · exact h
        · have := K.full i k o (by omega) h ho _ hcl h2
          rw [hhi k (Nat.le_refl _)] at this
          cases this
      subst hik
      rw [hok] at ho
      cases ho
      have hset := setL (listed := listed) (i := i) (by omega)
      refine wpOp_mono ?_ (ins_sound hrel hci hops hok)
      rintro a' w' ⟨env', H', μ', h3, h4⟩
      refine ih (i + 1) _ (by omega) (by simpa using hs) ?_ (fun j hj hjN => ?_) (fun j hj => ?_) ?_ h4 h3
      · intro j oj hj hjl d hd
        simp only [hset] at hjl ⊢
        by_cases hji : j = i
        · subst hji
          rw [hok] at hj
          cases hj
          have := h2 d hd
          split
          · rfl
          · exact this
        · rw [if_neg hji] at hjl
          have := hcl j oj hj hjl d hd
          split
          · rfl
          · exact this
      · rw [hset]
        split
        · rfl
        · exact hlo j (by omega) hjN
      · rw [hset, if_neg (by omega)]
        exact hhi j (by omega)
      · have := count_set (listed := listed) (i := i) (by omega) h1
        omega
    · have hnil : is.drop k = [] := List.drop_eq_nil_of_le (by rw [← hlen]; simpa using hkN)
      rw [hnil] at hops
      refine wpAny_done ?_ (hQ a w ⟨env, H, μ, hops, hrel⟩) _
      rw [List.eq_nil_iff_forall_not_mem]
      intro j hj
      obtain ⟨o, ho, h1, _⟩ := (ready_iff hs).1 hj
      have hjN := (Array.getElem?_eq_some_iff.1 ho).1
      rw [hlo j (by omega) hjN] at h1
      cases h1

theorem prefix_any (K : Looked n ops is) (hc : cReg P n0 ops ops.toList = some is) (hQ : ∀ a w, Lands w0 X0 μ0 n0 K0 a w → Q .normal a w) {qs : List QI} {env : Env} {H : Heap} (hrun : QRun P (is.take n) qs env H)
    (hops : aOps P (is.drop n) K0 (envOf (is.take n) qs env) (heapOf qs H)) : ∀ (fuel : Nat) (listed : Array Bool), listed.size = ops.size → listed.toList.countP (fun b => !b) ≤ fuel →
    ∀ {a : Act} {w : World} {μ : Mu}, Inv P w0 X0 μ0 n0 n n ops is qs env H (heapL qs H fun j => listed.getD j false) (fun j => listed.getD j false) a w μ → wpAny P .any ops Q fuel listed a w := by
  obtain ⟨hlen, hget⟩ := cReg_get hc
  have hisl : is.length = ops.size := by rw [← hlen]; simp
  have hql : qs.length = n := by rw [← hrun.len, List.length_take]; have := K.le; omega
  intro fuel
  induction fuel with
  | zero =>
    intro listed hs hcnt a w μ hinv
    have hall := count_zero (Nat.le_zero.1 hcnt)
    by_cases hN : n < ops.size
    · have h1 := hinv.tail n (Nat.le_refl _)
      rw [hall n (by omega)] at h1
      cases h1
    · -- every operation has been carried out
      have hall' : ∀ j, j < n → listed.getD j false = true := fun j hj => hall j (by have := K.le; omega)
      have hheap : heapL qs H (fun j => listed.getD j false) = heapOf qs H := by
        apply List.ext_getElem?
        intro b
        refine heapL_of ?_
        cases hda : deadAt qs H (fun j => listed.getD j false) b with
        | false => rfl
        | true =>
          obtain ⟨j, q, g1, g2, _, _⟩ := deadAt_true hda
          have := (List.getElem?_eq_some_iff.1 g1).1
          rw [hall' j (by omega)] at g2
          cases g2
      have hrel : Rel w0 X0 μ0 n0 (envOf (is.take n) qs env) (heapOf qs H) a w μ := by
        rw [← hheap]
        refine ⟨hinv.tmps, hinv.defers, fun t => ?_, hinv.heap, hinv.fr, hinv.own, hinv.pre, hinv.xo⟩
        by_cases hex : ∃ (j : Nat) (aj : AI), j < n ∧ is[j]? = some aj ∧ aj.dst = some t
        · obtain ⟨j, aj, hj, haj, hd⟩ := hex
          obtain ⟨qj, hqj⟩ : ∃ q, qs[j]? = some q := ⟨_, List.getElem?_eq_getElem (by omega)⟩
          rw [envOf_at (is.take n) qs env t j aj qj (by rw [List.getElem?_take_of_lt hj]; exact haj) hqj hd (fun k ak hk hak hdk => by
            have hkn : k < n := by
              have := (List.getElem?_eq_some_iff.1 hak).1
              simp at this
              omega
            rw [List.getElem?_take_of_lt hkn] at hak
            have := K.uniq j k aj ak t hj hkn haj hak hd hdk
            omega)]
          exact hinv.done j qj aj t hj hqj haj (hall' j hj) hd
        · rw [envOf_other (is.take n) qs env t (fun ak hak hdk => by
            obtain ⟨k, hk, rfl⟩ := List.mem_iff_getElem.1 hak
            simp at hk
            exact hex ⟨k, is[k], by omega, List.getElem?_eq_getElem (by omega), by simpa using hdk⟩)]
          exact hinv.other t fun j aj hj haj _ hd => hex ⟨j, aj, hj, haj, hd⟩
      exact tail_any K hc hQ 0 n listed (Nat.le_refl _) hs hinv.closed (fun j hj _ => hall' j hj) hinv.tail hcnt hrel hops
  | succ fuel ih =>
    intro listed hs hcnt a w μ hinv
    by_cases hex : ∃ j, j < n ∧ listed.getD j false = false
    · obtain ⟨j, hj, hjl, hready⟩ := K.ready hs hinv.closed hex
      refine ⟨(fun h => by rw [h] at hready; cases hready), fun i hi => ?_⟩
      obtain ⟨o, ho, h1, h2⟩ := (ready_iff hs).1 hi
      have hiN := (Array.getElem?_eq_some_iff.1 ho).1
      have hin : i < n := by
        rcases Nat.lt_or_ge i n with h | h
        · exact h
        · have := K.full i j o h (by omega) ho _ hinv.closed h2
          rw [hjl] at this
          cases this
      refine wpOp_mono ?_ (inv_step K.toLook hc hrun hs hinv hin hi)
      rintro a' w' ⟨μ', h3⟩
      refine ih _ (by simpa using hs) ?_ h3
      have := count_set (listed := listed) (i := i) (by omega) h1
      omega
    · have hall' : ∀ j, j < n → listed.getD j false = true := fun j hj => by
        cases h : listed.getD j false with
        | true => rfl
        | false => exact absurd ⟨j, hj, h⟩ hex
      have hheap : heapL qs H (fun j => listed.getD j false) = heapOf qs H := by
        apply List.ext_getElem?
        intro b
        refine heapL_of ?_
        cases hda : deadAt qs H (fun j => listed.getD j false) b with
        | false => rfl
        | true =>
          obtain ⟨j, q, g1, g2, _, _⟩ := deadAt_true hda
          have := (List.getElem?_eq_some_iff.1 g1).1
          rw [hall' j (by omega)] at g2
          cases g2
      have hrel : Rel w0 X0 μ0 n0 (envOf (is.take n) qs env) (heapOf qs H) a w μ := by
        rw [← hheap]
        refine ⟨hinv.tmps, hinv.defers, fun t => ?_, hinv.heap, hinv.fr, hinv.own, hinv.pre, hinv.xo⟩
        by_cases hex : ∃ (j : Nat) (aj : AI), j < n ∧ is[j]? = some aj ∧ aj.dst = some t
        · obtain ⟨j, aj, hj, haj, hd⟩ := hex
          obtain ⟨qj, hqj⟩ : ∃ q, qs[j]? = some q := ⟨_, List.getElem?_eq_getElem (by omega)⟩
          rw [envOf_at (is.take n) qs env t j aj qj (by rw [List.getElem?_take_of_lt hj]; exact haj) hqj hd (fun k ak hk hak hdk => by
            have hkn : k < n := by
              have := (List.getElem?_eq_some_iff.1 hak).1
              simp at this
              omega
            rw [List.getElem?_take_of_lt hkn] at hak
            have := K.uniq j k aj ak t hj hkn haj hak hd hdk
            omega)]
          exact hinv.done j qj aj t hj hqj haj (hall' j hj) hd
        · rw [envOf_other (is.take n) qs env t (fun ak hak hdk => by
            obtain ⟨k, hk, rfl⟩ := List.mem_iff_getElem.1 hak
            simp at hk
            exact hex ⟨k, is[k], by omega, List.getElem?_eq_getElem (by omega), by simpa using hdk⟩)]
          exact hinv.other t fun j aj hj haj _ hd => hex ⟨j, aj, hj, haj, hd⟩
      exact tail_any K hc hQ (fuel + 1) n listed (Nat.le_refl _) hs hinv.closed (fun j hj _ => hall' j hj) hinv.tail hcnt hrel hops

/-! ### writings that some reads need not wait for -/
/-- the slots that an operation looks at hold what they hold behind the operations ahead of the writings -/
theorem slot_ok {m tl : Nat} {qs : List QI} {env : Env} {H G : Heap} {L : Nat → Bool} {a : Act} {w : World} {μ : Mu} (K : Look n ops is) (hm : m ≤ n) (hql : qs.length = m) (h : Inv P w0 X0 μ0 n0 m tl ops is qs env H G L a w μ)
    {i : Nat} {ai : AI} {o : Oper} (hi : i < n) (hai : is[i]? = some ai) (ho : ops[i]? = some o) (hready : ∀ d ∈ directs o, L d = true) :
    ∀ t ∈ insSlots ai, Rep w (excl μ G) μ (a.tmps.getD t undef) ((envOf (is.take m) qs env).get t) := by
  intro t ht
  by_cases hex : ∃ (j : Nat) (aj : AI), j < m ∧ is[j]? = some aj ∧ aj.dst = some t
  · obtain ⟨j, aj, hj, haj, hd⟩ := hex
    have hdep := (K.dep i j ai aj o t hi (by omega) hai haj ho ht hd).1
    obtain ⟨qj, hqj⟩ : ∃ q, qs[j]? = some q := ⟨_, List.getElem?_eq_getElem (by omega)⟩
    rw [envOf_at (is.take m) qs env t j aj qj (by rw [List.getElem?_take_of_lt hj]; exact haj) hqj hd (fun k ak hk hak hdk => by
      have hkn : k < m := by
        have := (List.getElem?_eq_some_iff.1 hak).1
        simp at this
        omega
      rw [List.getElem?_take_of_lt hkn] at hak
      have := K.uniq j k aj ak t (by omega) (by omega) haj hak hd hdk
      omega)]
    exact h.done j qj aj t hj hqj haj (hready j hdep) hd
  · rw [envOf_other (is.take m) qs env t (fun ak hak hdk => by
      obtain ⟨k, hk, rfl⟩ := List.mem_iff_getElem.1 hak
      simp at hk
      exact hex ⟨k, is[k], by omega, List.getElem?_eq_getElem (by omega), by simpa using hdk⟩)]
    exact h.other t fun j aj hj haj _ hd => hex ⟨j, aj, hj, haj, hd⟩
/-- at its place in the text an operation sees what it sees behind them all -/
theorem slot_eq {m : Nat} {qs : List QI} {env : Env} (K : Look n ops is) (hm : m ≤ n) (hql : qs.length = m) {i : Nat} {ai : AI} {o : Oper} (hi : i < m) (hai : is[i]? = some ai) (ho : ops[i]? = some o) :
    ∀ t ∈ insSlots ai, (envOf (is.take i) (qs.take i) env).get t = (envOf (is.take m) qs env).get t := by
  intro t ht
  by_cases hex : ∃ (j : Nat) (aj : AI), j < m ∧ is[j]? = some aj ∧ aj.dst = some t
  · obtain ⟨j, aj, hj, haj, hd⟩ := hex
    have hji := (K.dep i j ai aj o t (by omega) (by omega) hai haj ho ht hd).2
    obtain ⟨qj, hqj⟩ : ∃ q, qs[j]? = some q := ⟨_, List.getElem?_eq_getElem (by omega)⟩
    rw [envOf_at (is.take m) qs env t j aj qj (by rw [List.getElem?_take_of_lt hj]; exact haj) hqj hd (fun k ak hk hak hdk => by
      have hkn : k < m := by
        have := (List.getElem?_eq_some_iff.1 hak).1
        simp at this
        omega
      rw [List.getElem?_take_of_lt hkn] at hak
      have := K.uniq j k aj ak t (by omega) (by omega) haj hak hd hdk
      omega)]
    exact envOf_at (is.take i) (qs.take i) env t j aj qj (by rw [List.getElem?_take_of_lt hji]; exact haj) (by rw [List.getElem?_take_of_lt hji]; exact hqj) hd (fun k ak hk hak hdk => by
      have hki : k < i := by
        have := (List.getElem?_eq_some_iff.1 hak).1
        simp at this
        omega
      rw [List.getElem?_take_of_lt hki] at hak
      have := K.uniq j k aj ak t (by omega) (by omega) haj hak hd hdk
      omega)
  · rw [envOf_other (is.take m) qs env t (fun ak hak hdk => by
      obtain ⟨k, hk, rfl⟩ := List.mem_iff_getElem.1 hak
      simp at hk
      exact hex ⟨k, is[k], by omega, List.getElem?_eq_getElem (by omega), by simpa using hdk⟩),
      envOf_other (is.take i) (qs.take i) env t (fun ak hak hdk => by
      obtain ⟨k, hk, rfl⟩ := List.mem_iff_getElem.1 hak
      simp at hk
      exact hex ⟨k, is[k], by omega, List.getElem?_eq_getElem (by omega), by simpa using hdk⟩)]
theorem mem_insSlots {i : AI} {t : Nat} (h : O.s t ∈ i.op.os) : t ∈ insSlots i := by
  simp only [insSlots, List.mem_append, List.mem_filterMap]
  exact .inl ⟨.s t, h, rfl⟩
theorem ev_map {i : AI} {e : Env} {x : O} (h : x ∈ i.op.os) : x.ev ((insSlots i).map fun t => (t, e.get t)) = x.ev e := by
  cases x with
  | c s => rfl
  | s t => simp only [O.ev]; rw [map_get, if_pos (mem_insSlots h)]
theorem aFun_free {op : AOp} (hf : op.free = true) {e : Env} {H H' : Heap} : aFun e H op = aFun e H' op := by
  cases op <;> simp only [AOp.free, Bool.false_eq_true] at hf <;> rfl
theorem QV.late {e : Env} {H : Heap} {nb : Nat} {op : AOp} {s : S} {row : Option Row} (hf : op.free = true ∨ op.reads = true) (h : QV P e H nb op s row) : row = none ∧ aFun e H op = some s := by
  cases h with
  | fn _ _ h => exact ⟨rfl, h⟩
  | _ => rcases hf with hf | hf <;> simp [AOp.free, AOp.reads] at hf

/-- a writing has been carried out -/
theorem Inv.wrote {m tl : Nat} {qs : List QI} {env : Env} {H G G' : Heap} {L L' : Nat → Bool} {a : Act} {w w' : World} {μ μ' : Mu} (h : Inv P w0 X0 μ0 n0 m tl ops is qs env H G L a w μ) {i : Nat} {o : Oper} {v : Value} {s : S} (ho : ops[i]? = some o) (hmi : m ≤ i) (hit : i < tl)
    (hL' : ∀ j, L' j = if j = i then true else L j) (hready : ∀ d ∈ directs o, L d = true) (hrow : ∀ (j : Nat) (q : QI), qs[j]? = some q → L j = false → q.row = none)
    (st : Step w μ G w' μ' G' v s) : Inv P w0 X0 μ0 n0 m tl ops is qs env H G' L' a w' μ' := by
  have keep : ∀ {u : Value} {s : S}, Rep w (excl μ G) μ u s → Rep w' (excl μ' G') μ' u s := fun hr => hr.keeps st.fr.keep.excl (excl_of st.own st.xo) st.ext
  have up : ∀ j, L j = true → L' j = true := fun j hj => by rw [hL']; split <;> simp [hj]
  refine ⟨?_, ?_, h.tmps, h.defers, ?_, ?_, st.heap, ?_, ?_, ?_, fun b l hb => st.ext b l (h.pre b l hb), st.xo.trans h.xo⟩
  · intro j oj hj hjl d hd
    rw [hL'] at hjl
    by_cases hji : j = i
    · subst hji
      rw [ho] at hj
      cases hj
      exact up _ (hready d hd)
    · rw [if_neg hji] at hjl
      exact up _ (h.closed j oj hj hjl d hd)
  · intro k hk
    rw [hL', if_neg (by omega)]
    exact h.tail k hk
  · intro j qj ij t hj hqj hij hjl hd
    rw [hL', if_neg (by omega)] at hjl
    exact keep (h.done j qj ij t hj hqj hij hjl hd)
  · intro t ht
    exact keep (h.other t fun j ij hj hij hjl => ht j ij hj hij (up j hjl))
  · intro j qj hqj hjl hr
    have : L j = false := by
      cases hLj : L j with
      | false => rfl
      | true => rw [up j hLj] at hjl; cases hjl
    rw [hrow j qj hqj this] at hr
    cases hr
  · refine ⟨st.fr.os.trans h.fr.os, st.fr.tape.trans h.fr.tape, st.fr.output.trans h.fr.output, Nat.le_trans h.fr.size st.fr.size, fun k hk hx => ?_⟩
    rw [st.fr.keep k (Nat.lt_of_lt_of_le hk h.fr.size) (fun ho' => by rcases h.own k ho' with h1 | h1; exact hx h1; omega)]
    exact h.fr.keep k hk hx
  · intro k hk
    rcases st.own k hk with h1 | h1
    · exact h.own k h1
    · exact .inr (Nat.le_trans h.fr.size h1)

theorem store_step {m : Nat} {qs : List QI} {env : Env} {H G : Heap} {a : Act} {w : World} {μ : Mu} {listed : Array Bool} (hs : listed.size = ops.size) (K : Look n ops is) (hc : cReg P n0 ops ops.toList = some is) (hm : m ≤ n) (hql : qs.length = m)
    (h : Inv P w0 X0 μ0 n0 m n ops is qs env H G (fun j => listed.getD j false) a w μ) {i sz : Nat} {x v : O} (hi : i < n) (hmi : m ≤ i) (hai : is[i]? = some ⟨none, none, .store sz x v⟩) (hr : i ∈ Region.ready .any ops listed)
    (hrow : ∀ (j : Nat) (q : QI), qs[j]? = some q → listed.getD j false = false → q.row = none) {KV : S → Heap → Prop} (hv : aVal P (envOf (is.take m) qs env) G (.store sz x v) KV) :
    wpOp P ops Q i (fun a' w' => ∃ s G' μ', KV s G' ∧ Inv P w0 X0 μ0 n0 m n ops is qs env H G' (fun j => (listed.setIfInBounds i true).getD j false) a' w' μ') a w := by
  obtain ⟨o, ho, hun, hready⟩ := (ready_iff hs).1 hr
  obtain ⟨hlen, hget⟩ := cReg_get hc
  obtain ⟨ai, hai', hci⟩ := hget i o (by simpa using ho)
  rw [hai] at hai'
  cases hai'
  have hLi : i < listed.size := by rw [hs]; have := K.le; omega
  have hset := setL hLi
  have hsl := slot_ok K hm hql h hi hai ho hready
  have hev : Evs w (excl μ G) μ a.eval ((insSlots ⟨none, none, .store sz x v⟩).map fun t => (t, (envOf (is.take m) qs env).get t)) := evs_of fun t => by
    rw [map_get]
    split
    · exact hsl t (by assumption)
    · exact .dead _
  have hv' : aVal P ((insSlots ⟨none, none, .store sz x v⟩).map fun t => (t, (envOf (is.take m) qs env).get t)) G (.store sz x v) KV := by
    have e1 := ev_map (i := ⟨none, none, .store sz x v⟩) (e := envOf (is.take m) qs env) (x := x) (by simp [AOp.os])
    have e2 := ev_map (i := ⟨none, none, .store sz x v⟩) (e := envOf (is.take m) qs env) (x := v) (by simp [AOp.os])
    simp only [aVal, e1, e2] at hv ⊢
    exact hv
  unfold cIns at hci
  split at hci
  · cases hci
  · rename_i op hop
    split at hci
    · split at hci
      · rename_i hg
        simp only [Option.some.injEq, AI.mk.injEq] at hci
        obtain ⟨hd, _, rfl⟩ := hci
        unfold wpOp
        rw [ho]
        simp only [Region.wanted, hg, if_true]
        refine .inl (Oper.wp_mono ?_ (op_sound h.heap hev hop hv'))
        rintro a' w' ⟨u, s, G', μ', rfl, h1, h2⟩
        refine ⟨s, G', μ', h1, ?_⟩
        rw [hd]
        exact h.wrote ho hmi hi hset hready hrow h2
      · split at hci
        · split at hci
          · simp at hci
          · cases hci
        · cases hci
    · cases hci

/-- what has been looked at where writings stand ahead of the tail -/
structure Early (m n : Nat) (ops : Array Oper) (is : List AI) (Lt : Nat → Prop) : Prop where
  lt : m < n
  st : ∀ k, m ≤ k → k < n → ∃ sz x v, is[k]? = some ⟨none, none, .store sz x v⟩
  chain : ∀ k o, m < k → k < n → ops[k]? = some o → k - 1 ∈ directs o
  aw : ∀ j o, j < m → ¬ Lt j → ops[m]? = some o → ∀ L, Closed ops L → (∀ d ∈ directs o, L d = true) → L j = true
  pl : ∀ j ai, j < m → is[j]? = some ai → Lt j → ai.guard = none ∧ (ai.op.free = true ∨ ai.op.reads = true)
def LateFit (m : Nat) (is : List AI) (Lt : Nat → Prop) (e : Env) (G : Heap) : Prop := ∀ j ai, j < m → is[j]? = some ai → Lt j → ai.op.free = true ∨ ∃ d, ai.dst = some d ∧ aFun e G ai.op = some (e.get d)
/-- the writings, one behind the other, from number k on -/
def StF (P : Program) (m : Nat) (is : List AI) (Lt : Nat → Prop) (K0 : Env → Heap → Prop) : Nat → Nat → Env → Heap → Prop
  | 0, k => aOps P (is.drop k) K0
  | f + 1, k => aOps P ((is.drop k).take 1) fun e G => LateFit m is Lt e G ∧ StF P m is Lt K0 f (k + 1) e G

/-- behind the first writing -/
theorem late_any (K : Looked n ops is) {m : Nat} {Lt : Nat → Prop} (E : Early m n ops is Lt) (hc : cReg P n0 ops ops.toList = some is) (hQ : ∀ a w, Lands w0 X0 μ0 n0 K0 a w → Q .normal a w) {qs : List QI} {env : Env} {H : Heap} (hrun : QRun P (is.take m) qs env H) :
    ∀ (fuel k : Nat) (listed : Array Bool), listed.size = ops.size → listed.toList.countP (fun b => !b) ≤ fuel → m < k → k ≤ n → (∀ j, m ≤ j → j < n → listed.getD j false = decide (j < k)) →
      (∀ j, j < m → ¬ Lt j → listed.getD j false = true) →
    ∀ {G : Heap} {a : Act} {w : World} {μ : Mu}, Inv P w0 X0 μ0 n0 m n ops is qs env H G (fun j => listed.getD j false) a w μ → LateFit m is Lt (envOf (is.take m) qs env) G → StF P m is Lt K0 (n - k) k (envOf (is.take m) qs env) G → wpAny P .any ops Q fuel listed a w := by
  obtain ⟨hlen, hget⟩ := cReg_get hc
  have hisl : is.length = ops.size := by rw [← hlen]; simp
  have hmn := E.lt
  have hql : qs.length = m := by rw [← hrun.len, List.length_take]; have := K.le; omega
  -- what is late yields the same here
  have late : ∀ {G : Heap}, LateFit m is Lt (envOf (is.take m) qs env) G → ∀ (j : Nat) (ai : AI) (o : Oper) (q : QI), j < m → Lt j → is[j]? = some ai → ops[j]? = some o → qs[j]? = some q → ai.guard = none ∧ q.row = none ∧ aFun (envOf (is.take m) qs env) G ai.op = some q.s := by
    intro G hfit j ai o q hj hl hai ho hq
    obtain ⟨h1, h2⟩ := E.pl j ai hj hai hl
    have hok := hrun.at (by rw [List.getElem?_take_of_lt hj]; exact hai) hq
    rw [List.take_take, Nat.min_eq_left (by omega)] at hok
    unfold QOk at hok
    rw [h1] at hok
    obtain ⟨g1, g2⟩ := hok.2.late h2
    refine ⟨h1, g1, ?_⟩
    rcases hfit j ai hj hai hl with h3 | ⟨d, hd, h4⟩
    · rw [aFun_free h3 (H' := G)] at g2
      refine aFun_congr (fun _ _ h => h) ai.op (fun x hx => ?_) g2
      cases x with
      | c s => rfl
      | s t => exact slot_eq K.toLook (by omega) hql hj hai ho t (mem_insSlots hx)
    · rw [h4, envOf_at (is.take m) qs env d j ai q (by rw [List.getElem?_take_of_lt hj]; exact hai) hq hd (fun k ak hk hak hdk => by
        have hkn : k < m := by
          have := (List.getElem?_eq_some_iff.1 hak).1
          simp at this
          omega
        rw [List.getElem?_take_of_lt hkn] at hak
        have := K.uniq j k ai ak d (by omega) (by omega) hai hak hd hdk
        omega)]
  have rowless : ∀ {G : Heap}, LateFit m is Lt (envOf (is.take m) qs env) G → ∀ {listed : Array Bool}, (∀ j, j < m → ¬ Lt j → listed.getD j false = true) → ∀ (j : Nat) (q : QI), qs[j]? = some q → listed.getD j false = false → q.row = none := by
    intro G hfit listed hl j q hq hj
    have hjm : j < m := by have := (List.getElem?_eq_some_iff.1 hq).1; omega
    have hjN : j < ops.size := by have := K.le; omega
    by_cases hLt : Lt j
    · exact (late hfit j is[j] ops[j] q hjm hLt (List.getElem?_eq_getElem (by omega)) (Array.getElem?_eq_getElem hjN) hq).2.1
    · rw [hl j hjm hLt] at hj; cases hj
  have fin : ∀ {fuel k : Nat} {listed : Array Bool} {G : Heap} {a : Act} {w : World} {μ : Mu}, listed.size = ops.size → listed.toList.countP (fun b => !b) ≤ fuel → k ≤ n → (∀ j, m ≤ j → j < n → listed.getD j false = decide (j < k)) → (∀ j, j < n → listed.getD j false = true) →
      Inv P w0 X0 μ0 n0 m n ops is qs env H G (fun j => listed.getD j false) a w μ → StF P m is Lt K0 (n - k) k (envOf (is.take m) qs env) G → wpAny P .any ops Q fuel listed a w := by
    intro fuel k listed G a w μ hs hcnt hkn hst hall hinv hops
    have hk : k = n := by
      rcases Nat.lt_or_ge k n with h | h
      · have h1 := hall k h
        by_cases hmk : m ≤ k
        · rw [hst k hmk h] at h1; simp at h1
        · have h2 := hst m (Nat.le_refl _) hmn
          rw [hall m hmn] at h2
          simp at h2
          omega
      · omega
    subst hk
    rw [Nat.sub_self] at hops
    have hops : aOps P (is.drop k) K0 (envOf (is.take m) qs env) G := hops
    have hrel : Rel w0 X0 μ0 n0 (envOf (is.take m) qs env) G a w μ := by
      refine ⟨hinv.tmps, hinv.defers, fun t => ?_, hinv.heap, hinv.fr, hinv.own, hinv.pre, hinv.xo⟩
      by_cases hex : ∃ (j : Nat) (aj : AI), j < m ∧ is[j]? = some aj ∧ aj.dst = some t
      · obtain ⟨j, aj, hj, haj, hd⟩ := hex
        obtain ⟨qj, hqj⟩ : ∃ q, qs[j]? = some q := ⟨_, List.getElem?_eq_getElem (by omega)⟩
        rw [envOf_at (is.take m) qs env t j aj qj (by rw [List.getElem?_take_of_lt hj]; exact haj) hqj hd (fun k ak hk hak hdk => by
          have hkn : k < m := by
            have := (List.getElem?_eq_some_iff.1 hak).1
            simp at this
            omega
          rw [List.getElem?_take_of_lt hkn] at hak
          have := K.uniq j k aj ak t (by omega) (by omega) haj hak hd hdk
          omega)]
        exact hinv.done j qj aj t hj hqj haj (hall j (by omega)) hd
      · rw [envOf_other (is.take m) qs env t (fun ak hak hdk => by
          obtain ⟨k, hk, rfl⟩ := List.mem_iff_getElem.1 hak
          simp at hk
          exact hex ⟨k, is[k], by omega, List.getElem?_eq_getElem (by omega), by simpa using hdk⟩)]
        exact hinv.other t fun j aj hj haj _ hd => hex ⟨j, aj, hj, haj, hd⟩
    exact tail_any K hc hQ fuel k listed (Nat.le_refl _) hs hinv.closed (fun j hj _ => hall j hj) hinv.tail hcnt hrel hops
  intro fuel
  induction fuel with
  | zero =>
    intro k listed hs hcnt hmk hkn hst hlt G a w μ hinv hfit hops
    have hall := count_zero (Nat.le_zero.1 hcnt)
    exact fin hs hcnt hkn hst (fun j hj => hall j (by have := K.le; omega)) hinv hops
  | succ fuel ih =>
    intro k listed hs hcnt hmk hkn hst hlt G a w μ hinv hfit hops
    by_cases hex : ∃ j, j < n ∧ listed.getD j false = false
    · obtain ⟨j, hj, hjl, hready⟩ := K.ready hs hinv.closed hex
      refine ⟨(fun h => by rw [h] at hready; cases hready), fun i hi => ?_⟩
      obtain ⟨o, ho, h1, h2⟩ := (ready_iff hs).1 hi
      have hiN := (Array.getElem?_eq_some_iff.1 ho).1
      have hin : i < n := by
        rcases Nat.lt_or_ge i n with h | h
        · exact h
        · have := K.full i j o h (by omega) ho _ hinv.closed h2
          rw [hjl] at this
          cases this
      have hset := setL (listed := listed) (i := i) (by omega)
      have hcnt' : (listed.setIfInBounds i true).toList.countP (fun b => !b) ≤ fuel := by
        have := count_set (listed := listed) (i := i) (by omega) h1
        omega
      have hlt' : ∀ j, j < m → ¬ Lt j → (listed.setIfInBounds i true).getD j false = true := fun j hj hl => by
        rw [hset]
        split
        · rfl
        · exact hlt j hj hl
      rcases Nat.lt_or_ge i m with him | him
      · -- a late one
        have hLt : Lt i := Classical.byContradiction fun hl => by rw [hlt i him hl] at h1; cases h1
        obtain ⟨q, hq⟩ : ∃ q, qs[i]? = some q := ⟨_, List.getElem?_eq_getElem (by omega)⟩
        obtain ⟨ai, hai, hci⟩ := hget i o (by simpa using ho)
        obtain ⟨g1, g2, g3⟩ := late hfit i ai o q him hLt hai ho hq
        have hsl := slot_ok K.toLook (by omega) hql hinv hin hai ho h2
        have hev : Evs w (excl μ G) μ a.eval ((insSlots ai).map fun t => (t, (envOf (is.take m) qs env).get t)) := evs_of fun t => by
          rw [map_get]
          split
          · exact hsl t (by assumption)
          · exact .dead _
        have g4 : aFun ((insSlots ai).map fun t => (t, (envOf (is.take m) qs env).get t)) G ai.op = some q.s := aFun_congr (fun _ _ h => h) ai.op (fun x hx => (ev_map hx).symm) g3
        unfold cIns at hci
        split at hci
        · cases hci
        · rename_i op hop
          split at hci
          · rename_i hd
            split at hci
            · rename_i hg
              cases hci
              obtain ⟨v, h3, h4⟩ := fun_sound (P := P) hinv.heap (fun _ _ _ => rfl) hev hop g4
              unfold wpOp
              rw [ho]
              simp only [Region.wanted, hg, if_true]
              refine .inl ?_
              unfold Oper.wp
              rw [h3]
              refine ih k _ (by simpa using hs) hcnt' hmk hkn (fun j hj hjn => ?_) hlt' (hinv.next (K.toLook.less (by omega)) him hin hai hq ho hset h1 h2 hd (Step.same hinv.heap h4) (fun _ _ => rfl)) hfit hops
              rw [hset, if_neg (by omega)]
              exact hst j hj hjn
            · split at hci
              · split at hci
                · cases hci; cases g1
                · cases hci
              · cases hci
          · cases hci
      · -- the next writing
        have hik : i = k := by
          rcases Nat.lt_trichotomy i k with h | h | h
          · rw [hst i him hin] at h1; simp at h1; omega
          · exact h
          · have h3 := h2 _ (E.chain i o (by omega) hin ho)
            rw [hst (i - 1) (by omega) (by omega)] at h3
            simp at h3
            omega
        subst hik
        obtain ⟨sz, x, v, hai⟩ := E.st i him hin
        have hdrop : (is.drop i).take 1 = [⟨none, none, .store sz x v⟩] := by
          have hkl := (List.getElem?_eq_some_iff.1 hai).1
          rw [List.drop_eq_getElem_cons hkl, List.take_succ_cons, List.take_zero]
          congr 1
          exact (List.getElem?_eq_some_iff.1 hai).2
        rw [show n - i = (n - (i + 1)) + 1 by omega, StF, hdrop] at hops
        have hops' : aVal P (envOf (is.take m) qs env) G (.store sz x v) fun _ G' => LateFit m is Lt (envOf (is.take m) qs env) G' ∧ StF P m is Lt K0 (n - (i + 1)) (i + 1) (envOf (is.take m) qs env) G' := hops
        refine wpOp_mono ?_ (store_step hs K.toLook hc (by omega) hql hinv hin him hai hi (rowless hfit hlt) hops')
        rintro a' w' ⟨s, G', μ', ⟨h3, h3'⟩, h4⟩
        refine ih (i + 1) _ (by simpa using hs) hcnt' (by omega) (by omega) (fun j hj hjn => ?_) hlt' h4 h3 h3'
        rw [hset]
        split
        · rename_i h; subst h; simp
        · rw [hst j hj hjn, decide_eq_decide]; omega
    · exact fin hs hcnt hkn hst (fun j hj => by
        cases h : listed.getD j false with
        | true => rfl
        | false => exact absurd ⟨j, hj, h⟩ hex) hinv hops

/-- ahead of the first writing -/
theorem early_any (K : Looked n ops is) {m : Nat} {Lt : Nat → Prop} (E : Early m n ops is Lt) (hc : cReg P n0 ops ops.toList = some is) (hQ : ∀ a w, Lands w0 X0 μ0 n0 K0 a w → Q .normal a w) {qs : List QI} {env : Env} {H : Heap} (hrun : QRun P (is.take m) qs env H)
    (hops : StF P m is Lt K0 (n - m) m (envOf (is.take m) qs env) (heapOf qs H)) : ∀ (fuel : Nat) (listed : Array Bool), listed.size = ops.size → listed.toList.countP (fun b => !b) ≤ fuel →
    ∀ {a : Act} {w : World} {μ : Mu}, Inv P w0 X0 μ0 n0 m m ops is qs env H (heapL qs H fun j => listed.getD j false) (fun j => listed.getD j false) a w μ → wpAny P .any ops Q fuel listed a w := by
  obtain ⟨hlen, hget⟩ := cReg_get hc
  have hisl : is.length = ops.size := by rw [← hlen]; simp
  have hmn := E.lt
  have hql : qs.length = m := by rw [← hrun.len, List.length_take]; have := K.le; omega
  intro fuel
  induction fuel with
  | zero =>
    intro listed hs hcnt a w μ hinv
    have h1 := hinv.tail m (Nat.le_refl _)
    rw [count_zero (Nat.le_zero.1 hcnt) m (by have := K.le; omega)] at h1
    cases h1
  | succ fuel ih =>
    intro listed hs hcnt a w μ hinv
    have hex : ∃ j, j < n ∧ listed.getD j false = false := ⟨m, hmn, hinv.tail m (Nat.le_refl _)⟩
    obtain ⟨j, hj, hjl, hready⟩ := K.ready hs hinv.closed hex
    refine ⟨(fun h => by rw [h] at hready; cases hready), fun i hi => ?_⟩
    obtain ⟨o, ho, h1, h2⟩ := (ready_iff hs).1 hi
    have hiN := (Array.getElem?_eq_some_iff.1 ho).1
    have hin : i < n := by
      rcases Nat.lt_or_ge i n with h | h
      · exact h
      · have := K.full i j o h (by omega) ho _ hinv.closed h2
        rw [hjl] at this
        cases this
    have hset := setL (listed := listed) (i := i) (by omega)
    have hcnt' : (listed.setIfInBounds i true).toList.countP (fun b => !b) ≤ fuel := by
      have := count_set (listed := listed) (i := i) (by omega) h1
      omega
    rcases Nat.lt_or_ge i m with him | him
    · refine wpOp_mono ?_ (inv_step (K.toLook.less (by omega)) hc hrun hs hinv him hi)
      rintro a' w' ⟨μ', h3⟩
      exact ih _ (by simpa using hs) hcnt' h3
    · have hik : i = m := by
        rcases Nat.lt_or_ge m i with h | h
        · have h3 := h2 _ (E.chain i o h hin ho)
          rw [hinv.tail (i - 1) (by omega)] at h3
          cases h3
        · omega
      subst hik
      have hlt : ∀ j, j < i → ¬ Lt j → listed.getD j false = true := fun j hj hl => E.aw j o hj hl ho _ hinv.closed h2
      have hrow : ∀ (j : Nat) (q : QI), qs[j]? = some q → listed.getD j false = false → q.row = none := by
        intro j q hq hjf
        have hjm : j < i := by have := (List.getElem?_eq_some_iff.1 hq).1; omega
        by_cases hLt : Lt j
        · have hai : is[j]? = some is[j] := List.getElem?_eq_getElem (by omega)
          obtain ⟨g1, g2⟩ := E.pl j _ hjm hai hLt
          have hok := hrun.at (by rw [List.getElem?_take_of_lt hjm]; exact hai) hq
          unfold QOk at hok
          rw [g1] at hok
          exact (hok.2.late g2).1
        · rw [hlt j hjm hLt] at hjf; cases hjf
      have hheap : heapL qs H (fun j => listed.getD j false) = heapOf qs H := by
        apply List.ext_getElem?
        intro b
        refine heapL_of ?_
        cases hda : deadAt qs H (fun j => listed.getD j false) b with
        | false => rfl
        | true =>
          obtain ⟨j, q, g1, g2, g3, _⟩ := deadAt_true hda
          rw [hrow j q g1 g2] at g3
          cases g3
      rw [hheap] at hinv
      have hinv' : Inv P w0 X0 μ0 n0 i n ops is qs env H (heapOf qs H) (fun j => listed.getD j false) a w μ :=
        ⟨hinv.closed, fun k hk => hinv.tail k (by omega), hinv.tmps, hinv.defers, hinv.done, hinv.other, hinv.heap, hinv.unl, hinv.fr, hinv.own, hinv.pre, hinv.xo⟩
      obtain ⟨sz, x, v, hai⟩ := E.st i (Nat.le_refl _) hin
      have hdrop : (is.drop i).take 1 = [⟨none, none, .store sz x v⟩] := by
        have hkl := (List.getElem?_eq_some_iff.1 hai).1
        rw [List.drop_eq_getElem_cons hkl, List.take_succ_cons, List.take_zero]
        congr 1
        exact (List.getElem?_eq_some_iff.1 hai).2
      rw [show n - i = (n - (i + 1)) + 1 by omega, StF, hdrop] at hops
      refine wpOp_mono ?_ (store_step hs K.toLook hc (by omega) hql hinv' hin (Nat.le_refl _) hai hi hrow (KV := fun _ G => LateFit i is Lt (envOf (is.take i) qs env) G ∧ StF P i is Lt K0 (n - (i + 1)) (i + 1) (envOf (is.take i) qs env) G) hops)
      rintro a' w' ⟨s, G', μ', ⟨h3, h4⟩, h5⟩
      refine late_any K E hc hQ hrun fuel (i + 1) _ (by simpa using hs) hcnt' (by omega) (by omega) (fun j hj hjn => ?_) (fun j hj hl => ?_) h5 h3 h4
      · rw [hset]
        split
        · rename_i h; subst h; simp
        · rw [hinv.tail j hj]; symm; rw [decide_eq_false_iff_not]; omega
      · rw [hset]
        split
        · rfl
        · exact hlt j hj hl
end

/-- nothing has been carried out yet -/
theorem inv_start {P : Program} {w0 : World} {X0 : Nat → Prop} {μ0 : Mu} {n k : Nat} {ops : Array Oper} {is : List AI} {env : Env} {H : Heap} {a : Act} {w : World} {μ : Mu} (hrel : Rel w0 X0 μ0 n env H a w μ) (qs : List QI) :
    Inv P w0 X0 μ0 n k k ops is qs env H (heapL qs H fun j => (Array.replicate ops.size false).getD j false) (fun j => (Array.replicate ops.size false).getD j false) a w.drew μ := by
  have hfalse : ∀ j, (Array.replicate ops.size false).getD j false = false := by
    intro j
    simp only [Array.getD_eq_getD_getElem?, Array.getElem?_replicate]
    split <;> rfl
  have hk : Keeps (excl μ H) w w.drew := Keeps.drew _ _
  obtain ⟨R, hR, _⟩ := heapOf_append qs H
  have old : ∀ (b : Nat) (r : Row), (heapL qs H fun j => (Array.replicate ops.size false).getD j false)[b]? = some r → r.st ≠ .dead → H[b]? = some r := by
    intro b r hb hd
    obtain ⟨h1, h2⟩ := heapL_alive hb hd
    rcases Nat.lt_or_ge b H.length with h | h
    · rw [hR, List.getElem?_append_left h] at h2
      exact h2
    · -- a row of an operation that has not been carried out
      exfalso
      have : ∀ (qs : List QI) (H : Heap) (b : Nat) (r : Row), H.length ≤ b → (heapOf qs H)[b]? = some r → ∃ j q, qs[j]? = some q ∧ q.row.isSome = true ∧ nameAt qs H j = b := by
        intro qs
        induction qs with
        | nil =>
          intro H b r hb hr
          simp only [heapOf] at hr
          have := (List.getElem?_eq_some_iff.1 hr).1
          omega
        | cons q qs ih =>
          intro H b r hb hr
          simp only [heapOf] at hr
          rcases Nat.lt_or_ge b (H ++ q.row.toList).length with h | h
          · refine ⟨0, q, rfl, ?_, ?_⟩
            · cases hq : q.row with
              | none => rw [hq] at h; simp at h; omega
              | some _ => rfl
            · cases hq : q.row with
              | none => rw [hq] at h; simp at h; omega
              | some _ => rw [hq] at h; simp at h; simp [nameAt, heapOf]; omega
          · obtain ⟨j, q', g1, g2, g3⟩ := ih _ b r h hr
            exact ⟨j + 1, q', by simpa using g1, g2, by simpa [nameAt, heapOf] using g3⟩
      obtain ⟨j, q, g1, g2, g3⟩ := this qs H b r h h2
      rw [← g3, deadAt_of g1 (hfalse j) g2] at h1
      cases h1
  have ho : ∀ k, owned μ (heapL qs H fun j => (Array.replicate ops.size false).getD j false) k → owned μ H k := by
    rintro k ⟨b, r, l, hb, hst, hl, hv, rfl⟩
    exact ⟨b, r, l, old b r hb (by rw [hst]; decide), hst, hl, hv, rfl⟩
  have keep : ∀ {u : Value} {s : S}, Rep w (excl μ H) μ u s → Rep w.drew (excl μ (heapL qs H fun j => (Array.replicate ops.size false).getD j false)) μ u s :=
    fun h => h.keeps hk (fun k hk' => .inl (hk'.imp (ho k) id)) (fun _ _ h => h)
  refine ⟨fun i o _ hL => ?_, fun k _ => hfalse k, hrel.tmps, hrel.defers, fun j q i t _ _ _ hL _ => ?_, fun t _ => keep (hrel.env t), ?_, fun j q hj _ hr => ?_, ?_, fun k hk' => hrel.own k (ho k hk'), hrel.pre, hrel.xo⟩
  · simp only [hfalse] at hL; cases hL
  · simp only [hfalse] at hL; cases hL
  · refine hrel.heap.drew.alter (Keeps.drew _ _) (fun k hk' => .inl (ho k hk')) (fun _ _ h => h) rfl (Nat.le_refl _) ?_ (fun b r l hb hd hl => .inr ⟨old b r hb hd, hl, fun _ _ => rfl⟩) ?_
    · intro b l hb
      rw [heapL_len, hR, List.length_append]
      have := hrel.heap.dom b l hb
      omega
    · intro b b' r r' l l' hb hb' hst hst' hl hl' hv hv' heq
      exact hrel.heap.inj b b' r r' l l' (old b r hb (by rw [hst]; decide)) (old b' r' hb' (by rw [hst']; decide)) hst hst' hl hl' hv hv' heq
  · cases hn : μ (nameAt qs H j) with
    | none => rfl
    | some l =>
      have := hrel.heap.dom _ l hn
      have := nameAt_ge (qs := qs) (H := H) j
      omega
  · exact ⟨hrel.fr.os, hrel.fr.tape, hrel.fr.output, hrel.fr.size, fun k hk' hx => hrel.fr.keep k hk' hx⟩

theorem coreLen_le (is : List AI) : ∀ n, coreLen is n ≤ n
  | 0 => Nat.le_refl _
  | n + 1 => by
    rw [coreLen]
    split
    · have := coreLen_le is n; omega
    · exact Nat.le_refl _
theorem coreLen_st (is : List AI) : ∀ n k, coreLen is n ≤ k → k < n → isStore (is.getD k default) = true
  | 0, k, _, h => by omega
  | n + 1, k, h1, h2 => by
    rw [coreLen] at h1
    split at h1
    · rename_i hst
      by_cases hk : k = n
      · subst hk; exact hst
      · exact coreLen_st is n k h1 (by omega)
    · omega
theorem isStore_inv {i : AI} (h : isStore i = true) : ∃ sz x v, i = ⟨none, none, .store sz x v⟩ := by
  unfold isStore at h
  split at h
  · exact ⟨_, _, _, rfl⟩
  · cases h
theorem lateOk_mem {e : Env} {H : Heap} : ∀ {l : List AI}, lateOk l e H → ∀ i ∈ l, ∃ d, i.dst = some d ∧ aFun e H i.op = some (e.get d)
  | [], _, i, hi => by cases hi
  | x :: r, h, i, hi => by
    obtain ⟨h1, h2⟩ := h
    rcases List.mem_cons.1 hi with rfl | hi
    · split at h1
      · rename_i d hd; exact ⟨d, hd, h1⟩
      · exact h1.elim
    · exact lateOk_mem h2 i hi
theorem early_of {ops : Array Oper} {is : List AI} {n : Nat} (hisl : is.length = ops.size) (K : Looked n ops is) (hne : coreLen is n ≠ n) (hf : lateFine ops is (coreLen is n) n = true) : Early (coreLen is n) n ops is (fun j => j ∈ notAwaited ops (coreLen is n)) := by
  have hle := coreLen_le is n
  have hn := K.le
  obtain ⟨h1, h2⟩ := Bool.and_eq_true_iff.1 hf
  simp only [List.all_eq_true, Bool.and_eq_true, beq_iff_eq, Bool.or_eq_true, List.mem_range, decide_eq_true_eq, List.contains_iff_mem] at h1 h2
  refine ⟨by omega, fun k hk hkn => ?_, fun k o hk hkn ho => ?_, fun j o hj hl ho L hL hd => ?_, fun j ai hj hai hl => ?_⟩
  · obtain ⟨sz, x, v, h⟩ := isStore_inv (coreLen_st is n k hk hkn)
    refine ⟨sz, x, v, ?_⟩
    rw [← h, List.getD_eq_getElem?_getD, List.getElem?_eq_getElem (by omega)]
    rfl
  · rcases h2 k hkn with h | h
    · omega
    · rwa [show ops.getD k default = o by simp [Array.getD_eq_getD_getElem?, ho]] at h
  · have hA : j ∈ (ancs ops.toList []).getD (coreLen is n) [] := by
      refine Classical.byContradiction fun hc => hl ?_
      simp only [notAwaited, List.mem_filter, List.mem_range, Bool.not_eq_true', List.contains_eq_mem, decide_eq_false_iff_not]
      exact ⟨hj, hc⟩
    cases hA' : (ancs ops.toList [])[coreLen is n]? with
    | none => rw [List.getD_eq_getElem?_getD, hA'] at hA; simp at hA
    | some A =>
      rw [List.getD_eq_getElem?_getD, hA'] at hA
      exact ancs_sound ops ops.toList [] (fun j => by simp) (fun i A h => by simp at h) _ A hA' L hL o ho hd j hA
  · have := h1 j hl
    rw [show is.getD j default = ai by simp [List.getD_eq_getElem?_getD, hai]] at this
    exact ⟨this.1, this.2.imp id (·.1)⟩

theorem aOps_append {P : Program} {K : Env → Heap → Prop} : ∀ (a b : List AI), aOps P (a ++ b) K = aOps P a (aOps P b K)
  | [], _ => rfl
  | i :: a, b => by
    show aIns P i (aOps P (a ++ b) K) = aIns P i (aOps P a (aOps P b K))
    rw [aOps_append a b]
theorem store_mono {P : Program} {K K' : Env → Heap → Prop} (hK : ∀ e h, K e h → K' e h) {i : AI} (hi : isStore i = true) {e : Env} {H : Heap} (h : aOps P [i] K e H) : aOps P [i] K' e H := by
  obtain ⟨sz, x, v, rfl⟩ := isStore_inv hi
  have h' : aVal P e H (.store sz x v) fun _ H' => K e H' := h
  show aVal P e H (.store sz x v) fun _ H' => K' e H'
  simp only [aVal] at h' ⊢
  split at h'
  · rename_i heq
    split at h'
    · rename_i hb
      obtain ⟨g1, g2⟩ := h'
      split at g2
      · rename_i he
        try simp only [heq, hb, he]
        exact ⟨g1, g2.1, g2.2.1, g2.2.2.1, hK _ _ g2.2.2.2⟩
      · exact g2.elim
    · exact h'.elim
  · exact h'.elim

theorem stF_free {P : Program} {m : Nat} {is : List AI} {Lt : Nat → Prop} {K0 : Env → Heap → Prop} (hL : ∀ e G, LateFit m is Lt e G) : ∀ (f k : Nat), (∀ j, k ≤ j → j < k + f → isStore (is.getD j default) = true) → k + f ≤ is.length → ∀ {e : Env} {G : Heap}, aOps P (is.drop k) K0 e G → StF P m is Lt K0 f k e G
  | 0, _, _, _, _, _, h => h
  | f + 1, k, hs, hl, e, G, h => by
    have hdrop : is.drop k = [is.getD k default] ++ is.drop (k + 1) := by
      rw [List.drop_eq_getElem_cons (by omega), List.getD_eq_getElem?_getD, List.getElem?_eq_getElem (by omega)]
      rfl
    have ht : (is.drop k).take 1 = [is.getD k default] := by rw [hdrop]; rfl
    rw [hdrop, aOps_append] at h
    rw [StF, ht]
    exact store_mono (fun e h hh => ⟨hL e h, stF_free hL f (k + 1) (fun j h1 h2 => hs j (by omega) (by omega)) (by omega) hh⟩) (hs k (Nat.le_refl _) (by omega)) h
theorem stF_late {P : Program} {m : Nat} {is lates : List AI} {Lt : Nat → Prop} {K0 : Env → Heap → Prop} (hL : ∀ e G, lateOk lates e G → LateFit m is Lt e G) : ∀ (f k : Nat), (∀ j, k ≤ j → j < k + f → isStore (is.getD j default) = true) → k + f = is.length → ∀ {e : Env} {G : Heap}, stK P lates (is.drop k) K0 e G → StF P m is Lt K0 f k e G
  | 0, k, _, hl, e, G, h => by
    have : is.drop k = [] := List.drop_eq_nil_of_le (by omega)
    rw [this] at h
    rw [StF, this]
    exact h
  | f + 1, k, hs, hl, e, G, h => by
    have hdrop : is.drop k = is.getD k default :: is.drop (k + 1) := by
      rw [List.drop_eq_getElem_cons (by omega), List.getD_eq_getElem?_getD, List.getElem?_eq_getElem (by omega)]
      rfl
    have ht : (is.drop k).take 1 = [is.getD k default] := by rw [hdrop]; rfl
    rw [hdrop, stK] at h
    rw [StF, ht]
    exact store_mono (fun e h hh => ⟨hL e h hh.1, stF_late hL f (k + 1) (fun j h1 h2 => hs j (by omega) (by omega)) (by omega) hh.2⟩) (hs k (Nat.le_refl _) (by omega)) h

theorem reg1 (ops : Array Oper) (is : List AI) (ac : AC) (h : RC1 ops is = some ac) : ac.isReg = true := by
  unfold RC1 at h
  split at h
  · cases h
  · split at h
    · cases h; rfl
    · split at h
      · split at h
        · cases h; rfl
        · split at h
          · cases h; rfl
          · cases h
      · cases h
theorem regAny {P : Program} {w0 : World} {X0 : Nat → Prop} {μ0 : Mu} {n : Nat} {ops : Array Oper} {is : List AI} {ac : AC} {K : Env → Heap → Prop} {Q : Exit → Act → World → Prop} {env : Env} {H : Heap} {a : Act} {w : World} {μ : Mu}
    (hQ : ∀ a w, Lands w0 X0 μ0 n K a w → Q .normal a w) (hc : cReg P n ops ops.toList = some is) (hr : RC1 ops is = some ac) (hrel : Rel w0 X0 μ0 n env H a w μ) (hq : RQs P ac K env H) :
    wpAny P .any ops Q ops.size (Array.replicate ops.size false) a { w with drawn := w.drawn + 1 } := by
  obtain ⟨hlen, _⟩ := cReg_get hc
  have hisl : is.length = ops.size := by rw [← hlen]; simp
  unfold RC1 at hr
  split at hr
  · cases hr
  rename_i k hk
  have L := regC_looked hisl hk
  have hle := coreLen_le is k
  split at hr
  · cases hr
    obtain ⟨qs, hrun, hops⟩ := aQs_inv (is.take k) hq
    exact prefix_any L hc hQ hrun hops ops.size _ (by simp) (by simp [List.countP_replicate]) (μ := μ) (inv_start hrel qs)
  · rename_i hne
    split at hr
    · rename_i hf
      have E := early_of hisl L hne hf
      have hcl : coreLen is k < is.length := by have := L.le; have := E.lt; omega
      have memLate : ∀ (j : Nat) (ai : AI), is[j]? = some ai → j ∈ notAwaited ops (coreLen is k) → ai.op.free = false → ai ∈ lateOps ops is (coreLen is k) := by
        intro j ai hai hl hfr
        have hg : is.getD j default = ai := by simp [List.getD_eq_getElem?_getD, hai]
        simp only [lateOps, List.mem_map, List.mem_filter, Bool.not_eq_true']
        exact ⟨j, ⟨hl, by rw [hg]; exact hfr⟩, hg⟩
      split at hr
      · rename_i hemp
        cases hr
        obtain ⟨qs, hrun, hops⟩ := aQs_inv (is.take (coreLen is k)) hq
        refine early_any L E hc hQ hrun (qs := qs) (env := env) (H := H) ?_ ops.size _ (by simp) (by simp [List.countP_replicate]) (μ := μ) (inv_start hrel qs)
        refine stF_free (fun e G j ai hj hai hl => ?_) _ _ (fun j h1 h2 => coreLen_st is k j h1 (by omega)) (by have := L.le; omega) hops
        cases hfr : ai.op.free with
        | true => exact .inl rfl
        | false =>
          have := memLate j ai hai hl hfr
          rw [List.isEmpty_iff.1 hemp] at this
          cases this
      · split at hr
        · rename_i hk1
          cases hr
          obtain ⟨qs, hrun, hops⟩ := aQs_inv (is.take (coreLen is k)) hq
          refine early_any L E hc hQ hrun (qs := qs) (env := env) (H := H) ?_ ops.size _ (by simp) (by simp [List.countP_replicate]) (μ := μ) (inv_start hrel qs)
          have h1 : (is.drop (coreLen is k)).take 1 = [is.getD (coreLen is k) default] := by
            rw [List.drop_eq_getElem_cons hcl, List.take_succ_cons, List.take_zero, List.getD_eq_getElem?_getD, List.getElem?_eq_getElem hcl]
            rfl
          have h2 : k - coreLen is k = 1 := by omega
          rw [h2, StF, h1]
          refine store_mono (fun e h hh => ⟨fun j ai hj hai hl => ?_, by rw [← hk1]; exact hh.2⟩) (coreLen_st is k _ (Nat.le_refl _) E.lt) hops
          cases hfr : ai.op.free with
          | true => exact .inl rfl
          | false => exact .inr (lateOk_mem hh.1 ai (memLate j ai hai hl hfr))
        · cases hr
    · cases hr

theorem regP_looked {ops : Array Oper} {is : List AI} {l : List Nat} (_ : is.length = ops.size) (h : regP ops is l = true) : Looked ops.size ops is := by
  simp only [regP, Bool.and_eq_true, List.all_eq_true, List.mem_range, decide_eq_true_eq, Bool.or_eq_true, bne_iff_ne, ne_eq, beq_iff_eq, List.contains_iff_mem] at h
  obtain ⟨h1, h2, h3⟩ := h
  have hg : ∀ {j : Nat} {ai : AI}, is[j]? = some ai → is.getD j default = ai := fun h => by simp [List.getD_eq_getElem?_getD, h]
  have ho : ∀ {j : Nat} {o : Oper}, ops[j]? = some o → ops.getD j default = o := fun h => by simp [Array.getD_eq_getD_getElem?, h]
  refine ⟨⟨⟨fun i => l.getD i 0, fun i o hi d hd => ?_⟩, fun i j ai aj o t hi hj hai haj hoi ht hd => ?_, fun j k aj ak t hj hk haj hak hd1 hd2 => ?_, Nat.le_refl _⟩, fun k o hk hok => ?_, fun k j o hk hj hok => ?_⟩
  · exact h1 i (Array.getElem?_eq_some_iff.1 hi).1 d (by rw [ho hi]; exact hd)
  · rcases h2 i hi t (by rw [hg hai]; exact ht) j hj with h | h
    · rw [hg haj] at h; exact absurd hd h
    · rw [ho hoi] at h; exact h
  · rcases h3 j hj k hk with (h | h) | h
    · exact h
    · rw [hg haj, hd1] at h; cases h
    · rw [hg haj, hg hak, hd1, hd2] at h; exact absurd rfl h
  · have := (Array.getElem?_eq_some_iff.1 hok).1; omega
  · have := (Array.getElem?_eq_some_iff.1 hok).1; omega
theorem regAny3 {P : Program} {w0 : World} {X0 : Nat → Prop} {μ0 : Mu} {n : Nat} {ops : Array Oper} {is : List AI} {l : List Nat} {ac : AC} {K : Env → Heap → Prop} {Q : Exit → Act → World → Prop} {env : Env} {H : Heap} {a : Act} {w : World} {μ : Mu}
    (hQ : ∀ a w, Lands w0 X0 μ0 n K a w → Q .normal a w) (hc : cReg P n ops ops.toList = some is) (hr : RC3 ops is l = some ac) (hrel : Rel w0 X0 μ0 n env H a w μ) (hq : RQs P ac K env H) :
    wpAny P .any ops Q ops.size (Array.replicate ops.size false) a { w with drawn := w.drawn + 1 } := by
  obtain ⟨hlen, _⟩ := cReg_get hc
  have hisl : is.length = ops.size := by rw [← hlen]; simp
  unfold RC3 at hr
  split at hr
  · rename_i hh
    obtain ⟨hp, hne, hf⟩ := hh
    cases hr
    have L := regP_looked hisl hp
    have E := early_of hisl L hne hf
    have hle := coreLen_le is ops.size
    obtain ⟨qs, hrun, hops⟩ := aQs_inv (is.take (coreLen is ops.size)) hq
    refine early_any L E hc hQ hrun (qs := qs) (env := env) (H := H) ?_ ops.size _ (by simp) (by simp [List.countP_replicate]) (μ := μ) (inv_start hrel qs)
    refine stF_late (lates := lateOps ops is (coreLen is ops.size)) (fun e G hlo j ai hj hai hl => ?_) _ _ (fun j h1 h2 => coreLen_st is ops.size j h1 (by omega)) (by omega) hops
    cases hfr : ai.op.free with
    | true => exact .inl rfl
    | false =>
      have hg : is.getD j default = ai := by simp [List.getD_eq_getElem?_getD, hai]
      refine .inr (lateOk_mem hlo ai ?_)
      simp only [lateOps, List.mem_map, List.mem_filter, Bool.not_eq_true']
      exact ⟨j, ⟨hl, by rw [hg]; exact hfr⟩, hg⟩
  · cases hr

/-! ### the same operations, told in another order -/
def renOp (l : List Nat) (o : Oper) : Oper := { o with after := o.after.map fun e => { e with on := l.idxOf e.on }, guard := o.guard.map fun g => (l.idxOf g.1, g.2) }
def permOps (ops : Array Oper) (l : List Nat) : Array Oper := (l.map fun i => renOp l (ops.getD i default)).toArray
def permIs (is : List AI) (l : List Nat) : List AI := l.map fun i => is.getD i default
def permOk (n : Nat) (l : List Nat) : Bool := (l.length == n) && ((List.range n).all fun i => l.contains i) && (l.all fun i => decide (i < n)) && ((List.range n).all fun k => l.idxOf (l.getD k 0) == k)
structure Perm (n : Nat) (l : List Nat) : Prop where
  len : l.length = n
  all : ∀ i, i < n → i ∈ l
  lt : ∀ i ∈ l, i < n
  idx : ∀ k, k < n → l.idxOf (l.getD k 0) = k
theorem permOk_of {n : Nat} {l : List Nat} (h : permOk n l = true) : Perm n l := by
  simp only [permOk, Bool.and_eq_true, beq_iff_eq, List.all_eq_true, List.mem_range, List.contains_iff_mem, decide_eq_true_eq] at h
  exact ⟨h.1.1.1, h.1.1.2, h.1.2, h.2⟩
theorem Perm.at {n : Nat} {l : List Nat} (h : Perm n l) {i : Nat} (hi : i < n) : l.idxOf i < n ∧ l[l.idxOf i]? = some i := by
  have hm := h.all i hi
  have h1 : l.idxOf i < l.length := List.idxOf_lt_length_iff.2 hm
  refine ⟨by rw [← h.len]; exact h1, ?_⟩
  rw [List.getElem?_eq_getElem h1, List.getElem_idxOf]
theorem Perm.out {n : Nat} {l : List Nat} (h : Perm n l) {i : Nat} (hi : n ≤ i) : l.idxOf i = n := by
  rw [← h.len]
  exact List.idxOf_eq_length (fun hm => by have := h.lt i hm; omega)
theorem permOps_size {ops : Array Oper} {l : List Nat} (h : Perm ops.size l) : (permOps ops l).size = ops.size := by simp [permOps, h.len]
theorem permOps_at {ops : Array Oper} {l : List Nat} (h : Perm ops.size l) {i : Nat} {o : Oper} (ho : ops[i]? = some o) : (permOps ops l)[l.idxOf i]? = some (renOp l o) := by
  have hi := (Array.getElem?_eq_some_iff.1 ho).1
  obtain ⟨h1, h2⟩ := h.at hi
  simp [permOps, h2, Array.getD_eq_getD_getElem?, ho]
theorem permOps_none {ops : Array Oper} {l : List Nat} (h : Perm ops.size l) {i : Nat} (hi : ops.size ≤ i) : (permOps ops l)[l.idxOf i]? = none := by
  rw [h.out hi]
  exact Array.getElem?_eq_none (by rw [permOps_size h]; exact Nat.le_refl _)
theorem perm_yielded {ops : Array Oper} {l : List Nat} (h : Perm ops.size l) (tmps : Array Value) (j : Nat) : yielded (permOps ops l) tmps (l.idxOf j) = yielded ops tmps j := by
  unfold yielded
  cases hj : ops[j]? with
  | none =>
    rw [permOps_none h (Array.getElem?_eq_none_iff.1 hj)]
  | some o => rw [permOps_at h hj]; rfl
theorem perm_wanted {ops : Array Oper} {l : List Nat} (h : Perm ops.size l) (o : Oper) (tmps : Array Value) : Region.wanted (renOp l o) (yielded (permOps ops l) tmps) = Region.wanted o (yielded ops tmps) := by
  unfold Region.wanted renOp
  cases hg : o.guard with
  | none => simp
  | some g => simp [perm_yielded h]
theorem ren_wp {P : Program} {l : List Nat} {o : Oper} {a : Act} {w : World} {K : Act → World → Prop} {Q : Exit → Act → World → Prop} : (renOp l o).wp P a w K Q = o.wp P a w K Q := by
  cases o; rfl
theorem ren_asks {P : Program} {l : List Nat} {o : Oper} {a : Act} {w : World} : (renOp l o).asks P a w = o.asks P a w := by
  cases o; rfl
theorem perm_directs {l : List Nat} {o : Oper} : directs (renOp l o) = (directs o).map (fun d => l.idxOf d) := by
  simp only [directs, renOp, Array.toList_map, List.filter_map, List.map_map]
  rfl
theorem perm_wpOp {P : Program} {ops : Array Oper} {l : List Nat} (h : Perm ops.size l) {Q : Exit → Act → World → Prop} {i : Nat} (hi : i < ops.size) {K K' : Act → World → Prop} (hK : ∀ a w, K' a w → K a w) {a : Act} {w : World}
    (hw : wpOp P (permOps ops l) Q (l.idxOf i) K' a w) : wpOp P ops Q i K a w := by
  have ho : ops[i]? = some ops[i] := Array.getElem?_eq_getElem hi
  unfold wpOp at *
  rw [permOps_at h ho] at hw
  rw [ho]
  simp only [perm_wanted h] at hw ⊢
  split at hw
  · rename_i hwd
    rw [if_pos hwd]
    rcases hw with hw | hw
    · rw [ren_wp] at hw
      exact .inl (Oper.wp_mono hK hw)
    · rw [ren_asks] at hw
      exact .inr hw
  · rename_i hwd
    rw [if_neg hwd]
    exact hK _ _ hw
theorem perm_ready {ops : Array Oper} {l : List Nat} (h : Perm ops.size l) {u v : Array Bool} (hu : u.size = ops.size) (hv : v.size = ops.size) (huv : ∀ i, i < ops.size → v.getD (l.idxOf i) false = u.getD i false) {i : Nat} (hi : i < ops.size) :
    i ∈ Region.ready .any ops u ↔ l.idxOf i ∈ Region.ready .any (permOps ops l) v := by
  have ho : ops[i]? = some ops[i] := Array.getElem?_eq_getElem hi
  have hd : ∀ d, v.getD (l.idxOf d) false = u.getD d false := by
    intro d
    by_cases hd : d < ops.size
    · exact huv d hd
    · rw [h.out (by omega)]
      simp [Array.getD_eq_getD_getElem?, Array.getElem?_eq_none (show v.size ≤ ops.size by omega), Array.getElem?_eq_none (show u.size ≤ d by omega)]
  rw [ready_iff hu, ready_iff (by rw [hv, permOps_size h])]
  constructor
  · rintro ⟨o, h1, h2, h3⟩
    refine ⟨_, permOps_at h h1, by rw [huv i hi]; exact h2, fun d hdm => ?_⟩
    rw [perm_directs] at hdm
    obtain ⟨d', hd', rfl⟩ := List.mem_map.1 hdm
    rw [hd]
    exact h3 d' hd'
  · rintro ⟨o, h1, h2, h3⟩
    rw [permOps_at h ho] at h1
    cases h1
    refine ⟨_, ho, by rw [← huv i hi]; exact h2, fun d hdm => ?_⟩
    rw [← hd]
    exact h3 _ (by rw [perm_directs]; exact List.mem_map_of_mem hdm)
theorem wpAny_perm {P : Program} {ops : Array Oper} {l : List Nat} (h : Perm ops.size l) {Q : Exit → Act → World → Prop} : ∀ (fuel : Nat) (u v : Array Bool), u.size = ops.size → v.size = ops.size → (∀ i, i < ops.size → v.getD (l.idxOf i) false = u.getD i false) →
    ∀ {a : Act} {w : World}, wpAny P .any (permOps ops l) Q fuel v a w → wpAny P .any ops Q fuel u a w := by
  have inR : ∀ {u : Array Bool} {i : Nat}, u.size = ops.size → i ∈ Region.ready .any ops u → i < ops.size := by
    intro u i hu hi
    obtain ⟨o, ho, _⟩ := (ready_iff hu).1 hi
    exact (Array.getElem?_eq_some_iff.1 ho).1
  have empty : ∀ {u v : Array Bool}, u.size = ops.size → v.size = ops.size → (∀ i, i < ops.size → v.getD (l.idxOf i) false = u.getD i false) → (Region.ready .any ops u = [] ↔ Region.ready .any (permOps ops l) v = []) := by
    intro u v hu hv huv
    constructor
    · intro he
      rw [List.eq_nil_iff_forall_not_mem] at he ⊢
      intro k hk
      obtain ⟨o, ho, _⟩ := (ready_iff (by rw [hv, permOps_size h])).1 hk
      have hlt := (Array.getElem?_eq_some_iff.1 ho).1
      rw [permOps_size h] at hlt
      have hm : l.getD k 0 ∈ l := by
        rw [List.getD_eq_getElem?_getD, List.getElem?_eq_getElem (by rw [h.len]; exact hlt)]
        exact List.getElem_mem _
      have := (perm_ready h hu hv huv (h.lt _ hm)).2 (by rw [h.idx k hlt]; exact hk)
      exact he _ this
    · intro he
      rw [List.eq_nil_iff_forall_not_mem] at he ⊢
      intro i hi
      exact he _ ((perm_ready h hu hv huv (inR hu hi)).1 hi)
  intro fuel
  induction fuel with
  | zero =>
    intro u v hu hv huv a w hw
    exact ⟨(empty hu hv huv).2 hw.1, hw.2⟩
  | succ fuel ih =>
    intro u v hu hv huv a w hw
    refine ⟨fun he => hw.1 ((empty hu hv huv).1 he), fun i hi => ?_⟩
    have hlt := inR hu hi
    have hk := (perm_ready h hu hv huv hlt).1 hi
    have hkl := (h.at hlt).1
    refine perm_wpOp h hlt (fun a w => ih _ _ (by simpa using hu) (by simpa using hv) (fun j hj => ?_)) (hw.2 _ hk)
    rw [setL (by omega), setL (by omega)]
    have hiff : l.idxOf j = l.idxOf i ↔ j = i := by
      constructor
      · intro e
        have e1 := (h.at hj).2
        have e2 := (h.at hlt).2
        rw [e] at e1
        rw [e1] at e2
        exact Option.some.inj e2
      · rintro rfl; rfl
    by_cases hji : j = i
    · rw [if_pos hji, if_pos (hiff.2 hji)]
    · rw [if_neg hji, if_neg (fun e => hji (hiff.1 e))]
      exact huv j hj
theorem perm_cIns {P : Program} {n : Nat} {ops : Array Oper} {l : List Nat} (h : Perm ops.size l) {o : Oper} {i : AI} (hc : cIns P n ops o = some i) : cIns P n (permOps ops l) (renOp l o) = some i := by
  have hg : ∀ j, ((permOps ops l)[l.idxOf j]?).bind (·.dst) = (ops[j]?).bind (·.dst) := by
    intro j
    cases hj : ops[j]? with
    | none => rw [permOps_none h (Array.getElem?_eq_none_iff.1 hj)]
    | some o => rw [permOps_at h hj]; rfl
  have ho : cOp P (renOp l o) = cOp P o := by cases o; rfl
  unfold cIns at hc ⊢
  rw [ho]
  cases hop : cOp P o with
  | none => rw [hop] at hc; cases hc
  | some op =>
    rw [hop] at hc
    simp only at hc ⊢
    have hd : (renOp l o).dst = o.dst := rfl
    rw [hd]
    split at hc
    · rename_i hd'
      rw [if_pos hd']
      cases hgu : o.guard with
      | none =>
        rw [hgu] at hc
        have : (renOp l o).guard = none := by simp [renOp, hgu]
        rw [this]
        exact hc
      | some g =>
        rw [hgu] at hc
        have : (renOp l o).guard = some (l.idxOf g.1, g.2) := by simp [renOp, hgu]
        rw [this]
        simp only [hg] at hc ⊢
        exact hc
    · cases hc
theorem cReg_of {P : Program} {n : Nat} {ops : Array Oper} : ∀ {l : List Oper} {q : List AI}, l.length = q.length → (∀ (k : Nat) (o : Oper) (i : AI), l[k]? = some o → q[k]? = some i → cIns P n ops o = some i) → cReg P n ops l = some q
  | [], [], _, _ => rfl
  | [], _ :: _, h, _ => by simp at h
  | _ :: _, [], h, _ => by simp at h
  | o :: r, i :: q, h, hk => by
    simp only [cReg]
    rw [hk 0 o i rfl rfl, cReg_of (by simpa using h) (fun k o' i' h1 h2 => hk (k + 1) o' i' (by simpa using h1) (by simpa using h2))]
theorem perm_cReg {P : Program} {n : Nat} {ops : Array Oper} {is : List AI} {l : List Nat} (h : Perm ops.size l) (hc : cReg P n ops ops.toList = some is) : cReg P n (permOps ops l) (permOps ops l).toList = some (permIs is l) := by
  obtain ⟨hlen, hget⟩ := cReg_get hc
  refine cReg_of (by simp [permOps, permIs]) fun k o i h1 h2 => ?_
  simp only [permOps, permIs, List.getElem?_map, Option.map_eq_some_iff] at h1 h2
  obtain ⟨a, ha, rfl⟩ := h1
  obtain ⟨a', ha', rfl⟩ := h2
  rw [ha] at ha'
  cases ha'
  have hlt := h.lt a (List.mem_of_getElem? ha)
  have ho : ops.toList[a]? = some (ops.getD a default) := by simp [Array.getD_eq_getD_getElem?, hlt]
  obtain ⟨i, hi, hci⟩ := hget a _ ho
  rw [List.getD_eq_getElem?_getD, hi]
  exact perm_cIns h hci
def anyStore (is : List AI) : Bool := is.any isStore
/-- has a writing been left ahead of the tail? -/
def AC.hasSt : AC → Bool
  | .regq pre _ => anyStore pre
  | .regs core _ _ _ => anyStore core
  | .regm core _ _ => anyStore core
  | _ => false
/-- what looks at slots alone goes ahead of the first writing -/
def sortOps (is : List AI) : List Nat :=
  let n := is.length
  let f := (is.takeWhile fun i => !isStore i).length
  List.range f ++ (((List.range n).filter fun i => decide (f ≤ i) && (is.getD i default).op.free) ++ ((List.range n).filter fun i => decide (f ≤ i) && !(is.getD i default).op.free))
def RC2 (ops : Array Oper) (is : List AI) : Option AC := if permOk ops.size (sortOps is) = true then (match RC1 (permOps ops (sortOps is)) (permIs is (sortOps is)) with | some ac => some ac | none => RC3 (permOps ops (sortOps is)) (permIs is (sortOps is)) (sortOps is)) else none
/-- the translation's look at a region -/
def RCs (ops : Array Oper) (is : List AI) : Option AC := match RC1 ops is with
  | some ac => if ac.hasSt = true then RC2 ops is else some ac
  | none => RC2 ops is
theorem reg2 (ops : Array Oper) (is : List AI) (ac : AC) (h : RC2 ops is = some ac) : ac.isReg = true := by
  unfold RC2 at h
  split at h
  · split at h
    · rename_i h1
      cases h
      exact reg1 _ _ _ h1
    · unfold RC3 at h
      split at h
      · cases h; rfl
      · cases h
  · cases h
/-- EVERY ORDER. -/
theorem regQ (P : Program) : RegQ P (RQs P) RCs := by
  refine ⟨fun ops is ac h => ?_, ?_⟩
  · unfold RCs at h
    split at h
    · rename_i ac' h1
      split at h
      · exact reg2 _ _ _ h
      · cases h; exact reg1 _ _ _ h1
    · exact reg2 _ _ _ h
  intro w0 X0 μ0 n ops is ac rid K Q env H a w μ hm hQ hc hr hrel hq
  have two : RC2 ops is = some ac → wpAny P .any ops Q ops.size (Array.replicate ops.size false) a { w with drawn := w.drawn + 1 } := by
    intro h
    unfold RC2 at h
    split at h
    · rename_i hp
      have hP := permOk_of hp
      have : wpAny P .any (permOps ops (sortOps is)) Q (permOps ops (sortOps is)).size (Array.replicate (permOps ops (sortOps is)).size false) a { w with drawn := w.drawn + 1 } := by
        split at h
        · rename_i h1
          cases h
          exact regAny hQ (perm_cReg hP hc) h1 hrel hq
        · exact regAny3 hQ (perm_cReg hP hc) h hrel hq
      rw [permOps_size hP] at this
      refine wpAny_perm hP ops.size _ _ (by simp) (by simp) (fun i hi => ?_) this
      have := (hP.at hi).1
      simp [Array.getD_eq_getD_getElem?, hi, this]
    · cases h
  refine wp_region_any hm ?_
  unfold RCs at hr
  split at hr
  · rename_i ac' h1
    split at hr
    · exact two hr
    · cases hr
      exact regAny hQ hc h1 hrel hq
  · exact two hr
end Go.Vm
