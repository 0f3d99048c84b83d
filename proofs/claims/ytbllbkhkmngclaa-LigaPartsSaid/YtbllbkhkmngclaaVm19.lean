/-
  The abstract machine, part 19: every order that a region may draw comes to what the text's order comes to.
-/
import Derived.Test.YtbllbkhkmngclaaVm18
namespace Go.Vm
open Go Go.RowKit

def O.slot : O → Option Nat
  | .s t => some t
  | .c _ => none
def insSlots (i : AI) : List Nat := i.op.os.filterMap O.slot ++ (match i.guard with | some (t, _) => [t] | none => [])
def directs (o : Oper) : List Nat := (o.after.toList.filter (Region.binds .any ·)).map (·.on)
def ancs : List Oper → List (List Nat) → List (List Nat)
  | [], acc => acc
  | o :: r, acc => ancs r (acc ++ [(List.range acc.length).filter fun j => (directs o).contains j || (directs o).any fun k => (acc.getD k []).contains j])
def fullFrom (A : List (List Nat)) (n N : Nat) : Bool := (List.range N).all fun k => decide (k < n) || (List.range k).all fun j => (A.getD k []).contains j
/-- the look at a region: how many operations stand ahead of the tail -/
def regC (ops : Array Oper) (is : List AI) : Option Nat :=
  match (List.range (ops.size + 1)).find? (fun n => fullFrom (ancs ops.toList []) n ops.size) with
  | none => none
  | some n =>
    if ((List.range ops.size).all fun i => (directs (ops.getD i default)).all fun j => decide (j < i)) = true ∧
       ((List.range n).all fun i => (insSlots (is.getD i default)).all fun t => (List.range n).all fun j => (is.getD j default).dst != some t || (directs (ops.getD i default)).contains j) = true ∧
       ((List.range n).all fun j => (List.range n).all fun k => j == k || (is.getD j default).dst == none || (is.getD j default).dst != (is.getD k default).dst) = true ∧ n ≤ ops.size
    then some n else none

/-- a set of operations with each of which stand those that it waits for -/
def Closed (ops : Array Oper) (L : Nat → Bool) : Prop := ∀ i o, ops[i]? = some o → L i = true → ∀ d ∈ directs o, L d = true

theorem ancs_sound (ops : Array Oper) : ∀ (l : List Oper) (acc : List (List Nat)), (∀ j, l[j]? = ops[acc.length + j]?) →
    (∀ (i : Nat) (A : List Nat), acc[i]? = some A → ∀ L, Closed ops L → ∀ o, ops[i]? = some o → (∀ d ∈ directs o, L d = true) → ∀ j ∈ A, L j = true) →
    ∀ (i : Nat) (A : List Nat), (ancs l acc)[i]? = some A → ∀ L, Closed ops L → ∀ o, ops[i]? = some o → (∀ d ∈ directs o, L d = true) → ∀ j ∈ A, L j = true
  | [], acc, _, h => h
  | o0 :: r, acc, hl, h => by
    simp only [ancs]
    refine ancs_sound ops r _ (fun j => by
      have := hl (j + 1)
      simp only [List.length_append, List.length_singleton]
      rw [show acc.length + 1 + j = acc.length + (j + 1) by omega]
      simpa using this) ?_
    intro i A hA L hL o ho hd j hj
    rcases get_push hA with hA | ⟨rfl, rfl⟩
    · exact h i A hA L hL o ho hd j hj
    · have h0 : o0 = o := by
        have := hl 0
        simp at this
        rw [ho] at this
        exact Option.some.inj this
      subst h0
      simp only [List.mem_filter, List.mem_range, Bool.or_eq_true, List.contains_iff_mem, List.any_eq_true] at hj
      rcases hj.2 with h1 | ⟨k, h1, h2⟩
      · exact hd j h1
      · have hk : k < acc.length := by
          rcases Nat.lt_or_ge k acc.length with h3 | h3
          · exact h3
          · rw [List.getD_eq_getElem?_getD, List.getElem?_eq_none h3] at h2
            simp at h2
        have hok : ∃ ok, ops[k]? = some ok := by
          have := (Array.getElem?_eq_some_iff.1 ho).1
          exact ⟨_, Array.getElem?_eq_getElem (by omega)⟩
        obtain ⟨ok, hok⟩ := hok
        rw [List.getD_eq_getElem?_getD, List.getElem?_eq_getElem hk] at h2
        exact h k _ (List.getElem?_eq_getElem hk) L hL ok hok (fun d hd' => hL k ok hok (hd k h1) d hd') j h2

theorem ready_iff {ops : Array Oper} {listed : Array Bool} (hs : listed.size = ops.size) {j : Nat} : j ∈ Region.ready .any ops listed ↔ ∃ o, ops[j]? = some o ∧ listed.getD j false = false ∧ ∀ d ∈ directs o, listed.getD d false = true := by
  rw [mem_ready]
  have key : ∀ o, ops[j]? = some o → listed.getD j true = listed.getD j false := by
    intro o ho
    have := (Array.getElem?_eq_some_iff.1 ho).1
    simp only [Array.getD_eq_getD_getElem?]
    rw [Array.getElem?_eq_getElem (by omega)]
    rfl
  constructor
  · rintro ⟨h0, o, ho, h⟩
    refine ⟨o, ho, by rw [← key o ho]; exact h0, fun d hd => ?_⟩
    simp only [directs, List.mem_map, List.mem_filter] at hd
    obtain ⟨e, ⟨h1, h2⟩, rfl⟩ := hd
    exact h e (by simpa using h1) h2
  · rintro ⟨o, ho, h0, h⟩
    refine ⟨by rw [key o ho]; exact h0, o, ho, fun e he hb => h _ ?_⟩
    simp only [directs, List.mem_map, List.mem_filter]
    exact ⟨e, ⟨by simpa using he, hb⟩, rfl⟩

theorem setL {listed : Array Bool} {i : Nat} (hi : i < listed.size) (j : Nat) : (listed.setIfInBounds i true).getD j false = (if j = i then true else listed.getD j false) := by
  simp only [Array.getD_eq_getD_getElem?, Array.getElem?_setIfInBounds]
  by_cases h : i = j
  · subst h; simp [hi]
  · simp [h, Ne.symm h]

section
variable {P : Program} {w0 : World} {X0 : Nat → Prop} {μ0 : Mu} {n0 n : Nat} {ops : Array Oper} {is : List AI} {qs : List QI} {env : Env} {H : Heap}

/-- What stands while the operations ahead of the tail are carried out. -/
structure Inv (P : Program) (w0 : World) (X0 : Nat → Prop) (μ0 : Mu) (n0 n tl : Nat) (ops : Array Oper) (is : List AI) (qs : List QI) (env : Env) (H HL : Heap) (L : Nat → Bool) (a : Act) (w : World) (μ : Mu) : Prop where
  closed : Closed ops L
  tail : ∀ k, tl ≤ k → L k = false
  tmps : a.tmps.size = n0
  defers : a.defers = []
  done : ∀ (j : Nat) (q : QI) (i : AI) (t : Nat), j < n → qs[j]? = some q → is[j]? = some i → L j = true → i.dst = some t → Rep w (excl μ HL) μ (a.tmps.getD t undef) q.s
  other : ∀ (t : Nat), (∀ (j : Nat) (i : AI), j < n → is[j]? = some i → L j = true → i.dst ≠ some t) → Rep w (excl μ HL) μ (a.tmps.getD t undef) (env.get t)
  heap : HRep w μ HL
  unl : ∀ (j : Nat) (q : QI), qs[j]? = some q → L j = false → q.row.isSome = true → μ (nameAt qs H j) = none
  fr : Fr X0 w0 w
  own : ∀ k, owned μ HL k → X0 k ∨ w0.heap.size ≤ k
  pre : ∀ (b : Nat) (l : Loc), μ0 b = some l → μ b = some l
  xo : μ.xo = μ0.xo

/-- what the look at a region has told -/
structure Look (n : Nat) (ops : Array Oper) (is : List AI) : Prop where
  rk : ∃ r : Nat → Nat, ∀ i o, ops[i]? = some o → ∀ d ∈ directs o, d < ops.size ∧ r d < r i
  dep : ∀ (i j : Nat) (ai aj : AI) (o : Oper) (t : Nat), i < n → j < n → is[i]? = some ai → is[j]? = some aj → ops[i]? = some o → t ∈ insSlots ai → aj.dst = some t → j ∈ directs o ∧ j < i
  uniq : ∀ (j k : Nat) (aj ak : AI) (t : Nat), j < n → k < n → is[j]? = some aj → is[k]? = some ak → aj.dst = some t → ak.dst = some t → j = k
  le : n ≤ ops.size
structure Looked (n : Nat) (ops : Array Oper) (is : List AI) : Prop extends Look n ops is where
  lexT : ∀ (k : Nat) (o : Oper), n ≤ k → ops[k]? = some o → ∀ d ∈ directs o, d < k
  full : ∀ (k j : Nat) (o : Oper), n ≤ k → j < k → ops[k]? = some o → ∀ L, Closed ops L → (∀ d ∈ directs o, L d = true) → L j = true
theorem Look.less {m n : Nat} {ops : Array Oper} {is : List AI} (h : Look n ops is) (hm : m ≤ n) : Look m ops is :=
  ⟨h.rk, fun i j ai aj o t hi hj => h.dep i j ai aj o t (by omega) (by omega), fun j k aj ak t hj hk => h.uniq j k aj ak t (by omega) (by omega), by have := h.le; omega⟩

theorem regC_looked (_ : is.length = ops.size) (h : regC ops is = some n) : Looked n ops is := by
  unfold regC at h
  split at h
  · cases h
  · rename_i m hm
    split at h
    · rename_i hc
      cases h
      obtain ⟨h1, h2, h3, h4⟩ := hc
      have hfull := List.find?_some hm
      simp only [List.all_eq_true, List.mem_range, decide_eq_true_eq] at h1
      have lex : ∀ i o, ops[i]? = some o → ∀ d ∈ directs o, d < i := by
        intro i o ho d hd
        obtain ⟨hlt, he⟩ := Array.getElem?_eq_some_iff.1 ho
        refine h1 i hlt d ?_
        rw [show ops.getD i default = o by simp [Array.getD_eq_getD_getElem?, ho]]
        exact hd
      refine ⟨⟨⟨id, fun i o ho d hd => ⟨by have := lex i o ho d hd; have := (Array.getElem?_eq_some_iff.1 ho).1; omega, lex i o ho d hd⟩⟩, ?_, ?_, h4⟩, fun k o _ ho => lex k o ho, ?_⟩
      · intro i j ai aj o t hi hj hai haj ho ht hdst
        simp only [List.all_eq_true, List.mem_range, Bool.or_eq_true, bne_iff_ne, ne_eq, List.contains_iff_mem] at h2
        have := h2 i hi t (by rw [show is.getD i default = ai by simp [List.getD_eq_getElem?_getD, hai]]; exact ht) j hj
        rw [show is.getD j default = aj by simp [List.getD_eq_getElem?_getD, haj], show ops.getD i default = o by simp [Array.getD_eq_getD_getElem?, ho]] at this
        rcases this with h5 | h5
        · exact absurd hdst h5
        · exact ⟨h5, lex i o ho j h5⟩
      · intro j k aj ak t hj hk haj hak hd1 hd2
        simp only [List.all_eq_true, List.mem_range, Bool.or_eq_true, bne_iff_ne, ne_eq, beq_iff_eq] at h3
        have := h3 j hj k hk
        rw [show is.getD j default = aj by simp [List.getD_eq_getElem?_getD, haj], show is.getD k default = ak by simp [List.getD_eq_getElem?_getD, hak]] at this
        rcases this with (h5 | h5) | h5
        · exact h5
        · rw [hd1] at h5; cases h5
        · rw [hd1, hd2] at h5; exact absurd rfl h5
      · intro k j o hk hj ho L hL hd
        simp only [fullFrom, List.all_eq_true, List.mem_range, Bool.or_eq_true, decide_eq_true_eq, List.contains_iff_mem] at hfull
        have hlt := (Array.getElem?_eq_some_iff.1 ho).1
        rcases hfull k hlt with h5 | h5
        · omega
        · have h6 := h5 j hj
          cases hA : (ancs ops.toList [])[k]? with
          | none => rw [List.getD_eq_getElem?_getD, hA] at h6; simp at h6
          | some A =>
            rw [List.getD_eq_getElem?_getD, hA] at h6
            exact ancs_sound ops ops.toList [] (fun j => by simp) (fun i A h => by simp at h) k A hA L hL o ho hd j h6
    · cases h

theorem Inv.next (K : Look n ops is) {tl : Nat} {HL HL' : Heap} {L L' : Nat → Bool} {a : Act} {w w' : World} {μ μ' : Mu} (h : Inv P w0 X0 μ0 n0 n tl ops is qs env H HL L a w μ) {i : Nat} {ai : AI} {q : QI} {o : Oper} {v : Value} (hi : i < n) (hit : i < tl) (hai : is[i]? = some ai) (hq : qs[i]? = some q) (ho : ops[i]? = some o)
    (hL' : ∀ j, L' j = if j = i then true else L j) (hun : L i = false) (hready : ∀ d ∈ directs o, L d = true) (hdst : (ai.dst.all fun d => decide (d < n0)) = true)
    (st : Step w μ HL w' μ' HL' v q.s) (hμ : ∀ b, (q.row.isSome = true → b ≠ nameAt qs H i) → μ' b = μ b) : Inv P w0 X0 μ0 n0 n tl ops is qs env H HL' L' (a.put ai.dst v) w' μ' := by
  have keep : ∀ {u : Value} {s : S}, Rep w (excl μ HL) μ u s → Rep w' (excl μ' HL') μ' u s := fun hr => hr.keeps st.fr.keep.excl (excl_of st.own st.xo) st.ext
  have putOther : ∀ t, ai.dst ≠ some t → (a.put ai.dst v).tmps.getD t undef = a.tmps.getD t undef := by
    intro t ht
    cases hd : ai.dst with
    | none => simp [Act.put]
    | some d =>
      simp only [Act.put, Array.getD_eq_getD_getElem?]
      rw [Array.getElem?_setIfInBounds_ne (by rintro rfl; exact ht hd)]
  have putSame : ∀ t, ai.dst = some t → (a.put ai.dst v).tmps.getD t undef = v := by
    intro t ht
    have hlt : t < a.tmps.size := by rw [h.tmps]; simpa [ht] using hdst
    simp [ht, Act.put, Array.getD_eq_getD_getElem?, hlt]
  refine ⟨?_, ?_, ?_, ?_, ?_, ?_, st.heap, ?_, ?_, ?_, fun b l hb => st.ext b l (h.pre b l hb), st.xo.trans h.xo⟩
  · intro j oj hj hjl d hd
    rw [hL'] at hjl ⊢
    by_cases hji : j = i
    · subst hji
      rw [ho] at hj
      cases hj
      have := hready d hd
      split
      · rfl
      · exact this
    · rw [if_neg hji] at hjl
      have := h.closed j oj hj hjl d hd
      split
      · rfl
      · exact this
  · intro k hk
    rw [hL', if_neg (by omega)]
    exact h.tail k hk
  · rw [← h.tmps]
    cases ai.dst <;> simp [Act.put]
  · rw [← h.defers]
    cases ai.dst <;> simp [Act.put]
  · intro j qj ij t hj hqj hij hjl hd
    rw [hL'] at hjl
    by_cases hji : j = i
    · subst hji
      rw [hq] at hqj
      rw [hai] at hij
      cases hqj
      cases hij
      rw [putSame t hd]
      exact st.val
    · rw [if_neg hji] at hjl
      rw [putOther t (fun h2 => hji (K.uniq j i ij ai t hj hi hij hai hd h2))]
      exact keep (h.done j qj ij t hj hqj hij hjl hd)
  · intro t ht
    rw [putOther t (ht i ai hi hai (by rw [hL', if_pos rfl]))]
    refine keep (h.other t fun j ij hj hij hjl => ht j ij hj hij ?_)
    rw [hL']
    split
    · rfl
    · exact hjl
  · intro j qj hqj hjl hr
    rw [hL'] at hjl
    by_cases hji : j = i
    · rw [if_pos hji] at hjl; cases hjl
    · rw [if_neg hji] at hjl
      rw [hμ _ (fun hr' heq => hji (nameAt_inj hqj hr hq hr' heq))]
      exact h.unl j qj hqj hjl hr
  · refine ⟨st.fr.os.trans h.fr.os, st.fr.tape.trans h.fr.tape, st.fr.output.trans h.fr.output, Nat.le_trans h.fr.size st.fr.size, fun k hk hx => ?_⟩
    rw [st.fr.keep k (Nat.lt_of_lt_of_le hk h.fr.size) (fun ho' => by rcases h.own k ho' with h1 | h1; exact hx h1; omega)]
    exact h.fr.keep k hk hx
  · intro k hk
    rcases st.own k hk with h1 | h1
    · exact h.own k h1
    · exact .inr (Nat.le_trans h.fr.size h1)

theorem guard_val' {a : Act} {w : World} {X : Nat → Prop} {μ : Mu} (hsz : a.tmps.size = n0) {j t : Nat} {c : Bool} (hr : Rep w X μ (a.tmps.getD t undef) (.pure (.bool c))) (hj : (ops[j]?).bind (·.dst) = some t) (ht : t < n0) : yielded ops a.tmps j = some c := by
  have h2 := hr.bool_inv
  have h3 : a.tmps[t]? = some (.bool c) := by
    rw [Array.getD_eq_getD_getElem?, Array.getElem?_eq_getElem (by rw [hsz]; exact ht)] at h2
    rw [Array.getElem?_eq_getElem (by rw [hsz]; exact ht)]
    simpa using h2
  simp [yielded, hj, h3]

theorem guard_skip' {a : Act} {w : World} {X : Nat → Prop} {μ : Mu} {j t : Nat} (hr : Rep w X μ (a.tmps.getD t undef) (.tup [])) (hj : (ops[j]?).bind (·.dst) = some t) : yielded ops a.tmps j = none := by
  have h2 : a.tmps.getD t undef = .tuple #[] := by
    generalize a.tmps.getD t undef = v at hr
    cases hr with
    | tup vs _ hl _ => rw [show vs = #[] from Array.eq_empty_of_size_eq_zero (by simpa using hl)]
  simp only [yielded, hj, Option.bind_some]
  cases ht : a.tmps[t]? with
  | none => rfl
  | some v =>
    rw [Array.getD_eq_getD_getElem?, ht] at h2
    simp only [Option.getD_some] at h2
    subst h2
    rfl
theorem map_get (l : List Nat) (f : Nat → S) (t : Nat) : (Env.get (l.map fun t => (t, f t)) t = if t ∈ l then f t else .dead) := by
  induction l with
  | nil => simp [Env.get]
  | cons x r ih =>
    simp only [List.map_cons, Env.get_cons, ih, List.mem_cons]
    by_cases h : x = t
    · subst h; simp
    · simp [h, Ne.symm h]

theorem cReg_get : ∀ {l : List Oper} {q : List AI}, cReg P n0 ops l = some q → l.length = q.length ∧ ∀ (k : Nat) (o : Oper), l[k]? = some o → ∃ i, q[k]? = some i ∧ cIns P n0 ops o = some i
  | [], q, h => by simp [cReg] at h; subst h; exact ⟨rfl, fun k o h => by simp at h⟩
  | o0 :: r, q, h => by
    simp only [cReg] at h
    split at h
    · rename_i i q' hi hq
      cases h
      obtain ⟨h1, h2⟩ := cReg_get hq
      refine ⟨by simp [h1], fun k o ho => ?_⟩
      cases k with
      | zero => simp at ho; subst ho; exact ⟨i, rfl, hi⟩
      | succ k => simpa using h2 k o (by simpa using ho)
    · cases h

/-- one operation ahead of the tail, whenever it is its turn -/
theorem inv_step (K : Look n ops is) (hc : cReg P n0 ops ops.toList = some is) (hrun : QRun P (is.take n) qs env H) {listed : Array Bool} (hs : listed.size = ops.size) {a : Act} {w : World} {μ : Mu}
    (h : Inv P w0 X0 μ0 n0 n n ops is qs env H (heapL qs H fun j => listed.getD j false) (fun j => listed.getD j false) a w μ) {i : Nat} (hi : i < n) (hr : i ∈ Region.ready .any ops listed) {Q : Exit → Act → World → Prop} :
    wpOp P ops Q i (fun a' w' => ∃ μ', Inv P w0 X0 μ0 n0 n n ops is qs env H (heapL qs H fun j => (listed.setIfInBounds i true).getD j false) (fun j => (listed.setIfInBounds i true).getD j false) a' w' μ') a w := by
  obtain ⟨o, ho, hun, hready⟩ := (ready_iff hs).1 hr
  obtain ⟨hlen, hget⟩ := cReg_get hc
  obtain ⟨ai, hai, hci⟩ := hget i o (by simpa using ho)
  have hisl : is.length = ops.size := by rw [← hlen]; simp
  have hql : qs.length = n := by rw [← hrun.len, List.length_take]; have := K.le; omega
  obtain ⟨q, hq⟩ : ∃ q, qs[i]? = some q := ⟨_, List.getElem?_eq_getElem (by omega)⟩
  have hit : (is.take n)[i]? = some ai := by rw [List.getElem?_take_of_lt hi]; exact hai
  have hok := hrun.at hit hq
  have htk : (is.take n).take i = is.take i := by rw [List.take_take, Nat.min_eq_left (by omega)]
  rw [htk] at hok
  generalize hE : envOf (is.take i) (qs.take i) env = Ei at hok
  have hLi : i < listed.size := by rw [hs]; have := K.le; omega
  have hset := setL hLi
  -- the slots that the operation looks at hold what they hold in the text's order
  have slotOk : ∀ t ∈ insSlots ai, Rep w (excl μ (heapL qs H fun j => listed.getD j false)) μ (a.tmps.getD t undef) (Ei.get t) := by
    intro t ht
    by_cases hex : ∃ (j : Nat) (aj : AI), j < n ∧ is[j]? = some aj ∧ aj.dst = some t
    · obtain ⟨j, aj, hj, haj, hd⟩ := hex
      have hdep' := K.dep i j ai aj o t hi hj hai haj ho ht hd
      have hdep := hdep'.1
      have hji := hdep'.2
      have hjl := hready j hdep
      obtain ⟨qj, hqj⟩ : ∃ q, qs[j]? = some q := ⟨_, List.getElem?_eq_getElem (by omega)⟩
      have := envOf_at (is.take i) (qs.take i) env t j aj qj (by rw [List.getElem?_take_of_lt hji]; exact haj) (by rw [List.getElem?_take_of_lt hji]; exact hqj) hd (fun k ak hk hak hdk => by
        have hki : k < i := by
          have := (List.getElem?_eq_some_iff.1 hak).1
          simp at this
          omega
        rw [List.getElem?_take_of_lt hki] at hak
        have := K.uniq j k aj ak t hj (by omega) haj hak hd hdk
        omega)
      rw [← hE, this]
      exact h.done j qj aj t hj hqj haj hjl hd
    · have := envOf_other (is.take i) (qs.take i) env t (fun ak hak hdk => by
        obtain ⟨k, hk, rfl⟩ := List.mem_iff_getElem.1 hak
        simp at hk
        refine hex ⟨k, is[k], by omega, List.getElem?_eq_getElem (by omega), ?_⟩
        simpa using hdk)
      rw [← hE, this]
      exact h.other t fun j aj hj haj _ hd => hex ⟨j, aj, hj, haj, hd⟩
  have hrec := hci
  unfold cIns at hci
  split at hci
  · cases hci
  · rename_i op hop
    split at hci
    · rename_i hd
      have hdst : ai.dst = o.dst ∧ ai.op = op := by
        split at hci
        · cases hci; exact ⟨rfl, rfl⟩
        · split at hci
          · split at hci
            · cases hci; exact ⟨rfl, rfl⟩
            · cases hci
          · cases hci
      -- carried out
      have carried : QV P Ei (heapOf (qs.take i) H) (heapOf (qs.take i) H).length ai.op q.s q.row → o.wp P a w (fun a' w' => ∃ μ', Inv P w0 X0 μ0 n0 n n ops is qs env H (heapL qs H fun j => (listed.setIfInBounds i true).getD j false) (fun j => (listed.setIfInBounds i true).getD j false) a' w' μ') Q := by
        intro hqv
        have hqv' : QV P ((insSlots ai).map fun t => (t, Ei.get t)) (heapOf qs H) (nameAt qs H i) op q.s q.row := by
          rw [← hdst.2]
          refine QV.congr (fun b r hb => heapOf_pre i hb) (fun x hx => ?_) hqv
          cases x with
          | c s => rfl
          | s t =>
            simp only [O.ev]
            rw [map_get, if_pos]
            simp only [insSlots, List.mem_append, List.mem_filterMap]
            exact .inl ⟨.s t, hx, rfl⟩
        have hev : Evs w (excl μ (heapL qs H fun j => listed.getD j false)) μ a.eval ((insSlots ai).map fun t => (t, Ei.get t)) := evs_of fun t => by
          rw [map_get]
          split
          · exact slotOk t (by assumption)
          · exact .dead _
        have hF : ∀ (b : Nat) (l : Loc), μ b = some l → (heapOf qs H)[b]? = (heapL qs H fun j => listed.getD j false)[b]? := by
          intro b l hb
          refine (heapL_of ?_).symm
          cases hda : deadAt qs H (fun j => listed.getD j false) b with
          | false => rfl
          | true =>
            obtain ⟨j, qj, h1, h2, h3, h4⟩ := deadAt_true hda
            have := h.unl j qj h1 h2 h3
            rw [h4, hb] at this
            cases this
        have hdead : ∀ b, (q.row.isSome = true → b ≠ nameAt qs H i) → deadAt qs H (fun j => (listed.setIfInBounds i true).getD j false) b = deadAt qs H (fun j => listed.getD j false) b := by
          intro b hb
          cases h1 : deadAt qs H (fun j => listed.getD j false) b with
          | true =>
            obtain ⟨j, qj, g1, g2, g3, g4⟩ := deadAt_true h1
            rw [← g4]
            refine deadAt_of g1 ?_ g3
            simp only [hset]
            rw [if_neg]
            · exact g2
            · rintro rfl
              rw [hq] at g1
              cases g1
              exact hb g3 g4.symm
          | false =>
            cases h2 : deadAt qs H (fun j => (listed.setIfInBounds i true).getD j false) b with
            | false => rfl
            | true =>
              obtain ⟨j, qj, g1, g2, g3, g4⟩ := deadAt_true h2
              simp only [hset] at g2
              split at g2
              · cases g2
              · rw [← g4, deadAt_of g1 g2 g3] at h1
                cases h1
        have hrow : RowStep μ (heapL qs H fun j => listed.getD j false) (heapL qs H fun j => (listed.setIfInBounds i true).getD j false) (nameAt qs H i) q.row := by
          cases hqr : q.row with
          | none =>
            show heapL qs H (fun j => (listed.setIfInBounds i true).getD j false) = heapL qs H fun j => listed.getD j false
            apply List.ext_getElem?
            intro b
            rw [heapL_get, heapL_get, hdead b (fun h => by rw [hqr] at h; cases h)]
          | some r =>
            have hsome : q.row.isSome = true := by rw [hqr]; rfl
            refine ⟨h.unl i q hq hun hsome, ?_, by rw [heapL_len, heapL_len]; exact Nat.le_refl _, fun b r' hb hr' hd' => ?_⟩
            · rw [heapL_of, nameAt_row hq hqr]
              cases hda : deadAt qs H (fun j => (listed.setIfInBounds i true).getD j false) (nameAt qs H i) with
              | false => rfl
              | true =>
                obtain ⟨j, qj, g1, g2, g3, g4⟩ := deadAt_true hda
                have := nameAt_inj g1 g3 hq hsome g4
                subst this
                simp [hset] at g2
            · obtain ⟨g1, g2⟩ := heapL_alive hr' hd'
              rw [hdead b (fun _ => hb)] at g1
              rw [heapL_of g1]
              exact g2
        refine Oper.wp_mono ?_ (qv_sound h.heap hF hev hop hqv' hrow)
        rintro a' w' ⟨v, μ', rfl, h1, h2⟩
        rw [← hdst.1]
        exact ⟨μ', h.next K hi hi hai hq ho hset hun hready (by rw [hdst.1]; exact hd) h1 h2⟩
      -- passed by
      have passed : q.s = .tup [] → q.row = none → ∃ μ', Inv P w0 X0 μ0 n0 n n ops is qs env H (heapL qs H fun j => (listed.setIfInBounds i true).getD j false) (fun j => (listed.setIfInBounds i true).getD j false) (a.put o.dst undef) w μ' := by
        intro h1 h2
        refine ⟨μ, ?_⟩
        have hsame : heapL qs H (fun j => (listed.setIfInBounds i true).getD j false) = heapL qs H fun j => listed.getD j false := by
          apply List.ext_getElem?
          intro b
          rw [heapL_get, heapL_get]
          have : deadAt qs H (fun j => (listed.setIfInBounds i true).getD j false) b = deadAt qs H (fun j => listed.getD j false) b := by
            cases h3 : deadAt qs H (fun j => listed.getD j false) b with
            | true =>
              obtain ⟨j, qj, g1, g2, g3, g4⟩ := deadAt_true h3
              rw [← g4]
              refine deadAt_of g1 ?_ g3
              simp only [hset]
              rw [if_neg]
              · exact g2
              · rintro rfl
                rw [hq] at g1
                cases g1
                rw [h2] at g3
                cases g3
            | false =>
              cases h4 : deadAt qs H (fun j => (listed.setIfInBounds i true).getD j false) b with
              | false => rfl
              | true =>
                obtain ⟨j, qj, g1, g2, g3, g4⟩ := deadAt_true h4
                simp only [hset] at g2
                split at g2
                · cases g2
                · rw [← g4, deadAt_of g1 g2 g3] at h3
                  cases h3
          rw [this]
        rw [← hdst.1]
        refine h.next K hi hi hai hq ho hset hun hready (by rw [hdst.1]; exact hd) ?_ (fun _ _ => rfl)
        rw [hsame, h1]
        exact Step.same h.heap rep_skip
      unfold wpOp
      rw [ho]
      unfold QOk at hok
      split at hci
      · rename_i hg
        cases hci
        simp only at hok carried
        simp only [Region.wanted, hg, if_true]
        exact .inl (carried hok.2)
      · rename_i k b hg
        split at hci
        · rename_i t ht
          split at hci
          · rename_i htn
            cases hci
            simp only at hok carried
            rcases hok with ⟨he, h1, h2⟩ | ⟨c, he, hcase⟩
            · have hsl := slotOk t (by simp [insSlots])
              rw [he] at hsl
              simp only [Region.wanted, hg, guard_skip' hsl ht]
              exact passed h1 h2
            have hsl := slotOk t (by simp [insSlots])
            rw [he] at hsl
            have hy := guard_val' h.tmps hsl ht htn
            simp only [Region.wanted, hg, hy]
            rcases hcase with ⟨rfl, _, hqv⟩ | ⟨hcb, _, h1, h2⟩
            · simp only [BEq.rfl, if_true]
              exact .inl (carried hqv)
            · have hne : (some c == some b) = false := by subst hcb; cases b <;> rfl
              simp only [hne, Bool.false_eq_true, if_false]
              exact passed h1 h2
          · cases hci
        · cases hci
    · cases hci
end
end Go.Vm
