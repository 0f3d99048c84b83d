/-
  The abstract machine, part 10: operations are translated ('cOp'), and do in the model what the abstract machine says.
-/
import Derived.Test.YtbllbkhkmngclaaVm9
namespace Go.Vm
open Go Go.RowKit

def cVc : Value → Option S
  | .int k n => if (Lit.int k n).wf = true then some (.pure (.int k n)) else none
  | .bool b => some (.pure (.bool b))
  | .string s => if s.size ≤ 1048576 then some (.pure (.str s.data.toList)) else none
  | .pointer none => some (.pure .nilp)
  | .slice none 0 0 => some .empty
  | .nilFunc => some (.pure .nilf)
  | .nilIface => some (.pure .nili)
  | _ => none
def cVs : List Value → Option (List S)
  | [] => some []
  | v :: r => match cVc v, cVs r with
    | some s, some q => some (s :: q)
    | _, _ => none
def cV : Value → Option S
  | .agg cs => (cVs cs.toList).map S.mkAgg
  | v => cVc v
def cO : Operand → Option O
  | .tmp t => some (.s t)
  | .const v => (cV v).map .c
  | .func f => some (.c (.pure (.func (.func f) [] [])))
  | .global _ => none
def cOs : List Operand → Option (List O)
  | [] => some []
  | x :: r => match cO x, cOs r with
    | some o, some q => some (o :: q)
    | _, _ => none
def cOo : Option Operand → Option (Option O)
  | none => some none
  | some x => (cO x).map some
def cParts (P : Program) (fs : Array Field) : List (Nat × Operand) → Option (List (Nat × Nat × O))
  | [] => some []
  | (k, x) :: r => match fs[k]?, cO x, cParts P fs r with
    | some f, some o, some q => some ((f.offset, P.cellsOf f.type, o) :: q)
    | _, _, _ => none

def cPartsA (n : Nat) : List (Nat × Operand) → Option (List (Nat × Nat × O))
  | [] => some []
  | (k, x) :: r => match cO x, cPartsA n r with
    | some o, some q => some ((k * n, n, o) :: q)
    | _, _ => none
/-- the same number twice -/
def cOp (P : Program) (o : Oper) : Option AOp :=
  match o.op with
  | .move x => (cO x).map .mov
  | .assign x => (cO x).map .mov
  | .pick c a b => match cO c, cO a, cO b with
    | some c, some a, some b => some (.pick c a b)
    | _, _, _ => none
  | .alloc t => match P.info? t with
    | some i => match i.zero with
      | some z => (cV z).map fun s => .box (.c s)
      | none => none
    | none => none
  | .box _ x => (cO x).map .box
  | .build t parts => match P.underlying t, P.info? t with
    | some (.struct fs), some i => match i.zero with
      | some z => match cVs z.cells.toList, cParts P fs parts.toList with
        | some zs, some ps => if (fs.toList.all fun f => (P.info? f.type).isSome) = true then some (.build zs ps) else none
        | _, _ => none
      | none => none
    | some (.array _ e), some i => match i.zero, P.info? e with
      | some z, some ie => match cVs z.cells.toList, cPartsA ie.size parts.toList with
        | some zs, some ps => some (.build zs ps)
        | _, _ => none
      | _, _ => none
    | _, _ => none
  | .makeSlice t l c => match P.underlying t with
    | some (.slice e) => match P.info? e, cO l, cO c with
      | some i, some x, some y => match i.zero with
        | some z => match cV z with
          | some s => if s.okv = true ∧ s.cells.length = i.size ∧ 0 < i.size then some (.mksl i.size i.bytes s x y) else none
          | none => none
        | none => none
      | _, _, _ => none
    | _ => none
  | .buildSlice t len parts => match P.underlying t with
    | some (.slice e) => match P.info? e with
      | some i => match i.zero, cOs (parts.toList.map (·.2)) with
        | some _, some os => if parts.toList.map (·.1) = List.range len ∧ len * i.size ≤ 16777216 ∧ 0 < i.size then some (.bslice i.size os) else none
        | _, _ => none
      | none => none
    | _ => none
  | .load t a => match aggT P t, sizeT P t, cO a with
    | some g, some n, some a => some (.load g n a)
    | _, _, _ => none
  | .store t a v => match sizeT P t, cO a, cO v with
    | some n, some a, some v => some (.store n a v)
    | _, _, _ => none
  | .nilCheck x => (cO x).map .nilck
  | .binOp op t x y _ => match cO x, cO y, P.underlying t with
    | some a, some b, some (.int _) => some (.bin op a b)
    | some a, some b, some .bool => match op with
      | .eql => some (.eqb false a b)
      | .neq => some (.eqb true a b)
      | _ => none
    | some a, some b, some (.struct _) => match op, kindsOf P 100 t with
      | .eql, some ks => if P.eqGuardType P.depth t = false then some (.eqv false ks a b) else none
      | .neq, some ks => if P.eqGuardType P.depth t = false then some (.eqv true ks a b) else none
      | _, _ => none
    | some a, some b, some (.array _ _) => match op, kindsOf P 100 t with
      | .eql, some ks => if P.eqGuardType P.depth t = false then some (.eqv false ks a b) else none
      | .neq, some ks => if P.eqGuardType P.depth t = false then some (.eqv true ks a b) else none
      | _, _ => none
    | some a, some _, some (.slice _) => match op, y with
      | .eql, .const (.slice none _ _) => some (.slnil false a)
      | .neq, .const (.slice none _ _) => some (.slnil true a)
      | _, _ => none
    | _, _, _ => none
  | .unOp op _ x => (cO x).map (.un op)
  | .convert src dst x => match P.underlying src, P.underlying dst with
    | some _, some (.int k) => (cO x).map (.conv k)
    | _, _ => none
  | .makeFunc fn f c => match cOs f.toList, cOs c.toList with
    | some fs, some cs => some (.mkfn fn fs cs)
    | _, _ => none
  | .slice t x lo hi mx => match P.underlying t with
    | some (.slice e) => match sizeT P e, cO x, cOo lo, cOo hi, cOo mx with
      | some n, some x, some lo, some hi, some mx => if mx.isSome = true ∧ hi.isSome = false then none else some (.slc n x lo hi mx)
      | _, _, _, _, _ => none
    | _ => none
  | .field t x k => match P.underlying t with
    | some (.struct fs) => match fs[k]? with
      | some f => match aggT P f.type, sizeT P f.type, cO x with
        | some g, some n, some x => some (.fld g f.offset n x)
        | _, _, _ => none
      | none => none
    | _ => none
  | .fieldAddr t x k => match P.underlying t with
    | some (.struct fs) => match fs[k]? with
      | some f => match sizeT P f.type, cO x with
        | some n, some x => if n = 0 then none else some (.fldA f.offset x)
        | _, _ => none
      | none => none
    | _ => none
  | .indexAddr t x i => match P.underlying t with
    | some (.slice e) => match sizeT P e, cO x, cO i with
      | some n, some x, some i => some (.idxA n x i)
      | _, _, _ => none
    | some (.array len e) => match sizeT P e, cO x, cO i with
      | some n, some x, some i => some (.idxAA len n x i)
      | _, _, _ => none
    | _ => none
  | .index t x i => match P.underlying t with
    | some (.array len e) => match aggT P e, sizeT P e, cO x, cO i with
      | some g, some n, some x, some i => some (.idxV g len n x i)
      | _, _, _, _ => none
    | some .string => match cO x, cO i with
      | some x, some i => some (.idxS x i)
      | _, _ => none
    | _ => none
  | .extract x i => (cO x).map (.ext i)
  | .call c => match c.callee with
    | .builtin .len => match c.args.toList, c.argTypes.toList with
      | [x], [t] => match P.underlying t with
        | some (.slice _) => (cO x).map .len
        | some .string => (cO x).map .lenS
        | _ => none
      | _, _ => none
    | .builtin .max => match c.args.toList with
      | [x, y] => match cO x, cO y with
        | some x, some y => some (.mx x y)
        | _, _ => none
      | _ => none
    | .builtin .min => match c.args.toList with
      | [x, y] => match cO x, cO y with
        | some x, some y => some (.mn x y)
        | _, _ => none
      | _ => none
    | .builtin .append => match c.args.toList, c.argTypes.toList with
      | [x, y], [t, u] => match P.underlying t, P.underlying u with
        | some (.slice e), some (.slice _) => match P.info? e, cO x, cO y with
          | some i, some x, some y => match i.zero with
            | some z => if z.cells.size = i.size ∧ 0 < i.size then some (.app i.size i.bytes x y) else none
            | none => none
          | _, _, _ => none
        | _, _ => none
      | _, _ => none
    | .value (.func f) => (cOs c.args.toList).map (.call f)
    | .value x => match cO x, cOs c.args.toList with
      | some x, some q => some (.callv x q)
      | _, _ => none
    | _ => none
  | _ => none

section
variable {P : Program} {w : World} {X : Nat → Prop} {μ : Mu}
theorem cVc_sound {v : Value} {s : S} (h : cVc v = some s) : Rep w X μ v s ∧ s.isCell = true := by
  unfold cVc at h
  split at h
  · split at h
    · cases h; exact ⟨.mkInt (by assumption), rfl⟩
    · cases h
  · cases h; exact ⟨.mkBool, rfl⟩
  · split at h
    · cases h; exact ⟨.pure _ _ (.str _ (by simp only [maxLen]; omega)), rfl⟩
    · cases h
  · cases h; exact ⟨.pure _ _ .nilp, rfl⟩
  · cases h; exact ⟨.empty none (fun _ h => by cases h), rfl⟩
  · cases h; exact ⟨.pure _ _ .nilf, rfl⟩
  · cases h; exact ⟨.pure _ _ .nili, rfl⟩
  · cases h
theorem cVs_sound : ∀ {l : List Value} {ss : List S}, cVs l = some ss → l.length = ss.length ∧ (∀ s ∈ ss, s.isCell = true) ∧ ∀ i, i < ss.length → Rep w X μ (l.getD i undef) (ss.getD i .dead)
  | [], ss, h => by simp [cVs] at h; subst h; simp
  | v :: r, ss, h => by
    simp only [cVs] at h
    split at h
    · rename_i s q hs hq
      cases h
      obtain ⟨h1, h2⟩ := cVc_sound (w := w) (X := X) (μ := μ) hs
      obtain ⟨h3, h4, h5⟩ := cVs_sound hq
      refine ⟨by simp [h3], fun x hx => ?_, fun i hi => ?_⟩
      · rcases List.mem_cons.1 hx with rfl | hx
        · exact h2
        · exact h4 x hx
      · cases i with
        | zero => simpa using h1
        | succ i => simpa using h5 i (by simpa using hi)
    · cases h
theorem cVs_cells {cs : Array Value} {ss : List S} (h : cVs cs.toList = some ss) : Cells w X μ cs ss := by
  obtain ⟨h1, h2, h3⟩ := cVs_sound (w := w) (X := X) (μ := μ) h
  exact ⟨by simpa using h1, h2, fun i hi => by have := h3 i hi; rwa [Array.getD_toList'] at this⟩
theorem cV_sound {v : Value} {s : S} (h : cV v = some s) : Rep w X μ v s := by
  unfold cV at h
  split at h
  · rename_i cs
    cases hc : cVs cs.toList with
    | none => simp [hc] at h
    | some ss =>
      simp [hc] at h
      subst h
      exact (cVs_cells hc).mkAgg
  · exact (cVc_sound h).1

/-- how the operands are evaluated -/
def Evs (w : World) (X : Nat → Prop) (μ : Mu) (ρ : Operand → Value) (env : Env) : Prop := ∀ x o, cO x = some o → Rep w X μ (ρ x) (o.ev env)
theorem evs_of {a : Act} {env : Env} (h : ∀ d, Rep w X μ (a.tmps.getD d undef) (env.get d)) : Evs w X μ a.eval env := by
  intro x o hx
  cases x with
  | tmp t => simp [cO] at hx; subst hx; exact h t
  | const v =>
    cases hv : cV v with
    | none => simp [cO, hv] at hx
    | some s => simp [cO, hv] at hx; subst hx; exact cV_sound hv
  | global g => simp [cO] at hx
  | func f => simp [cO] at hx; subst hx; exact .pure _ _ (.func _ _ _ _ _ rfl rfl (fun i hi => by simp at hi) (fun i hi => by simp at hi))

theorem cOs_sound {ρ : Operand → Value} {env : Env} (hρ : Evs w X μ ρ env) : ∀ {l : List Operand} {os : List O}, cOs l = some os → l.length = os.length ∧ ∀ i, i < os.length → Rep w X μ ((l.map ρ).getD i undef) ((os.map (·.ev env)).getD i .dead)
  | [], os, h => by simp [cOs] at h; subst h; simp
  | x :: r, os, h => by
    simp only [cOs] at h
    split at h
    · rename_i o q ho hq
      cases h
      obtain ⟨h1, h2⟩ := cOs_sound hρ hq
      refine ⟨by simp [h1], fun i hi => ?_⟩
      cases i with
      | zero => simpa using hρ x o ho
      | succ i => simpa using h2 i (by simpa using hi)
    · cases h
theorem cOo_sound {ρ : Operand → Value} {env : Env} (hρ : Evs w X μ ρ env) {l : Option Operand} {o : Option O} (h : cOo l = some o) : BRel w X μ env (l.map ρ) o ∧ (l.isSome = o.isSome) := by
  cases l with
  | none => simp [cOo] at h; subst h; exact ⟨trivial, rfl⟩
  | some x =>
    cases hx : cO x with
    | none => simp [cOo, hx] at h
    | some y => simp [cOo, hx] at h; subst h; exact ⟨hρ x y hx, rfl⟩
theorem cParts_sound {ρ : Operand → Value} {env : Env} (hρ : Evs w X μ ρ env) {fs : Array Field} : ∀ {l : List (Nat × Operand)} {q : List (Nat × Nat × O)}, cParts P fs l = some q →
    Parts w X μ env (fun (k : Nat) => (fs[k]?).map fun (f : Field) => (f.offset, P.cellsOf f.type)) (l.map fun p => (p.1, ρ p.2)) q
  | [], q, h => by simp [cParts] at h; subst h; exact .nil
  | (k, x) :: r, q, h => by
    simp only [cParts] at h
    split at h
    · rename_i f o q' hf ho hq
      cases h
      exact .cons k (ρ x) f.offset (P.cellsOf f.type) o _ _ (by simp [hf]) (hρ x o ho) (cParts_sound hρ hq)
    · cases h
theorem cPartsA_sound {ρ : Operand → Value} {env : Env} (hρ : Evs w X μ ρ env) {n : Nat} : ∀ {l : List (Nat × Operand)} {q : List (Nat × Nat × O)}, cPartsA n l = some q →
    Parts w X μ env (fun (k : Nat) => some (k * n, n)) (l.map fun p => (p.1, ρ p.2)) q
  | [], q, h => by simp [cPartsA] at h; subst h; exact .nil
  | (k, x) :: r, q, h => by
    simp only [cPartsA] at h
    split at h
    · rename_i o q' ho hq
      cases h
      exact .cons k (ρ x) (k * n) n o _ _ rfl (hρ x o ho) (cPartsA_sound hρ hq)
    · cases h
theorem int_at {ρ : Operand → Value} {env : Env} (hρ : Evs w X μ ρ env) {l : Operand} {x : O} (hx : cO l = some x) {k : IntKind} {n : Int} (he : x.ev env = .pure (.int k n)) : ρ l = .int k n := by
  have hl := hρ l x hx
  rw [he] at hl
  exact hl.int_inv.1
end
end Go.Vm
