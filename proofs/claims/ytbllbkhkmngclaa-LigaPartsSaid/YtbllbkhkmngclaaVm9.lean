/-
  The abstract machine, part 9: slices written out, values built, structs held against each other.
-/
import Derived.ChangeKeysEq
import Derived.Test.YtbllbkhkmngclaaVm8
namespace Go.Vm
open Go Go.RowKit

theorem fillSeq (size : Nat) (hpos : 0 < size) : ∀ (vs : List Value) (k : Nat) (cs : Array Value), (∀ v ∈ vs, v.cells.size = size) → (k + vs.length) * size ≤ cs.size →
    ∃ cs', Instr.fill (fun i => some (i * size, size)) cs ((vs.zipIdx k).map fun p => (p.2, p.1)) = some cs' ∧ cs'.size = cs.size ∧
      (∀ i j, i < vs.length → j < size → cs'.getD ((k + i) * size + j) undef = (vs.getD i undef).cells.getD j undef) ∧ (∀ n, n < k * size → cs'.getD n undef = cs.getD n undef)
  | [], k, cs, _, _ => ⟨cs, rfl, rfl, fun i j hi => by simp at hi, fun _ _ => rfl⟩
  | v :: r, k, cs, hv, hsz => by
    have h0 : v.cells.size = size := hv v (by simp)
    have h1 : (k + 1) * size ≤ cs.size := by
      refine Nat.le_trans (Nat.mul_le_mul_right _ ?_) hsz
      simp
    rw [Nat.add_mul] at h1
    have hfit : k * size + v.cells.toList.length ≤ cs.size := by simp [h0]; omega
    have hsz1 := take_splice cs (k * size) v.cells.toList hfit
    have hget1 := getD_splice cs (k * size) v.cells.toList hfit
    have hst := fill_step v (k * size) cs (by omega)
    simp only [Array.length_toList] at hget1 hsz1
    generalize (cs.toList.take (k * size) ++ v.cells.toList ++ cs.toList.drop (k * size + v.cells.size)).toArray = c1 at *
    obtain ⟨cs', h2, h3, h4, h5⟩ := fillSeq size hpos r (k + 1) c1 (fun v hv' => hv v (by simp [hv'])) (by rw [hsz1]; simp only [List.length_cons] at hsz; rw [show k + 1 + r.length = k + (r.length + 1) by omega]; exact hsz)
    refine ⟨cs', ?_, by rw [h3, hsz1], ?_, ?_⟩
    · simp only [List.zipIdx_cons, List.map_cons, Instr.fill]
      rw [if_neg (by simp; omega), hst]
      exact h2
    · intro i j hi hj
      cases i with
      | zero =>
        rw [Nat.add_zero, h5 _ (by rw [Nat.add_mul]; omega), hget1, if_pos ⟨by omega, by omega⟩, Array.getD_toList']
        simp [show k * size + j - k * size = j by omega]
      | succ i =>
        have := h4 i j (by simpa using hi) hj
        rw [show k + (i + 1) = k + 1 + i by omega, this]
        rfl
    · intro n hn
      rw [h5 n (by rw [Nat.add_mul]; omega), hget1, if_neg (by omega)]

theorem bslice_soundN {P : Program} {w : World} {μ : Mu} {H : Heap} (hrep : HRep w μ H) {t e : TypeId} {i : TypeInfo} {z : Value} (ht : P.underlying t = some (.slice e)) (hi : P.info? e = some i) (hz : i.zero = some z) (hpos : 0 < i.size)
    {vs : List Value} {ss : List S} (hl : vs.length = ss.length) (hsz : ss.length * i.size ≤ 16777216) (hok : ∀ s ∈ ss, s.okv = true ∧ s.cells.length = i.size) (hrep' : ∀ k, k < ss.length → Rep w (excl μ H) μ (vs.getD k undef) (ss.getD k .dead))
    {H1 : Heap} {nb : Nat} (hnb : μ nb = none) (hN : H1[nb]? = some ⟨ss, i.size, .live⟩) (hl1 : H.length ≤ H1.length) (h1 : ∀ (b : Nat) (r : Row), b ≠ nb → H1[b]? = some r → r.st ≠ .dead → H[b]? = some r) :
    ∃ v w' μ', (Instr.buildSlice t ss.length ((vs.zipIdx).map fun p => (p.2, p.1)).toArray).run P w = .ok v w' ∧ Step w μ H w' μ' H1 v (.rsl nb 0 ss.length) ∧ ∀ b, b ≠ nb → μ' b = μ b := by
  have hcells : ∀ k, k < ss.length → Cells w (excl μ H) μ (vs.getD k undef).cells (ss.getD k .dead).cells ∧ (ss.getD k .dead).cells.length = i.size := by
    intro k hk
    have hm : ss.getD k .dead ∈ ss := by
      rw [List.getD_eq_getElem?_getD, List.getElem?_eq_getElem hk]
      exact List.getElem_mem _
    exact ⟨(hrep' k hk).toCells (hok _ hm).1, (hok _ hm).2⟩
  have hvs : ∀ v ∈ vs, v.cells.size = i.size := by
    intro v hv
    obtain ⟨k, hk, rfl⟩ := List.mem_iff_getElem.1 hv
    obtain ⟨h1, h2⟩ := hcells k (by omega)
    have := h1.len
    rw [List.getD_eq_getElem?_getD, List.getElem?_eq_getElem hk] at this
    simp only [Option.getD_some] at this
    omega
  have fin : ∀ z0 : Array Value, ∃ cs', Instr.fill (fun k => some (k * i.size, i.size)) ((Array.range (ss.length * i.size)).map (z0[· % z0.size]!)) ((vs.zipIdx).map fun p => (p.2, p.1)) = some cs' ∧
      ∃ μ', Step w μ H (w.alloc (.cells cs' e)) μ' H1 (.slice (some ⟨w.heap.size, 0, none⟩) ss.length ss.length) (.rsl nb 0 ss.length) ∧ ∀ b, b ≠ nb → μ' b = μ b := by
    intro z0
    obtain ⟨cs', h2, h3, h4, _⟩ := fillSeq i.size hpos vs 0 ((Array.range (ss.length * i.size)).map (z0[· % z0.size]!)) hvs (by simp [hl])
    simp only [Array.size_map, Array.size_range] at h3
    refine ⟨cs', h2, ?_⟩
    obtain ⟨μ', hst⟩ := Step.of_pushN hrep cs' e ss i.size hpos (fun s hs => (hok s hs).2) (fun s hs => by
        obtain ⟨k, hk, rfl⟩ := List.mem_iff_getElem.1 hs
        have := (hcells k hk).1.ok
        rw [List.getD_eq_getElem?_getD, List.getElem?_eq_getElem hk] at this
        exact this) (by omega) (fun k j hk hj => by
        have := h4 k j (by omega) hj
        rw [Nat.zero_add] at this
        rw [this]
        exact (hcells k hk).1.rep j (by rw [(hcells k hk).2]; exact hj)) (v := .slice (some ⟨w.heap.size, 0, none⟩) ss.length ss.length) (s := .rsl nb 0 ss.length) hnb hN hl1 h1 (fun μ' hl' => by
        have h9 : ss.length ≤ maxLen := by
          have : ss.length * 1 ≤ ss.length * i.size := Nat.mul_le_mul_left _ hpos
          simp only [maxLen]
          omega
        have := Rep.rsl (w := w.alloc (.cells cs' e)) (X := excl μ' H1) (μ := μ') nb 0 ss.length ss.length _ hl' rfl (Nat.le_refl _) h9 (by simp [h3])
        simpa using this)
    exact ⟨μ', hst⟩
  have hb : ¬ (16777216 < ss.length * i.size) := by omega
  by_cases h0 : ss.length * i.size = 0
  · obtain ⟨cs', g1, μ', h2⟩ := fin #[]
    refine ⟨_, _, μ', ?_, h2⟩
    simp only [Instr.buildSlice, Sem.run_bind, run_underlying ht, Result.andThen_ok, sizeOf, typeInfo, run_program, hi, Sem.run_pure, Sem.run_ite]
    rw [if_neg (by omega), if_pos h0]
    simp only [Result.andThen_ok, g1, newRow, Sem.run_bind, run_newObj, Sem.run_pure]
    rfl
  · obtain ⟨cs', g1, μ', h2⟩ := fin z.cells
    refine ⟨_, _, μ', ?_, h2⟩
    simp only [Instr.buildSlice, Sem.run_bind, run_underlying ht, Result.andThen_ok, sizeOf, typeInfo, run_program, hi, Sem.run_pure]
    simp [hb, h0, zeroValue, typeInfo, hi, hz, g1, newRow]

theorem bslice_sound {P : Program} {w : World} {μ : Mu} {H : Heap} (hrep : HRep w μ H) {t e : TypeId} {i : TypeInfo} {z : Value} (ht : P.underlying t = some (.slice e)) (hi : P.info? e = some i) (hz : i.zero = some z) (hpos : 0 < i.size)
    {vs : List Value} {ss : List S} (hl : vs.length = ss.length) (hsz : ss.length * i.size ≤ 16777216) (hok : ∀ s ∈ ss, s.okv = true ∧ s.cells.length = i.size) (hrep' : ∀ k, k < ss.length → Rep w (excl μ H) μ (vs.getD k undef) (ss.getD k .dead)) :
    ∃ v w' μ', (Instr.buildSlice t ss.length ((vs.zipIdx).map fun p => (p.2, p.1)).toArray).run P w = .ok v w' ∧ Step w μ H w' μ' (H ++ [⟨ss, i.size, .live⟩]) v (.rsl H.length 0 ss.length) := by
  obtain ⟨p1, p2, p3⟩ := push_rows (r0 := ⟨ss, i.size, .live⟩) (H := H) rfl (fun _ _ h _ => h)
  obtain ⟨v, w', μ', h1, h2, _⟩ := bslice_soundN (P := P) hrep ht hi hz hpos hl hsz hok hrep' hrep.fresh p1 p2 p3
  exact ⟨v, w', μ', h1, h2⟩

/-! ### rows of zeros -/
theorem made_get {zc : Array Value} {n k j : Nat} (hk : k < n) (hj : j < zc.size) : (madeCells zc (n * zc.size)).getD (k * zc.size + j) undef = zc.getD j undef := by
  have h1 : k * zc.size + j < n * zc.size := by
    have : (k + 1) * zc.size ≤ n * zc.size := Nat.mul_le_mul_right _ hk
    rw [Nat.succ_mul] at this
    omega
  have h2 : (k * zc.size + j) % zc.size = j := by
    rw [Nat.add_comm, Nat.add_mul_mod_self_right, Nat.mod_eq_of_lt hj]
  simp only [madeCells, Array.getD_eq_getD_getElem?, Array.getElem?_map, Array.getElem?_range, h1, if_true, Option.map_some, Option.getD_some, h2]
  rw [getElem!_pos zc j hj, Array.getElem?_eq_getElem hj]
  rfl
theorem mksl_soundN {P : Program} {w : World} {μ : Mu} {H : Heap} (hrep : HRep w μ H) {t e : TypeId} {i : TypeInfo} {z : Value} (ht : P.underlying t = some (.slice e)) (hi : P.info? e = some i) (hz : i.zero = some z) (hpos : 0 < i.size)
    {s : S} (hok : s.okv = true) (hs : s.cells.length = i.size) (hrep' : Rep w (excl μ H) μ z s) {kl kc : IntKind} {n c : Int} (h0 : 0 ≤ n) (hnc : n ≤ c) (hb : i.bytes * c.toNat ≤ 281474976710656) (hm : c.toNat ≤ maxLen)
    {H1 : Heap} {nb : Nat} (hnb : μ nb = none) (hN : H1[nb]? = some ⟨List.replicate c.toNat s, i.size, .live⟩) (hl1 : H.length ≤ H1.length) (h1 : ∀ (b : Nat) (r : Row), b ≠ nb → H1[b]? = some r → r.st ≠ .dead → H[b]? = some r) :
    ∃ v w' μ', (Instr.makeSlice t (.int kl n) (.int kc c)).run P w = .ok v w' ∧ Step w μ H w' μ' H1 v (.rsl nb 0 n.toNat) ∧ ∀ b, b ≠ nb → μ' b = μ b := by
  obtain ⟨m0, rfl⟩ := Int.eq_ofNat_of_zero_le h0
  obtain ⟨m, rfl⟩ := Int.eq_ofNat_of_zero_le (Int.le_trans h0 hnc)
  have hmm : m0 ≤ m := by omega
  simp only [Int.toNat_natCast] at *
  have hc := hrep'.toCells hok
  have hzs : z.cells.size = i.size := by rw [hc.len, hs]
  have hm' : (m : Int) ≤ 9223372036854775807 := by
    simp only [maxLen] at hm
    omega
  have hb' : (i.bytes : Int) * (m : Int) ≤ 281474976710656 := by
    have h : ((i.bytes * m : Nat) : Int) ≤ 281474976710656 := by omega
    rwa [Int.natCast_mul] at h
  have hr := run_make (P := P) w t e i z ht hi hz kl kc (m0 : Int) (m : Int) (by omega) hnc hb' hm'
  simp only [Int.toNat_natCast] at hr
  have hone : ∀ x ∈ List.replicate m s, x = s := fun x hx => (List.mem_replicate.1 hx).2
  obtain ⟨μ', hst, hμ⟩ := Step.of_pushN hrep (madeCells z.cells (m * i.size)) e (List.replicate m s) i.size hpos (fun x hx => by rw [hone x hx]; exact hs) (fun x hx => by rw [hone x hx]; exact hc.ok) (by rw [size_madeCells]; simp) (fun k j hk hj => by
      have hk' : k < m := by simpa using hk
      have := made_get (zc := z.cells) hk' (by rw [hzs]; exact hj)
      rw [hzs] at this
      rw [this]
      have e2 : (List.replicate m s).getD k .dead = s := by rw [List.getD_eq_getElem?_getD, List.getElem?_replicate, if_pos hk']; rfl
      rw [e2]
      exact hc.rep j (by rw [hs]; exact hj)) (v := .slice (some ⟨w.heap.size, 0, none⟩) m0 m) (s := .rsl nb 0 m0) hnb hN hl1 h1 (fun μ' hl' => by
      have := Rep.rsl (w := w.alloc (.cells (madeCells z.cells (m * i.size)) e)) (X := excl μ' H1) (μ := μ') nb 0 m0 m _ hl' rfl hmm hm (by simp [size_madeCells])
      simpa using this)
  exact ⟨_, _, μ', hr, hst, hμ⟩
theorem mksl_sound {P : Program} {w : World} {μ : Mu} {H : Heap} (hrep : HRep w μ H) {t e : TypeId} {i : TypeInfo} {z : Value} (ht : P.underlying t = some (.slice e)) (hi : P.info? e = some i) (hz : i.zero = some z) (hpos : 0 < i.size)
    {s : S} (hok : s.okv = true) (hs : s.cells.length = i.size) (hrep' : Rep w (excl μ H) μ z s) {kl kc : IntKind} {n c : Int} (h0 : 0 ≤ n) (hnc : n ≤ c) (hb : i.bytes * c.toNat ≤ 281474976710656) (hm : c.toNat ≤ maxLen) :
    ∃ v w' μ', (Instr.makeSlice t (.int kl n) (.int kc c)).run P w = .ok v w' ∧ Step w μ H w' μ' (H ++ [⟨List.replicate c.toNat s, i.size, .live⟩]) v (.rsl H.length 0 n.toNat) := by
  obtain ⟨p1, p2, p3⟩ := push_rows (r0 := ⟨List.replicate c.toNat s, i.size, .live⟩) (H := H) rfl (fun _ _ h _ => h)
  obtain ⟨v, w', μ', h1, h2, _⟩ := mksl_soundN (P := P) hrep ht hi hz hpos hok hs hrep' (kl := kl) (kc := kc) h0 hnc hb hm hrep.fresh p1 p2 p3
  exact ⟨v, w', μ', h1, h2⟩

/-! ### structs -/
theorem run_places {P : Program} {w : World} (fs : List Field) (h : ∀ f ∈ fs, (P.info? f.type).isSome = true) :
    (fs.mapM (m := Sem) fun (f : Field) => do pure (f.offset, ← sizeOf f.type)).run P w = .ok (fs.map fun (f : Field) => (f.offset, P.cellsOf f.type)) w := by
  induction fs with
  | nil => rfl
  | cons f r ih =>
    obtain ⟨i, hi⟩ := Option.isSome_iff_exists.1 (h f (by simp))
    have := ih (fun g hg => h g (by simp [hg]))
    have e1 : (do pure (f.offset, ← sizeOf f.type) : Sem (Nat × Nat)).run P w = .ok (f.offset, P.cellsOf f.type) w := by simp [sizeOf, typeInfo, hi, Program.cellsOf]
    rw [List.mapM_cons, Sem.run_bind, e1, Result.andThen_ok, Sem.run_bind, this]
    rfl

theorem build_sound {P : Program} {w : World} {X : Nat → Prop} {μ : Mu} {env : Env} {t : TypeId} {i : TypeInfo} {z : Value} {fs : Array Field} (ht : P.underlying t = some (.struct fs)) (hi : P.info? t = some i) (hz : i.zero = some z)
    (hfs : ∀ f ∈ fs.toList, (P.info? f.type).isSome = true) {zs ss : List S} (hzc : Cells w X μ z.cells zs) {l : List (Nat × Value)} {q : List (Nat × Nat × O)}
    (hp : Parts w X μ env (fun (k : Nat) => (fs[k]?).map fun (f : Field) => (f.offset, P.cellsOf f.type)) l q) (h : fillA env zs q = some ss) :
    ∃ v, (Instr.build t l.toArray).run P w = .ok v w ∧ Rep w X μ v (S.mkAgg ss) := by
  obtain ⟨cs', h1, h2⟩ := fill_sound hp hzc h
  refine ⟨.agg cs', ?_, h2.mkAgg⟩
  have hpl := run_places (P := P) (w := w) fs.toList hfs
  have hpa : (fs.mapM (m := Sem) fun (f : Field) => do pure (f.offset, ← sizeOf f.type)).run P w = .ok (fs.map fun (f : Field) => (f.offset, P.cellsOf f.type)) w := by
    rw [Array.mapM_eq_mapM_toList]
    simp only [Sem.run_map, hpl, Result.andThen_ok]
    congr 1
    apply Array.ext'
    simp
  have hplace : (fun (k : Nat) => (fs.map fun (f : Field) => (f.offset, P.cellsOf f.type))[k]?) = (fun (k : Nat) => (fs[k]?).map fun (f : Field) => (f.offset, P.cellsOf f.type)) := by
    funext k; simp
  simp only [Instr.build, zeroValue, typeInfo, Sem.run_bind, run_program, Result.andThen_ok, hi, hz, Sem.run_pure, run_underlying ht, hpa]
  rw [hplace]
  simp [h1]

theorem build_soundA {P : Program} {w : World} {X : Nat → Prop} {μ : Mu} {env : Env} {t e : TypeId} {len : Nat} {i ie : TypeInfo} {z : Value} (ht : P.underlying t = some (.array len e)) (hi : P.info? t = some i) (hz : i.zero = some z) (hie : P.info? e = some ie)
    {zs ss : List S} (hzc : Cells w X μ z.cells zs) {l : List (Nat × Value)} {q : List (Nat × Nat × O)}
    (hp : Parts w X μ env (fun (k : Nat) => some (k * ie.size, ie.size)) l q) (h : fillA env zs q = some ss) :
    ∃ v, (Instr.build t l.toArray).run P w = .ok v w ∧ Rep w X μ v (S.mkAgg ss) := by
  obtain ⟨cs', h1, h2⟩ := fill_sound hp hzc h
  refine ⟨.agg cs', ?_, h2.mkAgg⟩
  simp only [Instr.build, zeroValue, typeInfo, sizeOf, Sem.run_bind, run_program, Result.andThen_ok, hi, hz, hie, Sem.run_pure, run_underlying ht]
  simp [h1]

theorem V.eqs_append : ∀ (k1 k2 : List CK) (a b : List V) (r : Bool), V.eqs (k1 ++ k2) a b = some r →
    ∃ r1 r2, V.eqs k1 (a.take k1.length) (b.take k1.length) = some r1 ∧ V.eqs k2 (a.drop k1.length) (b.drop k1.length) = some r2 ∧ r = (r1 && r2)
  | [], k2, a, b, r, h => ⟨true, r, by simp [V.eqs], by simpa using h, by simp⟩
  | k :: k1, k2, a, b, r, h => by
    simp only [List.cons_append] at h
    cases a with
    | nil => simp [V.eqs] at h
    | cons x a =>
      cases b with
      | nil => simp [V.eqs] at h
      | cons y b =>
        simp only [V.eqs] at h
        split at h
        · rename_i u v hu hv
          obtain ⟨r1, r2, h1, h2, h3⟩ := V.eqs_append k1 k2 a b v hv
          simp only [Option.some.injEq] at h
          refine ⟨u && r1, r2, by simp [V.eqs, hu, h1], by simpa using h2, by rw [← h, h3, Bool.and_assoc]⟩
        · cases h
theorem V.eqs_len : ∀ (ks : List CK) (a b : List V) (r : Bool), V.eqs ks a b = some r → a.length = ks.length ∧ b.length = ks.length
  | [], [], [], _, _ => ⟨rfl, rfl⟩
  | [], [], _ :: _, _, h => by simp [V.eqs] at h
  | [], _ :: _, _, _, h => by simp [V.eqs] at h
  | k :: ks, [], _, _, h => by simp [V.eqs] at h
  | k :: ks, _ :: _, [], _, h => by simp [V.eqs] at h
  | k :: ks, x :: a, y :: b, r, h => by
    simp only [V.eqs] at h
    split at h
    · rename_i u v hu hv
      have := V.eqs_len ks a b v hv
      simp [this]
    · cases h

def kindsFs (P : Program) (k : TypeId → Option (List CK)) : List Field → Nat → Option (List CK)
  | [], _ => some []
  | f :: r, o => if f.name = "_" ∨ f.offset ≠ o then none else match k f.type with
    | some ks => if sizeT P f.type = some ks.length ∧ ks ≠ [] then (match kindsFs P k r (o + ks.length) with
      | some q => some (ks ++ q)
      | none => none) else none
    | none => none
def kindsN (ks : List CK) : Nat → List CK
  | 0 => []
  | n + 1 => ks ++ kindsN ks n
/-- the kinds of the cells of a type whose values are held against each other cell by cell -/
def kindsOf (P : Program) : Nat → TypeId → Option (List CK)
  | 0, _ => none
  | d + 1, t => match P.underlying t with
    | some .bool => some [.b]
    | some (.int _) => some [.i]
    | some .string => some [.s]
    | some (.struct fs) => if P.stoodInHeld t = true then none else kindsFs P (kindsOf P d) fs.toList 0
    | some (.array n e) => match kindsOf P d e with
      | some ks => if sizeT P e = some ks.length ∧ ks ≠ [] then some (kindsN ks n) else none
      | none => none
    | _ => none

structure VC (w : World) (X : Nat → Prop) (agg : Bool) (v : Value) (a : List V) : Prop where
  len : v.cells.size = a.length
  rep : ∀ j, j < a.length → PRep w X (v.cells.getD j undef) (a.getD j default)
  ok : ∀ x ∈ a, x.isCell = true
  one : agg = false → v.cells = #[v]
  isA : agg = true → ∃ cs, v = .agg cs

theorem eq_cell {P : Program} {w : World} {X : Nat → Prop} {d : Nat} {t : TypeId} {k : CK} {x y : Value} {a b : V} {r : Bool} (hx : PRep w X x a) (hy : PRep w X y b)
    (ht : (k = .b ∧ P.underlying t = some .bool) ∨ (k = .i ∧ ∃ i, P.underlying t = some (.int i)) ∨ (k = .s ∧ P.underlying t = some .string)) (h : V.eqb k a b = some r) : (Op.equalIn (d + 1) t x y).run P w = .ok r w := by
  rcases ht with ⟨rfl, ht⟩ | ⟨rfl, i, ht⟩ | ⟨rfl, ht⟩
  · cases a <;> cases b <;> simp [V.eqb] at h
    cases hx; cases hy; subst h
    exact run_equalIn_bool' w d t _ _ ht
  · cases a <;> cases b <;> simp [V.eqb] at h
    cases hx; cases hy
    obtain ⟨rfl, rfl⟩ := h
    exact run_equalIn_int w d t _ i _ _ ht
  · cases a <;> cases b <;> simp [V.eqb] at h
    cases hx; cases hy; subst h
    rw [run_equalIn_string w d t _ _ ht, ByteArray.toList_eq, ByteArray.toList_eq]

theorem part_vc {P : Program} {w : World} {X : Nat → Prop} {t : TypeId} {n off : Nat} {agg : Bool} (ha : aggT P t = some agg) (hn : sizeT P t = some n) (h1 : agg = false → n = 1) {cs : Array Value} {a : List V} (hl : cs.size = a.length)
    (hr : ∀ j, j < a.length → PRep w X (cs.getD j undef) (a.getD j default)) (hok : ∀ x ∈ a, x.isCell = true) (hle : off + n ≤ a.length) : ∃ v, (part t cs off).run P w = .ok v w ∧ VC w X agg v ((a.drop off).take n) := by
  cases agg with
  | true =>
    refine ⟨.agg (cs.extract off (off + n)), by simp [part, run_isAgg ha, run_sizeT hn], by simp [Value.cells]; omega, (fun j hj => ?_), (fun x hx => hok x (List.mem_of_mem_drop (List.mem_of_mem_take hx))), (fun h => by cases h), (fun _ => ⟨_, rfl⟩)⟩
    have hj' : j < n := by simp at hj; omega
    have := hr (off + j) (by omega)
    simp only [Value.cells, Array.getD_eq_getD_getElem?, List.getD_eq_getElem?_getD] at this ⊢
    rw [List.getElem?_take_of_lt hj', List.getElem?_drop, Array.getElem?_extract, if_pos (by omega)]
    exact this
  | false =>
    obtain rfl := h1 rfl
    obtain ⟨v, hv⟩ : ∃ v, cs[off]? = some v := ⟨_, Array.getElem?_eq_getElem (by omega)⟩
    have h2 := hr off (by omega)
    rw [Array.getD_eq_getD_getElem?, hv] at h2
    obtain ⟨x, hx⟩ : ∃ x, a[off]? = some x := ⟨_, List.getElem?_eq_getElem (by omega)⟩
    rw [List.getD_eq_getElem?_getD, hx] at h2
    have hone : v.cells = #[v] := by
      simp only [Option.getD_some] at h2
      exact (h2.one (hok x (List.mem_of_getElem? hx))).1
    refine ⟨v, by simp [part, run_isAgg ha, hv], ?_, ?_, (fun x hx => hok x (List.mem_of_mem_drop (List.mem_of_mem_take hx))), (fun _ => hone), (fun h => by cases h)⟩
    · simp [hone]; omega
    · intro j hj
      obtain rfl : j = 0 := by simp at hj; omega
      rw [hone]
      simp only [List.getD_eq_getElem?_getD]
      rw [List.getElem?_take_of_lt (by omega), List.getElem?_drop, Nat.add_zero, hx]
      exact h2

theorem kindsOf_agg {P : Program} {d : Nat} {t : TypeId} {ks : List CK} (h : kindsOf P d t = some ks) : ∃ agg, aggT P t = some agg ∧ (agg = false → ks.length = 1) := by
  cases d with
  | zero => simp [kindsOf] at h
  | succ d =>
    simp only [kindsOf] at h
    split at h
    · rename_i ht; cases h; exact ⟨false, by simp [aggT, ht], fun _ => rfl⟩
    · rename_i ht; cases h; exact ⟨false, by simp [aggT, ht], fun _ => rfl⟩
    · rename_i ht; cases h; exact ⟨false, by simp [aggT, ht], fun _ => rfl⟩
    · rename_i ht; exact ⟨true, by simp [aggT, ht], fun h => by cases h⟩
    · rename_i ht; exact ⟨true, by simp [aggT, ht], fun h => by cases h⟩
    · cases h

theorem eqv_sound {P : Program} {w : World} {X : Nat → Prop} : ∀ (d : Nat) (d' : Nat) (t : TypeId) (ks : List CK), kindsOf P d t = some ks → ∀ (agg : Bool) (xv yv : Value) (a b : List V) (r : Bool), aggT P t = some agg → VC w X agg xv a → VC w X agg yv b →
    V.eqs ks a b = some r → (Op.equalIn (d + d') t xv yv).run P w = .ok r w
  | 0, _, _, _, h, _, _, _, _, _, _ => by simp [kindsOf] at h
  | d + 1, d', t, ks, h, agg, xv, yv, a, b, r => by
    intro hagg hx hy he
    have hd : d + 1 + d' = (d + d') + 1 := by omega
    rw [hd]
    have cell : ∀ k, ks = [k] → aggT P t = some false → ((k = .b ∧ P.underlying t = some .bool) ∨ (k = .i ∧ ∃ i, P.underlying t = some (.int i)) ∨ (k = .s ∧ P.underlying t = some .string)) → (Op.equalIn (d + d' + 1) t xv yv).run P w = .ok r w := by
      intro k hk hf ht
      subst hk
      rw [hf] at hagg
      cases hagg
      obtain ⟨hl1, hl2⟩ := V.eqs_len _ _ _ _ he
      have e1 := hx.one rfl
      have e2 := hy.one rfl
      obtain ⟨x0, rfl⟩ := List.length_eq_one_iff.1 hl1
      obtain ⟨y0, rfl⟩ := List.length_eq_one_iff.1 hl2
      have r1 := hx.rep 0 (by simp)
      have r2 := hy.rep 0 (by simp)
      rw [e1] at r1
      rw [e2] at r2
      simp only [V.eqs] at he
      split at he
      · rename_i u v hu hv
        simp only [Option.some.injEq] at hv he
        subst hv
        simp at he
        subst he
        exact eq_cell r1 r2 ht hu
      · cases he
    simp only [kindsOf] at h
    split at h
    · rename_i ht; cases h; exact cell .b rfl (by simp [aggT, ht]) (.inl ⟨rfl, ht⟩)
    · rename_i i ht; cases h; exact cell .i rfl (by simp [aggT, ht]) (.inr (.inl ⟨rfl, i, ht⟩))
    · rename_i ht; cases h; exact cell .s rfl (by simp [aggT, ht]) (.inr (.inr ⟨rfl, ht⟩))
    · rename_i fs ht
      split at h
      · cases h
      · rename_i hst
        have hag : aggT P t = some true := by simp [aggT, ht]
        rw [hag] at hagg
        cases hagg
        obtain ⟨xs, rfl⟩ := hx.isA rfl
        obtain ⟨ys, rfl⟩ := hy.isA rfl
        have hfo : P.fieldsOf t = fs := by simp [Program.fieldsOf, ht]
        rw [run_equalIn_struct w (d + d') t xs ys (by rw [hfo]; exact ht) (by simpa using hst), hfo]
        have go : ∀ (fl : List Field) (o : Nat) (q : List CK), kindsFs P (kindsOf P d) fl o = some q → ∀ (r : Bool), V.eqs q (a.drop o) (b.drop o) = some r → (Op.eqFields (d + d') xs ys fl).run P w = .ok r w := by
          intro fl
          induction fl with
          | nil =>
            intro o q hq r hr
            simp [kindsFs] at hq
            subst hq
            have : r = true := by
              generalize a.drop o = a1 at hr
              generalize b.drop o = b1 at hr
              cases a1 <;> cases b1 <;> simp [V.eqs] at hr
              exact hr
            subst this
            simp [Op.eqFields]
          | cons f rest ih =>
            intro o q hq r hr
            simp only [kindsFs] at hq
            split at hq
            · cases hq
            · rename_i hcnd
              have hnm : f.name ≠ "_" := fun h => hcnd (.inl h)
              have hoff : f.offset = o := Decidable.byContradiction fun h => hcnd (.inr h)
              split at hq
              · rename_i kf hkf
                split at hq
                · rename_i hsz
                  split at hq
                  · rename_i q' hq'
                    cases hq
                    obtain ⟨r1, r2, h1, h2, h3⟩ := V.eqs_append _ _ _ _ _ hr
                    obtain ⟨fagg, hfa, hf1⟩ := kindsOf_agg hkf
                    obtain ⟨l1, l2⟩ := V.eqs_len _ _ _ _ hr
                    simp only [List.length_append, List.length_drop] at l1 l2
                    have h0 : 0 < kf.length := List.length_pos_iff.2 hsz.2
                    have hle1 : o + kf.length ≤ a.length := by omega
                    have hle2 : o + kf.length ≤ b.length := by omega
                    obtain ⟨u, hu, vu⟩ := part_vc (P := P) hfa hsz.1 hf1 hx.len hx.rep hx.ok hle1
                    obtain ⟨v, hv, vv⟩ := part_vc (P := P) hfa hsz.1 hf1 hy.len hy.rep hy.ok hle2
                    have heq := eqv_sound d d' f.type kf hkf _ _ _ _ _ _ hfa vu vv h1
                    rw [List.drop_drop, List.drop_drop] at h2
                    have hrest := ih (o + kf.length) q' hq' _ h2
                    simp only [Value.cells] at hu hv
                    simp only [Op.eqFields]
                    rw [if_pos hnm, hoff]
                    simp only [Sem.run_bind, hu, hv, heq, Result.andThen_ok, Sem.run_ite]
                    cases r1
                    · simp [h3]
                    · simp [h3, hrest]
                  · cases hq
                · cases hq
              · cases hq
        exact go fs.toList 0 ks h _ (by simpa using he)
    · rename_i n e ht
      split at h
      · rename_i ke hke
        split at h
        · rename_i hsz
          cases h
          have hag : aggT P t = some true := by simp [aggT, ht]
          rw [hag] at hagg
          cases hagg
          obtain ⟨xs, rfl⟩ := hx.isA rfl
          obtain ⟨ys, rfl⟩ := hy.isA rfl
          obtain ⟨ie, hie⟩ : ∃ i, P.info? e = some i := by
            cases hi : P.info? e with
            | none => simp [sizeT, hi] at hsz
            | some i => exact ⟨i, rfl⟩
          have hce : P.cellsOf e = ke.length := by
            have := hsz.1
            simp [sizeT, hie] at this
            simp [Program.cellsOf, hie, this]
          rw [run_equalIn_array w (d + d') xs ys ht hie, hce, List.range_eq_range']
          have go : ∀ (m k : Nat) (r : Bool), V.eqs (kindsN ke m) (a.drop (k * ke.length)) (b.drop (k * ke.length)) = some r → (Op.eqItems (d + d') e ke.length xs ys (List.range' k m)).run P w = .ok r w := by
            intro m
            induction m with
            | zero =>
              intro k r hr
              simp only [kindsN] at hr
              have : r = true := by
                generalize a.drop (k * ke.length) = a1 at hr
                generalize b.drop (k * ke.length) = b1 at hr
                cases a1 <;> cases b1 <;> simp [V.eqs] at hr
                exact hr
              subst this
              simp [Op.eqItems]
            | succ m ih =>
              intro k r hr
              simp only [kindsN] at hr
              obtain ⟨r1, r2, h1, h2, h3⟩ := V.eqs_append _ _ _ _ _ hr
              obtain ⟨fagg, hfa, hf1⟩ := kindsOf_agg hke
              obtain ⟨l1, l2⟩ := V.eqs_len _ _ _ _ hr
              simp only [List.length_append, List.length_drop] at l1 l2
              have h0 : 0 < ke.length := List.length_pos_iff.2 hsz.2
              have hle1 : k * ke.length + ke.length ≤ a.length := by omega
              have hle2 : k * ke.length + ke.length ≤ b.length := by omega
              obtain ⟨u, hu, vu⟩ := part_vc (P := P) hfa hsz.1 hf1 hx.len hx.rep hx.ok hle1
              obtain ⟨v, hv, vv⟩ := part_vc (P := P) hfa hsz.1 hf1 hy.len hy.rep hy.ok hle2
              have heq := eqv_sound d d' e ke hke _ _ _ _ _ _ hfa vu vv h1
              rw [List.drop_drop, List.drop_drop, ← Nat.succ_mul] at h2
              have hrest := ih (k + 1) _ h2
              simp only [Value.cells] at hu hv
              rw [List.range'_succ]
              simp only [Op.eqItems, Sem.run_bind, hu, hv, heq, Result.andThen_ok]
              cases r1
              · simp [h3]
              · simp [h3, hrest]
          exact go n 0 _ (by simpa using he)
        · cases h
      · cases h
    · cases h

end Go.Vm
