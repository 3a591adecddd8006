/- A small semantics of loaded Go code that the kernel can run, part 8. -/
import Derived.Test.YtgdbbmckmphnhaaLsG5
import Derived.SizedLaws
import Derived.OpenShut
import Derived.Carry
import Derived.ChangeShapes
import Derived.Test.YtgdbbmckmphnhaaLsG6
import Derived.Test.YtgdbbmckmphnhaaLsG7
set_option linter.unusedVariables false
set_option linter.unusedSimpArgs false
namespace Go.LS
inductive Cty where
  | bool
  | int (k : IntKind)
  | str
  | sl (ts : List Cty) (bytes : Nat)
  | pr (Q : List PV → Prop) (bytes : Nat)
mutual
def okPV : Cty → PV → Prop
  | .bool, p => ∃ b, p = .bool b
  | .int k, p => ∃ n, p = .int k n ∧ k.min ≤ n ∧ n ≤ k.max
  | .str, p => ∃ s, p = .str s ∧ s.length ≤ reachBytes
  | .sl ts bytes, p => ∃ es : List (List PV), p = .sl es ∧ es.length * bytes ≤ reachBytes ∧ es.length ≤ maxLen ∧ ∀ e ∈ es, okPVs ts e
  | .pr Q bytes, p => ∃ es : List (List PV), p = .sl es ∧ es.length * bytes ≤ reachBytes ∧ es.length ≤ maxLen ∧ ∀ e ∈ es, Q e
def okPVs : List Cty → List PV → Prop
  | [], ps => ps = []
  | t :: ts, ps => ∃ p r, ps = p :: r ∧ okPV t p ∧ okPVs ts r
end
def tyFs (P : Program) (rc : TypeId → Option (List Cty)) : Nat → List Field → Option (List Cty)
  | _, [] => some []
  | off, f :: r => match rc f.type with
    | some ts => if f.offset = off ∧ ts.length = P.cellsOf f.type then
        match tyFs P rc (off + ts.length) r with
        | some l => some (ts ++ l)
        | none => none
      else none
    | none => none
def tyT (P : Program) (cut : List TypeId) (Q : TypeId → List PV → Prop) : Nat → TypeId → Option (List Cty)
  | 0, _ => none
  | n + 1, t => match P.underlying t with
    | some .bool => some [.bool]
    | some (.int k) => some [.int k]
    | some .string => some [.str]
    | some (.slice e) => if e ∈ cut then some [.pr (Q e) (P.bytesOf e)] else match tyT P cut Q n e with
      | some ts => if ts.length = P.cellsOf e ∧ 0 < ts.length then some [.sl ts (P.bytesOf e)] else none
      | none => none
    | some (.struct fs) => match tyFs P (tyT P cut Q n) 0 fs.toList with
      | some ts => if ts.length = P.cellsOf t then some ts else none
      | none => none
    | some (.array m e) => match tyT P cut Q n e with
      | some ts => if m * ts.length = P.cellsOf t ∧ ts.length = P.cellsOf e then some (List.replicate m ts).flatten else none
      | none => none
    | _ => none
def RecOk (P : Program) (cut : List TypeId) (N : Nat) : Nat → TypeId → List PV → Prop
  | 0, _, _ => False
  | k + 1, t, ps => ∃ ts, tyT P cut (RecOk P cut N k) N t = some ts ∧ okPVs ts ps
def Sub2 (Q R : TypeId → List PV → Prop) : Prop := ∀ e x, Q e x → R e x
def Cle (ts us : List Cty) : Prop := us.length = ts.length ∧ ∀ ps, okPVs ts ps → okPVs us ps
theorem Cle.append {a b c d : List Cty} (h : Cle a b) (k : Cle c d) : Cle (a ++ c) (b ++ d) := by
  refine ⟨by simp [h.1, k.1], ?_⟩
  have : ∀ (a b : List Cty), b.length = a.length → (∀ ps, okPVs a ps → okPVs b ps) → ∀ ps, okPVs (a ++ c) ps → okPVs (b ++ d) ps := by
    intro a b hl hab ps hp
    obtain ⟨p1, p2, rfl, h1, h2⟩ := split a c ps hp
    exact join b d p1 p2 (hab _ h1) (k.2 _ h2)
  exact this a b h.1 h.2
where
  split : ∀ (a c : List Cty) (ps : List PV), okPVs (a ++ c) ps → ∃ p1 p2, ps = p1 ++ p2 ∧ okPVs a p1 ∧ okPVs c p2
    | [], c, ps, h => ⟨[], ps, rfl, by simp [okPVs], h⟩
    | t :: a, c, ps, h => by
      simp only [List.cons_append, okPVs] at h
      obtain ⟨p, r, rfl, h1, h2⟩ := h
      obtain ⟨p1, p2, rfl, h3, h4⟩ := split a c r h2
      exact ⟨p :: p1, p2, rfl, by simp only [okPVs]; exact ⟨p, p1, rfl, h1, h3⟩, h4⟩
  join : ∀ (a c : List Cty) (p1 p2 : List PV), okPVs a p1 → okPVs c p2 → okPVs (a ++ c) (p1 ++ p2)
    | [], c, p1, p2, h, k => by simp only [okPVs] at h; subst h; exact k
    | t :: a, c, p1, p2, h, k => by
      simp only [okPVs] at h
      obtain ⟨p, r, rfl, h1, h2⟩ := h
      simp only [List.cons_append, okPVs]
      exact ⟨p, r ++ p2, rfl, h1, join a c r p2 h2 k⟩
theorem tyFs_mono {P : Program} {rc rd : TypeId → Option (List Cty)} (h : ∀ t ts, rc t = some ts → ∃ us, rd t = some us ∧ Cle ts us) : ∀ {fs : List Field} {off : Nat} {ts : List Cty}, tyFs P rc off fs = some ts → ∃ us, tyFs P rd off fs = some us ∧ Cle ts us
  | [], off, ts, he => by simp only [tyFs] at he; cases he; exact ⟨[], rfl, rfl, fun _ h => h⟩
  | f :: fs, off, ts, he => by
    simp only [tyFs] at he
    split at he
    · rename_i t1 h1
      split at he
      · rename_i hc
        split at he
        · rename_i l h2
          cases he
          obtain ⟨u1, g1, g2⟩ := h _ _ h1
          obtain ⟨u2, k1, k2⟩ := tyFs_mono h h2
          refine ⟨u1 ++ u2, ?_, g2.append k2⟩
          simp only [tyFs, g1]
          rw [if_pos ⟨hc.1, by rw [g2.1]; exact hc.2⟩, g2.1, k1]
        · cases he
      · cases he
    · cases he
theorem Cle.rep {a b : List Cty} (h : Cle a b) : ∀ m, Cle (List.replicate m a).flatten (List.replicate m b).flatten
  | 0 => ⟨rfl, fun _ h => h⟩
  | m + 1 => by rw [List.replicate_succ, List.replicate_succ, List.flatten_cons, List.flatten_cons]; exact h.append (h.rep m)
theorem tyT_mono {P : Program} {cut : List TypeId} {Q R : TypeId → List PV → Prop} (hQ : Sub2 Q R) : ∀ {n : Nat} {t : TypeId} {ts : List Cty}, tyT P cut Q n t = some ts → ∃ us, tyT P cut R n t = some us ∧ Cle ts us
  | 0, t, ts, h => by simp [tyT] at h
  | n + 1, t, ts, h => by
    simp only [tyT] at h ⊢
    split at h
    · cases h; exact ⟨_, rfl, rfl, fun _ h => h⟩
    · cases h; exact ⟨_, rfl, rfl, fun _ h => h⟩
    · cases h; exact ⟨_, rfl, rfl, fun _ h => h⟩
    · rename_i e hu
      split at h
      · rename_i hc
        cases h
        rw [if_pos hc]
        refine ⟨_, rfl, rfl, fun ps hp => ?_⟩
        simp only [okPVs, okPV] at hp ⊢
        obtain ⟨p, r, rfl, ⟨es, rfl, a1, a2, a3⟩, h2⟩ := hp
        exact ⟨_, _, rfl, ⟨es, rfl, a1, a2, fun x hx => hQ _ _ (a3 x hx)⟩, h2⟩
      · rename_i hc
        rw [if_neg hc]
        split at h
        · rename_i us hus
          split at h
          · rename_i hl
            cases h
            obtain ⟨vs, g1, g2⟩ := tyT_mono hQ hus
            simp only [g1]
            rw [if_pos ⟨by rw [g2.1]; exact hl.1, by rw [g2.1]; exact hl.2⟩]
            refine ⟨_, rfl, rfl, fun ps hp => ?_⟩
            simp only [okPVs, okPV] at hp ⊢
            obtain ⟨p, r, rfl, ⟨es, rfl, a1, a2, a3⟩, h2⟩ := hp
            exact ⟨_, _, rfl, ⟨es, rfl, a1, a2, fun x hx => g2.2 _ (a3 x hx)⟩, h2⟩
          · cases h
        · cases h
    · split at h
      · rename_i us hus
        split at h
        · rename_i hl
          cases h
          obtain ⟨vs, g1, g2⟩ := tyFs_mono (fun t ts h => tyT_mono hQ h) hus
          simp only [g1]
          rw [if_pos (by rw [g2.1]; exact hl)]
          exact ⟨_, rfl, g2⟩
        · cases h
      · cases h
    · rename_i m e hu
      split at h
      · rename_i us hus
        split at h
        · rename_i hl
          cases h
          obtain ⟨vs, g1, g2⟩ := tyT_mono hQ hus
          simp only [g1]
          rw [if_pos ⟨by rw [g2.1]; exact hl.1, by rw [g2.1]; exact hl.2⟩]
          exact ⟨_, rfl, g2.rep m⟩
        · cases h
      · cases h
    · cases h
theorem RecOk.mono {P : Program} {cut : List TypeId} {N : Nat} : ∀ k, Sub2 (RecOk P cut N k) (RecOk P cut N (k + 1))
  | 0, e, x, h => h.elim
  | k + 1, e, x, h => by
    obtain ⟨ts, h1, h2⟩ := h
    obtain ⟨us, g1, g2⟩ := tyT_mono (RecOk.mono k) h1
    exact ⟨us, g1, g2.2 _ h2⟩
abbrev cellsF (w : World) : Nat → Nat → Option Value := fun b o => w.cell? ⟨b, o, none⟩
def CellsOk (F : Nat → Nat → Option Value) (ts : List Cty) (cs : List Value) (ps : List PV) : Prop :=
  cs.length = ps.length ∧ okPVs ts ps ∧ ∀ (i : Nat) p, ps[i]? = some p → ∃ u, cs[i]? = some u ∧ VP F p u
theorem okPVs_append : ∀ {ts us : List Cty} {ps qs : List PV}, okPVs ts ps → okPVs us qs → okPVs (ts ++ us) (ps ++ qs)
  | [], us, ps, qs, h, k => by simp only [okPVs] at h; subst h; simpa using k
  | t :: ts, us, ps, qs, h, k => by
    simp only [okPVs] at h
    obtain ⟨p, r, rfl, h1, h2⟩ := h
    simp only [List.cons_append, okPVs]
    exact ⟨p, r ++ qs, rfl, h1, okPVs_append h2 k⟩
theorem okPVs_length : ∀ {ts : List Cty} {ps : List PV}, okPVs ts ps → ps.length = ts.length
  | [], ps, h => by simp only [okPVs] at h; subst h; rfl
  | t :: ts, ps, h => by
    simp only [okPVs] at h
    obtain ⟨p, r, rfl, h1, h2⟩ := h
    simp [okPVs_length h2]
theorem CellsOk.append {F : Nat → Nat → Option Value} {ts us : List Cty} {cs ds : List Value} {ps qs : List PV} (h : CellsOk F ts cs ps) (k : CellsOk F us ds qs) : CellsOk F (ts ++ us) (cs ++ ds) (ps ++ qs) := by
  refine ⟨by simp [h.1, k.1], okPVs_append h.2.1 k.2.1, fun i p hi => ?_⟩
  by_cases hlt : i < ps.length
  · rw [List.getElem?_append_left hlt] at hi
    rw [List.getElem?_append_left (by rw [h.1]; exact hlt)]
    exact h.2.2 i p hi
  · rw [List.getElem?_append_right (by omega)] at hi
    rw [List.getElem?_append_right (by rw [h.1]; omega), h.1]
    exact k.2.2 _ p hi
theorem CellsOk.one {F : Nat → Nat → Option Value} {t : Cty} {p : PV} {u : Value} (h : okPV t p) (k : VP F p u) : CellsOk F [t] [u] [p] := by
  refine ⟨rfl, ?_, fun i q hi => ?_⟩
  · simp only [okPVs]; exact ⟨p, [], rfl, h, rfl⟩
  · cases i with
    | zero => simp at hi; subst hi; exact ⟨u, rfl, k⟩
    | succ i => simp at hi
section
variable {H : Type} {enc : TypeId × Value → H} {P : Program} {W : World}
theorem weightsAll_mem {e : TypeId} : ∀ {ds : List (DataW H)} {d : DataW H} {x : Nat}, d ∈ ds → x ∈ d.weights P e → x ∈ DataW.weightsAll P e ds
  | [], d, x, hd, _ => by cases hd
  | y :: r, d, x, hd, hx => by
    simp only [DataW.weightsAll, List.mem_append]
    rcases List.mem_cons.1 hd with rfl | hd
    · exact .inl hx
    · exact .inr (weightsAll_mem hd hx)
theorem fields_pv {n : Nat} {rc : TypeId → Option (List Cty)}
    (ih : ∀ t cs d ps ts, DataW.trod enc P W 0 (fun _ => true) true n t cs = some (d, ps) → rc t = some ts → (∀ x ∈ d.weights P t, x ≤ reachBytes) → ∃ pv, CellsOk (cellsF W) ts cs pv) :
    ∀ (fs : List Field) (off : Nat) (cs : List Value) (xs : List (DataW H × List MemPlace)) (ts : List Cty), tyFs P rc off fs = some ts → xs.length = fs.length →
      (∀ (i : Nat) f, fs[i]? = some f → DataW.trod enc P W 0 (fun _ => true) true n f.type ((cs.drop (f.offset - off)).take (P.cellsOf f.type)) = xs[i]?) →
      (∀ x ∈ DataW.weightsEach P (fs.map (·.type)) (xs.map (·.1)), x ≤ reachBytes) → cs.length = ts.length → ∃ pv, CellsOk (cellsF W) ts cs pv
  | [], off, cs, xs, ts, ht, _, _, _, hl => by
    simp only [tyFs] at ht; cases ht
    simp at hl
    subst hl
    exact ⟨[], rfl, rfl, by simp⟩
  | f :: fs, off, cs, xs, ts, ht, hx, hg, hw, hl => by
    simp only [tyFs] at ht
    split at ht
    · rename_i ts1 h1
      split at ht
      · rename_i hc
        split at ht
        · rename_i l h2
          cases ht
          cases xs with
          | nil => simp at hx
          | cons x xs =>
            have g0 := hg 0 f rfl
            rw [hc.1, Nat.sub_self] at g0
            simp only [List.drop_zero, List.getElem?_cons_zero] at g0
            simp only [List.map_cons, DataW.weightsEach, List.mem_append] at hw
            obtain ⟨pv1, c1⟩ := ih _ _ x.1 x.2 _ g0 h1 (fun y hy => hw y (.inl hy))
            rw [List.length_append] at hl
            have hd : (cs.drop ts1.length).length = l.length := by simp [hl]
            obtain ⟨pv2, c2⟩ := fields_pv ih fs (off + ts1.length) (cs.drop ts1.length) xs l h2 (by simpa using hx) (fun i f' hf => by
              have := hg (i + 1) f' (by simpa using hf)
              simp only [List.getElem?_cons_succ] at this
              rw [← this, List.drop_drop]
              have hle : off + ts1.length ≤ f'.offset := tyFs_le h2 i f' hf
              congr 3
              omega) (fun y hy => hw y (.inr hy)) hd
            have e : cs = (cs.take (P.cellsOf f.type)) ++ cs.drop ts1.length := by rw [← hc.2, List.take_append_drop]
            rw [e]
            exact ⟨pv1 ++ pv2, c1.append c2⟩
        · cases ht
      · cases ht
    · cases ht
where
  tyFs_le {rc : TypeId → Option (List Cty)} : ∀ {fs : List Field} {off : Nat} {ts : List Cty}, tyFs P rc off fs = some ts → ∀ (i : Nat) f, fs[i]? = some f → off ≤ f.offset
  | [], _, _, _, i, f, hf => by simp at hf
  | g :: fs, off, ts, h, i, f, hf => by
    simp only [tyFs] at h
    split at h
    · rename_i ts1 h1
      split at h
      · rename_i hc
        split at h
        · rename_i l h2
          cases i with
          | zero => simp at hf; subst hf; omega
          | succ i => have := tyFs_le h2 i f (by simpa using hf); omega
        · cases h
      · cases h
    · cases h
theorem arr_pv {n : Nat} {e : TypeId} {ts : List Cty}
    (ih : ∀ cs d ps, DataW.trod enc P W 0 (fun _ => true) true n e cs = some (d, ps) → (∀ x ∈ d.weights P e, x ≤ reachBytes) → ∃ pv, CellsOk (cellsF W) ts cs pv) (hc : ts.length = P.cellsOf e) :
    ∀ (m : Nat) (cs : List Value) (xs : List (DataW H × List MemPlace)), xs.length = m → cs.length = m * ts.length →
      (∀ i, i < m → DataW.trod enc P W 0 (fun _ => true) true n e ((cs.drop (i * P.cellsOf e)).take (P.cellsOf e)) = xs[i]?) →
      (∀ x ∈ DataW.weightsAll P e (xs.map (·.1)), x ≤ reachBytes) → ∃ pv, CellsOk (cellsF W) (List.replicate m ts).flatten cs pv
  | 0, cs, xs, hx, hl, _, _ => by
    simp at hl
    subst hl
    exact ⟨[], rfl, rfl, by simp⟩
  | m + 1, cs, xs, hx, hl, hg, hw => by
    cases xs with
    | nil => simp at hx
    | cons x xs =>
      have g0 := hg 0 (by omega)
      simp only [Nat.zero_mul, List.drop_zero, List.getElem?_cons_zero] at g0
      simp only [List.map_cons, DataW.weightsAll, List.mem_append] at hw
      obtain ⟨pv1, c1⟩ := ih _ x.1 x.2 g0 (fun y hy => hw y (.inl hy))
      obtain ⟨pv2, c2⟩ := arr_pv ih hc m (cs.drop ts.length) xs (by simpa using hx) (by rw [List.length_drop, hl, Nat.add_mul]; omega) (fun i hi => by
        have := hg (i + 1) (by omega)
        simp only [List.getElem?_cons_succ] at this
        rw [← this, List.drop_drop]
        congr 3
        rw [Nat.add_mul, hc]; omega) (fun y hy => hw y (.inr hy))
      have e1 : cs = (cs.take (P.cellsOf e)) ++ cs.drop ts.length := by rw [← hc, List.take_append_drop]
      rw [e1, List.replicate_succ, List.flatten_cons]
      exact ⟨pv1 ++ pv2, c1.append c2⟩
theorem choose_list {α : Type} {R : Nat → α → Prop} : ∀ (n : Nat), (∀ i, i < n → ∃ a, R i a) → ∃ l : List α, l.length = n ∧ ∀ i a, l[i]? = some a → R i a
  | 0, _ => ⟨[], rfl, by simp⟩
  | n + 1, h => by
    obtain ⟨l, h1, h2⟩ := choose_list n (fun i hi => h i (by omega))
    obtain ⟨a, ha⟩ := h n (by omega)
    refine ⟨l ++ [a], by simp [h1], fun i b hb => ?_⟩
    rcases get_snoc_cases hb with ⟨_, hb⟩ | ⟨rfl, rfl⟩
    · exact h2 i b hb
    · rw [h1]; exact ha
theorem trod_pv {cut : List TypeId} {N : Nat} (hcut : ∀ e ∈ cut, ∀ Q, ∃ ts, tyT P cut Q N e = some ts ∧ ts.length = P.cellsOf e ∧ 0 < ts.length) : ∀ (fuel : Nat) (Q : TypeId → List PV → Prop) (hQ : Sub2 (RecOk P cut N fuel) Q) (n : Nat) (t : TypeId) (cs : List Value) (d : DataW H) (ps : List MemPlace) (ts : List Cty),
    DataW.trod enc P W 0 (fun _ => true) true fuel t cs = some (d, ps) → tyT P cut Q n t = some ts → (∀ x ∈ d.weights P t, x ≤ reachBytes) → ∃ pv, CellsOk (cellsF W) ts cs pv := by
  intro fuel
  induction fuel with
  | zero => intro Q hQ n t cs d ps ts h; simp [DataW.trod] at h
  | succ fuel ih0 =>
    intro Q hQ n t cs d ps ts h ht hw
    have ih := ih0 Q (fun e x hx => hQ e x (RecOk.mono fuel e x hx))
    cases n with
    | zero => simp [tyT] at ht
    | succ n =>
      simp only [tyT] at ht
      split at ht
      · rename_i hu
        cases ht
        obtain ⟨b, rfl, e⟩ := DataW.trod_bool hu h
        exact ⟨[.bool b], .one ⟨b, rfl⟩ (.bool b)⟩
      · rename_i k hu
        cases ht
        obtain ⟨m, rfl, e, hwf⟩ := DataW.trod_int hu h
        refine ⟨[.int k m], .one ⟨m, rfl, ?_⟩ (.int k m)⟩
        simpa [Lit.wf] using hwf
      · rename_i hu
        cases ht
        obtain ⟨s, rfl, e, hwf⟩ := DataW.trod_string hu h
        cases e
        have := hw s.data.toList.length (by simp [DataW.weights])
        exact ⟨[.str s.data.toList], .one ⟨_, rfl, this⟩ (by have := VP.str (F := cellsF W) s.data.toList; simpa using this)⟩
      · rename_i e hu
        have slc : ∀ (us : List Cty) (c : Cty), us.length = P.cellsOf e → 0 < us.length → (∀ es : List (List PV), es.length * P.bytesOf e ≤ reachBytes → es.length ≤ maxLen → (∀ x ∈ es, okPVs us x) → okPV c (.sl es)) →
            (∀ cs d ps, DataW.trod enc P W 0 (fun _ => true) true fuel e cs = some (d, ps) → (∀ x ∈ d.weights P e, x ≤ reachBytes) → ∃ pv, CellsOk (cellsF W) us cs pv) → ∃ pv, CellsOk (cellsF W) [c] cs pv := by
          intro us c hc1 hc2 hokc ihe
          rcases DataW.trod_slice hu h with ⟨rfl, _⟩ | ⟨a, len, cap, elems, rest, m, hm, rfl, hx, _, hlc, hcm, hel, hg, hsp, _⟩
          · exact ⟨[.sl []], .one (hokc [] (by simp) (by simp) (by simp)) .nils⟩
          · obtain rfl : m = fuel := by omega
            cases hx
            have hwl : (elems.length + rest.length) * P.bytesOf e ≤ reachBytes := hw _ (by simp [DataW.weights, hu])
            have each : ∀ i, i < len → ∃ pv : List PV, okPVs us pv ∧ pv.length = us.length ∧ ∀ (j : Nat) p, pv[j]? = some p → ∃ u, W.cell? ((a.add (i * P.cellsOf e)).add j) = some u ∧ VP (cellsF W) p u := by
              intro i hi
              have := hg i hi
              have hlt : i < elems.length := by omega
              rw [List.getElem?_eq_getElem hlt, Option.bind_eq_some_iff] at this
              obtain ⟨cs', h1, h2⟩ := this
              obtain ⟨pv, c1, c2, c3⟩ := ihe cs' elems[i].1 elems[i].2 (by rw [h2]) (fun x hx => hw x (by
                simp only [DataW.weights, hu, List.mem_cons, List.mem_append]
                exact .inr (.inl (weightsAll_mem (List.mem_map.2 ⟨elems[i], List.getElem_mem _, rfl⟩) hx))))
              refine ⟨pv, c2, okPVs_length c2, fun j p hj => ?_⟩
              obtain ⟨u, hu', hv⟩ := c3 j p hj
              refine ⟨u, ?_, hv⟩
              unfold World.cells? at h1
              split at h1
              · have := mapM_some_get h1 j j (by
                  have := (List.getElem?_eq_some_iff.1 hu').1
                  have := mapM_some_length h1
                  simp at this
                  rw [List.getElem?_range (by omega)])
                rw [this]; exact hu'
              · cases h1
            obtain ⟨es, e1, e2⟩ := choose_list len each
            have hall : ∀ x ∈ es, okPVs us x ∧ x.length = us.length := by
              intro x hx
              obtain ⟨i, hi⟩ := List.getElem?_of_mem hx
              exact ⟨(e2 i x hi).1, (e2 i x hi).2.1⟩
            have hok : okPV c (.sl es) := hokc es (Nat.le_trans (Nat.mul_le_mul_right _ (by omega)) hwl) (by omega) (fun x hx => (hall x hx).1)
            by_cases h0 : len = 0
            · subst h0
              have : es = [] := List.eq_nil_of_length_eq_zero e1
              subst this
              exact ⟨[.sl []], .one hok (.sl0 a cap hcm)⟩
            · have hspot : a.spot = none := by
                obtain ⟨x, hx⟩ : ∃ x, es[0]? = some x := ⟨es[0]'(by omega), by simp [show 0 < es.length by omega]⟩
                obtain ⟨_, hxl, hcell⟩ := e2 0 x hx
                obtain ⟨p, hp⟩ : ∃ p, x[0]? = some p := ⟨x[0]'(by omega), by simp [show 0 < x.length by omega]⟩
                obtain ⟨u, hu', _⟩ := hcell 0 p hp
                simp only [Nat.zero_mul, Addr.add, if_true] at hu'
                unfold World.cell? at hu'
                split at hu'
                · split at hu'
                  · cases hu'
                  · rename_i hs; simpa using hs
                · cases hu'
              obtain ⟨b, off, sp⟩ := a
              simp only at hspot
              subst hspot
              refine ⟨[.sl es], .one hok ?_⟩
              have key : ∀ i j p, at2 es i j = some p → ∃ u, cellsF W b (off + i * us.length + j) = some u ∧ VP (cellsF W) p u := by
                intro i j p hp
                unfold at2 at hp
                rw [Option.bind_eq_some_iff] at hp
                obtain ⟨x, hx, hj⟩ := hp
                obtain ⟨_, _, hcell⟩ := e2 i x hx
                obtain ⟨u, hu', hv⟩ := hcell j p hj
                refine ⟨u, ?_, hv⟩
                rw [Addr.add_lit, Addr.add_lit, ← hc1] at hu'
                exact hu'
              have := VP.mk (F := cellsF W) (es := es) (size := us.length) (b := b) (off := off) (cap := cap) (by omega) hcm (fun x hx => (hall x hx).2) key
              rw [e1] at this
              exact this
        split at ht
        · rename_i hcu
          cases ht
          obtain ⟨us, k1, k2, k3⟩ := hcut e hcu (RecOk P cut N fuel)
          refine slc us _ k2 k3 (fun es h1 h2 h3 => ⟨es, rfl, h1, h2, fun x hx => hQ e x ⟨us, k1, h3 x hx⟩⟩) (fun cs d ps h1 h2 => ih0 (RecOk P cut N fuel) (fun _ _ h => h) N e cs d ps us h1 k1 h2)
        · split at ht
          · rename_i us hus
            split at ht
            · rename_i hc
              cases ht
              exact slc us _ hc.1 hc.2 (fun es h1 h2 h3 => ⟨es, rfl, h1, h2, h3⟩) (fun cs d ps h1 h2 => ih n e cs d ps us h1 hus h2)
            · cases ht
          · cases ht
      · rename_i fs hu
        split at ht
        · rename_i us hus
          split at ht
          · rename_i hc
            rw [← Option.some.inj ht]
            obtain ⟨xs, m, hm, hx, hl, hxl, hg⟩ := DataW.trod_struct hu h
            obtain rfl : m = fuel := by omega
            cases hx
            refine fields_pv (fun t cs d ps ts h1 h2 h3 => ih n t cs d ps ts h1 h2 h3) fs.toList 0 cs xs us hus (by simp [hxl]) (fun i f hf => ?_) (fun x hx => hw x (by simp [DataW.weights, hu, hx])) (by rw [hl, hc])
            simpa using hg i f (by simpa using hf)
          · cases ht
        · cases ht
      · rename_i m e hu
        split at ht
        · rename_i us hus
          split at ht
          · rename_i hc
            cases ht
            obtain ⟨xs, q, hq, hx, hl, hxl, hg⟩ := DataW.trod_array hu h
            obtain rfl : q = fuel := by omega
            cases hx
            exact arr_pv (fun cs d ps h1 h3 => ih n e cs d ps us h1 hus h3) hc.2 m cs xs hxl (by rw [hl, hc.1]) hg (fun x hx => hw x (by simp [DataW.weights, hu, hx]))
          · cases ht
        · cases ht
      · cases ht
def argLV (agg : Bool) (ps : List PV) : LV := if agg then .agg (ps.map .p) else match ps with | [p] => .p p | _ => .und
def tyPs (P : Program) (cut : List TypeId) (Q : TypeId → List PV → Prop) (n : Nat) : List TypeId → Option (List (Bool × List Cty))
  | [] => some []
  | t :: r => match P.underlying t, tyT P cut Q n t, tyPs P cut Q n r with
    | some d, some ts, some l => some ((aggB d, ts) :: l)
    | _, _, _ => none
def OkArgs : List (Bool × List Cty) → List LV → Prop
  | [], l => l = []
  | (agg, ts) :: r, l => ∃ ps m, l = argLV agg ps :: m ∧ okPVs ts ps ∧ OkArgs r m
theorem tyT_one {cut : List TypeId} {Q : TypeId → List PV → Prop} {n : Nat} {t : TypeId} {d : TypeDesc} {ts : List Cty} (hd : P.underlying t = some d) (ha : aggB d = false) (h : tyT P cut Q n t = some ts) : ts.length = 1 := by
  cases n with
  | zero => simp [tyT] at h
  | succ n =>
    simp only [tyT, hd] at h
    cases d <;> simp only [aggB, Bool.true_eq_false] at ha <;> first | (cases h; rfl) | skip
    all_goals
      simp only at h
      first
        | (split at h
           · cases h; rfl
           · split at h
             · split at h
               · cases h; rfl
               · cases h
             · cases h)
        | (split at h
           · split at h
             · cases h; rfl
             · cases h
           · cases h)
        | cases h
theorem tyPs_mono {cut : List TypeId} {Q R : TypeId → List PV → Prop} (hQ : Sub2 Q R) {n : Nat} : ∀ {ts : List TypeId} {a b : List (Bool × List Cty)}, tyPs P cut Q n ts = some a → tyPs P cut R n ts = some b → ∀ vs, OkArgs a vs → OkArgs b vs
  | [], a, b, h, k, vs, hv => by simp only [tyPs] at h k; cases h; cases k; exact hv
  | t :: r, a, b, h, k, vs, hv => by
    simp only [tyPs] at h k
    split at h
    · rename_i d ts l h1 h2 h3
      cases h
      obtain ⟨us, g1, g2⟩ := tyT_mono hQ h2
      split at k
      · rename_i d' ts' l' e1 e2 e3
        rw [h1] at e1; rw [g1] at e2
        cases e1; cases e2; cases k
        obtain ⟨ps, m, rfl, a1, a2⟩ := hv
        exact ⟨ps, m, rfl, g2.2 _ a1, tyPs_mono hQ h3 e3 _ a2⟩
      · cases k
    · cases h
theorem RecOk.le {cut : List TypeId} {N : Nat} : ∀ {k m : Nat}, k ≤ m → Sub2 (RecOk P cut N k) (RecOk P cut N m)
  | k, m, h => by
    induction h with
    | refl => exact fun _ _ h => h
    | step _ ih => exact fun e x hx => RecOk.mono _ e x (ih e x hx)
theorem args_pv {cut : List TypeId} {N : Nat} (hcut : ∀ e ∈ cut, ∀ Q, ∃ ts, tyT P cut Q N e = some ts ∧ ts.length = P.cellsOf e ∧ 0 < ts.length) {n : Nat} {G : Gh} (hG : G.F = cellsF W) : ∀ {ts : List TypeId} {vs : List Value} {ds gs : List (DataW H)} {us : List TypeId} {ps : List MemPlace} {tys : Nat → List (Bool × List Cty)}, DataW.TrodAll enc P W 0 (fun _ => true) true ts vs ds ps → (∀ k, tyPs P cut (RecOk P cut N k) n ts = some (tys k)) →
    (∀ (j : Nat) t v, ts[j]? = some t → vs[j]? = some v → Value.okWide P W .any 0 t v ∨ ∃ base, Value.okWide P W .any base t v) → (∀ x ∈ DataW.weightsEach P (ts ++ us) (ds ++ gs), x ≤ reachBytes) →
    ∃ k, ∃ args, OkArgs (tys k) args ∧ args.length = vs.length ∧ ∀ (i : Nat) x u, args[i]? = some x → vs[i]? = some u → VL G x u
  | [], vs, ds, gs, us, ps, tys, h, ht, _, _ => by
    have := ht 0
    simp only [tyPs, Option.some.injEq] at this
    obtain ⟨rfl, _, _⟩ := ChangeShapes.trodAll_nil h
    exact ⟨0, [], by rw [← this]; rfl, rfl, by simp⟩
  | t :: ts, vs, ds, gs, us, ps, tys, h, ht, hok, hw => by
    have hk : ∀ k, ∃ dd tt ll, P.underlying t = some dd ∧ tyT P cut (RecOk P cut N k) n t = some tt ∧ tyPs P cut (RecOk P cut N k) n ts = some ll ∧ tys k = (aggB dd, tt) :: ll := by
      intro k
      have := ht k
      simp only [tyPs] at this
      split at this
      · rename_i dd tt ll h1 h2 h3
        exact ⟨dd, tt, ll, h1, h2, h3, (Option.some.inj this).symm⟩
      · cases this
    have hl' : ∀ k, tyPs P cut (RecOk P cut N k) n ts = some ((tyPs P cut (RecOk P cut N k) n ts).getD []) := by
      intro k
      obtain ⟨dd, tt, ll, _, _, h3, _⟩ := hk k
      rw [h3]; rfl
    · obtain ⟨v, vs', d, ds', p, q, rfl, rfl, rfl, ⟨fuel, h1⟩, h2⟩ := ChangeShapes.trodAll_cons h
      simp only [List.cons_append, DataW.weightsEach, List.mem_append] at hw
      obtain ⟨dd, tt, ll0, hd, htt, _, _⟩ := hk fuel
      obtain ⟨pv, c1, c2, c3⟩ := trod_pv hcut fuel _ (fun _ _ h => h) n t _ d p tt h1 htt (fun x hx => hw x (.inl hx))
      obtain ⟨k', args, a1, a2, a3⟩ := args_pv hcut (n := n) hG h2 (tys := fun k => (tyPs P cut (RecOk P cut N k) n ts).getD []) hl' (fun j t v hj hv => hok (j + 1) t v (by simpa using hj) (by simpa using hv)) (fun x hx => hw x (.inr hx))
      have hv : VL G (argLV (aggB dd) pv) v := by
        have hlen := okPVs_length c2
        obtain ⟨base, hk⟩ : ∃ base, Value.okWide P W .any base t v := by
          rcases hok 0 t v rfl rfl with h | h
          · exact ⟨0, h⟩
          · exact h
        unfold argLV
        split
        · rename_i ha
          have : ∃ arr, v = .agg arr := by
            unfold Value.okWide at hk
            rw [hd] at hk
            cases dd <;> simp [aggB] at ha
            all_goals exact ⟨_, hk.choose_spec.1⟩
          obtain ⟨arr, rfl⟩ := this
          simp only [Value.cells] at c1 c3
          refine .agg arr (by simpa using c1) (fun i u hu => ?_) (fun i x hx => ?_)
          · have hlt : i < pv.length := by rw [← c1]; simpa using (Array.getElem?_eq_some_iff.1 hu).1
            obtain ⟨u', hu', hvp⟩ := c3 i pv[i] (by simp [hlt])
            rw [Array.getElem?_toList, hu] at hu'
            cases hu'
            exact hvp.one
          · rw [List.getElem?_map] at hx
            cases hq : pv[i]? with
            | none => simp [hq] at hx
            | some y =>
              simp [hq] at hx; subst hx
              obtain ⟨u', hu', hvp⟩ := c3 i y hq
              rw [Array.getElem?_toList] at hu'
              rw [Array.getD_eq_getD_getElem?, hu']
              rw [← hG] at hvp
              exact .p hvp
        · rename_i ha
          have h1 := tyT_one hd (by simpa using ha) htt
          have hna : ∀ arr, v ≠ .agg arr := by
            rintro arr rfl
            unfold Value.okWide at hk
            rw [hd] at hk
            cases dd <;> simp [aggB] at ha <;> simp [Cell.okWide, Cell.ok, hd] at hk
          obtain ⟨y, rfl⟩ := List.length_eq_one_iff.1 (hlen.trans h1)
          · obtain ⟨u', hu', hvp⟩ := c3 0 y rfl
            have : v.cells = #[v] := by cases v <;> first | rfl | exact absurd rfl (hna _)
            rw [this] at hu'
            simp at hu'
            subst hu'
            rw [← hG] at hvp
            exact .p hvp
      obtain ⟨dd2, tt2, ll2, q1, q2, q3, q4⟩ := hk (max fuel k')
      have hdd : dd2 = dd := by rw [hd] at q1; exact (Option.some.inj q1).symm
      subst hdd
      obtain ⟨us2, g1, g2⟩ := tyT_mono (RecOk.le (P := P) (cut := cut) (N := N) (Nat.le_max_left fuel k')) htt
      rw [q2] at g1
      cases g1
      have a1' := tyPs_mono (RecOk.le (P := P) (cut := cut) (N := N) (Nat.le_max_right fuel k')) (hl' k') q3 _ a1
      refine ⟨max fuel k', argLV (aggB dd2) pv :: args, by rw [q4]; exact ⟨pv, args, rfl, g2.2 _ c2, a1'⟩, by simp [a2], fun i x u hx hu => ?_⟩
      cases i with
      | zero => simp at hx hu; subst hx; subst hu; exact hv
      | succ i => exact a3 i x u (by simpa using hx) (by simpa using hu)
end
end Go.LS
namespace Go.LS
def gh0 (w : World) : Gh := ⟨cellsF w, fun _ => none, fun _ _ => none⟩
theorem wr0 (w : World) : WR (gh0 w) [] w where
  fr _ _ _ h := h
  dom _ _ := ⟨rfl, fun _ => rfl⟩
  row o es h := by simp at h
  map o es h := by simp at h
  iter o s p h := by simp at h
  spare o n hw h := by simp at h
  uniq o o' b h := by simp [Owns] at h
  ownF o b h := by simp [Owns] at h
  kind o x h := by simp at h
theorem Ext0.below {G G' : Gh} {st' : List LObj} {w w' : World} (h : Ext0 G [] w G' st' w') : RowKit.Below w.heap.size w w' :=
  ⟨h.os, h.tape, h.output, h.hsz, fun k hk => h.unch k hk (fun o ho => by simp [Owns] at ho)⟩
theorem trodAll_stays {H : Type} {enc : TypeId × Value → H} {P : Program} (hl : laidOutB P = true) {W W' : World} (hb : RowKit.Below W.heap.size W W') :
    ∀ {ts : List TypeId} {vs : List Value} {ds : List (DataW H)} {ps : List MemPlace}, (∀ t ∈ ts, P.readableRec t = true ∧ t < P.types.size) → DataW.TrodAll enc P W 0 (fun _ => true) true ts vs ds ps →
      DataW.TrodAll enc P W' 0 (fun b => decide (b < W.heap.size)) true ts vs ds ps
  | [], vs, ds, ps, _, h => by
    obtain ⟨rfl, rfl, rfl⟩ := ChangeShapes.trodAll_nil h
    rfl
  | t :: ts, vs, ds, ps, ht, h => by
    obtain ⟨v, vs', d, ds', p, q, rfl, rfl, rfl, h1, h2⟩ := ChangeShapes.trodAll_cons h
    refine ⟨p, q, ?_, trodAll_stays hl hb (fun t hm => ht t (by simp [hm])) h2, rfl⟩
    exact RowKit.Below.trod hl (ht t (by simp)).1 (ht t (by simp)).2 h1 hb (fun x hx => by
      obtain ⟨m, hm⟩ := h1
      exact DataW.trod_lt m _ _ _ hm x hx)
theorem trodAll_len {H : Type} {enc : TypeId × Value → H} {P : Program} {W : World} : ∀ {ts : List TypeId} {vs : List Value} {ds : List (DataW H)} {ps : List MemPlace}, DataW.TrodAll enc P W 0 (fun _ => true) true ts vs ds ps → ds.length = vs.length
  | [], vs, ds, ps, h => by
    obtain ⟨rfl, rfl, _⟩ := ChangeShapes.trodAll_nil h
    rfl
  | t :: ts, vs, ds, ps, h => by
    obtain ⟨v, vs', d, ds', p, q, rfl, rfl, rfl, _, h2⟩ := ChangeShapes.trodAll_cons h
    simp [trodAll_len h2]
theorem law_contract {H : Type} {enc : TypeId × Value → H} {P : Program} {lp : LProg} (hp : PR P lp) (hl : laidOutB P = true) {f : FuncId} {fn : Func} {s : ChangeSpec} {tb : TypeId} {cut : List TypeId} {N n : Nat} {tys : Nat → List (Bool × List Cty)}
    (hcut : ∀ e ∈ cut, ∀ Q, ∃ ts, tyT P cut Q N e = some ts ∧ ts.length = P.cellsOf e ∧ 0 < ts.length)
    (hps : fn.params.toList.all (fun t => P.readableRec t && decide (t < P.types.size)) = true) (hres : fn.resultTypes = #[tb]) (htb : P.underlying tb = some .bool)
    (ht : ∀ k, tyPs P cut (RecOk P cut N k) n fn.params.toList = some (tys k)) (hv : s.vars = []) (hsz : ∀ k, ∀ vs : List LV, OkArgs (tys k) vs → vs.length = fn.params.size)
    (hs : ∀ ds : List (DataW H), ds.length = fn.params.size → s.fn H ds = { results := [.lit (.bool true)], args := ds, vars := [] })
    (W : World) (base : Nat) (args : Array Value) (ds gs : List (DataW H)) (before : List MemPlace)
    (hrun : ∀ j vs, OkArgs (tys j) vs → ∃ k st', runF lp k f vs [] = some (.p (.bool true), st'))
    (hval : ∀ (j : Nat) t v, fn.params[j]? = some t → args[j]? = some v → Value.okWide P W .any base t v)
    (hW : DataW.Whole enc P fn.params.toList s.vars false W args.toList ds gs before)
    (hw : (DataW.weightsEach P (fn.params.toList ++ s.plain.varTypes P) (ds ++ gs)).all (· ≤ reachBytes) = true) :
    Calls P f args W fun e W' => ∃ v, e = .returned v ∧ s.post enc P fn false true false false W args v W' := by
  have hW' := hW
  obtain ⟨p, q, hA, hV, rfl, hfz, _⟩ := hW
  rw [hv] at hV
  obtain ⟨rfl, rfl⟩ := ChangeShapes.trodVars_none hV
  have hwx : ∀ x ∈ DataW.weightsEach P (fn.params.toList ++ s.plain.varTypes P) (ds ++ []), x ≤ reachBytes := fun x hx => by simpa using List.all_eq_true.1 hw x hx
  obtain ⟨j0, vs, a1, a2, a3⟩ := args_pv (G := gh0 W) hcut rfl hA ht (fun j t v hj hv' => .inr ⟨base, hval j t v (by simpa using hj) (by simpa using hv')⟩) hwx
  obtain ⟨k, st', hr⟩ := hrun j0 vs a1
  obtain ⟨_, hcall⟩ := runF_sound hp k f vs [] _ _ hr
  refine (hcall (gh0 W) W args (wr0 W) ⟨by simpa using a2.symm, fun i x hx => ?_⟩).mono ?_
  · have hlt : i < args.size := by have := (List.getElem?_eq_some_iff.1 hx).1; rw [a2] at this; simpa using this
    have := a3 i x args[i] hx (by simp [hlt])
    rw [Array.getD_eq_getD_getElem?, Array.getElem?_eq_getElem hlt]
    exact this
  · rintro e W' ⟨u, G', rfl, _, hu, hx⟩
    have hub := hu.bool_inv
    subst hub
    have bel := hx.below
    have hdl : ds.length = fn.params.size := by
      rw [← hsz j0 vs a1, a2]
      exact trodAll_len hA
    refine ⟨_, rfl, ds, [], _, [], p, [], hW', ?_, ?_, ?_, bel.frame _, fun h => by cases h⟩
    · rw [List.append_nil, hs ds hdl, hres]
      exact ChangeShapes.trodAll_mk1 ⟨1, by simp [DataW.trod, htb, Value.cells]⟩
    · rw [List.append_nil, hs ds hdl]
      refine trodAll_stays hl bel (fun t hm => ?_) hA
      have := List.all_eq_true.1 hps t hm
      simpa using this
    · rw [List.append_nil, hs ds hdl, hv]
      rfl
end Go.LS
namespace Go.LS
theorem OkArgs.length : ∀ {tys : List (Bool × List Cty)} {vs : List LV}, OkArgs tys vs → vs.length = tys.length
  | [], vs, h => by cases h; rfl
  | (a, t) :: r, vs, h => by
    obtain ⟨ps, m, rfl, _, h2⟩ := h
    simp [h2.length]
end Go.LS
namespace Go.LS
theorem okBytes : ∀ {es : List (List PV)}, (∀ e ∈ es, okPVs [.int .u8] e) → ∃ b : List UInt8, es = bs b
  | [], _ => ⟨[], rfl⟩
  | e :: r, h => by
    obtain ⟨b, rfl⟩ := okBytes (es := r) (fun x hx => h x (List.mem_cons_of_mem _ hx))
    obtain ⟨_, _, rfl, ⟨n, rfl, h0, h1⟩, rfl⟩ := h e (List.mem_cons_self ..)
    replace h0 : 0 ≤ n := h0
    replace h1 : n ≤ 255 := h1
    refine ⟨UInt8.ofNat n.toNat :: b, ?_⟩
    have := byte_bs h0 h1
    simp only [bs, List.map_cons, List.map_nil, List.cons.injEq] at this
    simp [bs]
    omega
theorem okArg {agg : Bool} {ts : List Cty} {r : List (Bool × List Cty)} {l : List LV} (h : OkArgs ((agg, ts) :: r) l) : ∃ ps m, l = argLV agg ps :: m ∧ okPVs ts ps ∧ OkArgs r m := h
theorem okEnd {l : List LV} (h : OkArgs [] l) : l = [] := h
theorem okI {k : IntKind} {ts : List Cty} {ps : List PV} (h : okPVs (.int k :: ts) ps) : ∃ n r, ps = .int k n :: r ∧ (k.min ≤ n ∧ n ≤ k.max) ∧ okPVs ts r := by
  obtain ⟨_, r, rfl, ⟨n, rfl, h1⟩, h2⟩ := h
  exact ⟨n, r, rfl, h1, h2⟩
theorem okS {ts : List Cty} {ps : List PV} (h : okPVs (.str :: ts) ps) : ∃ n r, ps = .str n :: r ∧ n.length ≤ reachBytes ∧ okPVs ts r := by
  obtain ⟨_, r, rfl, ⟨n, rfl, h1⟩, h2⟩ := h
  exact ⟨n, r, rfl, h1, h2⟩
theorem okB {ts : List Cty} {ps : List PV} (h : okPVs (.bool :: ts) ps) : ∃ n r, ps = .bool n :: r ∧ True ∧ okPVs ts r := by
  obtain ⟨_, r, rfl, ⟨n, rfl⟩, h2⟩ := h
  exact ⟨n, r, rfl, trivial, h2⟩
theorem okSl {u : List Cty} {b : Nat} {ts : List Cty} {ps : List PV} (h : okPVs (.sl u b :: ts) ps) : ∃ n r, ps = .sl n :: r ∧ (n.length * b ≤ reachBytes ∧ n.length ≤ maxLen ∧ ∀ e ∈ n, okPVs u e) ∧ okPVs ts r := by
  obtain ⟨_, r, rfl, ⟨n, rfl, h1⟩, h2⟩ := h
  exact ⟨n, r, rfl, h1, h2⟩
theorem okPr {Q : List PV → Prop} {b : Nat} {ts : List Cty} {ps : List PV} (h : okPVs (.pr Q b :: ts) ps) : ∃ n r, ps = .sl n :: r ∧ (n.length * b ≤ reachBytes ∧ n.length ≤ maxLen ∧ ∀ e ∈ n, Q e) ∧ okPVs ts r := by
  obtain ⟨_, r, rfl, ⟨n, rfl, h1⟩, h2⟩ := h
  exact ⟨n, r, rfl, h1, h2⟩
theorem okNil {ps : List PV} (h : okPVs [] ps) : ps = [] := h
end Go.LS
set_option linter.unusedVariables false
namespace Go.LS
def foldE {α σ ρ : Type} (f : σ → α → ρ ⊕ σ) (e : σ → ρ) : σ → List α → ρ
  | s, [] => e s
  | s, x :: r => match f s x with
    | .inl y => y
    | .inr s' => foldE f e s' r
theorem drop_get {α : Type} {xs : List α} {i : Nat} {x : α} (h : xs[i]? = some x) : xs.drop i = x :: xs.drop (i + 1) := by
  obtain ⟨hi, rfl⟩ := List.getElem?_eq_some_iff.1 h
  exact List.drop_eq_getElem_cons hi
theorem loop_fold {α σ : Type} {lp : LProg} {k : Nat} {L : List Bool × LCode} (T : Nat → σ → List LV) (S : Nat → σ → List LObj) (xs : List α) (f : σ → α → (LOut × List LV × List LObj) ⊕ σ) (e : σ → LOut × List LV × List LObj) (Inv : Nat → σ → Prop)
    (hs : ∀ i s x, xs[i]? = some x → Inv i s → (∀ r, f s x = .inl r → LoopN lp k L (T i s) (S i s) r) ∧ ∀ s', f s x = .inr s' → Inv (i + 1) s' ∧ ∀ r, LoopN lp k L (T (i + 1) s') (S (i + 1) s') r → LoopN lp k L (T i s) (S i s) r)
    (he : ∀ s, Inv xs.length s → LoopN lp k L (T xs.length s) (S xs.length s) (e s)) (s0 : σ) (h0 : Inv 0 s0) : LoopN lp k L (T 0 s0) (S 0 s0) (foldE f e s0 xs) := by
  have key : ∀ n i s, n + i = xs.length → Inv i s → LoopN lp k L (T i s) (S i s) (foldE f e s (xs.drop i)) := by
    intro n
    induction n with
    | zero =>
      intro i s h hi
      obtain rfl : i = xs.length := by omega
      rw [List.drop_length]
      exact he s hi
    | succ n ih =>
      intro i s h hi
      have hx : xs[i]? = some (xs[i]'(by omega)) := List.getElem?_eq_getElem (by omega)
      rw [drop_get hx]
      obtain ⟨h1, h2⟩ := hs i s _ hx hi
      simp only [foldE]
      cases hf : f s (xs[i]'(by omega)) with
      | inl r => exact h1 r hf
      | inr s' =>
        obtain ⟨h3, h4⟩ := h2 s' hf
        exact h4 _ (ih (i + 1) s' (by omega) h3)
  have := key xs.length 0 s0 (by omega) h0
  rwa [List.drop_zero] at this
theorem loop_all {α : Type} {lp : LProg} {k : Nat} {L : List Bool × LCode} (T : Nat → List LV) (S : List LObj) (xs : List α) (p : α → Bool) {rF rT : LOut × List LV × List LObj}
    (hF : ∀ i x, xs[i]? = some x → p x = false → LoopN lp k L (T i) S rF) (hS : ∀ i x r, xs[i]? = some x → p x = true → LoopN lp k L (T (i + 1)) S r → LoopN lp k L (T i) S r)
    (hE : LoopN lp k L (T xs.length) S rT) : LoopN lp k L (T 0) S (if xs.all p = true then rT else rF) := by
  have := loop_fold (σ := Unit) (fun i _ => T i) (fun _ _ => S) xs (fun _ x => if p x = true then .inr () else .inl rF) (fun _ => rT) (fun _ _ => True)
    (fun i s x hx _ => by
      cases hp : p x with
      | true => simp only [if_true]; exact ⟨fun r h => (by cases h), fun s' _ => ⟨trivial, fun r hr => hS i x r hx hp hr⟩⟩
      | false => simp only [Bool.false_eq_true, if_false]; exact ⟨fun r h => (by cases h; exact hF i x hx hp), fun s' h => (by cases h)⟩)
    (fun _ _ => hE) () trivial
  have e : ∀ l : List α, foldE (fun (_ : Unit) x => if p x = true then (.inr () : (LOut × List LV × List LObj) ⊕ Unit) else .inl rF) (fun _ => rT) () l = if l.all p = true then rT else rF := by
    intro l
    induction l with
    | nil => rfl
    | cons x r ih =>
      have e1 : (x :: r).all p = (p x && r.all p) := rfl
      simp only [foldE, e1]
      by_cases hp : p x = true
      · simp only [hp, if_true, Bool.true_and]; exact ih
      · simp only [hp, Bool.false_and, Bool.false_eq_true, if_false]
  rw [e] at this
  exact this
theorem loop_each {α σ : Type} {lp : LProg} {k : Nat} {L : List Bool × LCode} (T : Nat → σ → List LV) (S : Nat → σ → List LObj) (xs : List α) (f : σ → α → σ) (e : σ → LOut × List LV × List LObj) (Inv : Nat → σ → Prop)
    (hS : ∀ i s x r, xs[i]? = some x → Inv i s → Inv (i + 1) (f s x) ∧ (LoopN lp k L (T (i + 1) (f s x)) (S (i + 1) (f s x)) r → LoopN lp k L (T i s) (S i s) r))
    (hE : ∀ s, Inv xs.length s → LoopN lp k L (T xs.length s) (S xs.length s) (e s)) (s0 : σ) (h0 : Inv 0 s0) : LoopN lp k L (T 0 s0) (S 0 s0) (e (xs.foldl f s0)) := by
  have := loop_fold T S xs (fun s x => .inr (f s x)) e Inv (fun i s x hx hi => ⟨fun r h => (by cases h), fun s' h => (by cases h; exact ⟨(hS i s x (e s) hx hi).1, fun r hr => (hS i s x r hx hi).2 hr⟩)⟩) hE s0 h0
  have e2 : ∀ (l : List α) s, foldE (fun s x => (.inr (f s x) : (LOut × List LV × List LObj) ⊕ σ)) e s l = e (l.foldl f s) := by
    intro l
    induction l with
    | nil => intro s; rfl
    | cons x r ih => intro s; simp only [foldE, List.foldl_cons]; exact ih _
  rw [e2] at this
  exact this
theorem LoopAt.onG {lp : LProg} {N k : Nat} {mask : List Bool} {c : LCode} {t t1 t2 t3 : List LV} {st st1 st3 : List LObj} {os os' : Os} {ps : List Prop} {r : LOut × List LV × List LObj}
    (h : execO lp k N c t st os = some (.normal, t1, st1, ps, os')) (hk : kill mask t1 = t2) (hg : gc k t2 st1 = some (t3, st3)) (hp : Conj ps) (hr : LoopAt lp k mask c t3 st3 r) : LoopAt lp k mask c t st r := by
  refine LoopAt.on (N := N) (os := os) (ps := ps) (t' := t3) (st' := st3) ?_ hp hr
  unfold roundO
  rw [h]
  simp only [hk, hg]
theorem nx {i : Nat} (h : i ≤ 1000000000000000) : IntKind.wrap .i64 ((i : Int) + 1) = ((i + 1 : Nat) : Int) := by
  rw [wrap_i64 (by omega) (by omega)]; rfl
theorem wrap_add (a b : Int) : IntKind.wrap .i64 (IntKind.wrap .i64 a + b) = IntKind.wrap .i64 (a + b) := by
  simp only [IntKind.wrap, IntKind.bits, IntKind.signed]
  simp
  omega
theorem wrap_add' (a b : Int) : IntKind.wrap .i64 (a + IntKind.wrap .i64 b) = IntKind.wrap .i64 (a + b) := by
  rw [Int.add_comm, wrap_add, Int.add_comm]
theorem wrap_wrap (a : Int) : IntKind.wrap .i64 (IntKind.wrap .i64 a) = IntKind.wrap .i64 a := by
  have := wrap_add a 0
  simpa using this
end Go.LS
set_option linter.unusedVariables false
set_option linter.unusedSimpArgs false
namespace Go.LS
inductive Val where
  | mk (kind int : Int) (text : List UInt8) (items : List Val) (names : List (List UInt8))
  deriving Inhabited
def rowsN (ns : List (List UInt8)) : List (List PV) := ns.map fun x => [.str x]
mutual
def rowV : Val → List PV
  | .mk k n s is ns => [.int .i64 k, .int .i64 n, .str s, .sl (rowsV is), .sl (rowsN ns)]
def rowsV : List Val → List (List PV)
  | [] => []
  | v :: r => rowV v :: rowsV r
end
abbrev encV : Val → LV
  | .mk k n s is ns => .agg [.p (.int .i64 k), .p (.int .i64 n), .p (.str s), .p (.sl (rowsV is)), .p (.sl (rowsN ns))]
theorem rowsV_map : ∀ (l : List Val), rowsV l = l.map rowV
  | [] => rfl
  | v :: r => by rw [rowsV, rowsV_map r]; rfl
theorem rowsV_len (l : List Val) : (rowsV l).length = l.length := by rw [rowsV_map, List.length_map]
theorem rowsN_len (l : List (List UInt8)) : (rowsN l).length = l.length := by simp [rowsN]
theorem rowV_len : ∀ (v : Val), (rowV v).length = 5
  | .mk .. => rfl
theorem rowsV_get {l : List Val} {i : Nat} {v : Val} (h : l[i]? = some v) : (rowsV l)[i]? = some (rowV v) := by rw [rowsV_map, List.getElem?_map, h]; rfl
theorem rowsN_get {l : List (List UInt8)} {i : Nat} (h : i < l.length) : (rowsN l)[i]? = some [.str (l.getD i [])] := by
  simp [rowsN, h]
theorem Val.ind {P : Val → Prop} (h : ∀ k n s is ns, (∀ v ∈ is, P v) → P (.mk k n s is ns)) : ∀ v, P v
  | .mk k n s is ns => h k n s is ns fun v hv => Val.ind h v
def nameB (s : List UInt8) : Bool := !(s.contains 46) && decide (1 ≤ s.length) && decide (s.length ≤ 32) && !(s.headD 0 == 36)
def twiceB : List (List UInt8) → Bool
  | [] => false
  | x :: r => r.contains x || twiceB r
def shapeB (k n : Int) (s : List UInt8) (l : Nat) (ns : List (List UInt8)) : Bool :=
  if k == 1 then n == 0 && s == [] && decide (l = 0) && decide (ns.length = 0)
  else if k == 2 then (decide (0 ≤ n) && decide (n ≤ 1)) && s == [] && decide (l = 0) && decide (ns.length = 0)
  else if k == 3 then s == [] && decide (l = 0) && decide (ns.length = 0)
  else if k == 4 || k == 5 then n == 0 && decide (l = 0) && decide (ns.length = 0)
  else if k == 6 then n == 0 && s == [] && decide (ns.length = 0)
  else if k == 7 then n == 0 && s == [] && decide (ns.length = l) && !twiceB ns
  else false
def okNamesB (ns : List (List UInt8)) : Bool := ns.all nameB && !twiceB ns
mutual
def mayV : Val → Bool
  | .mk k n s is ns => mayL is && ns.all nameB && shapeB k n s is.length ns
def mayL : List Val → Bool
  | [] => true
  | v :: r => mayV v && mayL r
end
mutual
def depthV : Val → Int
  | .mk _ _ _ is _ => depthL is + 1
def depthL : List Val → Int
  | [] => 0
  | v :: r => max (depthV v) (depthL r)
end
theorem mayL_all : ∀ (l : List Val), mayL l = l.all mayV
  | [] => rfl
  | v :: r => by rw [mayL, mayL_all r]; rfl
def zzN (x : Int) : Nat := if 0 ≤ x then (2 * x).toNat else (-(2 * x) - 1).toNat
def clenN (n : Nat) : Int := ((vcode n).length : Int)
def tlenN (s : List UInt8) : Int := ((vcode s.length).length : Int) + s.length
mutual
def sizeV : Val → Int
  | .mk k n s is ns => if k == 2 then 2 else if k == 3 then 1 + ((vcode (zzN n)).length : Int) else if k == 4 || k == 5 then 1 + tlenN s
    else if k == 6 then 1 + clenN is.length + sizeL is else if k == 7 then 1 + clenN is.length + sizeL is + (ns.map tlenN).sum else 1
def sizeL : List Val → Int
  | [] => 0
  | v :: r => sizeV v + sizeL r
end
def sizeW (v : Val) : Int := IntKind.wrap .i64 (sizeV v)
mutual
def nodesV : Int → Val → Int
  | d, .mk _ _ _ is ns => if d > 40 then 1048576 else nodesL (IntKind.wrap .i64 (d + 1)) (IntKind.wrap .i64 (1 + (ns.length : Int))) is
def nodesL : Int → Int → List Val → Int
  | _, m, [] => m
  | d, m, v :: r => if m < 65536 then nodesL d (IntKind.wrap .i64 (m + nodesV d v)) r else m
end
def largeV (v : Val) : Bool := decide (nodesV 0 v > 3000)
mutual
def sameV : Val → Val → Bool
  | .mk k n s is ns, .mk k' n' s' is' ns' => (k == k') && (n == n') && (s == s') && sameL is is' && (ns == ns')
def sameL : List Val → List Val → Bool
  | [], [] => true
  | v :: r, v' :: r' => sameV v v' && sameL r r'
  | _, _ => false
end
def ordI (a b : Int) : Int := if a < b then -1 else if a > b then 1 else 0
def ordS (a b : List UInt8) : Int := if Op.bytesLess a b = true then -1 else if (!(Op.bytesLess a b || a == b)) = true then 1 else 0
mutual
def cmpV : Val → Val → Int
  | .mk k n s is ns, .mk k' n' s' is' ns' => if ordI k k' ≠ 0 then ordI k k' else if ordI n n' ≠ 0 then ordI n n' else if ordS s s' ≠ 0 then ordS s s' else
    match cmpL (k == 7) is is' ns ns' with
    | some c => c
    | none => ordI is.length is'.length
def cmpL : Bool → List Val → List Val → List (List UInt8) → List (List UInt8) → Option Int
  | d, v :: r, w :: q, ns, ms => if d = true ∧ ordS (ns.headD []) (ms.headD []) ≠ 0 then some (ordS (ns.headD []) (ms.headD [])) else
    if cmpV v w ≠ 0 then some (cmpV v w) else cmpL d r q ns.tail ms.tail
  | _, _, _, _, _ => none
end
def cmp0V (v w : Val) : Int := if mayV v = true then (if mayV w = true then cmpV v w else 1) else if mayV w = true then -1 else 0
def checkV (v : Val) : Int := if mayV v = true then (if depthV v > 8 then 21 else if sizeW v > 4096 then 22 else 0) else 20
def dep0V (v : Val) : Int := if mayV v = true then depthV v else 0
def siz0V (v : Val) : Int := if mayV v = true then sizeW v else 0
mutual
def okV : Val → Prop
  | .mk k n s is ns => (-9223372036854775808 ≤ k ∧ k ≤ 9223372036854775807) ∧ (-9223372036854775808 ≤ n ∧ n ≤ 9223372036854775807) ∧ s.length ≤ 140737488351232 ∧ is.length * 80 ≤ 140737488355328 ∧ ns.length * 16 ≤ 140737488355328 ∧ (∀ x ∈ ns, x.length ≤ 140737488351232) ∧ okL is
def okL : List Val → Prop
  | [] => True
  | v :: r => okV v ∧ okL r
end
theorem okL_all : ∀ {l : List Val}, okL l ↔ ∀ v ∈ l, okV v
  | [] => by simp [okL]
  | v :: r => by rw [okL, okL_all (l := r)]; simp
theorem okNames : ∀ {es : List (List PV)}, (∀ e ∈ es, okPVs [.str] e) → ∃ ns : List (List UInt8), es = rowsN ns ∧ ∀ x ∈ ns, x.length ≤ 140737488351232
  | [], _ => ⟨[], rfl, by simp⟩
  | e :: r, h => by
    obtain ⟨ns, rfl, hn⟩ := okNames (es := r) (fun x hx => h x (List.mem_cons_of_mem _ hx))
    obtain ⟨_, _, rfl, ⟨s, rfl, hs⟩, rfl⟩ := h e (List.mem_cons_self ..)
    refine ⟨s :: ns, rfl, fun x hx => ?_⟩
    rcases List.mem_cons.1 hx with rfl | hx
    · simp [reachBytes] at hs; omega
    · exact hn x hx
theorem okVal1 {Q : List PV → Prop} (hQ : ∀ {es : List (List PV)}, (∀ e ∈ es, Q e) → ∃ l : List Val, es = rowsV l ∧ okL l) {e : List PV}
    (h : okPVs [.int .i64, .int .i64, .str, .pr Q 80, .sl [.str] 16] e) : ∃ v : Val, e = rowV v ∧ okV v := by
  obtain ⟨_, _, rfl, ⟨a, rfl, a0, a1⟩, _, _, rfl, ⟨b, rfl, b0, b1⟩, _, _, rfl, ⟨s, rfl, hs⟩, _, _, rfl, ⟨es, rfl, e1, -, e3⟩, _, _, rfl, ⟨ns, rfl, n1, -, n3⟩, rfl⟩ := h
  obtain ⟨l, rfl, hl⟩ := hQ e3
  obtain ⟨m, rfl, hm⟩ := okNames n3
  refine ⟨.mk a b s l m, rfl, ⟨⟨a0, a1⟩, ⟨b0, b1⟩, ?_, ?_, ?_, hm, hl⟩⟩
  · simp [reachBytes] at hs; omega
  · rw [rowsV_len] at e1; simp [reachBytes] at e1; omega
  · rw [rowsN_len] at n1; simp [reachBytes] at n1; omega
theorem okVals {P : Program} {cut : List TypeId} {N : Nat} {T : TypeId} (hT : ∀ Q, tyT P cut Q N T = some [.int .i64, .int .i64, .str, .pr (Q T) 80, .sl [.str] 16]) :
    ∀ (k : Nat) {es : List (List PV)}, (∀ e ∈ es, RecOk P cut N k T e) → ∃ l : List Val, es = rowsV l ∧ okL l := by
  intro k
  induction k with
  | zero =>
    intro es h
    cases es with
    | nil => exact ⟨[], rfl, trivial⟩
    | cons e r => exact (h e (List.mem_cons_self ..)).elim
  | succ k ih =>
    intro es
    induction es with
    | nil => exact fun _ => ⟨[], rfl, trivial⟩
    | cons e r ihr =>
      intro h
      obtain ⟨l, rfl, hl⟩ := ihr fun x hx => h x (List.mem_cons_of_mem _ hx)
      obtain ⟨ts, h1, h2⟩ := h e (List.mem_cons_self ..)
      rw [hT] at h1
      cases h1
      obtain ⟨v, rfl, hv⟩ := okVal1 (fun h => ih h) h2
      exact ⟨v :: l, rfl, hv, hl⟩
theorem okValA {Q : List PV → Prop} (hQ : ∀ {es : List (List PV)}, (∀ e ∈ es, Q e) → ∃ l : List Val, es = rowsV l ∧ okL l) {e : List PV}
    (h : okPVs [.int .i64, .int .i64, .str, .pr Q 80, .sl [.str] 16] e) : ∃ v : Val, (.agg (e.map .p) : LV) = encV v ∧ okV v := by
  obtain ⟨v, rfl, hv⟩ := okVal1 hQ h
  exact ⟨v, by cases v; rfl, hv⟩
theorem rowsV_append (a b : List Val) : rowsV (a ++ b) = rowsV a ++ rowsV b := by simp [rowsV_map]
theorem rowsV_sized (l : List Val) : sized 5 (rowsV l) = true := by
  simp only [sized, List.all_eq_true, rowsV_map, List.mem_map]
  rintro _ ⟨v, _, rfl⟩
  simp [rowV_len]
theorem rowsN_sized (l : List (List UInt8)) : sized 1 (rowsN l) = true := by
  simp only [sized, List.all_eq_true, rowsN, List.mem_map]
  rintro _ ⟨v, _, rfl⟩
  rfl
theorem opIs_appVS {tg : Nat} {es : List Val} {k n : Int} {s : List UInt8} {is : List Val} {ns : List (List UInt8)} {st : List LObj} (hs : st[tg]? = some (.spare 5 (List.length (rowsV es)))) (hb : (es.length + 1) * 80 ≤ 140737488355328) :
    opStep noCall [] st (.append false 5 80 (.const (.sl (rowsV es) tg (List.length (rowsV es)))) (.const (.tight [[.int .i64 k, .int .i64 n, .str s, .sl (rowsV is), .sl (rowsN ns)]]))) =
      some (.sl (rowsV (es ++ [.mk k n s is ns])) tg (List.length (rowsV (es ++ [.mk k n s is ns]))), st.set tg (.spare 5 (List.length (rowsV (es ++ [.mk k n s is ns]))))) := by
  have := opIs_appSE (size := 5) (bytes := 80) (tg := tg) (E := rowsV es) (X := [[.int .i64 k, .int .i64 n, .str s, .sl (rowsV is), .sl (rowsN ns)]]) (st := st) (x := .tight [[.int .i64 k, .int .i64 n, .str s, .sl (rowsV is), .sl (rowsN ns)]]) hs rfl rfl
    (by rw [rowsV_len]; exact hb) (by rw [rowsV_len]; simp; omega) (by decide)
  rw [this, rowsV_append]
  rfl
theorem opIs_appVT {k n : Int} {s : List UInt8} {is : List Val} {ns : List (List UInt8)} {st : List LObj} :
    opStep noCall [] st (.append false 5 80 (.const (.tight [])) (.const (.tight [[.int .i64 k, .int .i64 n, .str s, .sl (rowsV is), .sl (rowsN ns)]]))) =
      some (.sl (rowsV [.mk k n s is ns]) st.length (List.length (rowsV [.mk k n s is ns])), st ++ [.spare 5 (List.length (rowsV [.mk k n s is ns]))]) := by
  exact opIs_appTE (size := 5) (bytes := 80) (E := []) (X := [[.int .i64 k, .int .i64 n, .str s, .sl (rowsV is), .sl (rowsN ns)]]) (st := st) (x := .tight [[.int .i64 k, .int .i64 n, .str s, .sl (rowsV is), .sl (rowsN ns)]]) rfl rfl rfl (by simp) (by simp) (by simp) (by decide)
def seenM (ms : List (List UInt8)) : List (PV × LV) := ms.map fun x => (.str x, .p (.bool true))
theorem seenM_find (x : List UInt8) : ∀ (ms : List (List UInt8)), mfind (.str x) (seenM ms) = some (if ms.contains x then some (.p (.bool true)) else none)
  | [] => rfl
  | y :: r => by
    have ih := seenM_find x r
    rw [seenM] at ih
    simp only [seenM, List.map_cons, mfind, pvEq]
    by_cases h : x = y
    · subst h; simp
    · have h2 : (x == y) = false := by simpa using h
      rw [h2]
      simp only [ih, List.contains_cons, h2, Bool.false_or]
theorem seenM_set (x : List UInt8) : ∀ (ms : List (List UInt8)), ms.contains x = false → mset (.str x) (.p (.bool true)) (seenM ms) = some (seenM (ms ++ [x]))
  | [], _ => rfl
  | y :: r, h => by
    rw [List.contains_cons, Bool.or_eq_false_iff] at h
    have ih := seenM_set x r h.2
    rw [seenM] at ih
    simp only [seenM, List.map_cons, mset, pvEq, h.1, ih, List.cons_append]
theorem seenM_refs (ms : List (List UInt8)) : (LObj.map (seenM ms)).refs = [] := by
  simp only [LObj.refs, seenM, List.flatMap_map]
  induction ms with
  | nil => rfl
  | cons x r ih => simp [LV.refs]
theorem seenM_ren (r : Nat → Nat) (ms : List (List UInt8)) : LObj.ren r (.map (seenM ms)) = .map (seenM ms) := by
  simp [LObj.ren, seenM, LV.ren]
theorem gc_seen {ms : List (List UInt8)} {vs : List LV} (h1 : vs.flatMap LV.refs = [0]) (h2 : vs.map (LV.ren fun q => [0].idxOf q) = vs) : gc 0 vs [.map (seenM ms)] = some (vs, [.map (seenM ms)]) := by
  have hr : gcIds 0 [.map (seenM ms)] (vs.flatMap LV.refs) = [0] := by
    rw [h1]
    unfold gcIds
    rw [show (100000 : Nat) = 99998 + 1 + 1 from rfl]
    simp [reach, seenM_refs]
  unfold gc
  simp only [hr]
  rw [h1, h2]
  simp [closed, seenM_refs, sub, seenM_ren]
theorem opIs_seen {st : List LObj} {ms : List (List UInt8)} {x : List UInt8} {o : Nat} (h : st[o]? = some (.map (seenM ms))) :
    opStep noCall [] st (.lookup .str (.p (.bool false)) false (.const (.mp o)) (.const (.p (.str x)))) = some (.p (.bool (ms.contains x)), st) := by
  simp only [opStep, LX.ev, LV.toPV, KK.fits, mlook, h, seenM_find]
  cases ms.contains x <;> rfl
theorem opIs_see {st : List LObj} {ms : List (List UInt8)} {x : List UInt8} {o : Nat} (h : st[o]? = some (.map (seenM ms))) (hx : ms.contains x = false) :
    opStep noCall [] st (.mapUpdate .str (.const (.mp o)) (.const (.p (.str x))) (.const (.p (.bool true)))) = some (.tup [], st.set o (.map (seenM (ms ++ [x])))) := by
  simp only [opStep, LX.ev, LV.toPV, KK.fits, h, seenM_set x ms hx]
  rfl
end Go.LS
set_option linter.unusedVariables false
namespace Go.LS
def u8 (x : Int) : UInt8 := UInt8.ofNat (Int.toNat (IntKind.wrap .u8 x))
mutual
def encC : Val → List UInt8
  | .mk k n s is ns => u8 k :: (if k == 1 then [] else if k == 2 then [u8 n] else if k == 3 then vcode (zzN n) else if k == 4 || k == 5 then vcode s.length ++ s
    else vcode is.length ++ encL (k == 7) is ns)
def encL : Bool → List Val → List (List UInt8) → List UInt8
  | _, [], _ => []
  | d, v :: r, ns => (if d then vcode (ns.headD []).length ++ ns.headD [] else []) ++ encC v ++ encL d r ns.tail
end
theorem encL_fold0 (ns : List (List UInt8)) : ∀ (is : List Val) (L : List UInt8), is.foldl (fun b x => b ++ encC x) L = L ++ encL false is ns := by
  intro is
  induction is generalizing ns with
  | nil => intro L; simp [encL]
  | cons v r ih => intro L; rw [List.foldl_cons, ih ns.tail]; simp [encL]
theorem encL_fold1 : ∀ (is : List Val) (ns : List (List UInt8)) (L : List UInt8), ns.length = is.length →
    (is.zip ns).foldl (fun b x => b ++ (vcode x.2.length ++ x.2) ++ encC x.1) L = L ++ encL true is ns := by
  intro is
  induction is with
  | nil => intro ns L h; simp [encL]
  | cons v r ih =>
    intro ns L h
    cases ns with
    | nil => simp at h
    | cons x q =>
      rw [List.zip_cons_cons, List.foldl_cons, ih q _ (by simpa using h)]
      simp [encL]
theorem encL_len0 : ∀ (is : List Val) (ns : List (List UInt8)), (∀ v ∈ is, ((encC v).length : Int) = sizeV v) → ((encL false is ns).length : Int) = sizeL is := by
  intro is
  induction is with
  | nil => intro ns h; simp [encL, sizeL]
  | cons v r ih =>
    intro ns h
    have h1 := h v (by simp)
    have h2 := ih ns.tail (fun x hx => h x (by simp [hx]))
    simp only [encL, sizeL, List.length_append, Bool.false_eq_true, if_false, List.length_nil]
    omega
theorem encL_len1 : ∀ (is : List Val) (ns : List (List UInt8)), ns.length = is.length → (∀ v ∈ is, ((encC v).length : Int) = sizeV v) → ((encL true is ns).length : Int) = sizeL is + (ns.map tlenN).sum := by
  intro is
  induction is with
  | nil => intro ns hn h; obtain rfl : ns = [] := List.eq_nil_of_length_eq_zero (by simpa using hn); simp [encL, sizeL]
  | cons v r ih =>
    intro ns hn h
    cases ns with
    | nil => simp at hn
    | cons x q =>
      have h1 := h v (by simp)
      have h2 := ih q (by simpa using hn) (fun y hy => h y (by simp [hy]))
      simp only [encL, sizeL, List.length_append, if_true, List.headD_cons, List.tail_cons, List.map_cons, List.sum_cons, tlenN]
      omega
theorem rowsN_append (a b : List (List UInt8)) : rowsN (a ++ b) = rowsN a ++ rowsN b := by simp [rowsN]
theorem opIs_appNS {tg : Nat} {es : List (List UInt8)} {s : List UInt8} {st : List LObj} (hs : st[tg]? = some (.spare 1 (List.length (rowsN es)))) (hb : (es.length + 1) * 16 ≤ 140737488355328) :
    opStep noCall [] st (.append false 1 16 (.const (.sl (rowsN es) tg (List.length (rowsN es)))) (.const (.tight [[.str s]]))) =
      some (.sl (rowsN (es ++ [s])) tg (List.length (rowsN (es ++ [s]))), st.set tg (.spare 1 (List.length (rowsN (es ++ [s]))))) := by
  have := opIs_appSE (size := 1) (bytes := 16) (tg := tg) (E := rowsN es) (X := [[.str s]]) (st := st) (x := .tight [[.str s]]) hs rfl rfl
    (by rw [rowsN_len]; exact hb) (by rw [rowsN_len]; simp; omega) (by decide)
  rw [this, rowsN_append]
  rfl
theorem opIs_appNT {s : List UInt8} {st : List LObj} :
    opStep noCall [] st (.append false 1 16 (.const (.tight [])) (.const (.tight [[.str s]]))) =
      some (.sl (rowsN [s]) st.length (List.length (rowsN [s])), st ++ [.spare 1 (List.length (rowsN [s]))]) := by
  exact opIs_appTE (size := 1) (bytes := 16) (E := []) (X := [[.str s]]) (st := st) (x := .tight [[.str s]]) rfl rfl rfl (by simp) (by simp) (by simp) (by decide)
end Go.LS
set_option linter.unusedVariables false
namespace Go.LS
theorem rowsN_take (n : Nat) (ms : List (List UInt8)) : (rowsN ms).take n = rowsN (ms.take n) := by simp [rowsN, List.map_take]
theorem rowsN_all (ms : List (List UInt8)) : ((rowsN ms).all fun e => e.length == 1) = true := rowsN_sized ms
theorem opIs_sliceNH {ms : List (List UInt8)} {n : Nat} {st : List LObj} (h : n ≤ ms.length) :
    opStep noCall [] st (.slice 1 (.const (.p (.sl (rowsN ms)))) none (some (.const (.p (.int .i64 (n : Int))))) none) = some (.p (.sl (rowsN (ms.take n))), st) := by
  have hl := rowsN_len ms
  have e1 : (rslice 1 st (.p (.sl (rowsN ms))) none (some (.p (.int .i64 (n : Int)))) none) = some (.p (.sl (rowsN (ms.take n)))) := by
    simp only [rslice, LV.asSl, rowsN_all, if_true, lslice, bnd, Option.isSome_none, Bool.false_eq_true, false_and, if_false, Option.isNone_some, hl]
    rw [if_pos (by omega)]
    simp only [Int.toNat_natCast, List.drop_zero, Option.isNone_none, true_and]
    by_cases hn : n = ms.length ∧ 0 < ms.length
    · rw [if_pos hn]
      rw [← rowsN_take, hn.1, ← hl, List.take_length]
    · rw [if_neg hn, rowsN_take]
  simp only [opStep, LX.ev, Option.map_none, Option.map_some, e1]
end Go.LS
set_option linter.unusedVariables false
namespace Go.LS
theorem loop_find {α : Type} {lp : LProg} {k : Nat} {L : List Bool × LCode} (T : Nat → List LV) (S : List LObj) (xs : List α) (p : α → Bool) {rT : LOut × List LV × List LObj} (rF : Nat → LOut × List LV × List LObj)
    (hF : ∀ i x, xs[i]? = some x → p x = false → LoopN lp k L (T i) S (rF i)) (hS : ∀ i x r, xs[i]? = some x → p x = true → LoopN lp k L (T (i + 1)) S r → LoopN lp k L (T i) S r)
    (hE : LoopN lp k L (T xs.length) S rT) : ∃ m, LoopN lp k L (T 0) S (if xs.all p = true then rT else rF m) := by
  have key : ∀ n i, n + i = xs.length → ∃ m, LoopN lp k L (T i) S (if (xs.drop i).all p = true then rT else rF m) := by
    intro n
    induction n with
    | zero =>
      intro i h
      obtain rfl : i = xs.length := by omega
      rw [List.drop_length]
      exact ⟨0, hE⟩
    | succ n ih =>
      intro i h
      have hx : xs[i]? = some (xs[i]'(by omega)) := List.getElem?_eq_getElem (by omega)
      rw [drop_get hx, List.all_cons]
      cases hp : p (xs[i]'(by omega)) with
      | true =>
        obtain ⟨m, hm⟩ := ih (i + 1) (by omega)
        exact ⟨m, hS i _ _ hx hp (by simpa using hm)⟩
      | false => exact ⟨i, by simpa using hF i _ hx hp⟩
  have := key xs.length 0 (by omega)
  rwa [List.drop_zero] at this
theorem any_notall {α : Type} (l : List α) (p : α → Bool) : l.any (fun x => !p x) = !l.all p := by
  induction l with
  | nil => rfl
  | cons x r ih => simp [ih]
end Go.LS
namespace Go.LS
theorem dlt {i n : Nat} (h : i < n) : decide ((i : Int) < ((n : Nat) : Int)) = true := decide_eq_true (by omega)
theorem dlt_n {n : Nat} : decide (((n : Nat) : Int) < ((n : Nat) : Int)) = false := decide_eq_false (by omega)
theorem ifE {lp : LProg} {f : FuncId} {a : List LV} {s : List LObj} {x y : LV × List LObj} (h : Runs lp f a s x) (e : x = y) : Runs lp f a s y := e ▸ h
end Go.LS
set_option linter.unusedVariables false
namespace Go.LS
def digsB : List UInt8 → Int → Option Int
  | [], n => some n
  | c :: r, n => if c.toNat < 48 || 57 < c.toNat then none else digsB r (10 * n + ((c.toNat : Int) - 48))
def idxB (s : List UInt8) : Option Int :=
  if s.length < 1 || 3 < s.length || (1 < s.length && (s.getD 0 0).toNat == 48) then none else digsB s 0
theorem decode_ascii4 {s : List UInt8} {i : Nat} (h : (s.getD i 0).toNat < 128) : Utf8.decode ⟨s.toArray⟩ i = ((s.getD i 0).toNat, 1) := by
  have e : (ByteArray.get! ⟨s.toArray⟩ (i + 0)) = s.getD i 0 := by
    show s.toArray[i]! = _
    simp [List.getD]
    rfl
  unfold Utf8.decode
  simp only [e]
  rw [if_pos h]
theorem decode_high4 {s : List UInt8} {i : Nat} (h : ¬ (s.getD i 0).toNat < 128) : 128 ≤ (Utf8.decode ⟨s.toArray⟩ i).1 := by
  have e : (ByteArray.get! ⟨s.toArray⟩ (i + 0)) = s.getD i 0 := by
    show s.toArray[i]! = _
    simp [List.getD]
    rfl
  unfold Utf8.decode
  simp only [e]
  rw [if_neg h]
  repeat' split
  all_goals simp_all [Utf8.runeError, Utf8.valid]
  all_goals omega
theorem ixW32 {n : Int} {c : UInt8} (h0 : 0 ≤ n) (h1 : n ≤ 99) (c0 : ¬ c.toNat < 48) (c1 : ¬ 57 < c.toNat) :
    IntKind.wrap .i64 (IntKind.wrap .i64 (10 * n) + IntKind.wrap .i64 (IntKind.wrap .i32 ((c.toNat : Int) - 48))) = 10 * n + ((c.toNat : Int) - 48) := by
  have e : IntKind.wrap .i32 ((c.toNat : Int) - 48) = (c.toNat : Int) - 48 := by
    simp only [IntKind.wrap, IntKind.bits, IntKind.signed]
    simp
    omega
  rw [e, wrap_i64 (n := (c.toNat : Int) - 48) (by omega) (by omega), wrap_i64 (n := 10 * n) (by omega) (by omega), wrap_i64 (by omega) (by omega)]
theorem ixW8 {n : Int} {c : UInt8} (h0 : 0 ≤ n) (h1 : n ≤ 99) (c0 : ¬ c.toNat < 48) (c1 : ¬ 57 < c.toNat) :
    IntKind.wrap .i64 (IntKind.wrap .i64 (10 * n) + IntKind.wrap .i64 (IntKind.wrap .u8 ((c.toNat : Int) - 48))) = 10 * n + ((c.toNat : Int) - 48) := by
  have e : IntKind.wrap .u8 ((c.toNat : Int) - 48) = (c.toNat : Int) - 48 := by
    simp only [IntKind.wrap, IntKind.bits, IntKind.signed]
    simp
    omega
  rw [e, wrap_i64 (n := (c.toNat : Int) - 48) (by omega) (by omega), wrap_i64 (n := 10 * n) (by omega) (by omega), wrap_i64 (by omega) (by omega)]
theorem digs_pos : ∀ (l : List UInt8) (n r : Int), 0 ≤ n → digsB l n = some r → 0 ≤ r
  | [], n, r, h, e => by simp only [digsB, Option.some.injEq] at e; omega
  | c :: l, n, r, h, e => by
    simp only [digsB] at e
    split at e
    · simp at e
    · rename_i hc
      simp only [Bool.or_eq_true, decide_eq_true_eq, not_or] at hc
      exact digs_pos l _ r (by omega) e
theorem opIs_nextE {s : List UInt8} {i : Nat} {st : List LObj} (hs : st[0]? = some (.siter s i)) (h : ¬ i < s.length) :
    opStep noCall [] st (.next (.const (.it 0))) = some (.tup [.p (.bool false)], st) := by
  simp only [opStep, LX.ev, hs, if_neg h]
theorem opIs_nextA {s : List UInt8} {i : Nat} {st : List LObj} (hs : st[0]? = some (.siter s i)) (h : i < s.length) (ha : (s.getD i 0).toNat < 128) :
    opStep noCall [] st (.next (.const (.it 0))) = some (.tup [.p (.bool true), .p (.int .i64 (i : Int)), .p (.int .i32 ((s.getD i 0).toNat : Int))], st.set 0 (.siter s (i + 1))) := by
  simp only [opStep, LX.ev, hs, if_pos h, decode_ascii4 ha]
theorem opIs_nextH {s : List UInt8} {i : Nat} {st : List LObj} (hs : st[0]? = some (.siter s i)) (h : i < s.length) :
    opStep noCall [] st (.next (.const (.it 0))) = some (.tup [.p (.bool true), .p (.int .i64 (i : Int)), .p (.int .i32 ((Utf8.decode ⟨s.toArray⟩ i).1 : Int))], st.set 0 (.siter s (i + (Utf8.decode ⟨s.toArray⟩ i).2))) := by
  simp only [opStep, LX.ev, hs, if_pos h]
theorem opIs_appNR {tg : Nat} {E X : List (List UInt8)} {st : List LObj} (hs : st[tg]? = some (.spare 1 (List.length (rowsN E)))) (hb : (E.length + X.length) * 16 ≤ 140737488355328) :
    opStep noCall [] st (.append false 1 16 (.const (.sl (rowsN E) tg (List.length (rowsN E)))) (.const (.p (.sl (rowsN X))))) =
      some (.sl (rowsN (E ++ X)) tg (List.length (rowsN (E ++ X))), st.set tg (.spare 1 (List.length (rowsN (E ++ X))))) := by
  have := opIs_appSE (size := 1) (bytes := 16) (tg := tg) (E := rowsN E) (X := rowsN X) (st := st) (x := .p (.sl (rowsN X))) hs rfl (rowsN_sized X)
    (by rw [rowsN_len, rowsN_len]; exact hb) (by rw [rowsN_len, rowsN_len]; omega) (by decide)
  rw [this, rowsN_append]
theorem opIs_appN0 {X : List (List UInt8)} {st : List LObj} (h : decide (X = []) = true) :
    opStep noCall [] st (.append false 1 16 (.const (.tight [])) (.const (.p (.sl (rowsN X))))) = some (.tight [], st) := by
  have h := of_decide_eq_true h
  subst h
  rfl
theorem opIs_appNX {X : List (List UInt8)} {st : List LObj} (h : decide (X = []) = false) (hb : X.length * 16 ≤ 140737488355328) :
    opStep noCall [] st (.append false 1 16 (.const (.tight [])) (.const (.p (.sl (rowsN X))))) = some (.sl (rowsN X) st.length (List.length (rowsN X)), st ++ [.spare 1 (List.length (rowsN X))]) := by
  have h := of_decide_eq_false h
  have := opIs_appTE (size := 1) (bytes := 16) (E := []) (X := rowsN X) (st := st) (x := .p (.sl (rowsN X))) rfl rfl (rowsN_sized X) (fun hh => h (by cases X with | nil => rfl | cons a b => simp [rowsN] at hh)) (by rw [rowsN_len]; simp; omega) (by rw [rowsN_len]; simp; omega) (by decide)
  simpa using this
end Go.LS
set_option linter.unusedVariables false
set_option linter.unusedSimpArgs false
namespace Go.LS
def rowS (es : List (List PV)) : List (List LV) := es.map fun e => e.map LV.p
theorem refs_p (e : List PV) : (e.map LV.p).flatMap LV.refs = [] := by
  induction e with
  | nil => rfl
  | cons a b ih => rw [List.map_cons, List.flatMap_cons, ih]; rfl
theorem rowS_refs (es : List (List PV)) : (LObj.row (rowS es)).refs = [] := by
  simp only [LObj.refs, rowS]
  induction es with
  | nil => rfl
  | cons e r ih => rw [List.map_cons, List.flatMap_cons, ih, refs_p]; rfl
theorem rowS_ren (es : List (List PV)) (f : Nat → Nat) : (LObj.row (rowS es)).ren f = .row (rowS es) := by
  simp only [LObj.ren, rowS, List.map_map]
  congr 1
  apply List.map_congr_left
  intro e _
  simp only [Function.comp, List.map_map]
  apply List.map_congr_left
  intro c _
  rfl
theorem rowS_len (es : List (List PV)) : (rowS es).length = es.length := by simp [rowS]
theorem rowS_get {es : List (List PV)} {i : Nat} {e : List PV} (h : es[i]? = some e) : (rowS es)[i]? = some (e.map .p) := by simp [rowS, h]
theorem rowS_app (a b : List (List PV)) : rowS (a ++ b) = rowS a ++ rowS b := by simp [rowS]
theorem toPVs_p (e : List PV) : toPVs (e.map LV.p) = some e := by
  induction e with
  | nil => rfl
  | cons a b ih => simp only [List.map_cons, toPVs, ih, LV.toPV]
theorem rowS_rowPV : ∀ (es : List (List PV)), rowPV (rowS es) = some es
  | [] => rfl
  | e :: r => by
    have := rowS_rowPV r
    simp only [rowS, List.map_cons] at this ⊢
    simp only [rowPV, toPVs_p, this]
theorem rowS_take (es : List (List PV)) (n : Nat) : (rowS es).take n = rowS (es.take n) := by simp [rowS]
theorem rowS_set (es : List (List PV)) (i : Nat) (e : List PV) : (rowS es).set i (e.map .p) = rowS (es.set i e) := by simp [rowS, List.map_set]
theorem sizedL_rowS {n : Nat} {es : List (List PV)} (h : sized n es = true) : sizedL n (rowS es) = true := by
  simp only [sizedL, rowS, sized, List.all_map] at h ⊢
  rw [List.all_eq_true] at h ⊢
  intro e he
  simpa using h e he
theorem opIs_idxRS {o n k size : Nat} {X : List (List PV)} {e : List PV} {st : List LObj} (hs : st[o]? = some (.row (rowS X))) (hk : k < n) (he : X[k]? = some e) (hz : e.length = size) {j : Int} (hj : j = (k : Int)) :
    opStep noCall [] st (.indexAddr size (.const (.rs o 0 n)) (.const (.p (.int .i64 j)))) = some (.ptr o k 0, st) := by
  subst hj
  have h1 : ¬ ((k : Int) < 0) := by omega
  have h2 : (k : Int) < (n : Int) := by omega
  simp only [opStep, LX.ev, LV.asInt, if_neg h1, if_pos h2, hs, Int.toNat_natCast, Nat.zero_add, rowS_get he, List.length_map, hz, if_true]
theorem opIs_ldRS {o k : Nat} {X : List (List PV)} {x : PV} {st : List LObj} (hs : st[o]? = some (.row (rowS X))) (he : X[k]? = some [x]) :
    opStep noCall [] st (.load false 1 (.const (.ptr o k 0))) = some (.p x, st) := by
  simp only [opStep, LX.ev, LV.ldAt, hs, rowS_get he, List.map_cons, List.map_nil]
  rfl
theorem opIs_stRS {o k : Nat} {X : List (List PV)} {x y : PV} {st : List LObj} (hs : st[o]? = some (.row (rowS X))) (he : X[k]? = some [x]) :
    opStep noCall [] st (.store 1 (.const (.ptr o k 0)) (.const (.p y))) = some (.tup [], st.set o (.row (rowS (X.set k [y])))) := by
  have e := rowS_set X k [y]
  simp only [List.map_cons, List.map_nil] at e
  simp only [opStep, LX.ev, LV.cells?, LV.stAt, hs, rowS_get he, List.map_cons, List.map_nil, List.length_cons, List.length_nil, if_true, Nat.zero_add, Nat.le_refl, List.take_zero, List.nil_append, List.drop_one, List.tail_cons, List.append_nil, e]
theorem opIs_appRS {o n size bytes : Nat} {X Y : List (List PV)} {x : LV} {st : List LObj} (hs : st[o]? = some (.row (rowS X))) (hn : n = X.length) (hx : x.asSl = some Y) (hr : ∀ a b c, x ≠ .rs a b c) (hX : sized size X = true) (hY : sized size Y = true) (hne : Y ≠ []) (h1 : 0 < X.length)
    (hb : (X.length + Y.length) * bytes ≤ 140737488355328) (hm : X.length + Y.length ≤ maxLen) (h0 : 0 < size) :
    opStep noCall [] st (.appendR size bytes (.const (.rs o 0 n)) (.const x)) = some (.rs st.length 0 (X.length + Y.length), st.set o .dead ++ [.row (rowS (X ++ Y))]) := by
  subst hn
  have ha : appendedR st x = some (rowS Y) := by
    cases x <;> simp only [appendedR, hx, rowS]
    rename_i a b c
    exact absurd rfl (hr a b c)
  have hYe : (rowS Y).isEmpty = false := by cases Y with | nil => exact absurd rfl hne | cons a b => rfl
  have hc : X.length = (rowS X).length ∧ 0 < X.length ∧ sizedL size (rowS X) = true ∧ roomy (X.length + (rowS Y).length) bytes = true ∧ X.length + (rowS Y).length ≤ maxLen ∧ 0 < size := by
    refine ⟨(rowS_len X).symm, h1, sizedL_rowS hX, ?_, ?_, h0⟩
    · rw [rowS_len]; exact roomy_of hb
    · rw [rowS_len]; exact hm
  simp only [opStep, LX.ev, rappend, ha, sizedL_rowS hY, Bool.not_true, Bool.false_eq_true, if_false, hs, hYe]
  rw [if_pos hc, rowS_app, rowS_len]
theorem opIs_mkRS {size bytes n : Nat} {z : List PV} {st : List LObj} {c : Int} (hc : c = (n : Int)) (hn : 0 < n) (hb : c * (bytes : Int) ≤ 281474976710656) (hm : c ≤ maxLen) (hz : z.length = size) (h0 : 0 < size) :
    opStep noCall [] st (.mkslice size bytes (z.map .p) (.const (.p (.int .i64 c))) (.const (.p (.int .i64 c)))) = some (.rs st.length 0 n, st ++ [.row (rowS (List.replicate n z))]) := by
  subst hc
  have h1 : ¬ ((n : Int) = 0 ∧ 0 < (n : Int)) := by omega
  have h2 : 0 ≤ (n : Int) ∧ (n : Int) ≤ (n : Int) ∧ (n : Int) * (bytes : Int) ≤ 281474976710656 ∧ (n : Int) ≤ maxLen ∧ (z.map LV.p).length = size ∧ 0 < size := ⟨by omega, by omega, hb, hm, by simp [hz], h0⟩
  simp only [opStep, LX.ev, LV.asInt]
  rw [if_pos h2, if_neg h1]
  simp [rowS]
theorem opIs_sliceRS {o n k size : Nat} {X : List (List PV)} {e : List PV} {st : List LObj} (hs : st[o]? = some (.row (rowS X))) (hk : k ≤ X.length) (hn : n ≤ X.length) (he : X[0]? = some e) (hz : e.length = size) {j : Int} (hj : j = (k : Int)) :
    opStep noCall [] st (.slice size (.const (.rs o 0 n)) none (some (.const (.p (.int .i64 j)))) none) = some (.rs o 0 k, st) := by
  subst hj
  have h0 : 0 < X.length := (List.getElem?_eq_some_iff.1 he).1
  have h1 : 0 ≤ (k : Int) ∧ (k : Int) ≤ (((rowS X).length - 0 : Nat) : Int) := by rw [rowS_len]; omega
  have h2 : (0 : Int) ≤ 0 ∧ (0 : Int) ≤ (k : Int) := by omega
  have h3 : 0 < (rowS X).length - 0 ∧ 0 + n ≤ (rowS X).length := by rw [rowS_len]; omega
  simp only [opStep, LX.ev, rslice, bnd, Option.map_none, Option.map_some, hs]
  rw [if_pos h1]
  simp only [Int.toNat_natCast]
  rw [if_pos h3]
  simp only [rowS_get he, List.length_map, hz, if_true, Nat.add_zero, Nat.sub_zero]
theorem frz_row {o n : Nat} {X X' : List (List PV)} {st : List LObj} (hs : st[o]? = some (.row (rowS X))) (hn : n ≤ X.length) (hx : X.take n = X') : frz true st [.rs o 0 n] = ([.p (.sl X')], st.set o .dead) := by
  subst hx
  have e : ((rowS X).drop 0).take n = rowS (X.take n) := by rw [List.drop_zero, rowS_take]
  have hl : 0 + n ≤ (rowS X).length := by rw [rowS_len]; omega
  simp only [frz, frzL, frz1, frzC, hs, if_pos hl, e, rowS_rowPV]
theorem callAt_pure {lp : LProg} {f : FuncId} {args0 args : List LV} {st st1 st' : List LObj} {r v : LV} (h : Runs lp f args [] (r, st1)) (hw : wk (lp.weak f) args0 = args) (h0 : args.flatMap LV.refs = []) (hr : args.map (LV.ren fun q => ([] : List Nat).idxOf q) = args)
    (hv : r.ren (back [] st.length) = v) (hs : st ++ st1.map (LObj.ren (back [] st.length)) = st') : CallAt lp f args0 st (v, st') := by
  have hk : callO lp f args0 st r st1 = some (v, st', Runs lp f args [] (r, st1)) := by
    unfold callO
    simp only [hw, h0]
    have e1 : reach st 100000 [] [] = [] := rfl
    rw [e1]
    simp only [hr]
    have e2 : sub st [] = [] := rfl
    have e3 : (closed st [] && ([] : List Nat).all (([] : List Nat).contains ·) && decide ([] : List Nat).Nodup) = true := rfl
    rw [if_pos e3, if_pos (show ([] : List Nat).length ≤ st1.length from Nat.zero_le _), e2, hv]
    simp only [List.length_nil, List.take_zero, List.map_nil, putBack, List.drop_zero]
    rw [hs]
  obtain ⟨n, hn⟩ := callO_sound hk h
  exact ⟨n, hn⟩
def oG {lp : LProg} {k : Nat} {x : List Bool × LCode} {t1 t t' : List LV} {st1 st st' : List LObj} {o : LOut} (_ : gc k t1 st1 = some (t, st)) (_ : LoopN lp k x t st (o, t', st')) : Orc := .lg o t' st' t st
def oA {lp : LProg} {f : FuncId} {args : List LV} {st st' : List LObj} {v : LV} (_ : CallAt lp f args st (v, st')) : Orc := .cg v st'
theorem rowsN_at {xs : List (List UInt8)} {i : Nat} {x : List UInt8} (h : xs[i]? = some x) : (rowsN xs)[i]? = some [.str x] := by
  simp only [rowsN, List.getElem?_map, h]; rfl
theorem rowsN_set (xs : List (List UInt8)) (i : Nat) (x : List UInt8) : (rowsN xs).set i [.str x] = rowsN (xs.set i x) := by simp [rowsN, List.map_set]
end Go.LS
namespace Go.LS
theorem frz_names {o : Nat} {xs : List (List UInt8)} {st : List LObj} (hs : st[o]? = some (.row (rowS (rowsN xs)))) : frz true st [.rs o 0 (List.length xs)] = ([.p (.sl (rowsN xs))], st.set o .dead) :=
  frz_row hs (by rw [rowsN_len]; exact Nat.le_refl _) (by rw [← rowsN_len xs]; exact List.take_length)
theorem frz_namesT {o k : Nat} {xs : List (List UInt8)} {st : List LObj} (hs : st[o]? = some (.row (rowS (rowsN xs)))) (hk : k ≤ xs.length) : frz true st [.rs o 0 k] = ([.p (.sl (rowsN (xs.take k)))], st.set o .dead) :=
  frz_row hs (by rw [rowsN_len]; exact hk) (rowsN_take _ _)
theorem opIs_idxN {o n k : Nat} {xs : List (List UInt8)} {st : List LObj} (hs : st[o]? = some (.row (rowS (rowsN xs)))) (hk : k < n) (he : k < xs.length) {j : Int} (hj : j = (k : Int)) :
    opStep noCall [] st (.indexAddr 1 (.const (.rs o 0 n)) (.const (.p (.int .i64 j)))) = some (.ptr o k 0, st) := opIs_idxRS hs hk (rowsN_get he) rfl hj
theorem opIs_ldN {o k : Nat} {xs : List (List UInt8)} {st : List LObj} (hs : st[o]? = some (.row (rowS (rowsN xs)))) (he : k < xs.length) :
    opStep noCall [] st (.load false 1 (.const (.ptr o k 0))) = some (.p (.str (xs.getD k [])), st) := opIs_ldRS hs (rowsN_get he)
theorem opIs_stN {o k : Nat} {xs : List (List UInt8)} {y : List UInt8} {st : List LObj} (hs : st[o]? = some (.row (rowS (rowsN xs)))) (he : k < xs.length) :
    opStep noCall [] st (.store 1 (.const (.ptr o k 0)) (.const (.p (.str y)))) = some (.tup [], st.set o (.row (rowS (rowsN (xs.set k y))))) := by
  rw [← rowsN_set]; exact opIs_stRS hs (rowsN_get he)
theorem opIs_appNS' {o n : Nat} {xs : List (List UInt8)} {y : List UInt8} {st : List LObj} (hs : st[o]? = some (.row (rowS (rowsN xs)))) (hn : n = xs.length) (h1 : 0 < xs.length) (hb : (xs.length + 1) * 16 ≤ 140737488355328) :
    opStep noCall [] st (.appendR 1 16 (.const (.rs o 0 n)) (.const (.tight [[.str y]]))) = some (.rs st.length 0 (xs ++ [y]).length, st.set o .dead ++ [.row (rowS (rowsN (xs ++ [y])))]) := by
  have := opIs_appRS (size := 1) (bytes := 16) (Y := [[.str y]]) (x := .tight [[.str y]]) (n := n) hs (by rw [rowsN_len]; exact hn) rfl (fun a b c h => by cases h) (rowsN_sized xs) rfl (by simp) (by rw [rowsN_len]; exact h1) (by rw [rowsN_len]; simpa using hb) (by rw [rowsN_len]; simp [maxLen]; omega) (by decide)
  rw [this, rowsN_len, rowsN_append]
  simp [rowsN]
theorem opIs_mkN {n : Nat} {st : List LObj} {c : Int} (hc : c = (n : Int)) (hn : 0 < n) (hb : n ≤ 8796093022208) :
    opStep noCall [] st (.mkslice 1 16 [.p (.str [])] (.const (.p (.int .i64 c))) (.const (.p (.int .i64 c)))) = some (.rs st.length 0 n, st ++ [.row (rowS (rowsN (List.replicate n [])))]) := by
  have := opIs_mkRS (size := 1) (bytes := 16) (z := [.str []]) (st := st) hc hn (by omega) (by simp [maxLen]; omega) rfl (by decide)
  have e : rowsN (List.replicate n []) = List.replicate n [PV.str []] := by simp [rowsN]
  rw [e]
  exact this
theorem opIs_sliceN {o n k : Nat} {xs : List (List UInt8)} {st : List LObj} (hs : st[o]? = some (.row (rowS (rowsN xs)))) (hk : k ≤ xs.length) (hn : n ≤ xs.length) (he : 0 < xs.length) {j : Int} (hj : j = (k : Int)) :
    opStep noCall [] st (.slice 1 (.const (.rs o 0 n)) none (some (.const (.p (.int .i64 j)))) none) = some (.rs o 0 k, st) := opIs_sliceRS hs (by rw [rowsN_len]; exact hk) (by rw [rowsN_len]; exact hn) (rowsN_get he) rfl hj
end Go.LS
namespace Go.LS
theorem opIs_appRT {size bytes : Nat} {X : List (List PV)} {st : List LObj} (hX : sized size X = true) (hne : X ≠ []) (hb : X.length * bytes ≤ 140737488355328) (hm : X.length ≤ maxLen) (h0 : 0 < size) :
    opStep noCall [] st (.appendR size bytes (.const (.tight [])) (.const (.p (.sl X)))) = some (.rs st.length 0 X.length, st ++ [.row (rowS X)]) := by
  have ha : appendedR st (.p (.sl X)) = some (rowS X) := rfl
  have hYe : (rowS X).isEmpty = false := by cases X with | nil => exact absurd rfl hne | cons a b => rfl
  have hc : roomy (rowS X).length bytes = true ∧ (rowS X).length ≤ maxLen ∧ 0 < size := ⟨by rw [rowS_len]; exact roomy_of hb, by rw [rowS_len]; exact hm, h0⟩
  simp only [opStep, LX.ev, rappend, ha, sizedL_rowS hX, Bool.not_true, Bool.false_eq_true, if_false, hYe]
  rw [if_pos hc, rowS_len]
def notRs : LV → Bool
  | .rs _ _ _ => false
  | _ => true
theorem frzC_plain (st : List LObj) (v : LV) (h : notRs v = true) : frzC st v = (v.weak1, st) := by cases v <;> first | rfl | simp [notRs] at h
theorem frzCs_plain : ∀ (st : List LObj) (a : List LV), a.all notRs = true → frzCs st a = (a.map LV.weak1, st)
  | st, [], _ => rfl
  | st, v :: r, h => by
    simp only [List.all_cons, Bool.and_eq_true] at h
    simp only [frzCs, frzC_plain st v h.1, frzCs_plain st r h.2, List.map_cons]
theorem frzCs_app (st : List LObj) : ∀ (a b : List LV), frzCs st (a ++ b) = ((frzCs st a).1 ++ (frzCs (frzCs st a).2 b).1, (frzCs (frzCs st a).2 b).2) := by
  intro a
  induction a generalizing st with
  | nil => intro b; rfl
  | cons v r ih => intro b; simp only [List.cons_append, frzCs, ih]
theorem frzC_names {o : Nat} {xs : List (List UInt8)} {st : List LObj} (hs : st[o]? = some (.row (rowS (rowsN xs)))) : frzC st (.rs o 0 (List.length xs)) = (.p (.sl (rowsN xs)), st.set o .dead) := by
  have h := frz_names hs
  simp only [frz, frzL, frz1] at h
  have h1 := congrArg Prod.fst h
  have h2 := congrArg Prod.snd h
  simp only [List.cons.injEq, and_true] at h1
  exact Prod.ext h1 h2
theorem frz_agg1 {o : Nat} {xs : List (List UInt8)} {st : List LObj} {a b : List LV} (ha : a.all notRs = true) (hb : b.all notRs = true) (hs : st[o]? = some (.row (rowS (rowsN xs)))) :
    frz true st [.agg (a ++ .rs o 0 (List.length xs) :: b)] = ([.agg (a.map LV.weak1 ++ .p (.sl (rowsN xs)) :: b.map LV.weak1)], st.set o .dead) := by
  have e : frzCs st (a ++ .rs o 0 (List.length xs) :: b) = (a.map LV.weak1 ++ .p (.sl (rowsN xs)) :: b.map LV.weak1, st.set o .dead) := by
    rw [frzCs_app, frzCs_plain st a ha]
    simp only [frzCs, frzC_names hs, frzCs_plain _ b hb]
  simp only [frz, frzL, frz1, e]
end Go.LS
set_option linter.unusedVariables false
set_option linter.unusedSimpArgs false
namespace Go.LS
theorem frzC_row {o n : Nat} {X : List (List PV)} {st : List LObj} (hs : st[o]? = some (.row (rowS X))) (hn : n = X.length) : frzC st (.rs o 0 n) = (.p (.sl X), st.set o .dead) := by
  subst hn
  have e : ((rowS X).drop 0).take X.length = rowS X := by rw [List.drop_zero, rowS_take, List.take_length]
  have hl : 0 + X.length ≤ (rowS X).length := by rw [rowS_len]; omega
  simp only [frzC, hs, if_pos hl, e, rowS_rowPV]
theorem frzC_rowT {o n : Nat} {X Y : List (List PV)} {st : List LObj} (hs : st[o]? = some (.row (rowS X))) (hn : n ≤ X.length) (hx : X.take n = Y) : frzC st (.rs o 0 n) = (.p (.sl Y), st.set o .dead) := by
  subst hx
  have e : ((rowS X).drop 0).take n = rowS (X.take n) := by rw [List.drop_zero, rowS_take]
  have hl : 0 + n ≤ (rowS X).length := by rw [rowS_len]; omega
  simp only [frzC, hs, if_pos hl, e, rowS_rowPV]
theorem frz_aggX {o n : Nat} {X : List (List PV)} {st : List LObj} {a b : List LV} (ha : a.all notRs = true) (hb : b.all notRs = true) (hs : st[o]? = some (.row (rowS X))) (hn : n = X.length) :
    frz true st [.agg (a ++ .rs o 0 n :: b)] = ([.agg (a.map LV.weak1 ++ .p (.sl X) :: b.map LV.weak1)], st.set o .dead) := by
  have e : frzCs st (a ++ .rs o 0 n :: b) = (a.map LV.weak1 ++ .p (.sl X) :: b.map LV.weak1, st.set o .dead) := by
    rw [frzCs_app, frzCs_plain st a ha]
    simp only [frzCs, frzC_row hs hn, frzCs_plain _ b hb]
  simp only [frz, frzL, frz1, e]
theorem frzV_aggX {o n : Nat} {X : List (List PV)} {st : List LObj} {a b : List LV} (ha : a.all notRs = true) (hb : b.all notRs = true) (hs : st[o]? = some (.row (rowS X))) (hn : n = X.length) :
    frzV st (.agg (a ++ .rs o 0 n :: b)) = (.agg (a.map LV.weak1 ++ .p (.sl X) :: b.map LV.weak1), st.set o .dead) := by
  have e : frzCs st (a ++ .rs o 0 n :: b) = (a.map LV.weak1 ++ .p (.sl X) :: b.map LV.weak1, st.set o .dead) := by
    rw [frzCs_app, frzCs_plain st a ha]
    simp only [frzCs, frzC_row hs hn, frzCs_plain _ b hb]
  simp only [frzV, frz1, e]
theorem frz_agg2X {o n o' n' : Nat} {X Y Y' X' : List (List PV)} {st : List LObj} {a b : List LV} (ha : a.all notRs = true) (hb : b.all notRs = true) (hs : st[o]? = some (.row (rowS X))) (hn : n ≤ X.length) (hX : X.take n = X')
    (hs' : (st.set o .dead)[o']? = some (.row (rowS Y))) (hn' : n' ≤ Y.length) (hY : Y.take n' = Y') :
    frz true st [.agg (a ++ .rs o 0 n :: .rs o' 0 n' :: b)] = ([.agg (a.map LV.weak1 ++ .p (.sl X') :: .p (.sl Y') :: b.map LV.weak1)], (st.set o .dead).set o' .dead) := by
  have e : frzCs st (a ++ .rs o 0 n :: .rs o' 0 n' :: b) = (a.map LV.weak1 ++ .p (.sl X') :: .p (.sl Y') :: b.map LV.weak1, (st.set o .dead).set o' .dead) := by
    rw [frzCs_app, frzCs_plain st a ha]
    simp only [frzCs, frzC_rowT hs hn hX, frzC_rowT hs' hn' hY, frzCs_plain _ b hb]
  simp only [frz, frzL, frz1, e]
theorem callAt_sh {lp : LProg} {f : FuncId} {args0 args args' : List LV} {st sh st1 st' sub' : List LObj} {r v : LV} {ids : List Nat} (hr : st.map LObj.refs = sh.map LObj.refs) (hw : wk (lp.weak f) args0 = args)
    (hi : reach sh 100000 (args.flatMap LV.refs) [] = ids) (hc : (closed sh ids && (args.flatMap LV.refs).all (ids.contains ·) && decide ids.Nodup) = true)
    (ha : args.map (LV.ren fun q => ids.idxOf q) = args') (hs : sub st ids = sub') (h : Runs lp f args' sub' (r, st1)) (hl : decide (ids.length ≤ st1.length) = true) (hv : r.ren (back ids st.length) = v)
    (hp : putBack st ids ((st1.take ids.length).map (LObj.ren (back ids st.length))) ++ (st1.drop ids.length).map (LObj.ren (back ids st.length)) = st') : CallAt lp f args0 st (v, st') := by
  obtain ⟨n, hn⟩ := Runs.at h
  refine ⟨n, fun m hm => ?_⟩
  unfold callIso
  simp only
  rw [runF_weak, hw, reach_sh hr, hi, closed_sh hr, if_pos hc, ha, hs, hn m hm]
  simp only
  rw [if_pos (of_decide_eq_true hl), hv, hp]
section
variable {o n size : Nat} {X : List (List PV)} {st : List LObj}
theorem opIs_lenRS : opStep noCall [] st (.len (.const (.rs o 0 n))) = some (.p (.int .i64 n), st) := rfl
theorem opIs_sliceHi {k : Nat} {j : Int} {e : List PV} (hs : st[o]? = some (.row (rowS X))) (hk : k ≤ X.length) (hn : n ≤ X.length) (he : X[0]? = some e) (hz : e.length = size) (hj : j = (k : Int)) :
    opStep noCall [] st (.slice size (.const (.rs o 0 n)) none (some (.const (.p (.int .i64 j)))) none) = some (.rs o 0 k, st) := opIs_sliceRS hs hk hn he hz hj
theorem opIs_sliceLo {k : Nat} {j : Int} {e : List PV} (hs : st[o]? = some (.row (rowS X))) (hk : k < X.length) (hn : n = X.length) (he : X[0]? = some e) (hz : e.length = size) (hj : j = (k : Int)) :
    opStep noCall [] st (.slice size (.const (.rs o 0 n)) (some (.const (.p (.int .i64 j)))) none none) = some (.rs o k (n - k), st) := by
  subst hj hn
  have h1 : 0 ≤ (k : Int) ∧ (k : Int) ≤ (X.length : Int) := by omega
  have h3 : k < (rowS X).length - 0 ∧ 0 + X.length ≤ (rowS X).length := by rw [rowS_len]; omega
  simp only [opStep, LX.ev, rslice, bnd, Option.map_none, Option.map_some, hs]
  rw [if_pos h1]
  simp only [Int.toNat_natCast]
  rw [if_pos h3]
  simp only [rowS_get he, List.length_map, hz, if_true, Nat.zero_add]
theorem opIs_sliceLo0 {k : Nat} {j : Int} (hs : st[o]? = some (.row (rowS X))) (hk : k = X.length) (hn : n = X.length) (hj : j = (k : Int)) :
    opStep noCall [] st (.slice size (.const (.rs o 0 n)) (some (.const (.p (.int .i64 j)))) none none) = some (.p (.sl []), st) := by
  subst hj hn hk
  have h1 : 0 ≤ (X.length : Int) ∧ (X.length : Int) ≤ (X.length : Int) := by omega
  have h3 : ¬ (X.length < (rowS X).length - 0 ∧ 0 + X.length ≤ (rowS X).length) := by rw [rowS_len]; omega
  have h4 : X.length = (rowS X).length - 0 ∧ 0 + X.length ≤ (rowS X).length := by rw [rowS_len]; omega
  simp only [opStep, LX.ev, rslice, bnd, Option.map_none, Option.map_some, hs]
  rw [if_pos h1]
  simp only [Int.toNat_natCast]
  rw [if_neg h3, if_pos h4]
theorem opIs_sliceLH {k h : Nat} {j i : Int} {e : List PV} (hs : st[o]? = some (.row (rowS X))) (hk : k < X.length) (hkh : k ≤ h) (hh : h ≤ X.length) (hn : n ≤ X.length) (he : X[0]? = some e) (hz : e.length = size) (hj : j = (k : Int)) (hi : i = (h : Int)) :
    opStep noCall [] st (.slice size (.const (.rs o 0 n)) (some (.const (.p (.int .i64 j)))) (some (.const (.p (.int .i64 i)))) none) = some (.rs o k (h - k), st) := by
  subst hj hi
  have h0 : 0 ≤ (h : Int) ∧ (h : Int) ≤ (((rowS X).length - 0 : Nat) : Int) := by rw [rowS_len]; omega
  have h1 : 0 ≤ (k : Int) ∧ (k : Int) ≤ (h : Int) := by omega
  have h3 : k < (rowS X).length - 0 ∧ 0 + n ≤ (rowS X).length := by rw [rowS_len]; omega
  simp only [opStep, LX.ev, rslice, bnd, Option.map_none, Option.map_some, hs]
  rw [if_pos h0]
  simp only [Int.toNat_natCast]
  rw [if_pos h1]
  simp only
  rw [if_pos h3]
  simp only [rowS_get he, List.length_map, hz, if_true, Nat.zero_add]
theorem opIs_slice3 {k h m : Nat} {j i l : Int} (hs : st[o]? = some (.row (rowS X))) (hkh : k ≤ h) (hh : h ≤ m) (hm : m ≤ X.length) (hkm : k < m) (hn : n ≤ X.length) (hj : j = (k : Int)) (hi : i = (h : Int)) (hl : l = (m : Int)) :
    opStep noCall [] st (.slice size (.const (.rs o 0 n)) (some (.const (.p (.int .i64 j)))) (some (.const (.p (.int .i64 i)))) (some (.const (.p (.int .i64 l))))) = some (.und, st) := by
  subst hj hi hl
  have h9 : 0 ≤ (m : Int) ∧ (m : Int) ≤ (((rowS X).length - 0 : Nat) : Int) := by rw [rowS_len]; omega
  have h0 : 0 ≤ (h : Int) ∧ (h : Int) ≤ (m : Int) := by omega
  have h1 : 0 ≤ (k : Int) ∧ (k : Int) ≤ (h : Int) := by omega
  have h3 : ¬ ((some (LV.p (.int .i64 (h : Int)))).isNone = true ∨ ¬ 0 + n ≤ (rowS X).length) := by rw [rowS_len]; simp; omega
  have h4 : ¬ m = k := by omega
  simp only [opStep, LX.ev, rslice, bnd, Option.map_none, Option.map_some, hs]
  rw [if_neg h3, if_pos h9]
  simp only [Int.toNat_natCast]
  rw [if_pos h0]
  simp only
  rw [if_pos h1]
  simp only
  rw [if_neg h4]
theorem opIs_appIn {bytes k j m : Nat} (hs : st[o]? = some (.row (rowS X))) (hk : k < X.length) (hj : j + m = X.length) (hm : 0 < m) (hkj : k + m ≤ X.length) (hX : sized size X = true) (h0 : 0 < size) :
    opStep noCall [] st (.append false size bytes (.const (.rs o 0 k)) (.const (.rs o j m))) = some (.rs o 0 (k + m), st.set o (.row (rowS (X.take k ++ X.drop j ++ X.drop (k + m))))) := by
  have e1 : (rowS X).drop j = rowS (X.drop j) := by simp [rowS]
  have e2 : (rowS (X.drop j)).take m = rowS (X.drop j) := by rw [rowS_take, List.take_of_length_le (by rw [List.length_drop]; omega)]
  have ha : appendedR st (.rs o j m) = some (rowS (X.drop j)) := by
    simp only [appendedR, hs]
    rw [if_pos (by rw [rowS_len]; omega), e1, e2]
  have hl : (rowS (X.drop j)).length = m := by rw [rowS_len, List.length_drop]; omega
  have hz : sizedL size (rowS (X.drop j)) = true := by
    have := sizedL_rowS hX
    unfold sizedL at this ⊢
    rw [List.all_eq_true] at this ⊢
    intro e he
    rw [← e1] at he
    exact this e (List.mem_of_mem_drop he)
  have hne : (rowS (X.drop j)).isEmpty = false := by
    cases hq : rowS (X.drop j) with
    | nil => rw [hq] at hl; simp at hl; omega
    | cons a b => rfl
  have h1 : ¬ (k = (rowS X).length ∧ 0 < k ∧ sizedL size (rowS X) = true ∧ roomy (k + m) bytes = true ∧ k + m ≤ maxLen ∧ 0 < size) := by rw [rowS_len]; omega
  have h2 : k + m ≤ (rowS X).length ∧ sizedL size (rowS X) = true ∧ 0 < size := ⟨by rw [rowS_len]; omega, sizedL_rowS hX, h0⟩
  have e3 : (rowS X).take k ++ rowS (X.drop j) ++ (rowS X).drop (k + m) = rowS (X.take k ++ X.drop j ++ X.drop (k + m)) := by simp [rowS]
  have hla : lappend false size bytes st (.rs o 0 k) (.rs o j m) = none := by simp only [lappend]; split <;> (try split) <;> rfl
  simp only [opStep, LX.ev, hla, orA_none, rappend, ha, hz, Bool.not_true, Bool.false_eq_true, if_false, hs, hne, hl]
  rw [if_neg h1, if_pos h2, e3]
theorem opIs_appIn0 {bytes k : Nat} (hs : st[o]? = some (.row (rowS X))) :
    opStep noCall [] st (.append false size bytes (.const (.rs o 0 k)) (.const (.p (.sl [])))) = some (.rs o 0 k, st) := by
  have hla : lappend false size bytes st (.rs o 0 k) (.p (.sl [])) = none := by simp only [lappend]; split <;> (try split) <;> rfl
  have ha : appendedR st (.p (.sl [])) = some [] := rfl
  simp only [opStep, LX.ev, hla, orA_none, rappend, ha, sizedL, List.all_nil, Bool.not_true, Bool.false_eq_true, if_false, hs, List.isEmpty_nil, if_true]
theorem opIs_clear {z : List PV} {z' : List LV} {k m : Nat} (hz' : z' = z.map .p) (hs : st[o]? = some (.row (rowS X))) (hk : k + m = X.length) (hm : 0 < m) (hX : sized size X = true) (hz : z.length = size) (h0 : 0 < size) :
    opStep noCall [] st (.clearS z' (.const (.rs o k m))) = some (.tup [], st.set o (.row (rowS (X.take k ++ List.replicate m z)))) := by
  subst hz'
  have h1 : ¬ m = 0 := by omega
  have h2 : k + m ≤ (rowS X).length ∧ (rowS X).all (fun e => e.length == (z.map LV.p).length) = true ∧ 0 < (z.map LV.p).length := by
    refine ⟨by rw [rowS_len]; omega, ?_, by simp; omega⟩
    have := sizedL_rowS hX
    simpa [sizedL, hz] using this
  have e3 : (rowS X).take k ++ List.replicate m (z.map LV.p) ++ (rowS X).drop (k + m) = rowS (X.take k ++ List.replicate m z) := by
    rw [hk, ← rowS_len X, List.drop_length]
    simp [rowS]
  simp only [opStep, LX.ev]
  rw [if_neg h1, hs]
  simp only
  rw [if_pos h2, e3]
end
theorem rowsV_take (a : List Val) (n : Nat) : rowsV (a.take n) = (rowsV a).take n := by rw [rowsV_map, rowsV_map, List.map_take]
theorem rowsV_drop (a : List Val) (n : Nat) : rowsV (a.drop n) = (rowsV a).drop n := by rw [rowsV_map, rowsV_map, List.map_drop]
theorem rowsV_set (a : List Val) (i : Nat) (v : Val) : (rowsV a).set i (rowV v) = rowsV (a.set i v) := by rw [rowsV_map, rowsV_map, List.map_set]
theorem rowsV_all5 (a : List Val) : sized 5 (rowsV a) = true := by
  unfold sized
  rw [List.all_eq_true]
  intro e he
  rw [rowsV_map] at he
  obtain ⟨v, _, rfl⟩ := List.mem_map.1 he
  rw [rowV_len]; rfl
theorem opIs_idxVO {o n k : Nat} {is : List Val} {st : List LObj} (hs : st[o]? = some (.row (rowS (rowsV is)))) (hk : k < n) (he : k < is.length) {j : Int} (hj : j = (k : Int)) :
    opStep noCall [] st (.indexAddr 5 (.const (.rs o 0 n)) (.const (.p (.int .i64 j)))) = some (.ptr o k 0, st) :=
  opIs_idxRS hs hk (rowsV_get (List.getElem?_eq_getElem he)) (rowV_len _) hj
theorem opIs_stVO {o i : Nat} {k n : Int} {s : List UInt8} {is : List Val} {ns : List (List UInt8)} {xs : List Val} {st : List LObj} (hs : st[o]? = some (.row (rowS (rowsV xs)))) (he : i < xs.length) :
    opStep noCall [] st (.store 5 (.const (.ptr o i 0)) (.const (.agg [.p (.int .i64 k), .p (.int .i64 n), .p (.str s), .p (.sl (rowsV is)), .p (.sl (rowsN ns))]))) = some (.tup [], st.set o (.row (rowS (rowsV (xs.set i (.mk k n s is ns)))))) := by
  have e := rowS_set (rowsV xs) i (rowV (.mk k n s is ns))
  rw [rowsV_set] at e
  have hl : ((rowV xs[i]).map LV.p).length = 5 := by rw [List.length_map, rowV_len]
  simp only [opStep, LX.ev, LV.cells?, LV.stAt, hs, rowS_get (rowsV_get (List.getElem?_eq_getElem he)), List.length_cons, List.length_nil, if_true, Nat.zero_add]
  rw [if_pos (by rw [hl]; decide)]
  simp only [List.take_zero, List.nil_append]
  rw [← e]
  have e2 : List.drop 5 ((rowV xs[i]).map LV.p) = [] := List.drop_eq_nil_of_le (by rw [hl]; decide)
  simp [rowV, e2]
theorem opIs_appVO {o n : Nat} {xs : List Val} {k m : Int} {s : List UInt8} {is : List Val} {ns : List (List UInt8)} {st : List LObj} (hs : st[o]? = some (.row (rowS (rowsV xs)))) (hn : n = xs.length) (h1 : 0 < xs.length) (hb : (xs.length + 1) * 80 ≤ 140737488355328) :
    opStep noCall [] st (.appendR 5 80 (.const (.rs o 0 n)) (.const (.tight [[.int .i64 k, .int .i64 m, .str s, .sl (rowsV is), .sl (rowsN ns)]]))) = some (.rs st.length 0 (xs ++ [Val.mk k m s is ns]).length, st.set o .dead ++ [.row (rowS (rowsV (xs ++ [Val.mk k m s is ns])))]) := by
  have := opIs_appRS (size := 5) (bytes := 80) (Y := [rowV (.mk k m s is ns)]) (x := .tight [rowV (.mk k m s is ns)]) (n := n) hs (by rw [rowsV_len]; exact hn) rfl (fun a b c h => by cases h) (rowsV_all5 xs) rfl (by simp) (by rw [rowsV_len]; exact h1) (by rw [rowsV_len]; simpa using hb) (by rw [rowsV_len]; simp [maxLen]; omega) (by decide)
  have e : rowsV (xs ++ [Val.mk k m s is ns]) = rowsV xs ++ [rowV (.mk k m s is ns)] := by rw [rowsV_append]; rfl
  rw [e, List.length_append, ← rowsV_len xs]
  exact this
theorem opIs_appVZ {k m : Int} {s : List UInt8} {is : List Val} {ns : List (List UInt8)} {st : List LObj} :
    opStep noCall [] st (.appendR 5 80 (.const (.tight [])) (.const (.tight [[.int .i64 k, .int .i64 m, .str s, .sl (rowsV is), .sl (rowsN ns)]]))) = some (.rs st.length 0 [Val.mk k m s is ns].length, st ++ [.row (rowS (rowsV [.mk k m s is ns]))]) := rfl
theorem opIs_appVX {is : List Val} {st : List LObj} (hne : is ≠ []) (hb : is.length * 80 ≤ 140737488355328) :
    opStep noCall [] st (.appendR 5 80 (.const (.tight [])) (.const (.p (.sl (rowsV is))))) = some (.rs st.length 0 is.length, st ++ [.row (rowS (rowsV is))]) := by
  have := opIs_appRT (size := 5) (bytes := 80) (X := rowsV is) (st := st) (rowsV_all5 is) (by cases is <;> simp_all [rowsV]) (by rw [rowsV_len]; exact hb) (by rw [rowsV_len]; simp [maxLen]; omega) (by decide)
  rw [rowsV_len] at this
  exact this
end Go.LS
namespace Go.LS
def rowZ (i : Nat) (es : List (List PV)) : List (List LV) := List.replicate i [.p (.int .i64 0), .p (.int .i64 0), .p (.str []), .tight [], .tight []] ++ (rowS es).drop i
theorem flat_nil {α β : Type} {f : α → List β} {l : List α} (h : ∀ x ∈ l, f x = []) : l.flatMap f = [] := by
  induction l with
  | nil => rfl
  | cons a r ih => rw [List.flatMap_cons, h a (List.mem_cons_self ..), ih fun x hx => h x (List.mem_cons_of_mem _ hx)]; rfl
theorem rowZ_mem {i : Nat} {es : List (List PV)} {e : List LV} (h : e ∈ rowZ i es) : e = [.p (.int .i64 0), .p (.int .i64 0), .p (.str []), .tight [], .tight []] ∨ ∃ q ∈ es, e = q.map .p := by
  rcases List.mem_append.1 h with h | h
  · exact .inl (List.eq_of_mem_replicate h)
  · have := List.mem_of_mem_drop h
    obtain ⟨q, hq, rfl⟩ := List.mem_map.1 this
    exact .inr ⟨q, hq, rfl⟩
theorem rowZ_refs (i : Nat) (es : List (List PV)) : (LObj.row (rowZ i es)).refs = [] := by
  refine flat_nil fun e he => ?_
  rcases rowZ_mem he with rfl | ⟨q, _, rfl⟩
  · rfl
  · exact refs_p q
theorem rowZ_ren (i : Nat) (es : List (List PV)) (f : Nat → Nat) : (LObj.row (rowZ i es)).ren f = .row (rowZ i es) := by
  simp only [LObj.ren, LObj.row.injEq]
  conv => rhs; rw [← List.map_id (rowZ i es)]
  apply List.map_congr_left
  intro e he
  rcases rowZ_mem he with rfl | ⟨q, _, rfl⟩
  · rfl
  · simp only [List.map_map, id]
    apply List.map_congr_left
    intro c _; rfl
theorem rowZ_0 (es : List (List PV)) : rowZ 0 es = rowS es := by simp [rowZ]
theorem rowZ_at {i : Nat} {es : List (List PV)} {e : List PV} (h : es[i]? = some e) : (rowZ i es)[i]? = some (e.map .p) := by
  rw [rowZ, List.getElem?_append_right (by simp)]
  simp [rowS, h]
theorem rowZ_set {i : Nat} {es : List (List PV)} (h : i < es.length) : (rowZ i es).set i [.p (.int .i64 0), .p (.int .i64 0), .p (.str []), .tight [], .tight []] = rowZ (i + 1) es := by
  rw [rowZ, List.set_append_right _ _ (by simp), List.length_replicate, Nat.sub_self, rowZ, List.replicate_succ', List.append_assoc]
  congr 1
  rw [List.drop_eq_getElem_cons (by rw [rowS_len]; exact h)]
  rfl
theorem opIs_idxZO {o n i : Nat} {is : List Val} {st : List LObj} (hs : st[o]? = some (.row (rowZ i (rowsV is)))) (hk : i < n) (he : i < is.length) :
    opStep noCall [] st (.indexAddr 5 (.const (.rs o 0 n)) (.const (.p (.int .i64 (i : Int))))) = some (.ptr o i 0, st) := by
  have h1 : ¬ ((i : Int) < 0) := by omega
  have h2 : (i : Int) < (n : Int) := by omega
  have h3 := rowZ_at (rowsV_get (List.getElem?_eq_getElem he))
  simp only [opStep, LX.ev, LV.asInt, if_neg h1, if_pos h2, hs, Int.toNat_natCast, Nat.zero_add, h3, List.length_map, rowV_len, if_true]
theorem opIs_stZO {o i : Nat} {is : List Val} {st : List LObj} (hs : st[o]? = some (.row (rowZ i (rowsV is)))) (he : i < is.length) :
    opStep noCall [] st (.store 5 (.const (.ptr o i 0)) (.const (.agg [.p (.int .i64 0), .p (.int .i64 0), .p (.str []), .tight [], .tight []]))) = some (.tup [], st.set o (.row (rowZ (i + 1) (rowsV is)))) := by
  have hl : ((rowV is[i]).map LV.p).length = 5 := by rw [List.length_map, rowV_len]
  have h3 := rowZ_at (rowsV_get (List.getElem?_eq_getElem he))
  have e2 : List.drop 5 ((rowV is[i]).map LV.p) = [] := List.drop_eq_nil_of_le (by rw [hl]; decide)
  simp only [opStep, LX.ev, LV.cells?, LV.stAt, hs, h3, List.length_cons, List.length_nil, if_true, Nat.zero_add]
  rw [if_pos (by rw [hl]; decide)]
  simp only [List.take_zero, List.nil_append, e2, List.append_nil]
  rw [rowZ_set (by rw [rowsV_len]; exact he)]
theorem opIs_appRR {o n size bytes : Nat} {X : List (List PV)} {st : List LObj} (hs : st[o]? = some (.row (rowS X))) (hn : n = X.length) (hX : sized size X = true) (hne : X ≠ []) (hb : X.length * bytes ≤ 140737488355328) (hm : X.length ≤ maxLen) (h0 : 0 < size) :
    opStep noCall [] st (.appendR size bytes (.const (.tight [])) (.const (.rs o 0 n))) = some (.rs st.length 0 n, st ++ [.row (rowS X)]) := by
  subst hn
  have ha : appendedR st (.rs o 0 X.length) = some (rowS X) := by
    simp only [appendedR, hs]
    rw [if_pos (by rw [rowS_len]; omega), List.drop_zero, rowS_take, List.take_length]
  have hYe : (rowS X).isEmpty = false := by cases X with | nil => exact absurd rfl hne | cons a b => rfl
  have hc : roomy (rowS X).length bytes = true ∧ (rowS X).length ≤ maxLen ∧ 0 < size := ⟨by rw [rowS_len]; exact roomy_of hb, by rw [rowS_len]; exact hm, h0⟩
  simp only [opStep, LX.ev, rappend, ha, sizedL_rowS hX, Bool.not_true, Bool.false_eq_true, if_false, hYe]
  rw [if_pos hc, rowS_len]
theorem opIs_appVRR {o n : Nat} {is : List Val} {st : List LObj} (hs : st[o]? = some (.row (rowS (rowsV is)))) (hn : n = is.length) (hne : is ≠ []) (hb : is.length * 80 ≤ 140737488355328) :
    opStep noCall [] st (.appendR 5 80 (.const (.tight [])) (.const (.rs o 0 n))) = some (.rs st.length 0 n, st ++ [.row (rowS (rowsV is))]) :=
  opIs_appRR hs (by rw [rowsV_len]; exact hn) (rowsV_all5 is) (by cases is <;> simp_all [rowsV]) (by rw [rowsV_len]; exact hb) (by rw [rowsV_len]; simp [maxLen]; omega) (by decide)
end Go.LS
set_option linter.unusedVariables false
set_option linter.unusedSimpArgs false
namespace Go.LS
def cutX (sp tn : Int) (X : List UInt8) : List UInt8 := if sp == 0 then X.take (Int.toNat (if tn < (X.length : Int) then tn else (X.length : Int))) else X
def appF (E : List FileT) (sp tn : Int) (off : Bool) (s X : List UInt8) : Int × List FileT × Int × Bool :=
  if off = true then (90, E, sp, off) else if nmB s = true then
    (if fhas s E = true then (if (X.length : Int) > 1048576 - ((fget s E).1.length : Int) then (2, E, sp, off) else (if sp == 0 then 90 else 0, fset s ((fget s E).1 ++ cutX sp tn X) (fget s E).2 E, decI sp, sp == 0))
    else if (X.length : Int) > 1048576 then (2, E, sp, off) else if ((E.length : Nat) : Int) == 256 then (2, E, sp, off) else (if sp == 0 then 90 else 0, fset s (cutX sp tn X) 0 E, decI sp, sp == 0))
  else (1, E, sp, off)
def syncF (E : List FileT) (sp tn : Int) (off : Bool) (s : List UInt8) : Int × List FileT × Int × Bool :=
  if off = true then (90, E, sp, off) else if nmB s = true then
    (if fhas s E = true then (if (sp == 0) = true then (90, E, decI sp, sp == 0) else (0, fset s (fget s E).1 (((fget s E).1.length : Nat) : Int) E, decI sp, sp == 0)) else (4, E, sp, off))
  else (1, E, sp, off)
def stopF (E : List FileT) (sp tn : Int) (off : Bool) (n m : Int) : Int × Int × Int :=
  if off = true then (90, sp, tn) else if decide (n < (-1)) = true then (1, sp, tn) else if decide (m < 0) = true then (1, sp, tn) else (0, n, m)
def kfold : List KeepT → List KeepT → List KeepT
  | [], ks => ks
  | (s, n) :: r, ks => kfold r (kset s (if n < 0 then 0 else n) ks)
theorem keepOf_rowsK : ∀ (l ks : List KeepT), keepOf (rowsK l) ks = some (if keepsB l = true then some (kfold l ks) else none)
  | [], ks => rfl
  | (s, n) :: r, ks => by
    have ih := keepOf_rowsK r (kset s (if n < 0 then 0 else n) ks)
    simp only [rowsK] at ih
    have hkb : keepsB ((s, n) :: r) = (nmB s && keepsB r) := rfl
    simp only [rowsK, List.map_cons, keepOf, kfold]
    by_cases hb : nmB s = true
    · rw [show keepsB ((s, n) :: r) = keepsB r by rw [hkb, hb]; rfl, if_pos hb]
      exact ih
    · rw [show keepsB ((s, n) :: r) = false by rw [hkb]; simp [hb], if_neg hb]; rfl
theorem kfold_ok : ∀ {l ks : List KeepT}, kOk ks → kOk (kfold l ks)
  | [], ks, h => h
  | (s, n) :: r, ks, h => kfold_ok (l := r) (kset_ok (by split <;> omega) h)
def cutE (ks : List KeepT) (e : FileT) : FileT := (e.1, e.2.1.take (cutN ks e.1 (bs e.2.1) e.2.2).toNat, cutN ks e.1 (bs e.2.1) e.2.2)
def crashE (l : List KeepT) (E : List FileT) : List FileT := E.map (cutE (kfold l []))
def OKE (E : List FileT) : Prop := (∀ e ∈ E, 0 ≤ e.2.2 ∧ e.2.2 ≤ (e.2.1.length : Int) ∧ e.2.1.length ≤ 1048576) ∧ (E.map (·.1)).Nodup
theorem entsOf_kvF : ∀ {E : List FileT}, (∀ e ∈ E, 0 ≤ e.2.2 ∧ e.2.2 ≤ (e.2.1.length : Int) ∧ e.2.1.length ≤ 1048576) → entsOf (kvF E) = some (E.map fun e => (e.1, bs e.2.1, e.2.2))
  | [], _ => rfl
  | e :: r, h => by
    have ih := entsOf_kvF (E := r) (fun x hx => h x (List.mem_cons_of_mem _ hx))
    obtain ⟨h1, h2, _⟩ := h e List.mem_cons_self
    simp only [kvF] at ih
    have hc : ((bs e.2.1).all fun x => x.length == 1) = true := bs_all e.2.1 1 rfl
    have h3 : decide (e.2.2 ≤ ((bs e.2.1).length : Int)) = true := by rw [bs_len]; simpa using h2
    simp only [kvF, List.map_cons, entsOf, fileV, entOf, LV.asSl, hc, h3, decide_eq_true h1, Bool.and_self, if_true, ih]
theorem entNew_kvF (ks : List KeepT) (E : List FileT) : (E.map fun e => (e.1, bs e.2.1, e.2.2)).map (entNew ks) = kvF (E.map (cutE ks)) := by
  simp only [kvF, List.map_map]
  refine List.map_congr_left fun e _ => ?_
  simp only [Function.comp, entNew, fileV, cutE, bs_take]
theorem nodupB_of : ∀ {l : List (List UInt8)}, l.Nodup → nodupB l = true
  | [], _ => rfl
  | x :: r, h => by
    obtain ⟨h1, h2⟩ := List.nodup_cons.1 h
    simp only [nodupB, nodupB_of h2, Bool.and_true, Bool.not_eq_true', List.any_eq_false, bleB_eq, Bool.and_eq_true, decide_eq_true_eq, not_and]
    intro y hy ha hb
    exact h1 (List.le_antisymm ha hb ▸ hy)
theorem sCrash_kvF {E : List FileT} (hE : OKE E) {sp tn : Int} {off : Bool} {l : List KeepT} :
    sCrash [.ptr 0 0 0, .p (.sl (rowsK l))] (dS E sp tn off) = some (if keepsB l = true then (.p (.int .i64 0), dS (crashE l E) (-1) 0 false) else (.p (.int .i64 1), dS E sp tn off)) := by
  have hn : nodupB ((E.map fun e => ((e.1, bs e.2.1, e.2.2) : Ent)).map (·.1)) = true := by
    rw [List.map_map]; exact nodupB_of hE.2
  simp only [sCrash, LV.asSl, dS, List.getElem?_cons_zero, List.getElem?_cons_succ, keepOf_rowsK]
  cases hk : keepsB l
  · simp
  · simp only [if_true, entsOf_kvF hE.1, hn, entNew_kvF]
    rfl
theorem fgetE_mem : ∀ {E : List FileT} {s : List UInt8} {v}, fgetE s E = some v → (s, v) ∈ E
  | [], _, _, h => by cases h
  | (j, w) :: r, s, v, h => by
    simp only [fgetE] at h
    split at h
    · rename_i e; simp only [beq_iff_eq] at e; cases h; subst e; exact List.mem_cons_self
    · exact List.mem_cons_of_mem _ (fgetE_mem h)
theorem fset_mem : ∀ {E : List FileT} {s M : List UInt8} {u : Int} {e : FileT}, e ∈ fset s M u E → e = (s, M, u) ∨ e ∈ E
  | [], _, _, _, _, h => by simp [fset] at h; exact .inl h
  | (j, w) :: r, s, M, u, e, h => by
    simp only [fset] at h
    split at h
    · rcases List.mem_cons.1 h with rfl | h
      · exact .inl rfl
      · exact .inr (List.mem_cons_of_mem _ h)
    · rcases List.mem_cons.1 h with rfl | h
      · exact .inr List.mem_cons_self
      · exact (fset_mem h).imp id (List.mem_cons_of_mem _)
theorem fset_keys : ∀ {E : List FileT} {s M : List UInt8} {u : Int}, (E.map (·.1)).Nodup → ((fset s M u E).map (·.1)).Nodup
  | [], s, M, u, _ => by simp [fset]
  | (j, w) :: r, s, M, u, h => by
    simp only [List.map_cons, List.nodup_cons] at h
    simp only [fset]
    split
    · rename_i e; simp only [beq_iff_eq] at e; subst e
      simpa using h
    · rename_i e
      simp only [List.map_cons, List.nodup_cons]
      refine ⟨fun hm => ?_, fset_keys h.2⟩
      obtain ⟨x, hx, hxe⟩ := List.mem_map.1 hm
      rcases fset_mem hx with rfl | hx
      · simp only at hxe; subst hxe; simp at e
      · exact h.1 (List.mem_map.2 ⟨x, hx, hxe⟩)
theorem fset_oke {E : List FileT} (h : OKE E) {s M : List UInt8} {u : Int} (h1 : 0 ≤ u) (h2 : u ≤ (M.length : Int)) (h3 : M.length ≤ 1048576) : OKE (fset s M u E) :=
  ⟨fun e he => by
    rcases fset_mem he with rfl | he
    · exact ⟨h1, h2, h3⟩
    · exact h.1 e he, fset_keys h.2⟩
theorem fget_oke {E : List FileT} (h : OKE E) (s : List UInt8) : 0 ≤ (fget s E).2 ∧ (fget s E).2 ≤ ((fget s E).1.length : Int) ∧ (fget s E).1.length ≤ 1048576 := by
  unfold fget
  cases e : fgetE s E with
  | none => simp
  | some v => exact h.1 _ (fgetE_mem e)
theorem fgetE_set : ∀ {E : List FileT} {s M : List UInt8} {u : Int}, fgetE s (fset s M u E) = some (M, u)
  | [], s, M, u => by simp [fset, fgetE]
  | (j, w) :: r, s, M, u => by
    simp only [fset]
    split
    · simp [fgetE]
    · rename_i e; simp only [fgetE, e]; exact fgetE_set
theorem fgetE_set_ne : ∀ {E : List FileT} {s t M : List UInt8} {u : Int}, t ≠ s → fgetE t (fset s M u E) = fgetE t E
  | [], s, t, M, u, h => by simp [fset, fgetE, h]
  | (j, w) :: r, s, t, M, u, h => by
    simp only [fset]
    split
    · rename_i e; simp only [beq_iff_eq] at e; subst e; simp [fgetE, h]
    · simp only [fgetE]; rw [fgetE_set_ne h]
abbrev DSt := List FileT × Int × Int × Bool
def HasF (b : List UInt8) (E : List FileT) : Prop := ∃ Z u, fgetE [102] E = some (b ++ Z, u) ∧ (b.length : Int) ≤ u
theorem HasF.set {b : List UInt8} {E : List FileT} (h : HasF b E) {s M : List UInt8} {u : Int} (hs : s = [102] → ∃ Z, M = b ++ Z ∧ (b.length : Int) ≤ u) : HasF b (fset s M u E) := by
  by_cases e : s = [102]
  · subst e
    obtain ⟨Z, rfl, hu⟩ := hs rfl
    exact ⟨Z, u, fgetE_set, hu⟩
  · obtain ⟨Z, v, h1, h2⟩ := h
    exact ⟨Z, v, by rw [fgetE_set_ne (Ne.symm e)]; exact h1, h2⟩
structure DInv (b : List UInt8) (d : DSt) : Prop where
  oke : OKE d.1
  has : HasF b d.1
  s0 : -1 ≤ d.2.1
  s1 : d.2.1 ≤ 9223372036854775807
  t0 : 0 ≤ d.2.2.1
theorem decI_b {n : Int} (h0 : -1 ≤ n) (h1 : n ≤ 9223372036854775807) : -1 ≤ decI n ∧ decI n ≤ 9223372036854775807 := by
  unfold decI; split <;> omega
theorem cutX_len (sp tn : Int) (X : List UInt8) : (cutX sp tn X).length ≤ X.length := by
  unfold cutX; split
  · rw [List.length_take]; omega
  · exact Nat.le_refl _
theorem appF_inv {b : List UInt8} {E : List FileT} {sp tn : Int} {off : Bool} (h : DInv b (E, sp, tn, off)) (s X : List UInt8) : DInv b ((appF E sp tn off s X).2.1, (appF E sp tn off s X).2.2.1, tn, (appF E sp tn off s X).2.2.2) := by
  have hd := decI_b h.s0 h.s1
  have hc := cutX_len sp tn X
  have hok : OKE E := h.oke
  obtain ⟨g1, g2, g3⟩ := fget_oke hok s
  unfold appF
  split
  · exact ⟨h.oke, h.has, h.s0, h.s1, h.t0⟩
  split
  · split
    · rename_i hf
      split
      · exact ⟨h.oke, h.has, h.s0, h.s1, h.t0⟩
      · rename_i hl
        refine ⟨fset_oke h.oke g1 (by simp only [List.length_append]; omega) (by simp only [List.length_append]; omega), h.has.set fun e => ?_, hd.1, hd.2, h.t0⟩
        subst e
        obtain ⟨Z, u, e1, e2⟩ := h.has
        simp only [fget, e1, Option.getD_some]
        exact ⟨Z ++ cutX sp tn X, by rw [List.append_assoc], e2⟩
    · rename_i hf
      split
      · exact ⟨h.oke, h.has, h.s0, h.s1, h.t0⟩
      · split
        · exact ⟨h.oke, h.has, h.s0, h.s1, h.t0⟩
        · refine ⟨fset_oke h.oke (by omega) (by omega) (by omega), h.has.set fun e => ?_, hd.1, hd.2, h.t0⟩
          subst e
          obtain ⟨Z, u, e1, e2⟩ := h.has
          exact absurd (by simp [fhas, e1]) hf
  · exact ⟨h.oke, h.has, h.s0, h.s1, h.t0⟩
theorem syncF_inv {b : List UInt8} {E : List FileT} {sp tn : Int} {off : Bool} (h : DInv b (E, sp, tn, off)) (s : List UInt8) : DInv b ((syncF E sp tn off s).2.1, (syncF E sp tn off s).2.2.1, tn, (syncF E sp tn off s).2.2.2) := by
  have hd := decI_b h.s0 h.s1
  have hok : OKE E := h.oke
  obtain ⟨g1, g2, g3⟩ := fget_oke hok s
  unfold syncF
  split
  · exact ⟨h.oke, h.has, h.s0, h.s1, h.t0⟩
  split
  · split
    · split
      · exact ⟨h.oke, h.has, hd.1, hd.2, h.t0⟩
      · refine ⟨fset_oke h.oke (by omega) (by omega) g3, h.has.set fun e => ?_, hd.1, hd.2, h.t0⟩
        subst e
        obtain ⟨Z, u, e1, e2⟩ := h.has
        simp only [fget, e1, Option.getD_some]
        exact ⟨Z, rfl, by simp only [List.length_append]; omega⟩
    · exact ⟨h.oke, h.has, h.s0, h.s1, h.t0⟩
  · exact ⟨h.oke, h.has, h.s0, h.s1, h.t0⟩
theorem stopF_inv {b : List UInt8} {E : List FileT} {sp tn : Int} {off : Bool} (h : DInv b (E, sp, tn, off)) (n m : Int) (hn : n ≤ 9223372036854775807) : DInv b (E, (stopF E sp tn off n m).2.1, (stopF E sp tn off n m).2.2, off) := by
  unfold stopF
  split
  · exact ⟨h.oke, h.has, h.s0, h.s1, h.t0⟩
  split
  · exact ⟨h.oke, h.has, h.s0, h.s1, h.t0⟩
  split
  · exact ⟨h.oke, h.has, h.s0, h.s1, h.t0⟩
  · rename_i h1 h2
    simp only [decide_eq_true_eq] at h1 h2
    exact ⟨h.oke, h.has, by show -1 ≤ n; omega, hn, by show 0 ≤ m; omega⟩
theorem cutE_fget (ks : List KeepT) : ∀ (E : List FileT) (s : List UInt8), fgetE s (E.map (cutE ks)) = (fgetE s E).map fun v => (v.1.take (cutN ks s (bs v.1) v.2).toNat, cutN ks s (bs v.1) v.2)
  | [], _ => rfl
  | (j, v) :: r, s => by
    simp only [List.map_cons, fgetE, cutE]
    cases h : s == j
    · simpa using cutE_fget ks r s
    · simp only [beq_iff_eq] at h; subst h; simp
theorem crash_has {b : List UInt8} {d : DSt} (h : DInv b d) (l : List KeepT) : ∃ Z, (fget [102] (crashE l d.1)).1 = b ++ Z ∧ fhas [102] (crashE l d.1) = true := by
  obtain ⟨Z, u, e1, e2⟩ := h.has
  obtain ⟨o1, o2, o3⟩ := h.oke.1 _ (fgetE_mem e1)
  simp only at o1 o2 o3
  have hk : kOk (kfold l []) := kfold_ok (by intro x hx; cases hx)
  obtain ⟨c1, c2⟩ := cutN_ok (ks := kfold l []) (s := [102]) (B := bs (b ++ Z)) (u := u) hk o1 (by rw [bs_len]; exact o2)
  rw [bs_len] at c2
  unfold crashE fget fhas
  rw [cutE_fget, e1]
  simp only [Option.map_some, Option.getD_some, Option.isSome_some, and_true]
  refine ⟨Z.take ((cutN (kfold l []) [102] (bs (b ++ Z)) u).toNat - b.length), ?_⟩
  rw [List.take_append]
  rw [List.take_of_length_le (by omega)]
def opStepF (d : DSt) (o : OpT) : DSt :=
  if smallO o.2.2.2.1 o.2.2.2.2.2.2 = true then
    if (o.1 == 1) = true then ((appF d.1 d.2.1 d.2.2.1 d.2.2.2 o.2.1 o.2.2.2.1).2.1, (appF d.1 d.2.1 d.2.2.1 d.2.2.2 o.2.1 o.2.2.2.1).2.2.1, d.2.2.1, (appF d.1 d.2.1 d.2.2.1 d.2.2.2 o.2.1 o.2.2.2.1).2.2.2)
    else if (o.1 == 2) = true then ((syncF d.1 d.2.1 d.2.2.1 d.2.2.2 o.2.1).2.1, (syncF d.1 d.2.1 d.2.2.1 d.2.2.2 o.2.1).2.2.1, d.2.2.1, (syncF d.1 d.2.1 d.2.2.1 d.2.2.2 o.2.1).2.2.2)
    else if (o.1 == 7) = true then (d.1, (stopF d.1 d.2.1 d.2.2.1 d.2.2.2 o.2.2.2.2.1 o.2.2.2.2.2.1).2.1, (stopF d.1 d.2.1 d.2.2.1 d.2.2.2 o.2.2.2.2.1 o.2.2.2.2.2.1).2.2, d.2.2.2)
    else d
  else d
theorem opStepF_inv {b : List UInt8} {d : DSt} (h : DInv b d) (o : OpT) (hn : o.2.2.2.2.1 ≤ 9223372036854775807) : DInv b (opStepF d o) := by
  obtain ⟨E, sp, tn, off⟩ := d
  unfold opStepF
  split
  · split
    · exact appF_inv h _ _
    · split
      · exact syncF_inv h _
      · split
        · exact stopF_inv h _ _ hn
        · exact h
  · exact h
theorem first_inv {b : List UInt8} (hb : b.length ≤ 2000) : (appF [] (-1) 0 false [102] b).1 = 0 ∧ (appF [] (-1) 0 false [102] b).2 = ([([102], b, 0)], -1, false) ∧ (syncF [([102], b, 0)] (-1) 0 false [102]).1 = 0 ∧ (syncF [([102], b, 0)] (-1) 0 false [102]).2 = ([([102], b, (b.length : Int))], -1, false) ∧ DInv b ([([102], b, (b.length : Int))], -1, 0, false) := by
  have h1 : ¬ (b.length : Int) > 1048576 := by omega
  refine ⟨by simp [appF, nmB, fhas, fgetE, h1], by simp [appF, nmB, fhas, fgetE, h1, fset, cutX, decI], by simp [syncF, nmB, fhas, fgetE], by simp [syncF, nmB, fhas, fgetE, fset, fget, decI], ⟨⟨?_, by simp⟩, ⟨[], _, by simp [fgetE], Int.le_refl _⟩, by simp, by simp, by simp⟩⟩
  intro e he
  simp only [List.mem_singleton] at he
  subst he
  exact ⟨by simp, by simp, by simp; omega⟩
end Go.LS
