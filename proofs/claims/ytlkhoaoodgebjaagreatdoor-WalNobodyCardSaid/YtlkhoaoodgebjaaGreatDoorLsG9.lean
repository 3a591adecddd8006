/- A small semantics of loaded Go code that the kernel can run, part 9. -/
import Derived.Test.YtlkhoaoodgebjaaGreatDoorLsG5
import Derived.SizedLaws
import Derived.OpenShut
import Derived.Carry
import Derived.ChangeShapes
import Derived.Test.YtlkhoaoodgebjaaGreatDoorLsG6
set_option linter.unusedVariables false
set_option linter.unusedSimpArgs false
namespace Go.LS
inductive Cty where
  | bool
  | int (k : IntKind)
  | str
  | sl (ts : List Cty) (bytes : Nat)
  | pr (Q : List PV → Prop) (bytes : Nat)
mutual
def okPV : Cty → PV → Prop
  | .bool, p => ∃ b, p = .bool b
  | .int k, p => ∃ n, p = .int k n ∧ k.min ≤ n ∧ n ≤ k.max
  | .str, p => ∃ s, p = .str s ∧ s.length ≤ reachBytes
  | .sl ts bytes, p => ∃ es : List (List PV), p = .sl es ∧ es.length * bytes ≤ reachBytes ∧ es.length ≤ maxLen ∧ ∀ e ∈ es, okPVs ts e
  | .pr Q bytes, p => ∃ es : List (List PV), p = .sl es ∧ es.length * bytes ≤ reachBytes ∧ es.length ≤ maxLen ∧ ∀ e ∈ es, Q e
def okPVs : List Cty → List PV → Prop
  | [], ps => ps = []
  | t :: ts, ps => ∃ p r, ps = p :: r ∧ okPV t p ∧ okPVs ts r
end
def tyFs (P : Program) (rc : TypeId → Option (List Cty)) : Nat → List Field → Option (List Cty)
  | _, [] => some []
  | off, f :: r => match rc f.type with
    | some ts => if f.offset = off ∧ ts.length = P.cellsOf f.type then
        match tyFs P rc (off + ts.length) r with
        | some l => some (ts ++ l)
        | none => none
      else none
    | none => none
def tyT (P : Program) (cut : List TypeId) (Q : TypeId → List PV → Prop) : Nat → TypeId → Option (List Cty)
  | 0, _ => none
  | n + 1, t => match P.underlying t with
    | some .bool => some [.bool]
    | some (.int k) => some [.int k]
    | some .string => some [.str]
    | some (.slice e) => if e ∈ cut then some [.pr (Q e) (P.bytesOf e)] else match tyT P cut Q n e with
      | some ts => if ts.length = P.cellsOf e ∧ 0 < ts.length then some [.sl ts (P.bytesOf e)] else none
      | none => none
    | some (.struct fs) => match tyFs P (tyT P cut Q n) 0 fs.toList with
      | some ts => if ts.length = P.cellsOf t then some ts else none
      | none => none
    | some (.array m e) => match tyT P cut Q n e with
      | some ts => if m * ts.length = P.cellsOf t ∧ ts.length = P.cellsOf e then some (List.replicate m ts).flatten else none
      | none => none
    | _ => none
def RecOk (P : Program) (cut : List TypeId) (N : Nat) : Nat → TypeId → List PV → Prop
  | 0, _, _ => False
  | k + 1, t, ps => ∃ ts, tyT P cut (RecOk P cut N k) N t = some ts ∧ okPVs ts ps
def Sub2 (Q R : TypeId → List PV → Prop) : Prop := ∀ e x, Q e x → R e x
def Cle (ts us : List Cty) : Prop := us.length = ts.length ∧ ∀ ps, okPVs ts ps → okPVs us ps
theorem Cle.append {a b c d : List Cty} (h : Cle a b) (k : Cle c d) : Cle (a ++ c) (b ++ d) := by
  refine ⟨by simp [h.1, k.1], ?_⟩
  have : ∀ (a b : List Cty), b.length = a.length → (∀ ps, okPVs a ps → okPVs b ps) → ∀ ps, okPVs (a ++ c) ps → okPVs (b ++ d) ps := by
    intro a b hl hab ps hp
    obtain ⟨p1, p2, rfl, h1, h2⟩ := split a c ps hp
    exact join b d p1 p2 (hab _ h1) (k.2 _ h2)
  exact this a b h.1 h.2
where
  split : ∀ (a c : List Cty) (ps : List PV), okPVs (a ++ c) ps → ∃ p1 p2, ps = p1 ++ p2 ∧ okPVs a p1 ∧ okPVs c p2
    | [], c, ps, h => ⟨[], ps, rfl, by simp [okPVs], h⟩
    | t :: a, c, ps, h => by
      simp only [List.cons_append, okPVs] at h
      obtain ⟨p, r, rfl, h1, h2⟩ := h
      obtain ⟨p1, p2, rfl, h3, h4⟩ := split a c r h2
      exact ⟨p :: p1, p2, rfl, by simp only [okPVs]; exact ⟨p, p1, rfl, h1, h3⟩, h4⟩
  join : ∀ (a c : List Cty) (p1 p2 : List PV), okPVs a p1 → okPVs c p2 → okPVs (a ++ c) (p1 ++ p2)
    | [], c, p1, p2, h, k => by simp only [okPVs] at h; subst h; exact k
    | t :: a, c, p1, p2, h, k => by
      simp only [okPVs] at h
      obtain ⟨p, r, rfl, h1, h2⟩ := h
      simp only [List.cons_append, okPVs]
      exact ⟨p, r ++ p2, rfl, h1, join a c r p2 h2 k⟩
theorem tyFs_mono {P : Program} {rc rd : TypeId → Option (List Cty)} (h : ∀ t ts, rc t = some ts → ∃ us, rd t = some us ∧ Cle ts us) : ∀ {fs : List Field} {off : Nat} {ts : List Cty}, tyFs P rc off fs = some ts → ∃ us, tyFs P rd off fs = some us ∧ Cle ts us
  | [], off, ts, he => by simp only [tyFs] at he; cases he; exact ⟨[], rfl, rfl, fun _ h => h⟩
  | f :: fs, off, ts, he => by
    simp only [tyFs] at he
    split at he
    · rename_i t1 h1
      split at he
      · rename_i hc
        split at he
        · rename_i l h2
          cases he
          obtain ⟨u1, g1, g2⟩ := h _ _ h1
          obtain ⟨u2, k1, k2⟩ := tyFs_mono h h2
          refine ⟨u1 ++ u2, ?_, g2.append k2⟩
          simp only [tyFs, g1]
          rw [if_pos ⟨hc.1, by rw [g2.1]; exact hc.2⟩, g2.1, k1]
        · cases he
      · cases he
    · cases he
theorem Cle.rep {a b : List Cty} (h : Cle a b) : ∀ m, Cle (List.replicate m a).flatten (List.replicate m b).flatten
  | 0 => ⟨rfl, fun _ h => h⟩
  | m + 1 => by rw [List.replicate_succ, List.replicate_succ, List.flatten_cons, List.flatten_cons]; exact h.append (h.rep m)
theorem tyT_mono {P : Program} {cut : List TypeId} {Q R : TypeId → List PV → Prop} (hQ : Sub2 Q R) : ∀ {n : Nat} {t : TypeId} {ts : List Cty}, tyT P cut Q n t = some ts → ∃ us, tyT P cut R n t = some us ∧ Cle ts us
  | 0, t, ts, h => by simp [tyT] at h
  | n + 1, t, ts, h => by
    simp only [tyT] at h ⊢
    split at h
    · cases h; exact ⟨_, rfl, rfl, fun _ h => h⟩
    · cases h; exact ⟨_, rfl, rfl, fun _ h => h⟩
    · cases h; exact ⟨_, rfl, rfl, fun _ h => h⟩
    · rename_i e hu
      split at h
      · rename_i hc
        cases h
        rw [if_pos hc]
        refine ⟨_, rfl, rfl, fun ps hp => ?_⟩
        simp only [okPVs, okPV] at hp ⊢
        obtain ⟨p, r, rfl, ⟨es, rfl, a1, a2, a3⟩, h2⟩ := hp
        exact ⟨_, _, rfl, ⟨es, rfl, a1, a2, fun x hx => hQ _ _ (a3 x hx)⟩, h2⟩
      · rename_i hc
        rw [if_neg hc]
        split at h
        · rename_i us hus
          split at h
          · rename_i hl
            cases h
            obtain ⟨vs, g1, g2⟩ := tyT_mono hQ hus
            simp only [g1]
            rw [if_pos ⟨by rw [g2.1]; exact hl.1, by rw [g2.1]; exact hl.2⟩]
            refine ⟨_, rfl, rfl, fun ps hp => ?_⟩
            simp only [okPVs, okPV] at hp ⊢
            obtain ⟨p, r, rfl, ⟨es, rfl, a1, a2, a3⟩, h2⟩ := hp
            exact ⟨_, _, rfl, ⟨es, rfl, a1, a2, fun x hx => g2.2 _ (a3 x hx)⟩, h2⟩
          · cases h
        · cases h
    · split at h
      · rename_i us hus
        split at h
        · rename_i hl
          cases h
          obtain ⟨vs, g1, g2⟩ := tyFs_mono (fun t ts h => tyT_mono hQ h) hus
          simp only [g1]
          rw [if_pos (by rw [g2.1]; exact hl)]
          exact ⟨_, rfl, g2⟩
        · cases h
      · cases h
    · rename_i m e hu
      split at h
      · rename_i us hus
        split at h
        · rename_i hl
          cases h
          obtain ⟨vs, g1, g2⟩ := tyT_mono hQ hus
          simp only [g1]
          rw [if_pos ⟨by rw [g2.1]; exact hl.1, by rw [g2.1]; exact hl.2⟩]
          exact ⟨_, rfl, g2.rep m⟩
        · cases h
      · cases h
    · cases h
theorem RecOk.mono {P : Program} {cut : List TypeId} {N : Nat} : ∀ k, Sub2 (RecOk P cut N k) (RecOk P cut N (k + 1))
  | 0, e, x, h => h.elim
  | k + 1, e, x, h => by
    obtain ⟨ts, h1, h2⟩ := h
    obtain ⟨us, g1, g2⟩ := tyT_mono (RecOk.mono k) h1
    exact ⟨us, g1, g2.2 _ h2⟩
abbrev cellsF (w : World) : Nat → Nat → Option Value := fun b o => w.cell? ⟨b, o, none⟩
def CellsOk (F : Nat → Nat → Option Value) (ts : List Cty) (cs : List Value) (ps : List PV) : Prop :=
  cs.length = ps.length ∧ okPVs ts ps ∧ ∀ (i : Nat) p, ps[i]? = some p → ∃ u, cs[i]? = some u ∧ VP F p u
theorem okPVs_append : ∀ {ts us : List Cty} {ps qs : List PV}, okPVs ts ps → okPVs us qs → okPVs (ts ++ us) (ps ++ qs)
  | [], us, ps, qs, h, k => by simp only [okPVs] at h; subst h; simpa using k
  | t :: ts, us, ps, qs, h, k => by
    simp only [okPVs] at h
    obtain ⟨p, r, rfl, h1, h2⟩ := h
    simp only [List.cons_append, okPVs]
    exact ⟨p, r ++ qs, rfl, h1, okPVs_append h2 k⟩
theorem okPVs_length : ∀ {ts : List Cty} {ps : List PV}, okPVs ts ps → ps.length = ts.length
  | [], ps, h => by simp only [okPVs] at h; subst h; rfl
  | t :: ts, ps, h => by
    simp only [okPVs] at h
    obtain ⟨p, r, rfl, h1, h2⟩ := h
    simp [okPVs_length h2]
theorem CellsOk.append {F : Nat → Nat → Option Value} {ts us : List Cty} {cs ds : List Value} {ps qs : List PV} (h : CellsOk F ts cs ps) (k : CellsOk F us ds qs) : CellsOk F (ts ++ us) (cs ++ ds) (ps ++ qs) := by
  refine ⟨by simp [h.1, k.1], okPVs_append h.2.1 k.2.1, fun i p hi => ?_⟩
  by_cases hlt : i < ps.length
  · rw [List.getElem?_append_left hlt] at hi
    rw [List.getElem?_append_left (by rw [h.1]; exact hlt)]
    exact h.2.2 i p hi
  · rw [List.getElem?_append_right (by omega)] at hi
    rw [List.getElem?_append_right (by rw [h.1]; omega), h.1]
    exact k.2.2 _ p hi
theorem CellsOk.one {F : Nat → Nat → Option Value} {t : Cty} {p : PV} {u : Value} (h : okPV t p) (k : VP F p u) : CellsOk F [t] [u] [p] := by
  refine ⟨rfl, ?_, fun i q hi => ?_⟩
  · simp only [okPVs]; exact ⟨p, [], rfl, h, rfl⟩
  · cases i with
    | zero => simp at hi; subst hi; exact ⟨u, rfl, k⟩
    | succ i => simp at hi
section
variable {H : Type} {enc : TypeId × Value → H} {P : Program} {W : World}
theorem weightsAll_mem {e : TypeId} : ∀ {ds : List (DataW H)} {d : DataW H} {x : Nat}, d ∈ ds → x ∈ d.weights P e → x ∈ DataW.weightsAll P e ds
  | [], d, x, hd, _ => by cases hd
  | y :: r, d, x, hd, hx => by
    simp only [DataW.weightsAll, List.mem_append]
    rcases List.mem_cons.1 hd with rfl | hd
    · exact .inl hx
    · exact .inr (weightsAll_mem hd hx)
theorem fields_pv {n : Nat} {rc : TypeId → Option (List Cty)}
    (ih : ∀ t cs d ps ts, DataW.trod enc P W 0 (fun _ => true) true n t cs = some (d, ps) → rc t = some ts → (∀ x ∈ d.weights P t, x ≤ reachBytes) → ∃ pv, CellsOk (cellsF W) ts cs pv) :
    ∀ (fs : List Field) (off : Nat) (cs : List Value) (xs : List (DataW H × List MemPlace)) (ts : List Cty), tyFs P rc off fs = some ts → xs.length = fs.length →
      (∀ (i : Nat) f, fs[i]? = some f → DataW.trod enc P W 0 (fun _ => true) true n f.type ((cs.drop (f.offset - off)).take (P.cellsOf f.type)) = xs[i]?) →
      (∀ x ∈ DataW.weightsEach P (fs.map (·.type)) (xs.map (·.1)), x ≤ reachBytes) → cs.length = ts.length → ∃ pv, CellsOk (cellsF W) ts cs pv
  | [], off, cs, xs, ts, ht, _, _, _, hl => by
    simp only [tyFs] at ht; cases ht
    simp at hl
    subst hl
    exact ⟨[], rfl, rfl, by simp⟩
  | f :: fs, off, cs, xs, ts, ht, hx, hg, hw, hl => by
    simp only [tyFs] at ht
    split at ht
    · rename_i ts1 h1
      split at ht
      · rename_i hc
        split at ht
        · rename_i l h2
          cases ht
          cases xs with
          | nil => simp at hx
          | cons x xs =>
            have g0 := hg 0 f rfl
            rw [hc.1, Nat.sub_self] at g0
            simp only [List.drop_zero, List.getElem?_cons_zero] at g0
            simp only [List.map_cons, DataW.weightsEach, List.mem_append] at hw
            obtain ⟨pv1, c1⟩ := ih _ _ x.1 x.2 _ g0 h1 (fun y hy => hw y (.inl hy))
            rw [List.length_append] at hl
            have hd : (cs.drop ts1.length).length = l.length := by simp [hl]
            obtain ⟨pv2, c2⟩ := fields_pv ih fs (off + ts1.length) (cs.drop ts1.length) xs l h2 (by simpa using hx) (fun i f' hf => by
              have := hg (i + 1) f' (by simpa using hf)
              simp only [List.getElem?_cons_succ] at this
              rw [← this, List.drop_drop]
              have hle : off + ts1.length ≤ f'.offset := tyFs_le h2 i f' hf
              congr 3
              omega) (fun y hy => hw y (.inr hy)) hd
            have e : cs = (cs.take (P.cellsOf f.type)) ++ cs.drop ts1.length := by rw [← hc.2, List.take_append_drop]
            rw [e]
            exact ⟨pv1 ++ pv2, c1.append c2⟩
        · cases ht
      · cases ht
    · cases ht
where
  tyFs_le {rc : TypeId → Option (List Cty)} : ∀ {fs : List Field} {off : Nat} {ts : List Cty}, tyFs P rc off fs = some ts → ∀ (i : Nat) f, fs[i]? = some f → off ≤ f.offset
  | [], _, _, _, i, f, hf => by simp at hf
  | g :: fs, off, ts, h, i, f, hf => by
    simp only [tyFs] at h
    split at h
    · rename_i ts1 h1
      split at h
      · rename_i hc
        split at h
        · rename_i l h2
          cases i with
          | zero => simp at hf; subst hf; omega
          | succ i => have := tyFs_le h2 i f (by simpa using hf); omega
        · cases h
      · cases h
    · cases h
theorem arr_pv {n : Nat} {e : TypeId} {ts : List Cty}
    (ih : ∀ cs d ps, DataW.trod enc P W 0 (fun _ => true) true n e cs = some (d, ps) → (∀ x ∈ d.weights P e, x ≤ reachBytes) → ∃ pv, CellsOk (cellsF W) ts cs pv) (hc : ts.length = P.cellsOf e) :
    ∀ (m : Nat) (cs : List Value) (xs : List (DataW H × List MemPlace)), xs.length = m → cs.length = m * ts.length →
      (∀ i, i < m → DataW.trod enc P W 0 (fun _ => true) true n e ((cs.drop (i * P.cellsOf e)).take (P.cellsOf e)) = xs[i]?) →
      (∀ x ∈ DataW.weightsAll P e (xs.map (·.1)), x ≤ reachBytes) → ∃ pv, CellsOk (cellsF W) (List.replicate m ts).flatten cs pv
  | 0, cs, xs, hx, hl, _, _ => by
    simp at hl
    subst hl
    exact ⟨[], rfl, rfl, by simp⟩
  | m + 1, cs, xs, hx, hl, hg, hw => by
    cases xs with
    | nil => simp at hx
    | cons x xs =>
      have g0 := hg 0 (by omega)
      simp only [Nat.zero_mul, List.drop_zero, List.getElem?_cons_zero] at g0
      simp only [List.map_cons, DataW.weightsAll, List.mem_append] at hw
      obtain ⟨pv1, c1⟩ := ih _ x.1 x.2 g0 (fun y hy => hw y (.inl hy))
      obtain ⟨pv2, c2⟩ := arr_pv ih hc m (cs.drop ts.length) xs (by simpa using hx) (by rw [List.length_drop, hl, Nat.add_mul]; omega) (fun i hi => by
        have := hg (i + 1) (by omega)
        simp only [List.getElem?_cons_succ] at this
        rw [← this, List.drop_drop]
        congr 3
        rw [Nat.add_mul, hc]; omega) (fun y hy => hw y (.inr hy))
      have e1 : cs = (cs.take (P.cellsOf e)) ++ cs.drop ts.length := by rw [← hc, List.take_append_drop]
      rw [e1, List.replicate_succ, List.flatten_cons]
      exact ⟨pv1 ++ pv2, c1.append c2⟩
theorem choose_list {α : Type} {R : Nat → α → Prop} : ∀ (n : Nat), (∀ i, i < n → ∃ a, R i a) → ∃ l : List α, l.length = n ∧ ∀ i a, l[i]? = some a → R i a
  | 0, _ => ⟨[], rfl, by simp⟩
  | n + 1, h => by
    obtain ⟨l, h1, h2⟩ := choose_list n (fun i hi => h i (by omega))
    obtain ⟨a, ha⟩ := h n (by omega)
    refine ⟨l ++ [a], by simp [h1], fun i b hb => ?_⟩
    rcases get_snoc_cases hb with ⟨_, hb⟩ | ⟨rfl, rfl⟩
    · exact h2 i b hb
    · rw [h1]; exact ha
theorem trod_pv {cut : List TypeId} {N : Nat} (hcut : ∀ e ∈ cut, ∀ Q, ∃ ts, tyT P cut Q N e = some ts ∧ ts.length = P.cellsOf e ∧ 0 < ts.length) : ∀ (fuel : Nat) (Q : TypeId → List PV → Prop) (hQ : Sub2 (RecOk P cut N fuel) Q) (n : Nat) (t : TypeId) (cs : List Value) (d : DataW H) (ps : List MemPlace) (ts : List Cty),
    DataW.trod enc P W 0 (fun _ => true) true fuel t cs = some (d, ps) → tyT P cut Q n t = some ts → (∀ x ∈ d.weights P t, x ≤ reachBytes) → ∃ pv, CellsOk (cellsF W) ts cs pv := by
  intro fuel
  induction fuel with
  | zero => intro Q hQ n t cs d ps ts h; simp [DataW.trod] at h
  | succ fuel ih0 =>
    intro Q hQ n t cs d ps ts h ht hw
    have ih := ih0 Q (fun e x hx => hQ e x (RecOk.mono fuel e x hx))
    cases n with
    | zero => simp [tyT] at ht
    | succ n =>
      simp only [tyT] at ht
      split at ht
      · rename_i hu
        cases ht
        obtain ⟨b, rfl, e⟩ := DataW.trod_bool hu h
        exact ⟨[.bool b], .one ⟨b, rfl⟩ (.bool b)⟩
      · rename_i k hu
        cases ht
        obtain ⟨m, rfl, e, hwf⟩ := DataW.trod_int hu h
        refine ⟨[.int k m], .one ⟨m, rfl, ?_⟩ (.int k m)⟩
        simpa [Lit.wf] using hwf
      · rename_i hu
        cases ht
        obtain ⟨s, rfl, e, hwf⟩ := DataW.trod_string hu h
        cases e
        have := hw s.data.toList.length (by simp [DataW.weights])
        exact ⟨[.str s.data.toList], .one ⟨_, rfl, this⟩ (by have := VP.str (F := cellsF W) s.data.toList; simpa using this)⟩
      · rename_i e hu
        have slc : ∀ (us : List Cty) (c : Cty), us.length = P.cellsOf e → 0 < us.length → (∀ es : List (List PV), es.length * P.bytesOf e ≤ reachBytes → es.length ≤ maxLen → (∀ x ∈ es, okPVs us x) → okPV c (.sl es)) →
            (∀ cs d ps, DataW.trod enc P W 0 (fun _ => true) true fuel e cs = some (d, ps) → (∀ x ∈ d.weights P e, x ≤ reachBytes) → ∃ pv, CellsOk (cellsF W) us cs pv) → ∃ pv, CellsOk (cellsF W) [c] cs pv := by
          intro us c hc1 hc2 hokc ihe
          rcases DataW.trod_slice hu h with ⟨rfl, _⟩ | ⟨a, len, cap, elems, rest, m, hm, rfl, hx, _, hlc, hcm, hel, hg, hsp, _⟩
          · exact ⟨[.sl []], .one (hokc [] (by simp) (by simp) (by simp)) .nils⟩
          · obtain rfl : m = fuel := by omega
            cases hx
            have hwl : (elems.length + rest.length) * P.bytesOf e ≤ reachBytes := hw _ (by simp [DataW.weights, hu])
            have each : ∀ i, i < len → ∃ pv : List PV, okPVs us pv ∧ pv.length = us.length ∧ ∀ (j : Nat) p, pv[j]? = some p → ∃ u, W.cell? ((a.add (i * P.cellsOf e)).add j) = some u ∧ VP (cellsF W) p u := by
              intro i hi
              have := hg i hi
              have hlt : i < elems.length := by omega
              rw [List.getElem?_eq_getElem hlt, Option.bind_eq_some_iff] at this
              obtain ⟨cs', h1, h2⟩ := this
              obtain ⟨pv, c1, c2, c3⟩ := ihe cs' elems[i].1 elems[i].2 (by rw [h2]) (fun x hx => hw x (by
                simp only [DataW.weights, hu, List.mem_cons, List.mem_append]
                exact .inr (.inl (weightsAll_mem (List.mem_map.2 ⟨elems[i], List.getElem_mem _, rfl⟩) hx))))
              refine ⟨pv, c2, okPVs_length c2, fun j p hj => ?_⟩
              obtain ⟨u, hu', hv⟩ := c3 j p hj
              refine ⟨u, ?_, hv⟩
              unfold World.cells? at h1
              split at h1
              · have := mapM_some_get h1 j j (by
                  have := (List.getElem?_eq_some_iff.1 hu').1
                  have := mapM_some_length h1
                  simp at this
                  rw [List.getElem?_range (by omega)])
                rw [this]; exact hu'
              · cases h1
            obtain ⟨es, e1, e2⟩ := choose_list len each
            have hall : ∀ x ∈ es, okPVs us x ∧ x.length = us.length := by
              intro x hx
              obtain ⟨i, hi⟩ := List.getElem?_of_mem hx
              exact ⟨(e2 i x hi).1, (e2 i x hi).2.1⟩
            have hok : okPV c (.sl es) := hokc es (Nat.le_trans (Nat.mul_le_mul_right _ (by omega)) hwl) (by omega) (fun x hx => (hall x hx).1)
            by_cases h0 : len = 0
            · subst h0
              have : es = [] := List.eq_nil_of_length_eq_zero e1
              subst this
              exact ⟨[.sl []], .one hok (.sl0 a cap hcm)⟩
            · have hspot : a.spot = none := by
                obtain ⟨x, hx⟩ : ∃ x, es[0]? = some x := ⟨es[0]'(by omega), by simp [show 0 < es.length by omega]⟩
                obtain ⟨_, hxl, hcell⟩ := e2 0 x hx
                obtain ⟨p, hp⟩ : ∃ p, x[0]? = some p := ⟨x[0]'(by omega), by simp [show 0 < x.length by omega]⟩
                obtain ⟨u, hu', _⟩ := hcell 0 p hp
                simp only [Nat.zero_mul, Addr.add, if_true] at hu'
                unfold World.cell? at hu'
                split at hu'
                · split at hu'
                  · cases hu'
                  · rename_i hs; simpa using hs
                · cases hu'
              obtain ⟨b, off, sp⟩ := a
              simp only at hspot
              subst hspot
              refine ⟨[.sl es], .one hok ?_⟩
              have key : ∀ i j p, at2 es i j = some p → ∃ u, cellsF W b (off + i * us.length + j) = some u ∧ VP (cellsF W) p u := by
                intro i j p hp
                unfold at2 at hp
                rw [Option.bind_eq_some_iff] at hp
                obtain ⟨x, hx, hj⟩ := hp
                obtain ⟨_, _, hcell⟩ := e2 i x hx
                obtain ⟨u, hu', hv⟩ := hcell j p hj
                refine ⟨u, ?_, hv⟩
                rw [Addr.add_lit, Addr.add_lit, ← hc1] at hu'
                exact hu'
              have := VP.mk (F := cellsF W) (es := es) (size := us.length) (b := b) (off := off) (cap := cap) (by omega) hcm (fun x hx => (hall x hx).2) key
              rw [e1] at this
              exact this
        split at ht
        · rename_i hcu
          cases ht
          obtain ⟨us, k1, k2, k3⟩ := hcut e hcu (RecOk P cut N fuel)
          refine slc us _ k2 k3 (fun es h1 h2 h3 => ⟨es, rfl, h1, h2, fun x hx => hQ e x ⟨us, k1, h3 x hx⟩⟩) (fun cs d ps h1 h2 => ih0 (RecOk P cut N fuel) (fun _ _ h => h) N e cs d ps us h1 k1 h2)
        · split at ht
          · rename_i us hus
            split at ht
            · rename_i hc
              cases ht
              exact slc us _ hc.1 hc.2 (fun es h1 h2 h3 => ⟨es, rfl, h1, h2, h3⟩) (fun cs d ps h1 h2 => ih n e cs d ps us h1 hus h2)
            · cases ht
          · cases ht
      · rename_i fs hu
        split at ht
        · rename_i us hus
          split at ht
          · rename_i hc
            rw [← Option.some.inj ht]
            obtain ⟨xs, m, hm, hx, hl, hxl, hg⟩ := DataW.trod_struct hu h
            obtain rfl : m = fuel := by omega
            cases hx
            refine fields_pv (fun t cs d ps ts h1 h2 h3 => ih n t cs d ps ts h1 h2 h3) fs.toList 0 cs xs us hus (by simp [hxl]) (fun i f hf => ?_) (fun x hx => hw x (by simp [DataW.weights, hu, hx])) (by rw [hl, hc])
            simpa using hg i f (by simpa using hf)
          · cases ht
        · cases ht
      · rename_i m e hu
        split at ht
        · rename_i us hus
          split at ht
          · rename_i hc
            cases ht
            obtain ⟨xs, q, hq, hx, hl, hxl, hg⟩ := DataW.trod_array hu h
            obtain rfl : q = fuel := by omega
            cases hx
            exact arr_pv (fun cs d ps h1 h3 => ih n e cs d ps us h1 hus h3) hc.2 m cs xs hxl (by rw [hl, hc.1]) hg (fun x hx => hw x (by simp [DataW.weights, hu, hx]))
          · cases ht
        · cases ht
      · cases ht
def argLV (agg : Bool) (ps : List PV) : LV := if agg then .agg (ps.map .p) else match ps with | [p] => .p p | _ => .und
def tyPs (P : Program) (cut : List TypeId) (Q : TypeId → List PV → Prop) (n : Nat) : List TypeId → Option (List (Bool × List Cty))
  | [] => some []
  | t :: r => match P.underlying t, tyT P cut Q n t, tyPs P cut Q n r with
    | some d, some ts, some l => some ((aggB d, ts) :: l)
    | _, _, _ => none
def OkArgs : List (Bool × List Cty) → List LV → Prop
  | [], l => l = []
  | (agg, ts) :: r, l => ∃ ps m, l = argLV agg ps :: m ∧ okPVs ts ps ∧ OkArgs r m
theorem tyT_one {cut : List TypeId} {Q : TypeId → List PV → Prop} {n : Nat} {t : TypeId} {d : TypeDesc} {ts : List Cty} (hd : P.underlying t = some d) (ha : aggB d = false) (h : tyT P cut Q n t = some ts) : ts.length = 1 := by
  cases n with
  | zero => simp [tyT] at h
  | succ n =>
    simp only [tyT, hd] at h
    cases d <;> simp only [aggB, Bool.true_eq_false] at ha <;> first | (cases h; rfl) | skip
    all_goals
      simp only at h
      first
        | (split at h
           · cases h; rfl
           · split at h
             · split at h
               · cases h; rfl
               · cases h
             · cases h)
        | (split at h
           · split at h
             · cases h; rfl
             · cases h
           · cases h)
        | cases h
theorem tyPs_mono {cut : List TypeId} {Q R : TypeId → List PV → Prop} (hQ : Sub2 Q R) {n : Nat} : ∀ {ts : List TypeId} {a b : List (Bool × List Cty)}, tyPs P cut Q n ts = some a → tyPs P cut R n ts = some b → ∀ vs, OkArgs a vs → OkArgs b vs
  | [], a, b, h, k, vs, hv => by simp only [tyPs] at h k; cases h; cases k; exact hv
  | t :: r, a, b, h, k, vs, hv => by
    simp only [tyPs] at h k
    split at h
    · rename_i d ts l h1 h2 h3
      cases h
      obtain ⟨us, g1, g2⟩ := tyT_mono hQ h2
      split at k
      · rename_i d' ts' l' e1 e2 e3
        rw [h1] at e1; rw [g1] at e2
        cases e1; cases e2; cases k
        obtain ⟨ps, m, rfl, a1, a2⟩ := hv
        exact ⟨ps, m, rfl, g2.2 _ a1, tyPs_mono hQ h3 e3 _ a2⟩
      · cases k
    · cases h
theorem RecOk.le {cut : List TypeId} {N : Nat} : ∀ {k m : Nat}, k ≤ m → Sub2 (RecOk P cut N k) (RecOk P cut N m)
  | k, m, h => by
    induction h with
    | refl => exact fun _ _ h => h
    | step _ ih => exact fun e x hx => RecOk.mono _ e x (ih e x hx)
theorem args_pv {cut : List TypeId} {N : Nat} (hcut : ∀ e ∈ cut, ∀ Q, ∃ ts, tyT P cut Q N e = some ts ∧ ts.length = P.cellsOf e ∧ 0 < ts.length) {n : Nat} {G : Gh} (hG : G.F = cellsF W) : ∀ {ts : List TypeId} {vs : List Value} {ds gs : List (DataW H)} {us : List TypeId} {ps : List MemPlace} {tys : Nat → List (Bool × List Cty)}, DataW.TrodAll enc P W 0 (fun _ => true) true ts vs ds ps → (∀ k, tyPs P cut (RecOk P cut N k) n ts = some (tys k)) →
    (∀ (j : Nat) t v, ts[j]? = some t → vs[j]? = some v → Value.okWide P W .any 0 t v ∨ ∃ base, Value.okWide P W .any base t v) → (∀ x ∈ DataW.weightsEach P (ts ++ us) (ds ++ gs), x ≤ reachBytes) →
    ∃ k, ∃ args, OkArgs (tys k) args ∧ args.length = vs.length ∧ ∀ (i : Nat) x u, args[i]? = some x → vs[i]? = some u → VL G x u
  | [], vs, ds, gs, us, ps, tys, h, ht, _, _ => by
    have := ht 0
    simp only [tyPs, Option.some.injEq] at this
    obtain ⟨rfl, _, _⟩ := ChangeShapes.trodAll_nil h
    exact ⟨0, [], by rw [← this]; rfl, rfl, by simp⟩
  | t :: ts, vs, ds, gs, us, ps, tys, h, ht, hok, hw => by
    have hk : ∀ k, ∃ dd tt ll, P.underlying t = some dd ∧ tyT P cut (RecOk P cut N k) n t = some tt ∧ tyPs P cut (RecOk P cut N k) n ts = some ll ∧ tys k = (aggB dd, tt) :: ll := by
      intro k
      have := ht k
      simp only [tyPs] at this
      split at this
      · rename_i dd tt ll h1 h2 h3
        exact ⟨dd, tt, ll, h1, h2, h3, (Option.some.inj this).symm⟩
      · cases this
    have hl' : ∀ k, tyPs P cut (RecOk P cut N k) n ts = some ((tyPs P cut (RecOk P cut N k) n ts).getD []) := by
      intro k
      obtain ⟨dd, tt, ll, _, _, h3, _⟩ := hk k
      rw [h3]; rfl
    · obtain ⟨v, vs', d, ds', p, q, rfl, rfl, rfl, ⟨fuel, h1⟩, h2⟩ := ChangeShapes.trodAll_cons h
      simp only [List.cons_append, DataW.weightsEach, List.mem_append] at hw
      obtain ⟨dd, tt, ll0, hd, htt, _, _⟩ := hk fuel
      obtain ⟨pv, c1, c2, c3⟩ := trod_pv hcut fuel _ (fun _ _ h => h) n t _ d p tt h1 htt (fun x hx => hw x (.inl hx))
      obtain ⟨k', args, a1, a2, a3⟩ := args_pv hcut (n := n) hG h2 (tys := fun k => (tyPs P cut (RecOk P cut N k) n ts).getD []) hl' (fun j t v hj hv => hok (j + 1) t v (by simpa using hj) (by simpa using hv)) (fun x hx => hw x (.inr hx))
      have hv : VL G (argLV (aggB dd) pv) v := by
        have hlen := okPVs_length c2
        obtain ⟨base, hk⟩ : ∃ base, Value.okWide P W .any base t v := by
          rcases hok 0 t v rfl rfl with h | h
          · exact ⟨0, h⟩
          · exact h
        unfold argLV
        split
        · rename_i ha
          have : ∃ arr, v = .agg arr := by
            unfold Value.okWide at hk
            rw [hd] at hk
            cases dd <;> simp [aggB] at ha
            all_goals exact ⟨_, hk.choose_spec.1⟩
          obtain ⟨arr, rfl⟩ := this
          simp only [Value.cells] at c1 c3
          refine .agg arr (by simpa using c1) (fun i u hu => ?_) (fun i x hx => ?_)
          · have hlt : i < pv.length := by rw [← c1]; simpa using (Array.getElem?_eq_some_iff.1 hu).1
            obtain ⟨u', hu', hvp⟩ := c3 i pv[i] (by simp [hlt])
            rw [Array.getElem?_toList, hu] at hu'
            cases hu'
            exact hvp.one
          · rw [List.getElem?_map] at hx
            cases hq : pv[i]? with
            | none => simp [hq] at hx
            | some y =>
              simp [hq] at hx; subst hx
              obtain ⟨u', hu', hvp⟩ := c3 i y hq
              rw [Array.getElem?_toList] at hu'
              rw [Array.getD_eq_getD_getElem?, hu']
              rw [← hG] at hvp
              exact .p hvp
        · rename_i ha
          have h1 := tyT_one hd (by simpa using ha) htt
          have hna : ∀ arr, v ≠ .agg arr := by
            rintro arr rfl
            unfold Value.okWide at hk
            rw [hd] at hk
            cases dd <;> simp [aggB] at ha <;> simp [Cell.okWide, Cell.ok, hd] at hk
          obtain ⟨y, rfl⟩ := List.length_eq_one_iff.1 (hlen.trans h1)
          · obtain ⟨u', hu', hvp⟩ := c3 0 y rfl
            have : v.cells = #[v] := by cases v <;> first | rfl | exact absurd rfl (hna _)
            rw [this] at hu'
            simp at hu'
            subst hu'
            rw [← hG] at hvp
            exact .p hvp
      obtain ⟨dd2, tt2, ll2, q1, q2, q3, q4⟩ := hk (max fuel k')
      have hdd : dd2 = dd := by rw [hd] at q1; exact (Option.some.inj q1).symm
      subst hdd
      obtain ⟨us2, g1, g2⟩ := tyT_mono (RecOk.le (P := P) (cut := cut) (N := N) (Nat.le_max_left fuel k')) htt
      rw [q2] at g1
      cases g1
      have a1' := tyPs_mono (RecOk.le (P := P) (cut := cut) (N := N) (Nat.le_max_right fuel k')) (hl' k') q3 _ a1
      refine ⟨max fuel k', argLV (aggB dd2) pv :: args, by rw [q4]; exact ⟨pv, args, rfl, g2.2 _ c2, a1'⟩, by simp [a2], fun i x u hx hu => ?_⟩
      cases i with
      | zero => simp at hx hu; subst hx; subst hu; exact hv
      | succ i => exact a3 i x u (by simpa using hx) (by simpa using hu)
end
end Go.LS
namespace Go.LS
def gh0 (w : World) : Gh := ⟨cellsF w, fun _ => none, fun _ _ => none⟩
theorem wr0 (w : World) : WR (gh0 w) [] w where
  fr _ _ _ h := h
  dom _ _ := ⟨rfl, fun _ => rfl⟩
  row o es h := by simp at h
  map o es h := by simp at h
  iter o s p h := by simp at h
  spare o n hw h := by simp at h
  uniq o o' b h := by simp [Owns] at h
  ownF o b h := by simp [Owns] at h
  kind o x h := by simp at h
theorem Ext0.below {G G' : Gh} {st' : List LObj} {w w' : World} (h : Ext0 G [] w G' st' w') : RowKit.Below w.heap.size w w' :=
  ⟨h.os, h.tape, h.output, h.hsz, fun k hk => h.unch k hk (fun o ho => by simp [Owns] at ho)⟩
theorem trodAll_stays {H : Type} {enc : TypeId × Value → H} {P : Program} (hl : laidOutB P = true) {W W' : World} (hb : RowKit.Below W.heap.size W W') :
    ∀ {ts : List TypeId} {vs : List Value} {ds : List (DataW H)} {ps : List MemPlace}, (∀ t ∈ ts, P.readableRec t = true ∧ t < P.types.size) → DataW.TrodAll enc P W 0 (fun _ => true) true ts vs ds ps →
      DataW.TrodAll enc P W' 0 (fun b => decide (b < W.heap.size)) true ts vs ds ps
  | [], vs, ds, ps, _, h => by
    obtain ⟨rfl, rfl, rfl⟩ := ChangeShapes.trodAll_nil h
    rfl
  | t :: ts, vs, ds, ps, ht, h => by
    obtain ⟨v, vs', d, ds', p, q, rfl, rfl, rfl, h1, h2⟩ := ChangeShapes.trodAll_cons h
    refine ⟨p, q, ?_, trodAll_stays hl hb (fun t hm => ht t (by simp [hm])) h2, rfl⟩
    exact RowKit.Below.trod hl (ht t (by simp)).1 (ht t (by simp)).2 h1 hb (fun x hx => by
      obtain ⟨m, hm⟩ := h1
      exact DataW.trod_lt m _ _ _ hm x hx)
theorem trodAll_len {H : Type} {enc : TypeId × Value → H} {P : Program} {W : World} : ∀ {ts : List TypeId} {vs : List Value} {ds : List (DataW H)} {ps : List MemPlace}, DataW.TrodAll enc P W 0 (fun _ => true) true ts vs ds ps → ds.length = vs.length
  | [], vs, ds, ps, h => by
    obtain ⟨rfl, rfl, _⟩ := ChangeShapes.trodAll_nil h
    rfl
  | t :: ts, vs, ds, ps, h => by
    obtain ⟨v, vs', d, ds', p, q, rfl, rfl, rfl, _, h2⟩ := ChangeShapes.trodAll_cons h
    simp [trodAll_len h2]
theorem law_contract {H : Type} {enc : TypeId × Value → H} {P : Program} {lp : LProg} (hp : PR P lp) (hl : laidOutB P = true) {f : FuncId} {fn : Func} {s : ChangeSpec} {tb : TypeId} {cut : List TypeId} {N n : Nat} {tys : Nat → List (Bool × List Cty)}
    (hcut : ∀ e ∈ cut, ∀ Q, ∃ ts, tyT P cut Q N e = some ts ∧ ts.length = P.cellsOf e ∧ 0 < ts.length)
    (hps : fn.params.toList.all (fun t => P.readableRec t && decide (t < P.types.size)) = true) (hres : fn.resultTypes = #[tb]) (htb : P.underlying tb = some .bool)
    (ht : ∀ k, tyPs P cut (RecOk P cut N k) n fn.params.toList = some (tys k)) (hv : s.vars = []) (hsz : ∀ k, ∀ vs : List LV, OkArgs (tys k) vs → vs.length = fn.params.size)
    (hs : ∀ ds : List (DataW H), ds.length = fn.params.size → s.fn H ds = { results := [.lit (.bool true)], args := ds, vars := [] })
    (W : World) (base : Nat) (args : Array Value) (ds gs : List (DataW H)) (before : List MemPlace)
    (hrun : ∀ j vs, OkArgs (tys j) vs → ∃ k st', runF lp k f vs [] = some (.p (.bool true), st'))
    (hval : ∀ (j : Nat) t v, fn.params[j]? = some t → args[j]? = some v → Value.okWide P W .any base t v)
    (hW : DataW.Whole enc P fn.params.toList s.vars false W args.toList ds gs before)
    (hw : (DataW.weightsEach P (fn.params.toList ++ s.plain.varTypes P) (ds ++ gs)).all (· ≤ reachBytes) = true) :
    Calls P f args W fun e W' => ∃ v, e = .returned v ∧ s.post enc P fn false true false false W args v W' := by
  have hW' := hW
  obtain ⟨p, q, hA, hV, rfl, hfz, _⟩ := hW
  rw [hv] at hV
  obtain ⟨rfl, rfl⟩ := ChangeShapes.trodVars_none hV
  have hwx : ∀ x ∈ DataW.weightsEach P (fn.params.toList ++ s.plain.varTypes P) (ds ++ []), x ≤ reachBytes := fun x hx => by simpa using List.all_eq_true.1 hw x hx
  obtain ⟨j0, vs, a1, a2, a3⟩ := args_pv (G := gh0 W) hcut rfl hA ht (fun j t v hj hv' => .inr ⟨base, hval j t v (by simpa using hj) (by simpa using hv')⟩) hwx
  obtain ⟨k, st', hr⟩ := hrun j0 vs a1
  obtain ⟨_, hcall⟩ := runF_sound hp k f vs [] _ _ hr
  refine (hcall (gh0 W) W args (wr0 W) ⟨by simpa using a2.symm, fun i x hx => ?_⟩).mono ?_
  · have hlt : i < args.size := by have := (List.getElem?_eq_some_iff.1 hx).1; rw [a2] at this; simpa using this
    have := a3 i x args[i] hx (by simp [hlt])
    rw [Array.getD_eq_getD_getElem?, Array.getElem?_eq_getElem hlt]
    exact this
  · rintro e W' ⟨u, G', rfl, _, hu, hx⟩
    have hub := hu.bool_inv
    subst hub
    have bel := hx.below
    have hdl : ds.length = fn.params.size := by
      rw [← hsz j0 vs a1, a2]
      exact trodAll_len hA
    refine ⟨_, rfl, ds, [], _, [], p, [], hW', ?_, ?_, ?_, bel.frame _, fun h => by cases h⟩
    · rw [List.append_nil, hs ds hdl, hres]
      exact ChangeShapes.trodAll_mk1 ⟨1, by simp [DataW.trod, htb, Value.cells]⟩
    · rw [List.append_nil, hs ds hdl]
      refine trodAll_stays hl bel (fun t hm => ?_) hA
      have := List.all_eq_true.1 hps t hm
      simpa using this
    · rw [List.append_nil, hs ds hdl, hv]
      rfl
end Go.LS
namespace Go.LS
theorem OkArgs.length : ∀ {tys : List (Bool × List Cty)} {vs : List LV}, OkArgs tys vs → vs.length = tys.length
  | [], vs, h => by cases h; rfl
  | (a, t) :: r, vs, h => by
    obtain ⟨ps, m, rfl, _, h2⟩ := h
    simp [h2.length]
end Go.LS
namespace Go.LS
theorem okBytes : ∀ {es : List (List PV)}, (∀ e ∈ es, okPVs [.int .u8] e) → ∃ b : List UInt8, es = bs b
  | [], _ => ⟨[], rfl⟩
  | e :: r, h => by
    obtain ⟨b, rfl⟩ := okBytes (es := r) (fun x hx => h x (List.mem_cons_of_mem _ hx))
    obtain ⟨_, _, rfl, ⟨n, rfl, h0, h1⟩, rfl⟩ := h e (List.mem_cons_self ..)
    replace h0 : 0 ≤ n := h0
    replace h1 : n ≤ 255 := h1
    refine ⟨UInt8.ofNat n.toNat :: b, ?_⟩
    have := byte_bs h0 h1
    simp only [bs, List.map_cons, List.map_nil, List.cons.injEq] at this
    simp [bs]
    omega
theorem okArg {agg : Bool} {ts : List Cty} {r : List (Bool × List Cty)} {l : List LV} (h : OkArgs ((agg, ts) :: r) l) : ∃ ps m, l = argLV agg ps :: m ∧ okPVs ts ps ∧ OkArgs r m := h
theorem okEnd {l : List LV} (h : OkArgs [] l) : l = [] := h
theorem okI {k : IntKind} {ts : List Cty} {ps : List PV} (h : okPVs (.int k :: ts) ps) : ∃ n r, ps = .int k n :: r ∧ (k.min ≤ n ∧ n ≤ k.max) ∧ okPVs ts r := by
  obtain ⟨_, r, rfl, ⟨n, rfl, h1⟩, h2⟩ := h
  exact ⟨n, r, rfl, h1, h2⟩
theorem okS {ts : List Cty} {ps : List PV} (h : okPVs (.str :: ts) ps) : ∃ n r, ps = .str n :: r ∧ n.length ≤ reachBytes ∧ okPVs ts r := by
  obtain ⟨_, r, rfl, ⟨n, rfl, h1⟩, h2⟩ := h
  exact ⟨n, r, rfl, h1, h2⟩
theorem okB {ts : List Cty} {ps : List PV} (h : okPVs (.bool :: ts) ps) : ∃ n r, ps = .bool n :: r ∧ True ∧ okPVs ts r := by
  obtain ⟨_, r, rfl, ⟨n, rfl⟩, h2⟩ := h
  exact ⟨n, r, rfl, trivial, h2⟩
theorem okSl {u : List Cty} {b : Nat} {ts : List Cty} {ps : List PV} (h : okPVs (.sl u b :: ts) ps) : ∃ n r, ps = .sl n :: r ∧ (n.length * b ≤ reachBytes ∧ n.length ≤ maxLen ∧ ∀ e ∈ n, okPVs u e) ∧ okPVs ts r := by
  obtain ⟨_, r, rfl, ⟨n, rfl, h1⟩, h2⟩ := h
  exact ⟨n, r, rfl, h1, h2⟩
theorem okPr {Q : List PV → Prop} {b : Nat} {ts : List Cty} {ps : List PV} (h : okPVs (.pr Q b :: ts) ps) : ∃ n r, ps = .sl n :: r ∧ (n.length * b ≤ reachBytes ∧ n.length ≤ maxLen ∧ ∀ e ∈ n, Q e) ∧ okPVs ts r := by
  obtain ⟨_, r, rfl, ⟨n, rfl, h1⟩, h2⟩ := h
  exact ⟨n, r, rfl, h1, h2⟩
theorem okNil {ps : List PV} (h : okPVs [] ps) : ps = [] := h
end Go.LS
