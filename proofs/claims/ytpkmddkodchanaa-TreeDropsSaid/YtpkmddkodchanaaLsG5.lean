/- A small semantics of loaded Go code that the kernel can run, part 5. -/
import Derived.Test.YtpkmddkodchanaaLsG4
import Derived.SizedLaws
import Derived.OpenShut
import Derived.Carry
import Derived.ChangeShapes
import Derived.Lib.Bytealg
import Derived.Test.YtpkmddkodchanaaLsG1
set_option linter.unusedVariables false
set_option linter.unusedSimpArgs false
namespace Go.LS
inductive Cty where
 | bool
 | int (k : IntKind)
 | str
 | sl (ts : List Cty) (bytes : Nat)
 | pr (Q : List PV → Prop) (bytes : Nat)
mutual
def Rc : Cty → PV → Prop
 | .bool, p => ∃ b, p = .bool b
 | .int k, p => ∃ n, p = .int k n ∧ k.min ≤ n ∧ n ≤ k.max
 | .str, p => ∃ s, p = .str s ∧ s.length ≤ reachBytes
 | .sl ts bytes, p => ∃ es : List (List PV), p = .sl es ∧ es.length * bytes ≤ reachBytes ∧ es.length ≤ maxLen ∧ ∀ e ∈ es, Bk ts e
 | .pr Q bytes, p => ∃ es : List (List PV), p = .sl es ∧ es.length * bytes ≤ reachBytes ∧ es.length ≤ maxLen ∧ ∀ e ∈ es, Q e
def Bk : List Cty → List PV → Prop
 | [], ps => ps = []
 | t :: ts, ps => ∃ p r, ps = p :: r ∧ Rc t p ∧ Bk ts r
end
def Km (P : Program) (rc : TypeId → Option (List Cty)) : Nat → List Field → Option (List Cty)
 | _, [] => some []
 | off, f :: r => match rc f.type with
  | some ts => if f.offset = off ∧ ts.length = P.cellsOf f.type then
    match Km P rc (off + ts.length) r with
    | some l => some (ts ++ l)
    | none => none
   else none
  | none => none
def tyT (P : Program) (cut : List TypeId) (Q : TypeId → List PV → Prop) : Nat → TypeId → Option (List Cty)
 | 0, _ => none
 | n + 1, t => match P.underlying t with
  | some .bool => some [.bool]
  | some (.int k) => some [.int k]
  | some .string => some [.str]
  | some (.slice e) => if e ∈ cut then some [.pr (Q e) (P.bytesOf e)] else match tyT P cut Q n e with
   | some ts => if ts.length = P.cellsOf e ∧ 0 < ts.length then some [.sl ts (P.bytesOf e)] else none
   | none => none
  | some (.struct fs) => match Km P (tyT P cut Q n) 0 fs.toList with
   | some ts => if ts.length = P.cellsOf t then some ts else none
   | none => none
  | some (.array m e) => match tyT P cut Q n e with
   | some ts => if m * ts.length = P.cellsOf t ∧ ts.length = P.cellsOf e then some (List.replicate m ts).flatten else none
   | none => none
  | _ => none
def RecOk (P : Program) (cut : List TypeId) (N : Nat) : Nat → TypeId → List PV → Prop
 | 0, _, _ => False
 | k + 1, t, ps => ∃ ts, tyT P cut (RecOk P cut N k) N t = some ts ∧ Bk ts ps
def Sw (Q R : TypeId → List PV → Prop) : Prop := ∀ e x, Q e x → R e x
def Cle (ts us : List Cty) : Prop := us.length = ts.length ∧ ∀ ps, Bk ts ps → Bk us ps
theorem Cle.append {a b c d : List Cty} (h : Cle a b) (k : Cle c d) : Cle (a ++ c) (b ++ d) := by
 refine ⟨by simp [h.1, k.1], ?_⟩
 have : ∀ (a b : List Cty), b.length = a.length → (∀ ps, Bk a ps → Bk b ps) → ∀ ps, Bk (a ++ c) ps → Bk (b ++ d) ps := by
  intro a b hl hab ps hp
  obtain ⟨p1, p2, rfl, h1, h2⟩ := split a c ps hp
  exact join b d p1 p2 (hab _ h1) (k.2 _ h2)
 exact this a b h.1 h.2
where
 split : ∀ (a c : List Cty) (ps : List PV), Bk (a ++ c) ps → ∃ p1 p2, ps = p1 ++ p2 ∧ Bk a p1 ∧ Bk c p2
  | [], c, ps, h => ⟨[], ps, rfl, by simp [Bk], h⟩
  | t :: a, c, ps, h => by
   simp only [List.cons_append, Bk] at h
   obtain ⟨p, r, rfl, h1, h2⟩ := h
   obtain ⟨p1, p2, rfl, h3, h4⟩ := split a c r h2
   exact ⟨p :: p1, p2, rfl, by simp only [Bk]; exact ⟨p, p1, rfl, h1, h3⟩, h4⟩
 join : ∀ (a c : List Cty) (p1 p2 : List PV), Bk a p1 → Bk c p2 → Bk (a ++ c) (p1 ++ p2)
  | [], c, p1, p2, h, k => by simp only [Bk] at h; subst h; exact k
  | t :: a, c, p1, p2, h, k => by
   simp only [Bk] at h
   obtain ⟨p, r, rfl, h1, h2⟩ := h
   simp only [List.cons_append, Bk]
   exact ⟨p, r ++ p2, rfl, h1, join a c r p2 h2 k⟩
theorem Mq {P : Program} {rc rd : TypeId → Option (List Cty)} (h : ∀ t ts, rc t = some ts → ∃ us, rd t = some us ∧ Cle ts us) : ∀ {fs : List Field} {off : Nat} {ts : List Cty}, Km P rc off fs = some ts → ∃ us, Km P rd off fs = some us ∧ Cle ts us
 | [], off, ts, he => by simp only [Km] at he; cases he; exact ⟨[], rfl, rfl, fun _ h => h⟩
 | f :: fs, off, ts, he => by
  simp only [Km] at he
  split at he
  ·rename_i t1 h1
   split at he
   ·rename_i hc
    split at he
    ·rename_i l h2
     cases he
     obtain ⟨u1, g1, g2⟩ := h _ _ h1
     obtain ⟨u2, k1, k2⟩ := Mq h h2
     refine ⟨u1 ++ u2, ?_, g2.append k2⟩
     simp only [Km, g1]
     rw [if_pos ⟨hc.1, by rw [g2.1]; exact hc.2⟩, g2.1, k1]
    ·cases he
   ·cases he
  ·cases he
theorem Cle.rep {a b : List Cty} (h : Cle a b) : ∀ m, Cle (List.replicate m a).flatten (List.replicate m b).flatten
 | 0 => ⟨rfl, fun _ h => h⟩
 | m + 1 => by rw [List.replicate_succ, List.replicate_succ, List.flatten_cons, List.flatten_cons]; exact h.append (h.rep m)
theorem Fh {P : Program} {cut : List TypeId} {Q R : TypeId → List PV → Prop} (hQ : Sw Q R) : ∀ {n : Nat} {t : TypeId} {ts : List Cty}, tyT P cut Q n t = some ts → ∃ us, tyT P cut R n t = some us ∧ Cle ts us
 | 0, t, ts, h => by simp [tyT] at h
 | n + 1, t, ts, h => by
  simp only [tyT] at h ⊢
  split at h
  ·cases h; exact ⟨_, rfl, rfl, fun _ h => h⟩
  ·cases h; exact ⟨_, rfl, rfl, fun _ h => h⟩
  ·cases h; exact ⟨_, rfl, rfl, fun _ h => h⟩
  ·rename_i e hu
   split at h
   ·rename_i hc
    cases h
    rw [if_pos hc]
    refine ⟨_, rfl, rfl, fun ps hp => ?_⟩
    simp only [Bk, Rc] at hp ⊢
    obtain ⟨p, r, rfl, ⟨es, rfl, a1, a2, a3⟩, h2⟩ := hp
    exact ⟨_, _, rfl, ⟨es, rfl, a1, a2, fun x hx => hQ _ _ (a3 x hx)⟩, h2⟩
   ·rename_i hc
    rw [if_neg hc]
    split at h
    ·rename_i us hus
     split at h
     ·rename_i hl
      cases h
      obtain ⟨vs, g1, g2⟩ := Fh hQ hus
      simp only [g1]
      rw [if_pos ⟨by rw [g2.1]; exact hl.1, by rw [g2.1]; exact hl.2⟩]
      refine ⟨_, rfl, rfl, fun ps hp => ?_⟩
      simp only [Bk, Rc] at hp ⊢
      obtain ⟨p, r, rfl, ⟨es, rfl, a1, a2, a3⟩, h2⟩ := hp
      exact ⟨_, _, rfl, ⟨es, rfl, a1, a2, fun x hx => g2.2 _ (a3 x hx)⟩, h2⟩
     ·cases h
    ·cases h
  ·split at h
   ·rename_i us hus
    split at h
    ·rename_i hl
     cases h
     obtain ⟨vs, g1, g2⟩ := Mq (fun t ts h => Fh hQ h) hus
     simp only [g1]
     rw [if_pos (by rw [g2.1]; exact hl)]
     exact ⟨_, rfl, g2⟩
    ·cases h
   ·cases h
  ·rename_i m e hu
   split at h
   ·rename_i us hus
    split at h
    ·rename_i hl
     cases h
     obtain ⟨vs, g1, g2⟩ := Fh hQ hus
     simp only [g1]
     rw [if_pos ⟨by rw [g2.1]; exact hl.1, by rw [g2.1]; exact hl.2⟩]
     exact ⟨_, rfl, g2.rep m⟩
    ·cases h
   ·cases h
  ·cases h
theorem RecOk.mono {P : Program} {cut : List TypeId} {N : Nat} : ∀ k, Sw (RecOk P cut N k) (RecOk P cut N (k + 1))
 | 0, e, x, h => h.elim
 | k + 1, e, x, h => by
  obtain ⟨ts, h1, h2⟩ := h
  obtain ⟨us, g1, g2⟩ := Fh (RecOk.mono k) h1
  exact ⟨us, g1, g2.2 _ h2⟩
abbrev Dj (w : World) : Nat → Nat → Option Value := fun b o => w.cell? ⟨b, o, none⟩
def CellsOk (F : Nat → Nat → Option Value) (ts : List Cty) (cs : List Value) (ps : List PV) : Prop :=
 cs.length = ps.length ∧ Bk ts ps ∧ ∀ (i : Nat) p, ps[i]? = some p → ∃ u, cs[i]? = some u ∧ VP F p u
theorem Iw : ∀ {ts us : List Cty} {ps qs : List PV}, Bk ts ps → Bk us qs → Bk (ts ++ us) (ps ++ qs)
 | [], us, ps, qs, h, k => by simp only [Bk] at h; subst h; simpa using k
 | t :: ts, us, ps, qs, h, k => by
  simp only [Bk] at h
  obtain ⟨p, r, rfl, h1, h2⟩ := h
  simp only [List.cons_append, Bk]
  exact ⟨p, r ++ qs, rfl, h1, Iw h2 k⟩
theorem Fs : ∀ {ts : List Cty} {ps : List PV}, Bk ts ps → ps.length = ts.length
 | [], ps, h => by simp only [Bk] at h; subst h; rfl
 | t :: ts, ps, h => by
  simp only [Bk] at h
  obtain ⟨p, r, rfl, h1, h2⟩ := h
  simp [Fs h2]
theorem CellsOk.append {F : Nat → Nat → Option Value} {ts us : List Cty} {cs ds : List Value} {ps qs : List PV} (h : CellsOk F ts cs ps) (k : CellsOk F us ds qs) : CellsOk F (ts ++ us) (cs ++ ds) (ps ++ qs) := by
 refine ⟨by simp [h.1, k.1], Iw h.2.1 k.2.1, fun i p hi => ?_⟩
 by_cases hlt : i < ps.length
 ·rw [List.getElem?_append_left hlt] at hi
  rw [List.getElem?_append_left (by rw [h.1]; exact hlt)]
  exact h.2.2 i p hi
 ·rw [List.getElem?_append_right (by omega)] at hi
  rw [List.getElem?_append_right (by rw [h.1]; omega), h.1]
  exact k.2.2 _ p hi
theorem CellsOk.one {F : Nat → Nat → Option Value} {t : Cty} {p : PV} {u : Value} (h : Rc t p) (k : VP F p u) : CellsOk F [t] [u] [p] := by
 refine ⟨rfl, ?_, fun i q hi => ?_⟩
 ·simp only [Bk]; exact ⟨p, [], rfl, h, rfl⟩
 ·cases i with
  | zero => simp at hi; subst hi; exact ⟨u, rfl, k⟩
  | succ i => simp at hi
section
variable {H : Type} {enc : TypeId × Value → H} {P : Program} {W : World}
theorem Gj {e : TypeId} : ∀ {ds : List (DataW H)} {d : DataW H} {x : Nat}, d ∈ ds → x ∈ d.weights P e → x ∈ DataW.weightsAll P e ds
 | [], d, x, hd, _ => by cases hd
 | y :: r, d, x, hd, hx => by
  simp only [DataW.weightsAll, List.mem_append]
  rcases List.mem_cons.1 hd with rfl | hd
  ·exact .inl hx
  ·exact .inr (Gj hd hx)
theorem Mr {n : Nat} {rc : TypeId → Option (List Cty)}
  (ih : ∀ t cs d ps ts, DataW.trod enc P W 0 (fun _ => true) true n t cs = some (d, ps) → rc t = some ts → (∀ x ∈ d.weights P t, x ≤ reachBytes) → ∃ pv, CellsOk (Dj W) ts cs pv) :
  ∀ (fs : List Field) (off : Nat) (cs : List Value) (xs : List (DataW H × List MemPlace)) (ts : List Cty), Km P rc off fs = some ts → xs.length = fs.length →
   (∀ (i : Nat) f, fs[i]? = some f → DataW.trod enc P W 0 (fun _ => true) true n f.type ((cs.drop (f.offset - off)).take (P.cellsOf f.type)) = xs[i]?) →
   (∀ x ∈ DataW.weightsEach P (fs.map (·.type)) (xs.map (·.1)), x ≤ reachBytes) → cs.length = ts.length → ∃ pv, CellsOk (Dj W) ts cs pv
 | [], off, cs, xs, ts, ht, _, _, _, hl => by
  simp only [Km] at ht; cases ht
  simp at hl
  subst hl
  exact ⟨[], rfl, rfl, by simp⟩
 | f :: fs, off, cs, xs, ts, ht, hx, hg, hw, hl => by
  simp only [Km] at ht
  split at ht
  ·rename_i ts1 h1
   split at ht
   ·rename_i hc
    split at ht
    ·rename_i l h2
     cases ht
     cases xs with
     | nil => simp at hx
     | cons x xs =>
      have g0 := hg 0 f rfl
      rw [hc.1, Nat.sub_self] at g0
      simp only [List.drop_zero, List.getElem?_cons_zero] at g0
      simp only [List.map_cons, DataW.weightsEach, List.mem_append] at hw
      obtain ⟨pv1, c1⟩ := ih _ _ x.1 x.2 _ g0 h1 (fun y hy => hw y (.inl hy))
      rw [List.length_append] at hl
      have hd : (cs.drop ts1.length).length = l.length := by simp [hl]
      obtain ⟨pv2, c2⟩ := Mr ih fs (off + ts1.length) (cs.drop ts1.length) xs l h2 (by simpa using hx) (fun i f' hf => by
       have := hg (i + 1) f' (by simpa using hf)
       simp only [List.getElem?_cons_succ] at this
       rw [← this, List.drop_drop]
       have hle : off + ts1.length ≤ f'.offset := tyFs_le h2 i f' hf
       congr 3
       omega) (fun y hy => hw y (.inr hy)) hd
      have e : cs = (cs.take (P.cellsOf f.type)) ++ cs.drop ts1.length := by rw [← hc.2, List.take_append_drop]
      rw [e]
      exact ⟨pv1 ++ pv2, c1.append c2⟩
    ·cases ht
   ·cases ht
  ·cases ht
where
 tyFs_le {rc : TypeId → Option (List Cty)} : ∀ {fs : List Field} {off : Nat} {ts : List Cty}, Km P rc off fs = some ts → ∀ (i : Nat) f, fs[i]? = some f → off ≤ f.offset
 | [], _, _, _, i, f, hf => by simp at hf
 | g :: fs, off, ts, h, i, f, hf => by
  simp only [Km] at h
  split at h
  ·rename_i ts1 h1
   split at h
   ·rename_i hc
    split at h
    ·rename_i l h2
     cases i with
     | zero => simp at hf; subst hf; omega
     | succ i => have := tyFs_le h2 i f (by simpa using hf); omega
    ·cases h
   ·cases h
  ·cases h
theorem Sx {n : Nat} {e : TypeId} {ts : List Cty}
  (ih : ∀ cs d ps, DataW.trod enc P W 0 (fun _ => true) true n e cs = some (d, ps) → (∀ x ∈ d.weights P e, x ≤ reachBytes) → ∃ pv, CellsOk (Dj W) ts cs pv) (hc : ts.length = P.cellsOf e) :
  ∀ (m : Nat) (cs : List Value) (xs : List (DataW H × List MemPlace)), xs.length = m → cs.length = m * ts.length →
   (∀ i, i < m → DataW.trod enc P W 0 (fun _ => true) true n e ((cs.drop (i * P.cellsOf e)).take (P.cellsOf e)) = xs[i]?) →
   (∀ x ∈ DataW.weightsAll P e (xs.map (·.1)), x ≤ reachBytes) → ∃ pv, CellsOk (Dj W) (List.replicate m ts).flatten cs pv
 | 0, cs, xs, hx, hl, _, _ => by
  simp at hl
  subst hl
  exact ⟨[], rfl, rfl, by simp⟩
 | m + 1, cs, xs, hx, hl, hg, hw => by
  cases xs with
  | nil => simp at hx
  | cons x xs =>
   have g0 := hg 0 (by omega)
   simp only [Nat.zero_mul, List.drop_zero, List.getElem?_cons_zero] at g0
   simp only [List.map_cons, DataW.weightsAll, List.mem_append] at hw
   obtain ⟨pv1, c1⟩ := ih _ x.1 x.2 g0 (fun y hy => hw y (.inl hy))
   obtain ⟨pv2, c2⟩ := Sx ih hc m (cs.drop ts.length) xs (by simpa using hx) (by rw [List.length_drop, hl, Nat.add_mul]; omega) (fun i hi => by
    have := hg (i + 1) (by omega)
    simp only [List.getElem?_cons_succ] at this
    rw [← this, List.drop_drop]
    congr 3
    rw [Nat.add_mul, hc]; omega) (fun y hy => hw y (.inr hy))
   have e1 : cs = (cs.take (P.cellsOf e)) ++ cs.drop ts.length := by rw [← hc, List.take_append_drop]
   rw [e1, List.replicate_succ, List.flatten_cons]
   exact ⟨pv1 ++ pv2, c1.append c2⟩
theorem J5 {α : Type} {R : Nat → α → Prop} : ∀ (n : Nat), (∀ i, i < n → ∃ a, R i a) → ∃ l : List α, l.length = n ∧ ∀ i a, l[i]? = some a → R i a
 | 0, _ => ⟨[], rfl, by simp⟩
 | n + 1, h => by
  obtain ⟨l, h1, h2⟩ := J5 n (fun i hi => h i (by omega))
  obtain ⟨a, ha⟩ := h n (by omega)
  refine ⟨l ++ [a], by simp [h1], fun i b hb => ?_⟩
  rcases Au hb with ⟨_, hb⟩ | ⟨rfl, rfl⟩
  ·exact h2 i b hb
  ·rw [h1]; exact ha
theorem Uv {cut : List TypeId} {N : Nat} (hcut : ∀ e ∈ cut, ∀ Q, ∃ ts, tyT P cut Q N e = some ts ∧ ts.length = P.cellsOf e ∧ 0 < ts.length) : ∀ (fuel : Nat) (Q : TypeId → List PV → Prop) (hQ : Sw (RecOk P cut N fuel) Q) (n : Nat) (t : TypeId) (cs : List Value) (d : DataW H) (ps : List MemPlace) (ts : List Cty),
  DataW.trod enc P W 0 (fun _ => true) true fuel t cs = some (d, ps) → tyT P cut Q n t = some ts → (∀ x ∈ d.weights P t, x ≤ reachBytes) → ∃ pv, CellsOk (Dj W) ts cs pv := by
 intro fuel
 induction fuel with
 | zero => intro Q hQ n t cs d ps ts h; simp [DataW.trod] at h
 | succ fuel ih0 =>
  intro Q hQ n t cs d ps ts h ht hw
  have ih := ih0 Q (fun e x hx => hQ e x (RecOk.mono fuel e x hx))
  cases n with
  | zero => simp [tyT] at ht
  | succ n =>
   simp only [tyT] at ht
   split at ht
   ·rename_i hu
    cases ht
    obtain ⟨b, rfl, e⟩ := DataW.trod_bool hu h
    exact ⟨[.bool b], .one ⟨b, rfl⟩ (.bool b)⟩
   ·rename_i k hu
    cases ht
    obtain ⟨m, rfl, e, hwf⟩ := DataW.trod_int hu h
    refine ⟨[.int k m], .one ⟨m, rfl, ?_⟩ (.int k m)⟩
    simpa [Lit.wf] using hwf
   ·rename_i hu
    cases ht
    obtain ⟨s, rfl, e, hwf⟩ := DataW.trod_string hu h
    cases e
    have := hw s.data.toList.length (by simp [DataW.weights])
    exact ⟨[.str s.data.toList], .one ⟨_, rfl, this⟩ (by have := VP.str (F := Dj W) s.data.toList; simpa using this)⟩
   ·rename_i e hu
    have slc : ∀ (us : List Cty) (c : Cty), us.length = P.cellsOf e → 0 < us.length → (∀ es : List (List PV), es.length * P.bytesOf e ≤ reachBytes → es.length ≤ maxLen → (∀ x ∈ es, Bk us x) → Rc c (.sl es)) →
      (∀ cs d ps, DataW.trod enc P W 0 (fun _ => true) true fuel e cs = some (d, ps) → (∀ x ∈ d.weights P e, x ≤ reachBytes) → ∃ pv, CellsOk (Dj W) us cs pv) → ∃ pv, CellsOk (Dj W) [c] cs pv := by
     intro us c hc1 hc2 hokc ihe
     rcases DataW.trod_slice hu h with ⟨rfl, _⟩ | ⟨a, len, cap, elems, rest, m, hm, rfl, hx, _, hlc, hcm, hel, hg, hsp, _⟩
     ·exact ⟨[.sl []], .one (hokc [] (by simp) (by simp) (by simp)) .nils⟩
     ·obtain rfl : m = fuel := by omega
      cases hx
      have hwl : (elems.length + rest.length) * P.bytesOf e ≤ reachBytes := hw _ (by simp [DataW.weights, hu])
      have each : ∀ i, i < len → ∃ pv : List PV, Bk us pv ∧ pv.length = us.length ∧ ∀ (j : Nat) p, pv[j]? = some p → ∃ u, W.cell? ((a.add (i * P.cellsOf e)).add j) = some u ∧ VP (Dj W) p u := by
       intro i hi
       have := hg i hi
       have hlt : i < elems.length := by omega
       rw [List.getElem?_eq_getElem hlt, Option.bind_eq_some_iff] at this
       obtain ⟨cs', h1, h2⟩ := this
       obtain ⟨pv, c1, c2, c3⟩ := ihe cs' elems[i].1 elems[i].2 (by rw [h2]) (fun x hx => hw x (by
        simp only [DataW.weights, hu, List.mem_cons, List.mem_append]
        exact .inr (.inl (Gj (List.mem_map.2 ⟨elems[i], List.getElem_mem _, rfl⟩) hx))))
       refine ⟨pv, c2, Fs c2, fun j p hj => ?_⟩
       obtain ⟨u, hu', hv⟩ := c3 j p hj
       refine ⟨u, ?_, hv⟩
       unfold World.cells? at h1
       split at h1
       ·have := mapM_some_get h1 j j (by
         have := (List.getElem?_eq_some_iff.1 hu').1
         have := mapM_some_length h1
         simp at this
         rw [List.getElem?_range (by omega)])
        rw [this]; exact hu'
       ·cases h1
      obtain ⟨es, e1, e2⟩ := J5 len each
      have hall : ∀ x ∈ es, Bk us x ∧ x.length = us.length := by
       intro x hx
       obtain ⟨i, hi⟩ := List.getElem?_of_mem hx
       exact ⟨(e2 i x hi).1, (e2 i x hi).2.1⟩
      have hok : Rc c (.sl es) := hokc es (Nat.le_trans (Nat.mul_le_mul_right _ (by omega)) hwl) (by omega) (fun x hx => (hall x hx).1)
      by_cases h0 : len = 0
      ·subst h0
       have : es = [] := List.eq_nil_of_length_eq_zero e1
       subst this
       exact ⟨[.sl []], .one hok (.sl0 a cap hcm)⟩
      ·have hspot : a.spot = none := by
        obtain ⟨x, hx⟩ : ∃ x, es[0]? = some x := ⟨es[0]'(by omega), by simp [show 0 < es.length by omega]⟩
        obtain ⟨_, hxl, hcell⟩ := e2 0 x hx
        obtain ⟨p, hp⟩ : ∃ p, x[0]? = some p := ⟨x[0]'(by omega), by simp [show 0 < x.length by omega]⟩
        obtain ⟨u, hu', _⟩ := hcell 0 p hp
        simp only [Nat.zero_mul, Addr.add, if_true] at hu'
        unfold World.cell? at hu'
        split at hu'
        ·split at hu'
         ·cases hu'
         ·rename_i hs; simpa using hs
        ·cases hu'
       obtain ⟨b, off, sp⟩ := a
       simp only at hspot
       subst hspot
       refine ⟨[.sl es], .one hok ?_⟩
       have key : ∀ i j p, at2 es i j = some p → ∃ u, Dj W b (off + i * us.length + j) = some u ∧ VP (Dj W) p u := by
        intro i j p hp
        unfold at2 at hp
        rw [Option.bind_eq_some_iff] at hp
        obtain ⟨x, hx, hj⟩ := hp
        obtain ⟨_, _, hcell⟩ := e2 i x hx
        obtain ⟨u, hu', hv⟩ := hcell j p hj
        refine ⟨u, ?_, hv⟩
        rw [Addr.add_lit, Addr.add_lit, ← hc1] at hu'
        exact hu'
       have := VP.mk (F := Dj W) (es := es) (size := us.length) (b := b) (off := off) (cap := cap) (by omega) hcm (fun x hx => (hall x hx).2) key
       rw [e1] at this
       exact this
    split at ht
    ·rename_i hcu
     cases ht
     obtain ⟨us, k1, k2, k3⟩ := hcut e hcu (RecOk P cut N fuel)
     refine slc us _ k2 k3 (fun es h1 h2 h3 => ⟨es, rfl, h1, h2, fun x hx => hQ e x ⟨us, k1, h3 x hx⟩⟩) (fun cs d ps h1 h2 => ih0 (RecOk P cut N fuel) (fun _ _ h => h) N e cs d ps us h1 k1 h2)
    ·split at ht
     ·rename_i us hus
      split at ht
      ·rename_i hc
       cases ht
       exact slc us _ hc.1 hc.2 (fun es h1 h2 h3 => ⟨es, rfl, h1, h2, h3⟩) (fun cs d ps h1 h2 => ih n e cs d ps us h1 hus h2)
      ·cases ht
     ·cases ht
   ·rename_i fs hu
    split at ht
    ·rename_i us hus
     split at ht
     ·rename_i hc
      rw [← Option.some.inj ht]
      obtain ⟨xs, m, hm, hx, hl, hxl, hg⟩ := DataW.trod_struct hu h
      obtain rfl : m = fuel := by omega
      cases hx
      refine Mr (fun t cs d ps ts h1 h2 h3 => ih n t cs d ps ts h1 h2 h3) fs.toList 0 cs xs us hus (by simp [hxl]) (fun i f hf => ?_) (fun x hx => hw x (by simp [DataW.weights, hu, hx])) (by rw [hl, hc])
      simpa using hg i f (by simpa using hf)
     ·cases ht
    ·cases ht
   ·rename_i m e hu
    split at ht
    ·rename_i us hus
     split at ht
     ·rename_i hc
      cases ht
      obtain ⟨xs, q, hq, hx, hl, hxl, hg⟩ := DataW.trod_array hu h
      obtain rfl : q = fuel := by omega
      cases hx
      exact Sx (fun cs d ps h1 h3 => ih n e cs d ps us h1 hus h3) hc.2 m cs xs hxl (by rw [hl, hc.1]) hg (fun x hx => hw x (by simp [DataW.weights, hu, hx]))
     ·cases ht
    ·cases ht
   ·cases ht
def Ms (agg : Bool) (ps : List PV) : LV := if agg then .agg (ps.map .p) else match ps with | [p] => .p p | _ => .und
def Ix (P : Program) (cut : List TypeId) (Q : TypeId → List PV → Prop) (n : Nat) : List TypeId → Option (List (Bool × List Cty))
 | [] => some []
 | t :: r => match P.underlying t, tyT P cut Q n t, Ix P cut Q n r with
  | some d, some ts, some l => some ((Hf d, ts) :: l)
  | _, _, _ => none
def OkArgs : List (Bool × List Cty) → List LV → Prop
 | [], l => l = []
 | (agg, ts) :: r, l => ∃ ps m, l = Ms agg ps :: m ∧ Bk ts ps ∧ OkArgs r m
theorem Uw {cut : List TypeId} {Q : TypeId → List PV → Prop} {n : Nat} {t : TypeId} {d : TypeDesc} {ts : List Cty} (hd : P.underlying t = some d) (ha : Hf d = false) (h : tyT P cut Q n t = some ts) : ts.length = 1 := by
 cases n with
 | zero => simp [tyT] at h
 | succ n =>
  simp only [tyT, hd] at h
  cases d <;> simp only [Hf, Bool.true_eq_false] at ha <;> first | (cases h; rfl) | skip
  all_goals
   simp only at h
   first
    | (split at h
       ·cases h; rfl
       ·split at h
        ·split at h
         ·cases h; rfl
         ·cases h
        ·cases h)
    | (split at h
       ·split at h
        ·cases h; rfl
        ·cases h
       ·cases h)
    | cases h
theorem Mt {cut : List TypeId} {Q R : TypeId → List PV → Prop} (hQ : Sw Q R) {n : Nat} : ∀ {ts : List TypeId} {a b : List (Bool × List Cty)}, Ix P cut Q n ts = some a → Ix P cut R n ts = some b → ∀ vs, OkArgs a vs → OkArgs b vs
 | [], a, b, h, k, vs, hv => by simp only [Ix] at h k; cases h; cases k; exact hv
 | t :: r, a, b, h, k, vs, hv => by
  simp only [Ix] at h k
  split at h
  ·rename_i d ts l h1 h2 h3
   cases h
   obtain ⟨us, g1, g2⟩ := Fh hQ h2
   split at k
   ·rename_i d' ts' l' e1 e2 e3
    rw [h1] at e1; rw [g1] at e2
    cases e1; cases e2; cases k
    obtain ⟨ps, m, rfl, a1, a2⟩ := hv
    exact ⟨ps, m, rfl, g2.2 _ a1, Mt hQ h3 e3 _ a2⟩
   ·cases k
  ·cases h
theorem RecOk.le {cut : List TypeId} {N : Nat} : ∀ {k m : Nat}, k ≤ m → Sw (RecOk P cut N k) (RecOk P cut N m)
 | k, m, h => by
  induction h with
  | refl => exact fun _ _ h => h
  | step _ ih => exact fun e x hx => RecOk.mono _ e x (ih e x hx)
theorem Qm {cut : List TypeId} {N : Nat} (hcut : ∀ e ∈ cut, ∀ Q, ∃ ts, tyT P cut Q N e = some ts ∧ ts.length = P.cellsOf e ∧ 0 < ts.length) {n : Nat} {G : Gh} (hG : G.F = Dj W) : ∀ {ts : List TypeId} {vs : List Value} {ds gs : List (DataW H)} {us : List TypeId} {ps : List MemPlace} {tys : Nat → List (Bool × List Cty)}, DataW.TrodAll enc P W 0 (fun _ => true) true ts vs ds ps → (∀ k, Ix P cut (RecOk P cut N k) n ts = some (tys k)) →
  (∀ (j : Nat) t v, ts[j]? = some t → vs[j]? = some v → Value.okWide P W .any 0 t v ∨ ∃ base, Value.okWide P W .any base t v) → (∀ x ∈ DataW.weightsEach P (ts ++ us) (ds ++ gs), x ≤ reachBytes) →
  ∃ k, ∃ args, OkArgs (tys k) args ∧ args.length = vs.length ∧ ∀ (i : Nat) x u, args[i]? = some x → vs[i]? = some u → VL G x u
 | [], vs, ds, gs, us, ps, tys, h, ht, _, _ => by
  have := ht 0
  simp only [Ix, Option.some.injEq] at this
  obtain ⟨rfl, _, _⟩ := ChangeShapes.trodAll_nil h
  exact ⟨0, [], by rw [← this]; rfl, rfl, by simp⟩
 | t :: ts, vs, ds, gs, us, ps, tys, h, ht, hok, hw => by
  have hk : ∀ k, ∃ dd tt ll, P.underlying t = some dd ∧ tyT P cut (RecOk P cut N k) n t = some tt ∧ Ix P cut (RecOk P cut N k) n ts = some ll ∧ tys k = (Hf dd, tt) :: ll := by
   intro k
   have := ht k
   simp only [Ix] at this
   split at this
   ·rename_i dd tt ll h1 h2 h3
    exact ⟨dd, tt, ll, h1, h2, h3, (Option.some.inj this).symm⟩
   ·cases this
  have hl' : ∀ k, Ix P cut (RecOk P cut N k) n ts = some ((Ix P cut (RecOk P cut N k) n ts).getD []) := by
   intro k
   obtain ⟨dd, tt, ll, _, _, h3, _⟩ := hk k
   rw [h3]; rfl
  ·obtain ⟨v, vs', d, ds', p, q, rfl, rfl, rfl, ⟨fuel, h1⟩, h2⟩ := ChangeShapes.trodAll_cons h
   simp only [List.cons_append, DataW.weightsEach, List.mem_append] at hw
   obtain ⟨dd, tt, ll0, hd, htt, _, _⟩ := hk fuel
   obtain ⟨pv, c1, c2, c3⟩ := Uv hcut fuel _ (fun _ _ h => h) n t _ d p tt h1 htt (fun x hx => hw x (.inl hx))
   obtain ⟨k', args, a1, a2, a3⟩ := Qm hcut (n := n) hG h2 (tys := fun k => (Ix P cut (RecOk P cut N k) n ts).getD []) hl' (fun j t v hj hv => hok (j + 1) t v (by simpa using hj) (by simpa using hv)) (fun x hx => hw x (.inr hx))
   have hv : VL G (Ms (Hf dd) pv) v := by
    have hlen := Fs c2
    obtain ⟨base, hk⟩ : ∃ base, Value.okWide P W .any base t v := by
     rcases hok 0 t v rfl rfl with h | h
     ·exact ⟨0, h⟩
     ·exact h
    unfold Ms
    split
    ·rename_i ha
     have : ∃ arr, v = .agg arr := by
      unfold Value.okWide at hk
      rw [hd] at hk
      cases dd <;> simp [Hf] at ha
      all_goals exact ⟨_, hk.choose_spec.1⟩
     obtain ⟨arr, rfl⟩ := this
     simp only [Value.cells] at c1 c3
     refine .agg arr (by simpa using c1) (fun i u hu => ?_) (fun i x hx => ?_)
     ·have hlt : i < pv.length := by rw [← c1]; simpa using (Array.getElem?_eq_some_iff.1 hu).1
      obtain ⟨u', hu', hvp⟩ := c3 i pv[i] (by simp [hlt])
      rw [Array.getElem?_toList, hu] at hu'
      cases hu'
      exact hvp.one
     ·rw [List.getElem?_map] at hx
      cases hq : pv[i]? with
      | none => simp [hq] at hx
      | some y =>
       simp [hq] at hx; subst hx
       obtain ⟨u', hu', hvp⟩ := c3 i y hq
       rw [Array.getElem?_toList] at hu'
       rw [Array.getD_eq_getD_getElem?, hu']
       rw [← hG] at hvp
       exact .p hvp
    ·rename_i ha
     have h1 := Uw hd (by simpa using ha) htt
     have hna : ∀ arr, v ≠ .agg arr := by
      rintro arr rfl
      unfold Value.okWide at hk
      rw [hd] at hk
      cases dd <;> simp [Hf] at ha <;> simp [Cell.okWide, Cell.ok, hd] at hk
     obtain ⟨y, rfl⟩ := List.length_eq_one_iff.1 (hlen.trans h1)
     ·obtain ⟨u', hu', hvp⟩ := c3 0 y rfl
      have : v.cells = #[v] := by cases v <;> first | rfl | exact absurd rfl (hna _)
      rw [this] at hu'
      simp at hu'
      subst hu'
      rw [← hG] at hvp
      exact .p hvp
   obtain ⟨dd2, tt2, ll2, q1, q2, q3, q4⟩ := hk (max fuel k')
   have hdd : dd2 = dd := by rw [hd] at q1; exact (Option.some.inj q1).symm
   subst hdd
   obtain ⟨us2, g1, g2⟩ := Fh (RecOk.le (P := P) (cut := cut) (N := N) (Nat.le_max_left fuel k')) htt
   rw [q2] at g1
   cases g1
   have a1' := Mt (RecOk.le (P := P) (cut := cut) (N := N) (Nat.le_max_right fuel k')) (hl' k') q3 _ a1
   refine ⟨max fuel k', Ms (Hf dd2) pv :: args, by rw [q4]; exact ⟨pv, args, rfl, g2.2 _ c2, a1'⟩, by simp [a2], fun i x u hx hu => ?_⟩
   cases i with
   | zero => simp at hx hu; subst hx; subst hu; exact hv
   | succ i => exact a3 i x u (by simpa using hx) (by simpa using hu)
end
end Go.LS
namespace Go.LS
def gh0 (w : World) : Gh := ⟨Dj w, fun _ => none, fun _ _ => none⟩
theorem wr0 (w : World) : WR (gh0 w) [] w where
 fr _ _ _ h := h
 dom _ _ := ⟨rfl, fun _ => rfl⟩
 row o es h := by simp at h
 map o es h := by simp at h
 iter o s p h := by simp at h
 spare o n hw h := by simp at h
 uniq o o' b h := by simp [Owns] at h
 ownF o b h := by simp [Owns] at h
 kind o x h := by simp at h
theorem Ext0.below {G G' : Gh} {st' : List LObj} {w w' : World} (h : Ext0 G [] w G' st' w') : RowKit.Below w.heap.size w w' :=
 ⟨h.os, h.tape, h.output, h.hsz, fun k hk => h.unch k hk (fun o ho => by simp [Owns] at ho)⟩
theorem Hk {H : Type} {enc : TypeId × Value → H} {P : Program} (hl : laidOutB P = true) {W W' : World} (hb : RowKit.Below W.heap.size W W') :
  ∀ {ts : List TypeId} {vs : List Value} {ds : List (DataW H)} {ps : List MemPlace}, (∀ t ∈ ts, P.readableRec t = true ∧ t < P.types.size) → DataW.TrodAll enc P W 0 (fun _ => true) true ts vs ds ps →
   DataW.TrodAll enc P W' 0 (fun b => decide (b < W.heap.size)) true ts vs ds ps
 | [], vs, ds, ps, _, h => by
  obtain ⟨rfl, rfl, rfl⟩ := ChangeShapes.trodAll_nil h
  rfl
 | t :: ts, vs, ds, ps, ht, h => by
  obtain ⟨v, vs', d, ds', p, q, rfl, rfl, rfl, h1, h2⟩ := ChangeShapes.trodAll_cons h
  refine ⟨p, q, ?_, Hk hl hb (fun t hm => ht t (by simp [hm])) h2, rfl⟩
  exact RowKit.Below.trod hl (ht t (by simp)).1 (ht t (by simp)).2 h1 hb (fun x hx => by
   obtain ⟨m, hm⟩ := h1
   exact DataW.trod_lt m _ _ _ hm x hx)
theorem J6 {H : Type} {enc : TypeId × Value → H} {P : Program} {W : World} : ∀ {ts : List TypeId} {vs : List Value} {ds : List (DataW H)} {ps : List MemPlace}, DataW.TrodAll enc P W 0 (fun _ => true) true ts vs ds ps → ds.length = vs.length
 | [], vs, ds, ps, h => by
  obtain ⟨rfl, rfl, _⟩ := ChangeShapes.trodAll_nil h
  rfl
 | t :: ts, vs, ds, ps, h => by
  obtain ⟨v, vs', d, ds', p, q, rfl, rfl, rfl, _, h2⟩ := ChangeShapes.trodAll_cons h
  simp [J6 h2]
theorem Np {H : Type} {enc : TypeId × Value → H} {P : Program} {lp : A3} (hp : PR P lp) (hl : laidOutB P = true) {f : FuncId} {fn : Func} {s : ChangeSpec} {tb : TypeId} {cut : List TypeId} {N n : Nat} {tys : Nat → List (Bool × List Cty)}
  (hcut : ∀ e ∈ cut, ∀ Q, ∃ ts, tyT P cut Q N e = some ts ∧ ts.length = P.cellsOf e ∧ 0 < ts.length)
  (hps : fn.params.toList.all (fun t => P.readableRec t && decide (t < P.types.size)) = true) (hres : fn.resultTypes = #[tb]) (htb : P.underlying tb = some .bool)
  (ht : ∀ k, Ix P cut (RecOk P cut N k) n fn.params.toList = some (tys k)) (hv : s.vars = []) (hsz : ∀ k, ∀ vs : List LV, OkArgs (tys k) vs → vs.length = fn.params.size)
  (hs : ∀ ds : List (DataW H), ds.length = fn.params.size → s.fn H ds = { results := [.lit (.bool true)], args := ds, vars := [] })
  (W : World) (base : Nat) (args : Array Value) (ds gs : List (DataW H)) (before : List MemPlace)
  (hrun : ∀ j vs, OkArgs (tys j) vs → ∃ k st', Cq lp k f vs [] = some (.p (.bool true), st'))
  (hval : ∀ (j : Nat) t v, fn.params[j]? = some t → args[j]? = some v → Value.okWide P W .any base t v)
  (hW : DataW.Whole enc P fn.params.toList s.vars false W args.toList ds gs before)
  (hw : (DataW.weightsEach P (fn.params.toList ++ s.plain.varTypes P) (ds ++ gs)).all (· ≤ reachBytes) = true) :
  Calls P f args W fun e W' => ∃ v, e = .returned v ∧ s.post enc P fn false true false false W args v W' := by
 have hW' := hW
 obtain ⟨p, q, hA, hV, rfl, hfz, _⟩ := hW
 rw [hv] at hV
 obtain ⟨rfl, rfl⟩ := ChangeShapes.trodVars_none hV
 have hwx : ∀ x ∈ DataW.weightsEach P (fn.params.toList ++ s.plain.varTypes P) (ds ++ []), x ≤ reachBytes := fun x hx => by simpa using List.all_eq_true.1 hw x hx
 obtain ⟨j0, vs, a1, a2, a3⟩ := Qm (G := gh0 W) hcut rfl hA ht (fun j t v hj hv' => .inr ⟨base, hval j t v (by simpa using hj) (by simpa using hv')⟩) hwx
 obtain ⟨k, st', hr⟩ := hrun j0 vs a1
 obtain ⟨_, hcall⟩ := Pr hp k f vs [] _ _ hr
 refine (hcall (gh0 W) W args (wr0 W) ⟨by simpa using a2.symm, fun i x hx => ?_⟩).mono ?_
 ·have hlt : i < args.size := by have := (List.getElem?_eq_some_iff.1 hx).1; rw [a2] at this; simpa using this
  have := a3 i x args[i] hx (by simp [hlt])
  rw [Array.getD_eq_getD_getElem?, Array.getElem?_eq_getElem hlt]
  exact this
 ·rintro e W' ⟨u, G', rfl, _, hu, hx⟩
  have hub := hu.bool_inv
  subst hub
  have bel := hx.below
  have hdl : ds.length = fn.params.size := by
   rw [← hsz j0 vs a1, a2]
   exact J6 hA
  refine ⟨_, rfl, ds, [], _, [], p, [], hW', ?_, ?_, ?_, bel.frame _, fun h => by cases h⟩
  ·rw [List.append_nil, hs ds hdl, hres]
   exact ChangeShapes.trodAll_mk1 ⟨1, by simp [DataW.trod, htb, Value.cells]⟩
  ·rw [List.append_nil, hs ds hdl]
   refine Hk hl bel (fun t hm => ?_) hA
   have := List.all_eq_true.1 hps t hm
   simpa using this
  ·rw [List.append_nil, hs ds hdl, hv]
   rfl
end Go.LS
namespace Go.LS
theorem OkArgs.length : ∀ {tys : List (Bool × List Cty)} {vs : List LV}, OkArgs tys vs → vs.length = tys.length
 | [], vs, h => by cases h; rfl
 | (a, t) :: r, vs, h => by
  obtain ⟨ps, m, rfl, _, h2⟩ := h
  simp [h2.length]
end Go.LS
set_option linter.unusedVariables false
namespace Go.LS
def lpS (tab : List (Option LFn)) (weak wres : List Nat) (sm : List (Nat × (List LV → List LObj → Option (LV × List LObj)))) : A3 :=
 { fns := fun f => match tab[f]? with | some x => x | none => none, summ := fun f => (sm.find? fun x => x.1 == f).map (·.2), weak := fun f => weak.contains f, wres := fun f => wres.contains f }
theorem prS {P : Program} (tab : List (Option LFn)) (weak wres : List Nat) (sm : List (Nat × (List LV → List LObj → Option (LV × List LObj)))) (hs : ∀ x ∈ sm, Nl P x.1 x.2) (h : AllFR P 0 tab) : PR P (lpS tab weak wres sm) where
 fns f lf hf := by
  simp only [lpS] at hf
  split at hf
  ·rename_i x hx
   subst hf
   have := h.get f lf hx
   simpa using this
  ·cases hf
 summ f g h := by
  simp only [lpS, Option.map_eq_some_iff] at h
  obtain ⟨⟨f', g'⟩, h1, rfl⟩ := h
  have h2 := List.find?_some h1
  simp only [beq_iff_eq] at h2
  subst h2
  exact hs _ (List.mem_of_find?_eq_some h1)
def Er (args : List LV) (st : List LObj) : Option (LV × List LObj) :=
 match args with
 | [.p (.str s), .p (.int .u8 c)] => some (.p (.int .i64 (Lib.indexByte s c.toNat.toUInt8)), st)
 | _ => none
theorem args2 {G : Gh} {p q : PV} {us : Array Value} (h : ArgsR G [.p p, .p q] us) : ∃ a b, us = #[a, b] ∧ VP G.F p a ∧ VP G.F q b := by
 have h1 := h.1
 simp only [List.length_cons, List.length_nil] at h1
 obtain ⟨l⟩ := us
 match l, h1 with
 | [a, b], _ =>
  have e1 := h.2 0 _ rfl
  have e2 := h.2 1 _ rfl
  refine ⟨a, b, rfl, ?_, ?_⟩
  ·cases e1; assumption
  ·cases e2; assumption
theorem Md {P : Program} {f : FuncId} (hp : D8 P f = true)
  (h : ∀ (s : ByteArray) (c : Int) (w : World), Calls P f #[.string s, .int .u8 c] w fun e w' => e = .returned (.int .i64 (Lib.indexByte s.data.toList c.toNat.toUInt8)) ∧ w' = w) : Nl P f Er := by
 refine ⟨hp, fun args st res st' hg G w us hw ha => ?_⟩
 unfold Er at hg
 split at hg
 ·rename_i s c
  cases hg
  obtain ⟨a, b, rfl, h1, h2⟩ := args2 ha
  cases h1
  cases h2
  refine (h _ c w).mono ?_
  rintro e w' ⟨rfl, rfl⟩
  exact ⟨_, G, rfl, hw, .p (.int _ _), (Ext.refl _ _ _).to0⟩
 ·cases hg
end Go.LS
set_option linter.unusedVariables false
set_option linter.unusedSimpArgs false
namespace Go.LS
abbrev Es (c c' : CallF) : Prop := ∀ f a s r, c f a s = some r → c' f a s = some r ∧ c'.weak f = c.weak f
theorem Ft {c c' : CallF} (h : Es c c') {f : FuncId} {args : List LV} {st : List LObj} {r : LV × List LObj} (hr : Bw c f args st = some r) : Bw c' f args st = some r := by
 unfold Bw at hr ⊢
 simp only at hr ⊢
 split at hr
 ·rename_i hcl
  split at hr
  ·rename_i v st' hc
   obtain ⟨h1, h2⟩ := h _ _ _ _ hc
   rw [h2, if_pos hcl, h1]
   exact hr
  ·cases hr
 ·cases hr
theorem J7 {c c' : CallF} (h : Es c c') : Es (Eh c) (Eh c') := by
 intro f a s r hr
 unfold Eh at hr ⊢
 simp only at hr ⊢
 split at hr
 ·rename_i v st' hc
  obtain ⟨h1, h2⟩ := h _ _ _ _ hc
  rw [h1]
  exact ⟨hr, h2⟩
 ·cases hr
theorem Gp {c c' : CallF} (h : Es c c') {t : List LV} {st : List LObj} {op : LOp} {r : LV × List LObj} (hr : Ae c t st op = some r) : Ae c' t st op = some r := by
 cases op
 case call f args => simp only [Ae] at hr ⊢; exact Ft h hr
 case callz f args => simp only [Ae] at hr ⊢; exact Ft (J7 h) hr
 case callv f args =>
  simp only [Ae] at hr ⊢
  split at hr
  ·exact Ft h hr
  ·cases hr
 all_goals exact hr
theorem Hv {c c' : CallF} (h : Es c c') {t : List LV} {st : List LObj} {o : Cs} {r : LV × List LObj} (hr : Bz c t st o = some r) : Bz c' t st o = some r := by
 unfold Bz at hr ⊢
 split at hr
 ·exact Gp h hr
 ·exact hr
 ·cases hr
theorem J8 {c c' : CallF} (h : Es c c') : ∀ {l : List Cs} {t : List LV} {st : List LObj} {r : List LV × List LObj}, E6 c l t st = some r → E6 c' l t st = some r
 | [], t, st, r, hr => hr
 | o :: l, t, st, r, hr => by
  simp only [E6] at hr ⊢
  split at hr
  ·rename_i v st' hs
   rw [Hv h hs]
   exact J8 h hr
  ·cases hr
theorem J9 {c c' : CallF} (h : Es c c') {st : List LObj} {held : List (DOp × List LV × LV)} (hr : E7 c st held = true) : E7 c' st held = true := by
 unfold E7 at hr ⊢
 rw [List.all_eq_true] at hr ⊢
 intro x hx
 have := hr x hx
 split at this
 ·rename_i v s hs
  rw [Hv h hs]
  exact this
 ·cases this
theorem D1 {c c' : CallF} (h : Es c c') : ∀ {l : List DOp} {held : List (DOp × List LV × LV)} {t : List LV} {st : List LObj} {r : List LV × List LObj}, Bu c l held t st = some r → Bu c' l held t st = some r
 | [], held, t, st, r, hr => hr
 | d :: l, held, t, st, r, hr => by
  simp only [Bu] at hr ⊢
  split at hr
  ·cases hr
  ·rename_i v st' hs
   rw [Hv h hs]
   simp only
   split at hr
   ·split at hr
    ·rename_i hp; rw [if_pos hp]; exact D1 h hr
    ·cases hr
   ·split at hr
    ·rename_i hp
     simp only [Bool.and_eq_true] at hp
     rw [if_pos (by simp [hp.1, J9 h hp.2])]; exact D1 h hr
    ·cases hr
   ·split at hr
    ·rename_i hp
     simp only [Bool.and_eq_true] at hp
     rw [if_pos (by simp only [Bool.and_eq_true]; exact ⟨hp.1, J9 h hp.2⟩)]; exact D1 h hr
    ·cases hr
theorem Jj (r : Cg × List LV × List LObj) : Dd (some r) (some r) = some r := by
 unfold Dd
 simp [LV.eqbs_refl, Ks]
theorem Az {c c' : CallF} (h : Es c c') {k : Nat} : ∀ {n m : Nat}, n ≤ m → ∀ {lc : Bd} {t : List LV} {st : List LObj} {r : Cg × List LV × List LObj}, Ay c k n lc t st = some r → Ay c' k m lc t st = some r
 | 0, m, _, lc, t, st, r, hr => by simp [Ay] at hr
 | n + 1, 0, hnm, lc, t, st, r, hr => by omega
 | n + 1, m + 1, hnm, lc, t, st, r, hr => by
  have hle : n ≤ m := by omega
  cases lc with
  | skip => exact hr
  | exit id mask => exact hr
  | ret mask => exact hr
  | fail => simp [Ay] at hr
  | region ops =>
   simp only [Ay] at hr ⊢
   split at hr
   ·rename_i t' st' hs
    rw [J8 h hs]; exact hr
   ·cases hr
  | drawn ops =>
   simp only [Ay] at hr ⊢
   split at hr
   ·rename_i t' st' hs
    rw [D1 h hs]; exact hr
   ·cases hr
  | seq a b =>
   have go : ∀ {la : Bd} {r}, Ct (Ay c k n la t st) (Ay c k n b) = some r → Ct (Ay c' k m la t st) (Ay c' k m b) = some r := by
    intro la r hr
    cases ha : Ay c k n la t st with
    | none => rw [ha] at hr; cases hr
    | some x =>
     rw [ha] at hr
     rw [Az h hle ha]
     obtain ⟨o, t', st'⟩ := x
     cases o with
     | normal => exact Az h hle hr
     | _ => exact hr
   simp only [Ay] at hr ⊢
   exact go hr
  | Dd x a b d =>
   have go : ∀ {la : Bd} {r}, Ct (Ay c k n la t st) (Ay c k n d) = some r → Ct (Ay c' k m la t st) (Ay c' k m d) = some r := by
    intro la r hr
    cases ha : Ay c k n la t st with
    | none => rw [ha] at hr; cases hr
    | some x =>
     rw [ha] at hr
     rw [Az h hle ha]
     obtain ⟨o, t', st'⟩ := x
     cases o with
     | normal => exact Az h hle hr
     | _ => exact hr
   simp only [Ay] at hr ⊢
   split at hr
   ·exact go hr
   ·exact go hr
   ·obtain ⟨e1, e2⟩ := Ia hr
    rw [go e1, go e2]
    exact Jj r
   ·cases hr
  | cond x a b =>
   simp only [Ay] at hr ⊢
   split at hr
   ·exact Az h hle hr
   ·exact Az h hle hr
   ·obtain ⟨e1, e2⟩ := Ia hr
    rw [Az h hle e1, Az h hle e2]
    exact Jj r
   ·cases hr
  | block id mask a =>
   simp only [Ay] at hr ⊢
   cases ha : Ay c k n a t st with
   | none => rw [ha] at hr; cases hr
   | some x =>
    rw [ha] at hr
    rw [Az h hle ha]
    exact hr
  | loop mask a =>
   simp only [Ay] at hr ⊢
   split at hr
   ·rename_i t0 st0 hg
    cases ha : Ay c k n a t0 st0 with
    | none => rw [ha] at hr; cases hr
    | some x =>
     rw [ha] at hr
     rw [Az h hle ha]
     obtain ⟨o, t', st'⟩ := x
     cases o with
     | normal => exact Az h hle hr
     | _ => exact hr
   ·cases hr
theorem Bg {lp : A3} : ∀ {n m : Nat}, n ≤ m → Es (Cq lp n) (Cq lp m)
 | 0, m, _ => fun f a s r h => by simp [Cq] at h
 | n + 1, 0, hnm => by omega
 | n + 1, m + 1, hnm => by
  intro f a s r h
  refine ⟨?_, rfl⟩
  simp only [Cq] at h ⊢
  split at h
  ·exact h
  ·split at h
   ·cases h
   ·rename_i lf hlf
    split at h
    ·cases h
    ·rename_i out t' st' hne hex
     rw [Az (Bg (show n ≤ m by omega)) (show n ≤ m by omega) hex]
     simp only
     cases out with
     | exit i => exact (hne i rfl).elim
     | _ => exact h
    ·cases h
def Runs (lp : A3) (f : FuncId) (args : List LV) (st : List LObj) (r : LV × List LObj) : Prop := ∃ n, Cq lp n f args st = some r
def Exec (lp : A3) (k : Nat) (c : Bd) (t : List LV) (st : List LObj) (r : Cg × List LV × List LObj) : Prop := ∃ n, Ay (Cq lp n) k n c t st = some r
theorem Exec.at {lp : A3} {k : Nat} {c : Bd} {t : List LV} {st : List LObj} {r : Cg × List LV × List LObj} (h : Exec lp k c t st r) : ∃ n, ∀ m, n ≤ m → Ay (Cq lp m) k m c t st = some r :=
 let ⟨n, hn⟩ := h
 ⟨n, fun m hm => Az (Bg hm) hm hn⟩
theorem Runs.at {lp : A3} {f : FuncId} {args : List LV} {st : List LObj} {r : LV × List LObj} (h : Runs lp f args st r) : ∃ n, ∀ m, n ≤ m → Cq lp m f args st = some r :=
 let ⟨n, hn⟩ := h
 ⟨n, fun m hm => (Bg hm _ _ _ _ hn).1⟩
def RunsZ (lp : A3) (f : FuncId) (args : List LV) (st : List LObj) (r : LV × List LObj) : Prop := ∃ n, Eh (Cq lp n) f args st = some r
theorem RunsZ.at {lp : A3} {f : FuncId} {args : List LV} {st : List LObj} {r : LV × List LObj} (h : RunsZ lp f args st r) : ∃ n, ∀ m, n ≤ m → Eh (Cq lp m) f args st = some r := by
 obtain ⟨n, hn⟩ := h
 exact ⟨n, fun m hm => (J7 (Bg hm) _ _ _ _ hn).1⟩
theorem Ux {st : List LObj} {vs : List LV} (h : vs.flatMap LV.refs = []) : gc 0 vs st = some (vs.map (LV.ren fun q => ([] : List Nat).idxOf q), []) := by
 unfold gc H7
 simp only [List.take_zero, List.flatMap_nil, h, List.append_nil, List.range_zero]
 have e : Dn st 100000 [] [] = [] := rfl
 rw [e]
 exact if_pos rfl
theorem Runs.z {lp : A3} {f : FuncId} {args : List LV} {r v : LV} {st st' : List LObj} (h : Runs lp f args [] (r, st)) (hf : M8 st r = (v, st')) (hv : v.refs = []) (hr : v.ren (fun q => ([] : List Nat).idxOf q) = v) : RunsZ lp f args [] (v, []) := by
 obtain ⟨n, hn⟩ := h
 refine ⟨n, ?_⟩
 unfold Eh
 simp only [hn, hf, List.length_nil]
 rw [Ux (by simp [hv])]
 simp only [List.map_cons, List.map_nil, hr]
end Go.LS
set_option linter.unusedVariables false
set_option linter.unusedSimpArgs false
namespace Go.LS
inductive Orc where
 | b (c : Bool)
 | op (v : LV) (st : List LObj)
 | call (v : LV) (st : List LObj)
 | lp (out : Cg) (t : List LV) (st : List LObj)
 | lg (out : Cg) (t : List LV) (st : List LObj) (t0 : List LV) (st0 : List LObj)
 | cg (v : LV) (st : List LObj)
abbrev Os := List (Nat × Orc)
def Uy : Os → Option Orc × Os
 | (0, o) :: r => (some o, r)
 | (n + 1, o) :: r => (none, (n, o) :: r)
 | [] => (none, [])
def LX.inst (t : List LV) (x : LX) : LX := .const (x.ev t)
def Ar : CallF := ⟨fun _ _ _ => none, fun _ => false⟩
def LOp.inst (t : List LV) : LOp → LOp
 | .mv x => .mv (x.inst t)
 | .pick c a b => .pick (c.inst t) (a.inst t) (b.inst t)
 | .alloc z => .alloc z
 | .box x => .box (x.inst t)
 | .build z ps => .build z (ps.map fun p => (p.1, p.2.1, p.2.2.inst t))
 | .mkrow r s l z ps => .mkrow r s l z (ps.map fun p => (p.1, p.2.inst t))
 | .load a n x => .load a n (x.inst t)
 | .store n x v => .store n (x.inst t) (v.inst t)
 | .nilChk x => .nilChk (x.inst t)
 | .bin o x y => .bin o (x.inst t) (y.inst t)
 | .beq o x y => .beq o (x.inst t) (y.inst t)
 | .peq o x y => .peq o (x.inst t) (y.inst t)
 | .nileq o k x => .nileq o k (x.inst t)
 | .un o x => .un o (x.inst t)
 | .cv k x => .cv k (x.inst t)
 | .fn f cs => .fn f (cs.map (LX.inst t))
 | .fnm f fs cs => .fnm f (fs.map (LX.inst t)) (cs.map (LX.inst t))
 | .clearS z x => .clearS z (x.inst t)
 | .appendR n m a b => .appendR n m (a.inst t) (b.inst t)
 | .iface ty x => .iface ty (x.inst t)
 | .mkmap => .mkmap
 | .mkslice a b z l c => .mkslice a b z (l.inst t) (c.inst t)
 | .sslice x a b c => .sslice (x.inst t) (a.map (LX.inst t)) (b.map (LX.inst t)) (c.map (LX.inst t))
 | .slice n x a b c => .slice n (x.inst t) (a.map (LX.inst t)) (b.map (LX.inst t)) (c.map (LX.inst t))
 | .fieldAddr n x => .fieldAddr n (x.inst t)
 | .field g n m x => .field g n m (x.inst t)
 | .indexAddr n x i => .indexAddr n (x.inst t) (i.inst t)
 | .arrAddr n m x i => .arrAddr n m (x.inst t) (i.inst t)
 | .index x i => .index (x.inst t) (i.inst t)
 | .arrIndex g n m x i => .arrIndex g n m (x.inst t) (i.inst t)
 | .lookup k z o x i => .lookup k z o (x.inst t) (i.inst t)
 | .mapUpdate k a b c => .mapUpdate k (a.inst t) (b.inst t) (c.inst t)
 | .delete k a b => .delete k (a.inst t) (b.inst t)
 | .range x => .range (x.inst t)
 | .next x => .next (x.inst t)
 | .extract x i => .extract (x.inst t) i
 | .call f as => .call f (as.map (LX.inst t))
 | .callv f as => .callv (f.inst t) (as.map (LX.inst t))
 | .callz f as => .callz f (as.map (LX.inst t))
 | .append s n m a b => .append s n m (a.inst t) (b.inst t)
 | .grow n m a b => .grow n m (a.inst t) (b.inst t)
 | .len x => .len (x.inst t)
 | .slen x => .slen (x.inst t)
 | .mlen x => .mlen (x.inst t)
 | .const v => .const v
 | .fail => .fail
 | .seq n l x y => .seq n l (x.inst t) (y.inst t)
 | .retire x => .retire (x.inst t)
 | .cap x => .cap (x.inst t)
 | .mx x y => .mx (x.inst t) (y.inst t)
 | .mn x y => .mn (x.inst t) (y.inst t)
theorem Nr (t s : List LV) (x : LX) : (x.inst t).ev s = x.ev t := rfl
theorem Sy (t s : List LV) (xs : List LX) : (xs.map (LX.inst t)).map (LX.ev s) = xs.map (LX.ev t) := by rw [List.map_map]; rfl
theorem Sz (t s : List LV) (xs : Option LX) : (xs.map (LX.inst t)).map (LX.ev s) = xs.map (LX.ev t) := by cases xs <;> rfl
theorem Lk (t s : List LV) : ∀ (ps : List (Nat × Nat × LX)), Dx s (ps.map fun p => (p.1, p.2.1, p.2.2.inst t)) = Dx t ps
 | [] => rfl
 | (a, b, x) :: r => by simp only [List.map_cons, Dx, Nr, Lk t s r]
theorem Ol (t s : List LV) : ∀ (ps : List (Nat × LX)), F5 s (ps.map fun p => (p.1, p.2.inst t)) = F5 t ps
 | [] => rfl
 | (a, x) :: r => by simp only [List.map_cons, F5, Nr, Ol t s r]
theorem Om (call : CallF) (t s : List LV) (st : List LObj) (op : LOp) : Ae call s st (op.inst t) = Ae call t st op := by
 cases op <;> simp only [LOp.inst, Ae, Nr, Sy, Sz, Lk, Ol]
abbrev OpIs (t : List LV) (st : List LObj) (op : LOp) (v : LV) (st' : List LObj) : Prop := Ae Ar [] st (op.inst t) = some (v, st')
theorem Mu (c : CallF) : Es Ar c := fun f a s r h => by simp [Ar] at h
theorem OpIs.step {t : List LV} {st st' : List LObj} {op : LOp} {v : LV} (h : OpIs t st op v st') (c : CallF) : Ae c t st op = some (v, st') :=
 Gp (Mu c) (by rw [← Om Ar t []]; exact h)
def Mv (lp : A3) (f : FuncId) (args : List LV) (st : List LObj) (r : LV) (st1 : List LObj) : Option (LV × List LObj × Prop) :=
 let args := wk (lp.weak f) args
 let ids := Dn st 100000 (args.flatMap LV.refs) []
 if C9 st ids && (args.flatMap LV.refs).all (ids.contains ·) && decide ids.Nodup then
  if ids.length ≤ st1.length then
   let b := Cu ids st.length
   some (r.ren b, Cf st ids ((st1.take ids.length).map (LObj.ren b)) ++ (st1.drop ids.length).map (LObj.ren b),
    Runs lp f (args.map (LV.ren fun q => ids.idxOf q)) (sub st ids) (r, st1))
  else none
 else none
theorem Gq {lp : A3} {f : FuncId} {args : List LV} {st st1 st' : List LObj} {r v : LV} {p : Prop} (h : Mv lp f args st r st1 = some (v, st', p)) (hp : p) :
  ∃ n, ∀ m, n ≤ m → Bw (Cq lp m) f args st = some (v, st') := by
 unfold Mv at h
 simp only at h
 split at h
 ·rename_i hc
  split at h
  ·rename_i hl
   cases h
   obtain ⟨n, hn⟩ := Runs.at hp
   refine ⟨n, fun m hm => ?_⟩
   unfold Bw
   simp only
   rw [I6, if_pos hc, hn m hm]
   simp only
   rw [if_pos hl]
  ·cases h
 ·cases h
def Pt (lp : A3) (f : FuncId) (args : List LV) (st : List LObj) (r : LV) (st1 : List LObj) : Option (LV × List LObj × Prop) :=
 let args := wk (lp.weak f) args
 let ids := Dn st 100000 (args.flatMap LV.refs) []
 if C9 st ids && (args.flatMap LV.refs).all (ids.contains ·) && decide ids.Nodup then
  if ids.length ≤ st1.length then
   let b := Cu ids st.length
   some (r.ren b, Cf st ids ((st1.take ids.length).map (LObj.ren b)) ++ (st1.drop ids.length).map (LObj.ren b),
    RunsZ lp f (args.map (LV.ren fun q => ids.idxOf q)) (sub st ids) (r, st1))
  else none
 else none
theorem Ns {lp : A3} {f : FuncId} {args : List LV} {st st1 st' : List LObj} {r v : LV} {p : Prop} (h : Pt lp f args st r st1 = some (v, st', p)) (hp : p) :
  ∃ n, ∀ m, n ≤ m → Bw (Eh (Cq lp m)) f args st = some (v, st') := by
 unfold Pt at h
 simp only at h
 split at h
 ·rename_i hc
  split at h
  ·rename_i hl
   cases h
   obtain ⟨n, hn⟩ := RunsZ.at hp
   refine ⟨n, fun m hm => ?_⟩
   unfold Bw
   simp only
   have hw : (Eh (Cq lp m)).weak f = lp.weak f := by show (Cq lp m).weak f = _; rw [I6]
   rw [hw, if_pos hc, hn m hm]
   simp only
   rw [if_pos hl]
  ·cases h
 ·cases h
def Cr (lp : A3) (f : FuncId) (args : List LV) (st : List LObj) (r : LV × List LObj) : Prop := ∃ n, ∀ m, n ≤ m → Bw (Cq lp m) f args st = some r
def gdO (t : List LV) (g : Option (Nat × Bool)) (os : Os) : Option (Bool × List Prop × Os) :=
 match g with
 | none => some (true, [], os)
 | some (j, want) => match Uy os with
  | (some (.b c), os') => some (c == want, [t.getD j .und = .p (.bool c)], os')
  | (none, os') => match gd t (some (j, want)) with
   | some b => some (b, [], os')
   | none => none
  | _ => none
abbrev Jk (ps : List Prop) : Prop := ∀ p ∈ ps, p
theorem Mw {t : List LV} {g : Option (Nat × Bool)} {os os' : Os} {b : Bool} {ps : List Prop} (h : gdO t g os = some (b, ps, os')) (hp : Jk ps) : gd t g = some b := by
 unfold gdO at h
 split at h
 ·cases h; rfl
 ·split at h
  ·cases h
   have := hp _ (List.mem_singleton.2 rfl)
   simp only [gd, this]
  ·split at h
   ·cases h; assumption
   ·cases h
  ·cases h
def S0 (lp : A3) (t : List LV) (st : List LObj) (op : LOp) (os : Os) : Option (LV × List LObj × List Prop × Os) :=
 match Uy os with
 | (none, os') => match Ae Ar t st op with
  | some (v, st') => some (v, st', [], os')
  | none => none
 | (some (.op v st'), os') => some (v, st', [OpIs t st op v st'], os')
 | (some (.call r st1), os') => match op with
  | .call f args => match Mv lp f (args.map (LX.ev t)) st r st1 with
   | some (v, st', p) => some (v, st', [p], os')
   | none => none
  | .callz f args => match Pt lp f (args.map (LX.ev t)) st r st1 with
   | some (v, st', p) => some (v, st', [p], os')
   | none => none
  | .callv f args => match f.ev t with
   | .fn (.func g) first captured => match Mv lp g (first ++ args.map (LX.ev t) ++ captured) st r st1 with
    | some (v, st', p) => some (v, st', [p], os')
    | none => none
   | _ => none
  | _ => none
 | (some (.cg v st'), os') => match op with
  | .call f args => some (v, st', [Cr lp f (args.map (LX.ev t)) st (v, st')], os')
  | .callv f args => match f.ev t with
   | .fn (.func g) first captured => some (v, st', [Cr lp g (first ++ args.map (LX.ev t) ++ captured) st (v, st')], os')
   | _ => none
  | _ => none
 | (some (.b c), os') => match op with
  | .pick x a b => some (if c then a.ev t else b.ev t, st, [x.ev t = .p (.bool c)], os')
  | _ => none
 | _ => none
theorem On {lp : A3} {t : List LV} {st st' : List LObj} {op : LOp} {os os' : Os} {v : LV} {ps : List Prop} (h : S0 lp t st op os = some (v, st', ps, os')) (hp : Jk ps) :
  ∃ n, ∀ m, n ≤ m → Ae (Cq lp m) t st op = some (v, st') := by
 unfold S0 at h
 split at h
 ·split at h <;> cases h
  exact ⟨0, fun m _ => Gp (Mu _) ‹_›⟩
 ·cases h
  have := hp _ (List.mem_singleton.2 rfl)
  exact ⟨0, fun m _ => OpIs.step this _⟩
 ·split at h
  ·split at h <;> cases h
   exact Gq ‹_› (hp _ (List.mem_singleton.2 rfl))
  ·split at h <;> cases h
   exact Ns ‹_› (hp _ (List.mem_singleton.2 rfl))
  ·split at h
   ·rename_i hf
    split at h <;> cases h
    obtain ⟨n, hn⟩ := Gq ‹_› (hp _ (List.mem_singleton.2 rfl))
    exact ⟨n, fun m hm => by simp only [Ae, hf]; exact hn m hm⟩
   ·cases h
  ·cases h
 ·split at h
  ·cases h
   exact hp _ (List.mem_singleton.2 rfl)
  ·split at h
   ·rename_i hf
    cases h
    obtain ⟨n, hn⟩ := hp _ (List.mem_singleton.2 rfl)
    exact ⟨n, fun m hm => by simp only [Ae, hf]; exact hn m hm⟩
   ·cases h
  ·cases h
 ·split at h
  ·cases h
   have := hp _ (List.mem_singleton.2 rfl)
   exact ⟨0, fun m _ => by simp only [Ae, this]⟩
  ·cases h
 ·cases h
def Qn (lp : A3) (t : List LV) (st : List LObj) (o : Cs) (os : Os) : Option (LV × List LObj × List Prop × Os × Bool) :=
 match gdO t o.guard os with
 | some (true, ps, os1) => match S0 lp t st o.op os1 with
  | some (v, st', qs, os2) => some (v, st', ps ++ qs, os2, true)
  | none => none
 | some (false, ps, os1) => some (.tup [], st, ps, os1, false)
 | none => none
theorem Cc {ps qs : List Prop} (h : Jk (ps ++ qs)) : Jk ps ∧ Jk qs := ⟨fun p hp => h p (List.mem_append_left _ hp), fun p hp => h p (List.mem_append_right _ hp)⟩
theorem E3 {lp : A3} {t : List LV} {st st' : List LObj} {o : Cs} {os os' : Os} {v : LV} {ps : List Prop} {d : Bool} (h : Qn lp t st o os = some (v, st', ps, os', d)) (hp : Jk ps) :
  gd t o.guard = some d ∧ ∃ n, ∀ m, n ≤ m → Bz (Cq lp m) t st o = some (v, st') := by
 unfold Qn at h
 split at h
 ·rename_i ps1 os1 hg
  split at h
  ·rename_i v' st1 qs os2 hs
   cases h
   obtain ⟨h1, h2⟩ := Cc hp
   obtain ⟨n, hn⟩ := On hs h2
   have := Mw hg h1
   exact ⟨this, n, fun m hm => by unfold Bz; rw [this]; exact hn m hm⟩
  ·cases h
 ·rename_i ps1 os1 hg
  cases h
  have := Mw hg hp
  exact ⟨this, 0, fun m _ => by unfold Bz; rw [this]⟩
 ·cases h
def S1 (lp : A3) : List Cs → List LV → List LObj → Os → Option (List LV × List LObj × List Prop × Os)
 | [], t, st, os => some (t, st, [], os)
 | o :: r, t, st, os => match Qn lp t st o os with
  | some (v, st', ps, os', _) => match S1 lp r (F9 t o.dst v) st' os' with
   | some (t', st'', qs, os'') => some (t', st'', ps ++ qs, os'')
   | none => none
  | none => none
theorem Ll {lp : A3} : ∀ {l : List Cs} {t t' : List LV} {st st' : List LObj} {os os' : Os} {ps : List Prop}, S1 lp l t st os = some (t', st', ps, os') → Jk ps →
  ∃ n, ∀ m, n ≤ m → E6 (Cq lp m) l t st = some (t', st')
 | [], t, t', st, st', os, os', ps, h, _ => by simp only [S1] at h; cases h; exact ⟨0, fun m _ => rfl⟩
 | o :: r, t, t', st, st', os, os', ps, h, hp => by
  simp only [S1] at h
  split at h
  ·rename_i v st1 ps1 os1 d hs
   split at h
   ·rename_i t2 st2 qs os2 hr
    cases h
    obtain ⟨h1, h2⟩ := Cc hp
    obtain ⟨_, n, hn⟩ := E3 hs h1
    obtain ⟨k, hk⟩ := Ll hr h2
    exact ⟨max n k, fun m hm => by simp only [E6, hn m (by omega)]; exact hk m (by omega)⟩
   ·cases h
  ·cases h
def Qo (st : List LObj) (held : List (DOp × List LV × LV)) : List Prop := held.map fun x => OpIs x.2.1 st x.1.op.op x.2.2 st
theorem Oo {lp : A3} {m : Nat} {st : List LObj} {held : List (DOp × List LV × LV)} (h : Jk (Qo st held)) (hg : ∀ x ∈ held, gd x.2.1 x.1.op.guard = some true) : E7 (Cq lp m) st held = true := by
 unfold E7
 rw [List.all_eq_true]
 intro x hx
 have := h _ (List.mem_map.2 ⟨x, hx, rfl⟩)
 unfold Bz
 rw [hg x hx]
 simp only [OpIs.step this, LV.eqb_refl]
def Hw (lp : A3) : List DOp → List (DOp × List LV × LV) → List LV → List LObj → Os → Option (List LV × List LObj × List Prop × Os)
 | [], _, t, st, os => some (t, st, [], os)
 | d :: r, held, t, st, os => match Qn lp t st d.op os with
  | none => none
  | some (v, st', ps, os', done) =>
   match d.cls with
   | .h => if Fy d.op.op v then
     match Hw lp r (if N2 t d.op.op || !done then held else (d, t, v) :: held) (F9 t d.op.dst v) st' os' with
     | some (t', st'', qs, os'') => some (t', st'', ps ++ qs, os'')
     | none => none
    else none
   | .a => if Kt st st' then
     match Hw lp r held (F9 t d.op.dst v) st' os' with
     | some (t', st'', qs, os'') => some (t', st'', ps ++ Qo st' held ++ qs, os'')
     | none => none
    else none
   | .c => if decide (st.length ≤ st'.length) then
     match Hw lp r (held.filter fun x => !d.must.contains x.1.idx) (F9 t d.op.dst v) st' os' with
     | some (t', st'', qs, os'') => some (t', st'', ps ++ Qo st' (held.filter fun x => !d.must.contains x.1.idx) ++ qs, os'')
     | none => none
    else none
abbrev Nt (held heldO : List (DOp × List LV × LV)) : Prop := ∀ x ∈ held, x ∈ heldO ∨ (gd x.2.1 x.1.op.guard = some false ∧ x.2.2 = .tup [])
theorem Lm {lp : A3} {m : Nat} {st : List LObj} {held heldO : List (DOp × List LV × LV)} (hs : Nt held heldO) (h : Jk (Qo st heldO)) (hg : ∀ x ∈ heldO, gd x.2.1 x.1.op.guard = some true) :
  E7 (Cq lp m) st held = true := by
 unfold E7
 rw [List.all_eq_true]
 intro x hx
 rcases hs x hx with hx | ⟨h1, h2⟩
 ·have := List.all_eq_true.1 (Oo (lp := lp) (m := m) h hg) x hx
  exact this
 ·unfold Bz
  rw [h1, h2]
  rfl
theorem Ea {lp : A3} : ∀ {l : List DOp} {heldO : List (DOp × List LV × LV)} {t t' : List LV} {st st' : List LObj} {os os' : Os} {ps : List Prop}, Hw lp l heldO t st os = some (t', st', ps, os') → Jk ps →
  (∀ x ∈ heldO, gd x.2.1 x.1.op.guard = some true) → ∃ n, ∀ m, n ≤ m → ∀ held, Nt held heldO → Bu (Cq lp m) l held t st = some (t', st')
 | [], heldO, t, t', st, st', os, os', ps, h, _, _ => by simp only [Hw] at h; cases h; exact ⟨0, fun m _ held _ => rfl⟩
 | d :: r, heldO, t, t', st, st', os, os', ps, h, hp, hg => by
  simp only [Hw] at h
  split at h
  ·cases h
  ·rename_i v st1 ps1 os1 done hs
   split at h
   ·rename_i hc
    split at h
    ·rename_i hpv
     split at h
     ·rename_i t2 st2 qs os2 hr
      cases h
      obtain ⟨h1, h2⟩ := Cc hp
      obtain ⟨hgd, n, hn⟩ := E3 hs h1
      obtain ⟨k, hk⟩ := Ea hr h2 (fun x hx => by
       split at hx
       ·exact hg x hx
       ·rename_i hst
        rcases List.mem_cons.1 hx with rfl | hx
        ·have : done = true := by cases done <;> simp_all
         rw [this] at hgd; exact hgd
        ·exact hg x hx)
      refine ⟨max n k, fun m hm held hsub => ?_⟩
      simp only [Bu, hn m (by omega), hc]
      rw [if_pos hpv]
      refine hk m (by omega) _ (fun x hx => ?_)
      split at hx
      ·rename_i hst
       rw [if_pos (by simp [hst])]
       exact hsub x hx
      ·rename_i hst
       rcases List.mem_cons.1 hx with rfl | hx
       ·cases hdn : done with
        | true => rw [if_neg (by simp [hst])]; exact .inl (by simp)
        | false =>
         rw [hdn] at hgd
         refine .inr ⟨hgd, ?_⟩
         have := hn n (Nat.le_refl _)
         unfold Bz at this
         rw [hgd] at this
         cases this; rfl
       ·rcases hsub x hx with h | h
        ·refine .inl ?_
         split
         ·exact h
         ·exact List.mem_cons_of_mem _ h
        ·exact .inr h
     ·cases h
    ·cases h
   ·rename_i hc
    split at h
    ·rename_i hnew
     split at h
     ·rename_i t2 st2 qs os2 hr
      cases h
      obtain ⟨h12, h3⟩ := Cc hp
      obtain ⟨h1, h2⟩ := Cc h12
      obtain ⟨hgd, n, hn⟩ := E3 hs h1
      obtain ⟨k, hk⟩ := Ea hr h3 hg
      refine ⟨max n k, fun m hm held hsub => ?_⟩
      simp only [Bu, hn m (by omega), hc]
      rw [if_pos (by simp only [Bool.and_eq_true]; exact ⟨hnew, Lm hsub h2 hg⟩)]
      exact hk m (by omega) _ hsub
     ·cases h
    ·cases h
   ·rename_i hc
    split at h
    ·rename_i hlen
     split at h
     ·rename_i t2 st2 qs os2 hr
      cases h
      obtain ⟨h12, h3⟩ := Cc hp
      obtain ⟨h1, h2⟩ := Cc h12
      obtain ⟨hgd, n, hn⟩ := E3 hs h1
      have hg' : ∀ x ∈ heldO.filter (fun x => !d.must.contains x.1.idx), gd x.2.1 x.1.op.guard = some true := fun x hx => hg x (List.mem_filter.1 hx).1
      obtain ⟨k, hk⟩ := Ea hr h3 hg'
      refine ⟨max n k, fun m hm held hsub => ?_⟩
      have hsub' : Nt (held.filter fun x => !d.must.contains x.1.idx) (heldO.filter fun x => !d.must.contains x.1.idx) := by
       intro x hx
       obtain ⟨a, b⟩ := List.mem_filter.1 hx
       rcases hsub x a with h | h
       ·exact .inl (List.mem_filter.2 ⟨h, b⟩)
       ·exact .inr h
      simp only [Bu, hn m (by omega), hc]
      rw [if_pos (by simp only [Bool.and_eq_true]; exact ⟨hlen, Lm hsub' h2 hg'⟩)]
      exact hk m (by omega) _ hsub'
     ·cases h
    ·cases h
def LoopAt (lp : A3) (k : Nat) (mask : List Bool) (c : Bd) (t : List LV) (st : List LObj) (r : Cg × List LV × List LObj) : Prop :=
 ∃ n, (match Ay (Cq lp n) k n c t st with
  | some (.normal, t', st') => Ay (Cq lp n) k n (.loop mask c) t' st'
  | r => r) = some r
def B5 (lp : A3) (k : Nat) : Nat → Bd → List LV → List LObj → Os → Option (Cg × List LV × List LObj × List Prop × Os)
 | 0, _, _, _, _ => none
 | n + 1, c, t, st, os => match c with
  | .skip => some (.normal, t, st, [], os)
  | .region ops => match S1 lp ops t st os with
   | some (t', st', ps, os') => some (.normal, t', st', ps, os')
   | none => none
  | .drawn ops => match Hw lp ops [] t st os with
   | some (t', st', ps, os') => some (.normal, t', st', ps, os')
   | none => none
  | .seq a b => match B5 lp k n a t st os with
   | some (.normal, t', st', ps, os') => (match B5 lp k n b t' st' os' with
    | some (o, t'', st'', qs, os'') => some (o, t'', st'', ps ++ qs, os'')
    | none => none)
   | r => r
  | .cond x a b => match Uy os with
   | (some (.b c), os') => (match B5 lp k n (if c then a else b) t st os' with
    | some (o, t', st', ps, os'') => some (o, t', st', (x.ev t = .p (.bool c)) :: ps, os'')
    | none => none)
   | (none, os') => (match x.ev t with
    | .p (.bool true) => B5 lp k n a t st os'
    | .p (.bool false) => B5 lp k n b t st os'
    | _ => none)
   | _ => none
  | .Dd x a b c => B5 lp k n (.seq (.cond x a b) c) t st os
  | .block id mask c => match B5 lp k n c t st os with
   | some (.exit i, t', st', ps, os') => if i = id then some (.normal, kill mask t', st', ps, os') else some (.exit i, t', st', ps, os')
   | some (.normal, t', st', ps, os') => some (.normal, kill mask t', st', ps, os')
   | r => r
  | .loop mask c => match Uy os with
   | (some (.lp out t' st'), os') => (match gc k (kill mask t) st with
    | some (t0, st0) => some (out, t', st', [LoopAt lp k mask c t0 st0 (out, t', st')], os')
    | none => none)
   | (some (.lg out t' st' t0 st0), os') => some (out, t', st', [gc k (kill mask t) st = some (t0, st0), LoopAt lp k mask c t0 st0 (out, t', st')], os')
   | _ => none
  | .exit id mask => some (.exit id, kill mask t, st, [], os)
  | .ret mask => some (.ret, kill mask t, st, [], os)
  | .fail => none
theorem Rd {c : CallF} {k m : Nat} {x : LX} {a b d : Bd} {t : List LV} {st : List LObj} {r : Cg × List LV × List LObj} (h : Ay c k m (.seq (.cond x a b) d) t st = some r) : Ay c k (m + 1) (.Dd x a b d) t st = some r := by
 cases m with
 | zero => simp [Ay] at h
 | succ m =>
  cases m with
  | zero => simp [Ay, Ct] at h
  | succ m =>
   show (match x.ev t with
    | .p (.bool true) => Ct (Ay c k (m + 1 + 1) a t st) (Ay c k (m + 1 + 1) d)
    | .p (.bool false) => Ct (Ay c k (m + 1 + 1) b t st) (Ay c k (m + 1 + 1) d)
    | .anyb => Dd (Ct (Ay c k (m + 1 + 1) a t st) (Ay c k (m + 1 + 1) d)) (Ct (Ay c k (m + 1 + 1) b t st) (Ay c k (m + 1 + 1) d))
    | _ => none) = some r
   replace h : Ct (match x.ev t with
    | .p (.bool true) => Ay c k m a t st
    | .p (.bool false) => Ay c k m b t st
    | .anyb => Dd (Ay c k m a t st) (Ay c k m b t st)
    | _ => none) (Ay c k (m + 1) d) = some r := h
   have up : ∀ {lz : Bd} {y}, Ay c k m lz t st = some y → Ct (some y) (Ay c k (m + 1) d) = some r → Ct (Ay c k (m + 1 + 1) lz t st) (Ay c k (m + 1 + 1) d) = some r := by
    intro lz y h1 h2
    rw [Az (fun _ _ _ _ h => ⟨h, rfl⟩) (show m ≤ m + 1 + 1 by omega) h1]
    obtain ⟨o, t', st'⟩ := y
    cases o with
    | normal => exact Az (fun _ _ _ _ h => ⟨h, rfl⟩) (show m + 1 ≤ m + 1 + 1 by omega) h2
    | _ => exact h2
   split at h
   ·rename_i hx
    cases he : Ay c k m a t st with
    | none => rw [he] at h; cases h
    | some y => rw [he] at h; (try simp only [hx]); exact up he h
   ·rename_i hx
    cases he : Ay c k m b t st with
    | none => rw [he] at h; cases h
    | some y => rw [he] at h; (try simp only [hx]); exact up he h
   ·rename_i hx
    cases hb : Dd (Ay c k m a t st) (Ay c k m b t st) with
    | none => rw [hb] at h; cases h
    | some y =>
     rw [hb] at h
     obtain ⟨e1, e2⟩ := Ia hb
     try simp only [hx]
     rw [up e1 h, up e2 h]
     exact Jj r
   ·cases h
theorem Bo {lp : A3} {k : Nat} : ∀ {n : Nat} {c : Bd} {t t' : List LV} {st st' : List LObj} {os os' : Os} {ps : List Prop} {o : Cg}, B5 lp k n c t st os = some (o, t', st', ps, os') → Jk ps →
  Exec lp k c t st (o, t', st')
 | 0, c, t, t', st, st', os, os', ps, o, h, _ => by simp [B5] at h
 | n + 1, c, t, t', st, st', os, os', ps, o, h, hp => by
  cases c with
  | skip => simp only [B5] at h; cases h; exact ⟨1, rfl⟩
  | exit id mask => simp only [B5] at h; cases h; exact ⟨1, rfl⟩
  | ret mask => simp only [B5] at h; cases h; exact ⟨1, rfl⟩
  | fail => simp [B5] at h
  | region ops =>
   simp only [B5] at h
   split at h
   ·rename_i t1 st1 ps1 os1 hs
    cases h
    obtain ⟨m, hm⟩ := Ll hs hp
    exact ⟨m + 1, by simp only [Ay]; rw [hm (m + 1) (by omega)]⟩
   ·cases h
  | drawn ops =>
   simp only [B5] at h
   split at h
   ·rename_i t1 st1 ps1 os1 hs
    cases h
    obtain ⟨m, hm⟩ := Ea hs hp (by simp)
    exact ⟨m + 1, by simp only [Ay]; rw [hm (m + 1) (by omega) [] (by simp)]⟩
   ·cases h
  | seq a b =>
   simp only [B5] at h
   split at h
   ·rename_i t1 st1 ps1 os1 hs
    split at h
    ·rename_i o2 t2 st2 ps2 os2 hs2
     cases h
     obtain ⟨h1, h2⟩ := Cc hp
     obtain ⟨m1, e1⟩ := (Bo hs h1).at
     obtain ⟨m2, e2⟩ := (Bo hs2 h2).at
     refine ⟨max m1 m2 + 1, ?_⟩
     simp only [Ay, Ct]
     rw [Az (Bg (by omega)) (Nat.le_refl _) (e1 (max m1 m2) (by omega))]
     exact Az (Bg (by omega)) (Nat.le_refl _) (e2 (max m1 m2) (by omega))
    ·cases h
   ·rename_i r hne
    cases ha : B5 lp k n a t st os with
    | none => rw [ha] at h; cases h
    | some x =>
     obtain ⟨o1, t1, st1, ps1, os1⟩ := x
     rw [ha] at h
     cases h
     obtain ⟨m, e⟩ := (Bo ha hp).at
     refine ⟨m + 1, ?_⟩
     simp only [Ay, Ct]
     rw [Az (Bg (by omega)) (Nat.le_refl _) (e m (Nat.le_refl _))]
     cases o with
     | normal => exact absurd ha (hne _ _ _ _)
     | _ => rfl
  | cond x a b =>
   simp only [B5] at h
   split at h
   ·rename_i c os1 _
    split at h
    ·rename_i o1 t1 st1 ps1 os2 hs
     cases h
     have hx := hp _ (List.mem_cons_self ..)
     obtain ⟨m, e⟩ := (Bo hs (fun p hm => hp p (List.mem_cons_of_mem _ hm))).at
     refine ⟨m + 1, ?_⟩
     simp only [Ay, hx]
     have := Az (Bg (lp := lp) (show m ≤ m + 1 by omega)) (Nat.le_refl _) (e m (Nat.le_refl _))
     cases c <;> exact this
    ·cases h
   ·split at h
    ·rename_i hx
     obtain ⟨m, e⟩ := (Bo h hp).at
     refine ⟨m + 1, ?_⟩
     simp only [Ay, hx]
     exact Az (Bg (by omega)) (Nat.le_refl _) (e m (Nat.le_refl _))
    ·rename_i hx
     obtain ⟨m, e⟩ := (Bo h hp).at
     refine ⟨m + 1, ?_⟩
     simp only [Ay, hx]
     exact Az (Bg (by omega)) (Nat.le_refl _) (e m (Nat.le_refl _))
    ·cases h
   ·cases h
  | Dd x a b d =>
   simp only [B5] at h
   obtain ⟨m, e⟩ := (Bo h hp).at
   exact ⟨m + 1, Az (Bg (by omega)) (Nat.le_refl _) (Rd (e m (Nat.le_refl _)))⟩
  | block id mask a =>
   simp only [B5] at h
   have go : ∀ {o1 t1 st1 ps1 os1}, B5 lp k n a t st os = some (o1, t1, st1, ps1, os1) → Jk ps1 → ∃ m, Ay (Cq lp (m + 1)) k m a t st = some (o1, t1, st1) := by
    intro o1 t1 st1 ps1 os1 hs hp1
    obtain ⟨m, e⟩ := (Bo hs hp1).at
    exact ⟨m, Az (Bg (by omega)) (Nat.le_refl _) (e m (Nat.le_refl _))⟩
   split at h
   ·rename_i i t1 st1 ps1 os1 hs
    split at h
    ·rename_i hi
     cases h
     obtain ⟨m, e⟩ := go hs hp
     exact ⟨m + 1, by simp only [Ay, e]; rw [if_pos hi]⟩
    ·rename_i hi
     cases h
     obtain ⟨m, e⟩ := go hs hp
     exact ⟨m + 1, by simp only [Ay, e]; rw [if_neg hi]⟩
   ·rename_i t1 st1 ps1 os1 hs
    cases h
    obtain ⟨m, e⟩ := go hs hp
    exact ⟨m + 1, by simp only [Ay, e]⟩
   ·rename_i r hne1 hne2
    cases ha : B5 lp k n a t st os with
    | none => rw [ha] at h; cases h
    | some x =>
     obtain ⟨o1, t1, st1, ps1, os1⟩ := x
     rw [ha] at h
     cases h
     obtain ⟨m, e⟩ := go ha hp
     refine ⟨m + 1, ?_⟩
     simp only [Ay, e]
     cases o with
     | normal => exact absurd ha (hne2 _ _ _ _)
     | exit i => exact absurd ha (hne1 _ _ _ _ _)
     | ret => rfl
  | loop mask a =>
   simp only [B5] at h
   split at h
   ·rename_i out t1 st1 os1 _
    split at h
    ·rename_i t0 st0 hg
     cases h
     obtain ⟨m, hm⟩ := hp _ (List.mem_singleton.2 rfl)
     refine ⟨m + 1, ?_⟩
     simp only [Ay, hg]
     cases he : Ay (Cq lp m) k m a t0 st0 with
     | none => rw [he] at hm; cases hm
     | some x =>
      obtain ⟨o2, t2, st2⟩ := x
      rw [he] at hm
      rw [Az (Bg (show m ≤ m + 1 by omega)) (Nat.le_refl _) he]
      cases o2 with
      | normal => exact Az (Bg (by omega)) (Nat.le_refl _) hm
      | _ => exact hm
    ·cases h
   ·cases h
    have hg := hp _ (List.mem_cons_self ..)
    rename_i t0 st0 _
    obtain ⟨m, hm⟩ := hp _ (List.mem_cons_of_mem _ (List.mem_singleton.2 rfl))
    refine ⟨m + 1, ?_⟩
    simp only [Ay, hg]
    cases he : Ay (Cq lp m) k m a t0 st0 with
    | none => rw [he] at hm; cases hm
    | some x =>
     obtain ⟨o2, t2, st2⟩ := x
     rw [he] at hm
     rw [Az (Bg (show m ≤ m + 1 by omega)) (Nat.le_refl _) he]
     cases o2 with
     | normal => exact Az (Bg (by omega)) (Nat.le_refl _) hm
     | _ => exact hm
   ·cases h
end Go.LS
set_option linter.unusedVariables false
set_option linter.unusedSimpArgs false
namespace Go.LS
def Conj : List Prop → Prop
 | [] => True
 | p :: r => p ∧ Conj r
theorem Conj.all : ∀ {ps : List Prop}, Conj ps → Jk ps
 | [], _, p, hp => by cases hp
 | q :: r, h, p, hp => by
  rcases List.mem_cons.1 hp with rfl | hp
  ·exact h.1
  ·exact h.2.all p hp
def runO (lp : A3) (N : Nat) (f : FuncId) (args : List LV) (st : List LObj) (os : Os) : Option (LV × List LObj × List Prop) :=
 match lp.summ f with
 | some _ => none
 | none => match lp.fns f with
  | none => none
  | some lf => match B5 lp st.length N lf.body (wk (lp.weak f) args ++ List.replicate (lf.ntmps - args.length) .und) st os with
   | some (.exit _, _, _, _, _) => none
   | some (_, t', st', ps, _) => match Ib t' st' lf.results with
    | some vs => match frz (lp.wres f) st' vs with
     | (vs, st') => (match gc st.length vs st' with
      | some (vs', st'') => some (Ga vs', st'', ps)
      | none => none)
    | none => none
   | none => none
theorem Bh {lp : A3} {N : Nat} {f : FuncId} {args : List LV} {st st' : List LObj} {os : Os} {v : LV} {ps : List Prop} (h : runO lp N f args st os = some (v, st', ps)) (hp : Conj ps) : Runs lp f args st (v, st') := by
 unfold runO at h
 split at h
 ·cases h
 ·rename_i hsm
  split at h
  ·cases h
  ·rename_i lf hlf
   split at h
   ·cases h
   ·rename_i out t1 st1 ps1 os1 hne hex
    split at h
    ·rename_i vs hvs
     dsimp only at h
     split at h
     ·rename_i vs' st2 hgc
      simp only [Option.some.injEq, Prod.mk.injEq] at h
      obtain ⟨rfl, rfl, rfl⟩ := h
      obtain ⟨n, hn⟩ := Bo hex hp.all
      refine ⟨n + 1, ?_⟩
      simp only [Cq, hsm, hlf, hn]
      cases out with
      | exit i => exact (hne i rfl).elim
      | normal => simp only [hvs, hgc]
      | ret => simp only [hvs, hgc]
     ·cases h
    ·cases h
   ·cases h
def Jl (lp : A3) (N k : Nat) (mask : List Bool) (c : Bd) (t : List LV) (st : List LObj) (os : Os) : Option (Cg × List LV × List LObj × List Prop) :=
 match B5 lp k N c t st os with
 | some (.normal, t', st', ps, _) => match gc k (kill mask t') st' with
  | some (t'', st'') => some (.normal, t'', st'', ps)
  | none => none
 | some (o, t', st', ps, _) => some (o, t', st', ps)
 | none => none
theorem LoopAt.on {lp : A3} {N k : Nat} {mask : List Bool} {c : Bd} {t t' : List LV} {st st' : List LObj} {os : Os} {ps : List Prop} {r : Cg × List LV × List LObj}
  (h : Jl lp N k mask c t st os = some (.normal, t', st', ps)) (hp : Conj ps) (hr : LoopAt lp k mask c t' st' r) : LoopAt lp k mask c t st r := by
 unfold Jl at h
 split at h
 ·rename_i t1 st1 ps1 os1 hex
  split at h
  ·rename_i t2 st2 hg
   simp only [Option.some.injEq, Prod.mk.injEq, true_and] at h
   obtain ⟨rfl, rfl, rfl⟩ := h
   obtain ⟨n, hn⟩ := (Bo hex hp.all).at
   obtain ⟨m, hm⟩ := hr
   refine ⟨max n m + 1, ?_⟩
   rw [hn (max n m + 1) (by omega)]
   simp only [Ay, hg]
   cases he : Ay (Cq lp m) k m c t2 st2 with
   | none => rw [he] at hm; cases hm
   | some x =>
    obtain ⟨o2, t3, st3⟩ := x
    rw [he] at hm
    rw [Az (Bg (show m ≤ max n m + 1 by omega)) (show m ≤ max n m by omega) he]
    cases o2 with
    | normal => exact Az (Bg (by omega)) (by omega) hm
    | _ => exact hm
  ·cases h
 ·rename_i hne hex
  simp only [Option.some.injEq, Prod.mk.injEq] at h
  obtain ⟨rfl, rfl, rfl, rfl⟩ := h
  exact (hne rfl).elim
 ·cases h
theorem LoopAt.out {lp : A3} {N k : Nat} {mask : List Bool} {c : Bd} {t t' : List LV} {st st' : List LObj} {os : Os} {ps : List Prop} {o : Cg}
  (h : Jl lp N k mask c t st os = some (o, t', st', ps)) (ho : (match o with | .normal => false | _ => true) = true) (hp : Conj ps) : LoopAt lp k mask c t st (o, t', st') := by
 unfold Jl at h
 split at h
 ·split at h
  ·cases h; cases ho
  ·cases h
 ·rename_i o1 t1 st1 ps1 os1 hne hex
  simp only [Option.some.injEq, Prod.mk.injEq] at h
  obtain ⟨rfl, rfl, rfl, rfl⟩ := h
  obtain ⟨n, hn⟩ := Bo hex hp.all
  refine ⟨n, ?_⟩
  rw [hn]
  cases o1 with
  | normal => cases ho
  | _ => rfl
 ·cases h
def D2 : Bd → List (List Bool × Bd)
 | .seq a b => D2 a ++ D2 b
 | .cond _ a b => D2 a ++ D2 b
 | .Dd _ a b c => D2 a ++ D2 b ++ D2 c
 | .block _ _ c => D2 c
 | .loop m c => (m, c) :: D2 c
 | _ => []
def Aj (lf : LFn) (i : Nat) : List Bool × Bd := (D2 lf.body).getD i ([], .skip)
def tl (i : Nat) : Nat → List (Nat × LV) → List LV
 | 0, _ => []
 | n + 1, [] => .und :: tl (i + 1) n []
 | n + 1, (j, v) :: r => match Nat.beq i j with
  | true => v :: tl (i + 1) n r
  | false => .und :: tl (i + 1) n ((j, v) :: r)
abbrev OpW (st : List LObj) (op : LOp) (v : LV) (st' : List LObj) : Prop := Ae Ar [] st op = some (v, st')
abbrev LoopN (lp : A3) (k : Nat) (x : List Bool × Bd) (t : List LV) (st : List LObj) (r : Cg × List LV × List LObj) : Prop := LoopAt lp k x.1 x.2 t st r
def oO {st st' : List LObj} {op : LOp} {v : LV} (_ : OpW st op v st') : Orc := .op v st'
def oC {lp : A3} {f : Nat} {as : List LV} {st st' : List LObj} {v : LV} (_ : Runs lp f as st (v, st')) : Orc := .call v st'
def oZ {lp : A3} {f : Nat} {as : List LV} {st st' : List LObj} {v : LV} (_ : RunsZ lp f as st (v, st')) : Orc := .call v st'
def oL {lp : A3} {k : Nat} {x : List Bool × Bd} {t t' : List LV} {st st' : List LObj} {o : Cg} (_ : LoopN lp k x t st (o, t', st')) : Orc := .lp o t' st'
theorem cI {b c : Bool} (h : b = c) : LV.p (PV.bool b) = .p (.bool c) := congrArg (fun b => LV.p (PV.bool b)) h
theorem Pu {lp : A3} {f : FuncId} {a : List LV} {s : List LObj} {c : Bool} {x y : LV × List LObj} (h : Runs lp f a s (if c = true then x else y)) (hc : c = true) : Runs lp f a s x := by rwa [if_pos hc] at h
theorem Uz {lp : A3} {f : FuncId} {a : List LV} {s : List LObj} {c : Bool} {x y : LV × List LObj} (h : Runs lp f a s (if c = true then x else y)) (hc : c = false) : Runs lp f a s y := by rwa [if_neg (by simp [hc])] at h
theorem Ad {b c : Bool} (h : b = c) : (!b) = !c := by rw [h]
end Go.LS
namespace Go.LS
def runE (lp : A3) (N : Nat) (f : FuncId) (args : List LV) (st : List LObj) (os : Os) : Option (List LV × List LObj × List Prop) :=
 match lp.summ f with
 | some _ => none
 | none => match lp.fns f with
  | none => none
  | some lf => match B5 lp st.length N lf.body (wk (lp.weak f) args ++ List.replicate (lf.ntmps - args.length) .und) st os with
   | some (.exit _, _, _, _, _) => none
   | some (_, t', st', ps, _) => match Ib t' st' lf.results with
    | some vs => some (vs, st', ps)
    | none => none
   | none => none
theorem Bb {lp : A3} {N : Nat} {f : FuncId} {args : List LV} {st st1 s1 st2 : List LObj} {os : Os} {vs vs1 vs2 : List LV} {ps : List Prop} (h : runE lp N f args st os = some (vs, st1, ps)) (hp : Conj ps)
  (hf : frz (lp.wres f) st1 vs = (vs1, s1)) (hg : gc st.length vs1 s1 = some (vs2, st2)) : Runs lp f args st (Ga vs2, st2) := by
 unfold runE at h
 split at h
 ·cases h
 ·rename_i hsm
  split at h
  ·cases h
  ·rename_i lf hlf
   split at h
   ·cases h
   ·rename_i out t1 st1' ps1 os1 hne hex
    split at h
    ·rename_i vs' hvs
     simp only [Option.some.injEq, Prod.mk.injEq] at h
     obtain ⟨rfl, rfl, rfl⟩ := h
     obtain ⟨n, hn⟩ := Bo hex hp.all
     refine ⟨n + 1, ?_⟩
     simp only [Cq, hsm, hlf, hn]
     cases out with
     | exit i => exact (hne i rfl).elim
     | normal => simp only [hvs, hf, hg]
     | ret => simp only [hvs, hf, hg]
    ·cases h
   ·cases h
def S3 (lp : A3) (N k : Nat) (mask : List Bool) (c : Bd) (t : List LV) (st : List LObj) (os : Os) : Option (List LV × List LObj × List Prop) :=
 match B5 lp k N c t st os with
 | some (.normal, t', st', ps, _) => some (kill mask t', st', ps)
 | _ => none
theorem LoopAt.onS {lp : A3} {N k : Nat} {mask : List Bool} {c : Bd} {t t1 t' : List LV} {st st1 st' : List LObj} {os : Os} {ps : List Prop} {r : Cg × List LV × List LObj}
  (h : S3 lp N k mask c t st os = some (t1, st1, ps)) (hp : Conj ps) (hg : gc k t1 st1 = some (t', st')) (hr : LoopAt lp k mask c t' st' r) : LoopAt lp k mask c t st r := by
 unfold S3 at h
 split at h
 ·rename_i t2 st2 ps1 os1 hex
  simp only [Option.some.injEq, Prod.mk.injEq] at h
  obtain ⟨rfl, rfl, rfl⟩ := h
  obtain ⟨n, hn⟩ := (Bo hex hp.all).at
  obtain ⟨m, hm⟩ := hr
  refine ⟨max n m + 1, ?_⟩
  rw [hn (max n m + 1) (by omega)]
  simp only [Ay, hg]
  cases he : Ay (Cq lp m) k m c t' st' with
  | none => rw [he] at hm; cases hm
  | some x =>
   obtain ⟨o2, t3, st3⟩ := x
   rw [he] at hm
   rw [Az (Bg (show m ≤ max n m + 1 by omega)) (show m ≤ max n m by omega) he]
   cases o2 with
   | normal => exact Az (Bg (by omega)) (by omega) hm
   | _ => exact hm
 ·cases h
theorem Qp {st sh : List LObj} (hr : st.map LObj.refs = sh.map LObj.refs) (o : Nat) : ((st[o]?).getD .dead).refs = ((sh[o]?).getD .dead).refs := by
 have h : (st.map LObj.refs)[o]? = (sh.map LObj.refs)[o]? := by rw [hr]
 rw [List.getElem?_map, List.getElem?_map] at h
 cases h1 : st[o]? with
 | none => cases h2 : sh[o]? with
  | none => rfl
  | some y => rw [h1, h2] at h; cases h
 | some x => cases h2 : sh[o]? with
  | none => rw [h1, h2] at h; cases h
  | some y => rw [h1, h2] at h; simpa using h
theorem Oq {st sh : List LObj} (hr : st.map LObj.refs = sh.map LObj.refs) : ∀ (n : Nat) (todo acc : List Nat), Dn st n todo acc = Dn sh n todo acc := by
 intro n
 induction n with
 | zero => intro todo acc; cases todo <;> rfl
 | succ n ih =>
  intro todo acc
  cases todo with
  | nil => rfl
  | cons o r => simp only [Dn, ih, Qp hr o]
theorem Mx {st sh : List LObj} (hr : st.map LObj.refs = sh.map LObj.refs) (ids : List Nat) : C9 st ids = C9 sh ids := by
 have hl : st.length = sh.length := by have := congrArg List.length hr; simpa using this
 unfold C9
 rw [hl]
 congr 1
 funext o
 rw [Qp hr o]
def gcSh (k : Nat) (vs : List LV) (st : List LObj) : Option (List LV × List Nat) :=
 let ids := H7 k st (vs.flatMap LV.refs)
 if C9 st ids && (vs.flatMap LV.refs).all (ids.contains ·) && decide ids.Nodup && decide (ids.take k = List.range k) then
  some (vs.map (LV.ren fun q => ids.idxOf q), ids)
 else none
theorem B0 {k : Nat} {vs vs' : List LV} {st sh st' : List LObj} {ids : List Nat} (hr : st.map LObj.refs = sh.map LObj.refs) (hc : gcSh k vs sh = some (vs', ids)) (hs : sub st ids = st') : gc k vs st = some (vs', st') := by
 have e : H7 k st (vs.flatMap LV.refs) = H7 k sh (vs.flatMap LV.refs) := by
  unfold H7
  rw [Oq hr]
  congr 2
  have : ∀ l : List LObj, l.flatMap LObj.refs = (l.map LObj.refs).flatten := fun l => by rw [List.flatMap_def]
  rw [this, this, List.map_take, List.map_take, hr]
 unfold gcSh at hc
 unfold gc
 simp only at hc ⊢
 rw [e, Mx hr]
 split at hc
 ·rename_i h
  rw [if_pos h]
  simp only [Option.some.injEq, Prod.mk.injEq] at hc
  obtain ⟨rfl, h2⟩ := hc
  rw [← h2] at hs
  rw [hs]
 ·cases hc
end Go.LS
set_option linter.unusedVariables false
set_option linter.unusedSimpArgs false
namespace Go.LS
def Ka (u : Nat) : List UInt8 := if u < 128 then [UInt8.ofNat u] else UInt8.ofNat (u % 128 + 128) :: Ka (u / 128)
termination_by u
decreasing_by omega
end Go.LS
namespace Go.LS
end Go.LS
namespace Go.LS
theorem Bv {n : Int} (h0 : -9223372036854775808 ≤ n) (h1 : n ≤ 9223372036854775807) : IntKind.wrap .i64 n = n := by
 simp only [IntKind.wrap, IntKind.bits, IntKind.signed]
 simp
 omega
end Go.LS
namespace Go.LS
end Go.LS
namespace Go.LS
end Go.LS
namespace Go.LS
theorem Ln {M : List UInt8} {k : IntKind} {hi : Int} {st : List LObj} (h0 : 0 ≤ hi) (h : hi ≤ (M.length : Int)) :
  Ae Ar [] st (.sslice (.const (.p (.str M))) none (some (.const (.p (.int k hi)))) none) = some (.p (.str (M.take hi.toNat)), st) := by
 simp [Ae, LX.ev, F3, bnd, h0, h]
theorem Ao {lp : A3} {f : FuncId} {args : List LV} {st : List LObj} {c : Prop} [Decidable c] {a b : LV × List LObj} (k : c) (h : Runs lp f args st a) : Runs lp f args st (if c then a else b) := by rwa [if_pos k]
theorem Ap {lp : A3} {f : FuncId} {args : List LV} {st : List LObj} {c : Prop} [Decidable c] {a b : LV × List LObj} (k : ¬ c) (h : Runs lp f args st b) : Runs lp f args st (if c then a else b) := by rwa [if_neg k]
theorem Av {v : LV} {E : List (List PV)} {e : List PV} {z : Nat} {i : Nat} {st : List LObj} (hv : v.asSl = some E) (hr : v.isRs = false) (h : E[i]? = some e) (hz : e.length = z) :
  Ae Ar [] st (.indexAddr z (.const v) (.const (.p (.int .i64 ((i : Nat) : Int))))) = some (.pin e 0, st) := by
 have h0 : ¬ ((i : Int) < 0) := by omega
 cases v <;> simp only [LV.isRs, Bool.true_eq_false] at hr <;> simp only [LV.asSl] at hv <;> first | (cases hv; done) | skip
 all_goals simp [Ae, LX.ev, LV.asInt, LV.asSl, hv, h, h0, hz]
end Go.LS
set_option linter.unusedVariables false
set_option linter.unusedSimpArgs false
namespace Go.LS
theorem Fu {size bytes : Nat} {E X : List (List PV)} {st : List LObj} {x : LV} (hx : Fb false st x = some X) (hE : Da size E = true) (hX : Da size X = true) (hne : X ≠ [])
  (hb : (E.length + X.length) * bytes ≤ 140737488355328) (hm : E.length + X.length ≤ 9223372036854775807) (h0 : 0 < size) :
  Ae Ar [] st (.append false size bytes (.const (.tight E)) (.const x)) = some (.sl (E ++ X) st.length (E ++ X).length, st ++ [.spare size (E ++ X).length]) := by
 have : X.isEmpty = false := by cases X <;> simp_all
 refine O8 ?_
 simp [LX.ev, Dy, hx, hX, hE, this, H5 hb, maxLen, hm, h0]
theorem Fv {size bytes tg : Nat} {E X : List (List PV)} {st : List LObj} {x : LV} (hs : st[tg]? = some (.spare size E.length)) (hx : Fb false st x = some X) (hX : Da size X = true)
  (hb : (E.length + X.length) * bytes ≤ 140737488355328) (hm : E.length + X.length ≤ 9223372036854775807) (h0 : 0 < size) :
  Ae Ar [] st (.append false size bytes (.const (.sl E tg E.length)) (.const x)) = some (.sl (E ++ X) tg (E ++ X).length, st.set tg (.spare size (E ++ X).length)) := by
 by_cases hM : X = []
 ·subst hM
  refine O8 ?_
  simp [LX.ev, Dy, hx, hX, hs]
  obtain ⟨h1, h2⟩ := List.getElem?_eq_some_iff.1 hs
  conv => rhs; rw [← h2]
  simp
 ·have : X.isEmpty = false := by cases X <;> simp_all
  refine O8 ?_
  simp [LX.ev, Dy, hx, hX, hs, this, H5 hb, maxLen, hm, h0, hM]
theorem Bi {M : List UInt8} {i : Nat} {st : List LObj} (h : i < M.length) :
  Ae Ar [] st (.index (.const (.p (.str M))) (.const (.p (.int .i64 ((i : Nat) : Int))))) = some (.p (.int .u8 ((M.getD i 0).toNat : Int)), st) := by
 simp [Ae, LX.ev, LV.asInt, h]
end Go.LS
namespace Go.LS
theorem okArg {agg : Bool} {ts : List Cty} {r : List (Bool × List Cty)} {l : List LV} (h : OkArgs ((agg, ts) :: r) l) : ∃ ps m, l = Ms agg ps :: m ∧ Bk ts ps ∧ OkArgs r m := h
theorem okEnd {l : List LV} (h : OkArgs [] l) : l = [] := h
theorem okSl {u : List Cty} {b : Nat} {ts : List Cty} {ps : List PV} (h : Bk (.sl u b :: ts) ps) : ∃ n r, ps = .sl n :: r ∧ (n.length * b ≤ reachBytes ∧ n.length ≤ maxLen ∧ ∀ e ∈ n, Bk u e) ∧ Bk ts r := by
 obtain ⟨_, r, rfl, ⟨n, rfl, h1⟩, h2⟩ := h
 exact ⟨n, r, rfl, h1, h2⟩
theorem okNil {ps : List PV} (h : Bk [] ps) : ps = [] := h
end Go.LS
set_option linter.unusedVariables false
namespace Go.LS
def Fi {α σ ρ : Type} (f : σ → α → ρ ⊕ σ) (e : σ → ρ) : σ → List α → ρ
 | s, [] => e s
 | s, x :: r => match f s x with
  | .inl y => y
  | .inr s' => Fi f e s' r
theorem Et {α : Type} {xs : List α} {i : Nat} {x : α} (h : xs[i]? = some x) : xs.drop i = x :: xs.drop (i + 1) := by
 obtain ⟨hi, rfl⟩ := List.getElem?_eq_some_iff.1 h
 exact List.drop_eq_getElem_cons hi
theorem G6 {α σ : Type} {lp : A3} {k : Nat} {L : List Bool × Bd} (T : Nat → σ → List LV) (S : Nat → σ → List LObj) (xs : List α) (f : σ → α → (Cg × List LV × List LObj) ⊕ σ) (e : σ → Cg × List LV × List LObj) (Inv : Nat → σ → Prop)
  (hs : ∀ i s x, xs[i]? = some x → Inv i s → (∀ r, f s x = .inl r → LoopN lp k L (T i s) (S i s) r) ∧ ∀ s', f s x = .inr s' → Inv (i + 1) s' ∧ ∀ r, LoopN lp k L (T (i + 1) s') (S (i + 1) s') r → LoopN lp k L (T i s) (S i s) r)
  (he : ∀ s, Inv xs.length s → LoopN lp k L (T xs.length s) (S xs.length s) (e s)) (s0 : σ) (h0 : Inv 0 s0) : LoopN lp k L (T 0 s0) (S 0 s0) (Fi f e s0 xs) := by
 have key : ∀ n i s, n + i = xs.length → Inv i s → LoopN lp k L (T i s) (S i s) (Fi f e s (xs.drop i)) := by
  intro n
  induction n with
  | zero =>
   intro i s h hi
   obtain rfl : i = xs.length := by omega
   rw [List.drop_length]
   exact he s hi
  | succ n ih =>
   intro i s h hi
   have hx : xs[i]? = some (xs[i]'(by omega)) := List.getElem?_eq_getElem (by omega)
   rw [Et hx]
   obtain ⟨h1, h2⟩ := hs i s _ hx hi
   simp only [Fi]
   cases hf : f s (xs[i]'(by omega)) with
   | inl r => exact h1 r hf
   | inr s' =>
    obtain ⟨h3, h4⟩ := h2 s' hf
    exact h4 _ (ih (i + 1) s' (by omega) h3)
 have := key xs.length 0 s0 (by omega) h0
 rwa [List.drop_zero] at this
theorem Fj {α : Type} {lp : A3} {k : Nat} {L : List Bool × Bd} (T : Nat → List LV) (S : List LObj) (xs : List α) (p : α → Bool) {rF rT : Cg × List LV × List LObj}
  (hF : ∀ i x, xs[i]? = some x → p x = false → LoopN lp k L (T i) S rF) (hS : ∀ i x r, xs[i]? = some x → p x = true → LoopN lp k L (T (i + 1)) S r → LoopN lp k L (T i) S r)
  (hE : LoopN lp k L (T xs.length) S rT) : LoopN lp k L (T 0) S (if xs.all p = true then rT else rF) := by
 have := G6 (σ := Unit) (fun i _ => T i) (fun _ _ => S) xs (fun _ x => if p x = true then .inr () else .inl rF) (fun _ => rT) (fun _ _ => True)
  (fun i s x hx _ => by
    cases hp : p x with
    | true => simp only [if_true]; exact ⟨fun r h => (by cases h), fun s' _ => ⟨trivial, fun r hr => hS i x r hx hp hr⟩⟩
    | false => simp only [Bool.false_eq_true, if_false]; exact ⟨fun r h => (by cases h; exact hF i x hx hp), fun s' h => (by cases h)⟩)
  (fun _ _ => hE) () trivial
 have e : ∀ l : List α, Fi (fun (_ : Unit) x => if p x = true then (.inr () : (Cg × List LV × List LObj) ⊕ Unit) else .inl rF) (fun _ => rT) () l = if l.all p = true then rT else rF := by
  intro l
  induction l with
  | nil => rfl
  | cons x r ih =>
   have e1 : (x :: r).all p = (p x && r.all p) := rfl
   simp only [Fi, e1]
   by_cases hp : p x = true
   ·simp only [hp, if_true, Bool.true_and]; exact ih
   ·simp only [hp, Bool.false_and, Bool.false_eq_true, if_false]
 rw [e] at this
 exact this
theorem G7 {α σ : Type} {lp : A3} {k : Nat} {L : List Bool × Bd} (T : Nat → σ → List LV) (S : Nat → σ → List LObj) (xs : List α) (f : σ → α → σ) (e : σ → Cg × List LV × List LObj) (Inv : Nat → σ → Prop)
  (hS : ∀ i s x r, xs[i]? = some x → Inv i s → Inv (i + 1) (f s x) ∧ (LoopN lp k L (T (i + 1) (f s x)) (S (i + 1) (f s x)) r → LoopN lp k L (T i s) (S i s) r))
  (hE : ∀ s, Inv xs.length s → LoopN lp k L (T xs.length s) (S xs.length s) (e s)) (s0 : σ) (h0 : Inv 0 s0) : LoopN lp k L (T 0 s0) (S 0 s0) (e (xs.foldl f s0)) := by
 have := G6 T S xs (fun s x => .inr (f s x)) e Inv (fun i s x hx hi => ⟨fun r h => (by cases h), fun s' h => (by cases h; exact ⟨(hS i s x (e s) hx hi).1, fun r hr => (hS i s x r hx hi).2 hr⟩)⟩) hE s0 h0
 have e2 : ∀ (l : List α) s, Fi (fun s x => (.inr (f s x) : (Cg × List LV × List LObj) ⊕ σ)) e s l = e (l.foldl f s) := by
  intro l
  induction l with
  | nil => intro s; rfl
  | cons x r ih => intro s; simp only [Fi, List.foldl_cons]; exact ih _
 rw [e2] at this
 exact this
theorem LoopAt.onG {lp : A3} {N k : Nat} {mask : List Bool} {c : Bd} {t t1 t2 t3 : List LV} {st st1 st3 : List LObj} {os os' : Os} {ps : List Prop} {r : Cg × List LV × List LObj}
  (h : B5 lp k N c t st os = some (.normal, t1, st1, ps, os')) (hk : kill mask t1 = t2) (hg : gc k t2 st1 = some (t3, st3)) (hp : Conj ps) (hr : LoopAt lp k mask c t3 st3 r) : LoopAt lp k mask c t st r := by
 refine LoopAt.on (N := N) (os := os) (ps := ps) (t' := t3) (st' := st3) ?_ hp hr
 unfold Jl
 rw [h]
 simp only [hk, hg]
theorem nx {i : Nat} (h : i ≤ 1000000000000000) : IntKind.wrap .i64 ((i : Int) + 1) = ((i + 1 : Nat) : Int) := by
 rw [Bv (by omega) (by omega)]; rfl
end Go.LS
set_option linter.unusedVariables false
set_option linter.unusedSimpArgs false
namespace Go.LS
inductive Val where
 | mk (kind int : Int) (text : List UInt8) (items : List Val) (names : List (List UInt8))
 deriving Inhabited
def Ab (ns : List (List UInt8)) : List (List PV) := ns.map fun x => [.str x]
mutual
def Jm : Val → List PV
 | .mk k n s is ns => [.int .i64 k, .int .i64 n, .str s, .sl (Ac is), .sl (Ab ns)]
def Ac : List Val → List (List PV)
 | [] => []
 | v :: r => Jm v :: Ac r
end
abbrev B9 : Val → LV
 | .mk k n s is ns => .agg [.p (.int .i64 k), .p (.int .i64 n), .p (.str s), .p (.sl (Ac is)), .p (.sl (Ab ns))]
theorem Ca : ∀ (l : List Val), Ac l = l.map Jm
 | [] => rfl
 | v :: r => by rw [Ac, Ca r]; rfl
theorem Ah (l : List Val) : (Ac l).length = l.length := by rw [Ca, List.length_map]
theorem Ak (l : List (List UInt8)) : (Ab l).length = l.length := by simp [Ab]
theorem D6 : ∀ (v : Val), (Jm v).length = 5
 | .mk .. => rfl
theorem A6 {l : List Val} {i : Nat} {v : Val} (h : l[i]? = some v) : (Ac l)[i]? = some (Jm v) := by rw [Ca, List.getElem?_map, h]; rfl
theorem A7 {l : List (List UInt8)} {i : Nat} (h : i < l.length) : (Ab l)[i]? = some [.str (l.getD i [])] := by
 simp [Ab, h]
theorem Val.ind {P : Val → Prop} (h : ∀ k n s is ns, (∀ v ∈ is, P v) → P (.mk k n s is ns)) : ∀ v, P v
 | .mk k n s is ns => h k n s is ns fun v hv => Val.ind h v
def Aw (s : List UInt8) : Bool := !(s.contains 46) && decide (1 ≤ s.length) && decide (s.length ≤ 32) && !(s.headD 0 == 36)
def Bf : List (List UInt8) → Bool
 | [] => false
 | x :: r => r.contains x || Bf r
def Dt (k n : Int) (s : List UInt8) (l : Nat) (ns : List (List UInt8)) : Bool :=
 if k == 1 then n == 0 && s == [] && decide (l = 0) && decide (ns.length = 0)
 else if k == 2 then (decide (0 ≤ n) && decide (n ≤ 1)) && s == [] && decide (l = 0) && decide (ns.length = 0)
 else if k == 3 then s == [] && decide (l = 0) && decide (ns.length = 0)
 else if k == 4 || k == 5 then n == 0 && decide (l = 0) && decide (ns.length = 0)
 else if k == 6 then n == 0 && s == [] && decide (ns.length = 0)
 else if k == 7 then n == 0 && s == [] && decide (ns.length = l) && !Bf ns
 else false
def Bp (ns : List (List UInt8)) : Bool := ns.all Aw && !Bf ns
mutual
def Bc : Val → Bool
 | .mk k n s is ns => Bj is && ns.all Aw && Dt k n s is.length ns
def Bj : List Val → Bool
 | [] => true
 | v :: r => Bc v && Bj r
end
mutual
def Pv : Val → Int
 | .mk _ _ _ is _ => Lo is + 1
def Lo : List Val → Int
 | [] => 0
 | v :: r => max (Pv v) (Lo r)
end
theorem Eu : ∀ (l : List Val), Bj l = l.all Bc
 | [] => rfl
 | v :: r => by rw [Bj, Eu r]; rfl
def zzN (x : Int) : Nat := if 0 ≤ x then (2 * x).toNat else (-(2 * x) - 1).toNat
def clenN (n : Nat) : Int := ((Ka n).length : Int)
def tlenN (s : List UInt8) : Int := ((Ka s.length).length : Int) + s.length
mutual
def sizeV : Val → Int
 | .mk k n s is ns => if k == 2 then 2 else if k == 3 then 1 + ((Ka (zzN n)).length : Int) else if k == 4 || k == 5 then 1 + tlenN s
  else if k == 6 then 1 + clenN is.length + S4 is else if k == 7 then 1 + clenN is.length + S4 is + (ns.map tlenN).sum else 1
def S4 : List Val → Int
 | [] => 0
 | v :: r => sizeV v + S4 r
end
mutual
def B1 : Int → Val → Int
 | d, .mk _ _ _ is ns => if d > 40 then 1048576 else Ci (IntKind.wrap .i64 (d + 1)) (IntKind.wrap .i64 (1 + (ns.length : Int))) is
def Ci : Int → Int → List Val → Int
 | _, m, [] => m
 | d, m, v :: r => if m < 65536 then Ci d (IntKind.wrap .i64 (m + B1 d v)) r else m
end
def Ev (v : Val) : Bool := decide (B1 0 v > 3000)
mutual
def Do : Val → Val → Bool
 | .mk k n s is ns, .mk k' n' s' is' ns' => (k == k') && (n == n') && (s == s') && Dp is is' && (ns == ns')
def Dp : List Val → List Val → Bool
 | [], [] => true
 | v :: r, v' :: r' => Do v v' && Dp r r'
 | _, _ => false
end
def S5 (a b : Int) : Int := if a < b then -1 else if a > b then 1 else 0
def U0 (a b : List UInt8) : Int := if Op.bytesLess a b = true then -1 else if (!(Op.bytesLess a b || a == b)) = true then 1 else 0
mutual
def cmpV : Val → Val → Int
 | .mk k n s is ns, .mk k' n' s' is' ns' => if S5 k k' ≠ 0 then S5 k k' else if S5 n n' ≠ 0 then S5 n n' else if U0 s s' ≠ 0 then U0 s s' else
  match cmpL (k == 7) is is' ns ns' with
  | some c => c
  | none => S5 is.length is'.length
def cmpL : Bool → List Val → List Val → List (List UInt8) → List (List UInt8) → Option Int
 | d, v :: r, w :: q, ns, ms => if d = true ∧ U0 (ns.headD []) (ms.headD []) ≠ 0 then some (U0 (ns.headD []) (ms.headD [])) else
  if cmpV v w ≠ 0 then some (cmpV v w) else cmpL d r q ns.tail ms.tail
 | _, _, _, _, _ => none
end
mutual
def okV : Val → Prop
 | .mk k n s is ns => (-9223372036854775808 ≤ k ∧ k ≤ 9223372036854775807) ∧ (-9223372036854775808 ≤ n ∧ n ≤ 9223372036854775807) ∧ s.length ≤ 140737488351232 ∧ is.length * 80 ≤ 140737488355328 ∧ ns.length * 16 ≤ 140737488355328 ∧ (∀ x ∈ ns, x.length ≤ 140737488351232) ∧ okL is
def okL : List Val → Prop
 | [] => True
 | v :: r => okV v ∧ okL r
end
theorem Nu : ∀ {l : List Val}, okL l ↔ ∀ v ∈ l, okV v
 | [] => by simp [okL]
 | v :: r => by rw [okL, Nu (l := r)]; simp
theorem Nv : ∀ {es : List (List PV)}, (∀ e ∈ es, Bk [.str] e) → ∃ ns : List (List UInt8), es = Ab ns ∧ ∀ x ∈ ns, x.length ≤ 140737488351232
 | [], _ => ⟨[], rfl, by simp⟩
 | e :: r, h => by
  obtain ⟨ns, rfl, hn⟩ := Nv (es := r) (fun x hx => h x (List.mem_cons_of_mem _ hx))
  obtain ⟨_, _, rfl, ⟨s, rfl, hs⟩, rfl⟩ := h e (List.mem_cons_self ..)
  refine ⟨s :: ns, rfl, fun x hx => ?_⟩
  rcases List.mem_cons.1 hx with rfl | hx
  ·simp [reachBytes] at hs; omega
  ·exact hn x hx
theorem S6 {Q : List PV → Prop} (hQ : ∀ {es : List (List PV)}, (∀ e ∈ es, Q e) → ∃ l : List Val, es = Ac l ∧ okL l) {e : List PV}
  (h : Bk [.int .i64, .int .i64, .str, .pr Q 80, .sl [.str] 16] e) : ∃ v : Val, e = Jm v ∧ okV v := by
 obtain ⟨_, _, rfl, ⟨a, rfl, a0, a1⟩, _, _, rfl, ⟨b, rfl, b0, b1⟩, _, _, rfl, ⟨s, rfl, hs⟩, _, _, rfl, ⟨es, rfl, e1, -, e3⟩, _, _, rfl, ⟨ns, rfl, n1, -, n3⟩, rfl⟩ := h
 obtain ⟨l, rfl, hl⟩ := hQ e3
 obtain ⟨m, rfl, hm⟩ := Nv n3
 refine ⟨.mk a b s l m, rfl, ⟨⟨a0, a1⟩, ⟨b0, b1⟩, ?_, ?_, ?_, hm, hl⟩⟩
 ·simp [reachBytes] at hs; omega
 ·rw [Ah] at e1; simp [reachBytes] at e1; omega
 ·rw [Ak] at n1; simp [reachBytes] at n1; omega
theorem okVals {P : Program} {cut : List TypeId} {N : Nat} {T : TypeId} (hT : ∀ Q, tyT P cut Q N T = some [.int .i64, .int .i64, .str, .pr (Q T) 80, .sl [.str] 16]) :
  ∀ (k : Nat) {es : List (List PV)}, (∀ e ∈ es, RecOk P cut N k T e) → ∃ l : List Val, es = Ac l ∧ okL l := by
 intro k
 induction k with
 | zero =>
  intro es h
  cases es with
  | nil => exact ⟨[], rfl, trivial⟩
  | cons e r => exact (h e (List.mem_cons_self ..)).elim
 | succ k ih =>
  intro es
  induction es with
  | nil => exact fun _ => ⟨[], rfl, trivial⟩
  | cons e r ihr =>
   intro h
   obtain ⟨l, rfl, hl⟩ := ihr fun x hx => h x (List.mem_cons_of_mem _ hx)
   obtain ⟨ts, h1, h2⟩ := h e (List.mem_cons_self ..)
   rw [hT] at h1
   cases h1
   obtain ⟨v, rfl, hv⟩ := S6 (fun h => ih h) h2
   exact ⟨v :: l, rfl, hv, hl⟩
theorem okValA {Q : List PV → Prop} (hQ : ∀ {es : List (List PV)}, (∀ e ∈ es, Q e) → ∃ l : List Val, es = Ac l ∧ okL l) {e : List PV}
  (h : Bk [.int .i64, .int .i64, .str, .pr Q 80, .sl [.str] 16] e) : ∃ v : Val, (.agg (e.map .p) : LV) = B9 v ∧ okV v := by
 obtain ⟨v, rfl, hv⟩ := S6 hQ h
 exact ⟨v, by cases v; rfl, hv⟩
theorem Eb (a b : List Val) : Ac (a ++ b) = Ac a ++ Ac b := by simp [Ca]
theorem Cy (l : List (List UInt8)) : Da 1 (Ab l) = true := by
 simp only [Da, List.all_eq_true, Ab, List.mem_map]
 rintro _ ⟨v, _, rfl⟩
 rfl
theorem Lp {tg : Nat} {es : List Val} {k n : Int} {s : List UInt8} {is : List Val} {ns : List (List UInt8)} {st : List LObj} (hs : st[tg]? = some (.spare 5 (List.length (Ac es)))) (hb : (es.length + 1) * 80 ≤ 140737488355328) :
  Ae Ar [] st (.append false 5 80 (.const (.sl (Ac es) tg (List.length (Ac es)))) (.const (.tight [[.int .i64 k, .int .i64 n, .str s, .sl (Ac is), .sl (Ab ns)]]))) =
   some (.sl (Ac (es ++ [.mk k n s is ns])) tg (List.length (Ac (es ++ [.mk k n s is ns]))), st.set tg (.spare 5 (List.length (Ac (es ++ [.mk k n s is ns]))))) := by
 have := Fv (size := 5) (bytes := 80) (tg := tg) (E := Ac es) (X := [[.int .i64 k, .int .i64 n, .str s, .sl (Ac is), .sl (Ab ns)]]) (st := st) (x := .tight [[.int .i64 k, .int .i64 n, .str s, .sl (Ac is), .sl (Ab ns)]]) hs rfl rfl
  (by rw [Ah]; exact hb) (by rw [Ah]; simp; omega) (by decide)
 rw [this, Eb]
 rfl
theorem Lq {k n : Int} {s : List UInt8} {is : List Val} {ns : List (List UInt8)} {st : List LObj} :
  Ae Ar [] st (.append false 5 80 (.const (.tight [])) (.const (.tight [[.int .i64 k, .int .i64 n, .str s, .sl (Ac is), .sl (Ab ns)]]))) =
   some (.sl (Ac [.mk k n s is ns]) st.length (List.length (Ac [.mk k n s is ns])), st ++ [.spare 5 (List.length (Ac [.mk k n s is ns]))]) := by
 exact Fu (size := 5) (bytes := 80) (E := []) (X := [[.int .i64 k, .int .i64 n, .str s, .sl (Ac is), .sl (Ab ns)]]) (st := st) (x := .tight [[.int .i64 k, .int .i64 n, .str s, .sl (Ac is), .sl (Ab ns)]]) rfl rfl rfl (by simp) (by simp) (by simp) (by decide)
def Bq (ms : List (List UInt8)) : List (PV × LV) := ms.map fun x => (.str x, .p (.bool true))
theorem Lr (x : List UInt8) : ∀ (ms : List (List UInt8)), F6 (.str x) (Bq ms) = some (if ms.contains x then some (.p (.bool true)) else none)
 | [] => rfl
 | y :: r => by
  have ih := Lr x r
  rw [Bq] at ih
  simp only [Bq, List.map_cons, F6, I5]
  by_cases h : x = y
  ·subst h; simp
  ·have h2 : (x == y) = false := by simpa using h
   rw [h2]
   simp only [ih, List.contains_cons, h2, Bool.false_or]
theorem My (x : List UInt8) : ∀ (ms : List (List UInt8)), ms.contains x = false → L7 (.str x) (.p (.bool true)) (Bq ms) = some (Bq (ms ++ [x]))
 | [], _ => rfl
 | y :: r, h => by
  rw [List.contains_cons, Bool.or_eq_false_iff] at h
  have ih := My x r h.2
  rw [Bq] at ih
  simp only [Bq, List.map_cons, L7, I5, h.1, ih, List.cons_append]
theorem Ls (ms : List (List UInt8)) : (LObj.map (Bq ms)).refs = [] := by
 simp only [LObj.refs, Bq, List.flatMap_map]
 induction ms with
 | nil => rfl
 | cons x r ih => simp [LV.refs]
theorem Re (r : Nat → Nat) (ms : List (List UInt8)) : LObj.ren r (.map (Bq ms)) = .map (Bq ms) := by
 simp [LObj.ren, Bq, LV.ren]
theorem U1 {ms : List (List UInt8)} {vs : List LV} (h1 : vs.flatMap LV.refs = [0]) (h2 : vs.map (LV.ren fun q => [0].idxOf q) = vs) : gc 0 vs [.map (Bq ms)] = some (vs, [.map (Bq ms)]) := by
 have hr : H7 0 [.map (Bq ms)] (vs.flatMap LV.refs) = [0] := by
  rw [h1]
  unfold H7
  rw [show (100000 : Nat) = 99998 + 1 + 1 from rfl]
  simp [Dn, Ls]
 unfold gc
 simp only [hr]
 rw [h1, h2]
 simp [C9, Ls, sub, Re]
theorem Mz {st : List LObj} {ms : List (List UInt8)} {x : List UInt8} {o : Nat} (h : st[o]? = some (.map (Bq ms))) :
  Ae Ar [] st (.lookup .str (.p (.bool false)) false (.const (.mp o)) (.const (.p (.str x)))) = some (.p (.bool (ms.contains x)), st) := by
 simp only [Ae, LX.ev, LV.toPV, KK.fits, Qc, h, Lr]
 cases ms.contains x <;> rfl
theorem S7 {st : List LObj} {ms : List (List UInt8)} {x : List UInt8} {o : Nat} (h : st[o]? = some (.map (Bq ms))) (hx : ms.contains x = false) :
  Ae Ar [] st (.mapUpdate .str (.const (.mp o)) (.const (.p (.str x))) (.const (.p (.bool true)))) = some (.tup [], st.set o (.map (Bq (ms ++ [x])))) := by
 simp only [Ae, LX.ev, LV.toPV, KK.fits, h, My x ms hx]
 rfl
end Go.LS
set_option linter.unusedVariables false
namespace Go.LS
def u8 (x : Int) : UInt8 := UInt8.ofNat (Int.toNat (IntKind.wrap .u8 x))
mutual
def encC : Val → List UInt8
 | .mk k n s is ns => u8 k :: (if k == 1 then [] else if k == 2 then [u8 n] else if k == 3 then Ka (zzN n) else if k == 4 || k == 5 then Ka s.length ++ s
  else Ka is.length ++ encL (k == 7) is ns)
def encL : Bool → List Val → List (List UInt8) → List UInt8
 | _, [], _ => []
 | d, v :: r, ns => (if d then Ka (ns.headD []).length ++ ns.headD [] else []) ++ encC v ++ encL d r ns.tail
end
theorem Dk (a b : List (List UInt8)) : Ab (a ++ b) = Ab a ++ Ab b := by simp [Ab]
theorem Lt {tg : Nat} {es : List (List UInt8)} {s : List UInt8} {st : List LObj} (hs : st[tg]? = some (.spare 1 (List.length (Ab es)))) (hb : (es.length + 1) * 16 ≤ 140737488355328) :
  Ae Ar [] st (.append false 1 16 (.const (.sl (Ab es) tg (List.length (Ab es)))) (.const (.tight [[.str s]]))) =
   some (.sl (Ab (es ++ [s])) tg (List.length (Ab (es ++ [s]))), st.set tg (.spare 1 (List.length (Ab (es ++ [s]))))) := by
 have := Fv (size := 1) (bytes := 16) (tg := tg) (E := Ab es) (X := [[.str s]]) (st := st) (x := .tight [[.str s]]) hs rfl rfl
  (by rw [Ak]; exact hb) (by rw [Ak]; simp; omega) (by decide)
 rw [this, Dk]
 rfl
theorem Lu {s : List UInt8} {st : List LObj} :
  Ae Ar [] st (.append false 1 16 (.const (.tight [])) (.const (.tight [[.str s]]))) =
   some (.sl (Ab [s]) st.length (List.length (Ab [s])), st ++ [.spare 1 (List.length (Ab [s]))]) := by
 exact Fu (size := 1) (bytes := 16) (E := []) (X := [[.str s]]) (st := st) (x := .tight [[.str s]]) rfl rfl rfl (by simp) (by simp) (by simp) (by decide)
end Go.LS
set_option linter.unusedVariables false
namespace Go.LS
theorem Hy (n : Nat) (ms : List (List UInt8)) : (Ab ms).take n = Ab (ms.take n) := by simp [Ab, List.map_take]
end Go.LS
set_option linter.unusedVariables false
namespace Go.LS
end Go.LS
namespace Go.LS
theorem dlt {i n : Nat} (h : i < n) : decide ((i : Int) < ((n : Nat) : Int)) = true := decide_eq_true (by omega)
theorem dlt_n {n : Nat} : decide (((n : Nat) : Int) < ((n : Nat) : Int)) = false := decide_eq_false (by omega)
theorem ifE {lp : A3} {f : FuncId} {a : List LV} {s : List LObj} {x y : LV × List LObj} (h : Runs lp f a s x) (e : x = y) : Runs lp f a s y := e ▸ h
end Go.LS
set_option linter.unusedVariables false
namespace Go.LS
def Cd : List UInt8 → Int → Option Int
 | [], n => some n
 | c :: r, n => if c.toNat < 48 || 57 < c.toNat then none else Cd r (10 * n + ((c.toNat : Int) - 48))
def C5 (s : List UInt8) : Option Int :=
 if s.length < 1 || 3 < s.length || (1 < s.length && (s.getD 0 0).toNat == 48) then none else Cd s 0
theorem Me {s : List UInt8} {i : Nat} (h : (s.getD i 0).toNat < 128) : Utf8.decode ⟨s.toArray⟩ i = ((s.getD i 0).toNat, 1) := by
 have e : (ByteArray.get! ⟨s.toArray⟩ (i + 0)) = s.getD i 0 := by
  show s.toArray[i]! = _
  simp [List.getD]
  rfl
 unfold Utf8.decode
 simp only [e]
 rw [if_pos h]
theorem Nw {s : List UInt8} {i : Nat} (h : ¬ (s.getD i 0).toNat < 128) : 128 ≤ (Utf8.decode ⟨s.toArray⟩ i).1 := by
 have e : (ByteArray.get! ⟨s.toArray⟩ (i + 0)) = s.getD i 0 := by
  show s.toArray[i]! = _
  simp [List.getD]
  rfl
 unfold Utf8.decode
 simp only [e]
 rw [if_neg h]
 repeat' split
 all_goals simp_all [Utf8.runeError, Utf8.valid]
 all_goals omega
theorem ixW32 {n : Int} {c : UInt8} (h0 : 0 ≤ n) (h1 : n ≤ 99) (c0 : ¬ c.toNat < 48) (c1 : ¬ 57 < c.toNat) :
  IntKind.wrap .i64 (IntKind.wrap .i64 (10 * n) + IntKind.wrap .i64 (IntKind.wrap .i32 ((c.toNat : Int) - 48))) = 10 * n + ((c.toNat : Int) - 48) := by
 have e : IntKind.wrap .i32 ((c.toNat : Int) - 48) = (c.toNat : Int) - 48 := by
  simp only [IntKind.wrap, IntKind.bits, IntKind.signed]
  simp
  omega
 rw [e, Bv (n := (c.toNat : Int) - 48) (by omega) (by omega), Bv (n := 10 * n) (by omega) (by omega), Bv (by omega) (by omega)]
theorem ixW8 {n : Int} {c : UInt8} (h0 : 0 ≤ n) (h1 : n ≤ 99) (c0 : ¬ c.toNat < 48) (c1 : ¬ 57 < c.toNat) :
  IntKind.wrap .i64 (IntKind.wrap .i64 (10 * n) + IntKind.wrap .i64 (IntKind.wrap .u8 ((c.toNat : Int) - 48))) = 10 * n + ((c.toNat : Int) - 48) := by
 have e : IntKind.wrap .u8 ((c.toNat : Int) - 48) = (c.toNat : Int) - 48 := by
  simp only [IntKind.wrap, IntKind.bits, IntKind.signed]
  simp
  omega
 rw [e, Bv (n := (c.toNat : Int) - 48) (by omega) (by omega), Bv (n := 10 * n) (by omega) (by omega), Bv (by omega) (by omega)]
theorem P4 {s : List UInt8} {i : Nat} {st : List LObj} (hs : st[0]? = some (.siter s i)) (h : ¬ i < s.length) :
  Ae Ar [] st (.next (.const (.it 0))) = some (.tup [.p (.bool false)], st) := by
 simp only [Ae, LX.ev, hs, if_neg h]
theorem Hz {s : List UInt8} {i : Nat} {st : List LObj} (hs : st[0]? = some (.siter s i)) (h : i < s.length) (ha : (s.getD i 0).toNat < 128) :
  Ae Ar [] st (.next (.const (.it 0))) = some (.tup [.p (.bool true), .p (.int .i64 (i : Int)), .p (.int .i32 ((s.getD i 0).toNat : Int))], st.set 0 (.siter s (i + 1))) := by
 simp only [Ae, LX.ev, hs, if_pos h, Me ha]
theorem P5 {s : List UInt8} {i : Nat} {st : List LObj} (hs : st[0]? = some (.siter s i)) (h : i < s.length) :
  Ae Ar [] st (.next (.const (.it 0))) = some (.tup [.p (.bool true), .p (.int .i64 (i : Int)), .p (.int .i32 ((Utf8.decode ⟨s.toArray⟩ i).1 : Int))], st.set 0 (.siter s (i + (Utf8.decode ⟨s.toArray⟩ i).2))) := by
 simp only [Ae, LX.ev, hs, if_pos h]
theorem H0 {tg : Nat} {E X : List (List UInt8)} {st : List LObj} (hs : st[tg]? = some (.spare 1 (List.length (Ab E)))) (hb : (E.length + X.length) * 16 ≤ 140737488355328) :
  Ae Ar [] st (.append false 1 16 (.const (.sl (Ab E) tg (List.length (Ab E)))) (.const (.p (.sl (Ab X))))) =
   some (.sl (Ab (E ++ X)) tg (List.length (Ab (E ++ X))), st.set tg (.spare 1 (List.length (Ab (E ++ X))))) := by
 have := Fv (size := 1) (bytes := 16) (tg := tg) (E := Ab E) (X := Ab X) (st := st) (x := .p (.sl (Ab X))) hs rfl (Cy X)
  (by rw [Ak, Ak]; exact hb) (by rw [Ak, Ak]; omega) (by decide)
 rw [this, Dk]
theorem By {X : List (List UInt8)} {st : List LObj} (h : decide (X = []) = true) :
  Ae Ar [] st (.append false 1 16 (.const (.tight [])) (.const (.p (.sl (Ab X))))) = some (.tight [], st) := by
 have h := of_decide_eq_true h
 subst h
 rfl
theorem Cz {X : List (List UInt8)} {st : List LObj} (h : decide (X = []) = false) (hb : X.length * 16 ≤ 140737488355328) :
  Ae Ar [] st (.append false 1 16 (.const (.tight [])) (.const (.p (.sl (Ab X))))) = some (.sl (Ab X) st.length (List.length (Ab X)), st ++ [.spare 1 (List.length (Ab X))]) := by
 have h := of_decide_eq_false h
 have := Fu (size := 1) (bytes := 16) (E := []) (X := Ab X) (st := st) (x := .p (.sl (Ab X))) rfl rfl (Cy X) (fun hh => h (by cases X with | nil => rfl | cons a b => simp [Ab] at hh)) (by rw [Ak]; simp; omega) (by rw [Ak]; simp; omega) (by decide)
 simpa using this
end Go.LS
set_option linter.unusedVariables false
namespace Go.LS
def F2 (s : List UInt8) : List (List UInt8) → Int → Int
 | [], _ => -1
 | x :: r, i => if s == x then i else F2 s r (i + 1)
def Aa : Val → List UInt8 → Int
 | .mk k _ _ is ns, s => if k == 7 then F2 s ns 0 else if k == 6 then (if Option.getD (C5 s) (-1) < (is.length : Int) then Option.getD (C5 s) (-1) else -1) else -1
theorem Jp {s : List UInt8} : ∀ (l : List (List UInt8)) (i : Int), l.contains s = false → F2 s l i = -1
 | [], _, _ => rfl
 | x :: r, i, h => by
  simp only [List.contains_cons, Bool.or_eq_false_iff] at h
  rw [F2, h.1]
  exact Jp r _ h.2
theorem M3 {size : Nat} {es : List (List PV)} {e : List PV} {j : Int} {st : List LObj} (h0 : 0 ≤ j) (he : es[Int.toNat j]? = some e) (hz : e.length = size) :
  Ae Ar [] st (.indexAddr size (.const (.p (.sl es))) (.const (.p (.int .i64 j)))) = some (.pin e 0, st) := by
 have h1 : ¬ (j < 0) := by omega
 simp only [Ae, LX.ev, LV.asInt, if_neg h1, LV.asSl, he, hz, if_true]
def Qt : Val → List Val | .mk _ _ _ is _ => is
def Ox : List (List UInt8) → Val → Option Val
 | [], v => some v
 | s :: r, v => if Aa v s < 0 then none else match (Qt v)[(Aa v s).toNat]? with
  | some x => Ox r x
  | none => none
end Go.LS
namespace Go.LS
def Oy : Val → Int | .mk k _ _ _ _ => k
def Qu : Val := .mk 0 0 [] [] []
end Go.LS
namespace Go.LS
def Fw (v : Val) : Bool := Oy v == 7 && Bc v
end Go.LS
namespace Go.LS
def kV : Val → Int | .mk k _ _ _ _ => k
def nV : Val → Int | .mk _ n _ _ _ => n
def sV : Val → List UInt8 | .mk _ _ s _ _ => s
def iV : Val → List Val | .mk _ _ _ i _ => i
def mV : Val → List (List UInt8) | .mk _ _ _ _ m => m
def An (v : Val) (ps : List (List UInt8)) (p : Bool) : Int := if Fw v = true then (if p = true then 0 else 40) else 20
end Go.LS
set_option linter.unusedVariables false
set_option linter.unusedSimpArgs false
namespace Go.LS
def Ai (es : List (List PV)) : List (List LV) := es.map fun e => e.map LV.p
theorem refs_p (e : List PV) : (e.map LV.p).flatMap LV.refs = [] := by
 induction e with
 | nil => rfl
 | cons a b ih => rw [List.map_cons, List.flatMap_cons, ih]; rfl
theorem Ax (es : List (List PV)) : (LObj.row (Ai es)).refs = [] := by
 simp only [LObj.refs, Ai]
 induction es with
 | nil => rfl
 | cons e r ih => rw [List.map_cons, List.flatMap_cons, ih, refs_p]; rfl
theorem As (es : List (List PV)) (f : Nat → Nat) : (LObj.row (Ai es)).ren f = .row (Ai es) := by
 simp only [LObj.ren, Ai, List.map_map]
 congr 1
 apply List.map_congr_left
 intro e _
 simp only [Function.comp, List.map_map]
 apply List.map_congr_left
 intro c _
 rfl
theorem Ba (es : List (List PV)) : (Ai es).length = es.length := by simp [Ai]
theorem Gr {es : List (List PV)} {i : Nat} {e : List PV} (h : es[i]? = some e) : (Ai es)[i]? = some (e.map .p) := by simp [Ai, h]
theorem T3 (a b : List (List PV)) : Ai (a ++ b) = Ai a ++ Ai b := by simp [Ai]
theorem Vh (e : List PV) : Hg (e.map LV.p) = some e := by
 induction e with
 | nil => rfl
 | cons a b ih => simp only [List.map_cons, Hg, ih, LV.toPV]
theorem Ew : ∀ (es : List (List PV)), Dm (Ai es) = some es
 | [] => rfl
 | e :: r => by
  have := Ew r
  simp only [Ai, List.map_cons] at this ⊢
  simp only [Dm, Vh, this]
theorem Fk (es : List (List PV)) (n : Nat) : (Ai es).take n = Ai (es.take n) := by simp [Ai]
theorem T4 (es : List (List PV)) (i : Nat) (e : List PV) : (Ai es).set i (e.map .p) = Ai (es.set i e) := by simp [Ai, List.map_set]
theorem C0 {n : Nat} {es : List (List PV)} (h : Da n es = true) : Df n (Ai es) = true := by
 simp only [Df, Ai, Da, List.all_map] at h ⊢
 rw [List.all_eq_true] at h ⊢
 intro e he
 simpa using h e he
theorem P6 {o n k size : Nat} {X : List (List PV)} {e : List PV} {st : List LObj} (hs : st[o]? = some (.row (Ai X))) (hk : k < n) (he : X[k]? = some e) (hz : e.length = size) {j : Int} (hj : j = (k : Int)) :
  Ae Ar [] st (.indexAddr size (.const (.rs o 0 n)) (.const (.p (.int .i64 j)))) = some (.ptr o k 0, st) := by
 subst hj
 have h1 : ¬ ((k : Int) < 0) := by omega
 have h2 : (k : Int) < (n : Int) := by omega
 simp only [Ae, LX.ev, LV.asInt, if_neg h1, if_pos h2, hs, Int.toNat_natCast, Nat.zero_add, Gr he, List.length_map, hz, if_true]
theorem P7 {o n size bytes : Nat} {X Y : List (List PV)} {x : LV} {st : List LObj} (hs : st[o]? = some (.row (Ai X))) (hn : n = X.length) (hx : x.asSl = some Y) (hr : ∀ a b c, x ≠ .rs a b c) (hX : Da size X = true) (hY : Da size Y = true) (hne : Y ≠ []) (h1 : 0 < X.length)
  (hb : (X.length + Y.length) * bytes ≤ 140737488355328) (hm : X.length + Y.length ≤ maxLen) (h0 : 0 < size) :
  Ae Ar [] st (.appendR size bytes (.const (.rs o 0 n)) (.const x)) = some (.rs st.length 0 (X.length + Y.length), st.set o .dead ++ [.row (Ai (X ++ Y))]) := by
 subst hn
 have ha : C3 st x = some (Ai Y) := by
  cases x <;> simp only [C3, hx, Ai]
  rename_i a b c
  exact absurd rfl (hr a b c)
 have hYe : (Ai Y).isEmpty = false := by cases Y with | nil => exact absurd rfl hne | cons a b => rfl
 have hc : X.length = (Ai X).length ∧ 0 < X.length ∧ Df size (Ai X) = true ∧ D3 (X.length + (Ai Y).length) bytes = true ∧ X.length + (Ai Y).length ≤ maxLen ∧ 0 < size := by
  refine ⟨(Ba X).symm, h1, C0 hX, ?_, ?_, h0⟩
  ·rw [Ba]; exact H5 hb
  ·rw [Ba]; exact hm
 simp only [Ae, LX.ev, Ey, ha, C0 hY, Bool.not_true, Bool.false_eq_true, if_false, hs, hYe]
 rw [if_pos hc, T3, Ba]
theorem Nx {o n k size : Nat} {X : List (List PV)} {e : List PV} {st : List LObj} (hs : st[o]? = some (.row (Ai X))) (hk : k ≤ X.length) (hn : n ≤ X.length) (he : X[0]? = some e) (hz : e.length = size) {j : Int} (hj : j = (k : Int)) :
  Ae Ar [] st (.slice size (.const (.rs o 0 n)) none (some (.const (.p (.int .i64 j)))) none) = some (.rs o 0 k, st) := by
 subst hj
 have h0 : 0 < X.length := (List.getElem?_eq_some_iff.1 he).1
 have h1 : 0 ≤ (k : Int) ∧ (k : Int) ≤ (((Ai X).length - 0 : Nat) : Int) := by rw [Ba]; omega
 have h2 : (0 : Int) ≤ 0 ∧ (0 : Int) ≤ (k : Int) := by omega
 have h3 : 0 < (Ai X).length - 0 ∧ 0 + n ≤ (Ai X).length := by rw [Ba]; omega
 simp only [Ae, LX.ev, Dr, bnd, Option.map_none, Option.map_some, hs]
 rw [if_pos h1]
 simp only [Int.toNat_natCast]
 rw [if_pos h3]
 simp only [Gr he, List.length_map, hz, if_true, Nat.add_zero, Nat.sub_zero]
theorem Vi {o n : Nat} {X X' : List (List PV)} {st : List LObj} (hs : st[o]? = some (.row (Ai X))) (hn : n ≤ X.length) (hx : X.take n = X') : frz true st [.rs o 0 n] = ([.p (.sl X')], st.set o .dead) := by
 subst hx
 have e : ((Ai X).drop 0).take n = Ai (X.take n) := by rw [List.drop_zero, Fk]
 have hl : 0 + n ≤ (Ai X).length := by rw [Ba]; omega
 simp only [frz, H6, Kf, E5, hs, if_pos hl, e, Ew]
theorem Bt {lp : A3} {f : FuncId} {args : List LV} {st st1 st' : List LObj} {r v : LV} (h : Runs lp f args [] (r, st1)) (hw : wk (lp.weak f) args = args) (h0 : args.flatMap LV.refs = []) (hr : args.map (LV.ren fun q => ([] : List Nat).idxOf q) = args)
  (hv : r.ren (Cu [] st.length) = v) (hs : st ++ st1.map (LObj.ren (Cu [] st.length)) = st') : Cr lp f args st (v, st') := by
 have hk : Mv lp f args st r st1 = some (v, st', Runs lp f args [] (r, st1)) := by
  unfold Mv
  simp only [hw, h0]
  have e1 : Dn st 100000 [] [] = [] := rfl
  rw [e1]
  simp only [hr]
  have e2 : sub st [] = [] := rfl
  have e3 : (C9 st [] && ([] : List Nat).all (([] : List Nat).contains ·) && decide ([] : List Nat).Nodup) = true := rfl
  rw [if_pos e3, if_pos (show ([] : List Nat).length ≤ st1.length from Nat.zero_le _), e2, hv]
  simp only [List.length_nil, List.take_zero, List.map_nil, Cf, List.drop_zero]
  rw [hs]
 obtain ⟨n, hn⟩ := Gq hk h
 exact ⟨n, hn⟩
def oG {lp : A3} {k : Nat} {x : List Bool × Bd} {t1 t t' : List LV} {st1 st st' : List LObj} {o : Cg} (_ : gc k t1 st1 = some (t, st)) (_ : LoopN lp k x t st (o, t', st')) : Orc := .lg o t' st' t st
def oA {lp : A3} {f : FuncId} {args : List LV} {st st' : List LObj} {v : LV} (_ : Cr lp f args st (v, st')) : Orc := .cg v st'
end Go.LS
namespace Go.LS
theorem Rr {o : Nat} {xs : List (List UInt8)} {st : List LObj} (hs : st[o]? = some (.row (Ai (Ab xs)))) : frz true st [.rs o 0 (List.length xs)] = ([.p (.sl (Ab xs))], st.set o .dead) :=
 Vi hs (by rw [Ak]; exact Nat.le_refl _) (by rw [← Ak xs]; exact List.take_length)
end Go.LS
namespace Go.LS
theorem Lw {size bytes : Nat} {X : List (List PV)} {st : List LObj} (hX : Da size X = true) (hne : X ≠ []) (hb : X.length * bytes ≤ 140737488355328) (hm : X.length ≤ maxLen) (h0 : 0 < size) :
  Ae Ar [] st (.appendR size bytes (.const (.tight [])) (.const (.p (.sl X)))) = some (.rs st.length 0 X.length, st ++ [.row (Ai X)]) := by
 have ha : C3 st (.p (.sl X)) = some (Ai X) := rfl
 have hYe : (Ai X).isEmpty = false := by cases X with | nil => exact absurd rfl hne | cons a b => rfl
 have hc : D3 (Ai X).length bytes = true ∧ (Ai X).length ≤ maxLen ∧ 0 < size := ⟨by rw [Ba]; exact H5 hb, by rw [Ba]; exact hm, h0⟩
 simp only [Ae, LX.ev, Ey, ha, C0 hX, Bool.not_true, Bool.false_eq_true, if_false, hYe]
 rw [if_pos hc, Ba]
def Gs : LV → Bool
 | .rs _ _ _ => false
 | _ => true
theorem P8 (st : List LObj) (v : LV) (h : Gs v = true) : E5 st v = (v.weak1, st) := by cases v <;> first | rfl | simp [Gs] at h
theorem B3 : ∀ (st : List LObj) (a : List LV), a.all Gs = true → Co st a = (a.map LV.weak1, st)
 | st, [], _ => rfl
 | st, v :: r, h => by
  simp only [List.all_cons, Bool.and_eq_true] at h
  simp only [Co, P8 st v h.1, B3 st r h.2, List.map_cons]
theorem G8 (st : List LObj) : ∀ (a b : List LV), Co st (a ++ b) = ((Co st a).1 ++ (Co (Co st a).2 b).1, (Co (Co st a).2 b).2) := by
 intro a
 induction a generalizing st with
 | nil => intro b; rfl
 | cons v r ih => intro b; simp only [List.cons_append, Co, ih]
theorem P9 {o : Nat} {xs : List (List UInt8)} {st : List LObj} (hs : st[o]? = some (.row (Ai (Ab xs)))) : E5 st (.rs o 0 (List.length xs)) = (.p (.sl (Ab xs)), st.set o .dead) := by
 have h := Rr hs
 simp only [frz, H6, Kf] at h
 have h1 := congrArg Prod.fst h
 have h2 := congrArg Prod.snd h
 simp only [List.cons.injEq, and_true] at h1
 exact Prod.ext h1 h2
theorem Oz {o : Nat} {xs : List (List UInt8)} {st : List LObj} {a b : List LV} (ha : a.all Gs = true) (hb : b.all Gs = true) (hs : st[o]? = some (.row (Ai (Ab xs)))) :
  frz true st [.agg (a ++ .rs o 0 (List.length xs) :: b)] = ([.agg (a.map LV.weak1 ++ .p (.sl (Ab xs)) :: b.map LV.weak1)], st.set o .dead) := by
 have e : Co st (a ++ .rs o 0 (List.length xs) :: b) = (a.map LV.weak1 ++ .p (.sl (Ab xs)) :: b.map LV.weak1, st.set o .dead) := by
  rw [G8, B3 st a ha]
  simp only [Co, P9 hs, B3 _ b hb]
 simp only [frz, H6, Kf, e]
end Go.LS
