/- A small semantics of loaded Go code that the kernel can run, part 5. -/
import Derived.Test.YthmjaeflpgcmdaaLsG4
import Derived.Lib.Bytealg
import Derived.Sort.KeysCollected
import Derived.Sort.EncStr
import Derived.Maps.Range
import Derived.Maps.Own
import Derived.Maps.Views
import Derived.WideReads
import Derived.StringKeys
import Derived.Below
import Derived.Maps.RangeRun
import Derived.Test.YthmjaeflpgcmdaaLsG1
set_option linter.unusedVariables false
namespace Go.LS
def lpS (tab : List (Option LFn)) (weak wres : List Nat) (sm : List (Nat × (List LV → List LObj → Option (LV × List LObj)))) : A1 :=
 { fns := fun f => match tab[f]? with | some x => x | none => none, summ := fun f => (sm.find? fun x => x.1 == f).map (·.2), weak := fun f => weak.contains f, wres := fun f => wres.contains f }
theorem prS {P : Program} (tab : List (Option LFn)) (weak wres : List Nat) (sm : List (Nat × (List LV → List LObj → Option (LV × List LObj)))) (hs : ∀ x ∈ sm, Fv P x.1 x.2) (h : AllFR P 0 tab) : PR P (lpS tab weak wres sm) where
 fns f lf hf := by
  simp only [lpS] at hf
  split at hf
  ·rename_i x hx
   subst hf
   have := h.get f lf hx
   simpa using this
  ·cases hf
 summ f g h := by
  simp only [lpS, Option.map_eq_some_iff] at h
  obtain ⟨⟨f', g'⟩, h1, rfl⟩ := h
  have h2 := List.find?_some h1
  simp only [beq_iff_eq] at h2
  subst h2
  exact hs _ (List.mem_of_find?_eq_some h1)
end Go.LS
set_option linter.unusedVariables false
set_option linter.unusedSimpArgs false
namespace Go.LS
open Go.RowKit (Below)
open Go.WideMaps (keyOf_string_mk)
def Ra : List UInt8 → List UInt8 → Bool
 | [], _ => true
 | _ :: _, [] => false
 | a :: x, b :: y => if a.toNat.blt b.toNat then true else if a.toNat == b.toNat then Ra x y else false
theorem L4 : ∀ (x y : List UInt8), Ra x y = decide (x ≤ y)
 | [], y => by simp [Ra]
 | a :: x, [] => by simp [Ra]
 | a :: x, b :: y => by
  have ih := L4 x y
  simp only [Ra, List.cons_le_cons_iff, ih]
  by_cases h1 : a.toNat < b.toNat
  ·have : a < b := UInt8.lt_iff_toNat_lt.2 h1
   simp [Nat.blt_eq, h1, this]
  ·have h1' : ¬ a < b := fun h => h1 (UInt8.lt_iff_toNat_lt.1 h)
   by_cases h2 : a.toNat = b.toNat
   ·have : a = b := UInt8.toNat_inj.1 h2
    subst this
    simp [h1']
   ·have : ¬ a = b := fun h => h2 (by rw [h])
    have e : Nat.blt a.toNat b.toNat = false := by rw [← Bool.not_eq_true, Nat.blt_eq]; exact h1
    simp [e, h1', h2, this]
def F1 (x : List UInt8) : List (List UInt8) → List (List UInt8)
 | [] => [x]
 | y :: r => if Ra x y then x :: y :: r else y :: F1 x r
def Gy : List (List UInt8) → List (List UInt8)
 | [] => []
 | x :: r => F1 x (Gy r)
theorem F2 (x : List UInt8) : ∀ l, (F1 x l).Perm (x :: l)
 | [] => .refl _
 | y :: r => by
  simp only [F1]
  split
  ·exact .refl _
  ·exact ((F2 x r).cons y).trans (.swap x y r)
theorem M3 : ∀ l, (Gy l).Perm l
 | [] => .refl _
 | x :: r => (F2 x _).trans ((M3 r).cons x)
theorem Gz (x : List UInt8) : ∀ l : List (List UInt8), l.Pairwise (fun a b => a ≤ b) → (F1 x l).Pairwise (fun a b => a ≤ b)
 | [], _ => by simp [F1]
 | y :: r, h => by
  obtain ⟨h1, h2⟩ := List.pairwise_cons.1 h
  simp only [F1, L4, decide_eq_true_eq]
  split
  ·rename_i hxy
   refine List.pairwise_cons.2 ⟨fun z hz => ?_, h⟩
   rcases List.mem_cons.1 hz with rfl | hz
   ·exact hxy
   ·exact List.le_trans hxy (h1 z hz)
  ·rename_i hxy
   have hyx : y ≤ x := by
    rcases List.le_total x y with h' | h'
    ·exact absurd h' hxy
    ·exact h'
   refine List.pairwise_cons.2 ⟨fun z hz => ?_, Gz x r h2⟩
   rcases List.mem_cons.1 ((F2 x r).mem_iff.1 hz) with rfl | hz
   ·exact hyx
   ·exact h1 z hz
theorem Jo : ∀ l : List (List UInt8), (Gy l).Pairwise (fun a b => a ≤ b)
 | [] => .nil
 | x :: r => Gz x _ (Jo r)
theorem Xf (l : List (List UInt8)) : Gy l = l.mergeSort Go.leB := by
 have tr : ∀ a b c : List UInt8, Go.leB a b = true → Go.leB b c = true → Go.leB a c = true := fun a b c h1 h2 => by simp only [Go.leB, decide_eq_true_eq] at *; exact List.le_trans h1 h2
 have to : ∀ a b : List UInt8, (Go.leB a b || Go.leB b a) = true := fun a b => by simp only [Go.leB, Bool.or_eq_true, decide_eq_true_eq]; exact List.le_total a b
 refine List.Perm.eq_of_pairwise (le := fun a b => Go.leB a b = true) (fun a b _ _ h1 h2 => ?_) ((Jo l).imp fun h => by simpa [Go.leB] using h) (List.pairwise_mergeSort tr to l) ((M3 l).trans (List.mergeSort_perm l Go.leB).symm)
 simp only [Go.leB, decide_eq_true_eq] at h1 h2
 exact List.le_antisymm h1 h2
theorem WR.below {G : Gh} {st : List LObj} {w w' : World} (h : WR G st w) (hb : Below w.heap.size w w') : WR G st w' ∧ Ext G st w G st w' := by
 have hh : ∀ {b : Nat} {ob : Obj}, w.heap[b]? = some ob → w'.heap[b]? = some ob := fun {b ob} e => by rw [hb.block b (Ar e)]; exact e
 refine ⟨⟨?_, h.dom, ?_, ?_, ?_, ?_, h.uniq, h.ownF, h.kind⟩, ⟨.refl G, hb.os, hb.tape, hb.output, hb.size, fun b hlt _ => hb.block b hlt, fun o b ho _ => ⟨o, ho⟩, fun _ _ _ hv _ _ => hv, fun _ _ h k => ⟨rfl, h, k⟩, Nat.le_refl _⟩⟩
 ·intro b o v hv
  have := h.fr b o v hv
  have hlt := h.fr_lt hv
  unfold World.cell? at this ⊢
  simp only [hb.block b hlt]
  exact this
 ·intro o es ho l hl
  obtain ⟨blk, size, n, e, arr, ty, hbb, r⟩ := h.row o es ho l hl
  exact ⟨blk, size, n, e, arr, ty, hh hbb, r⟩
 ·intro o kv ho l hl
  obtain ⟨blk, e, es, c, hbb, r⟩ := h.map o kv ho l hl
  exact ⟨blk, e, es, c, hh hbb, r⟩
 ·intro o s p ho l hl
  obtain ⟨blk, e, hbb⟩ := h.iter o s p ho l hl
  exact ⟨blk, e, hh hbb⟩
 ·intro o n hw ho
  obtain ⟨h1, h2⟩ := h.spare o n hw ho
  refine ⟨h1, fun s hs => ?_⟩
  obtain ⟨a, ⟨arr, e, hbb, r⟩, c⟩ := h2 s hs
  exact ⟨a, ⟨arr, e, hh hbb, r⟩, c⟩
theorem WR.freezeNew {G : Gh} {st : List LObj} {w : World} (h : WR G st w) {g : Nat} {arr : Array Value} {e : TypeId} {fz : Nat × Nat} (hb : w.heap[g]? = some (.cells arr e fz)) (hno : ∀ o, ¬ Owns G st o g) :
  WR (G.addF g fun off => arr[off]?) st w := by
 have hle : G.le (G.addF g fun off => arr[off]?) := Gh.le_addF ..
 have hoo : ∀ o c, Owns (G.addF g fun off => arr[off]?) st o c → Owns G st o c := fun o c ho => ho
 have hne : ∀ o c, Owns G st o c → c ≠ g := fun o c ho e => hno o (e ▸ ho)
 refine ⟨?_, h.dom, ?_, ?_, ?_, ?_, h.uniq, ?_, h.kind⟩
 ·intro c off v hv
  simp only [Gh.addF] at hv
  split at hv
  ·rename_i v' hv'
   cases hv
   exact h.fr c off _ hv'
  ·split at hv
   ·rename_i hcb
    subst hcb
    unfold World.cell?
    simp only [hb]
    exact hv
   ·cases hv
 ·intro o es ho l hl
  obtain ⟨blk, size, n, e, arr, ty, hbb, r1, r2, r3⟩ := h.row o es ho l hl
  exact ⟨blk, size, n, e, arr, ty, hbb, r1, r2, r3.mono hle⟩
 ·intro o kv ho l hl
  obtain ⟨blk, e, es, c, hbb, r⟩ := h.map o kv ho l hl
  exact ⟨blk, e, es, c, hbb, ⟨r.1.mono hle, r.2⟩⟩
 ·exact h.iter
 ·intro o n hw ho
  obtain ⟨h1, h2⟩ := h.spare o n hw ho
  refine ⟨h1, fun s hs => ?_⟩
  obtain ⟨a, b, c⟩ := h2 s hs
  refine ⟨a, b, fun off hoff => ?_⟩
  rw [Gh.addF_other (hne o s.blk (by unfold Owns; rw [ho]; exact ⟨s, hs, rfl⟩))]
  exact c off hoff
 ·intro o c ho hn off
  rw [Gh.addF_other (hne o c ho)]
  exact h.ownF o c ho hn off
def Fj : List (PV × LV) → Option (List (List UInt8))
 | [] => some []
 | (.str s, _) :: r => match Fj r with
  | some l => some (s :: l)
  | none => none
 | _ => none
def G7 : List (List UInt8) → Bool
 | [] => true
 | x :: r => !(r.any fun y => Ra x y && Ra y x) && G7 r
theorem If : ∀ {l : List (List UInt8)}, G7 l = true → l.Nodup
 | [], _ => List.nodup_nil
 | x :: r, h => by
  simp only [G7, Bool.and_eq_true, Bool.not_eq_true', List.any_eq_false] at h
  refine List.nodup_cons.2 ⟨fun hm => ?_, If h.2⟩
  have := h.1 x hm
  simp [L4] at this
def E5 (K : FuncId) (args : List LV) (st : List LObj) : Option (LV × List LObj) :=
 match args with
 | [.fn (.func g) [] [.ptr o 0 0]] => if g = K then
   match st[o]? with
   | some (.row [[.mp m]]) => match st[m]? with
    | some (.map kv) => match Fj kv with
     | some ks => if G7 ks && (ks.all fun k => decide (k.length ≤ maxLen)) && decide (ks.length * 16 ≤ 140737488355328) then some (.p (.sl ((Gy ks).map fun k => [.str k])), st) else none
     | none => none
    | _ => none
   | _ => none
  else none
 | _ => none
def K6 (P : Program) (f K kt : Nat) : Prop :=
 ∀ (Bm b : Nat) (w : World) (D0 : DataW Unit), Bm < w.heap.size → w.cell? ⟨Bm, 0, none⟩ = some (.map (some b)) → w.ownsMap P kt (fun _ => some (.nil, [])) b (Maps.size D0) D0 → Maps.size D0 ≤ maxLen → Maps.size D0 * 16 ≤ 140737488355328 →
  Calls P f #[.func (.func K) #[] #[.pointer (some ⟨Bm, 0, none⟩)]] w fun e w' => ∃ (v : Value) (ss : List (List UInt8)), e = .returned v ∧ ss.Perm (Go.strKeys D0) ∧
   w'.ownsRow w.heap.size kt 1 v ss.length ((ss.mergeSort Go.leB).map Go.Proofs.encStr) ∧ (v = .slice none 0 0 ↔ ss = []) ∧ Below w.heap.size w w'
theorem args1 {G : Gh} {p : LV} {us : Array Value} (h : ArgsR G [p] us) : ∃ a, us = #[a] ∧ VL G p a := by
 have h1 := h.1
 simp only [List.length_cons, List.length_nil] at h1
 obtain ⟨l⟩ := us
 match l, h1 with
 | [a], _ => exact ⟨a, rfl, h.2 0 _ rfl⟩
theorem H1 : ∀ {kv : List (PV × LV)} {ks : List (List UInt8)}, Fj kv = some ks → ks.length = kv.length ∧ ∀ (i : Nat) k v, kv[i]? = some (k, v) → ∃ s, k = .str s ∧ ks[i]? = some s
 | [], ks, h => by simp only [Fj] at h; cases h; exact ⟨rfl, by simp⟩
 | (p, v) :: r, ks, h => by
  cases p <;> simp only [Fj] at h <;> try (cases h; done)
  split at h
  ·rename_i l hl
   cases h
   obtain ⟨h1, h2⟩ := H1 hl
   refine ⟨by simp [h1], fun i k v hi => ?_⟩
   cases i with
   | zero => simp at hi; obtain ⟨rfl, rfl⟩ := hi; exact ⟨_, rfl, rfl⟩
   | succ i => simpa using h2 i k v (by simpa using hi)
  ·cases h
theorem Tk {P : Program} {f K kt : Nat} (hp : Cu P f = true) (hk : P.underlying kt = some .string) (h : K6 P f K kt) : Fv P f (E5 K) := by
 refine ⟨hp, fun args st res st' hg G w us hw ha => ?_⟩
 unfold E5 at hg
 split at hg
 case h_2 => cases hg
 rename_i g o
 split at hg
 case isFalse => cases hg
 rename_i hgK
 subst hgK
 split at hg
 case h_2 => cases hg
 rename_i m hso
 split at hg
 case h_2 => cases hg
 rename_i kv hsm
 split at hg
 case h_2 => cases hg
 rename_i ks hks
 split at hg
 case isFalse => cases hg
 rename_i hc
 cases hg
 simp only [Bool.and_eq_true, List.all_eq_true, decide_eq_true_eq] at hc
 obtain ⟨⟨c1, c2⟩, c3⟩ := hc
 obtain ⟨u, rfl, hu⟩ := args1 ha
 cases hu with
 | fn f vf vc s1 s2 hf hcap =>
  obtain rfl : vf = #[] := by simpa using s1
  obtain ⟨vc⟩ := vc
  match vc, s2 with
  | [x], _ =>
   have hx := hcap 0 _ rfl
   replace hx : VL G (.ptr o 0 0) x := hx
   obtain ⟨blk, size, n, hloc, hxe⟩ := hx.ptr_inv
   obtain ⟨blk', size', n', e5, arr, ty, hb, hz, hn, hr⟩ := hw.row o _ hso _ hloc
   cases e5
   obtain ⟨y, y1, y2, _⟩ := hr.2 0 0 (.mp m) rfl
   obtain ⟨mb, hml, hmy⟩ := y2.mp_inv
   obtain ⟨mb', e6, es, clock, hmb, hmo, hst⟩ := hw.map m kv hsm _ hml
   cases e6
   obtain ⟨k1, k2⟩ := H1 hks
   simp only [Nat.zero_mul, Nat.zero_add] at y1 hxe
   have hcell : w.cell? ⟨blk, 0, none⟩ = some (.map (some mb)) := by
    unfold World.cell?
    simp [hb, y1, hmy]
   -- the entries' keys
   have hkey : ∀ (i : Nat) (e : MapEntry), es[i]? = some e → ∃ s, ks[i]? = some s ∧ e.key = Go.Proofs.encStr s := by
    intro i e he
    have hi : i < kv.length := by rw [← hmo.1]; exact (Array.getElem?_eq_some_iff.1 he).1
    obtain ⟨e', a1, a2, a3⟩ := hmo.2 i kv[i].1 kv[i].2 (by simp [hi])
    rw [he] at a1; cases a1
    obtain ⟨s, b1, b2⟩ := k2 i kv[i].1 kv[i].2 (by simp [hi])
    rw [b1] at a2
    exact ⟨s, b2, a2.str_inv⟩
   have hkeys : es.toList.map (·.key) = ks.map Go.Proofs.encStr := by
    apply List.ext_getElem?
    intro i
    simp only [List.getElem?_map, Array.getElem?_toList]
    cases he : es[i]? with
    | none =>
     have : ks[i]? = none := by rw [List.getElem?_eq_none_iff, k1, ← hmo.1]; exact Array.getElem?_eq_none_iff.1 he
     simp [this]
    | some e => obtain ⟨s, b1, b2⟩ := hkey i e he; simp [b1, b2]
   have hnd : (es.toList.map (·.key)).Nodup := by
    rw [hkeys]
    refine List.pairwise_map.2 ((If c1).imp fun hne he => hne (Go.encStr_inj he))
   have hrd : ∀ (i : Nat) (e : MapEntry), es[i]? = some e → ∃ s, ks[i]? = some s ∧ Go.WideElems.rd P kt (fun _ => some ((.nil : DataW Unit), [])) e = some (.string s, .nil) := by
    intro i e he
    obtain ⟨s, b1, b2⟩ := hkey i e he
    refine ⟨s, b1, ?_⟩
    have hl := c2 s (List.mem_of_getElem? b1)
    unfold Go.WideElems.rd
    rw [b2]
    have := keyOf_string_mk (P := P) (k := kt) hk (s := ⟨s.toArray⟩) (by simpa [ByteArray.size] using hl)
    rw [show Go.Proofs.encStr s = Value.string ⟨s.toArray⟩ from rfl, this]
    simp
   have hsize : es.size * 16 ≤ 140737488355328 := by rw [hmo.1, ← k1]; exact c3
   have hF : Go.WideElems.Fit P kt (fun _ => some ((.nil : DataW Unit), [])) es clock := by
    refine ⟨by unfold maxLen; omega, ⟨hst.1, hst.2, hnd⟩, fun x hx => ?_⟩
    obtain ⟨i, hi⟩ := List.getElem?_of_mem hx
    obtain ⟨s, _, b⟩ := hrd i x (by simpa using hi)
    exact ⟨_, b⟩
   generalize hD : (DataW.map ((es.toList.map (Go.WideElems.rg P kt fun _ => some ((.nil : DataW Unit), []))).foldr DataW.insert []) : DataW Unit) = D0
   have hDs : Maps.size D0 = es.size := by
    rw [← hD, Maps.size_eq, Go.DataW.length_sorted]; simp
   have hown : w.ownsMap P kt (fun _ => some ((.nil : DataW Unit), [])) mb (Maps.size D0) D0 := ⟨es, clock, hmb, hF, by rw [hDs]; exact Nat.le_refl _, hD.symm⟩
   have hkp : (Go.strKeys D0).Perm ks := by
    rw [← hD]
    show List.Perm (List.map (fun p : Lit × DataW Unit => Go.strOf p.1) _) _
    refine ((Go.WideShapes.sorted_perm _).map _).trans ?_
    rw [List.map_map]
    have : es.toList.map ((fun p : Lit × DataW Unit => Go.strOf p.1) ∘ Go.WideElems.rg P kt fun _ => some ((.nil : DataW Unit), [])) = ks := by
     apply List.ext_getElem?
     intro i
     simp only [List.getElem?_map, Array.getElem?_toList]
     cases he : es[i]? with
     | none =>
      have : ks[i]? = none := by rw [List.getElem?_eq_none_iff, k1, ← hmo.1]; exact Array.getElem?_eq_none_iff.1 he
      simp [this]
     | some e =>
      obtain ⟨s, b1, b2⟩ := hrd i e he
      simp [b1, Go.WideElems.rg, b2, Go.strOf]
    rw [this]
   rw [hxe]
   refine (h blk mb w D0 (Ar hb) hcell hown (by rw [hDs]; unfold maxLen; omega) (by rw [hDs]; exact hsize)).mono ?_
   rintro e w' ⟨v, ss, rfl, hss, hrow, hnil, hbel⟩
   obtain ⟨w1, x1⟩ := hw.below hbel
   have hsort : ss.mergeSort Go.leB = Gy ks := by
    rw [Xf]; exact Go.mergeSort_of_perm (hss.trans hkp)
   have hlen : (Gy ks).length = ss.length := by rw [← hsort]; simp
   rcases hrow.2 with ⟨rfl, h0⟩ | ⟨g, cap, cur, rfl, hbase, hgb, r1, r2, r3, r4⟩
   ·have : Gy ks = [] := List.eq_nil_of_length_eq_zero (by rw [hlen]; exact h0)
    rw [this]
    exact ⟨_, G, rfl, w1, .p .nils, x1.to0⟩
   ·have hno : ∀ o, ¬ Owns G st o g := fun o ho => by have := hw.owns_lt ho; omega
    have w2 := w1.freezeNew hgb hno
    refine ⟨_, _, rfl, w2, .p ?_, ?_⟩
    ·rw [← hlen] at r1 ⊢
     have e1 : (Gy ks).length = ((Gy ks).map fun k => [PV.str k]).length := by simp
     rw [e1]
     refine VP.mk (size := 1) (by simpa using r1) r2 (by simp) ?_
     intro i j p hp
     unfold at2 at hp
     rw [List.getElem?_map] at hp
     cases hq : (Gy ks)[i]? with
     | none => simp [hq] at hp
     | some s =>
      simp only [hq, Option.map_some, Option.bind_some] at hp
      cases j with
      | succ j => simp at hp
      | zero =>
       simp at hp
       subst hp
       refine ⟨Go.Proofs.encStr s, ?_, .str s⟩
       have hcur : cur[i]? = some (Go.Proofs.encStr s) := by
        have := congrArg (fun l => l[i]?) r4
        simp only [hsort, List.getElem?_map, hq, Option.map_some, Nat.mul_one] at this
        rw [List.getElem?_take] at this
        split at this
        ·simpa using this
        ·cases this
       simp only [Gh.addF, Nat.zero_add, Nat.mul_one, Nat.add_zero]
       cases hF2 : G.F g i with
       | some z => have := hw.fr_lt hF2; omega
       | none => simp [hcur]
    ·refine ⟨Gh.le_addF .., x1.os, x1.tape, x1.output, x1.hsz, x1.unch, fun o b ho hb => ⟨o, ho⟩, fun b off v hv hb _ => ?_⟩
     rwa [Gh.addF_other (by omega)] at hv
end Go.LS
set_option linter.unusedVariables false
namespace Go.LS
open Go.RowKit
theorem WR.same {G : Gh} {st : List LObj} {w w' : World} (h : WR G st w) (ho : ∀ o b, Owns G st o b → w'.heap[b]? = w.heap[b]?) (hF : ∀ b off v, G.F b off = some v → w'.heap[b]? = w.heap[b]?) : WR G st w' := by
 refine ⟨?_, h.dom, ?_, ?_, ?_, ?_, h.uniq, h.ownF, h.kind⟩
 ·intro b o v hv
  have := h.fr b o v hv
  unfold World.cell? at this ⊢
  simp only [hF b o v hv]
  exact this
 ·intro o es hs l hl
  obtain ⟨blk, size, n, e, arr, ty, hbb, r⟩ := h.row o es hs l hl
  subst e
  exact ⟨blk, size, n, rfl, arr, ty, (ho o blk (by unfold Owns; rw [hs]; exact ⟨size, n, hl⟩)).trans hbb, r⟩
 ·intro o kv hs l hl
  obtain ⟨blk, e, es, c, hbb, r⟩ := h.map o kv hs l hl
  subst e
  exact ⟨blk, rfl, es, c, (ho o blk (by unfold Owns; rw [hs]; exact hl)).trans hbb, r⟩
 ·intro o s p hs l hl
  obtain ⟨blk, e, hbb⟩ := h.iter o s p hs l hl
  subst e
  exact ⟨blk, rfl, (ho o blk (by unfold Owns; rw [hs]; exact hl)).trans hbb⟩
 ·intro o n hw hs
  obtain ⟨h1, h2⟩ := h.spare o n hw hs
  refine ⟨h1, fun s e => ?_⟩
  obtain ⟨a, ⟨arr, ty, hbb, r⟩, c⟩ := h2 s e
  exact ⟨a, ⟨arr, ty, (ho o s.blk (by unfold Owns; rw [hs]; exact ⟨s, e, rfl⟩)).trans hbb, r⟩, c⟩
end Go.LS
set_option linter.unusedVariables false
set_option linter.unusedSimpArgs false
namespace Go.LS
theorem Ha {P : Program} {call : CallF} (hok : Cl P call) {ops : Array Oper} {rs : Nat → Bool} {Q : Exit → Act → World → Prop} {rest : List Nat} : ∀ (l : List Oper) (k : Nat) (los : List Bl) {t t' : List LV} {st st' : List LObj} {G : Gh} {w : World} {a : Act},
  (∀ i, i < l.length → l[i]? = ops[k + i]?) → Bc P rs ops k l = some los → Bd call los t st = some (t', st') → WR G st w → TR G t a →
  (∀ a' w' G', WR G' st' w' → TR G' t' a' → Ext0 G st w G' st' w' → a'.defers = a.defers → wpOps P ops Q rest a' w') → wpOps P ops Q (List.range' k l.length ++ rest) a w
 | [], k, los, t, t', st, st', G, w, a, hl, hc, hr, h, ht, hq => by
  simp only [Bc] at hc; cases hc
  simp only [Bd, Option.some.injEq, Prod.mk.injEq] at hr
  obtain ⟨rfl, rfl⟩ := hr
  exact hq a w G h ht (Ext.refl ..).to0 rfl
 | o :: l, k, los, t, t', st, st', G, w, a, hl, hc, hr, h, ht, hq => by
  simp only [Bc] at hc
  split at hc
  ·rename_i x lr hx hlr
   cases hc
   unfold D4 at hx
   split at hx
   ·rename_i g op hg hop
    cases hx
    have hk : ops[k]? = some o := by have := hl 0 (by simp); simpa using this.symm
    have hrest : ∀ i, i < l.length → l[i]? = ops[(k + 1) + i]? := fun i hi => by have := hl (i + 1) (by simpa using hi); simpa [Nat.add_assoc, Nat.add_comm 1 i] using this
    simp only [List.length_cons, List.range'_succ, wpOps, hk, List.cons_append]
    simp only [Bd] at hr
    split at hr
    ·rename_i v st1 hstep
     unfold Bz at hstep
     simp only at hstep
     have go : ∀ (u : Value) (w1 : World) (G1 : Gh), WR G1 st1 w1 → VL G1 v u → Ext0 G st w G1 st1 w1 → wpOps P ops Q (List.range' (k + 1) l.length ++ rest) (a.put o.dst u) w1 := by
      intro u w1 G1 h1 hv hx1
      refine Ha hok l (k + 1) lr hrest hlr hr h1 ((ht.mono hx1.le).put hv o.dst) ?_
      intro a' w' G' g1 g2 g3 g4
      exact hq a' w' G' g1 g2 (hx1.trans g3) (by rw [g4]; cases o.dst <;> rfl)
     split at hstep
     ·rename_i hgd
      rw [if_pos (Jk ht hg hgd)]
      refine .inl (Jj hok hop hstep h (ht.xs _) _ _ ?_)
      rintro u w1 ⟨G1, g1, g2, g3⟩
      exact go u w1 G1 g1 g2 g3.to0
     ·rename_i hgd
      cases hstep
      have hw := Jk ht hg hgd
      rw [if_neg (by rw [hw]; simp)]
      exact go undef w G h (.unit G) (Ext.refl ..).to0
     ·cases hstep
    ·cases hr
   ·cases hx
  ·cases hc
theorem F3 {P : Program} {ops : Array Oper} {Q : Exit → Act → World → Prop} {i : Nat} {rest : List Nat} {o : Oper} (ho : ops[i]? = some o) (hg : o.guard = none) {a : Act} {w w' : World} {u : Value}
  (h : (execOp a.eval o).run P w = .ok (.value u) w') (hn : wpOps P ops Q rest (a.put o.dst u) w') : wpOps P ops Q (i :: rest) a w := by
 simp only [wpOps, ho]
 rw [if_pos (by unfold Region.wanted; rw [hg])]
 exact .inl (by unfold Oper.wp; rw [h]; exact hn)
theorem Oper.wp_Q {P : Program} {o : Oper} {a : Act} {w : World} {K : Act → World → Prop} {Q Q' : Exit → Act → World → Prop} (hq : ∀ e a w, e ≠ .normal → Q e a w → Q' e a w) (h : o.wp P a w K Q) : o.wp P a w K Q' := by
 have hl : LetsOut Q → LetsOut Q' := fun ⟨a, w, h⟩ => ⟨a, w, hq _ a w (by simp) h⟩
 unfold Oper.wp at *
 generalize (execOp a.eval o).run P w = r at *
 cases r with
 | ok n w' =>
  cases n <;> simp only [Oper.upon] at h ⊢ <;>
   first
    | exact h
    | exact Calls.mono h (fun e w'' he => by cases e <;> first | exact he | exact hq _ _ _ (by simp) he | exact hl he)
 | halt x w' => cases x <;> simp only [Oper.upon] at h ⊢ <;> first | exact h | exact hq _ _ _ (by simp) h
section last
variable {P : Program} {ops : Array Oper} {last : Oper} {Q : Exit → Act → World → Prop}
def Rb (P : Program) (ops : Array Oper) (last : Oper) (Q : Exit → Act → World → Prop) : Exit → Act → World → Prop
 | .normal, a, w => last.wp P a w (Q .normal) Q
 | e, a, w => Q e a w
theorem Vm (hgs : ∀ (i : Nat) o, ops[i]? = some o → o.guard = none) {i : Nat} (hi : i < ops.size) {K : Act → World → Prop} {a : Act} {w : World} (h : wpOp P ops (Rb P ops last Q) i K a w) : wpOp P (ops.push last) Q i K a w := by
 have e : (ops.push last)[i]? = ops[i]? := by rw [Array.getElem?_push, if_neg (by omega)]
 unfold wpOp at *
 rw [e]
 cases ho : ops[i]? with
 | none => simp only [ho] at h ⊢; exact h
 | some o =>
  simp only [ho] at h ⊢
  have hw : ∀ y, Region.wanted o y = true := fun y => by unfold Region.wanted; rw [hgs i o ho]
  rw [if_pos (hw _)] at h ⊢
  have hq : ∀ e a w, e ≠ .normal → Rb P ops last Q e a w → Q e a w := fun e a w he hh => by cases e <;> first | exact absurd rfl he | exact hh
  refine h.imp (Oper.wp_Q hq) fun ⟨h1, a, w, h2⟩ => ⟨h1, a, w, hq _ _ _ (by simp) h2⟩
theorem Tl (hgs : ∀ (i : Nat) o, ops[i]? = some o → o.guard = none) (hgl : last.guard = none) (hdn : ∀ (i : Nat) o, ops[i]? = some o → ∀ e ∈ o.after, e.on < i)
  (hall : ∀ i, i < ops.size → ∃ e ∈ last.after, Region.binds .any e = true ∧ e.on = i) (hin : ∀ e ∈ last.after, e.on < ops.size) :
  ∀ (fuel : Nat) (L : Array Bool) (a : Act) (w : World), L.size = ops.size → wpAny P .any ops (Rb P ops last Q) fuel L a w → wpAny P .any (ops.push last) Q (fuel + 1) (L.push false) a w := by
 have full : ∀ (L : Array Bool), L.size = ops.size → Region.ready .any ops L = [] → ∀ i, i < ops.size → L.getD i false = true := by
  intro L hL hnil i
  induction i using Nat.strongRecOn with
  | _ i ih =>
   intro hi
   refine Classical.byContradiction fun hn => ?_
   have h0 : L.getD i true = false := by
    simp only [Array.getD_eq_getD_getElem?, Array.getElem?_eq_getElem (show i < L.size by omega), Option.getD_some] at hn ⊢
    simpa using hn
   have : i ∈ Region.ready .any ops L := mem_ready.2 ⟨h0, ops[i], by simp [hi], fun e he _ => ih _ (hdn i _ (by simp [hi]) e he) (Nat.lt_trans (hdn i _ (by simp [hi]) e he) hi)⟩
   rw [hnil] at this; cases this
 have gp : ∀ (L : Array Bool), L.size = ops.size → ∀ i d, i < ops.size → (L.push false).getD i d = L.getD i d := by
  intro L hL i d hi
  simp only [Array.getD_eq_getD_getElem?, Array.getElem?_push, if_neg (show i ≠ L.size by omega)]
 have rd : ∀ (L : Array Bool), L.size = ops.size → ∀ i, i < ops.size → (i ∈ Region.ready .any (ops.push last) (L.push false) ↔ i ∈ Region.ready .any ops L) := by
  intro L hL i hi
  rw [mem_ready, mem_ready, gp L hL i true hi, Array.getElem?_push, if_neg (by omega)]
  constructor
  ·rintro ⟨h1, o, ho, h2⟩
   exact ⟨h1, o, ho, fun e he hb => by rw [← gp L hL _ false (Nat.lt_trans (hdn i o ho e he) hi)]; exact h2 e he hb⟩
  ·rintro ⟨h1, o, ho, h2⟩
   exact ⟨h1, o, ho, fun e he hb => by rw [gp L hL _ false (Nat.lt_trans (hdn i o ho e he) hi)]; exact h2 e he hb⟩
 have rl : ∀ (L : Array Bool), L.size = ops.size → (ops.size ∈ Region.ready .any (ops.push last) (L.push false) ↔ ∀ i, i < ops.size → L.getD i false = true) := by
  intro L hL
  rw [mem_ready]
  constructor
  ·rintro ⟨_, o, ho, h2⟩ i hi
   simp only [Array.getElem?_push_size, Option.some.injEq] at ho
   subst ho
   obtain ⟨e, he, hb, rfl⟩ := hall i hi
   have := h2 e he hb
   rwa [gp L hL _ false hi] at this
  ·intro h
   refine ⟨by simp [Array.getD_eq_getD_getElem?, ← hL], last, by simp, fun e he _ => ?_⟩
   rw [gp L hL _ false (hin e he)]
   exact h _ (hin e he)
 have fin : ∀ (L : Array Bool) (a : Act) (w : World) fuel, L.size = ops.size → (∀ i, i < ops.size → L.getD i false = true) → Rb P ops last Q .normal a w →
   wpOp P (ops.push last) Q ops.size (wpAny P .any (ops.push last) Q fuel ((L.push false).setIfInBounds ops.size true)) a w := by
  intro L a w fuel hL h1 h2
  have hnr : Region.ready .any (ops.push last) ((L.push false).setIfInBounds ops.size true) = [] := by
   refine List.eq_nil_iff_forall_not_mem.2 fun j hj => ?_
   obtain ⟨h0, o, ho, _⟩ := mem_ready.1 hj
   have hlt := (Array.getElem?_eq_some_iff.1 ho).1
   simp only [Array.size_push] at hlt
   by_cases hj : j = ops.size
   ·subst hj
    simp [Array.getD_eq_getD_getElem?, ← hL] at h0
   ·have := h1 j (by omega)
    rw [Array.getD_eq_getD_getElem?, Array.getElem?_setIfInBounds_ne (Ne.symm hj), Array.getElem?_push, if_neg (by omega), ← Array.getD_eq_getD_getElem?] at h0
    simp only [Array.getD_eq_getD_getElem?, Array.getElem?_eq_getElem (show j < L.size by omega), Option.getD_some] at this h0
    rw [this] at h0; cases h0
  have hK : ∀ a w, Q .normal a w → wpAny P .any (ops.push last) Q fuel ((L.push false).setIfInBounds ops.size true) a w := by
   intro a w hq
   cases fuel with
   | zero => exact ⟨hnr, hq⟩
   | succ n => exact ⟨fun _ => hq, fun i hi => by rw [hnr] at hi; cases hi⟩
  unfold wpOp
  simp only [Array.getElem?_push_size]
  rw [if_pos (by unfold Region.wanted; rw [hgl])]
  exact .inl (Oper.wp_mono hK h2)
 intro fuel
 induction fuel with
 | zero =>
  intro L a w hL h
  obtain ⟨h1, h2⟩ := h
  have hf := full L hL h1
  refine ⟨fun hn => ?_, fun i hi => ?_⟩
  ·have := (rl L hL).2 hf
   rw [hn] at this; cases this
  ·have hlt : i ≤ ops.size := by
    obtain ⟨_, o, ho, _⟩ := mem_ready.1 hi
    have := (Array.getElem?_eq_some_iff.1 ho).1
    simp at this; omega
   rcases Nat.lt_or_ge i ops.size with hlt' | hge
   ·rw [rd L hL i hlt', h1] at hi; cases hi
   ·obtain rfl : i = ops.size := by omega
    exact fin L a w 0 hL hf h2
 | succ fuel ih =>
  intro L a w hL h
  obtain ⟨h1, h2⟩ := h
  refine ⟨fun hn => ?_, fun i hi => ?_⟩
  ·exfalso
   have : Region.ready .any ops L = [] := List.eq_nil_iff_forall_not_mem.2 fun j hj => by
    have hlt : j < ops.size := by
     obtain ⟨_, o, ho, _⟩ := mem_ready.1 hj
     exact (Array.getElem?_eq_some_iff.1 ho).1
    have := (rd L hL j hlt).2 hj
    rw [hn] at this; cases this
   have := (rl L hL).2 (full L hL this)
   rw [hn] at this; cases this
  ·have hlt : i ≤ ops.size := by
    obtain ⟨_, o, ho, _⟩ := mem_ready.1 hi
    have := (Array.getElem?_eq_some_iff.1 ho).1
    simp at this; omega
   rcases Nat.lt_or_ge i ops.size with hlt' | hge
   ·have := Vm hgs hlt' (h2 i ((rd L hL i hlt').1 hi))
    have e : (L.push false).setIfInBounds i true = (L.setIfInBounds i true).push false := by
     apply Array.ext
     ·simp
     ·intro j hj1 hj2
      simp only [Array.size_setIfInBounds, Array.size_push] at hj1
      rw [← Option.some_inj, ← Array.getElem?_eq_getElem, ← Array.getElem?_eq_getElem]
      by_cases hij : i = j
      ·subst hij
       rw [Array.getElem?_setIfInBounds_self_of_lt (by simp; omega), Array.getElem?_push, if_neg (by simp; omega), Array.getElem?_setIfInBounds_self_of_lt (by omega)]
      ·rw [Array.getElem?_setIfInBounds_ne hij, Array.getElem?_push, Array.getElem?_push, Array.getElem?_setIfInBounds_ne hij]
       simp
    rw [e]
    exact wpOp_mono (fun a w hh => ih _ a w (by simp [hL]) hh) this
   ·obtain rfl : i = ops.size := by omega
    have hf := (rl L hL).1 hi
    have hnil : Region.ready .any ops L = [] := List.eq_nil_iff_forall_not_mem.2 fun j hj => by
     obtain ⟨h0, o, ho, _⟩ := mem_ready.1 hj
     have hlt := (Array.getElem?_eq_some_iff.1 ho).1
     have := hf j hlt
     simp only [Array.getD_eq_getD_getElem?, Array.getElem?_eq_getElem (show j < L.size by omega), Option.getD_some] at this h0
     rw [this] at h0; cases h0
    exact fin L a w _ hL hf (h1 hnil)
theorem Tm (hm : P.follows .mixedOrders = true) {call : CallF} (hok : Cl P call) {rs : Nat → Bool} {cl : LOp → Cls} {es : List DOp} (h : Da P rs ops cl = some es)
  (hgs : ∀ (i : Nat) o, ops[i]? = some o → o.guard = none) (hgl : last.guard = none) (hdn : ∀ (i : Nat) o, ops[i]? = some o → ∀ e ∈ o.after, e.on < i)
  (hall : ∀ i, i < ops.size → ∃ e ∈ last.after, Region.binds .any e = true ∧ e.on = i) (hin : ∀ e ∈ last.after, e.on < ops.size)
  {t t' : List LV} {st st' : List LObj} {G : Gh} {w : World} {a : Act} (id : Nat) (hr : Bk call es [] t st = some (t', st')) (hw : WR G st w) (ht : TR G t a)
  (hq : ∀ a' w' G', WR G' st' w' → TR G' t' a' → Ext0 G st w G' st' w' → a'.defers = a.defers → last.wp P a' w' (Q .normal) Q) : (Code.region id (ops.push last) true).wp P Q a w := by
 refine wp_region_any hm ?_
 rw [Array.size_push, Array.replicate_succ]
 refine Tl hgs hgl hdn hall hin ops.size (Array.replicate ops.size false) a _ (by simp) ?_
 unfold Da at h
 split at h
 ·cases h
 ·rename_i los hc
  simp only at h
  split at h
  ·rename_i hb
   cases h
   have hs := Jn hc hb
   generalize Ti los _ _ _ = es at hs hr
   obtain ⟨T, S, V, tr, e1, e2, e3, e4, _⟩ := Er es [] t t' st st' hr (by simp)
   subst e1; subst e2; subst e3; subst e4
   have h' : WR G (S 0) { w with drawn := w.drawn + 1 } := hw.of_heap rfl
   have hx' : Ext0 G (S 0) w G (S 0) { w with drawn := w.drawn + 1 } := (Ext.of_heap (G := G) (st := S 0) (w := w) (w' := { w with drawn := w.drawn + 1 }) rfl rfl rfl rfl).to0
   have hmk : ∀ (p : Nat) (d : DOp), es[p]? = some d → d.cls = .a → S (p + 1) = S p ∨ ∃ x, S (p + 1) = S p ++ [x] := Mz hs tr
   obtain ⟨m, a1, a2, a3, a4, a5, a6, a7⟩ := Pv (G0 := G) (w0 := w) (L := Array.replicate ops.size false) tr hmk es.length 0 rfl (Nat.zero_le _) h' hx' (fun p d x hp => by omega)
   have hnl : ∀ i, ¬ LL (Array.replicate ops.size false) i := by
    intro i hi
    unfold LL at hi
    by_cases hlt : i < ops.size
    ·simp [hlt] at hi
    ·simp [hlt] at hi
   refine Oo (Q := Rb P ops last Q) (G0 := G) (w0 := w) hok hs tr (df := a.defers) (fun a' w' G' g1 g2 g3 g4 => hq a' w' G' g1 g2 g3 g4) ops.size _ a _ m G [] ⟨by simp, fun i hi => absurd hi (hnl i), a2, fun p d hp hd hc => absurd hc (a3 p d (by omega) hp hd), fun d hd => ⟨a4 d hd, hnl _⟩, a5, a6, a7, ht.1, fun i hi p d hp hl => absurd hl (hnl _), fun i hi _ => ht.get i⟩
    List.nodup_nil (by simp) (by simp) rfl
  ·cases h
end last
theorem TR.sub {G : Gh} {t t' : List LV} {a : Act} (h : TR G t a) (hl : t'.length = t.length) (hs : ∀ (i : Nat) v, t'[i]? = some v → v = .und ∨ t[i]? = some v) : TR G t' a :=
 ⟨by rw [hl]; exact h.1, fun i v hv => by
  rcases hs i v hv with rfl | h'
  ·exact .und _
  ·exact h.2 i v h'⟩
def Gh.restr (G : Gh) (n : Nat) : Gh := { F := G.F, loc := fun o => if o < n then G.loc o else none, hist := fun o f => if o < n then G.hist o f else none }
theorem VL.restr {G : Gh} {n : Nat} {v : LV} {u : Value} (h : VL G v u) (hr : ∀ o ∈ v.refs, o < n) : VL (G.restr n) v u := by
 have := VL.ren (G := G) (G' := G.restr n) (fun _ _ _ h => h) (fun o => o) h (fun o ho l hl => by simp only [Gh.restr]; rw [if_pos (hr o ho)]; exact hl) (fun o ho f s hs => by simp only [Gh.restr]; rw [if_pos (hr o ho)]; exact hs)
 rwa [LV.ren_id] at this
theorem Owns.restr {G : Gh} {S J : List LObj} {o b : Nat} (h : Owns (G.restr S.length) S o b) : Owns G (S ++ J) o b := by
 have hlt := h.lt
 unfold Owns at *
 rw [List.getElem?_append_left hlt]
 simp only [Gh.restr, if_pos hlt] at h
 exact h
theorem WR.drop {G : Gh} {S J : List LObj} {w : World} (h : WR G (S ++ J) w) (hc : ∀ (o : Nat) x, S[o]? = some x → ∀ q ∈ x.refs, q < S.length) : WR (G.restr S.length) S w := by
 have hlt : ∀ {o : Nat} {x : LObj}, S[o]? = some x → o < S.length := fun e => (List.getElem?_eq_some_iff.1 e).1
 have up : ∀ {o : Nat} {x : LObj}, S[o]? = some x → (S ++ J)[o]? = some x := fun e => by rw [List.getElem?_append_left (hlt e)]; exact e
 have ll : ∀ {o : Nat} {x : LObj}, S[o]? = some x → (G.restr S.length).loc o = G.loc o := fun e => by simp only [Gh.restr, if_pos (hlt e)]
 have lh : ∀ {o : Nat} {x : LObj}, S[o]? = some x → ∀ f, (G.restr S.length).hist o f = G.hist o f := fun e f => by simp only [Gh.restr, if_pos (hlt e)]
 refine ⟨h.fr, fun o ho => ⟨by simp only [Gh.restr, if_neg (show ¬ o < S.length by omega)], fun f => by simp only [Gh.restr, if_neg (show ¬ o < S.length by omega)]⟩, ?_, ?_, ?_, ?_, fun o o' b h1 h2 => h.uniq o o' b h1.restr h2.restr, ?_, ?_⟩
 ·intro o es ho l hl
  rw [ll ho] at hl
  obtain ⟨blk, size, n, e, arr, ty, hb, r1, r2, r3, r4⟩ := h.row o es (up ho) l hl
  refine ⟨blk, size, n, e, arr, ty, hb, r1, r2, r3, fun i j c hij => ?_⟩
  obtain ⟨u, a1, a2, a3⟩ := r4 i j c hij
  refine ⟨u, a1, a2.restr fun q hq => hc o _ ho q ?_, a3⟩
  unfold at2 at hij
  simp only [Option.bind_eq_some_iff] at hij
  obtain ⟨e', he, hj⟩ := hij
  simp only [LObj.refs, List.mem_flatMap]
  exact ⟨e', List.mem_of_getElem? he, by simpa [LV.refsL_eq] using ⟨c, List.mem_of_getElem? hj, hq⟩⟩
 ·intro o kv ho l hl
  rw [ll ho] at hl
  obtain ⟨blk, e, es, c, hb, ⟨m1, m2⟩, r⟩ := h.map o kv (up ho) l hl
  refine ⟨blk, e, es, c, hb, ⟨m1, fun i k v hi => ?_⟩, r⟩
  obtain ⟨e', a1, a2, a3⟩ := m2 i k v hi
  refine ⟨e', a1, a2, a3.restr fun q hq => hc o _ ho q ?_⟩
  simp only [LObj.refs, List.mem_flatMap]
  exact ⟨_, List.mem_of_getElem? hi, hq⟩
 ·intro o s p ho l hl
  rw [ll ho] at hl
  exact h.iter o s p (up ho) l hl
 ·intro o n hw ho
  obtain ⟨h1, h2⟩ := h.spare o n hw (up ho)
  refine ⟨fun f hf => by rw [lh ho]; exact h1 f hf, fun s hs => ?_⟩
  rw [lh ho] at hs
  exact h2 s hs
 ·intro o b ho hn off
  refine h.ownF o b ho.restr (fun ⟨n, hw, e⟩ => hn ⟨n, hw, ?_⟩) off
  rwa [List.getElem?_append_left ho.lt] at e
 ·intro o x ho hx f
  rw [lh ho]
  exact h.kind o x (up ho) hx f
theorem Ext0.drop {G G' : Gh} {S S' J : List LObj} {w w' : World} (h : Ext0 G S w G' (S' ++ J) w') (hd : ∀ o, S.length ≤ o → G.loc o = none ∧ ∀ f, G.hist o f = none) (hl : S.length ≤ S'.length) : Ext0 G S w (G'.restr S'.length) S' w' := by
 refine ⟨⟨h.le.F, fun o l hl' => ?_, fun o f s hs => ?_⟩, h.os, h.tape, h.output, h.hsz, h.unch, fun o b ho hb => h.own o b ho.restr hb, h.newF⟩
 ·have : o < S'.length := by
   rcases Nat.lt_or_ge o S.length with h1 | h1
   ·omega
   ·rw [(hd o h1).1] at hl'; cases hl'
  simp only [Gh.restr, if_pos this]; exact h.le.loc _ _ hl'
 ·have : o < S'.length := by
   rcases Nat.lt_or_ge o S.length with h1 | h1
   ·omega
   ·rw [(hd o h1).2] at hs; cases hs
  simp only [Gh.restr, if_pos this]; exact h.le.hist _ _ _ hs
theorem TR.restr {G : Gh} {n : Nat} {t : List LV} {a : Act} (h : TR G t a) (hr : ∀ (i : Nat) v, t[i]? = some v → ∀ o ∈ v.refs, o < n) : TR (G.restr n) t a :=
 ⟨h.1, fun i v hv => (h.2 i v hv).restr (hr i v hv)⟩
end Go.LS
set_option linter.unusedVariables false
set_option linter.unusedSimpArgs false
namespace Go.LS
def nmB (s : List UInt8) : Bool := decide (1 ≤ s.length) && decide (s.length ≤ 24)
def ksV (ks : List (List UInt8 × Int)) : List (PV × LV) := ks.map fun x => (.str x.1, .p (.int .i64 x.2))
def Ke (s : List UInt8) (n : Int) : List (List UInt8 × Int) → List (List UInt8 × Int)
 | [] => [(s, n)]
 | (j, u) :: r => if s == j then (s, n) :: r else (j, u) :: Ke s n r
def Hb (s : List UInt8) : List (List UInt8 × Int) → Option Int
 | [] => none
 | (j, u) :: r => if s == j then some u else Hb s r
theorem Rc (s : List UInt8) (n : Int) : ∀ ks, Jv (.str s) (.p (.int .i64 n)) (ksV ks) = some (ksV (Ke s n ks))
 | [] => rfl
 | (j, u) :: r => by
  have ih := Rc s n r
  simp only [ksV] at ih
  simp only [ksV, List.map_cons, Jv, Gm, Ke]
  cases h : s == j
  ·simp [ih]
  ·simp
theorem Or (s : List UInt8) : ∀ ks, D9 (.str s) (ksV ks) = some ((Hb s ks).map fun n => .p (.int .i64 n))
 | [] => rfl
 | (j, u) :: r => by
  have ih := Or s r
  simp only [ksV] at ih
  simp only [ksV, List.map_cons, D9, Gm, Hb]
  cases h : s == j
  ·simp [ih]
  ·simp
def kOk (ks : List (List UInt8 × Int)) : Prop := ∀ x ∈ ks, 0 ≤ x.2
theorem Py {s : List UInt8} {n : Int} (hn : 0 ≤ n) : ∀ {ks}, kOk ks → kOk (Ke s n ks)
 | [], _ => by intro x hx; simp [Ke] at hx; subst hx; exact hn
 | (j, u) :: r, h => by
  simp only [Ke]
  split
  ·intro x hx
   rcases List.mem_cons.1 hx with rfl | hx
   ·exact hn
   ·exact h x (List.mem_cons_of_mem _ hx)
  ·intro x hx
   rcases List.mem_cons.1 hx with rfl | hx
   ·exact h _ List.mem_cons_self
   ·exact Py hn (fun y hy => h y (List.mem_cons_of_mem _ hy)) x hx
theorem Pz {s : List UInt8} {n : Int} : ∀ {ks}, kOk ks → Hb s ks = some n → 0 ≤ n
 | [], _, e => by simp [Hb] at e
 | (j, u) :: r, h, e => by
  simp only [Hb] at e
  split at e
  ·cases e; exact h _ List.mem_cons_self
  ·exact Pz (fun y hy => h y (List.mem_cons_of_mem _ hy)) e
def F4 : List (List PV) → List (List UInt8 × Int) → Option (Option (List (List UInt8 × Int)))
 | [], ks => some (some ks)
 | [.str s, .int .i64 n] :: r, ks => if nmB s then F4 r (Ke s (if n < 0 then 0 else n) ks) else some none
 | _, _ => none
abbrev Ent := List UInt8 × List (List PV) × Int
def Rd : PV × LV → Option Ent
 | (.str s, .agg [x, .p (.int .i64 u)]) => match x.asSl with
  | some B => if (B.all fun e => e.length == 1) && decide (0 ≤ u) && decide (u ≤ B.length) then some (s, B, u) else none
  | none => none
 | _ => none
def Ig : List (PV × LV) → Option (List Ent)
 | [] => some []
 | x :: r => match Rd x, Ig r with
  | some e, some l => some (e :: l)
  | _, _ => none
def F5 (ks : List (List UInt8 × Int)) (s : List UInt8) (B : List (List PV)) (u : Int) : Int :=
 u + (if (B.length : Int) - u < (Hb s ks).getD 0 then (B.length : Int) - u else (Hb s ks).getD 0)
def Hc (e : Ent) : PV × LV := (.str e.1, .agg [.p (.sl e.2.1), .p (.int .i64 e.2.2)])
def Cm (ks : List (List UInt8 × Int)) (e : Ent) : PV × LV := (.str e.1, .agg [.p (.sl (e.2.1.take (F5 ks e.1 e.2.1 e.2.2).toNat)), .p (.int .i64 (F5 ks e.1 e.2.1 e.2.2))])
def Ih (args : List LV) (st : List LObj) : Option (LV × List LObj) :=
 match args with
 | [.p .nilp, _] => some (.p (.int .i64 6), st)
 | [.ptr o 0 0, l] => match l.asSl with
  | none => none
  | some rows => match st[o]? with
   | some (.row [[.mp m, .p a, .p b, .p c]]) => match st[m]? with
    | some (.map kv) => match F4 rows [] with
     | none => none
     | some none => some (.p (.int .i64 1), st)
     | some (some ks) => match Ig kv with
      | none => none
      | some es => if G7 (es.map (·.1)) then
        some (.p (.int .i64 0), (st.set m (.map (es.map (Cm ks)))).set o (.row [[.mp m, .p (.int .i64 (-1)), .p (.int .i64 0), .p (.bool false)]]))
       else none
    | _ => none
   | _ => none
 | _ => none
def lk : List (Nat × LV) → Nat → LV
 | [], _ => .und
 | (j, v) :: r, i => if i == j then v else lk r i
def mkT (f : List (Nat × LV)) : List LV := (List.range 74).map (lk f)
theorem E6 (f : List (Nat × LV)) : (mkT f).length = 74 := by simp [mkT]
theorem E7 (f : List (Nat × LV)) (i : Nat) (h : i < 74) : (mkT f).getD i .und = lk f i := by
 simp [mkT, List.getD, h]
theorem P0 (f : List (Nat × LV)) (d : Nat) (v : LV) (h : d < 74) : Ew (mkT f) (some d) v = mkT ((d, v) :: f) := by
 simp only [Ew]
 apply List.ext_getElem?
 intro i
 by_cases hi : i < 74
 ·by_cases hd : i = d
  ·subst hd
   rw [List.getElem?_set_self (by rw [E6]; exact hi)]
   simp [mkT, hi, lk]
  ·rw [List.getElem?_set_ne (Ne.symm hd)]
   simp [mkT, hi, lk, hd]
 ·rw [List.getElem?_eq_none (by simp [E6]; omega), List.getElem?_eq_none (by simp [E6]; omega)]
def Sub : List (Nat × LV) → List (Nat × LV) → Prop
 | [], _ => True
 | p :: r, f => lk f p.1 = p.2 ∧ Sub r f
theorem Xg : ∀ {g f : List (Nat × LV)}, Sub g f → ∀ i, lk g i = .und ∨ lk g i = lk f i
 | [], _, _, i => .inl rfl
 | (j, v) :: r, f, h, i => by
  simp only [lk]
  split
  ·rename_i e
   simp only [beq_iff_eq] at e
   subst e
   exact .inr h.1.symm
  ·exact Xg h.2 i
theorem TR.forget {G : Gh} {f : List (Nat × LV)} {a : Act} (h : TR G (mkT f) a) (g : List (Nat × LV)) (hs : Sub g f) : TR G (mkT g) a :=
 h.sub (by simp [E6]) fun i v hv => by
  have hi : i < 74 := by
   have := (List.getElem?_eq_some_iff.1 hv).1
   rwa [E6] at this
  simp only [mkT, List.getElem?_map, List.getElem?_range hi, Option.map_some, Option.some.injEq] at hv ⊢
  subst hv
  exact (Xg hs i).imp id Eq.symm
theorem TR.at {G : Gh} {f : List (Nat × LV)} {a : Act} (h : TR G (mkT f) a) (i : Nat) (hi : i < 74) : VL G (lk f i) (a.tmps.getD i undef) := by
 have := h.get i
 rwa [E7 f i hi] at this
theorem TR.putM {G : Gh} {f : List (Nat × LV)} {a : Act} (h : TR G (mkT f) a) {v : LV} {u : Value} (hv : VL G v u) (d : Nat) (hd : d < 74) : TR G (mkT ((d, v) :: f)) (a.put (some d) u) := by
 have := h.put hv (some d)
 rwa [P0 f d v hd] at this
section runs
variable {call : CallF}
theorem Hd {t : List LV} {st : List LObj} : Bd call [] t st = some (t, st) := rfl
theorem A8 {o : LOp} {d : Nat} {r : List Bl} {f f' : List (Nat × LV)} {st st1 st' : List LObj} {v : LV} (hd : d < 74) (h : Ag call (mkT f) st o = some (v, st1))
  (hr : Bd call r (mkT ((d, v) :: f)) st1 = some (mkT f', st')) : Bd call (⟨some d, o, none⟩ :: r) (mkT f) st = some (mkT f', st') := by
 simp only [Bd, Bz, gd, h]
 rw [P0 f d v hd]
 exact hr
theorem Kf {o : LOp} {r : List Bl} {f f' : List (Nat × LV)} {st st1 st' : List LObj} {v : LV} (h : Ag call (mkT f) st o = some (v, st1))
  (hr : Bd call r (mkT f) st1 = some (mkT f', st')) : Bd call (⟨none, o, none⟩ :: r) (mkT f) st = some (mkT f', st') := by
 simp only [Bd, Bz, gd, h, Ew]
 exact hr
theorem He {o : LOp} {i d : Nat} {r : List DOp} {f f' : List (Nat × LV)} {st st' : List LObj} {v : LV} (hd : d < 74) (hp : Fd o v = true) (h : Ag call (mkT f) st o = some (v, st))
  (hr : ∀ held, Bk call r held (mkT ((d, v) :: f)) st = some (mkT f', st')) (held : List (DOp × List LV × LV)) : Bk call (⟨.h, i, [], ⟨some d, o, none⟩⟩ :: r) held (mkT f) st = some (mkT f', st') := by
 simp only [Bk, Bz, gd, h, hp, if_true]
 rw [P0 f d v hd]
 exact hr _
theorem dnil {held : List (DOp × List LV × LV)} {t : List LV} {st : List LObj} : Bk call [] held t st = some (t, st) := rfl
theorem Re {K : Nat} {s : List UInt8} {r : PV} {st : List LObj} (h : call K [.p (.str s)] [] = some (.p r, [])) : B0 call K [.p (.str s)] st = some (.p r, st) := by
 have hw : wk (call.weak K) [.p (.str s)] = [.p (.str s)] := by cases call.weak K <;> rfl
 unfold B0
 simp only [hw]
 show (if _ then _ else _) = _
 simp [LV.refs, Dq, C9, sub, LV.ren, h, Cc]
end runs
end Go.LS
set_option linter.unusedVariables false
set_option linter.unusedSimpArgs false
namespace Go.LS
abbrev Et (c c' : CallF) : Prop := ∀ f a s r, c f a s = some r → c' f a s = some r ∧ c'.weak f = c.weak f
theorem F6 {c c' : CallF} (h : Et c c') {f : FuncId} {args : List LV} {st : List LObj} {r : LV × List LObj} (hr : B0 c f args st = some r) : B0 c' f args st = some r := by
 unfold B0 at hr ⊢
 simp only at hr ⊢
 split at hr
 ·rename_i hcl
  split at hr
  ·rename_i v st' hc
   obtain ⟨h1, h2⟩ := h _ _ _ _ hc
   rw [h2, if_pos hcl, h1]
   exact hr
  ·cases hr
 ·cases hr
theorem K7 {c c' : CallF} (h : Et c c') : Et (Ei c) (Ei c') := by
 intro f a s r hr
 unfold Ei at hr ⊢
 simp only at hr ⊢
 split at hr
 ·rename_i v st' hc
  obtain ⟨h1, h2⟩ := h _ _ _ _ hc
  rw [h1]
  exact ⟨hr, h2⟩
 ·cases hr
theorem Hf {c c' : CallF} (h : Et c c') {t : List LV} {st : List LObj} {op : LOp} {r : LV × List LObj} (hr : Ag c t st op = some r) : Ag c' t st op = some r := by
 cases op
 case call f args => simp only [Ag] at hr ⊢; exact F6 h hr
 case callz f args => simp only [Ag] at hr ⊢; exact F6 (K7 h) hr
 case callv f args =>
  simp only [Ag] at hr ⊢
  split at hr
  ·exact F6 h hr
  ·cases hr
 all_goals exact hr
theorem Ii {c c' : CallF} (h : Et c c') {t : List LV} {st : List LObj} {o : Bl} {r : LV × List LObj} (hr : Bz c t st o = some r) : Bz c' t st o = some r := by
 unfold Bz at hr ⊢
 split at hr
 ·exact Hf h hr
 ·exact hr
 ·cases hr
theorem K8 {c c' : CallF} (h : Et c c') : ∀ {l : List Bl} {t : List LV} {st : List LObj} {r : List LV × List LObj}, Bd c l t st = some r → Bd c' l t st = some r
 | [], t, st, r, hr => hr
 | o :: l, t, st, r, hr => by
  simp only [Bd] at hr ⊢
  split at hr
  ·rename_i v st' hs
   rw [Ii h hs]
   exact K8 h hr
  ·cases hr
theorem K9 {c c' : CallF} (h : Et c c') {st : List LObj} {held : List (DOp × List LV × LV)} (hr : Fb c st held = true) : Fb c' st held = true := by
 unfold Fb at hr ⊢
 rw [List.all_eq_true] at hr ⊢
 intro x hx
 have := hr x hx
 split at this
 ·rename_i v s hs
  rw [Ii h hs]
  exact this
 ·cases this
theorem Dz {c c' : CallF} (h : Et c c') : ∀ {l : List DOp} {held : List (DOp × List LV × LV)} {t : List LV} {st : List LObj} {r : List LV × List LObj}, Bk c l held t st = some r → Bk c' l held t st = some r
 | [], held, t, st, r, hr => hr
 | d :: l, held, t, st, r, hr => by
  simp only [Bk] at hr ⊢
  split at hr
  ·cases hr
  ·rename_i v st' hs
   rw [Ii h hs]
   simp only
   split at hr
   ·split at hr
    ·rename_i hp; rw [if_pos hp]; exact Dz h hr
    ·cases hr
   ·split at hr
    ·rename_i hp
     simp only [Bool.and_eq_true] at hp
     rw [if_pos (by simp [hp.1, K9 h hp.2])]; exact Dz h hr
    ·cases hr
   ·split at hr
    ·rename_i hp
     simp only [Bool.and_eq_true] at hp
     rw [if_pos (by simp only [Bool.and_eq_true]; exact ⟨hp.1, K9 h hp.2⟩)]; exact Dz h hr
    ·cases hr
theorem Kg (r : C4 × List LV × List LObj) : Dj (some r) (some r) = some r := by
 unfold Dj
 simp [LV.eqbs_refl, Mc]
theorem Ax {c c' : CallF} (h : Et c c') {k : Nat} : ∀ {n m : Nat}, n ≤ m → ∀ {lc : Bh} {t : List LV} {st : List LObj} {r : C4 × List LV × List LObj}, Au c k n lc t st = some r → Au c' k m lc t st = some r
 | 0, m, _, lc, t, st, r, hr => by simp [Au] at hr
 | n + 1, 0, hnm, lc, t, st, r, hr => by omega
 | n + 1, m + 1, hnm, lc, t, st, r, hr => by
  have hle : n ≤ m := by omega
  cases lc with
  | skip => exact hr
  | exit id mask => exact hr
  | ret mask => exact hr
  | fail => simp [Au] at hr
  | region ops =>
   simp only [Au] at hr ⊢
   split at hr
   ·rename_i t' st' hs
    rw [K8 h hs]; exact hr
   ·cases hr
  | drawn ops =>
   simp only [Au] at hr ⊢
   split at hr
   ·rename_i t' st' hs
    rw [Dz h hs]; exact hr
   ·cases hr
  | seq a b =>
   have go : ∀ {la : Bh} {r}, Ch (Au c k n la t st) (Au c k n b) = some r → Ch (Au c' k m la t st) (Au c' k m b) = some r := by
    intro la r hr
    cases ha : Au c k n la t st with
    | none => rw [ha] at hr; cases hr
    | some x =>
     rw [ha] at hr
     rw [Ax h hle ha]
     obtain ⟨o, t', st'⟩ := x
     cases o with
     | normal => exact Ax h hle hr
     | _ => exact hr
   simp only [Au] at hr ⊢
   exact go hr
  | Dj x a b d =>
   have go : ∀ {la : Bh} {r}, Ch (Au c k n la t st) (Au c k n d) = some r → Ch (Au c' k m la t st) (Au c' k m d) = some r := by
    intro la r hr
    cases ha : Au c k n la t st with
    | none => rw [ha] at hr; cases hr
    | some x =>
     rw [ha] at hr
     rw [Ax h hle ha]
     obtain ⟨o, t', st'⟩ := x
     cases o with
     | normal => exact Ax h hle hr
     | _ => exact hr
   simp only [Au] at hr ⊢
   split at hr
   ·exact go hr
   ·exact go hr
   ·obtain ⟨e1, e2⟩ := Iy hr
    rw [go e1, go e2]
    exact Kg r
   ·cases hr
  | cond x a b =>
   simp only [Au] at hr ⊢
   split at hr
   ·exact Ax h hle hr
   ·exact Ax h hle hr
   ·obtain ⟨e1, e2⟩ := Iy hr
    rw [Ax h hle e1, Ax h hle e2]
    exact Kg r
   ·cases hr
  | block id mask a =>
   simp only [Au] at hr ⊢
   cases ha : Au c k n a t st with
   | none => rw [ha] at hr; cases hr
   | some x =>
    rw [ha] at hr
    rw [Ax h hle ha]
    exact hr
  | loop mask a =>
   simp only [Au] at hr ⊢
   split at hr
   ·rename_i t0 st0 hg
    cases ha : Au c k n a t0 st0 with
    | none => rw [ha] at hr; cases hr
    | some x =>
     rw [ha] at hr
     rw [Ax h hle ha]
     obtain ⟨o, t', st'⟩ := x
     cases o with
     | normal => exact Ax h hle hr
     | _ => exact hr
   ·cases hr
theorem Bg {lp : A1} : ∀ {n m : Nat}, n ≤ m → Et (B7 lp n) (B7 lp m)
 | 0, m, _ => fun f a s r h => by simp [B7] at h
 | n + 1, 0, hnm => by omega
 | n + 1, m + 1, hnm => by
  intro f a s r h
  refine ⟨?_, rfl⟩
  simp only [B7] at h ⊢
  split at h
  ·exact h
  ·split at h
   ·cases h
   ·rename_i lf hlf
    split at h
    ·cases h
    ·rename_i out t' st' hne hex
     rw [Ax (Bg (show n ≤ m by omega)) (show n ≤ m by omega) hex]
     simp only
     cases out with
     | exit i => exact (hne i rfl).elim
     | _ => exact h
    ·cases h
def Runs (lp : A1) (f : FuncId) (args : List LV) (st : List LObj) (r : LV × List LObj) : Prop := ∃ n, B7 lp n f args st = some r
def Exec (lp : A1) (k : Nat) (c : Bh) (t : List LV) (st : List LObj) (r : C4 × List LV × List LObj) : Prop := ∃ n, Au (B7 lp n) k n c t st = some r
theorem Exec.at {lp : A1} {k : Nat} {c : Bh} {t : List LV} {st : List LObj} {r : C4 × List LV × List LObj} (h : Exec lp k c t st r) : ∃ n, ∀ m, n ≤ m → Au (B7 lp m) k m c t st = some r :=
 let ⟨n, hn⟩ := h
 ⟨n, fun m hm => Ax (Bg hm) hm hn⟩
theorem Runs.at {lp : A1} {f : FuncId} {args : List LV} {st : List LObj} {r : LV × List LObj} (h : Runs lp f args st r) : ∃ n, ∀ m, n ≤ m → B7 lp m f args st = some r :=
 let ⟨n, hn⟩ := h
 ⟨n, fun m hm => (Bg hm _ _ _ _ hn).1⟩
def RunsZ (lp : A1) (f : FuncId) (args : List LV) (st : List LObj) (r : LV × List LObj) : Prop := ∃ n, Ei (B7 lp n) f args st = some r
theorem RunsZ.at {lp : A1} {f : FuncId} {args : List LV} {st : List LObj} {r : LV × List LObj} (h : RunsZ lp f args st r) : ∃ n, ∀ m, n ≤ m → Ei (B7 lp m) f args st = some r := by
 obtain ⟨n, hn⟩ := h
 exact ⟨n, fun m hm => (K7 (Bg hm) _ _ _ _ hn).1⟩
theorem Z1 {st : List LObj} {vs : List LV} (h : vs.flatMap LV.refs = []) : gc 0 vs st = some (vs.map (LV.ren fun q => ([] : List Nat).idxOf q), []) := by
 unfold gc Mb
 simp only [List.take_zero, List.flatMap_nil, h, List.append_nil, List.range_zero]
 have e : Dq st 100000 [] [] = [] := rfl
 rw [e]
 exact if_pos rfl
theorem Runs.z {lp : A1} {f : FuncId} {args : List LV} {r v : LV} {st st' : List LObj} (h : Runs lp f args [] (r, st)) (hf : Sv st r = (v, st')) (hv : v.refs = []) (hr : v.ren (fun q => ([] : List Nat).idxOf q) = v) : RunsZ lp f args [] (v, []) := by
 obtain ⟨n, hn⟩ := h
 refine ⟨n, ?_⟩
 unfold Ei
 simp only [hn, hf, List.length_nil]
 rw [Z1 (by simp [hv])]
 simp only [List.map_cons, List.map_nil, hr]
end Go.LS
set_option linter.unusedVariables false
set_option linter.unusedSimpArgs false
namespace Go.LS
inductive Orc where
 | b (c : Bool)
 | op (v : LV) (st : List LObj)
 | call (v : LV) (st : List LObj)
 | lp (out : C4) (t : List LV) (st : List LObj)
 | lg (out : C4) (t : List LV) (st : List LObj) (t0 : List LV) (st0 : List LObj)
 | cg (v : LV) (st : List LObj)
abbrev Os := List (Nat × Orc)
def Z2 : Os → Option Orc × Os
 | (0, o) :: r => (some o, r)
 | (n + 1, o) :: r => (none, (n, o) :: r)
 | [] => (none, [])
def LX.inst (t : List LV) (x : LX) : LX := .const (x.ev t)
def A5 : CallF := ⟨fun _ _ _ => none, fun _ => false⟩
def LOp.inst (t : List LV) : LOp → LOp
 | .mv x => .mv (x.inst t)
 | .pick c a b => .pick (c.inst t) (a.inst t) (b.inst t)
 | .alloc z => .alloc z
 | .box x => .box (x.inst t)
 | .build z ps => .build z (ps.map fun p => (p.1, p.2.1, p.2.2.inst t))
 | .mkrow r s l z ps => .mkrow r s l z (ps.map fun p => (p.1, p.2.inst t))
 | .load a n x => .load a n (x.inst t)
 | .store n x v => .store n (x.inst t) (v.inst t)
 | .nilChk x => .nilChk (x.inst t)
 | .bin o x y => .bin o (x.inst t) (y.inst t)
 | .beq o x y => .beq o (x.inst t) (y.inst t)
 | .peq o x y => .peq o (x.inst t) (y.inst t)
 | .nileq o k x => .nileq o k (x.inst t)
 | .un o x => .un o (x.inst t)
 | .cv k x => .cv k (x.inst t)
 | .fn f cs => .fn f (cs.map (LX.inst t))
 | .fnm f fs cs => .fnm f (fs.map (LX.inst t)) (cs.map (LX.inst t))
 | .clearS z x => .clearS z (x.inst t)
 | .appendR n m a b => .appendR n m (a.inst t) (b.inst t)
 | .iface ty x => .iface ty (x.inst t)
 | .mkmap => .mkmap
 | .mkslice a b z l c => .mkslice a b z (l.inst t) (c.inst t)
 | .sslice x a b c => .sslice (x.inst t) (a.map (LX.inst t)) (b.map (LX.inst t)) (c.map (LX.inst t))
 | .slice n x a b c => .slice n (x.inst t) (a.map (LX.inst t)) (b.map (LX.inst t)) (c.map (LX.inst t))
 | .fieldAddr n x => .fieldAddr n (x.inst t)
 | .field g n m x => .field g n m (x.inst t)
 | .indexAddr n x i => .indexAddr n (x.inst t) (i.inst t)
 | .arrAddr n m x i => .arrAddr n m (x.inst t) (i.inst t)
 | .index x i => .index (x.inst t) (i.inst t)
 | .arrIndex g n m x i => .arrIndex g n m (x.inst t) (i.inst t)
 | .lookup k z o x i => .lookup k z o (x.inst t) (i.inst t)
 | .mapUpdate k a b c => .mapUpdate k (a.inst t) (b.inst t) (c.inst t)
 | .delete k a b => .delete k (a.inst t) (b.inst t)
 | .range x => .range (x.inst t)
 | .next x => .next (x.inst t)
 | .extract x i => .extract (x.inst t) i
 | .call f as => .call f (as.map (LX.inst t))
 | .callv f as => .callv (f.inst t) (as.map (LX.inst t))
 | .callz f as => .callz f (as.map (LX.inst t))
 | .append s n m a b => .append s n m (a.inst t) (b.inst t)
 | .grow n m a b => .grow n m (a.inst t) (b.inst t)
 | .len x => .len (x.inst t)
 | .slen x => .slen (x.inst t)
 | .mlen x => .mlen (x.inst t)
 | .const v => .const v
 | .fail => .fail
 | .seq n l x y => .seq n l (x.inst t) (y.inst t)
 | .retire x => .retire (x.inst t)
 | .cap x => .cap (x.inst t)
 | .mx x y => .mx (x.inst t) (y.inst t)
 | .mn x y => .mn (x.inst t) (y.inst t)
theorem P6 (t s : List LV) (x : LX) : (x.inst t).ev s = x.ev t := rfl
theorem Xh (t s : List LV) (xs : List LX) : (xs.map (LX.inst t)).map (LX.ev s) = xs.map (LX.ev t) := by rw [List.map_map]; rfl
theorem Xi (t s : List LV) (xs : Option LX) : (xs.map (LX.inst t)).map (LX.ev s) = xs.map (LX.ev t) := by cases xs <;> rfl
theorem M4 (t s : List LV) : ∀ (ps : List (Nat × Nat × LX)), Dw s (ps.map fun p => (p.1, p.2.1, p.2.2.inst t)) = Dw t ps
 | [] => rfl
 | (a, b, x) :: r => by simp only [List.map_cons, Dw, P6, M4 t s r]
theorem Rf (t s : List LV) : ∀ (ps : List (Nat × LX)), Gl s (ps.map fun p => (p.1, p.2.inst t)) = Gl t ps
 | [] => rfl
 | (a, x) :: r => by simp only [List.map_cons, Gl, P6, Rf t s r]
theorem Rg (call : CallF) (t s : List LV) (st : List LObj) (op : LOp) : Ag call s st (op.inst t) = Ag call t st op := by
 cases op <;> simp only [LOp.inst, Ag, P6, Xh, Xi, M4, Rf]
abbrev OpIs (t : List LV) (st : List LObj) (op : LOp) (v : LV) (st' : List LObj) : Prop := Ag A5 [] st (op.inst t) = some (v, st')
theorem Ot (c : CallF) : Et A5 c := fun f a s r h => by simp [A5] at h
theorem OpIs.step {t : List LV} {st st' : List LObj} {op : LOp} {v : LV} (h : OpIs t st op v st') (c : CallF) : Ag c t st op = some (v, st') :=
 Hf (Ot c) (by rw [← Rg A5 t []]; exact h)
def Ou (lp : A1) (f : FuncId) (args : List LV) (st : List LObj) (r : LV) (st1 : List LObj) : Option (LV × List LObj × Prop) :=
 let args := wk (lp.weak f) args
 let ids := Dq st 100000 (args.flatMap LV.refs) []
 if C9 st ids && (args.flatMap LV.refs).all (ids.contains ·) && decide ids.Nodup then
  if ids.length ≤ st1.length then
   let b := Fa ids st.length
   some (r.ren b, Cc st ids ((st1.take ids.length).map (LObj.ren b)) ++ (st1.drop ids.length).map (LObj.ren b),
    Runs lp f (args.map (LV.ren fun q => ids.idxOf q)) (sub st ids) (r, st1))
  else none
 else none
theorem Hg {lp : A1} {f : FuncId} {args : List LV} {st st1 st' : List LObj} {r v : LV} {p : Prop} (h : Ou lp f args st r st1 = some (v, st', p)) (hp : p) :
  ∃ n, ∀ m, n ≤ m → B0 (B7 lp m) f args st = some (v, st') := by
 unfold Ou at h
 simp only at h
 split at h
 ·rename_i hc
  split at h
  ·rename_i hl
   cases h
   obtain ⟨n, hn⟩ := Runs.at hp
   refine ⟨n, fun m hm => ?_⟩
   unfold B0
   simp only
   rw [Jy, if_pos hc, hn m hm]
   simp only
   rw [if_pos hl]
  ·cases h
 ·cases h
def Tn (lp : A1) (f : FuncId) (args : List LV) (st : List LObj) (r : LV) (st1 : List LObj) : Option (LV × List LObj × Prop) :=
 let args := wk (lp.weak f) args
 let ids := Dq st 100000 (args.flatMap LV.refs) []
 if C9 st ids && (args.flatMap LV.refs).all (ids.contains ·) && decide ids.Nodup then
  if ids.length ≤ st1.length then
   let b := Fa ids st.length
   some (r.ren b, Cc st ids ((st1.take ids.length).map (LObj.ren b)) ++ (st1.drop ids.length).map (LObj.ren b),
    RunsZ lp f (args.map (LV.ren fun q => ids.idxOf q)) (sub st ids) (r, st1))
  else none
 else none
theorem P7 {lp : A1} {f : FuncId} {args : List LV} {st st1 st' : List LObj} {r v : LV} {p : Prop} (h : Tn lp f args st r st1 = some (v, st', p)) (hp : p) :
  ∃ n, ∀ m, n ≤ m → B0 (Ei (B7 lp m)) f args st = some (v, st') := by
 unfold Tn at h
 simp only at h
 split at h
 ·rename_i hc
  split at h
  ·rename_i hl
   cases h
   obtain ⟨n, hn⟩ := RunsZ.at hp
   refine ⟨n, fun m hm => ?_⟩
   unfold B0
   simp only
   have hw : (Ei (B7 lp m)).weak f = lp.weak f := by show (B7 lp m).weak f = _; rw [Jy]
   rw [hw, if_pos hc, hn m hm]
   simp only
   rw [if_pos hl]
  ·cases h
 ·cases h
def Al (lp : A1) (f : FuncId) (args : List LV) (st : List LObj) (r : LV × List LObj) : Prop := ∃ n, ∀ m, n ≤ m → B0 (B7 lp m) f args st = some r
def gdO (t : List LV) (g : Option (Nat × Bool)) (os : Os) : Option (Bool × List Prop × Os) :=
 match g with
 | none => some (true, [], os)
 | some (j, want) => match Z2 os with
  | (some (.b c), os') => some (c == want, [t.getD j .und = .p (.bool c)], os')
  | (none, os') => match gd t (some (j, want)) with
   | some b => some (b, [], os')
   | none => none
  | _ => none
abbrev Kh (ps : List Prop) : Prop := ∀ p ∈ ps, p
theorem Ov {t : List LV} {g : Option (Nat × Bool)} {os os' : Os} {b : Bool} {ps : List Prop} (h : gdO t g os = some (b, ps, os')) (hp : Kh ps) : gd t g = some b := by
 unfold gdO at h
 split at h
 ·cases h; rfl
 ·split at h
  ·cases h
   have := hp _ (List.mem_singleton.2 rfl)
   simp only [gd, this]
  ·split at h
   ·cases h; assumption
   ·cases h
  ·cases h
def Xj (lp : A1) (t : List LV) (st : List LObj) (op : LOp) (os : Os) : Option (LV × List LObj × List Prop × Os) :=
 match Z2 os with
 | (none, os') => match Ag A5 t st op with
  | some (v, st') => some (v, st', [], os')
  | none => none
 | (some (.op v st'), os') => some (v, st', [OpIs t st op v st'], os')
 | (some (.call r st1), os') => match op with
  | .call f args => match Ou lp f (args.map (LX.ev t)) st r st1 with
   | some (v, st', p) => some (v, st', [p], os')
   | none => none
  | .callz f args => match Tn lp f (args.map (LX.ev t)) st r st1 with
   | some (v, st', p) => some (v, st', [p], os')
   | none => none
  | .callv f args => match f.ev t with
   | .fn (.func g) first captured => match Ou lp g (first ++ args.map (LX.ev t) ++ captured) st r st1 with
    | some (v, st', p) => some (v, st', [p], os')
    | none => none
   | _ => none
  | _ => none
 | (some (.cg v st'), os') => match op with
  | .call f args => some (v, st', [Al lp f (args.map (LX.ev t)) st (v, st')], os')
  | .callv f args => match f.ev t with
   | .fn (.func g) first captured => some (v, st', [Al lp g (first ++ args.map (LX.ev t) ++ captured) st (v, st')], os')
   | _ => none
  | _ => none
 | (some (.b c), os') => match op with
  | .pick x a b => some (if c then a.ev t else b.ev t, st, [x.ev t = .p (.bool c)], os')
  | _ => none
 | _ => none
theorem Rh {lp : A1} {t : List LV} {st st' : List LObj} {op : LOp} {os os' : Os} {v : LV} {ps : List Prop} (h : Xj lp t st op os = some (v, st', ps, os')) (hp : Kh ps) :
  ∃ n, ∀ m, n ≤ m → Ag (B7 lp m) t st op = some (v, st') := by
 unfold Xj at h
 split at h
 ·split at h <;> cases h
  exact ⟨0, fun m _ => Hf (Ot _) ‹_›⟩
 ·cases h
  have := hp _ (List.mem_singleton.2 rfl)
  exact ⟨0, fun m _ => OpIs.step this _⟩
 ·split at h
  ·split at h <;> cases h
   exact Hg ‹_› (hp _ (List.mem_singleton.2 rfl))
  ·split at h <;> cases h
   exact P7 ‹_› (hp _ (List.mem_singleton.2 rfl))
  ·split at h
   ·rename_i hf
    split at h <;> cases h
    obtain ⟨n, hn⟩ := Hg ‹_› (hp _ (List.mem_singleton.2 rfl))
    exact ⟨n, fun m hm => by simp only [Ag, hf]; exact hn m hm⟩
   ·cases h
  ·cases h
 ·split at h
  ·cases h
   exact hp _ (List.mem_singleton.2 rfl)
  ·split at h
   ·rename_i hf
    cases h
    obtain ⟨n, hn⟩ := hp _ (List.mem_singleton.2 rfl)
    exact ⟨n, fun m hm => by simp only [Ag, hf]; exact hn m hm⟩
   ·cases h
  ·cases h
 ·split at h
  ·cases h
   have := hp _ (List.mem_singleton.2 rfl)
   exact ⟨0, fun m _ => by simp only [Ag, this]⟩
  ·cases h
 ·cases h
def Uj (lp : A1) (t : List LV) (st : List LObj) (o : Bl) (os : Os) : Option (LV × List LObj × List Prop × Os × Bool) :=
 match gdO t o.guard os with
 | some (true, ps, os1) => match Xj lp t st o.op os1 with
  | some (v, st', qs, os2) => some (v, st', ps ++ qs, os2, true)
  | none => none
 | some (false, ps, os1) => some (.tup [], st, ps, os1, false)
 | none => none
theorem Ck {ps qs : List Prop} (h : Kh (ps ++ qs)) : Kh ps ∧ Kh qs := ⟨fun p hp => h p (List.mem_append_left _ hp), fun p hp => h p (List.mem_append_right _ hp)⟩
theorem E8 {lp : A1} {t : List LV} {st st' : List LObj} {o : Bl} {os os' : Os} {v : LV} {ps : List Prop} {d : Bool} (h : Uj lp t st o os = some (v, st', ps, os', d)) (hp : Kh ps) :
  gd t o.guard = some d ∧ ∃ n, ∀ m, n ≤ m → Bz (B7 lp m) t st o = some (v, st') := by
 unfold Uj at h
 split at h
 ·rename_i ps1 os1 hg
  split at h
  ·rename_i v' st1 qs os2 hs
   cases h
   obtain ⟨h1, h2⟩ := Ck hp
   obtain ⟨n, hn⟩ := Rh hs h2
   have := Ov hg h1
   exact ⟨this, n, fun m hm => by unfold Bz; rw [this]; exact hn m hm⟩
  ·cases h
 ·rename_i ps1 os1 hg
  cases h
  have := Ov hg hp
  exact ⟨this, 0, fun m _ => by unfold Bz; rw [this]⟩
 ·cases h
def Xk (lp : A1) : List Bl → List LV → List LObj → Os → Option (List LV × List LObj × List Prop × Os)
 | [], t, st, os => some (t, st, [], os)
 | o :: r, t, st, os => match Uj lp t st o os with
  | some (v, st', ps, os', _) => match Xk lp r (Ew t o.dst v) st' os' with
   | some (t', st'', qs, os'') => some (t', st'', ps ++ qs, os'')
   | none => none
  | none => none
theorem M5 {lp : A1} : ∀ {l : List Bl} {t t' : List LV} {st st' : List LObj} {os os' : Os} {ps : List Prop}, Xk lp l t st os = some (t', st', ps, os') → Kh ps →
  ∃ n, ∀ m, n ≤ m → Bd (B7 lp m) l t st = some (t', st')
 | [], t, t', st, st', os, os', ps, h, _ => by simp only [Xk] at h; cases h; exact ⟨0, fun m _ => rfl⟩
 | o :: r, t, t', st, st', os, os', ps, h, hp => by
  simp only [Xk] at h
  split at h
  ·rename_i v st1 ps1 os1 d hs
   split at h
   ·rename_i t2 st2 qs os2 hr
    cases h
    obtain ⟨h1, h2⟩ := Ck hp
    obtain ⟨_, n, hn⟩ := E8 hs h1
    obtain ⟨k, hk⟩ := M5 hr h2
    exact ⟨max n k, fun m hm => by simp only [Bd, hn m (by omega)]; exact hk m (by omega)⟩
   ·cases h
  ·cases h
def Uk (st : List LObj) (held : List (DOp × List LV × LV)) : List Prop := held.map fun x => OpIs x.2.1 st x.1.op.op x.2.2 st
theorem Ri {lp : A1} {m : Nat} {st : List LObj} {held : List (DOp × List LV × LV)} (h : Kh (Uk st held)) (hg : ∀ x ∈ held, gd x.2.1 x.1.op.guard = some true) : Fb (B7 lp m) st held = true := by
 unfold Fb
 rw [List.all_eq_true]
 intro x hx
 have := h _ (List.mem_map.2 ⟨x, hx, rfl⟩)
 unfold Bz
 rw [hg x hx]
 simp only [OpIs.step this, LV.eqb_refl]
def Ij (lp : A1) : List DOp → List (DOp × List LV × LV) → List LV → List LObj → Os → Option (List LV × List LObj × List Prop × Os)
 | [], _, t, st, os => some (t, st, [], os)
 | d :: r, held, t, st, os => match Uj lp t st d.op os with
  | none => none
  | some (v, st', ps, os', done) =>
   match d.cls with
   | .h => if Fd d.op.op v then
     match Ij lp r (if Qt t d.op.op || !done then held else (d, t, v) :: held) (Ew t d.op.dst v) st' os' with
     | some (t', st'', qs, os'') => some (t', st'', ps ++ qs, os'')
     | none => none
    else none
   | .a => if Md st st' then
     match Ij lp r held (Ew t d.op.dst v) st' os' with
     | some (t', st'', qs, os'') => some (t', st'', ps ++ Uk st' held ++ qs, os'')
     | none => none
    else none
   | .c => if decide (st.length ≤ st'.length) then
     match Ij lp r (held.filter fun x => !d.must.contains x.1.idx) (Ew t d.op.dst v) st' os' with
     | some (t', st'', qs, os'') => some (t', st'', ps ++ Uk st' (held.filter fun x => !d.must.contains x.1.idx) ++ qs, os'')
     | none => none
    else none
abbrev P8 (held heldO : List (DOp × List LV × LV)) : Prop := ∀ x ∈ held, x ∈ heldO ∨ (gd x.2.1 x.1.op.guard = some false ∧ x.2.2 = .tup [])
theorem M6 {lp : A1} {m : Nat} {st : List LObj} {held heldO : List (DOp × List LV × LV)} (hs : P8 held heldO) (h : Kh (Uk st heldO)) (hg : ∀ x ∈ heldO, gd x.2.1 x.1.op.guard = some true) :
  Fb (B7 lp m) st held = true := by
 unfold Fb
 rw [List.all_eq_true]
 intro x hx
 rcases hs x hx with hx | ⟨h1, h2⟩
 ·have := List.all_eq_true.1 (Ri (lp := lp) (m := m) h hg) x hx
  exact this
 ·unfold Bz
  rw [h1, h2]
  rfl
theorem Ec {lp : A1} : ∀ {l : List DOp} {heldO : List (DOp × List LV × LV)} {t t' : List LV} {st st' : List LObj} {os os' : Os} {ps : List Prop}, Ij lp l heldO t st os = some (t', st', ps, os') → Kh ps →
  (∀ x ∈ heldO, gd x.2.1 x.1.op.guard = some true) → ∃ n, ∀ m, n ≤ m → ∀ held, P8 held heldO → Bk (B7 lp m) l held t st = some (t', st')
 | [], heldO, t, t', st, st', os, os', ps, h, _, _ => by simp only [Ij] at h; cases h; exact ⟨0, fun m _ held _ => rfl⟩
 | d :: r, heldO, t, t', st, st', os, os', ps, h, hp, hg => by
  simp only [Ij] at h
  split at h
  ·cases h
  ·rename_i v st1 ps1 os1 done hs
   split at h
   ·rename_i hc
    split at h
    ·rename_i hpv
     split at h
     ·rename_i t2 st2 qs os2 hr
      cases h
      obtain ⟨h1, h2⟩ := Ck hp
      obtain ⟨hgd, n, hn⟩ := E8 hs h1
      obtain ⟨k, hk⟩ := Ec hr h2 (fun x hx => by
       split at hx
       ·exact hg x hx
       ·rename_i hst
        rcases List.mem_cons.1 hx with rfl | hx
        ·have : done = true := by cases done <;> simp_all
         rw [this] at hgd; exact hgd
        ·exact hg x hx)
      refine ⟨max n k, fun m hm held hsub => ?_⟩
      simp only [Bk, hn m (by omega), hc]
      rw [if_pos hpv]
      refine hk m (by omega) _ (fun x hx => ?_)
      split at hx
      ·rename_i hst
       rw [if_pos (by simp [hst])]
       exact hsub x hx
      ·rename_i hst
       rcases List.mem_cons.1 hx with rfl | hx
       ·cases hdn : done with
        | true => rw [if_neg (by simp [hst])]; exact .inl (by simp)
        | false =>
         rw [hdn] at hgd
         refine .inr ⟨hgd, ?_⟩
         have := hn n (Nat.le_refl _)
         unfold Bz at this
         rw [hgd] at this
         cases this; rfl
       ·rcases hsub x hx with h | h
        ·refine .inl ?_
         split
         ·exact h
         ·exact List.mem_cons_of_mem _ h
        ·exact .inr h
     ·cases h
    ·cases h
   ·rename_i hc
    split at h
    ·rename_i hnew
     split at h
     ·rename_i t2 st2 qs os2 hr
      cases h
      obtain ⟨h12, h3⟩ := Ck hp
      obtain ⟨h1, h2⟩ := Ck h12
      obtain ⟨hgd, n, hn⟩ := E8 hs h1
      obtain ⟨k, hk⟩ := Ec hr h3 hg
      refine ⟨max n k, fun m hm held hsub => ?_⟩
      simp only [Bk, hn m (by omega), hc]
      rw [if_pos (by simp only [Bool.and_eq_true]; exact ⟨hnew, M6 hsub h2 hg⟩)]
      exact hk m (by omega) _ hsub
     ·cases h
    ·cases h
   ·rename_i hc
    split at h
    ·rename_i hlen
     split at h
     ·rename_i t2 st2 qs os2 hr
      cases h
      obtain ⟨h12, h3⟩ := Ck hp
      obtain ⟨h1, h2⟩ := Ck h12
      obtain ⟨hgd, n, hn⟩ := E8 hs h1
      have hg' : ∀ x ∈ heldO.filter (fun x => !d.must.contains x.1.idx), gd x.2.1 x.1.op.guard = some true := fun x hx => hg x (List.mem_filter.1 hx).1
      obtain ⟨k, hk⟩ := Ec hr h3 hg'
      refine ⟨max n k, fun m hm held hsub => ?_⟩
      have hsub' : P8 (held.filter fun x => !d.must.contains x.1.idx) (heldO.filter fun x => !d.must.contains x.1.idx) := by
       intro x hx
       obtain ⟨a, b⟩ := List.mem_filter.1 hx
       rcases hsub x a with h | h
       ·exact .inl (List.mem_filter.2 ⟨h, b⟩)
       ·exact .inr h
      simp only [Bk, hn m (by omega), hc]
      rw [if_pos (by simp only [Bool.and_eq_true]; exact ⟨hlen, M6 hsub' h2 hg'⟩)]
      exact hk m (by omega) _ hsub'
     ·cases h
    ·cases h
def LoopAt (lp : A1) (k : Nat) (mask : List Bool) (c : Bh) (t : List LV) (st : List LObj) (r : C4 × List LV × List LObj) : Prop :=
 ∃ n, (match Au (B7 lp n) k n c t st with
  | some (.normal, t', st') => Au (B7 lp n) k n (.loop mask c) t' st'
  | r => r) = some r
def Cg (lp : A1) (k : Nat) : Nat → Bh → List LV → List LObj → Os → Option (C4 × List LV × List LObj × List Prop × Os)
 | 0, _, _, _, _ => none
 | n + 1, c, t, st, os => match c with
  | .skip => some (.normal, t, st, [], os)
  | .region ops => match Xk lp ops t st os with
   | some (t', st', ps, os') => some (.normal, t', st', ps, os')
   | none => none
  | .drawn ops => match Ij lp ops [] t st os with
   | some (t', st', ps, os') => some (.normal, t', st', ps, os')
   | none => none
  | .seq a b => match Cg lp k n a t st os with
   | some (.normal, t', st', ps, os') => (match Cg lp k n b t' st' os' with
    | some (o, t'', st'', qs, os'') => some (o, t'', st'', ps ++ qs, os'')
    | none => none)
   | r => r
  | .cond x a b => match Z2 os with
   | (some (.b c), os') => (match Cg lp k n (if c then a else b) t st os' with
    | some (o, t', st', ps, os'') => some (o, t', st', (x.ev t = .p (.bool c)) :: ps, os'')
    | none => none)
   | (none, os') => (match x.ev t with
    | .p (.bool true) => Cg lp k n a t st os'
    | .p (.bool false) => Cg lp k n b t st os'
    | _ => none)
   | _ => none
  | .Dj x a b c => Cg lp k n (.seq (.cond x a b) c) t st os
  | .block id mask c => match Cg lp k n c t st os with
   | some (.exit i, t', st', ps, os') => if i = id then some (.normal, kill mask t', st', ps, os') else some (.exit i, t', st', ps, os')
   | some (.normal, t', st', ps, os') => some (.normal, kill mask t', st', ps, os')
   | r => r
  | .loop mask c => match Z2 os with
   | (some (.lp out t' st'), os') => (match gc k (kill mask t) st with
    | some (t0, st0) => some (out, t', st', [LoopAt lp k mask c t0 st0 (out, t', st')], os')
    | none => none)
   | (some (.lg out t' st' t0 st0), os') => some (out, t', st', [gc k (kill mask t) st = some (t0, st0), LoopAt lp k mask c t0 st0 (out, t', st')], os')
   | _ => none
  | .exit id mask => some (.exit id, kill mask t, st, [], os)
  | .ret mask => some (.ret, kill mask t, st, [], os)
  | .fail => none
theorem Vn {c : CallF} {k m : Nat} {x : LX} {a b d : Bh} {t : List LV} {st : List LObj} {r : C4 × List LV × List LObj} (h : Au c k m (.seq (.cond x a b) d) t st = some r) : Au c k (m + 1) (.Dj x a b d) t st = some r := by
 cases m with
 | zero => simp [Au] at h
 | succ m =>
  cases m with
  | zero => simp [Au, Ch] at h
  | succ m =>
   show (match x.ev t with
    | .p (.bool true) => Ch (Au c k (m + 1 + 1) a t st) (Au c k (m + 1 + 1) d)
    | .p (.bool false) => Ch (Au c k (m + 1 + 1) b t st) (Au c k (m + 1 + 1) d)
    | .anyb => Dj (Ch (Au c k (m + 1 + 1) a t st) (Au c k (m + 1 + 1) d)) (Ch (Au c k (m + 1 + 1) b t st) (Au c k (m + 1 + 1) d))
    | _ => none) = some r
   replace h : Ch (match x.ev t with
    | .p (.bool true) => Au c k m a t st
    | .p (.bool false) => Au c k m b t st
    | .anyb => Dj (Au c k m a t st) (Au c k m b t st)
    | _ => none) (Au c k (m + 1) d) = some r := h
   have up : ∀ {lz : Bh} {y}, Au c k m lz t st = some y → Ch (some y) (Au c k (m + 1) d) = some r → Ch (Au c k (m + 1 + 1) lz t st) (Au c k (m + 1 + 1) d) = some r := by
    intro lz y h1 h2
    rw [Ax (fun _ _ _ _ h => ⟨h, rfl⟩) (show m ≤ m + 1 + 1 by omega) h1]
    obtain ⟨o, t', st'⟩ := y
    cases o with
    | normal => exact Ax (fun _ _ _ _ h => ⟨h, rfl⟩) (show m + 1 ≤ m + 1 + 1 by omega) h2
    | _ => exact h2
   split at h
   ·rename_i hx
    cases he : Au c k m a t st with
    | none => rw [he] at h; cases h
    | some y => rw [he] at h; (try simp only [hx]); exact up he h
   ·rename_i hx
    cases he : Au c k m b t st with
    | none => rw [he] at h; cases h
    | some y => rw [he] at h; (try simp only [hx]); exact up he h
   ·rename_i hx
    cases hb : Dj (Au c k m a t st) (Au c k m b t st) with
    | none => rw [hb] at h; cases h
    | some y =>
     rw [hb] at h
     obtain ⟨e1, e2⟩ := Iy hb
     try simp only [hx]
     rw [up e1 h, up e2 h]
     exact Kg r
   ·cases h
theorem Bp {lp : A1} {k : Nat} : ∀ {n : Nat} {c : Bh} {t t' : List LV} {st st' : List LObj} {os os' : Os} {ps : List Prop} {o : C4}, Cg lp k n c t st os = some (o, t', st', ps, os') → Kh ps →
  Exec lp k c t st (o, t', st')
 | 0, c, t, t', st, st', os, os', ps, o, h, _ => by simp [Cg] at h
 | n + 1, c, t, t', st, st', os, os', ps, o, h, hp => by
  cases c with
  | skip => simp only [Cg] at h; cases h; exact ⟨1, rfl⟩
  | exit id mask => simp only [Cg] at h; cases h; exact ⟨1, rfl⟩
  | ret mask => simp only [Cg] at h; cases h; exact ⟨1, rfl⟩
  | fail => simp [Cg] at h
  | region ops =>
   simp only [Cg] at h
   split at h
   ·rename_i t1 st1 ps1 os1 hs
    cases h
    obtain ⟨m, hm⟩ := M5 hs hp
    exact ⟨m + 1, by simp only [Au]; rw [hm (m + 1) (by omega)]⟩
   ·cases h
  | drawn ops =>
   simp only [Cg] at h
   split at h
   ·rename_i t1 st1 ps1 os1 hs
    cases h
    obtain ⟨m, hm⟩ := Ec hs hp (by simp)
    exact ⟨m + 1, by simp only [Au]; rw [hm (m + 1) (by omega) [] (by simp)]⟩
   ·cases h
  | seq a b =>
   simp only [Cg] at h
   split at h
   ·rename_i t1 st1 ps1 os1 hs
    split at h
    ·rename_i o2 t2 st2 ps2 os2 hs2
     cases h
     obtain ⟨h1, h2⟩ := Ck hp
     obtain ⟨m1, e1⟩ := (Bp hs h1).at
     obtain ⟨m2, e2⟩ := (Bp hs2 h2).at
     refine ⟨max m1 m2 + 1, ?_⟩
     simp only [Au, Ch]
     rw [Ax (Bg (by omega)) (Nat.le_refl _) (e1 (max m1 m2) (by omega))]
     exact Ax (Bg (by omega)) (Nat.le_refl _) (e2 (max m1 m2) (by omega))
    ·cases h
   ·rename_i r hne
    cases ha : Cg lp k n a t st os with
    | none => rw [ha] at h; cases h
    | some x =>
     obtain ⟨o1, t1, st1, ps1, os1⟩ := x
     rw [ha] at h
     cases h
     obtain ⟨m, e⟩ := (Bp ha hp).at
     refine ⟨m + 1, ?_⟩
     simp only [Au, Ch]
     rw [Ax (Bg (by omega)) (Nat.le_refl _) (e m (Nat.le_refl _))]
     cases o with
     | normal => exact absurd ha (hne _ _ _ _)
     | _ => rfl
  | cond x a b =>
   simp only [Cg] at h
   split at h
   ·rename_i c os1 _
    split at h
    ·rename_i o1 t1 st1 ps1 os2 hs
     cases h
     have hx := hp _ (List.mem_cons_self ..)
     obtain ⟨m, e⟩ := (Bp hs (fun p hm => hp p (List.mem_cons_of_mem _ hm))).at
     refine ⟨m + 1, ?_⟩
     simp only [Au, hx]
     have := Ax (Bg (lp := lp) (show m ≤ m + 1 by omega)) (Nat.le_refl _) (e m (Nat.le_refl _))
     cases c <;> exact this
    ·cases h
   ·split at h
    ·rename_i hx
     obtain ⟨m, e⟩ := (Bp h hp).at
     refine ⟨m + 1, ?_⟩
     simp only [Au, hx]
     exact Ax (Bg (by omega)) (Nat.le_refl _) (e m (Nat.le_refl _))
    ·rename_i hx
     obtain ⟨m, e⟩ := (Bp h hp).at
     refine ⟨m + 1, ?_⟩
     simp only [Au, hx]
     exact Ax (Bg (by omega)) (Nat.le_refl _) (e m (Nat.le_refl _))
    ·cases h
   ·cases h
  | Dj x a b d =>
   simp only [Cg] at h
   obtain ⟨m, e⟩ := (Bp h hp).at
   exact ⟨m + 1, Ax (Bg (by omega)) (Nat.le_refl _) (Vn (e m (Nat.le_refl _)))⟩
  | block id mask a =>
   simp only [Cg] at h
   have go : ∀ {o1 t1 st1 ps1 os1}, Cg lp k n a t st os = some (o1, t1, st1, ps1, os1) → Kh ps1 → ∃ m, Au (B7 lp (m + 1)) k m a t st = some (o1, t1, st1) := by
    intro o1 t1 st1 ps1 os1 hs hp1
    obtain ⟨m, e⟩ := (Bp hs hp1).at
    exact ⟨m, Ax (Bg (by omega)) (Nat.le_refl _) (e m (Nat.le_refl _))⟩
   split at h
   ·rename_i i t1 st1 ps1 os1 hs
    split at h
    ·rename_i hi
     cases h
     obtain ⟨m, e⟩ := go hs hp
     exact ⟨m + 1, by simp only [Au, e]; rw [if_pos hi]⟩
    ·rename_i hi
     cases h
     obtain ⟨m, e⟩ := go hs hp
     exact ⟨m + 1, by simp only [Au, e]; rw [if_neg hi]⟩
   ·rename_i t1 st1 ps1 os1 hs
    cases h
    obtain ⟨m, e⟩ := go hs hp
    exact ⟨m + 1, by simp only [Au, e]⟩
   ·rename_i r hne1 hne2
    cases ha : Cg lp k n a t st os with
    | none => rw [ha] at h; cases h
    | some x =>
     obtain ⟨o1, t1, st1, ps1, os1⟩ := x
     rw [ha] at h
     cases h
     obtain ⟨m, e⟩ := go ha hp
     refine ⟨m + 1, ?_⟩
     simp only [Au, e]
     cases o with
     | normal => exact absurd ha (hne2 _ _ _ _)
     | exit i => exact absurd ha (hne1 _ _ _ _ _)
     | ret => rfl
  | loop mask a =>
   simp only [Cg] at h
   split at h
   ·rename_i out t1 st1 os1 _
    split at h
    ·rename_i t0 st0 hg
     cases h
     obtain ⟨m, hm⟩ := hp _ (List.mem_singleton.2 rfl)
     refine ⟨m + 1, ?_⟩
     simp only [Au, hg]
     cases he : Au (B7 lp m) k m a t0 st0 with
     | none => rw [he] at hm; cases hm
     | some x =>
      obtain ⟨o2, t2, st2⟩ := x
      rw [he] at hm
      rw [Ax (Bg (show m ≤ m + 1 by omega)) (Nat.le_refl _) he]
      cases o2 with
      | normal => exact Ax (Bg (by omega)) (Nat.le_refl _) hm
      | _ => exact hm
    ·cases h
   ·cases h
    have hg := hp _ (List.mem_cons_self ..)
    rename_i t0 st0 _
    obtain ⟨m, hm⟩ := hp _ (List.mem_cons_of_mem _ (List.mem_singleton.2 rfl))
    refine ⟨m + 1, ?_⟩
    simp only [Au, hg]
    cases he : Au (B7 lp m) k m a t0 st0 with
    | none => rw [he] at hm; cases hm
    | some x =>
     obtain ⟨o2, t2, st2⟩ := x
     rw [he] at hm
     rw [Ax (Bg (show m ≤ m + 1 by omega)) (Nat.le_refl _) he]
     cases o2 with
     | normal => exact Ax (Bg (by omega)) (Nat.le_refl _) hm
     | _ => exact hm
   ·cases h
end Go.LS
set_option linter.unusedVariables false
set_option linter.unusedSimpArgs false
namespace Go.LS
def Conj : List Prop → Prop
 | [] => True
 | p :: r => p ∧ Conj r
theorem Conj.all : ∀ {ps : List Prop}, Conj ps → Kh ps
 | [], _, p, hp => by cases hp
 | q :: r, h, p, hp => by
  rcases List.mem_cons.1 hp with rfl | hp
  ·exact h.1
  ·exact h.2.all p hp
def runO (lp : A1) (N : Nat) (f : FuncId) (args : List LV) (st : List LObj) (os : Os) : Option (LV × List LObj × List Prop) :=
 match lp.summ f with
 | some _ => none
 | none => match lp.fns f with
  | none => none
  | some lf => match Cg lp st.length N lf.body (wk (lp.weak f) args ++ List.replicate (lf.ntmps - args.length) .und) st os with
   | some (.exit _, _, _, _, _) => none
   | some (_, t', st', ps, _) => match Hx t' st' lf.results with
    | some vs => match frz (lp.wres f) st' vs with
     | (vs, st') => (match gc st.length vs st' with
      | some (vs', st'') => some (Gq vs', st'', ps)
      | none => none)
    | none => none
   | none => none
theorem Db {lp : A1} {N : Nat} {f : FuncId} {args : List LV} {st st' : List LObj} {os : Os} {v : LV} {ps : List Prop} (h : runO lp N f args st os = some (v, st', ps)) (hp : Conj ps) : Runs lp f args st (v, st') := by
 unfold runO at h
 split at h
 ·cases h
 ·rename_i hsm
  split at h
  ·cases h
  ·rename_i lf hlf
   split at h
   ·cases h
   ·rename_i out t1 st1 ps1 os1 hne hex
    split at h
    ·rename_i vs hvs
     dsimp only at h
     split at h
     ·rename_i vs' st2 hgc
      simp only [Option.some.injEq, Prod.mk.injEq] at h
      obtain ⟨rfl, rfl, rfl⟩ := h
      obtain ⟨n, hn⟩ := Bp hex hp.all
      refine ⟨n + 1, ?_⟩
      simp only [B7, hsm, hlf, hn]
      cases out with
      | exit i => exact (hne i rfl).elim
      | normal => simp only [hvs, hgc]
      | ret => simp only [hvs, hgc]
     ·cases h
    ·cases h
   ·cases h
def M7 (lp : A1) (N k : Nat) (mask : List Bool) (c : Bh) (t : List LV) (st : List LObj) (os : Os) : Option (C4 × List LV × List LObj × List Prop) :=
 match Cg lp k N c t st os with
 | some (.normal, t', st', ps, _) => match gc k (kill mask t') st' with
  | some (t'', st'') => some (.normal, t'', st'', ps)
  | none => none
 | some (o, t', st', ps, _) => some (o, t', st', ps)
 | none => none
theorem LoopAt.on {lp : A1} {N k : Nat} {mask : List Bool} {c : Bh} {t t' : List LV} {st st' : List LObj} {os : Os} {ps : List Prop} {r : C4 × List LV × List LObj}
  (h : M7 lp N k mask c t st os = some (.normal, t', st', ps)) (hp : Conj ps) (hr : LoopAt lp k mask c t' st' r) : LoopAt lp k mask c t st r := by
 unfold M7 at h
 split at h
 ·rename_i t1 st1 ps1 os1 hex
  split at h
  ·rename_i t2 st2 hg
   simp only [Option.some.injEq, Prod.mk.injEq, true_and] at h
   obtain ⟨rfl, rfl, rfl⟩ := h
   obtain ⟨n, hn⟩ := (Bp hex hp.all).at
   obtain ⟨m, hm⟩ := hr
   refine ⟨max n m + 1, ?_⟩
   rw [hn (max n m + 1) (by omega)]
   simp only [Au, hg]
   cases he : Au (B7 lp m) k m c t2 st2 with
   | none => rw [he] at hm; cases hm
   | some x =>
    obtain ⟨o2, t3, st3⟩ := x
    rw [he] at hm
    rw [Ax (Bg (show m ≤ max n m + 1 by omega)) (show m ≤ max n m by omega) he]
    cases o2 with
    | normal => exact Ax (Bg (by omega)) (by omega) hm
    | _ => exact hm
  ·cases h
 ·rename_i hne hex
  simp only [Option.some.injEq, Prod.mk.injEq] at h
  obtain ⟨rfl, rfl, rfl, rfl⟩ := h
  exact (hne rfl).elim
 ·cases h
theorem LoopAt.out {lp : A1} {N k : Nat} {mask : List Bool} {c : Bh} {t t' : List LV} {st st' : List LObj} {os : Os} {ps : List Prop} {o : C4}
  (h : M7 lp N k mask c t st os = some (o, t', st', ps)) (ho : (match o with | .normal => false | _ => true) = true) (hp : Conj ps) : LoopAt lp k mask c t st (o, t', st') := by
 unfold M7 at h
 split at h
 ·split at h
  ·cases h; cases ho
  ·cases h
 ·rename_i o1 t1 st1 ps1 os1 hne hex
  simp only [Option.some.injEq, Prod.mk.injEq] at h
  obtain ⟨rfl, rfl, rfl, rfl⟩ := h
  obtain ⟨n, hn⟩ := Bp hex hp.all
  refine ⟨n, ?_⟩
  rw [hn]
  cases o1 with
  | normal => cases ho
  | _ => rfl
 ·cases h
def D1 : Bh → List (List Bool × Bh)
 | .seq a b => D1 a ++ D1 b
 | .cond _ a b => D1 a ++ D1 b
 | .Dj _ a b c => D1 a ++ D1 b ++ D1 c
 | .block _ _ c => D1 c
 | .loop m c => (m, c) :: D1 c
 | _ => []
def Aj (lf : LFn) (i : Nat) : List Bool × Bh := (D1 lf.body).getD i ([], .skip)
def tl (i : Nat) : Nat → List (Nat × LV) → List LV
 | 0, _ => []
 | n + 1, [] => .und :: tl (i + 1) n []
 | n + 1, (j, v) :: r => match Nat.beq i j with
  | true => v :: tl (i + 1) n r
  | false => .und :: tl (i + 1) n ((j, v) :: r)
abbrev OpW (st : List LObj) (op : LOp) (v : LV) (st' : List LObj) : Prop := Ag A5 [] st op = some (v, st')
abbrev LoopN (lp : A1) (k : Nat) (x : List Bool × Bh) (t : List LV) (st : List LObj) (r : C4 × List LV × List LObj) : Prop := LoopAt lp k x.1 x.2 t st r
def oO {st st' : List LObj} {op : LOp} {v : LV} (_ : OpW st op v st') : Orc := .op v st'
def oC {lp : A1} {f : Nat} {as : List LV} {st st' : List LObj} {v : LV} (_ : Runs lp f as st (v, st')) : Orc := .call v st'
def oL {lp : A1} {k : Nat} {x : List Bool × Bh} {t t' : List LV} {st st' : List LObj} {o : C4} (_ : LoopN lp k x t st (o, t', st')) : Orc := .lp o t' st'
theorem cI {b c : Bool} (h : b = c) : LV.p (PV.bool b) = .p (.bool c) := congrArg (fun b => LV.p (PV.bool b)) h
theorem Bb {lp : A1} {f : FuncId} {a : List LV} {s : List LObj} {c : Bool} {x y : LV × List LObj} (h : Runs lp f a s (if c = true then x else y)) (hc : c = true) : Runs lp f a s x := by rwa [if_pos hc] at h
theorem A9 {lp : A1} {f : FuncId} {a : List LV} {s : List LObj} {c : Bool} {x y : LV × List LObj} (h : Runs lp f a s (if c = true then x else y)) (hc : c = false) : Runs lp f a s y := by rwa [if_neg (by simp [hc])] at h
theorem infE {k a b : Int} {r : Bool} (h : (k == a) = true) (g : (a == b) = r) : (k == b) = r := by rw [eq_of_beq h]; exact g
theorem Ay {b c : Bool} (h : b = c) : (!b) = !c := by rw [h]
end Go.LS
namespace Go.LS
def runE (lp : A1) (N : Nat) (f : FuncId) (args : List LV) (st : List LObj) (os : Os) : Option (List LV × List LObj × List Prop) :=
 match lp.summ f with
 | some _ => none
 | none => match lp.fns f with
  | none => none
  | some lf => match Cg lp st.length N lf.body (wk (lp.weak f) args ++ List.replicate (lf.ntmps - args.length) .und) st os with
   | some (.exit _, _, _, _, _) => none
   | some (_, t', st', ps, _) => match Hx t' st' lf.results with
    | some vs => some (vs, st', ps)
    | none => none
   | none => none
theorem Ac {lp : A1} {N : Nat} {f : FuncId} {args : List LV} {st st1 s1 st2 : List LObj} {os : Os} {vs vs1 vs2 : List LV} {ps : List Prop} (h : runE lp N f args st os = some (vs, st1, ps)) (hp : Conj ps)
  (hf : frz (lp.wres f) st1 vs = (vs1, s1)) (hg : gc st.length vs1 s1 = some (vs2, st2)) : Runs lp f args st (Gq vs2, st2) := by
 unfold runE at h
 split at h
 ·cases h
 ·rename_i hsm
  split at h
  ·cases h
  ·rename_i lf hlf
   split at h
   ·cases h
   ·rename_i out t1 st1' ps1 os1 hne hex
    split at h
    ·rename_i vs' hvs
     simp only [Option.some.injEq, Prod.mk.injEq] at h
     obtain ⟨rfl, rfl, rfl⟩ := h
     obtain ⟨n, hn⟩ := Bp hex hp.all
     refine ⟨n + 1, ?_⟩
     simp only [B7, hsm, hlf, hn]
     cases out with
     | exit i => exact (hne i rfl).elim
     | normal => simp only [hvs, hf, hg]
     | ret => simp only [hvs, hf, hg]
    ·cases h
   ·cases h
def Xl (lp : A1) (N k : Nat) (mask : List Bool) (c : Bh) (t : List LV) (st : List LObj) (os : Os) : Option (List LV × List LObj × List Prop) :=
 match Cg lp k N c t st os with
 | some (.normal, t', st', ps, _) => some (kill mask t', st', ps)
 | _ => none
theorem LoopAt.onS {lp : A1} {N k : Nat} {mask : List Bool} {c : Bh} {t t1 t' : List LV} {st st1 st' : List LObj} {os : Os} {ps : List Prop} {r : C4 × List LV × List LObj}
  (h : Xl lp N k mask c t st os = some (t1, st1, ps)) (hp : Conj ps) (hg : gc k t1 st1 = some (t', st')) (hr : LoopAt lp k mask c t' st' r) : LoopAt lp k mask c t st r := by
 unfold Xl at h
 split at h
 ·rename_i t2 st2 ps1 os1 hex
  simp only [Option.some.injEq, Prod.mk.injEq] at h
  obtain ⟨rfl, rfl, rfl⟩ := h
  obtain ⟨n, hn⟩ := (Bp hex hp.all).at
  obtain ⟨m, hm⟩ := hr
  refine ⟨max n m + 1, ?_⟩
  rw [hn (max n m + 1) (by omega)]
  simp only [Au, hg]
  cases he : Au (B7 lp m) k m c t' st' with
  | none => rw [he] at hm; cases hm
  | some x =>
   obtain ⟨o2, t3, st3⟩ := x
   rw [he] at hm
   rw [Ax (Bg (show m ≤ max n m + 1 by omega)) (show m ≤ max n m by omega) he]
   cases o2 with
   | normal => exact Ax (Bg (by omega)) (by omega) hm
   | _ => exact hm
 ·cases h
theorem Ul {st sh : List LObj} (hr : st.map LObj.refs = sh.map LObj.refs) (o : Nat) : ((st[o]?).getD .dead).refs = ((sh[o]?).getD .dead).refs := by
 have h : (st.map LObj.refs)[o]? = (sh.map LObj.refs)[o]? := by rw [hr]
 rw [List.getElem?_map, List.getElem?_map] at h
 cases h1 : st[o]? with
 | none => cases h2 : sh[o]? with
  | none => rfl
  | some y => rw [h1, h2] at h; cases h
 | some x => cases h2 : sh[o]? with
  | none => rw [h1, h2] at h; cases h
  | some y => rw [h1, h2] at h; simpa using h
theorem Rj {st sh : List LObj} (hr : st.map LObj.refs = sh.map LObj.refs) : ∀ (n : Nat) (todo acc : List Nat), Dq st n todo acc = Dq sh n todo acc := by
 intro n
 induction n with
 | zero => intro todo acc; cases todo <;> rfl
 | succ n ih =>
  intro todo acc
  cases todo with
  | nil => rfl
  | cons o r => simp only [Dq, ih, Ul hr o]
theorem Ow {st sh : List LObj} (hr : st.map LObj.refs = sh.map LObj.refs) (ids : List Nat) : C9 st ids = C9 sh ids := by
 have hl : st.length = sh.length := by have := congrArg List.length hr; simpa using this
 unfold C9
 rw [hl]
 congr 1
 funext o
 rw [Ul hr o]
def gcSh (k : Nat) (vs : List LV) (st : List LObj) : Option (List LV × List Nat) :=
 let ids := Mb k st (vs.flatMap LV.refs)
 if C9 st ids && (vs.flatMap LV.refs).all (ids.contains ·) && decide ids.Nodup && decide (ids.take k = List.range k) then
  some (vs.map (LV.ren fun q => ids.idxOf q), ids)
 else none
theorem Am {k : Nat} {vs vs' : List LV} {st sh st' : List LObj} {ids : List Nat} (hr : st.map LObj.refs = sh.map LObj.refs) (hc : gcSh k vs sh = some (vs', ids)) (hs : sub st ids = st') : gc k vs st = some (vs', st') := by
 have e : Mb k st (vs.flatMap LV.refs) = Mb k sh (vs.flatMap LV.refs) := by
  unfold Mb
  rw [Rj hr]
  congr 2
  have : ∀ l : List LObj, l.flatMap LObj.refs = (l.map LObj.refs).flatten := fun l => by rw [List.flatMap_def]
  rw [this, this, List.map_take, List.map_take, hr]
 unfold gcSh at hc
 unfold gc
 simp only at hc ⊢
 rw [e, Ow hr]
 split at hc
 ·rename_i h
  rw [if_pos h]
  simp only [Option.some.injEq, Prod.mk.injEq] at hc
  obtain ⟨rfl, h2⟩ := hc
  rw [← h2] at hs
  rw [hs]
 ·cases hc
end Go.LS
set_option linter.unusedVariables false
set_option linter.unusedSimpArgs false
namespace Go.LS
theorem A6 (L : List UInt8) : (bs L).length = L.length := by simp [bs]
theorem Ox (L M : List UInt8) : bs (L ++ M) = bs L ++ bs M := by simp [bs]
theorem M8 (L : List UInt8) : Ex 1 (bs L) = true := by simp [Ex, bs]
theorem Rk (M : List UInt8) : (bs M).isEmpty = M.isEmpty := by cases M <;> rfl
theorem Um {e : Int} (h0 : 0 ≤ e) (h1 : e ≤ 255) : [[PV.int .u8 e]] = bs [UInt8.ofNat e.toNat] := by
 simp [bs]
 omega
theorem C2 {str : Bool} {L M : List UInt8} {es : List (List PV)} {t : Nat} {st : List LObj} {x : LV} (hs : st[t]? = some (.spare 1 L.length)) (hx : C6 str st x = some es) (he : es = bs M)
  (hl : L.length + M.length ≤ 200000000000000) : Ag A5 [] st (.append str 1 1 (.const (.sl (bs L) t L.length)) (.const x)) = some (.sl (bs (L ++ M)) t (L ++ M).length, st.set t (.spare 1 (L ++ M).length)) := by
 subst he
 refine Jx ?_
 simp only [LX.ev, Di, hx, M8, hs, Rk, A6]
 by_cases hM : M.isEmpty = true
 ·have : M = [] := by simpa using hM
  subst this
  simp
  obtain ⟨h1, h2⟩ := List.getElem?_eq_some_iff.1 hs
  conv => rhs; rw [← h2]
  simp
 ·simp only [hM]
  simp [Ox, maxLen, Su hl]
  omega
theorem De {str : Bool} {L M : List UInt8} {es es0 : List (List PV)} {st : List LObj} {x : LV} (he0 : es0 = bs L) (hx : C6 str st x = some es) (he : es = bs M) (hM : M ≠ [])
  (hl : L.length + M.length ≤ 200000000000000) : Ag A5 [] st (.append str 1 1 (.const (.tight es0)) (.const x)) = some (.sl (bs (L ++ M)) st.length (L ++ M).length, st ++ [.spare 1 (L ++ M).length]) := by
 subst he he0
 have : M.isEmpty = false := by cases M <;> simp_all
 refine Jx ?_
 simp only [LX.ev, Di, hx, M8, Rk, A6, this]
 simp [Ox, maxLen, Su hl]
 omega
def Af (u : Nat) : List UInt8 := if u < 128 then [UInt8.ofNat u] else UInt8.ofNat (u % 128 + 128) :: Af (u / 128)
termination_by u
decreasing_by omega
theorem Fk : ∀ (u : Nat), u < 2 ^ 64 → (Af u).length ≤ 10 := by
 have key : ∀ k u, u < 128 ^ (k + 1) → (Af u).length ≤ k + 1 := by
  intro k
  induction k with
  | zero => intro u hu; rw [Af]; simp at hu; simp [hu]
  | succ k ih =>
   intro u hu
   rw [Af]
   split
   ·simp
   ·simp only [List.length_cons]
    have := ih (u / 128) (by rw [Nat.div_lt_iff_lt_mul (by omega)]; rw [Nat.pow_succ] at hu; exact hu)
    omega
 intro u hu
 exact key 9 u (Nat.lt_of_lt_of_le hu (by decide))
end Go.LS
namespace Go.LS
theorem H2 (n : Int) : 0 ≤ IntKind.wrap .u8 n ∧ IntKind.wrap .u8 n ≤ 255 := by
 simp only [IntKind.wrap, IntKind.bits, IntKind.signed]
 simp
 omega
theorem Eu (n : Int) : [[PV.int .u8 (IntKind.wrap .u8 n)]] = bs [UInt8.ofNat (IntKind.wrap .u8 n).toNat] := Um (H2 n).1 (H2 n).2
end Go.LS
namespace Go.LS
theorem Dl {n : Nat} (h : n < 2 ^ 64) : IntKind.wrap .u64 (n : Int) = (n : Int) := by
 simp only [IntKind.wrap, IntKind.bits, IntKind.signed]
 simp
 omega
theorem Xm (n : Int) : IntKind.wrap .u64 n = n % 18446744073709551616 := by
 simp only [IntKind.wrap, IntKind.bits, IntKind.signed]
 simp
theorem Aw {n : Int} (h0 : -9223372036854775808 ≤ n) (h1 : n ≤ 9223372036854775807) : IntKind.wrap .i64 n = n := by
 simp only [IntKind.wrap, IntKind.bits, IntKind.signed]
 simp
 omega
end Go.LS
namespace Go.LS
theorem M9 (L : List UInt8) (n : Nat) (h : n = 1) : ((bs L).all fun e => e.length == n) = true := by subst h; simp [bs]
theorem P9 (L : List UInt8) (k : Nat) : bs (L.take k) = (bs L).take k := by simp [bs, List.map_take]
theorem Un (L : List UInt8) (k : Nat) : bs (L.drop k) = (bs L).drop k := by simp [bs, List.map_drop]
theorem Hs (u : Nat) : 0 < (Af u).length := by rw [Af]; split <;> simp
theorem Xn {u : Nat} (h : u < 128) : Af u = [UInt8.ofNat u] := by rw [Af, if_pos h]
theorem Xo {u : Nat} (h : ¬ u < 128) : Af u = UInt8.ofNat (u % 128 + 128) :: Af (u / 128) := by rw [Af, if_neg h]
end Go.LS
namespace Go.LS
theorem Xp {v : LV} {L : List UInt8} {i : Nat} {c : UInt8} {st : List LObj} (hv : v.asSl = some (bs L)) (hr : v.isRs = false) (h : L[i]? = some c) :
  Ag A5 [] st (.indexAddr 1 (.const v) (.const (.p (.int .i64 ((i : Nat) : Int))))) = some (.pin [.int .u8 c.toNat] 0, st) := by
 have hb : (bs L)[i]? = some [.int .u8 c.toNat] := by simp [bs, h]
 have h0 : ¬ ((i : Int) < 0) := by omega
 cases v <;> simp only [LV.isRs, Bool.true_eq_false] at hr <;> simp only [LV.asSl] at hv <;> first | (cases hv; done) | skip
 all_goals simp [Ag, LX.ev, LV.asInt, LV.asSl, hv, hb, h0]
end Go.LS
namespace Go.LS
theorem B4 {v : LV} {L : List UInt8} {i : Nat} {st : List LObj} (hv : v.asSl = some (bs L)) (hr : v.isRs = false) (h : i < L.length) :
  Ag A5 [] st (.indexAddr 1 (.const v) (.const (.p (.int .i64 ((i : Nat) : Int))))) = some (.pin [.int .u8 ((L.getD i 0).toNat : Int)] 0, st) := by
 rw [Xp hv hr (c := L.getD i 0) (by simp [List.getD, h])]
theorem Rl {y : Nat} {k : IntKind} {n : Int} {d : Nat} (h0 : 0 ≤ n) (h : n ≤ y) : bnd y (some (.p (.int k n))) d = some n.toNat := by simp [bnd, h0, h]
theorem Dm {M : List UInt8} {k : IntKind} {lo : Int} {st : List LObj} (h0 : 0 ≤ lo) (h : lo ≤ (M.length : Int)) :
  Ag A5 [] st (.slice 1 (.const (.p (.sl (bs M)))) (some (.const (.p (.int k lo)))) none none) = some (.p (.sl (bs (M.drop lo.toNat))), st) := by
 have e : (bs M).take (bs M).length = bs M := List.take_length
 have e2 : (bs M).take M.length = bs M := by rw [← A6 M]; exact e
 simp [Ag, LX.ev, Eg, LV.asSl, M9, E9, bnd, A6, h0, h, Un, e2]
theorem Dn {M : List UInt8} {k : IntKind} {hi : Int} {st : List LObj} (h0 : 0 ≤ hi) (h : hi ≤ (M.length : Int)) :
  Ag A5 [] st (.slice 1 (.const (.p (.sl (bs M)))) none (some (.const (.p (.int k hi)))) none) = some (.p (.sl (bs (M.take hi.toNat))), st) := by
 simp [Ag, LX.ev, Eg, LV.asSl, M9, E9, bnd, A6, h0, h, P9]
 split
 ·rename_i v hv
  split at hv
  ·rename_i h1
   cases hv
   rw [h1.1, ← A6 M, List.take_length]
  ·cases hv; rfl
 ·rename_i hv; split at hv <;> cases hv
theorem F7 {M : List UInt8} {k j : IntKind} {lo hi : Int} {st : List LObj} (h0 : 0 ≤ lo) (h1 : lo ≤ hi) (h : hi ≤ (M.length : Int)) :
  Ag A5 [] st (.slice 1 (.const (.p (.sl (bs M)))) (some (.const (.p (.int k lo)))) (some (.const (.p (.int j hi)))) none) = some (.p (.sl (bs ((M.take hi.toNat).drop lo.toNat))), st) := by
 have hh : 0 ≤ hi := by omega
 have hl : lo ≤ ((hi.toNat : Nat) : Int) := by omega
 have hl2 : lo ≤ max hi 0 := by omega
 simp [Ag, LX.ev, Eg, LV.asSl, M9, E9, bnd, A6, h0, hh, hl, hl2, h, P9, Un]
 split
 ·rename_i v hv
  split at hv
  ·rename_i h1
   cases hv
   rw [h1.1, ← A6 M, List.take_length]
  ·cases hv; rfl
 ·rename_i hv; split at hv <;> cases hv
theorem Hh {k j : IntKind} {a b : Int} {st : List LObj} (h : 0 ≤ b) :
  Ag A5 [] st (.bin .shl (.const (.p (.int k a))) (.const (.p (.int j b)))) = some (.p (.int k (IntKind.wrap k (a * 2 ^ min (Int.toNat b) k.bits))), st) := by
 have h0 : ¬ b < 0 := by omega
 simp [Ag, LX.ev, St, h0]
theorem Ap {lp : A1} {f : FuncId} {args : List LV} {st : List LObj} {c : Prop} [Decidable c] {a b : LV × List LObj} (k : c) (h : Runs lp f args st a) : Runs lp f args st (if c then a else b) := by rwa [if_pos k]
theorem Aq {lp : A1} {f : FuncId} {args : List LV} {st : List LObj} {c : Prop} [Decidable c] {a b : LV × List LObj} (k : ¬ c) (h : Runs lp f args st b) : Runs lp f args st (if c then a else b) := by rwa [if_neg k]
theorem B5 {v : LV} {E : List (List PV)} {e : List PV} {z : Nat} {i : Nat} {st : List LObj} (hv : v.asSl = some E) (hr : v.isRs = false) (h : E[i]? = some e) (hz : e.length = z) :
  Ag A5 [] st (.indexAddr z (.const v) (.const (.p (.int .i64 ((i : Nat) : Int))))) = some (.pin e 0, st) := by
 have h0 : ¬ ((i : Int) < 0) := by omega
 cases v <;> simp only [LV.isRs, Bool.true_eq_false] at hr <;> simp only [LV.asSl] at hv <;> first | (cases hv; done) | skip
 all_goals simp [Ag, LX.ev, LV.asInt, LV.asSl, hv, h, h0, hz]
theorem Rm (a b c d : Int) : [[PV.int .u8 (IntKind.wrap .u8 a)], [PV.int .u8 (IntKind.wrap .u8 b)], [PV.int .u8 (IntKind.wrap .u8 c)], [PV.int .u8 (IntKind.wrap .u8 d)]] =
  bs [UInt8.ofNat (IntKind.wrap .u8 a).toNat, UInt8.ofNat (IntKind.wrap .u8 b).toNat, UInt8.ofNat (IntKind.wrap .u8 c).toNat, UInt8.ofNat (IntKind.wrap .u8 d).toNat] := by
 have h := Eu
 simp only [bs, List.map_cons, List.map_nil, List.cons.injEq, and_true] at h ⊢
 exact ⟨h a, h b, h c, h d⟩
end Go.LS
set_option linter.unusedVariables false
set_option linter.unusedSimpArgs false
namespace Go.LS
theorem To {size bytes : Nat} {E X : List (List PV)} {st : List LObj} {x : LV} (hx : C6 false st x = some X) (hE : Ex size E = true) (hX : Ex size X = true) (hne : X ≠ [])
  (hb : (E.length + X.length) * bytes ≤ 140737488355328) (hm : E.length + X.length ≤ 9223372036854775807) (h0 : 0 < size) :
  Ag A5 [] st (.append false size bytes (.const (.tight E)) (.const x)) = some (.sl (E ++ X) st.length (E ++ X).length, st ++ [.spare size (E ++ X).length]) := by
 have : X.isEmpty = false := by cases X <;> simp_all
 refine Jx ?_
 simp [LX.ev, Di, hx, hX, hE, this, Qs hb, maxLen, hm, h0]
theorem Tp {size bytes tg : Nat} {E X : List (List PV)} {st : List LObj} {x : LV} (hs : st[tg]? = some (.spare size E.length)) (hx : C6 false st x = some X) (hX : Ex size X = true)
  (hb : (E.length + X.length) * bytes ≤ 140737488355328) (hm : E.length + X.length ≤ 9223372036854775807) (h0 : 0 < size) :
  Ag A5 [] st (.append false size bytes (.const (.sl E tg E.length)) (.const x)) = some (.sl (E ++ X) tg (E ++ X).length, st.set tg (.spare size (E ++ X).length)) := by
 by_cases hM : X = []
 ·subst hM
  refine Jx ?_
  simp [LX.ev, Di, hx, hX, hs]
  obtain ⟨h1, h2⟩ := List.getElem?_eq_some_iff.1 hs
  conv => rhs; rw [← h2]
  simp
 ·have : X.isEmpty = false := by cases X <;> simp_all
  refine Jx ?_
  simp [LX.ev, Di, hx, hX, hs, this, Qs hb, maxLen, hm, h0, hM]
theorem Ki {A B : List UInt8} {st : List LObj} (h : A.length + B.length ≤ 9223372036854775807) :
  Ag A5 [] st (.bin .add (.const (.p (.str A))) (.const (.p (.str B)))) = some (.p (.str (A ++ B)), st) := by
 simp [Ag, LX.ev, St, Zj, h]
theorem Vo {size bytes : Nat} {n : Int} {st : List LObj} (h : 0 < n ∧ Dh n.toNat bytes = true ∧ n ≤ 9223372036854775807) :
  Ag A5 [] st (.grow size bytes (.const (.tight [])) (.const (.p (.int .i64 n)))) = some (.gr st.length n.toNat, st ++ [.spare size 0]) := by
 have hn : ¬ n = 0 := by omega
 simp [Ag, LX.ev, hn, h]
theorem Qa {size tg n : Nat} {st : List LObj} :
  Ag A5 [] st (.slice size (.const (.gr tg n)) none (some (.const (.p (.int .i64 0)))) none) = some (.sl [] tg 0, st) := by
 simp [Ag, LX.ev, Eg, bnd]
theorem Ik {str : Bool} {M : List UInt8} {es : List (List PV)} {st : List LObj} {x : LV} (hx : C6 str st x = some es) (he : es = bs M) (hM : decide (M = []) = true) :
  Ag A5 [] st (.append str 1 1 (.const (.tight [])) (.const x)) = some (.tight [], st) := by
 subst he
 have : M = [] := of_decide_eq_true hM
 subst this
 refine Jx ?_
 simp [LX.ev, Di, hx, bs, Ex]
theorem Na {neg : Bool} {L : List UInt8} {st : List LObj} (h : L ≠ []) :
  Ag A5 [] st (.nileq neg .slice (.const (.p (.sl (bs L))))) = some (.p (.bool neg), st) := by
 cases L with
 | nil => exact (h rfl).elim
 | cons c r => simp [Ag, LX.ev, LV.nilq, bs]
end Go.LS
set_option linter.unusedVariables false
set_option linter.unusedSimpArgs false
namespace Go.LS
def cr0 : List Bl := [⟨some 4, .mv (.const (.p (.int .i64 0))), none⟩]
def cr1 : List Bl := [⟨some 11, .mv (.tmp 0), none⟩, ⟨some 12, .peq false (.tmp 11) (.const (.p .nilp)), none⟩]
def cr2 : List Bl := [⟨some 4, .mv (.const (.p (.int .i64 6))), none⟩]
def cr3 : List Bl := [⟨some 13, .mkmap, none⟩, ⟨some 5, .mv (.tmp 13), none⟩]
def cr4 : List Bl := [⟨some 14, .mv (.tmp 1), none⟩, ⟨some 15, .len (.tmp 14), none⟩, ⟨some 16, .mv (.const (.p (.int .i64 0))), none⟩]
def cr5 : List Bl := [⟨some 17, .bin .lss (.tmp 16) (.tmp 15), none⟩]
def cr6 : List Bl := [⟨some 18, .indexAddr 2 (.tmp 14) (.tmp 16), none⟩, ⟨some 19, .load true 2 (.tmp 18), none⟩, ⟨some 7, .alloc [.p (.str []), .p (.int .i64 0)], none⟩, ⟨none, .store 2 (.tmp 7) (.tmp 19), none⟩]
def cr7 (K : Nat) : List Bl := [⟨some 20, .fieldAddr 0 (.tmp 7), none⟩, ⟨some 21, .load false 1 (.tmp 20), none⟩, ⟨some 22, .call K [.tmp 21], none⟩, ⟨some 23, .un .not (.tmp 22), none⟩]
def cr8 : List Bl := [⟨some 4, .mv (.const (.p (.int .i64 1))), none⟩]
def cr9 : List Bl := [⟨some 24, .mv (.tmp 5), none⟩, ⟨some 25, .fieldAddr 0 (.tmp 7), none⟩, ⟨some 26, .load false 1 (.tmp 25), none⟩, ⟨some 27, .fieldAddr 1 (.tmp 7), none⟩, ⟨some 28, .load false 1 (.tmp 27), none⟩, ⟨some 29, .mx (.tmp 28) (.const (.p (.int .i64 0))), none⟩, ⟨none, .mapUpdate .str (.tmp 24) (.tmp 26) (.tmp 29), none⟩]
def cr10 : List Bl := [⟨some 30, .bin .add (.tmp 16) (.const (.p (.int .i64 1))), none⟩, ⟨some 16, .mv (.tmp 30), none⟩]
def cr11 : List Bl := [⟨some 31, .mv (.tmp 0), none⟩, ⟨some 32, .nilChk (.tmp 31), none⟩, ⟨some 33, .fieldAddr 0 (.tmp 32), none⟩, ⟨some 34, .load false 1 (.tmp 33), none⟩]
def Z3 : List Bl := [⟨some 37, .extract (.tmp 36) 0, none⟩]
def cr13 : List Bl := [⟨some 39, .extract (.tmp 38) 0, none⟩, ⟨some 40, .extract (.tmp 38) 1, none⟩, ⟨some 9, .alloc [(.tight []), .p (.int .i64 0)], none⟩, ⟨some 8, .mv (.tmp 39), none⟩, ⟨none, .store 2 (.tmp 9) (.tmp 40), none⟩]
def cr14 : List Bl := [⟨some 41, .fieldAddr 1 (.tmp 9), none⟩, ⟨some 42, .load false 1 (.tmp 41), none⟩, ⟨some 43, .mv (.tmp 5), none⟩, ⟨some 44, .mv (.tmp 8), none⟩, ⟨some 45, .lookup .str (.p (.int .i64 0)) false (.tmp 43) (.tmp 44), none⟩, ⟨some 46, .fieldAddr 0 (.tmp 9), none⟩, ⟨some 47, .load false 1 (.tmp 46), none⟩, ⟨some 48, .len (.tmp 47), none⟩, ⟨some 49, .fieldAddr 1 (.tmp 9), none⟩, ⟨some 50, .load false 1 (.tmp 49), none⟩, ⟨some 51, .bin .sub (.tmp 48) (.tmp 50), none⟩, ⟨some 52, .mn (.tmp 45) (.tmp 51), none⟩, ⟨some 53, .bin .add (.tmp 42) (.tmp 52), none⟩, ⟨some 10, .mv (.tmp 53), none⟩]
def cr15 : List DOp := [⟨.h, 0, [], ⟨some 54, .mv (.tmp 0), none⟩⟩, ⟨.h, 1, [], ⟨some 55, .nilChk (.tmp 54), none⟩⟩, ⟨.h, 2, [], ⟨some 56, .fieldAddr 0 (.tmp 55), none⟩⟩, ⟨.h, 3, [], ⟨some 57, .load false 1 (.tmp 56), none⟩⟩, ⟨.h, 4, [], ⟨some 58, .mv (.tmp 8), none⟩⟩, ⟨.h, 5, [], ⟨some 59, .fieldAddr 0 (.tmp 9), none⟩⟩, ⟨.h, 6, [], ⟨some 60, .load false 1 (.tmp 59), none⟩⟩, ⟨.h, 7, [], ⟨some 61, .mv (.tmp 10), none⟩⟩, ⟨.h, 8, [], ⟨some 62, .slice 1 (.tmp 60) none (some (.tmp 61)) none, none⟩⟩, ⟨.h, 9, [], ⟨some 63, .mv (.tmp 10), none⟩⟩, ⟨.h, 10, [], ⟨some 64, .build [(.tight []), .p (.int .i64 0)] [(0, 1, (.tmp 62)), (1, 1, (.tmp 63))], none⟩⟩]
def cr16 : List Bl := [⟨some 65, .mv (.tmp 0), none⟩, ⟨some 66, .mv (.tmp 0), none⟩, ⟨some 67, .mv (.tmp 0), none⟩, ⟨some 68, .nilChk (.tmp 65), none⟩, ⟨some 69, .fieldAddr 3 (.tmp 68), none⟩, ⟨none, .store 1 (.tmp 69) (.const (.p (.bool false))), none⟩, ⟨some 70, .nilChk (.tmp 66), none⟩, ⟨some 71, .fieldAddr 1 (.tmp 70), none⟩, ⟨none, .store 1 (.tmp 71) (.const (.p (.int .i64 (-1)))), none⟩, ⟨some 72, .nilChk (.tmp 67), none⟩, ⟨some 73, .fieldAddr 2 (.tmp 72), none⟩, ⟨none, .store 1 (.tmp 73) (.const (.p (.int .i64 0))), none⟩]
section
variable {call : CallF}
abbrev dP : LV := .ptr 0 0 0
def S0 (a b c : PV) : List LObj := [.row [[.mp 1, .p a, .p b, .p c]], .dead]
def S1 (a b c : PV) (ks : List (List UInt8 × Int)) : List LObj := [.row [[.mp 1, .p a, .p b, .p c]], .dead, .map (ksV ks)]
def S2 (a b c : PV) (ks : List (List UInt8 × Int)) : List LObj := [.row [[.mp 1, .p a, .p b, .p c]], .dead, .map (ksV ks), .dead]
theorem Tq {f : List (Nat × LV)} {st : List LObj} : Bd call cr0 (mkT f) st = some (mkT ((4, .p (.int .i64 0)) :: f), st) := A8 (by decide) rfl Hd
theorem crRun2 {f : List (Nat × LV)} {st : List LObj} : Bd call cr2 (mkT f) st = some (mkT ((4, .p (.int .i64 6)) :: f), st) := A8 (by decide) rfl Hd
theorem crRun8 {f : List (Nat × LV)} {st : List LObj} : Bd call cr8 (mkT f) st = some (mkT ((4, .p (.int .i64 1)) :: f), st) := A8 (by decide) rfl Hd
theorem crRun1 {f : List (Nat × LV)} {st : List LObj} {o : Nat} (h : lk f 0 = .ptr o 0 0) : Bd call cr1 (mkT f) st = some (mkT ((12, .p (.bool false)) :: (11, .ptr o 0 0) :: f), st) := by
 refine A8 (by decide) (v := .ptr o 0 0) (st1 := st) ?_ (A8 (by decide) rfl Hd)
 simp only [Ag, LX.ev]
 rw [E7 _ _ (by decide), h]
theorem Z4 {f : List (Nat × LV)} {st : List LObj} (h : lk f 0 = .p .nilp) : Bd call cr1 (mkT f) st = some (mkT ((12, .p (.bool true)) :: (11, .p .nilp) :: f), st) := by
 refine A8 (by decide) (v := .p .nilp) (st1 := st) ?_ (A8 (by decide) rfl Hd)
 simp only [Ag, LX.ev]
 rw [E7 _ _ (by decide), h]
theorem crRun3 {a b c : PV} {L : LV} : Bd call cr3 (mkT [(4, .p (.int .i64 0)), (0, dP), (1, L)]) (S0 a b c) = some (mkT [(5, .mp 2), (13, .mp 2), (4, .p (.int .i64 0)), (0, dP), (1, L)], S1 a b c []) :=
 A8 (by decide) (v := .mp 2) rfl (A8 (by decide) rfl Hd)
abbrev fA (rows : List (List PV)) (j : Nat) : List (Nat × LV) := [(0, dP), (5, .mp 2), (14, .p (.sl rows)), (15, .p (.int .i64 rows.length)), (16, .p (.int .i64 j))]
theorem crRun4 {rows : List (List PV)} {st : List LObj} : Bd call cr4 (mkT [(5, .mp 2), (0, dP), (1, .p (.sl rows))]) st =
  some (mkT [(16, .p (.int .i64 0)), (15, .p (.int .i64 rows.length)), (14, .p (.sl rows)), (5, .mp 2), (0, dP), (1, .p (.sl rows))], st) :=
 A8 (by decide) (v := .p (.sl rows)) rfl (A8 (by decide) rfl (A8 (by decide) rfl Hd))
theorem Xq {rows : List (List PV)} {j : Nat} {st : List LObj} : Bd call cr5 (mkT (fA rows j)) st = some (mkT ((17, .p (.bool (decide (j < rows.length)))) :: fA rows j), st) := by
 refine A8 (by decide) (v := .p (.bool (decide (j < rows.length)))) (st1 := st) ?_ Hd
 show some ((LV.p (.bool (decide ((j : Int) < (rows.length : Int))))), st) = _
 simp
theorem crRun6 {a b c : PV} {ks : List (List UInt8 × Int)} {rows : List (List PV)} {j : Nat} {s : List UInt8} {n : Int} (h : rows[j]? = some [.str s, .int .i64 n]) :
  Bd call cr6 (mkT (fA rows j)) (S1 a b c ks) = some (mkT ((7, .ptr 3 0 0) :: (19, .agg [.p (.str s), .p (.int .i64 n)]) :: (18, .pin [.str s, .int .i64 n] 0) :: fA rows j), S1 a b c ks ++ [.row [[.p (.str s), .p (.int .i64 n)]]]) := by
 refine A8 (by decide) (v := .pin [.str s, .int .i64 n] 0) (st1 := S1 a b c ks) ?_ (A8 (by decide) (v := .agg [.p (.str s), .p (.int .i64 n)]) rfl (A8 (by decide) (v := .ptr 3 0 0) rfl (Kf rfl Hd)))
 show (if (j : Int) < 0 then none else match rows[(j : Int).toNat]? with | some e => if e.length = 2 then some (LV.pin e 0, S1 a b c ks) else none | none => none) = _
 rw [if_neg (by omega), Int.toNat_natCast, h]; rfl
theorem crRun7 {a b c : PV} {ks : List (List UInt8 × Int)} {K : Nat} {s : List UInt8} {n : Int} {x : Bool} {f : List (Nat × LV)} (hK : call K [.p (.str s)] [] = some (.p (.bool x), [])) (h7 : lk f 7 = .ptr 3 0 0) :
  Bd call (cr7 K) (mkT f) (S1 a b c ks ++ [.row [[.p (.str s), .p (.int .i64 n)]]]) = some (mkT ((23, .p (.bool !x)) :: (22, .p (.bool x)) :: (21, .p (.str s)) :: (20, .ptr 3 0 0) :: f), S1 a b c ks ++ [.row [[.p (.str s), .p (.int .i64 n)]]]) := by
 refine A8 (by decide) (v := .ptr 3 0 0) (st1 := S1 a b c ks ++ [.row [[.p (.str s), .p (.int .i64 n)]]]) ?_ (A8 (by decide) (v := .p (.str s)) rfl (A8 (by decide) (v := .p (.bool x)) (Re hK) (A8 (by decide) (v := .p (.bool !x)) rfl Hd)))
 simp only [Ag, LX.ev]
 rw [E7 _ _ (by decide), h7]
theorem crRun9 {a b c : PV} {ks : List (List UInt8 × Int)} {s : List UInt8} {n : Int} {f : List (Nat × LV)} (h5 : lk f 5 = .mp 2) (h7 : lk f 7 = .ptr 3 0 0) :
  ∃ f', Bd call cr9 (mkT f) (S1 a b c ks ++ [.row [[.p (.str s), .p (.int .i64 n)]]]) = some (mkT f', S1 a b c (Ke s (if n < 0 then 0 else n) ks) ++ [.row [[.p (.str s), .p (.int .i64 n)]]]) ∧ ∀ i, i < 20 → lk f' i = lk f i := by
 refine ⟨[(29, .p (.int .i64 (if n < 0 then 0 else n))), (28, .p (.int .i64 n)), (27, .ptr 3 0 1), (26, .p (.str s)), (25, .ptr 3 0 0), (24, .mp 2)] ++ f, ?_, ?_⟩
 ·refine A8 (by decide) (v := .mp 2) (st1 := S1 a b c ks ++ [.row [[.p (.str s), .p (.int .i64 n)]]]) ?_ (A8 (by decide) (v := .ptr 3 0 0) (st1 := S1 a b c ks ++ [.row [[.p (.str s), .p (.int .i64 n)]]]) ?_ (A8 (by decide) (v := .p (.str s)) rfl
   (A8 (by decide) (v := .ptr 3 0 1) (st1 := S1 a b c ks ++ [.row [[.p (.str s), .p (.int .i64 n)]]]) ?_ (A8 (by decide) (v := .p (.int .i64 n)) rfl (A8 (by decide) (v := .p (.int .i64 (if n < 0 then 0 else n))) rfl (Kf (v := .tup []) ?_ Hd))))))
  ·simp only [Ag, LX.ev]; rw [E7 _ _ (by decide), h5]
  ·simp only [Ag, LX.ev]; rw [E7 _ _ (by decide)]; simp [lk, h7]
  ·simp only [Ag, LX.ev]; rw [E7 _ _ (by decide)]; simp [lk, h7]
  ·show (match Jv (.str s) (.p (.int .i64 (if n < 0 then 0 else n))) (ksV ks) with | some kv' => some (LV.tup [], (S1 a b c ks ++ [LObj.row [[.p (.str s), .p (.int .i64 n)]]]).set 2 (.map kv')) | none => none) = _
   rw [Rc]; rfl
 ·intro i hi
  simp only [List.cons_append, List.nil_append, lk]
  rw [if_neg (by simp; omega), if_neg (by simp; omega), if_neg (by simp; omega), if_neg (by simp; omega), if_neg (by simp; omega), if_neg (by simp; omega)]
theorem Z5 {f : List (Nat × LV)} {st : List LObj} {j : Nat} (hj : j < 9223372036854775807) (h : lk f 16 = .p (.int .i64 j)) : Bd call cr10 (mkT f) st = some (mkT ((16, .p (.int .i64 ((j + 1 : Nat) : Int))) :: (30, .p (.int .i64 ((j + 1 : Nat) : Int))) :: f), st) := by
 refine A8 (by decide) (v := .p (.int .i64 ((j + 1 : Nat) : Int))) (st1 := st) ?_ (A8 (by decide) rfl Hd)
 simp only [Ag, LX.ev]
 rw [E7 _ _ (by decide), h]
 show some (LV.p (.int .i64 (IntKind.wrap .i64 ((j : Int) + 1))), st) = _
 rw [Aw (by omega) (by omega)]; rfl
theorem Z6 {a b c : PV} {ks : List (List UInt8 × Int)} : Bd call cr11 (mkT [(0, dP), (5, .mp 2)]) (S1 a b c ks) = some (mkT [(34, .mp 1), (33, .ptr 0 0 0), (32, .ptr 0 0 0), (31, dP), (0, dP), (5, .mp 2)], S1 a b c ks) :=
 A8 (by decide) (v := dP) rfl (A8 (by decide) (v := dP) rfl (A8 (by decide) (v := dP) rfl (A8 (by decide) (v := .mp 1) rfl Hd)))
theorem Uo {f : List (Nat × LV)} {st : List LObj} {vs : List LV} {x : Bool} : Bd call Z3 (mkT ((36, .tup (.p (.bool x) :: vs)) :: f)) st = some (mkT ((37, .p (.bool x)) :: (36, .tup (.p (.bool x) :: vs)) :: f), st) :=
 A8 (by decide) rfl Hd
abbrev fB : List (Nat × LV) := [(0, dP), (5, .mp 2), (35, .it 3)]
abbrev fC (s : List UInt8) : List (Nat × LV) := [(0, dP), (5, .mp 2), (35, .it 3), (9, .ptr 4 0 0), (8, .p (.str s))]
theorem Z7 {a b c : PV} {ks : List (List UInt8 × Int)} {s : List UInt8} {B : List (List PV)} {u : Int} {f : List (Nat × LV)} :
  Bd call cr13 (mkT ((38, .tup [.p (.str s), .agg [.p (.sl B), .p (.int .i64 u)]]) :: f)) (S2 a b c ks) = some (mkT ((8, .p (.str s)) :: (9, .ptr 4 0 0) :: (40, .agg [.p (.sl B), .p (.int .i64 u)]) :: (39, .p (.str s)) :: (38, .tup [.p (.str s), .agg [.p (.sl B), .p (.int .i64 u)]]) :: f), S2 a b c ks ++ [.row [[.p (.sl B), .p (.int .i64 u)]]]) :=
 A8 (by decide) (v := .p (.str s)) rfl (A8 (by decide) (v := .agg [.p (.sl B), .p (.int .i64 u)]) rfl (A8 (by decide) (v := .ptr 4 0 0) rfl (A8 (by decide) (v := .p (.str s)) rfl (Kf rfl Hd))))
theorem Z8 {a b c : PV} {ks : List (List UInt8 × Int)} {s : List UInt8} {B : List (List PV)} {u : Int} (hk : kOk ks) (h0 : 0 ≤ u) (h1 : u ≤ B.length) (h2 : B.length ≤ 9223372036854775807) :
  ∃ f', Bd call cr14 (mkT (fC s)) (S2 a b c ks ++ [.row [[.p (.sl B), .p (.int .i64 u)]]]) = some (mkT ((10, .p (.int .i64 (F5 ks s B u))) :: f'), S2 a b c ks ++ [.row [[.p (.sl B), .p (.int .i64 u)]]]) ∧ ∀ i, i < 41 → lk f' i = lk (fC s) i := by
 have hsub : IntKind.wrap .i64 ((B.length : Int) - u) = (B.length : Int) - u := Aw (by omega) (by omega)
 have hk0 : 0 ≤ (Hb s ks).getD 0 := by
  cases e : Hb s ks with
  | none => simp
  | some n => exact Pz hk e
 have hadd : IntKind.wrap .i64 (F5 ks s B u) = F5 ks s B u := by
  unfold F5
  split <;> exact Aw (by omega) (by omega)
 refine ⟨[(53, .p (.int .i64 (F5 ks s B u))), (52, .p (.int .i64 (if (B.length : Int) - u < (Hb s ks).getD 0 then (B.length : Int) - u else (Hb s ks).getD 0))), (51, .p (.int .i64 ((B.length : Int) - u))), (50, .p (.int .i64 u)), (49, .ptr 4 0 1), (48, .p (.int .i64 B.length)), (47, .p (.sl B)), (46, .ptr 4 0 0), (45, .p (.int .i64 ((Hb s ks).getD 0))), (44, .p (.str s)), (43, .mp 2), (42, .p (.int .i64 u)), (41, .ptr 4 0 1)] ++ fC s, ?_, ?_⟩
 ·refine A8 (by decide) (v := .ptr 4 0 1) rfl (A8 (by decide) (v := .p (.int .i64 u)) rfl (A8 (by decide) (v := .mp 2) rfl (A8 (by decide) (v := .p (.str s)) rfl (A8 (by decide) (v := .p (.int .i64 ((Hb s ks).getD 0))) (st1 := S2 a b c ks ++ [.row [[.p (.sl B), .p (.int .i64 u)]]]) ?_
   (A8 (by decide) (v := .ptr 4 0 0) rfl (A8 (by decide) (v := .p (.sl B)) rfl (A8 (by decide) (v := .p (.int .i64 B.length)) rfl (A8 (by decide) (v := .ptr 4 0 1) rfl (A8 (by decide) (v := .p (.int .i64 u)) rfl
   (A8 (by decide) (v := .p (.int .i64 ((B.length : Int) - u))) (st1 := S2 a b c ks ++ [.row [[.p (.sl B), .p (.int .i64 u)]]]) ?_ (A8 (by decide) rfl (A8 (by decide) (v := .p (.int .i64 (F5 ks s B u))) (st1 := S2 a b c ks ++ [.row [[.p (.sl B), .p (.int .i64 u)]]]) ?_ (A8 (by decide) rfl Hd)))))))))))))
  ·show (match D9 (.str s) (ksV ks) with | some (some v) => some (v, S2 a b c ks ++ [LObj.row [[.p (.sl B), .p (.int .i64 u)]]]) | some none => some (LV.p (.int .i64 0), S2 a b c ks ++ [LObj.row [[.p (.sl B), .p (.int .i64 u)]]]) | none => none) = _
   rw [Or]
   cases Hb s ks <;> rfl
  ·show some (LV.p (.int .i64 (IntKind.wrap .i64 ((B.length : Int) - u))), S2 a b c ks ++ [LObj.row [[.p (.sl B), .p (.int .i64 u)]]]) = _
   rw [hsub]
  ·show some (LV.p (.int .i64 (IntKind.wrap .i64 (F5 ks s B u))), S2 a b c ks ++ [LObj.row [[.p (.sl B), .p (.int .i64 u)]]]) = _
   rw [hadd]
 ·intro i hi
  simp only [List.cons_append, List.nil_append, lk]
  repeat rw [if_neg (by simp; omega)]
theorem Qb {ks : List (List UInt8 × Int)} {s : List UInt8} {B : List (List PV)} {u : Int} (hk : kOk ks) (h0 : 0 ≤ u) (h1 : u ≤ B.length) : u ≤ F5 ks s B u ∧ F5 ks s B u ≤ B.length := by
 have hk0 : 0 ≤ (Hb s ks).getD 0 := by
  cases e : Hb s ks with
  | none => simp
  | some n => exact Pz hk e
 unfold F5
 split <;> omega
theorem Z9 {a b c : PV} {ks : List (List UInt8 × Int)} {s : List UInt8} {B : List (List PV)} {u n : Int} (h0 : 0 ≤ n) (h1 : n ≤ B.length) (hB : (B.all fun e => e.length == 1) = true) :
  ∃ f', Bk call cr15 [] (mkT ((10, .p (.int .i64 n)) :: fC s)) (S2 a b c ks ++ [.row [[.p (.sl B), .p (.int .i64 u)]]]) = some (mkT ((64, .agg [.p (.sl (B.take n.toNat)), .p (.int .i64 n)]) :: f'), S2 a b c ks ++ [.row [[.p (.sl B), .p (.int .i64 u)]]]) ∧
   lk f' 57 = .mp 1 ∧ lk f' 58 = .p (.str s) ∧ ∀ i, i < 54 → i ≠ 10 → lk f' i = lk (fC s) i := by
 refine ⟨[(63, .p (.int .i64 n)), (62, .p (.sl (B.take n.toNat))), (61, .p (.int .i64 n)), (60, .p (.sl B)), (59, .ptr 4 0 0), (58, .p (.str s)), (57, .mp 1), (56, .ptr 0 0 0), (55, .ptr 0 0 0), (54, dP), (10, .p (.int .i64 n))] ++ fC s, ?_, rfl, rfl, ?_⟩
 ·refine He (by decide) rfl (v := dP) rfl (He (by decide) rfl (v := dP) rfl (He (by decide) rfl (v := dP) rfl (He (by decide) rfl (v := .mp 1) rfl (He (by decide) rfl (v := .p (.str s)) rfl (He (by decide) rfl (v := .ptr 4 0 0) rfl (He (by decide) rfl (v := .p (.sl B)) rfl
   (He (by decide) rfl (v := .p (.int .i64 n)) rfl (He (by decide) rfl (v := .p (.sl (B.take n.toNat))) ?_ (He (by decide) rfl (v := .p (.int .i64 n)) rfl (He (by decide) rfl (v := .agg [.p (.sl (B.take n.toNat)), .p (.int .i64 n)]) rfl (fun held => dnil))))))))))) []
  show (match Eg 1 (S2 a b c ks ++ [LObj.row [[.p (.sl B), .p (.int .i64 u)]]]) (.p (.sl B)) none (some (.p (.int .i64 n))) none with | some v => some (v, _) | none => none) = _
  simp only [Eg, LV.asSl, hB, if_true, E9, Option.isSome_none, Option.isNone_none, bnd, Bool.false_eq_true, false_and, if_false]
  rw [if_pos ⟨h0, h1⟩]
  simp only [Nat.le_refl, if_true, Nat.zero_le, true_and, List.drop_zero]
  have e : (if n.toNat = B.length ∧ 0 < B.length then some (LV.p (PV.sl B)) else some (LV.p (PV.sl (List.take n.toNat B)))) = some (LV.p (PV.sl (List.take n.toNat B))) := by
   split
   ·rename_i h
    rw [h.1, List.take_length]
   ·rfl
  simp only [e]
 ·intro i hi hi'
  simp only [List.cons_append, List.nil_append, lk]
  repeat rw [if_neg (by simp; omega)]
theorem crRun16 {a b c : PV} {ks : List (List UInt8 × Int)} : ∃ f', Bd call cr16 (mkT fB) (S2 a b c ks) = some (mkT f', S2 (.int .i64 (-1)) (.int .i64 0) (.bool false) ks) :=
 ⟨_, A8 (by decide) (v := dP) rfl (A8 (by decide) (v := dP) rfl (A8 (by decide) (v := dP) rfl (A8 (by decide) (v := dP) rfl (A8 (by decide) (v := .ptr 0 0 3) rfl (Kf rfl (A8 (by decide) (v := dP) rfl (A8 (by decide) (v := .ptr 0 0 1) rfl (Kf rfl (A8 (by decide) (v := dP) rfl (A8 (by decide) (v := .ptr 0 0 2) rfl (Kf rfl Hd)))))))))))⟩
end
end Go.LS
