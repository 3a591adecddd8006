import Derived.Test.YtopbbbhhbnghpaaGreatDoorLsG5
import Derived.Shelf.SlIter.Collect
import Derived.Test.YtopbbbhhbnghpaaGreatDoorProg
import Derived.KernelRfl
set_option maxRecDepth 100000
set_option maxHeartbeats 1000000
namespace Go.Proofs.YtopbbbhhbnghpaaGreatDoor
open Go Go.LS Go.RowKit Go.Maps Go.Sort Go.Shelf Go.Proofs
def sqA : Code := (Code.region 2 #[{ dst := some 5, op := Op.assign (Operand.tmp 7), type := 9, pos := "iter.go:51", after := #[], guard := none }] false)
def sqB : Code := (Code.block 1 (Code.region 3 #[{ dst := some 8, op := Op.load 24 (Operand.tmp 2), type := 24, pos := "iter.go:52", after := #[], guard := none }, { dst := some 9, op := Op.move (Operand.tmp 5), type := 9, pos := "iter.go:52", after := #[], guard := none }, { dst := some 10, op := Op.buildSlice 24 1 #[(0, Operand.tmp 9)], type := 24, pos := "iter.go:52", after := #[{ on := 1, ground := Ground.data }], guard := none }, { dst := some 11, op := Op.call { callee := Callee.builtin Builtin.append, args := #[Operand.tmp 8, Operand.tmp 10], argTypes := #[24, 24] }, type := 24, pos := "iter.go:52", after := #[{ on := 0, ground := Ground.data }, { on := 2, ground := Ground.data }], guard := none }, { dst := none, op := Op.store 24 (Operand.tmp 2) (Operand.tmp 11), type := 0, pos := "iter.go:52", after := #[{ on := 3, ground := Ground.data }, { on := 3, ground := Ground.chain }, { on := 0, ground := Ground.phase }, { on := 1, ground := Ground.phase }, { on := 2, ground := Ground.phase }, { on := 3, ground := Ground.phase }], guard := none }] false))
def sqRec (x : Option Addr) (y z g : Nat) (lb : Array Value) (fn : FuncId) (Bs D : Nat) : Loop := { state := .ready, pending := none, fn, tmps := #[.slice x y z, .func (.func g) #[] lb, .pointer (some ⟨Bs, 0, none⟩), undef, .slice none 0 0, undef, .func (.func g) #[] lb, undef, undef, undef, undef, undef, undef], params := #[7], assign := sqA, body := sqB, defers := D }
theorem app375a (x : Option Addr) (y z : Nat) (g : Nat) (lb : Array Value) (w : World) (Post : Value → World → Prop)
    (eg : ∀ args w, (callFunc g args).run Tryz.prog w = .ok (.enter g args) w)
    (hc : ∀ l W, Below w.heap.size w W → w.heap.size < W.heap.size → CallsIn Fence.wide 0 Tryz.prog g (#[.func (.yield l) #[] #[]] ++ lb) W fun e W' => ∃ v, e = .returned v ∧ W.heap.size ≤ W'.heap.size ∧
      (∀ b, b < W.heap.size → w.heap.size ≤ b → W'.heap[b]? = W.heap[b]?) ∧ ∀ W2 : World, W2.os = W'.os → W2.tape = W'.tape → W2.output = W'.output → W2.heap.size = W'.heap.size → (∀ b, (b < w.heap.size ∨ W.heap.size ≤ b) → W2.heap[b]? = W'.heap[b]?) → Post (.slice x y z) W2) :
    CallsIn Fence.wide 0 Tryz.prog 375 #[.slice x y z, .func (.func g) #[] lb] w fun e w' => ∃ v, e = .returned v ∧ Post v w' := by
  refine callsIn_of_wp_marks Tryz.func375 rfl trivial ?_ rfl
  simp only [Tryz.f375, List.size_toArray, List.length_cons, List.length_nil, Nat.reduceAdd, Nat.reduceSub, Array.replicate_succ, Array.replicate_zero, List.push_toArray, List.append_toArray, List.nil_append, List.cons_append]
  gi_wp2
  refine wpIn_rangeFunc ?_
  intro fn hfn
  obtain ⟨W0, hW0⟩ : ∃ W0, w.alloc (.cells #[.slice x y z] 24) = W0 := ⟨_, rfl⟩
  have hs0 : W0.heap.size = w.heap.size + 1 := by rw [← hW0]; simp
  have hv0 : W0.heap[w.heap.size]? = some (.cells #[.slice x y z] 24 (0, 0)) := by rw [← hW0]; exact World.alloc_heap_new w _
  have hb0 : Below w.heap.size w W0 := by rw [← hW0]; exact (Below.refl _ w).alloc (Nat.le_refl _) _
  rw [hW0]
  obtain ⟨rec, hrec⟩ : ∃ rec : Loop, rec = sqRec x y z g lb fn w.heap.size W0.heap.size := ⟨_, rfl⟩
  obtain ⟨W1, hW1⟩ : ∃ W1, (W0.alloc (.deferred (some []))).alloc (.loop rec) = W1 := ⟨_, rfl⟩
  have hold : ∀ k, k < W0.heap.size → W1.heap[k]? = W0.heap[k]? := fun k hk => by
    rw [← hW1]; exact (Below.heap_alloc _ _ k (by simp; omega)).trans (Below.heap_alloc _ _ k hk)
  have hb1 : Below w.heap.size w W1 := by rw [← hW1]; exact (hb0.alloc hb0.size _).alloc (by have := hb0.size; simp; omega) _
  have hs1 : W1.heap.size = W0.heap.size + 2 := by rw [← hW1]; simp
  have hL : W1.heap[W0.heap.size + 1]? = some (.loop rec) := by rw [← hW1]; have := World.alloc_heap_new (W0.alloc (.deferred (some []))) (.loop rec); rwa [World.size_alloc] at this
  have hK : W1.heap[W0.heap.size]? = some (.deferred (some [])) := by rw [← hW1]; exact (Below.heap_alloc _ _ _ (by simp)).trans (World.alloc_heap_new W0 _)
  refine ⟨W0.heap.size + 1, [{ target := .collected W0.heap.size, args := #[] }], W1, { target := .fn (.func g) lb, args := #[.func (.yield (W0.heap.size + 1)) #[] #[]] }, W1, g,
    #[.func (.yield (W0.heap.size + 1)) #[] #[]] ++ lb, W1, ?_, ?_, ?_, ?_, (fun h => by cases h), ?_⟩
  · rw [← hW1, hrec]; exact run_enterLoop_outer _ _ _ _ _
  · simp [resolve, go_sem]
  · intro f' hf'; trivial
  · simp [invoke, go_sem, eg]
  · refine (hc (W0.heap.size + 1) W1 hb1 (by omega)).mono ?_
    rintro e W2 ⟨v0, rfl, hsz, hun, hP⟩
    have hL2 : W2.heap[W0.heap.size + 1]? = some (.loop rec) := (hun _ (by omega) (by omega)).trans hL
    have hK2 : W2.heap[W0.heap.size]? = some (.deferred (some [])) := (hun _ (by omega) (by omega)).trans hK
    have hv2 : W2.heap[w.heap.size]? = some (.cells #[.slice x y z] 24 (0, 0)) := (hun _ (by omega) (by omega)).trans ((hold _ (by omega)).trans hv0)
    have hend := run_endLoop (P := Tryz.prog) hL2 (by rw [hrec]; simp [sqRec])
    obtain ⟨W3, hW3⟩ : ∃ W3, W2.putObj (W0.heap.size + 1) (.loop { rec with state := .exhausted }) = W3 := ⟨_, rfl⟩
    rw [hW3] at hend
    have hv3 : W3.heap[w.heap.size]? = some (.cells #[.slice x y z] 24 (0, 0)) := by rw [← hW3]; exact (World.putObj_heap_other (by omega)).trans hv2
    have hK3 : W3.heap[W0.heap.size]? = some (.deferred (some [])) := by rw [← hW3]; exact (World.putObj_heap_other (by omega)).trans hK2
    obtain ⟨hc3, hf3⟩ := cell_of_box_a hv3
    refine ⟨none, W3, by (have e : rec.pending = none := (by rw [hrec]; rfl)); rw [e] at hend; exact hend, ?_⟩
    gi_wp2
    rw [← hs0]
    refine ⟨by simp, .inl ⟨_, _, rfl, run_takeDeferred hK3, ?_⟩⟩
    refine ⟨_, results_tmp rfl _ _ _, _, rfl, ?_⟩
    show Post (.slice x y z) (W3.putObj W0.heap.size (.deferred none))
    exact hP _ (by rw [← hW3]; rfl) (by rw [← hW3]; rfl) (by rw [← hW3]; rfl) (by rw [← hW3]; simp) (fun b hb => by rw [World.putObj_heap_other (by omega), ← hW3, World.putObj_heap_other (by omega)])
theorem app375 : AppC Tryz.prog 375 376 := fun x y z lb w Post h =>
  callsIn_wide.1 (app375a x y z 376 lb w Post (enters_of Tryz.func376 (by kernel_rfl) rfl) (fun l W a b => callsIn_wide.2 (h l W a b)))
end Go.Proofs.YtopbbbhhbnghpaaGreatDoor
