/- Two functions of the library that write into a list of whole numbers. No conditions. -/
import Derived.Test.YtadbhabmahpkiacFwF
import Derived.Shelf.SortM.Plain
import Derived.Shelf.SlicesE.Compact
set_option linter.all false
namespace Go.Ab
open Go.RowKit
open Go.Sort (Holds putRow grow putCells onCells mapBlock)

def uniqI (xs : List Int) : List Int := Lib.compactUpTo xs.toArray xs.toArray.size
def sortI (xs : List Int) : List Int := xs.mergeSort fun x y => decide (x ≤ y)

theorem row_heap {w : World} {B n : Nat} {c : Array Value} {t : TypeId} (d : Array Int) (os : Array Obj) (h : w.heap[B]? = some (.cells c t (0,0))) :
  (grow (putRow (Value.int .i64) (Go.Sort.ahead w n) B 0 d) os).heap[B]? = some (.cells (putCells (Value.int .i64) 0 d c) t (0,0)) := by
 have hB := (Array.getElem?_eq_some_iff.1 h).1
 show ((w.heap.modify B (onCells (putCells (Value.int .i64) 0 d))) ++ os)[B]? = _
 rw [Array.getElem?_append,if_pos (by simpa using hB),Array.getElem?_modify,if_pos rfl,h]
 rfl
theorem row_other {w : World} {B n : Nat} (d : Array Int) (os : Array Obj) {k : Nat} (hk : k < w.heap.size) (hne : k ≠ B) :
  (grow (putRow (Value.int .i64) (Go.Sort.ahead w n) B 0 d) os).heap[k]? = w.heap[k]? := by
 show ((w.heap.modify B (onCells (putCells (Value.int .i64) 0 d))) ++ os)[k]? = _
 rw [Array.getElem?_append,if_pos (by simpa using hk),Array.getElem?_modify,if_neg (fun e => hne e.symm)]
theorem putCells_size (d : Array Int) (c : Array Value) : (putCells (Value.int .i64) 0 d c).size = c.size := by simp [putCells]
theorem putCells_get {d : Array Int} {c : Array Value} {k : Nat} {v : Value} (hk : k < d.size) (h : (putCells (Value.int .i64) 0 d c)[k]? = some v) : v = .int .i64 d[k]! := by
 simp only [putCells,Array.getElem?_mapIdx,Option.map_eq_some_iff] at h
 obtain ⟨x,_,h2⟩ := h
 simpa [hk] using h2.symm
theorem holds_of {w : World} {B : Nat} {c : Array Value} {t : TypeId} {xs : List Int} (h : w.heap[B]? = some (.cells c t (0,0))) (hl : xs.length ≤ c.size)
  (hv : ∀ (i : Nat) x (j : Nat) d v,(List.map (AV.int .i64) xs)[i]? = some x → x.cells[j]? = some d → c[i * 1 + j]? = some v → V0 w (fun _ => False) v d) : Holds (Value.int .i64) w B 0 xs.toArray ∧ ∀ z ∈ xs,(Lit.int .i64 z).wf = true := by
 have key : ∀ i (hi : i < xs.length),∃ hc : i < c.size,c[i] = .int .i64 xs[i] ∧ (Lit.int .i64 xs[i]).wf = true := by
  intro i hi
  have hc : i < c.size := by omega
  refine ⟨hc,?_⟩
  have := hv i (.int .i64 xs[i]) 0 (.int .i64 xs[i]) c[i] (by simp [hi]) rfl (by simp [hc])
  generalize c[i] = v at this
  cases this
  exact ⟨rfl,by assumption⟩
 refine ⟨fun j hj => ?_,fun z hz => ?_⟩
 ·have hj' : j < xs.length := by simpa using hj
  obtain ⟨hc,h1,_⟩ := key j hj'
  have hb : xs.toArray[j]! = xs[j] := by simp [hj']
  rw [hb,Nat.zero_add]
  refine ⟨?_,?_⟩
  ·rw [cell_of w B _ c t _ h,← h1]; simp [hc]
  ·simp [World.frozen?,h]
 ·obtain ⟨i,hi,rfl⟩ := List.getElem_of_mem hz
  exact (key i hi).2.2
theorem mem_uniq {xs : List Int} {z : Int} (h : z ∈ uniqI xs) : z ∈ xs := by
 simp only [uniqI,Lib.compactUpTo,List.mem_map,List.mem_filter,List.mem_range] at h
 obtain ⟨i,⟨hi,_⟩,rfl⟩ := h
 have hi' : i < xs.length := by simpa using hi
 simp [hi']
theorem uniq_len (xs : List Int) : (uniqI xs).length ≤ xs.length := by
 unfold uniqI Lib.compactUpTo
 rw [List.length_map]
 refine Nat.le_trans (List.length_filter_le _ _) ?_
 simp

section
variable {P : Program}
theorem sort_says {f : FuncId} (hcall : ∀ (args : Array Value) (w : World),(callFunc f args).run P w = .ok (.enter f args) w)
  (hC : ∀ (blk off cap : Nat) (zs : List Int) (w : World),Holds (Value.int .i64) w blk off zs.toArray → blk < w.heap.size → zs.length < 4611686018427387904 →
   Calls P f #[.slice (some ⟨blk,off,none⟩) zs.length cap] w fun e w' => e = .returned (.tuple #[]) ∧ ∃ n os,w' = grow (putRow (Value.int .i64) (Go.Sort.ahead w n) blk off (zs.mergeSort fun x y => decide (x ≤ y)).toArray) os)
  {xs : List Int} (h0 : 0 < xs.length) (h1 : xs.length < 4611686018427387904) : SaysX P (.wr [1] [List.map (AV.int .i64) (sortI xs)]) f [.sl (List.map (AV.int .i64) xs)] (.tup []) := by
 intro vs' H hnm
 simp only [nmAs,nmA,nmC,List.append_nil] at hnm
 simp only [Option.some.injEq,Prod.mk.injEq] at hnm
 obtain ⟨rfl,rfl,_⟩ := hnm
 have hlen : (sortI xs).length = xs.length := List.length_mergeSort _
 refine ⟨[(1000000,⟨1,true,List.map (AV.int .i64) (sortI xs)⟩)],by simp [zipW,hlen],?_⟩
 intro w ρ args hHp hsz hV
 have hsz1 : args.size = 1 := by simpa using hsz
 have ha0 : args[0]? = some args[0] := by simp
 have hv := hV 0 args[0] _ ha0 rfl
 have hb : HW [(1000000,(⟨1,true,List.map (AV.int .i64) xs⟩ : Blk))] 1000000 = some ⟨1,true,List.map (AV.int .i64) xs⟩ := rfl
 have hb' : HW [(1000000,(⟨1,true,List.map (AV.int .i64) (sortI xs)⟩ : Blk))] 1000000 = some ⟨1,true,List.map (AV.int .i64) (sortI xs)⟩ := rfl
 have only : ∀ {b0 : Blk} {l b},HW [(1000000,b0)] l = some b → l = 1000000 ∧ b = b0 := by
  intro b0 l b hl
  have := HW_mem hl
  simp only [List.mem_singleton,Prod.mk.injEq] at this
  exact this
 rcases lsl_inv hv with ⟨B,b,t,n,cap,g1,g2,g3,g0,g4,g5,g6,g7⟩ | ⟨b',_,g2,_,_,g0⟩
 ·rw [hb] at g2; cases g2
  obtain ⟨cs,t',k1,k2,k3,k4,k5⟩ := hHp.blk 1000000 _ B hb g1
  have hn : n = cs.size := by
   unfold World.shape? at g3; rw [k1] at g3
   simp only [Option.some.injEq,Prod.mk.injEq] at g3
   exact g3.2.symm
  have hlc : xs.length ≤ cs.size := by simpa using k2
  obtain ⟨hH,hwf⟩ := holds_of k1 hlc (k5 rfl)
  have hBlt : B < w.heap.size := (Array.getElem?_eq_some_iff.1 k1).1
  have hargs : args = #[.slice (some ⟨B,0,none⟩) xs.length cap] := by
   simp only [List.length_map,Nat.zero_mul] at g0
   rw [← g0]
   apply Array.ext_getElem?
   intro i
   cases i with
   | zero => rw [ha0]; rfl
   | succ i => rw [Array.getElem?_eq_none (by simp [hsz1])]; rfl
  refine .inr ⟨hcall args w,?_⟩
  rw [hargs]
  refine Calls.mono (hC B 0 cap xs w hH hBlt h1) ?_
  rintro e w' ⟨rfl,q,os,rfl⟩
  refine ⟨.tuple #[],rfl,.tup #[] [] rfl (fun i c d hc => by simp at hc),?_⟩
  have hhe := row_heap (n := q) (sortI xs).toArray os k1
  have hot : ∀ k,k < w.heap.size → k ≠ B → (grow (putRow (Value.int .i64) (Go.Sort.ahead w q) B 0 (sortI xs).toArray) os).heap[k]? = w.heap[k]? := fun k hk hne => row_other (n := q) _ os hk hne
  refine ⟨rfl,rfl,rfl,?_,fun k hk hne => hot k hk fun e => hne 1000000 rfl (by rw [g1,e]),fun k hk => ?_,⟨fun l b B' hl hB' => ?_,fun l b hl hB' => ?_,fun l l' B' q1 q2 _ _ => ?_⟩⟩
  ·show w.heap.size ≤ (grow (putRow (Value.int .i64) (Go.Sort.ahead w q) B 0 (sortI xs).toArray) os).heap.size
   rw [Go.Sort.size_grow,Go.Sort.size_putRow]
   show w.heap.size ≤ w.heap.size + os.size
   omega
  ·by_cases e : k = B
   ·subst e
    have : (grow (putRow (Value.int .i64) (Go.Sort.ahead w q) k 0 (sortI xs).toArray) os).shape? k = w.shape? k := by
     unfold World.shape?; rw [hhe,k1]; simp [putCells_size]
    exact this
   ·exact shape_heap (hot k hk e)
  ·obtain ⟨rfl,rfl⟩ := only hl
   rw [g1] at hB'; cases hB'
   have hval : ∀ (i : Nat) x (j : Nat) d v,(List.map (AV.int .i64) (sortI xs))[i]? = some x → x.cells[j]? = some d → (putCells (Value.int .i64) 0 (sortI xs).toArray cs)[i * 1 + j]? = some v → ∀ (u : World) (Z : Nat → Prop),V0 u Z v d := by
    intro i x j d v q1 q2 q3 u Z
    simp only [List.getElem?_map,Option.map_eq_some_iff] at q1
    obtain ⟨z,hz,rfl⟩ := q1
    cases j with
    | succ j => simp [AV.cells] at q2
    | zero =>
     simp [AV.cells] at q2; subst q2
     have hi := (List.getElem?_eq_some_iff.1 hz).1
     have := putCells_get (d := (sortI xs).toArray) (k := i) (by simpa using hi) (by simpa using q3)
     have hg : (sortI xs).toArray[i]! = z := by
      have := (List.getElem?_eq_some_iff.1 hz).2
      simp [hi,this]
     rw [this,hg]
     exact .int .i64 z (hwf z ((List.mem_mergeSort).1 (List.mem_of_getElem? hz)))
   refine ⟨_,t',hhe,?_,fun x hx => ?_,fun i x j d v q1 q2 q3 => .pure (hval i x j d v q1 q2 q3 _ _),fun _ i x j d v q1 q2 q3 => hval i x j d v q1 q2 q3 _ _⟩
   ·rw [putCells_size]; simpa [hlen] using hlc
   ·obtain ⟨z,_,rfl⟩ := List.mem_map.1 hx; rfl
  ·obtain ⟨rfl,rfl⟩ := only hl
   rw [g1] at hB'; cases hB'
  ·obtain ⟨b,hb1⟩ := Option.isSome_iff_exists.1 q1
   obtain ⟨b2,hb2⟩ := Option.isSome_iff_exists.1 q2
   rw [(only hb1).1,(only hb2).1]
 ·exfalso
  simp only [List.length_map] at g0
  omega

theorem uniq_says {f : FuncId} (hcall : ∀ (args : Array Value) (w : World),(callFunc f args).run P w = .ok (.enter f args) w)
  (hC : ∀ (blk off cap : Nat) (d : Array Int) (w : World),Holds (Value.int .i64) w blk off d → d.size ≤ 9223372036854775807 → d.size ≤ cap →
   Calls P f #[.slice (some ⟨blk,off,none⟩) d.size cap] w fun e w' => e = .returned (.slice (some ⟨blk,off,none⟩) (Lib.compactUpTo d d.size).length cap) ∧
    ∃ q,w' = putRow (Value.int .i64) (Go.Sort.ahead w q) blk off (Lib.compactUpTo d d.size ++ List.replicate (d.size - (Lib.compactUpTo d d.size).length) 0).toArray)
  {xs : List Int} (h0 : 0 < xs.length) {r : AV} : SaysX P (.tk 1 (List.map (AV.int .i64) (uniqI xs))) f [.sl (List.map (AV.int .i64) xs)] r := by
 intro xs' he
 simp only [List.cons.injEq,AV.sl.injEq,and_true] at he
 subst he
 refine ⟨fun e => by rw [List.map_eq_nil_iff] at e; subst e; simp at h0,?_⟩
 intro w B cap c t k1 hcap hcc hml _ hv
 rw [List.length_map] at hcap hml
 have hlc : xs.length ≤ c.size := by omega
 obtain ⟨hH,hwf⟩ := holds_of k1 hlc hv
 have hBlt : B < w.heap.size := (Array.getElem?_eq_some_iff.1 k1).1
 refine .inr ⟨hcall _ w,?_⟩
 have hcl := hC B 0 cap xs.toArray w hH (by simpa [maxLen] using hml) (by simpa using hcap)
 rw [List.size_toArray] at hcl
 rw [List.length_map]
 refine Calls.mono hcl ?_
 rintro e w' ⟨rfl,q,rfl⟩
 have hu : Lib.compactUpTo xs.toArray xs.length = uniqI xs := by unfold uniqI; rw [List.size_toArray]
 rw [hu]
 generalize hd : (uniqI xs ++ List.replicate (xs.length - (uniqI xs).length) (0 : Int)) = d
 have hhe := row_heap (n := q) d.toArray #[] k1
 rw [Go.Sort.grow_empty] at hhe
 refine ⟨_,rfl,by rw [List.length_map],by rw [List.length_map]; exact uniq_len xs,fun y hy => by obtain ⟨z,_,rfl⟩ := List.mem_map.1 hy; rfl,rfl,rfl,rfl,?_,fun k hk hne => ?_,_,hhe,putCells_size _ _,?_⟩
 ·rw [Go.Sort.size_putRow]; exact Nat.le_refl _
 ·have := row_other (n := q) d.toArray #[] hk hne
  rw [Go.Sort.grow_empty] at this
  exact this
 ·intro i x j d' v q1 q2 q3 u Z
  simp only [List.getElem?_map,Option.map_eq_some_iff] at q1
  obtain ⟨z,hz,rfl⟩ := q1
  cases j with
  | succ j => simp [AV.cells] at q2
  | zero =>
   simp [AV.cells] at q2; subst q2
   have hi := (List.getElem?_eq_some_iff.1 hz).1
   have hdi : d[i]? = some z := by rw [← hd,List.getElem?_append_left hi]; exact hz
   have hi2 := (List.getElem?_eq_some_iff.1 hdi).1
   have := putCells_get (d := d.toArray) (k := i) (by simpa using hi2) (by simpa using q3)
   have hg : d.toArray[i]! = z := by
    have := (List.getElem?_eq_some_iff.1 hdi).2
    simp [hi2,this]
   rw [this,hg]
   exact .int .i64 z (hwf z (mem_uniq (List.mem_of_getElem? hz)))
end
end Go.Ab

