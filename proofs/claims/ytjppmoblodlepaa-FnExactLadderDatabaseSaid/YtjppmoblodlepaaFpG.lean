/- How Go values lie in memory, and an evaluator of code with its soundness (part 7 of 7). Conditions: those that stand in each theorem; nothing is assumed of any program. -/
import Derived.Test.YtjppmoblodlepaaFpF
import Derived.Shelf.SlicesE.Clone
import Derived.Shelf.SlicesE.Delete
import Derived.Lib.SlicesCompact
import Derived.Sort.Grow
import Derived.Shelf.Spec.SlicesGrow
import Derived.Shelf.Sort.Plain
import Derived.Shelf.Slices.In.SortNone
import Derived.Shelf.Slices.CompactI
import Derived.Shelf.SlSortCmp.NoneTotal

set_option linter.unusedVariables false
set_option linter.unusedSimpArgs false
set_option linter.unnecessarySimpa false

namespace Go.FP
open Go.Proofs Go.Shelf Go.RowKit Go.Lib
variable {S : Nat -> Prop} {w : World} {t : Ty} {v : Value} {e : TypeId} {u : Value}
variable {P : Program} {ρ : Ren}
set_option maxHeartbeats 2000000 in
set_option maxRecDepth 100000 in
theorem Y6b {α : Type} [Inhabited α] (enc : α -> Value) (w : World) (g : Nat) (d : Array α) (b : Nat) (h : b ≠ g) : (Go.Sort.putRow enc w g 0 d).heap[b]? = w.heap[b]? := by
 unfold Go.Sort.putRow Go.Sort.mapBlock;simp only [Array.getElem?_modify];rw [X5 (fun e => h e.symm)]
theorem Y84 {α : Type} [Inhabited α] (enc : α -> Value) (w : World) (g : Nat) (d : Array α) {b : Array Value} {e : TypeId} {fr : Nat × Nat} (h : w.heap[g]? = some (.cells b e fr)) : (Go.Sort.putRow enc w g 0 d).heap[g]? = some (.cells (Go.Sort.putCells enc 0 d b) e fr) := by
 unfold Go.Sort.putRow Go.Sort.mapBlock;simp only [Array.getElem?_modify, X1j, h];rfl
variable {P : Program}
abbrev tInts (e : TypeId) : Ty := .slice e (.int .i64)
theorem Yb8 {m : Lvl} : ∀ {x : List Int} {xs : List Value} {bs : List Nat}, El (Rep S w (.int .i64) m) 1 xs x bs -> xs = x.map (Value.int .i64) /\ bs = []
 | [], _, _, h => ⟨h.1, h.2⟩
 | a :: x, xs, bs, ⟨c, xs', b, bs', e, l, eb, p, t⟩ => by
  obtain ⟨g, i⟩ := Yb8 t;obtain ⟨j, q⟩ := p;rw [e, j, g, eb, q, i];exact ⟨rfl, rfl⟩
theorem Ydr {x : List Int} {p : List Nat} (h : Rep (fun _ => False) w (tInts e) .dp [v] x p) :
  (v = .slice none 0 0 /\ x = [] /\ p = []) \/ ∃ g cap i, v = .slice (some ⟨g, 0, none⟩) x.length cap /\ p = [g] /\ g < w.heap.size /\ w.heap[g]? = some (.cells i e (0, 0)) /\ x.length <= cap /\ cap <= maxLen /\ i.size = cap /\ i.toList.take x.length = x.map (Value.int .i64) /\ Go.Sort.Holds (Value.int .i64) w g 0 x.toArray := by
 obtain ⟨u, xs, E, L, F, B, q, m⟩ := h;obtain rfl : v = u := by simpa using F
 obtain ⟨rfl, j⟩ : E = v.ownBlock.toList /\ w.ownsRow 0 e 1 v x.length xs := m;obtain ⟨rfl, rfl⟩ := Yb8 q;have b := j;obtain ⟨_, ⟨rfl, A⟩ | ⟨g, cap, i, rfl, _, G, I, z, l, D⟩⟩ := j
 ·exact .inl ⟨rfl, Xm.1 A, by simpa [Value.ownBlock] using B⟩
 ·rw [Nat.mul_one] at l D;refine .inr ⟨g, cap, i, rfl, by simpa [Value.ownBlock] using B, (Y1k b g rfl).2, G, I, z, l, D, fun k C => ⟨?_, b.frozenAt _⟩⟩;have y : k < x.length := by simpa using C
  rw [Xx, b.cellAt k om, getElem!_pos _ k C, X17, X1 y];simp
theorem Y5t {g : Array Obj} {b : Nat} (h : b < w.heap.size) : (Go.Sort.grow w g).heap[b]? = w.heap[b]? := by
 unfold Go.Sort.grow;simp only;rw [Array.getElem?_append_left h]
variable {P : Program}
section
variable {α : Type} {P : List Value -> α -> List Nat -> Prop} {n : Nat}
theorem El.parts : ∀ {l : List α} {xs : List Value} {bs : List Nat}, El P n xs l bs -> ∃ g : List (List Value × α × List Nat), l = g.map (·.2.1) /\ xs = (g.map (·.1)).flatten /\ bs = (g.map (·.2.2)).flatten /\ ∀ z ∈ g, z.1.length = n /\ P z.1 z.2.1 z.2.2
 | [], _, _, h => ⟨[], rfl, h.1, h.2, sm⟩
 | x :: r, xs, bs, ⟨c, xs', b, bs', e, l, eb, p, t⟩ => by
  obtain ⟨g, j, m, q, y⟩ := El.parts t;refine ⟨(c, x, b) :: g, by rw [j]; rfl, by rw [e, m]; rfl, by rw [eb, q]; rfl, fun z i => ?_⟩;rcases Xw.1 i with rfl | i
  ·exact ⟨l, p⟩
  ·exact y z i
theorem El.of : ∀ (b : List (List Value × α × List Nat)), (∀ z ∈ b, z.1.length = n /\ P z.1 z.2.1 z.2.2) -> El P n (b.map (·.1)).flatten (b.map (·.2.1)) (b.map (·.2.2)).flatten
 | [], _ => ⟨rfl, rfl⟩
 | z :: b, h => ⟨z.1, _, z.2.2, _, rfl, (h z sm).1, rfl, (h z sm).2, El.of b fun y g => h y (by simp [g])⟩
end
def Ec (b : List (List Value)) (i : Nat) : List Value := b.getD i (b.headD [])
def SortFSaid (P : Program) (f g : FuncId) (A : Bool) (k : Nat) : Prop :=
 (∀ (h : List (List Value)) (z : Nat -> Nat -> Int) (l cap : Nat) (w : World) (y : Array Value) (e : TypeId),
  (∀ c ∈ h, c.length = k /\ ∀ v ∈ c, v.oneCell' = true) -> h ≠ [] -> h.length < 4611686018427387904 -> Go.Sort.SWO (fun i j => decide (z i j < 0)) ->
  w.heap[l]? = some (.cells y e (0, 0)) -> h.length * k <= y.size -> y.toList.take (h.length * k) = h.flatten ->
  (∀ W : World, w.heap.size <= W.heap.size -> (∀ b, b < w.heap.size -> b ≠ l -> W.heap[b]? = w.heap[b]?) -> ∀ i j, Calls P g #[mkV A (Ec h i), mkV A (Ec h j)] W fun e w' => e = .returned (.int .i64 (z i j)) /\ ∃ q C, w' = Go.Sort.grow (W.drewN q) C) ->
  Calls P f #[.slice (some ⟨l, 0, none⟩) h.length cap, .func (.func g) #[] #[]] w fun B w' => B = .returned (.tuple #[]) /\
   ∃ (d : List Nat) (m : Array Value), d.Perm (List.range h.length) /\ d.Pairwise (fun i j => ¬ z j i < 0) /\ w'.heap[l]? = some (.cells m e (0, 0)) /\ m.size = y.size /\ m.toList.take (h.length * k) = (d.map (Ec h)).flatten /\
    w'.os = w.os /\ w'.tape = w.tape /\ w'.output = w.output /\ w.heap.size <= w'.heap.size /\ ∀ b, b < w.heap.size -> b ≠ l -> w'.heap[b]? = w.heap[b]?) /\
 ∀ (p : Option Addr) (cap : Nat) (w : World), Calls P f #[.slice p 0 cap, .func (.func g) #[] #[]] w fun e w' => e = .returned (.tuple #[]) /\ w' = w
def CmpSaid (P : Program) (g : FuncId) (t : Ty) (h : t.D -> t.D -> Int) : Prop :=
 ∀ (w : World) (i j : List Value) (a b : t.D) (l m : List Nat), Rep (fun _ => False) w t .dp i a l -> Rep (fun _ => False) w t .dp j b m ->
  Calls P g #[mkV t.isAgg i, mkV t.isAgg j] w fun e w' => e = .returned (.int .i64 (h a b)) /\ ∃ q p, w' = Go.Sort.grow (w.drewN q) p
theorem Ycu {α : Type} (b : List α) (g : α) {d : List Nat} (h : d.Perm (List.range b.length)) : (d.map fun i => b.getD i g).Perm b := by
 have e : (List.range b.length).map (fun i => b.getD i g) = b := by
  apply List.ext_getElem sm;intro i j l;simp at j;simp [j]
 have := h.map fun i => b.getD i g
 rwa [e] at this
theorem Ycc {f g : FuncId} (h : SortFSaid P f g t.isAgg t.sz) {y : t.D -> t.D -> Int} (hc : CmpSaid P g t y) (hO : Go.Sort.SWO (fun a b => decide (y a b < 0))) (hA : ∀ a b, ¬ y a b < 0 -> ¬ y b a < 0 -> a = b) {x : List t.D} (hx : x.length < 4611686018427387904) : FnSpecMut P f [] (.slice e t) x [.clo g []] (x.mergeSort fun a b => !decide (y b a < 0)) [] := by
 rintro S w ch vals b0 base hrep F hb0 V Z hS
 obtain ⟨v, xs, b1, b2, rfl, rfl, hel, rfl, M⟩ := hrep;obtain ⟨_, _, rfl, ⟨vs, rfl, hvs⟩, rfl⟩ := Z;obtain rfl : vs = [] := hvs;have U : ((mkV (Ty.slice e t).isAgg [v]) :: [Value.func (.func g) #[] ([] : List Value).toArray]).toArray = #[v, .func (.func g) #[] #[]] := rfl;rw [U];have E := M;obtain ⟨p, e1, e2, e3, hz⟩ := El.parts hel;have hn : x.length = p.length := by rw [e1]; simp
 have nil : p = [] -> ∀ (w' : World), w' = w -> ∃ chs bs N, Ending.returned (Value.tuple #[]) = .returned (resVal [] chs) /\ Below base w w' /\ (∀ b, b < w.heap.size -> b ∉ v.ownBlock.toList ++ b2 -> w'.heap[b]? = w.heap[b]?) /\ Rep (fun _ => False) w' (.slice e t) .dp [v] (x.mergeSort fun a b => !decide (y b a < 0)) N /\ N.Nodup /\ (∀ b ∈ N, b ∈ v.ownBlock.toList ++ b2 \/ w.heap.size <= b) /\ ResRel S w.heap.size w' bs [] [] chs bs := by
  rintro hz0 w' rfl
  have hx0 : x = [] := by rw [e1, hz0]; rfl
  subst hx0;exact ⟨[], [], _, rfl, X1i _ _, fun _ _ _ => rfl, ⟨v, xs, _, b2, rfl, rfl, by simpa using hel, rfl, by simpa using E⟩, F, fun b A => .inl A, rfl, rfl, rfl⟩
 obtain ⟨hxl, ⟨rfl, hn0⟩ | ⟨q, cap, cur, rfl, _, hh, I, hmx, hcs, htk⟩⟩ := M
 ·refine (h.2 none 0 w).mono ?_
  rintro e' w' ⟨rfl, hw⟩
  exact nil (Xm.1 om) w' hw
 by_cases G : p = []
 ·have h0 : x.length = 0 := by rw [hn, G]; rfl
  rw [h0];refine (h.2 (some ⟨q, 0, none⟩) cap w).mono ?_
  rintro e' w' ⟨rfl, hw⟩
  rw [h0] at nil;exact nil G w' hw
 obtain ⟨C, zr, hzs⟩ : ∃ C zr, p = C :: zr := by cases p with | nil => exact absurd rfl G | cons a b => exact ⟨a, b, rfl⟩
 have L : ∀ i, p.getD i C ∈ p := fun i => by
  by_cases hi : i < p.length
  ·rw [Xh, X1 hi]; exact X36 hi
  ·rw [Xh, X1q om, hzs]; simp
 have O : ∀ i, Ec (p.map (·.1)) i = (p.getD i C).1 := fun i => by
  unfold Ec;rw [show (p.map (·.1)).headD [] = C.1 by rw [hzs]; rfl];simp only [Xh, X17];cases p[i]? <;> rfl
 have hblk : q < w.heap.size := (Y1k E q rfl).2;have hbs : ((Value.slice (some ⟨q, 0, none⟩) x.length cap).ownBlock).toList = [q] := rfl;rw [hbs] at F nil ⊢;have hnb : ∀ z ∈ p, ∀ b ∈ z.2.2, b ≠ q := fun z m b A e => by
  subst e;have : b ∈ b2 := by rw [e3]; exact X32.2 ⟨_, List.mem_map_of_mem m, A⟩
  simp [this] at F
 have mv : ∀ W : World, (∀ b, b < w.heap.size -> b ≠ q -> W.heap[b]? = w.heap[b]?) -> ∀ z ∈ p, Rep (fun _ => False) W t .dp z.1 z.2.1 z.2.2 := fun W hW z m =>
  Rep.move (fun b A => A.elim) (fun b A => hW b (Rep.lt (hz z m).2 b A) (hnb z m b A)) (hz z m).2
 have D : (p.map (·.1)).length = x.length := by rw [X26, hn]
 have hS1 := h.1 (p.map (·.1)) (fun i j => y (p.getD i C).2.1 (p.getD j C).2.1) q cap w cur e
  (fun c hc' => by
   obtain ⟨z, m, rfl⟩ := X1a.1 hc';exact ⟨(hz z m).1, Rep.one (hz z m).2⟩)
  (by simpa using G) (by rw [D]; exact hx)
  ⟨fun i => hO.irrefl _, fun i j l => hO.trans _ _ _, fun i j l => hO.ntrans _ _ _⟩ hh
  (by rw [D, hcs]; exact Nat.mul_le_mul_right _ I) (by rw [D, htk, e2])
  (fun W hWs hW i j => by
   rw [O, O];exact hc W _ _ _ _ _ _ (mv W hW _ (L i)) (mv W hW _ (L j)))
 rw [D] at hS1;refine hS1.mono ?_
 rintro e' w' ⟨rfl, d, cur', hp, hso, hh', hsz', htk', ho, ht, hou, hgs, B⟩
 rw [hn] at hp;have Y := Ycu p C hp;have X : ∀ z ∈ d.map (fun i => p.getD i C), z ∈ p := fun z m => Y.mem_iff.1 m;have hy : (d.map fun i => p.getD i C).map (·.2.1) = x.mergeSort fun a b => !decide (y b a < 0) := by
  refine List.Perm.eq_of_pairwise (le := fun a b => (!decide (y b a < 0)) = true) ?_ ?_ ?_ ?_
  ·intro a b _ _ h1 h2;exact hA a b (by simpa using h2) (by simpa using h1)
  ·rw [List.map_map, List.pairwise_map];exact hso.imp fun hij => by simpa using hij
  ·refine List.pairwise_mergeSort ?_ ?_ _
   ·intro a b c h1 h2;simp only [X1b] at h1 h2 ⊢;exact hO.ntrans c b a h2 h1
   ·intro a b;cases h0 : decide (y b a < 0) with
    | false => simp
    | true => simp [hO.asymmA h0]
  ·refine List.Perm.trans ?_ (List.mergeSort_perm _ _).symm;rw [e1];exact Y.map _
 have hbl : ((d.map fun i => p.getD i C).map (·.2.2)).flatten.Perm b2 := by
  rw [e3];exact (Y.map _).flatten
 refine ⟨[], [], [q] ++ ((d.map fun i => p.getD i C).map (·.2.2)).flatten, rfl, ⟨ho, ht, hou, hgs, fun b A => B b (X19 A V) (fun e => ?_)⟩, fun b A hnb' => B b A (fun e => hnb' (by simp [e])), ?_, ?_, ?_, rfl, rfl, rfl⟩
 ·have := hb0 q (by simp [hbs]);omega
 ·rw [<- hy];have hE := El.of (P := Rep (fun _ => False) w' t .dp) (n := t.sz) (d.map fun i => p.getD i C) (fun z m => ⟨(hz z (X z m)).1, mv w' B z (X z m)⟩);refine ⟨_, _, [q], _, rfl, rfl, hE, rfl, ?_⟩;have hl2 : ((d.map fun i => p.getD i C).map (·.2.1)).length = x.length := by rw [hy, List.length_mergeSort]
  have hfl : (d.map (Ec (p.map (·.1)))).flatten = ((d.map fun i => p.getD i C).map (·.1)).flatten := by
   rw [List.map_map];congr 1;exact List.map_congr_left fun i _ => O i
  rw [hl2];have hle := El.len (El.of (P := Rep (fun _ => False) w t .dp) (n := t.sz) _ (fun z m => hz z (X z m)));rw [hl2] at hle;exact ⟨hle, .inr ⟨q, cap, cur', rfl, X2f _, hh', I, hmx, by rw [hsz', hcs], by rw [htk', hfl]⟩⟩
 ·refine (List.Perm.nodup_iff ?_).2 F;exact List.Perm.append_left _ hbl
 ·intro b A;refine .inl ?_;rcases X6.1 A with A | A
  ·exact X8 _ A
  ·exact Xe _ (hbl.mem_iff.1 A)
theorem Ycv {f g : FuncId} (h : SortFSaid P f g t.isAgg t.sz) {i : t.D -> t.D -> Int} (y : CmpSaid P g t i) (p : Go.Sort.SWO (fun a b => decide (i a b < 0))) (m : ∀ a b, ¬ i a b < 0 -> ¬ i b a < 0 -> a = b) {x q : List t.D} (j : (bif decide (x.length < 4611686018427387904) then some (x.mergeSort fun a b => !decide (i b a < 0)) else none) = some q) :
  FnOk P f ⟨[.val (.slice e t), .clo], [], true, false, none, none, none⟩ [.val (.slice e t) x, .clo g []] [⟨.slice e t, q⟩] := by
 by_cases l : x.length < 4611686018427387904
 ·rw [decide_eq_true l] at j;obtain rfl : (x.mergeSort fun a b => !decide (i b a < 0)) = q := Xj j;exact ⟨_, _, _, _, _, rfl, rfl, Ycc h y p m l⟩
 ·rw [decide_eq_false l] at j; cases j
def cmpI : List Int -> List Int -> Int
 | [], [] => 0
 | [], _ :: _ => -1
 | _ :: _, [] => 1
 | x :: xs, y :: ys => if x < y then -1 else if y < x then 1 else cmpI xs ys
def cmpF (a b : Int × List Int) : Int := if a.1 < b.1 then -1 else if b.1 < a.1 then 1 else cmpI a.2 b.2
theorem Y6c : ∀ xs, cmpI xs xs = 0
 | [] => rfl
 | x :: xs => by simp [cmpI, Y6c xs]
theorem Y8i : ∀ {xs ys : List Int}, ¬ cmpI xs ys < 0 -> ¬ cmpI ys xs < 0 -> xs = ys
 | [], [], _, _ => rfl
 | [], _ :: _, h, _ => by simp [cmpI] at h
 | _ :: _, [], _, h => by simp [cmpI] at h
 | x :: xs, y :: ys, h1, h2 => by
  simp only [cmpI] at h1 h2;split at h1
  ·simp at h1
  ·split at h1
   ·rw [X3 ‹_›] at h2; simp at h2
   ·obtain rfl : x = y :=om;simp only [Int.lt_irrefl, X12] at h2;rw [Y8i h1 h2]
theorem Y7o : ∀ {xs ys b : List Int}, cmpI xs ys < 0 -> cmpI ys b < 0 -> cmpI xs b < 0
 | [], _, [], h1, h2 => by rename_i ys; cases ys <;> simp [cmpI] at h1 h2
 | [], _, _ :: _, _, _ => by simp [cmpI]
 | _ :: _, [], _, h, _ => by simp [cmpI] at h
 | _ :: _, _ :: _, [], _, h => by simp [cmpI] at h
 | x :: xs, y :: ys, z :: b, h1, h2 => by
  have g := @Y7o xs ys b;simp only [cmpI] at h1 h2 ⊢;grind
theorem Y6d : ∀ {xs ys b : List Int}, ¬ cmpI xs ys < 0 -> ¬ cmpI ys b < 0 -> ¬ cmpI xs b < 0
 | [], [], _, _, h => h
 | [], _ :: _, _, h, _ => by simp [cmpI] at h
 | _ :: _, _, [], _, _ => by simp [cmpI]
 | _ :: _, [], _ :: _, _, h => by simp [cmpI] at h
 | x :: xs, y :: ys, z :: b, h1, h2 => by
  have g := @Y6d xs ys b;simp only [cmpI] at h1 h2 ⊢;grind
theorem Ycw {a b : Int × List Int} (i : ¬ cmpF a b < 0) (j : ¬ cmpF b a < 0) : a = b := by
 obtain ⟨l, g⟩ := a;obtain ⟨m, h⟩ := b;have := @Y8i g h;simp only [cmpF] at i j;grind
theorem Yds : Go.Sort.SWO (fun a b => decide (cmpF a b < 0)) := by
 refine ⟨fun x => by simp [cmpF, Y6c], fun x y z g h => ?_, fun x y z g h => ?_⟩
 ·have := @Y7o x.2 y.2 z.2;simp only [cmpF, X16] at *;grind
 ·have := @Y6d x.2 y.2 z.2;simp only [cmpF, X22] at *;grind
def RowAt (w : World) (A : Option Addr) (xs : List Int) : Prop := xs = [] \/ ∃ b o, A = some ⟨b, o, none⟩ /\ b < w.heap.size /\ ∀ j, j < xs.length -> w.cell? ⟨b, o + j, none⟩ = some (.int .i64 (xs.getD j 0))
def CmpRowsSaid (P : Program) (g : FuncId) : Prop := ∀ (b h : Option Addr) (i j : Nat) (xs ys : List Int) (w : World), RowAt w b xs -> RowAt w h ys -> xs.length <= maxLen -> ys.length <= maxLen ->
 Calls P g #[.slice b xs.length i, .slice h ys.length j] w fun e w' => e = .returned (.int .i64 (cmpI xs ys)) /\ w' = w
theorem Y46 {x : List Int} {l : List Nat} (h : Rep (fun _ => False) w (tInts e) .dp [u] x l) : ∃ A c, u = .slice A x.length c /\ RowAt w A x /\ x.length <= maxLen := by
 rcases Ydr h with ⟨rfl, rfl, _⟩ | ⟨g, cap, m, rfl, _, q, z, y, b, _, _, p⟩
 ·exact ⟨_, _, rfl, .inl rfl, X2f _⟩
 ·refine ⟨_, _, rfl, .inr ⟨g, 0, rfl, q, fun j i => ?_⟩, Nat.le_trans y b⟩;have := (p j (by simpa using i)).1;rw [this];simp [i]
theorem RowAt.grow {A : Option Addr} {x : List Int} (h : RowAt w A x) (g : Array Obj) : RowAt (Go.Sort.grow w g) A x := by
 rcases h with h | ⟨b, o, e, i, l⟩
 ·exact .inl h
 ·refine .inr ⟨b, o, e, ?_, fun j m => ?_⟩
  ·show b < (w.heap ++ g).size;rw [Array.size_append]; omega
  ·rw [Go.Sort.cell?_grow _ _ _ (by exact i)]; exact l j m
theorem Yae {g : FuncId} (h : CmpRowsSaid P g) : CmpSaid P g (tInts e) cmpI := by
 rintro w y z a b C D i j
 obtain ⟨u, rfl⟩ : ∃ u, y = [u] := let ⟨u, _, _, _, e1, _⟩ := i; ⟨u, e1⟩
 obtain ⟨v, rfl⟩ : ∃ v, z = [v] := let ⟨u, _, _, _, e1, _⟩ := j; ⟨u, e1⟩
 obtain ⟨l, p, rfl, r1, A⟩ := Y46 i;obtain ⟨m, q, rfl, B, l2⟩ := Y46 j;refine (h l m p q a b w r1 B A l2).mono ?_
 rintro E w' ⟨rfl, rfl⟩
 exact ⟨rfl, 0, #[], by rw [Go.Sort.grow_empty]; rfl⟩
theorem Y8v {g m : FuncId} {e id : TypeId} (h : CmpRowsSaid P m)
  (F : ∀ (p q : Int) (u v : Value) (r : Int) (w W : World), (w.alloc (.cells #[.int .i64 p, u] id)).alloc (.cells #[.int .i64 q, v] id) = W -> Calls P m #[u, v] W (fun e w' => e = .returned (.int .i64 r) /\ w' = W) ->
   Calls P g #[.agg #[.int .i64 p, u], .agg #[.int .i64 q, v]] w fun e w' => e = .returned (.int .i64 (if p < q then -1 else if q < p then 1 else r)) /\ w' = W) :
  CmpSaid P g (.pair (.int .i64) (tInts e)) cmpF := by
 rintro w V X a b N O ⟨U, E, L, M, rfl, rfl, ⟨rfl, rfl⟩, y⟩ ⟨D, i, B, C, rfl, rfl, ⟨rfl, rfl⟩, z⟩
 obtain ⟨u, rfl⟩ : ∃ u, E = [u] := let ⟨u, _, _, _, e1, _⟩ := y; ⟨u, e1⟩
 obtain ⟨v, rfl⟩ : ∃ v, i = [v] := let ⟨u, _, _, _, e1, _⟩ := z; ⟨u, e1⟩
 obtain ⟨j, A, rfl, r1, G⟩ := Y46 y;obtain ⟨l, k2, rfl, I, l2⟩ := Y46 z;refine (F a.1 b.1 _ _ _ w _ rfl (h j l A k2 a.2 b.2 _ ?_ ?_ G l2)).mono ?_
 ·rw [Go.Sort.alloc_eq_grow, Go.Sort.alloc_eq_grow]; exact (r1.grow _).grow _
 ·rw [Go.Sort.alloc_eq_grow, Go.Sort.alloc_eq_grow]; exact (I.grow _).grow _
 ·rintro Y w' ⟨rfl, rfl⟩
  refine ⟨rfl, 0, #[.cells #[.int .i64 a.1, .slice j (List.length a.2) A] id] ++ #[.cells #[.int .i64 b.1, .slice l (List.length b.2) k2] id], ?_⟩;rw [Go.Sort.alloc_eq_grow, Go.Sort.alloc_eq_grow, Go.Sort.grow_grow];rfl
variable {P : Program}
theorem Y6e {α : Type} (enc : α -> List Value) {k : Nat} (b : ∀ x, (enc x).length = k) (j : α) : ∀ (L : List α) (t : Nat), t < L.length * k -> ((L.map enc).flatten)[t]? = (enc (L.getD (t / k) j))[t % k]?
 | [], t, h => by simp at h
 | a :: L, t, h => by
  rw [X1r, X2r, List.getElem?_append];by_cases g : t < k
  ·rw [X3 (by rw [b]; exact g), Nat.div_eq_of_lt g, Nat.mod_eq_of_lt g]; rfl
  ·have q : 0 < k := by
    rcases Nat.eq_zero_or_pos k with i | i
    ·subst i; simp at h
    ·exact i
   have p : t - k < L.length * k := by
    rw [X1x, Nat.succ_mul] at h;omega
   have l : t / k = (t - k) / k + 1 := Nat.div_eq_sub_div q om;have m : t % k = (t - k) % k := Nat.mod_eq_sub_mod om;rw [X5 (by rw [b]; exact g), b, Y6e enc b j L (t - k) p, l, m];rfl
theorem Y6f {α : Type} (enc : α -> List Value) {k : Nat} (b : ∀ x, (enc x).length = k) : ∀ (L : List α), ((L.map enc).flatten).length = L.length * k
 | [] => sm
 | a :: L => by rw [X1r, X2r, Xr, b, Y6f enc b L, X1x, Nat.succ_mul]; omega
theorem Ycd (b F : Array Value) (h : F.size <= b.size) : (Go.Sort.putCells id 0 F b).size = b.size /\ (Go.Sort.putCells id 0 F b).toList.take F.size = F.toList := by
 unfold Go.Sort.putCells;refine ⟨sm, ?_⟩;apply X1u;intro k;simp only [X1f];by_cases g : k < F.size
 ·rw [X3 g, X1k, Array.getElem?_mapIdx, Xk (show k < b.size by omega), X1k, Xk g];simp [g]
 ·rw [X5 g, X1k, Array.getElem?_eq_none om]
theorem Ycx {g : List (List Value)} {k : Nat} (h : ∀ c ∈ g, c.length = k /\ ∀ v ∈ c, v.oneCell' = true) (j : g ≠ []) (i : Nat) : (Ec g i).length = k /\ ∀ v ∈ Ec g i, v.oneCell' = true := by
 unfold Ec;obtain ⟨l, cr, rfl⟩ : ∃ a b, g = a :: b := by cases g with | nil => exact absurd rfl j | cons a b => exact ⟨a, b, rfl⟩
 rw [Xh];by_cases m : i < (l :: cr).length
 ·rw [X1 m]; exact h _ (X36 m)
 ·rw [X1q om]; exact h l sm
theorem Yeb (b : List (List Value)) : (List.range b.length).map (Ec b) = b := by
 apply List.ext_getElem sm;intro i h g;simp [Ec, g]
theorem Y7p {α : Type} [Inhabited α] (enc : α -> List Value) {k : Nat} (b : ∀ x, (enc x).length = k) (d : Array α) : (Go.Sort.flatK enc k d).toList = (d.toList.map enc).flatten := by
 apply X1u;intro t;by_cases g : t < d.size * k
 ·have l : 0 < k := by
   rcases Nat.eq_zero_or_pos k with h | h
   ·subst h; simp at g
   ·exact h
  have i : t / k < d.size := by rw [Nat.div_lt_iff_lt_mul l]; exact g
  have j : t % k < k := Nat.mod_lt _ l;rw [Y6e enc b default d.toList t (by simpa using g), X1k];unfold Go.Sort.flatK;rw [Array.getElem?_map, Array.getElem?_range, X3 g, X27];have e : d.toList.getD (t / k) default = d[t / k]! := by
   rw [Xh, X1k, Xk i, getElem!_pos d _ i]; rfl
  rw [e, X1 (by rw [b]; exact j), getElem!_pos _ _ (by rw [b]; exact j)]
 ·have m : (Go.Sort.flatK enc k d).toList.length = d.size * k := by rw [Xy, Go.Sort.size_flatK]
  have p : ((d.toList.map enc).flatten).length = d.size * k := by rw [Y6f enc b, Xy]
  rw [X1q om, X1q om]
theorem Yaw {ρ : Ren} (L : SlLaysF0.n6 P ρ) (k : Nat) (aE : ∀ w, (isAgg (ρ.t 24)).run P w = .ok true w) (zE : ∀ w, (Go.sizeOf (ρ.t 24)).run P w = .ok k w) {g : FuncId} (eg : ∀ args w, (callFunc g args).run P w = .ok (.enter g args) w) : SortFSaid P (ρ.f 6) g true k := by
 refine ⟨fun l cf q cap w C e I V U hO W hsz htk M => ?_, fun p cap w => AnyF.slices_SortFunc_none L p cap _ w⟩;have hk : ∀ x, (Ec l x).length = k := fun x => (Ycx I V x).1;have E : q < w.heap.size := (Xv.1 W).1;have D : (Array.range l.length).size = l.length :=sm;have hF : (Go.Sort.flatK (Ec l) k (Array.range l.length)).toList = l.flatten := by
  rw [Y7p _ hk, Array.toList_range, Yeb]
 have H := AnyQ.slices_SortFunc L k aE zE (Ec l) hk (fun x => (Ycx I V x).2) cf hO g #[] q 0 cap (Array.range l.length) w eg
  (fun m X Y hdk x y => ?_) (fun j O => ?_) E (by rw [D]; exact U)
 ·rw [D] at H;refine H.mono ?_
  rintro e' w' ⟨rfl, A, n, X, ⟨G, _, hp⟩, hso, rfl⟩
  rw [D] at G;have ep : A.toList.Perm (List.range l.length) := by
   have h1 : A.extract 0 l.length = A := by rw [<- G]; exact Array.extract_size
   have h2 : (Array.range l.length).extract 0 l.length = Array.range l.length := by
    have := @Array.extract_size _ (Array.range l.length); rwa [D] at this
   rw [h1, h2, Array.toList_range] at hp;exact hp
  have N : (Go.Sort.flatK (Ec l) k A).size = l.length * k := by rw [Go.Sort.size_flatK, G]
  obtain ⟨p1, p2⟩ := Ycd C (Go.Sort.flatK (Ec l) k A) (by rw [N]; exact hsz);have z : (Go.Sort.putRowK (Ec l) k (Go.Sort.ahead w n) q 0 A).heap.size = w.heap.size := by unfold Go.Sort.putRowK; rw [Go.Sort.size_putRow]; rfl
  refine ⟨rfl, A.toList, Go.Sort.putCells id 0 (Go.Sort.flatK (Ec l) k A) C, ep, ?_, ?_, p1, ?_, rfl, rfl, rfl, ?_, ?_⟩
  ·rw [List.pairwise_iff_getElem];intro i j hi O hij;have hi' : i < A.size := by simpa using hi
   have F : j < A.size := by simpa using O
   have := hso i j (X2f _) hij om;rw [getElem!_pos A j F, getElem!_pos A i hi'] at this;simpa [ltOf] using this
  ·unfold Go.Proofs.sortWorldK;rw [Y5t (by rw [z]; exact E)];exact Y84 id (Go.Sort.ahead w n) q _ W
  ·rw [<- Y7p _ hk, <- p2, N]
  ·show w.heap.size <= ((Go.Sort.putRowK (Ec l) k (Go.Sort.ahead w n) q 0 A).heap ++ X).size;rw [Array.size_append, z]; omega
  ·intro b Z B;unfold Go.Proofs.sortWorldK;rw [Y5t (by rw [z]; exact Z)];exact Y6b id (Go.Sort.ahead w n) q _ b B
 ·have z : (Go.Sort.putRowK (Ec l) k (Go.Sort.ahead w m) q 0 Y).heap.size = w.heap.size := by unfold Go.Sort.putRowK; rw [Go.Sort.size_putRow]; rfl
  refine (M (Go.Proofs.sortWorldK (Ec l) k w q 0 m Y X) ?_ (fun b Z B => ?_) x y).mono fun _ _ h => h
  ·show w.heap.size <= ((Go.Sort.putRowK (Ec l) k (Go.Sort.ahead w m) q 0 Y).heap ++ X).size;rw [Array.size_append, z]; omega
  ·unfold Go.Proofs.sortWorldK;rw [Y5t (by rw [z]; exact Z)];exact Y6b id (Go.Sort.ahead w m) q _ b B
 ·have F : j < l.length * k := by simpa using O
  have hc : C[j]? = l.flatten[j]? := by
   rw [<- htk, X1f, X3 F, X1k]
  have hf : (Go.Sort.flatK (Ec l) k (Array.range l.length))[j]? = l.flatten[j]? := by rw [<- hF, X1k]
  have hg : (Go.Sort.flatK (Ec l) k (Array.range l.length))[j]? = some (Go.Sort.flatK (Ec l) k (Array.range l.length))[j]! := by rw [Xk O, getElem!_pos (Go.Sort.flatK (Ec l) k (Array.range l.length)) j O]
  refine ⟨?_, ?_⟩
  ·unfold World.cell?;simp only [W, Xx];show C[j]? = _;rw [hc, <- hf, hg]; rfl
  ·unfold World.frozen?;simp [W]
end Go.FP
