/- How Go values lie in memory, and an evaluator of code with its soundness (part 5 of 7). Conditions: those that stand in each theorem; nothing is assumed of any program. -/
import Derived.Test.YtonpdomdcgfpfaaGreatFpD

set_option linter.unusedVariables false
set_option linter.unusedSimpArgs false
set_option linter.unnecessarySimpa false

namespace Go.FP
open Go.RowKit
def ownB (bs : Nat -> Nat -> List Nat) (t : Ty) (d : Nat) : List Nat := (List.range' 0 t.sz).flatMap fun l => bs d (l + 1)
def outB (cs : Nat -> List Value) (bs : Nat -> Nat -> List Nat) (d l : Nat) : List Nat := (bs d l).filter fun b => decide (((cs d).getD (l - 1) undef).ownBlock = some b)
def resB1 (cs : Nat -> List Value) (bs : Nat -> Nat -> List Nat) (t : Ty) (fr : Lvl) (d : Nat) : List Nat := match fr with
 | .dp => ownB bs t d
 | .sh => ownB (outB cs bs) t d
 | _ => []
theorem Rep.outer {S S' : Nat -> Prop} {w : World} {e : TypeId} {t : Ty} {lv : Lvl} {u : Value} {x : List t.D} {B : List Nat} (h : Rep S w (.slice e t) lv [u] x B) (hlv : lv = .dp \/ lv = .sh) (hnd : B.Nodup) (h1 : ∀ b, S b -> S' b) (h2 : ∀ b ∈ B, b ∉ (B.filter fun b => decide (u.ownBlock = some b)) -> S' b) :
  Rep S' w (.slice e t) .sh [u] x (B.filter fun b => decide (u.ownBlock = some b)) := by
 obtain ⟨v, xs, b0, b1, e1, rfl, hel, hrow⟩ := h
 obtain rfl : u = v := by simpa using e1
 obtain ⟨rfl, hown⟩ : b0 = u.ownBlock.toList /\ w.ownsRow 0 e t.sz u x.length xs := by rcases hlv with rfl | rfl <;> exact hrow
 have hf : ((u.ownBlock.toList ++ b1).filter fun b => decide (u.ownBlock = some b)) = u.ownBlock.toList := by
  rw [List.filter_append]
  have k1 : (u.ownBlock.toList.filter fun b => decide (u.ownBlock = some b)) = u.ownBlock.toList := List.filter_eq_self.2 (fun b hb => decide_eq_true (Ya.1 hb))
  have k2 : (b1.filter fun b => decide (u.ownBlock = some b)) = [] := List.filter_eq_nil_iff.2 (fun b hb hd => (List.nodup_append.1 hnd).2.2 b (Ya.2 (of_decide_eq_true hd)) b hb rfl)
  rw [k1, k2, List.append_nil]
 rw [hf] at h2 ⊢
 refine ⟨u, xs, _, [], rfl, (List.append_nil _).symm, ?_, rfl, hown⟩
 refine El.bareW (bs := b1) (fun c x b hk hx => ?_) (fun k hk => hk) hel
 refine Rep.move (S := fun b' => S b' \/ b' ∈ b) (fun b' hb' _ => ⟨?_, rfl⟩) (by simp) (Rep.ro hx)
 rcases hb' with hb' | hb'
 ·exact h1 _ hb'
 ·refine h2 _ (List.mem_append_right _ (hk _ hb')) (fun hm => (List.nodup_append.1 hnd).2.2 _ hm _ (hk _ hb') rfl)
def resB (cs : Nat -> List Value) (bs : Nat -> Nat -> List Nat) : List (Ty × Lvl) -> List ResultVar -> List Nat
 | p :: ps, v :: vs => resB1 cs bs p.1 p.2 (resTmp v) ++ resB cs bs ps vs
 | _, _ => []
section
variable {P : Program} {c : Cx} {T : Tab}
theorem Y99 {bs : Nat -> Nat -> List Nat} {t : Ty} {d b : Nat} (h : b ∈ ownB bs t d) : ∃ l, b ∈ bs d (l + 1) := by
 simp only [ownB, List.mem_flatMap] at h
 obtain ⟨l, _, h⟩ := h
 exact ⟨l, h⟩
theorem Y7z {cs : Nat -> List Value} {bs : Nat -> Nat -> List Nat} {t : Ty} {fr : Lvl} {d b : Nat} (h : b ∈ resB1 cs bs t fr d) : ∃ l, b ∈ bs d (l + 1) := by
 cases fr with
 | dp => exact Y99 h
 | sh =>
  obtain ⟨l, hl⟩ := Y99 h
  exact ⟨l, (List.mem_filter.1 hl).1⟩
 | ro => simp [resB1] at h
 | pn _ => simp [resB1] at h
theorem Y20 {cs : Nat -> List Value} {bs : Nat -> Nat -> List Nat} : ∀ {rs : List (Ty × Lvl)} {vars : List ResultVar} {b : Nat}, b ∈ resB cs bs rs vars -> ∃ (i : Nat) (p : Ty × Lvl) (v : ResultVar) (l : Nat), rs[i]? = some p /\ vars[i]? = some v /\ b ∈ resB1 cs bs p.1 p.2 (resTmp v) /\ b ∈ bs (resTmp v) (l + 1)
 | [], vars, b, h => by simp [resB] at h
 | p :: ps, [], b, h => by simp [resB] at h
 | p :: ps, v :: vs, b, h => by
  simp only [resB, List.mem_append] at h
  rcases h with h | h
  ·obtain ⟨l, hl⟩ := Y7z h
   exact ⟨0, p, v, l, rfl, rfl, h, hl⟩
  ·obtain ⟨i, p', v', l, h1, h2, h3, h4⟩ := Y20 h
   exact ⟨i + 1, p', v', l, h1, h2, h3, h4⟩
theorem Y9a {env : Env} {tmps : Array Value} {vs : Nat -> Value} {w : World} {cs : Nat -> List Value} {bs : Nat -> Nat -> List Nat} (hr : Rel c (SS env noP tmps vs w cs bs)) {t : Ty} {fr : Lvl} {d : Nat} {k : Kind} {ls : List Leaf} {x : t.D} (hk : get env d = .con k ls)
  (hall : (ls.all fun l => l.m.settled && fr.asks l) = true) (has : asm t ls = some (x, [])) :
  ∀ S' : Nat -> Prop, (∀ b, RoS c (SS env noP tmps vs w cs bs) b -> S' b) -> (∀ l, ∀ b ∈ bs d (l + 1), b ∉ resB1 cs bs t fr d -> S' b) -> Rep S' w t fr.res (cs d) x (resB1 cs bs t fr d) := by
 have hd : d < env.length := Yx hk
 have hav := hr.av d
 have e1 : (SS env noP tmps vs w cs bs).env d = .con k ls := by show ovl env noP d = _; rw [Y7 hd, hk]
 rw [e1] at hav
 obtain ⟨_, g2, g3, g4⟩ := hav
 have hleaf : ∀ l lf u, ls[l]? = some lf -> (cs d)[l]? = some u -> ∃ lv, lf.m = .at_ lv /\ Rep (RoS c (SS env noP tmps vs w cs bs)) w lf.t lv [u] lf.x (bs d (l + 1)) /\ (match lf.t with | .slice _ _ => (match fr with | .dp => lv = .dp | .sh => lv = .dp \/ lv = .sh | _ => True) | _ => True) := by
  intro l lf u hl hu
  have h6 := g4 l lf u (by rw [Y1]; exact hl) hu
  have h7 := List.all_eq_true.1 hall lf (List.mem_of_getElem? hl)
  simp only [Bool.and_eq_true] at h7
  obtain ⟨h7, h8⟩ := h7
  obtain ⟨t', x', m⟩ := lf
  cases m with
  | at_ lv =>
   refine ⟨lv, rfl, h6.rep, ?_⟩
   cases t' with
   | slice e τ =>
    cases fr with
    | dp => simpa [Lvl.asks] using h8
    | sh => simpa [Lvl.asks] using h8
    | _ => trivial
   | _ => trivial
  | bor _ _ _ => simp [Mode.settled] at h7
  | dead => simp [Mode.settled] at h7
 intro S' h1 h2
 have hdp : fr = .dp -> Rep S' w t .dp (cs d) x (ownB bs t d) := by
  intro hfr
  subst hfr
  obtain ⟨c0, c1, k1, k2, k3, k4, _⟩ := Y2f (S := S') (w := w) (L := .dp) (F := fun l => bs d (l + 1)) t (k := 0) has g2 (fun l lf u hl hu => by
   obtain ⟨lv, h1, h2, h3⟩ := hleaf l lf u hl hu
   rw [Nat.zero_add]
   obtain ⟨us, e0, hna⟩ := Y3c t has
   rw [List.append_nil] at e0
   have hna := hna lf (by rw [<- e0]; exact List.mem_of_getElem? hl)
   obtain ⟨t', x', m⟩ := lf
   simp only at h1 h2 h3
   cases t' with
   | slice e τ => simp only at h3; subst h3; exact Rep.dpS h2
   | int _ => exact h2
   | bool => exact h2
   | str => exact h2
   | unit => simp [Ty.isAgg] at hna
   | pair _ _ => simp [Ty.isAgg] at hna)
  have : c1 = [] := List.length_eq_zero_iff.1 k3.symm
  subst this
  rw [List.append_nil] at k1
  have k1 : cs d = c0 := k1
  rw [k1]
  exact k4
 have hsh : fr = .sh -> Rep S' w t .sh (cs d) x (ownB (outB cs bs) t d) := by
  intro hfr
  subst hfr
  obtain ⟨c0, c1, k1, k2, k3, k4, _⟩ := Y2f (S := S') (w := w) (L := .sh) (F := fun l => outB cs bs d (l + 1)) t (k := 0) has g2 (fun l lf u hl hu => by
   obtain ⟨lv, _, hr2, h3⟩ := hleaf l lf u hl hu
   rw [Nat.zero_add]
   have hob : outB cs bs d (l + 1) = (bs d (l + 1)).filter fun b => decide (u.ownBlock = some b) := by
    unfold outB
    rw [Nat.add_sub_cancel, List.getD_eq_getElem?_getD, hu]; rfl
   obtain ⟨us, e0, hna⟩ := Y3c t has
   rw [List.append_nil] at e0
   have hna := hna lf (by rw [<- e0]; exact List.mem_of_getElem? hl)
   have hnb : ∀ b ∈ bs d (l + 1), b ∉ outB cs bs d (l + 1) -> S' b := by
    intro b hb hnb
    refine h2 l b hb (fun hm => ?_)
    simp only [resB1, ownB, List.mem_flatMap] at hm
    obtain ⟨l', _, hm⟩ := hm
    have := (hr.disj _ _ _ _ _ hb (List.mem_filter.1 hm).1).2
    obtain rfl : l = l' := by omega
    exact hnb hm
   rw [hob] at hnb ⊢
   obtain ⟨t', x', m⟩ := lf
   simp only at hr2 h3
   cases t' with
   | slice e τ => exact Rep.outer hr2 h3 (hr.nodup _ _) h1 hnb
   | int _ => obtain ⟨q1, q2⟩ := hr2; rw [q2]; exact ⟨q1, rfl⟩
   | bool => obtain ⟨q1, q2⟩ := hr2; rw [q2]; exact ⟨q1, rfl⟩
   | str => obtain ⟨q1, q2⟩ := hr2; rw [q2]; exact ⟨q1, rfl⟩
   | unit => simp [Ty.isAgg] at hna
   | pair _ _ => simp [Ty.isAgg] at hna)
  have : c1 = [] := List.length_eq_zero_iff.1 k3.symm
  subst this
  rw [List.append_nil] at k1
  have k1 : cs d = c0 := k1
  rw [k1]
  exact k4
 have hro : resB1 cs bs t fr d = [] -> fr.res = .ro -> Rep S' w t fr.res (cs d) x (resB1 cs bs t fr d) := by
  intro hnil hres
  rw [hres, hnil]
  rw [hnil] at h2
  obtain ⟨c0, c1, k1, k3, k4, _⟩ := Y3q (S := S') (w := w) t has g2 (fun l lf u hl hu => by
   obtain ⟨lv, _, h3, _⟩ := hleaf l lf u hl hu
   exact h3.roS (fun b hb _ => h1 b hb) (fun b hb => h2 l b hb (by simp)))
  have : c1 = [] := List.length_eq_zero_iff.1 k3.symm
  subst this
  rw [List.append_nil] at k1
  have k1 : cs d = c0 := k1
  rw [k1]
  exact k4
 cases fr with
 | dp => exact hdp rfl
 | sh => exact hsh rfl
 | ro => exact hro rfl rfl
 | pn _ => exact hro rfl rfl
def rvRun (tmps : Array Value) : ResultVar -> Sem Value := fun
  | ResultVar.tmp t => pure (tmps.getD t undef)
  | ResultVar.cell a t => do loadVar t (<- asAddr (tmps.getD a undef))
def RunsTo (P : Program) (tmps : Array Value) (w : World) (v : ResultVar) (u : Value) : Prop := Sem.run P (rvRun tmps v) w = Result.ok u w
theorem Ycw (hT : TabOk P T) {env : Env} {tmps : Array Value} {vs : Nat -> Value} {w : World} {cs : Nat -> List Value} {bs : Nat -> Nat -> List Nat} (hlen : env.length = tmps.size) (hr : Rel c (SS env noP tmps vs w cs bs)) {t : Ty} {fr : Lvl} {v : ResultVar} {x : t.D} (h : res1 T env t fr v = some x) :
  ∃ ch, RunsTo P tmps w v (mkV t.isAgg ch) /\ ∀ S' : Nat -> Prop, (∀ b, RoS c (SS env noP tmps vs w cs bs) b -> S' b) -> (∀ l, ∀ b ∈ bs (resTmp v) (l + 1), b ∉ resB1 cs bs t fr (resTmp v) -> S' b) -> Rep S' w t fr.res ch x (resB1 cs bs t fr (resTmp v)) := by
 cases v with
 | cell d tid =>
  simp only [res1] at h
  split at h
  ·rename_i htid
   split at h
   ·rename_i e ls hk
    split at h
    ·rename_i hall
     split at h
     ·rename_i y has
      simp only [Option.some.injEq] at h
      subst h
      have k2 := Y9a hr hk hall has
      refine ⟨cs d, ?_, k2⟩
      have hd : d < env.length := Yx hk
      have hav := hr.av d
      have e1 : (SS env noP tmps vs w cs bs).env d = .con (.box e) ls := by show ovl env noP d = _; rw [Y7 hd, hk]
      have e2 : (SS env noP tmps vs w cs bs).tm d = tmps.getD d undef := if_pos (hlen ▸ hd)
      rw [e1, e2] at hav
      obtain ⟨⟨B, g1, g2, _⟩, _⟩ := hav
      have hl := (k2 (fun _ => True) (fun _ _ => trivial) (fun _ _ _ _ => trivial)).len
      have hload := Y4k (P := P) (w := w) hT htid (x := ⟨B, 0, none⟩) hl (fun j u hu => by
       rw [Y1w]
       unfold World.cell?
       rw [show w.heap[B]? = _ from g2]
       simpa using hu)
      simp only [RunsTo, rvRun]
      rw [g1]
      simpa [Instr.loadAt, Instr.sureAddr, asAddr] using hload
     ·simp at h
    ·simp at h
   ·simp at h
  ·simp at h
 | tmp d =>
  simp only [res1] at h
  split at h
  ·rename_i k ls hk
   split at h
   ·rename_i hc
    simp only [Bool.and_eq_true, decide_eq_true_eq] at hc
    obtain ⟨hkind, hall⟩ := hc
    split at h
    ·rename_i y has
     simp only [Option.some.injEq] at h
     subst h
     have k2 := Y9a hr hk hall has
     refine ⟨cs d, ?_, k2⟩
     have hd : d < env.length := Yx hk
     have hav := hr.av d
     have e1 : (SS env noP tmps vs w cs bs).env d = .con k ls := by show ovl env noP d = _; rw [Y7 hd, hk]
     have e2 : (SS env noP tmps vs w cs bs).tm d = tmps.getD d undef := if_pos (hlen ▸ hd)
     rw [e1, e2] at hav
     obtain ⟨g1, _⟩ := hav
     have hval : tmps.getD d undef = mkV t.isAgg (cs d) := by
      subst hkind
      unfold Ty.kind at g1
      unfold mkV
      split at g1
      ·rename_i ha
       rw [ha]
       exact g1.1
      ·rename_i ha
       have ha : t.isAgg = false := by simpa using ha
       rw [ha]
       rw [show cs d = [tmps.getD d undef] from g1.1]
       rfl
     simp only [RunsTo, rvRun]
     rw [hval]
     simp
    ·simp at h
   ·simp at h
  ·simp at h
def RunsTos (P : Program) (tmps : Array Value) (w : World) : List ResultVar -> List Value -> Prop
 | [], us => us = []
 | v :: vs, us => ∃ u us', us = u :: us' /\ RunsTo P tmps w v u /\ RunsTos P tmps w vs us'
theorem Y4p (hT : TabOk P T) {S : Nat -> Prop} {env : Env} {tmps : Array Value} {vs : Nat -> Value} {w : World} {cs : Nat -> List Value} {bs : Nat -> Nat -> List Nat} (hlen : env.length = tmps.size) (hr : Rel c (SS env noP tmps vs w cs bs)) {base0 : Nat} (hS : ∀ b, (c.S0 b \/ c.mine b) -> (S b \/ base0 <= b)) {B : List Nat} (hB : ∀ b ∈ B, ∃ r l, b ∈ bs r l) :
  ∀ {rs : List (Ty × Lvl)} {vars : List ResultVar} {xs : List (Σ t : Ty, t.D)}, resN T env rs vars = some xs -> (∀ (i : Nat) (p : Ty × Lvl) (v : ResultVar), rs[i]? = some p -> vars[i]? = some v -> ∀ l, ∀ b ∈ bs (resTmp v) (l + 1), b ∉ resB1 cs bs p.1 p.2 (resTmp v) -> b ∉ B) ->
   ∃ chs, ResRel S base0 w B rs xs chs (resB cs bs rs vars) /\ RunsTos P tmps w vars (resVals rs chs)
 | [], [], xs, h, hne => by
  simp only [resN, Option.some.injEq] at h
  subst h
  exact ⟨[], ⟨rfl, rfl, rfl⟩, rfl⟩
 | [], v :: vars, xs, h, hne => by simp [resN] at h
 | p :: ps, [], xs, h, hne => by simp [resN] at h
 | (t, fr) :: ps, v :: vars, xs, h, hne => by
  simp only [resN] at h
  cases hx : res1 T env t fr v with
  | none => rw [hx] at h; simp at h
  | some x =>
   cases hxs : resN T env ps vars with
   | none => rw [hx, hxs] at h; simp at h
   | some xs' =>
    rw [hx, hxs] at h
    simp only [Option.some.injEq] at h
    subst h
    obtain ⟨ch, k2, k4⟩ := Ycw hT hlen hr hx
    obtain ⟨chs, m1, m2⟩ := Y4p hT hlen hr hS hB hxs (fun i p v h1 h2 => hne (i + 1) p v h1 h2)
    refine ⟨ch :: chs, ⟨x, xs', ch, chs, _, _, rfl, rfl, rfl, ?_, m1⟩, ⟨_, _, rfl, k2, m2⟩⟩
    refine k4 _ (fun b hb => ⟨hS b hb.2, fun hbB => ?_⟩) (fun l b hb hnb => ⟨hS b (.inr (hr.own _ _ _ hb).1), hne 0 _ _ rfl rfl l b hb hnb⟩)
    obtain ⟨r, l, h1⟩ := hB b hbB
    exact hb.1 r l h1
theorem Y40 {α : Type} : ∀ {l : List α}, l.Nodup -> ∀ {i j : Nat} {x : α}, l[i]? = some x -> l[j]? = some x -> i = j
 | [], _, i, j, x, hi, _ => by simp at hi
 | a :: l, h, 0, 0, x, _, _ => rfl
 | a :: l, h, 0, j + 1, x, hi, hj => by
  simp only [List.getElem?_cons_zero, Option.some.injEq] at hi
  subst hi
  exact absurd (List.mem_of_getElem? (by simpa using hj)) (List.nodup_cons.1 h).1
 | a :: l, h, i + 1, 0, x, hi, hj => by
  simp only [List.getElem?_cons_zero, Option.some.injEq] at hj
  subst hj
  exact absurd (List.mem_of_getElem? (by simpa using hi)) (List.nodup_cons.1 h).1
 | a :: l, h, i + 1, j + 1, x, hi, hj => by rw [Y40 (List.nodup_cons.1 h).2 hi hj]
theorem Y4q {s : St} (hr : Rel c s) : ∀ {rs : List (Ty × Lvl)} {vars : List ResultVar}, (vars.map resTmp).Nodup -> (resB s.cs s.bs rs vars).Nodup
 | [], vars, _ => by simp [resB]
 | p :: ps, [], _ => by simp [resB]
 | p :: ps, v :: vars, hn => by
  simp only [List.map_cons, List.nodup_cons] at hn
  simp only [resB]
  refine List.nodup_append.2 ⟨?_, Y4q hr hn.2, fun a ha b hb e => ?_⟩
  ·obtain ⟨t, fr⟩ := p
   cases fr with
   | dp => exact Y25 (fun l => hr.nodup _ _) (fun l l' b h1 h2 => by have := (hr.disj _ _ _ _ _ h1 h2).2; omega) _ _
   | sh => exact Y25 (F := fun l => outB s.cs s.bs (resTmp v) (l + 1)) (fun l => (hr.nodup _ _).filter _) (fun l l' b h1 h2 => by have := (hr.disj _ _ _ _ _ (List.mem_filter.1 h1).1 (List.mem_filter.1 h2).1).2; omega) _ _
   | ro => exact List.nodup_nil
   | pn _ => exact List.nodup_nil
  ·subst e
   obtain ⟨l, hl⟩ := Y7z ha
   obtain ⟨i, p', v', l', _, h2, _, h4⟩ := Y20 hb
   have := (hr.disj _ _ _ _ _ hl h4).1
   exact hn.1 (by rw [this]; exact List.mem_map.2 ⟨v', List.mem_of_getElem? h2, rfl⟩)
theorem Y9b {tmps : Array Value} {w : World} : ∀ {l : List ResultVar} {us : List Value}, RunsTos P tmps w l us -> Sem.run P (l.mapM (rvRun tmps)) w = Result.ok us w
 | [], us, h => by rw [show us = [] from h]; simp
 | v :: l, us, ⟨u, us', e, h1, h2⟩ => by
  have ih := Y9b h2
  unfold RunsTo at h1
  subst e
  simp only [List.mapM_cons, Sem.run_bind, Sem.run_pure, Result.andThen_ok, ih, h1]
def outVal : List Value -> Value
 | [v] => v
 | vs => .tuple vs.toArray
theorem Y4b {fn : Func} {tmps : Array Value} {w : World} {l : List Value} (h : RunsTos P tmps w fn.results.toList l) : Sem.run P (results fn tmps) w = Result.ok (outVal l) w := by
 have h1 := Y9b h
 unfold results
 rw [Array.mapM_eq_mapM_toList]
 simp only [Sem.run_bind, Sem.run_map]
 erw [h1]
 simp only [Result.andThen_ok]
 cases l with
 | nil => simp [outVal]
 | cons x l => cases l with
  | nil => simp [outVal]
  | cons y l => simp [outVal]
theorem Y4u {h : Nat} : ∀ {ls : List Leaf} {l : Leaf}, findPinL h ls = some l -> ∃ j : Nat, leafAt ls j = some l /\ l.m = .at_ (.pn h)
 | [], l, he => by simp [findPinL] at he
 | u :: ls, l, he => by
  simp only [findPinL] at he
  split at he
  ·rename_i hm
   obtain rfl := Option.some.inj he
   exact ⟨0, rfl, hm⟩
  ·obtain ⟨j, h1, h2⟩ := Y4u he
   exact ⟨j + 1, h1, h2⟩
theorem Y5e {h : Nat} : ∀ {env : Env} {l : Leaf}, findPin h env = some l -> ∃ (r j : Nat) (k : Kind) (ls : List Leaf), get env r = .con k ls /\ leafAt ls j = some l /\ l.m = .at_ (.pn h)
 | [], l, he => by simp [findPin] at he
 | v :: env, l, he => by
  have go : findPin h env = some l -> ∃ (r j : Nat) (k : Kind) (ls : List Leaf), get (v :: env) r = .con k ls /\ leafAt ls j = some l /\ l.m = .at_ (.pn h) := fun he => by
   obtain ⟨r, j, k, ls, h1, h2, h3⟩ := Y5e he
   exact ⟨r + 1, j, k, ls, h1, h2, h3⟩
  cases v with
  | con k ls =>
   simp only [findPin] at he
   split at he
   ·rename_i l' hl
    obtain rfl := Option.some.inj he
    obtain ⟨j, h1, h2⟩ := Y4u hl
    exact ⟨0, j, k, ls, rfl, h1, h2⟩
   ·exact go he
  | _ => exact go he
theorem Y4r {env : Env} {tmps : Array Value} {vs : Nat -> Value} {w w0 : World} {cs : Nat -> List Value} {bs : Nat -> Nat -> List Nat} (hr : Rel c (SS env noP tmps vs w cs bs)) : ∀ (t : Ty) {x y : t.D} {n : Nat} {ch : List Value} {b0 : List Nat}, Rep (fun _ => False) w0 t .dp ch x b0 -> (∀ l u, ch[l]? = some u -> c.pin (n + l) = u) -> pinVal env t (blank t x) n = some y ->
  ∃ b1, Rep (fun _ => False) w t .dp ch y b1 /\ b1.Nodup /\ ∀ b ∈ b1, ∃ (r j h : Nat) (k : Kind) (ls : List Leaf) (l : Leaf), b ∈ bs r (j + 1) /\ get env r = .con k ls /\ leafAt ls j = some l /\ l.m = .at_ (.pn h) /\ n <= h /\ h < n + t.sz
 | .int k, x, y, n, ch, b0, h, hp, hv => by
  simp only [pinVal, blank, Option.some.injEq] at hv
  subst hv
  exact ⟨[], ⟨h.1, rfl⟩, List.nodup_nil, by simp⟩
 | .bool, x, y, n, ch, b0, h, hp, hv => by
  simp only [pinVal, blank, Option.some.injEq] at hv
  subst hv
  exact ⟨[], ⟨h.1, rfl⟩, List.nodup_nil, by simp⟩
 | .str, x, y, n, ch, b0, h, hp, hv => by
  simp only [pinVal, blank, Option.some.injEq] at hv
  subst hv
  exact ⟨[], ⟨h.1, rfl⟩, List.nodup_nil, by simp⟩
 | .unit, x, y, n, ch, b0, h, hp, hv => by
  exact ⟨[], ⟨h.1, rfl⟩, List.nodup_nil, by simp⟩
 | .slice e t, x, y, n, ch, b0, h, hp, hv => by
  obtain ⟨v, xs, _, _, rfl, _⟩ := h
  simp only [pinVal, blank] at hv
  split at hv
  ·rename_i l hl
   obtain ⟨r, j, k, ls, h1, h2, h3⟩ := Y5e hl
   have hle := Leaf.as_eq hv
   have hrl := Yx h1
   have hav := hr.av r
   rw [show (SS env noP tmps vs w cs bs).env r = .con k ls by show ovl env noP r = _; rw [Y7 hrl, h1]] at hav
   obtain ⟨_, g2, _, g4⟩ := hav
   have g2 : ls.length = (cs r).length := g2
   have hj : j < ls.length := by rw [Y1] at h2; exact (List.getElem?_eq_some_iff.1 h2).1
   have hu : (cs r)[j]? = some ((cs r)[j]'(by omega)) := List.getElem?_eq_getElem (by omega)
   have h6 := g4 j l _ h2 hu
   rw [hle, h3] at h6
   have hpin : _ = c.pin n := h6.pin
   have hv0 := hp 0 v rfl
   rw [Nat.add_zero] at hv0
   rw [hv0] at hpin
   have hrep := Rep.pn.1 h6.rep
   rw [hpin] at hrep
   exact ⟨_, Rep.dpS hrep, hr.nodup r (j + 1), fun b hb => ⟨r, j, n, k, ls, l, hb, h1, h2, h3, Nat.le_refl _, by simp [Ty.sz]⟩⟩
  ·simp at hv
 | .pair a b, x, y, n, ch, b0, h, hp, hv => by
  obtain ⟨c1, c2, e1, e2, rfl, rfl, h1, h2⟩ := h
  have hsz : c1.length = a.sz := Rep.len h1
  simp only [pinVal, blank] at hv
  split at hv
  ·rename_i y1 y2 p1 p2
   obtain rfl := Option.some.inj hv
   obtain ⟨d1, q1, q2, q3⟩ := Y4r hr a h1 (fun l u hu => hp l u (by rw [List.getElem?_append_left (List.getElem?_eq_some_iff.1 hu).1]; exact hu)) p1
   obtain ⟨d2, r1, r2, r3⟩ := Y4r hr b (n := n + a.sz) h2 (fun l u hu => by
    rw [Nat.add_assoc]
    refine hp (a.sz + l) u ?_
    rw [List.getElem?_append_right (by omega), hsz, Nat.add_sub_cancel_left]
    exact hu) p2
   refine ⟨d1 ++ d2, ⟨c1, c2, d1, d2, rfl, rfl, q1, r1⟩, List.nodup_append.2 ⟨q2, r2, fun b1 hb1 b2 hb2 e => ?_⟩, fun b hb => ?_⟩
   ·subst e
    obtain ⟨r, j, h, k, ls, l, m1, m2, m3, m4, m5, m6⟩ := q3 b1 hb1
    obtain ⟨r', j', h', k', ls', l', n1, n2, n3, n4, n5, n6⟩ := r3 b1 hb2
    obtain ⟨rfl, hj⟩ := hr.disj _ _ _ _ _ m1 n1
    obtain rfl : j = j' := by omega
    rw [m2] at n2
    simp only [AV.con.injEq] at n2
    obtain ⟨rfl, rfl⟩ := n2
    rw [m3] at n3
    obtain rfl := Option.some.inj n3
    rw [m4] at n4
    simp only [Mode.at_.injEq, Lvl.pn.injEq] at n4
    omega
   ·rcases List.mem_append.1 hb with hb | hb
    ·obtain ⟨r, j, h, k, ls, l, m1, m2, m3, m4, m5, m6⟩ := q3 b hb
     exact ⟨r, j, h, k, ls, l, m1, m2, m3, m4, m5, by simp only [Ty.sz]; omega⟩
    ·obtain ⟨r, j, h, k, ls, l, m1, m2, m3, m4, m5, m6⟩ := r3 b hb
     exact ⟨r, j, h, k, ls, l, m1, m2, m3, m4, by omega, by simp only [Ty.sz]; omega⟩
  ·simp at hv
theorem Y4f {S S' : Nat -> Prop} {base base' : Nat} {w : World} {B B' : List Nat} : ∀ {rs : List (Ty × Lvl)} {xs : List (Σ t : Ty, t.D)} {chs : List (List Value)} {bs : List Nat}, allFlat rs = true -> ResRel S base w B rs xs chs bs -> ResRel S' base' w B' rs xs chs []
 | [], xs, chs, bs, _, h => ⟨h.1, h.2.1, rfl⟩
 | (t, fr) :: rs, xs, chs, bs, ha, ⟨x, xs', ch, chs', b, b', e1, e2, e3, h1, h2⟩ => by
  simp only [allFlat, Bool.and_eq_true] at ha
  exact ⟨x, xs', ch, chs', [], [], e1, e2, rfl, (Rep.flat ha.1 h1).2, Y4f ha.2 h2⟩
theorem Ydd {R : Type} {KR : List (Σ t : Ty, t.D) -> Option R} {rr : R} {sig : FuncId -> Option Sig} {caps : FuncId -> List Ty} {orc : Orc} (hT : TabOk P T) (hO : OrcOk P sig orc) (hm : P.follows .mixedOrders = true) {dr : Array Oper -> Env -> (Env -> Option R) -> Option R} (hdraw : DrawHyp (R := R) T sig caps orc dr) {fuel : Nat} {ann : Nat -> Option (List Nat)} {f : FuncId} {fn : Func} {code : Code} (hf : P.funcs[f]? = some fn) (hb : fn.body = some code) {sg : Sig} {args : List RV} {res : List (Σ t : Ty, t.D)}
  (hmu : sg.muts = false) (hU : ∀ xs, KR xs = some rr -> xs = res) (h : evFn T sig caps orc dr fuel ann sg fn code args KR = some rr) : FnSpec P f sg.results args res := by
 intro S w vals hargs
 unfold evFn at h
 split at h
 ·rename_i as has
  unfold entryAVs at has
  rw [hmu] at has
  simp only at has
  split at h
  ·rename_i hc
   obtain ⟨hle, hnd, _⟩ := hc
   have hen := Ydn hargs has hle
   refine calls_of_wp hf hb ?_
   refine Y3u hT hO hm hdraw (c := cx0 S w) (N := fn.ntmps) (D := []) (K := endK T sg fn (keepArgs sg args) KR) code hen (by simp; omega) rfl (fun e env' a' w' hK hr' hl' hd' => ?_) h
   have fin : (match resN T (endPull sg fn env') sg.results fn.results.toList with | some xs => (match mutRes sg (keepArgs sg args) env' xs with | some ys => KR ys | none => none) | none => none) = some rr -> (a'.defers = [] /\ ∃ v, (results fn a'.tmps).run P w' = .ok v w' /\ (fun (e : Ending) (w' : World) => ∃ chs bs, e = .returned (resVal sg.results chs) /\ Below w.heap.size w w' /\ ResRel S w.heap.size w' bs sg.results res chs bs /\ bs.Nodup /\ ∀ b ∈ bs, w.heap.size <= b) (.returned v) w') := by
    intro hK
    have hres : resN T (endPull sg fn env') sg.results fn.results.toList = some res := by
     cases hx : resN T (endPull sg fn env') sg.results fn.results.toList with
     | none => rw [hx] at hK; simp at hK
     | some xs =>
      rw [hx] at hK
      have : mutRes sg (keepArgs sg args) env' xs = some xs := by unfold mutRes; rw [hmu]
      simp only [this] at hK
      rw [hU xs hK]
    obtain ⟨vs, hR⟩ := hr'
    have hR2 : RP (cx0 S w) (endPull sg fn env') a'.tmps w' noP vs := by
     unfold endPull
     rw [hmu]
     exact hR.pullRes (fun _ => .inl rfl) sg.results fn.results.toList
    obtain ⟨hlen, cs, bs, hrel, hno⟩ := hR2
    let B := resB cs bs sg.results fn.results.toList
    have hB : ∀ b ∈ B, ∃ r l, b ∈ bs r l := fun b hb => by
     obtain ⟨i, p, v, l, _, _, _, h4⟩ := Y20 hb
     exact ⟨_, _, h4⟩
    obtain ⟨chs, m1, m2⟩ := Y4p hT (S := S) (base0 := w.heap.size) hlen hrel (fun b hb => hb.imp id (·.1)) hB hres (fun i p v h1 h2 l b hb hnb hbB => by
     obtain ⟨i', p', v', l', k1, k2, k3, k4⟩ := Y20 hbB
     have hdd := (hrel.disj _ _ _ _ _ hb k4).1
     have : i = i' := Y40 hnd (x := resTmp v) (by rw [List.getElem?_map, h2]; rfl) (by rw [List.getElem?_map, k2, hdd]; rfl)
     subst this
     rw [h1] at k1
     simp only [Option.some.injEq] at k1
     subst k1
     rw [h2] at k2
     obtain rfl := Option.some.inj k2
     exact hnb k3)
    refine ⟨hd', _, Y4b m2, chs, B, rfl, hrel.below, m1, Y4q hrel hnd, fun b hb => ?_⟩
    ·obtain ⟨r, l, h1⟩ := hB b hb
     exact (hrel.own _ _ _ h1).1.1
   cases e with
   | ret => exact fin hK
   | normal => exact fin hK
   | _ => simp [endK] at hK
  ·simp at h
 ·simp at h
theorem Ycx {R : Type} {KR : List (Σ t : Ty, t.D) -> Option R} {rr : R} {sig : FuncId -> Option Sig} {caps : FuncId -> List Ty} {orc : Orc} (hT : TabOk P T) (hO : OrcOk P sig orc) (hm : P.follows .mixedOrders = true) {dr : Array Oper -> Env -> (Env -> Option R) -> Option R} (hdraw : DrawHyp (R := R) T sig caps orc dr) {fuel : Nat} {ann : Nat -> Option (List Nat)} {f : FuncId} {fn : Func} {code : Code} (hf : P.funcs[f]? = some fn) (hb : fn.body = some code) {sg : Sig} {t : Ty} {x y : t.D} {rest : List RV} {ys : List (Σ t : Ty, t.D)}
  (hmu : sg.muts = true) (hU : ∀ xs, KR xs = some rr -> xs = ⟨t, y⟩ :: ys) (h : evFn T sig caps orc dr fuel ann sg fn code (.val t x :: rest) KR = some rr) : FnSpecMut P f sg.results t x rest y ys := by
 intro S w ch vals b0 base hrep hnd0 hb0 hbase hargs hS
 unfold evFn at h
 split at h
 ·rename_i as has
  unfold entryAVs at has
  rw [hmu] at has
  simp only [paramMut] at has
  split at has
  ·rename_i v vs0 hv0 hvs0
   obtain rfl := Option.some.inj has
   obtain rfl := Option.some.inj hv0
   split at h
   ·rename_i hc
    obtain ⟨hle, hnd, hfl⟩ := hc
    have hfl := hfl hmu
    have hen := Ydl hrep hnd0 hb0 hbase hargs hS hvs0 (n := fn.ntmps) (by simpa using hle)
    refine calls_of_wp hf hb ?_
    refine Y3u hT hO hm hdraw (c := cxM S base w ch b0) (N := fn.ntmps) (D := []) (K := endK T sg fn (keepArgs sg (.val t x :: rest)) KR) code hen (by simp at hle ⊢; omega) rfl (fun e env' a' w' hK hr' hl' hd' => ?_) (by simpa using h)
    have fin : (match resN T (endPull sg fn env') sg.results fn.results.toList with | some xs => (match mutRes sg (keepArgs sg (.val t x :: rest)) env' xs with | some ys => KR ys | none => none) | none => none) = some rr -> (a'.defers = [] /\ ∃ v, (results fn a'.tmps).run P w' = .ok v w' /\ (fun (e : Ending) (w' : World) => ∃ chs bs b1, e = .returned (resVal sg.results chs) /\ Below base w w' /\ (∀ b, b < w.heap.size -> b ∉ b0 -> w'.heap[b]? = w.heap[b]?) /\ Rep (fun _ => False) w' t .dp ch y b1 /\ b1.Nodup /\ (∀ b ∈ b1, b ∈ b0 \/ w.heap.size <= b) /\ ResRel S w.heap.size w' bs sg.results ys chs bs) (.returned v) w') := by
     intro hK
     have hep : endPull sg fn env' = env' := by unfold endPull; rw [hmu]
     rw [hep] at hK
     cases hx : resN T env' sg.results fn.results.toList with
     | none => rw [hx] at hK; simp at hK
     | some xs =>
      rw [hx] at hK
      simp only [mutRes, keepArgs, hmu] at hK
      cases hp : pinVal env' t (blank t x) 0 with
      | none => rw [hp] at hK; simp at hK
      | some y' =>
       rw [hp] at hK
       simp only at hK
       have := hU _ hK
       simp only [List.cons.injEq, Sigma.mk.injEq, heq_eq_eq, true_and] at this
       obtain ⟨rfl, rfl⟩ := this
       obtain ⟨vs, hlen, cs, bs, hrel, hno⟩ := hr'
       let B := resB cs bs sg.results fn.results.toList
       have hB : ∀ b ∈ B, ∃ r l, b ∈ bs r l := fun b hb => by
        obtain ⟨i, p, v, l, _, _, _, h4⟩ := Y20 hb
        exact ⟨_, _, h4⟩
       obtain ⟨chs, m1, m2⟩ := Y4p hT (S := fun _ => True) (base0 := 0) hlen hrel (fun b hb => .inl trivial) hB hx (fun i p v h1 h2 l b hb hnb hbB => by
        obtain ⟨i', p', v', l', k1, k2, k3, k4⟩ := Y20 hbB
        have hdd := (hrel.disj _ _ _ _ _ hb k4).1
        have : i = i' := Y40 hnd (x := resTmp v) (by rw [List.getElem?_map, h2]; rfl) (by rw [List.getElem?_map, k2, hdd]; rfl)
        subst this
        rw [h1] at k1
        simp only [Option.some.injEq] at k1
        subst k1
        rw [h2] at k2
        obtain rfl := Option.some.inj k2
        exact hnb k3)
       obtain ⟨b1, n1, n2, n3⟩ := Y4r hrel t (w0 := w) hrep (fun l u hu => by
        show ch.getD (0 + l) undef = u
        rw [Nat.zero_add, List.getD_eq_getElem?_getD, hu]
        rfl) hp
       refine ⟨hd', _, Y4b m2, chs, [], b1, rfl, hrel.below, fun b hb hb2 => ((hrel.froz b ⟨hb, hb2⟩).2.2), n1, n2, fun b hb => ?_, Y4f hfl m1⟩
       obtain ⟨r, j, _, _, _, _, hbm, _⟩ := n3 b hb
       by_cases hb2 : b ∈ b0
       ·exact .inl hb2
       ·refine .inr (Nat.le_of_not_lt fun hlt => ?_)
        exact (hrel.froz b ⟨hlt, hb2⟩).2.1 _ _ hbm
    cases e with
    | ret => exact fin hK
    | normal => exact fin hK
    | _ => simp [endK] at hK
   ·simp at h
  ·simp at has
 ·simp at h
end
end Go.FP

namespace Go.FP
open Go.RowKit
def BoxSig.fix (b : BoxSig) : List Bool := b.lv.map Slot.isFx
theorem Yc0 : ∀ (lv : List Slot) (l : Nat), nthB (lv.map Slot.isFx) l = true -> (slotAt lv l).isFx = true /\ l < lv.length
 | [], l, h => by simp [nthB] at h
 | s :: lv, 0, h => ⟨by simpa [nthB, slotAt] using h, by simp⟩
 | s :: lv, l + 1, h => by
  obtain ⟨h1, h2⟩ := Yc0 lv l (by simpa [nthB] using h)
  exact ⟨by simpa [slotAt] using h1, by simp only [List.length_cons]; omega⟩
theorem Yc1 : ∀ (lv : List Slot) (l : Nat), (slotAt lv l).isFx = true -> nthB (lv.map Slot.isFx) l = true
 | [], l, h => by simp [slotAt, Slot.isFx] at h
 | s :: lv, 0, h => by simpa [nthB, slotAt] using h
 | s :: lv, l + 1, h => by simpa [nthB, slotAt] using Yc1 lv l (by simpa [slotAt] using h)
def paramBox (b : BoxSig) : RV -> Option AV
 | .ptr t x => some (.con (.box ⟨b.id, true, b.fix⟩) (leaves t x b.md 0))
 | _ => none
def RCap.cap (k : Nat) : RCap -> Cap
 | .ro x => .ro x
 | .pin => .path k 0
 | .self => .self
def paramAVX (b : BoxSig) : RV -> Option AV
 | .fptr f caps => some (.fptr f (caps.map (RCap.cap b.k)))
 | v => paramAV v
def paramAVsY (b : BoxSig) : List RV -> Option (List AV)
 | [] => some []
 | v :: r => match paramAVX b v, paramAVsY b r with
  | some a, some as => some (a :: as)
  | _, _ => none
def paramAVsX (b : BoxSig) : Nat -> List RV -> Option (List AV)
 | _, [] => none
 | 0, v :: r => match paramBox b v, paramAVsY b r with
  | some a, some as => some (a :: as)
  | _, _ => none
 | k + 1, v :: r => match paramAVX b v, paramAVsX b k r with
  | some a, some as => some (a :: as)
  | _, _ => none
def boxEnd (b : BoxSig) : Nat -> List Leaf -> Bool
 | _, [] => true
 | n, l :: ls => (l.m.settled && (match l.t with
  | .slice _ _ => (match slotAt b.lv n with
   | .dp => l.m == .at_ .dp
   | .sh => l.m == .at_ .sh
   | _ => true)
  | _ => true)) && boxEnd b (n + 1) ls
def boxVal (env : Env) (b : BoxSig) (t : Ty) : Option t.D := match get env b.k with
 | .con (.box e) ls => if (e.id = b.id /\ e.pin = true /\ e.fix = b.fix) /\ boxEnd b 0 ls = true then match asm t ls with
   | some (y, []) => some y
   | _ => none
  else none
 | _ => none
section
variable {R : Type} (T : Tab) (sig : FuncId -> Option Sig) (caps : FuncId -> List Ty) (orc : Orc)
def endB (sg : Sig) (b : BoxSig) (fn : Func) (t : Ty) (K : List (Σ t : Ty, t.D) -> Option R) : Exit -> Env -> Option R := fun e env =>
 match e with
 | .ret | .normal => match resN T env sg.results fn.results.toList with
  | some xs => match boxVal env b t with
   | some y => K (⟨t, y⟩ :: xs)
   | none => none
  | none => none
 | _ => none
def evFnB (dr : Array Oper -> Env -> (Env -> Option R) -> Option R) (fuel : Nat) (ann : Nat -> Option (List Nat)) (sg : Sig) (b : BoxSig) (fn : Func) (c : Code) (args : List RV) (K : List (Σ t : Ty, t.D) -> Option R) : Option R :=
 match paramAVsX b b.k args, nthL args b.k with
 | some as, some (.ptr t x) => if (as.length <= fn.ntmps /\ (b.k :: fn.results.toList.map resTmp).Nodup) /\ b.lv.length <= t.sz then evCode T sig caps orc dr fuel ann 0 c (as ++ List.replicate (fn.ntmps - as.length) .skip) (endB T sg b fn t K) else none
 | _, _ => none
end
def cxB (S : Nat -> Prop) (base : Nat) (w : World) (B : Nat) (ch : List Value) (bds : List (List Nat)) : Cx :=
 ⟨S, base, w, fun _ => default, fun k => k < w.heap.size /\ k ∉ B :: bds.flatten, .pointer (some ⟨B, 0, none⟩), fun l => ch.getD l default⟩
def ArgOkX (k : Nat) (pb : Value) (S : Nat -> Prop) (w : World) (c : Cx) (av : AV) (v : Value) (cells : List Value) : Prop :=
 ∀ (s : St) (r : Nat), s.w = w -> (∀ b, S b -> RoS c s b) -> (∀ l, s.bs r l = []) -> s.cs r = cells -> PtrRel s k 0 pb -> AVRel c s r av v /\ av.refs = [] /\ ∀ q ∈ av.ptrs, q = k
theorem Y9c {S : Nat -> Prop} {w : World} {c : Cx} {k : Nat} {pb v : Value} {s : St} (hw : s.w = w) (hS : ∀ b, S b -> RoS c s b) (hp : PtrRel s k 0 pb) : ∀ {rcs : List RCap} {us : List Value}, RCapRels S w pb v rcs us -> CapRels c s v (rcs.map (RCap.cap k)) us
 | [], us, h => h
 | rc :: rcs, us, ⟨u, us', e, h1, h2⟩ => by
  refine ⟨u, us', e, ?_, Y9c hw hS hp h2⟩
  cases rc with
  | ro x => exact PtrV.move (fun b hb _ => ⟨hS b hb, by rw [hw]⟩) h1
  | pin => rw [show u = pb from h1]; exact hp
  | self => exact h1
theorem Y65 {k : Nat} : ∀ {rcs : List RCap} {q : Nat}, q ∈ capRoots (rcs.map (RCap.cap k)) -> q = k
 | [], q, h => by simp [capRoots] at h
 | rc :: rcs, q, h => by
  simp only [List.map_cons, capRoots, List.mem_append] at h
  rcases h with h | h
  ·cases rc <;> simp [RCap.cap, Cap.roots] at h
   exact h
  ·exact Y65 h
theorem Y80 {S : Nat -> Prop} {w : World} {c : Cx} {b : BoxSig} {pb : Value} {rv : RV} {v : Value} {av : AV} (h : RVRelX S w pb rv v) (hp : paramAVX b rv = some av) : ∃ cells, ArgOkX b.k pb S w c av v cells := by
 by_cases hf : ∃ f caps, rv = .fptr f caps
 ·obtain ⟨f, caps, rfl⟩ := hf
  simp only [paramAVX, Option.some.injEq] at hp
  subst hp
  obtain ⟨B, us, rfl, h2, h3, h4, h5⟩ := h
  refine ⟨[], fun s r hw hS hb hc hpr => ⟨⟨hb, us, B, rfl, hS _ h2, by rw [hw]; exact h3, by rw [hw]; exact h4, Y9c hw hS hpr h5⟩, rfl, fun q hq => Y65 hq⟩⟩
 ·have h' : RVRel S w rv v /\ paramAV rv = some av := by
   cases rv with
   | fptr f caps => exact absurd ⟨f, caps, rfl⟩ hf
   | _ => exact ⟨h, hp⟩
  obtain ⟨cells, h1⟩ := Y98 (c := c) h'.1 h'.2
  exact ⟨cells, fun s r hw hS hb hc _ => ⟨(h1 s r hw hS hb hc).1, (h1 s r hw hS hb hc).2.1, by rw [(h1 s r hw hS hb hc).2.2]; simp⟩⟩
theorem Y74 {S : Nat -> Prop} {w : World} {c : Cx} {b : BoxSig} {pb : Value} : ∀ {args : List RV} {vals : List Value} {as : List AV}, RVRelsY S w pb args vals -> paramAVsY b args = some as -> vals.length = as.length /\ ∃ cs : Nat -> List Value, ∀ r, r < as.length -> ArgOkX b.k pb S w c (get as r) (vals.getD r undef) (cs r)
 | [], vals, as, h, hp => by
  simp only [paramAVsY, Option.some.injEq] at hp
  subst hp
  exact ⟨by rw [show vals = [] from h]; rfl, fun _ => [], fun r hr => by simp at hr⟩
 | rv :: args, vals, as, ⟨v, vals', e, h1, h2⟩, hp => by
  simp only [paramAVsY] at hp
  cases ha : paramAVX b rv with
  | none => rw [ha] at hp; simp at hp
  | some av =>
   cases has : paramAVsY b args with
   | none => rw [ha, has] at hp; simp at hp
   | some as' =>
    rw [ha, has] at hp
    simp only [Option.some.injEq] at hp
    subst hp; subst e
    obtain ⟨k1, cs, k2⟩ := Y74 (c := c) h2 has
    obtain ⟨cells, k3⟩ := Y80 (c := c) h1 ha
    refine ⟨by simp [k1], fun r => match r with | 0 => cells | r + 1 => cs r, fun r hr => ?_⟩
    cases r with
    | zero => exact k3
    | succ r => exact k2 r (by simpa using hr)
theorem Y75 {S : Nat -> Prop} {w : World} {c : Cx} {b : BoxSig} {pb : Value} : ∀ {k : Nat} {args : List RV} {vals : List Value} {as : List AV}, RVRelsX S w pb k args vals -> paramAVsX b k args = some as -> vals.length = as.length /\ k < as.length /\ (∃ t x, nthL args k = some (.ptr t x) /\ get as k = .con (.box ⟨b.id, true, b.fix⟩) (leaves t x b.md 0)) /\ ∃ cs : Nat -> List Value, ∀ r, r < as.length -> r ≠ k -> ArgOkX b.k pb S w c (get as r) (vals.getD r undef) (cs r)
 | k, [], vals, as, h, hp => by cases k <;> simp [paramAVsX] at hp
 | 0, rv :: args, vals, as, ⟨v, vals', e, h2⟩, hp => by
  simp only [paramAVsX] at hp
  cases ha : paramBox b rv with
  | none => rw [ha] at hp; simp at hp
  | some av =>
   cases has : paramAVsY b args with
   | none => rw [ha, has] at hp; simp at hp
   | some as' =>
    rw [ha, has] at hp
    simp only [Option.some.injEq] at hp
    subst hp; subst e
    obtain ⟨k1, cs, k2⟩ := Y74 (c := c) h2 has
    refine ⟨by simp [k1], by simp, ?_, fun r => match r with | 0 => [] | r + 1 => cs r, fun r hr hne => ?_⟩
    ·cases rv with
     | ptr t x =>
      simp only [paramBox, Option.some.injEq] at ha
      subst ha
      exact ⟨t, x, rfl, rfl⟩
     | val _ _ => simp [paramBox] at ha
     | clo _ _ => simp [paramBox] at ha
     | fptr _ _ => simp [paramBox] at ha
    ·cases r with
     | zero => exact absurd rfl hne
     | succ r => exact k2 r (by simpa using hr)
 | k + 1, rv :: args, vals, as, ⟨v, vals', e, h1, h2⟩, hp => by
  simp only [paramAVsX] at hp
  cases ha : paramAVX b rv with
  | none => rw [ha] at hp; simp at hp
  | some av =>
   cases has : paramAVsX b k args with
   | none => rw [ha, has] at hp; simp at hp
   | some as' =>
    rw [ha, has] at hp
    simp only [Option.some.injEq] at hp
    subst hp; subst e
    obtain ⟨k1, k3, k4, cs, k2⟩ := Y75 (c := c) h2 has
    obtain ⟨cells, k5⟩ := Y80 (c := c) h1 ha
    refine ⟨by simp [k1], by simpa using k3, by simpa [nthL, get] using k4, fun r => match r with | 0 => cells | r + 1 => cs r, fun r hr hne => ?_⟩
    cases r with
    | zero => exact k5
    | succ r => exact k2 r (by simpa using hr) (fun e => hne (by rw [e]))
end Go.FP

namespace Go.FP
open Go.RowKit
theorem Ydm {S : Nat -> Prop} {w : World} {b : BoxSig} {t : Ty} {x : t.D} {B : Nat} {ch : List Value} {bds : List (List Nat)} {base : Nat} {args : List RV} {vals : List Value} {as : List AV} (hvk : vals[b.k]? = some (.pointer (some ⟨B, 0, none⟩))) (hBh : w.heap[B]? = some (.cells ch.toArray b.id (0, 0)))
  (hL : LvsRel S w (fun _ => True) (leaves t x b.md 0) ch bds) (hnd : (B :: bds.flatten).Nodup) (hb : ∀ k ∈ B :: bds.flatten, base <= k) (hbase : base <= w.heap.size) (h : RVRelsX S w (.pointer (some ⟨B, 0, none⟩)) b.k args vals) (hS : ∀ k, S k -> k ∉ B :: bds.flatten) (hp : paramAVsX b b.k args = some as) (ht : nthL args b.k = some (.ptr t x)) (hlv : b.lv.length <= t.sz) {n : Nat} (hn : as.length <= n) :
  RE (cxB S base w B ch bds) (as ++ List.replicate (n - as.length) .skip) (vals.toArray ++ Array.replicate (n - vals.toArray.size) undef) w := by
 obtain ⟨k1, k3, ⟨t', x', q1, q2⟩, cs0, k2⟩ := Y75 (c := cxB S base w B ch bds) h hp
 rw [ht] at q1
 simp only [Option.some.injEq, RV.ptr.injEq] at q1
 obtain ⟨rfl, q1⟩ := q1
 have q1 : x = x' := eq_of_heq q1
 subst q1
 obtain ⟨l1, l2, l3⟩ := hL
 obtain ⟨hBn, hnd2⟩ := List.nodup_cons.1 hnd
 obtain ⟨d1, d2⟩ := Y15 hnd2
 have hsz : vals.toArray.size = as.length := by simpa using k1
 let env : Env := as ++ List.replicate (n - as.length) .skip
 let tmps : Array Value := vals.toArray ++ Array.replicate (n - vals.toArray.size) undef
 have hel : env.length = n := by simp [env]; omega
 have htl : tmps.size = n := by simp [tmps]; omega
 let cs : Nat -> List Value := fun r => if r = b.k then ch else cs0 r
 let bs : Nat -> Nat -> List Nat := fun r l => if r = b.k then (match l with | 0 => [B] | l + 1 => bds.getD l []) else []
 let s : St := SS env noP tmps noV w cs bs
 have hbs : ∀ r l k, k ∈ bs r l -> r = b.k /\ k ∈ B :: bds.flatten /\ (k ∈ (match l with | 0 => [B] | l + 1 => bds.getD l [])) := fun r l k hk => by
  simp only [bs] at hk
  split at hk
  ·rename_i hr
   refine ⟨hr, ?_, hk⟩
   cases l with
   | zero => exact List.mem_cons.2 (.inl (by simpa using hk))
   | succ l => exact List.mem_cons_of_mem _ (Yo hk)
  ·simp at hk
 have hbsk : ∀ l, bs b.k l = (match l with | 0 => [B] | l + 1 => bds.getD l []) := fun l => if_pos rfl
 have hbso : ∀ r, r ≠ b.k -> ∀ l, bs r l = [] := fun r hr l => if_neg hr
 have hRoS : ∀ k, S k -> RoS (cxB S base w B ch bds) s k := fun k hk => ⟨fun r l hm => hS k hk (hbs r l k hm).2.1, .inl hk⟩
 have hget : ∀ r, r < as.length -> ovl env noP r = get as r /\ ovlT tmps noV r = vals.getD r undef := fun r hr => by
  refine ⟨by rw [Y7 (by omega)]; exact Y29 _ _ _ hr, ?_⟩
  show (if r < tmps.size then tmps.getD r undef else _) = _
  rw [if_pos (by omega)]
  have : r < vals.length := by omega
  simp [tmps, this, Array.getD_eq_getD_getElem?, Array.getElem?_append, List.getD_eq_getElem?_getD]
 have hpk : PtrRel s b.k 0 (.pointer (some ⟨B, 0, none⟩)) := by
  refine ⟨_, _, B, (hget b.k k3).1.trans q2, (hget b.k k3).2.trans ?_, rfl⟩
  rw [List.getD_eq_getElem?_getD, hvk]; rfl
 have hleaf : ∀ (l : Nat) (lf : Leaf) (u : Value), (leaves t x b.md 0)[l]? = some lf -> ch[l]? = some u -> ∃ m, lf.m = .at_ m /\ (∀ h, m ≠ .pn h) /\ Rep S w lf.t m [u] lf.x (bds.getD l []) := by
  intro l lf u hl hu
  obtain ⟨m, hm, hrep⟩ := l3 l lf u trivial hl hu
  refine ⟨m, hm, fun h' e => ?_, hrep⟩
  subst e
  rcases Y1z b.md t x 0 l lf hl with ⟨_, h2⟩ | ⟨_, h2⟩
  ·rw [hm] at h2; cases h2
  ·rw [hm] at h2; unfold BoxSig.md at h2; cases hq : slotAt b.lv (0 + l) <;> rw [hq] at h2 <;> cases h2
 have hav : ∀ r, AVRel (cxB S base w B ch bds) s r (ovl env noP r) (ovlT tmps noV r) /\ (ovl env noP r).refs = [] /\ ∀ q ∈ (ovl env noP r).ptrs, q = b.k := fun r => by
  by_cases h1 : r < as.length
  ·rw [(hget r h1).1, (hget r h1).2]
   by_cases hr : r = b.k
   ·subst hr
    rw [q2]
    have hv : vals.getD b.k undef = .pointer (some ⟨B, 0, none⟩) := by rw [List.getD_eq_getElem?_getD, hvk]; rfl
    rw [hv]
    have ecs : s.cs b.k = ch := if_pos rfl
    have hset : ∀ lf ∈ leaves t x b.md 0, lf.m.settled = true := by
     intro lf hlf
     obtain ⟨l, hl⟩ := List.getElem?_of_mem hlf
     have hlt : l < ch.length := by rw [<- l1]; exact (List.getElem?_eq_some_iff.1 hl).1
     obtain ⟨m, hm, _⟩ := l3 l lf ch[l] trivial hl (List.getElem?_eq_getElem hlt)
     rw [hm]; rfl
    have hr0 := Yg (k := .box ⟨b.id, true, b.fix⟩) hset
    refine ⟨⟨⟨B, rfl, by rw [ecs]; exact hBh, hbsk 0, fun _ => rfl, fun l hl => ?_⟩, by rw [ecs]; exact l1, fun l hl => ?_, fun l lf u hl hu => ?_⟩, hr0.1, by rw [hr0.2]; simp⟩
    ·rw [ecs]
     obtain ⟨_, h2⟩ := Yc0 b.lv l hl
     have hlt : l < ch.length := by
      rw [<- l1]
      have := congrArg List.length (Yk t x b.md 0)
      rw [List.length_map, Y1h] at this
      omega
     show ch[l]? = some (ch.getD l default)
     rw [List.getD_eq_getElem?_getD, List.getElem?_eq_getElem hlt]; rfl
    ·show bs b.k (l + 1) = []
     refine (hbsk (l + 1)).trans ?_
     show bds.getD l [] = []
     rw [List.getD_eq_getElem?_getD, List.getElem?_eq_none (by omega)]; rfl
    ·rw [Y1] at hl
     rw [ecs] at hu
     obtain ⟨m, e1, e2, e3⟩ := hleaf l lf u hl hu
     obtain ⟨t1, x1, m1⟩ := lf
     simp only at e1 e3
     subst e1
     refine LeafRel.of_rep (by cases m <;> first | trivial | exact absurd rfl (e2 _)) ?_
     have h9 : bs b.k (l + 1) = bds.getD l [] := hbsk (l + 1)
     have h8 : Rep (RoS (cxB S base w B ch bds) s) w t1 m [u] x1 (bds.getD l []) := Rep.move (fun k hk _ => ⟨hRoS k hk, rfl⟩) (fun _ _ => rfl) e3
     rw [<- h9] at h8
     exact h8
   ·exact k2 r h1 hr s r rfl hRoS (fun l => hbso r hr l) (if_neg hr) hpk
  ·by_cases h2 : r < n
   ·have e1 : ovl env noP r = .skip := by
     rw [Y7 (by omega)]
     show get (as ++ _) r = _
     rw [Y2a _ _ _ (by omega), Y5u _ _ _ (by omega)]
    have e2 : ovlT tmps noV r = undef := by
     show (if r < tmps.size then tmps.getD r undef else _) = _
     rw [if_pos (by omega)]
     simp only [tmps, Array.getD_eq_getD_getElem?]
     rw [Array.getElem?_append_right (by omega), Array.getElem?_replicate]
     split <;> rfl
    rw [e1, e2]
    exact ⟨⟨rfl, fun l => hbso r (by omega) l⟩, rfl, by simp [AV.ptrs]⟩
   ·have e1 : ovl env noP r = .undef := by rw [Yf (by omega)]; rfl
    rw [e1]
    exact ⟨fun l => hbso r (by omega) l, rfl, by simp [AV.ptrs]⟩
 have hlt : ∀ k ∈ B :: bds.flatten, k < w.heap.size := by
  intro k hk
  rcases List.mem_cons.1 hk with rfl | hk
  ·exact (Array.getElem?_eq_some_iff.1 hBh).1
  ·obtain ⟨bl, hbl, hkb⟩ := List.mem_flatten.1 hk
   obtain ⟨l, hl⟩ := List.getElem?_of_mem hbl
   have hll : l < bds.length := (List.getElem?_eq_some_iff.1 hl).1
   obtain ⟨m, _, hrep⟩ := l3 l _ _ trivial (List.getElem?_eq_getElem (show l < (leaves t x b.md 0).length by omega)) (List.getElem?_eq_getElem (show l < ch.length by omega))
   refine Rep.lt hrep k ?_
   rw [List.getD_eq_getElem?_getD, hl]; exact hkb
 refine ⟨noV, by rw [hel, htl], cs, bs, ⟨Below.refl _ _, hbase, fun r l k hk => ?_, fun r l r' l' k hk hk' => ?_, fun r l => ?_, fun r => (hav r).1, fun k hk => ⟨hk.1, fun r l hm => hk.2 (hbs r l k hm).2.1, rfl⟩⟩, fun r => ?_⟩
 ·obtain ⟨_, h2, _⟩ := hbs r l k hk
  exact ⟨⟨hb k h2, fun hf => hf.2 h2⟩, hlt k h2⟩
 ·obtain ⟨rfl, _, h1⟩ := hbs r l k hk
  obtain ⟨rfl, _, h2⟩ := hbs r' l' k hk'
  refine ⟨rfl, ?_⟩
  cases l with
  | zero => cases l' with
   | zero => rfl
   | succ l' =>
    obtain rfl : k = B := by simpa using h1
    exact absurd (Yo h2) hBn
  | succ l => cases l' with
   | zero =>
    obtain rfl : k = B := by simpa using h2
    exact absurd (Yo h1) hBn
   | succ l' => rw [d2 l l' k h1 h2]
 ·by_cases hr : r = b.k
  ·subst hr
   show (bs b.k l).Nodup
   cases l with
   | zero => exact (hbsk 0).symm ▸ (by simp : ([B] : List Nat).Nodup)
   | succ l => exact (hbsk (l + 1)).symm ▸ d1 l
  ·exact Eq.mpr (congrArg List.Nodup (hbso r hr l)) List.nodup_nil
 ·rw [(hav r).2.1]
  exact ⟨by simp, fun q hq => by rw [(hav r).2.2 q hq]; show b.k < env.length; omega⟩
end Go.FP

namespace Go.FP
open Go.RowKit
theorem Y81 {b : BoxSig} : ∀ {ls : List Leaf} {n l : Nat} {lf : Leaf}, boxEnd b n ls = true -> ls[l]? = some lf -> lf.m.settled = true /\ (∀ e τ, lf.t = .slice e τ -> (slotAt b.lv (n + l) = .dp -> lf.m = .at_ .dp) /\ (slotAt b.lv (n + l) = .sh -> lf.m = .at_ .sh))
 | [], n, l, lf, _, hl => by simp at hl
 | a :: ls, n, 0, lf, h, hl => by
  obtain rfl : a = lf := by simpa using hl
  simp only [boxEnd, Bool.and_eq_true] at h
  refine ⟨h.1.1, fun e τ ht => ?_⟩
  have := h.1.2
  rw [ht] at this
  rw [Nat.add_zero]
  cases hs : slotAt b.lv n <;> rw [hs] at this <;> simp_all
 | a :: ls, n, l + 1, lf, h, hl => by
  simp only [boxEnd, Bool.and_eq_true] at h
  have := Y81 (n := n + 1) (l := l) h.2 (by simpa using hl)
  rwa [show n + 1 + l = n + (l + 1) by omega] at this
section
variable {P : Program} {T : Tab}
theorem Ycy {R : Type} {KR : List (Σ t : Ty, t.D) -> Option R} {rr : R} {sig : FuncId -> Option Sig} {caps : FuncId -> List Ty} {orc : Orc} (hT : TabOk P T) (hO : OrcOk P sig orc) (hm : P.follows .mixedOrders = true) {dr : Array Oper -> Env -> (Env -> Option R) -> Option R} (hdraw : DrawHyp (R := R) T sig caps orc dr) {fuel : Nat} {ann : Nat -> Option (List Nat)} {f : FuncId} {fn : Func} {code : Code} (hf : P.funcs[f]? = some fn) (hb : fn.body = some code) {sg : Sig} {b : BoxSig} {t : Ty} {x y : t.D} {args : List RV} {ys : List (Σ t : Ty, t.D)}
  (ht : nthL args b.k = some (.ptr t x)) (hU : ∀ xs, KR xs = some rr -> xs = ⟨t, y⟩ :: ys) (h : evFnB T sig caps orc dr fuel ann sg b fn code args KR = some rr) : FnSpecBox P f sg.results b t x args y ys := by
 intro S w vals B ch bds base hvk hBh hL hnd hbb hbase hargs hS
 unfold evFnB at h
 split at h
 ·rename_i as t' x' hp ht'
  rw [ht] at ht'
  simp only [Option.some.injEq, RV.ptr.injEq] at ht'
  obtain ⟨rfl, _⟩ := ht'
  split at h
  ·rename_i hc
   obtain ⟨⟨hle, hndr⟩, hlv⟩ := hc
   have hen := Ydm hvk hBh hL hnd hbb hbase hargs hS hp ht hlv (n := fn.ntmps) hle
   refine calls_of_wp hf hb ?_
   refine Y3u hT hO hm hdraw (c := cxB S base w B ch bds) (N := fn.ntmps) (D := []) (K := endB T sg b fn t KR) code hen (by simp; omega) rfl (fun e env' a' w' hK hr' hl' hd' => ?_) h
   have fin : (match resN T env' sg.results fn.results.toList with | some xs => (match boxVal env' b t with | some y => KR (⟨t, y⟩ :: xs) | none => none) | none => none) = some rr -> (a'.defers = [] /\ ∃ v, (results fn a'.tmps).run P w' = .ok v w' /\ (fun (e : Ending) (w' : World) => ∃ ch' bds' chs bs, e = .returned (resVal sg.results chs) /\ Below base w w' /\ (∀ k, k < w.heap.size -> k ∉ B :: bds.flatten -> w'.heap[k]? = w.heap[k]?) /\ w'.heap[B]? = some (.cells ch'.toArray b.id (0, 0)) /\ ch'.length = ch.length /\ (∀ l, (slotAt b.lv l).isFx = true -> ch'[l]? = ch[l]?) /\
     LvsRel (fun k => (S k \/ k ∈ bds.flatten \/ w.heap.size <= k) /\ k ∉ B :: (bds'.flatten ++ bs)) w' b.free (leaves t y b.md 0) ch' bds' /\ (∀ l, (slotAt b.lv l).isFx = true -> bds'.getD l [] = []) /\ (B :: (bds'.flatten ++ bs)).Nodup /\ (∀ k ∈ bds'.flatten ++ bs, k ∈ bds.flatten \/ w.heap.size <= k) /\
     ResRel (fun k => S k \/ k ∈ B :: bds.flatten) w.heap.size w' (B :: (bds'.flatten ++ bs)) sg.results ys chs bs) (.returned v) w') := by
    intro hK
    cases hx : resN T env' sg.results fn.results.toList with
    | none => rw [hx] at hK; simp at hK
    | some xs =>
     cases hv : boxVal env' b t with
     | none => rw [hx, hv] at hK; simp at hK
     | some y' =>
      rw [hx, hv] at hK
      simp only at hK
      have := hU _ hK
      simp only [List.cons.injEq, Sigma.mk.injEq, heq_eq_eq, true_and] at this
      obtain ⟨rfl, rfl⟩ := this
      obtain ⟨vs, hlen, cs, bs, hrel, hno⟩ := hr'
      -- the variable
      unfold boxVal at hv
      split at hv
      ·rename_i e1 ls hg
       split at hv
       ·rename_i hc1
        obtain ⟨⟨c1, c2, c3⟩, hend⟩ := hc1
        split at hv
        ·rename_i y1 has
         simp only [Option.some.injEq] at hv
         subst hv
         have hkl : b.k < env'.length := Yx hg
         have hav := hrel.av b.k
         rw [show (SS env' noP a'.tmps vs w' cs bs).env b.k = .con (.box e1) ls by show ovl env' noP b.k = _; rw [Y7 hkl]; exact hg] at hav
         obtain ⟨⟨B1, g1, g2, g3, g4, g5⟩, h2, h3, h4⟩ := hav
         have hBB : B1 = B := by
          have := g4 c2
          rw [g1] at this
          simpa [cxB] using this
         subst hBB
         have g2 : w'.heap[B1]? = some (.cells (cs b.k).toArray b.id (0, 0)) := c1 ▸ g2
         have g3 : bs b.k 0 = [B1] := g3
         have h2 : ls.length = (cs b.k).length := h2
         have hBin : B1 ∈ bs b.k 0 := by rw [g3]; simp
         obtain ⟨pre, e2, e3⟩ := Y5t b.md t 0 has
         rw [List.append_nil] at e2
         subst e2
         have hly : (leaves t y1 b.md 0).length = ls.length := by have := congrArg List.length e3; simpa using this.symm
         have hts : ∀ z : t.D, (leaves t z b.md 0).length = t.sz := fun z => by
          have := congrArg List.length (Yk t z b.md 0)
          rwa [List.length_map, Y1h] at this
         have hcl : (cs b.k).length = ch.length := by rw [<- h2, <- hly, hts, <- hL.1, hts]
         let F : Nat -> List Nat := fun l => match slotAt b.lv l with
          | .dp => bs b.k (l + 1)
          | .sh => bs b.k (l + 1)
          | _ => []
         have hF : ∀ l k, k ∈ F l -> k ∈ bs b.k (l + 1) := by
          intro l k hk
          simp only [F] at hk
          split at hk <;> first | exact hk | simp at hk
         let bds' : List (List Nat) := (List.range (cs b.k).length).map F
         let bsx : List Nat := resB cs bs sg.results fn.results.toList
         have hndr1 := List.nodup_cons.1 hndr
         have hbx : ∀ k ∈ bsx, ∃ q l, q ≠ b.k /\ k ∈ bs q (l + 1) := fun k hk => by
          obtain ⟨i, p, v, l, _, h5, _, h6⟩ := Y20 hk
          exact ⟨_, l, fun e => hndr1.1 (by rw [<- e]; exact List.mem_map.2 ⟨v, List.mem_of_getElem? h5, rfl⟩), h6⟩
         have hbd : ∀ k ∈ bds'.flatten, ∃ l, k ∈ bs b.k (l + 1) := fun k hk => by
          obtain ⟨l, _, h5⟩ := Y2z.1 hk
          exact ⟨l, hF l k h5⟩
         have hLin : ∀ k ∈ B1 :: (bds'.flatten ++ bsx), ∃ q l, k ∈ bs q l := fun k hk => by
          rcases List.mem_cons.1 hk with rfl | hk
          ·exact ⟨_, _, hBin⟩
          ·rcases List.mem_append.1 hk with hk | hk
           ·obtain ⟨l, h5⟩ := hbd k hk; exact ⟨_, _, h5⟩
           ·obtain ⟨q, l, _, h5⟩ := hbx k hk; exact ⟨_, _, h5⟩
         have hmine : ∀ k, (cxB S base w B1 ch bds).mine k -> k ∈ B1 :: bds.flatten \/ w.heap.size <= k := fun k hk => by
          by_cases h5 : k < w.heap.size
          ·refine .inl (Decidable.byContradiction fun h6 => hk.2 ⟨h5, h6⟩)
          ·exact .inr (Nat.le_of_not_lt h5)
         have hRo : ∀ k, RoS (cxB S base w B1 ch bds) (SS env' noP a'.tmps vs w' cs bs) k -> (S k \/ k ∈ bds.flatten \/ w.heap.size <= k) /\ k ∉ B1 :: (bds'.flatten ++ bsx) := fun k hk => by
          refine ⟨?_, fun hm => by obtain ⟨q, l, h5⟩ := hLin k hm; exact hk.1 q l h5⟩
          rcases hk.2 with h5 | h5
          ·exact .inl h5
          ·rcases hmine k h5 with h6 | h6
           ·rcases List.mem_cons.1 h6 with rfl | h6
            ·exact absurd hBin (hk.1 _ _)
            ·exact .inr (.inl h6)
           ·exact .inr (.inr h6)
         obtain ⟨chs, m1, m2⟩ := Y4p hT (S := fun k => S k \/ k ∈ B1 :: bds.flatten) (base0 := w.heap.size) (B := B1 :: (bds'.flatten ++ bsx)) hlen hrel (fun k hk => by
          rcases hk with hk | hk
          ·exact .inl (.inl hk)
          ·rcases hmine k hk with h6 | h6
           ·exact .inl (.inr h6)
           ·exact .inr h6) hLin hx (fun i p v q1 q2 l k hk hnk hkB => by
          have hvne : resTmp v ≠ b.k := fun e => hndr1.1 (by rw [<- e]; exact List.mem_map.2 ⟨v, List.mem_of_getElem? q2, rfl⟩)
          rcases List.mem_cons.1 hkB with rfl | hkB
          ·exact hvne (hrel.disj _ _ _ _ _ hk hBin).1
          ·rcases List.mem_append.1 hkB with hkB | hkB
           ·obtain ⟨l', h5⟩ := hbd k hkB
            exact hvne (hrel.disj _ _ _ _ _ hk h5).1
           ·obtain ⟨i', p', v', l', k1, k2, k3, k4⟩ := Y20 hkB
            have hdd := (hrel.disj _ _ _ _ _ hk k4).1
            have : i = i' := Y40 hndr1.2 (x := resTmp v) (by rw [List.getElem?_map, q2]; rfl) (by rw [List.getElem?_map, k2, hdd]; rfl)
            subst this
            rw [q1] at k1
            simp only [Option.some.injEq] at k1
            subst k1
            rw [q2] at k2
            obtain rfl := Option.some.inj k2
            exact hnk k3)
         refine ⟨hd', _, Y4b m2, cs b.k, bds', chs, bsx, rfl, hrel.below, fun k hk hnk => (hrel.froz k ⟨hk, hnk⟩).2.2, g2, hcl, fun l hl => ?_, ⟨by rw [hly]; exact h2, by simp [bds'], fun l lf u hfree hl hu => ?_⟩, fun l hl => ?_, ?_, fun k hk => ?_, m1⟩
         ·have h5 : (cs b.k)[l]? = some (ch.getD l default) := g5 l (by rw [c3]; exact Yc1 _ _ hl)
          have hlt : l < ch.length := by rw [<- hcl]; exact (List.getElem?_eq_some_iff.1 h5).1
          rw [h5, List.getD_eq_getElem?_getD, List.getElem?_eq_getElem hlt]; rfl
         ·have hlt : l < ls.length := by rw [<- hly]; exact (List.getElem?_eq_some_iff.1 hl).1
          have hd : ls[l].dat = lf.dat := by
           have h5 := congrArg (fun z => z[l]?) e3
           simp only [List.getElem?_map, hl, List.getElem?_eq_getElem hlt, Option.map_some, Option.some.injEq] at h5
           exact h5
          have h5 := h4 l ls[l] u (by rw [Y1]; exact List.getElem?_eq_getElem hlt) hu
          obtain ⟨hset, hsl⟩ := Y81 hend (List.getElem?_eq_getElem hlt)
          rw [Nat.zero_add] at hsl
          rw [Y2y, if_pos (show l < (cs b.k).length by rw [<- h2]; exact hlt)]
          have hmd := Y1z b.md t y1 0 l lf hl
          rw [Nat.zero_add] at hmd
          generalize ls[l] = lo at *
          obtain ⟨t1, x1, m1⟩ := lo
          obtain ⟨t2, x2, m2'⟩ := lf
          simp only [Leaf.dat, Sigma.mk.injEq] at hd
          obtain ⟨rfl, hd⟩ := hd
          have hd : x1 = x2 := eq_of_heq hd
          subst hd
          have hold : ∃ lv, m1 = .at_ lv /\ Rep (RoS (cxB S base w B1 ch bds) (SS env' noP a'.tmps vs w' cs bs)) w' t1 lv [u] x1 (bs b.k (l + 1)) := by
           cases m1 with
           | at_ lv => exact ⟨lv, rfl, h5.rep⟩
           | bor _ _ _ => simp [Mode.settled] at hset
           | dead => simp [Mode.settled] at hset
          obtain ⟨lv, rfl, hrep⟩ := hold
          simp only at hmd hsl
          rcases hmd with ⟨hff, hmm⟩ | ⟨⟨e0, τ, hs⟩, hmm⟩
          ·subst hmm
           obtain ⟨z1, z2⟩ := Rep.flat (S' := fun k => (S k \/ k ∈ bds.flatten \/ w.heap.size <= k) /\ k ∉ B1 :: (bds'.flatten ++ bsx)) (w' := w') (m' := .ro) hff hrep
           refine ⟨.ro, rfl, ?_⟩
           have hFn : F l = [] := by
            simp only [F]; split <;> first | exact z1 | rfl
           rw [hFn]; exact z2
          ·obtain ⟨u1, u2⟩ := hsl e0 τ hs
           have hmove : ∀ {lv' : Lvl}, Rep (RoS (cxB S base w B1 ch bds) (SS env' noP a'.tmps vs w' cs bs)) w' t1 lv' [u] x1 (bs b.k (l + 1)) -> Rep (fun k => (S k \/ k ∈ bds.flatten \/ w.heap.size <= k) /\ k ∉ B1 :: (bds'.flatten ++ bsx)) w' t1 lv' [u] x1 (bs b.k (l + 1)) := fun hr' => Rep.move (fun k hk _ => ⟨hRo k hk, rfl⟩) (fun _ _ => rfl) hr'
           subst hmm
           unfold BoxSig.free at hfree
           cases hq : slotAt b.lv l with
           | fx => rw [hq] at hfree; cases hfree
           | dp =>
            obtain rfl : lv = .dp := by simpa using u1 hq
            refine ⟨.dp, by unfold BoxSig.md; rw [hq]; rfl, ?_⟩
            rw [show F l = bs b.k (l + 1) by simp only [F, hq]]
            exact hmove hrep
           | sh =>
            obtain rfl : lv = .sh := by simpa using u2 hq
            refine ⟨.sh, by unfold BoxSig.md; rw [hq]; rfl, ?_⟩
            rw [show F l = bs b.k (l + 1) by simp only [F, hq]]
            exact hmove hrep
           | ro =>
            refine ⟨.ro, by unfold BoxSig.md; rw [hq]; rfl, ?_⟩
            rw [show F l = [] by simp only [F, hq]]
            refine Rep.roS hrep (fun k hk _ => hRo k hk) (fun k hk => ⟨?_, fun hm => ?_⟩)
            ·rcases hmine k (hrel.own _ _ _ hk).1 with h6 | h6
             ·rcases List.mem_cons.1 h6 with rfl | h6
              ·have := (hrel.disj _ _ _ _ _ hBin hk).2; omega
              ·exact .inr (.inl h6)
             ·exact .inr (.inr h6)
            ·rcases List.mem_cons.1 hm with rfl | hm
             ·have := (hrel.disj _ _ _ _ _ hBin hk).2; omega
             ·rcases List.mem_append.1 hm with hm | hm
              ·obtain ⟨l', _, h7⟩ := Y2z.1 hm
               have := (hrel.disj _ _ _ _ _ hk (hF l' k h7)).2
               obtain rfl : l = l' := by omega
               simp only [F, hq] at h7
               simp at h7
              ·obtain ⟨q', l', h7, h8⟩ := hbx _ hm
               exact h7 (hrel.disj _ _ _ _ _ h8 hk).1
         ·rw [Y2y]
          split
          ·simp only [F]
           cases hs : slotAt b.lv l <;> rw [hs] at hl <;> first | rfl | cases hl
          ·rfl
         ·refine List.nodup_cons.2 ⟨fun hm => ?_, List.nodup_append.2 ⟨Y3t (fun l => ?_) (fun l l' k h5 h6 => ?_) _, Y4q hrel hndr1.2, fun k hk k' hk' e => ?_⟩⟩
          ·rcases List.mem_append.1 hm with hm | hm
           ·obtain ⟨l, h5⟩ := hbd _ hm
            have := (hrel.disj _ _ _ _ _ hBin h5).2; omega
           ·obtain ⟨q, l, h5, h6⟩ := hbx _ hm
            exact h5 (hrel.disj _ _ _ _ _ h6 hBin).1
          ·simp only [F]
           split <;> first | exact hrel.nodup _ _ | exact List.nodup_nil
          ·have := (hrel.disj _ _ _ _ _ (hF l k h5) (hF l' k h6)).2; omega
          ·subst e
           obtain ⟨l, h5⟩ := hbd _ hk
           obtain ⟨q, l', h6, h7⟩ := hbx _ hk'
           exact h6 (hrel.disj _ _ _ _ _ h7 h5).1
         ·obtain ⟨q, l, h5⟩ := hLin k (List.mem_cons_of_mem _ hk)
          rcases hmine k (hrel.own _ _ _ h5).1 with h6 | h6
          ·rcases List.mem_cons.1 h6 with rfl | h6
           ·exfalso
            rcases List.mem_append.1 hk with hk | hk
            ·obtain ⟨l', h7⟩ := hbd _ hk
             have := (hrel.disj _ _ _ _ _ hBin h7).2; omega
            ·obtain ⟨q', l', h7, h8⟩ := hbx _ hk
             exact h7 (hrel.disj _ _ _ _ _ h8 hBin).1
           ·exact .inl h6
          ·exact .inr h6
        ·simp at hv
       ·simp at hv
      ·simp at hv
   cases e with
   | ret => exact fin hK
   | normal => exact fin hK
   | _ => simp [endB] at hK
  ·simp at h
 ·simp at h
end
end Go.FP

namespace Go.FP
open Go.RowKit
section
variable {P : Program} {T : Tab}
end
end Go.FP

namespace Go.FP
open Go.RowKit
abbrev Foot1 := Option (Nat × List Nat)
abbrev Foot := Option (List Nat × List Nat)
def Dis : Foot -> Foot -> Prop
 | some (W, R), some (W', R') => (∀ w ∈ W, w ∉ W' /\ w ∉ R') /\ (∀ w ∈ W', w ∉ R)
 | _, _ => False
def puts : Env -> List Nat -> List AV -> Env
 | env, w :: W, v :: vs => puts (put env w v) W vs
 | env, _, _ => env
theorem Y9d : ∀ (env : Env) {a b : Nat} (u v : AV), a ≠ b -> put (put env a u) b v = put (put env b v) a u
 | [], a, b, u, v, h => by cases a <;> cases b <;> rfl
 | x :: env, 0, 0, u, v, h => absurd rfl h
 | x :: env, 0, b + 1, u, v, h => rfl
 | x :: env, a + 1, 0, u, v, h => rfl
 | x :: env, a + 1, b + 1, u, v, h => by
  show x :: put (put env a u) b v = x :: put (put env b v) a u
  rw [Y9d env u v (fun e => h (by rw [e]))]
theorem Y1u : ∀ (W : List Nat) (vs : List AV) (env : Env), (puts env W vs).length = env.length
 | [], _, _ => by simp [puts]
 | w :: W, [], _ => rfl
 | w :: W, v :: vs, env => by simp only [puts]; rw [Y1u W vs, Y5]
theorem Y11 {r : Nat} : ∀ {W : List Nat} {vs : List AV} {env : Env}, r ∉ W -> get (puts env W vs) r = get env r
 | [], vs, env, h => by simp [puts]
 | w :: W, [], env, h => rfl
 | w :: W, v :: vs, env, h => by
  simp only [List.mem_cons, not_or] at h
  simp only [puts]
  rw [Y11 h.2, Y1i, if_neg (fun e => h.1 e.1)]
theorem Y4c {r : Nat} : ∀ {W : List Nat} {vs : List AV} {env env' : Env}, r ∈ W -> vs.length = W.length -> env.length = env'.length -> get (puts env W vs) r = get (puts env' W vs) r
 | [], vs, env, env', h, _, _ => by simp at h
 | w :: W, [], env, env', h, hl, _ => by simp at hl
 | w :: W, v :: vs, env, env', h, hl, he => by
  simp only [puts]
  by_cases hr : r ∈ W
  ·exact Y4c hr (by simpa using hl) (by rw [Y5, Y5, he])
  ·rw [Y11 hr, Y11 hr, Y1i, Y1i, he]
   have hw : r = w := by
    rcases List.mem_cons.1 h with h | h
    ·exact h
    ·exact absurd h hr
   by_cases hlt : w < env'.length
   ·rw [if_pos ⟨hw, hlt⟩, if_pos ⟨hw, hlt⟩]
   ·rw [if_neg (fun e => hlt e.2), if_neg (fun e => hlt e.2), Y16 _ _ (by omega), Y16 _ _ (by omega)]
theorem Y9e {w : Nat} {v : AV} : ∀ {W : List Nat} {vs : List AV} {env : Env}, w ∉ W -> puts (put env w v) W vs = put (puts env W vs) w v
 | [], vs, env, h => by simp [puts]
 | w' :: W, [], env, h => rfl
 | w' :: W, v' :: vs, env, h => by
  simp only [List.mem_cons, not_or] at h
  simp only [puts]
  rw [Y9d env v v' h.1, Y9e h.2]
theorem Y82 : ∀ {W W' : List Nat} {vs vs' : List AV} {env : Env}, (∀ w ∈ W, w ∉ W') -> puts (puts env W vs) W' vs' = puts (puts env W' vs') W vs
 | [], W', vs, vs', env, h => by simp [puts]
 | w :: W, W', [], vs', env, h => by simp [puts]
 | w :: W, W', v :: vs, vs', env, h => by
  simp only [puts]
  rw [Y82 (fun w' hw' => h w' (List.mem_cons_of_mem _ hw')), Y9e (h w List.mem_cons_self)]
section
variable (J : Nat -> AV -> Prop) (step : Nat -> Env -> Option Env) (foot : Nat -> Env -> Foot)
def AllJ (env : Env) : Prop := ∀ r, J r (get env r)
def Mild : Prop := ∀ i env W Rd env', AllJ J env -> foot i env = some (W, Rd) -> step i env = some env' -> ∃ vs, vs.length = W.length /\ env' = puts env W vs /\ ∀ env2 : Env, AllJ J env2 -> env2.length = env.length -> (∀ k ∈ W ++ Rd, get env2 k = get env k) -> step i env2 = some (puts env2 W vs) /\ foot i env2 = some (W, Rd)
def Trace : List Nat -> Env -> Env -> (Nat -> Foot) -> Prop
 | [], e, E, _ => AllJ J e /\ e = E
 | i :: l, e, E, φ => AllJ J e /\ foot i e = φ i /\ ∃ e1, step i e = some e1 /\ Trace l e1 E φ
variable {J step foot}
theorem Trace.all {l : List Nat} {e E : Env} {φ : Nat -> Foot} (h : Trace J step foot l e E φ) : AllJ J e := by
 cases l with
 | nil => exact h.1
 | cons i l => exact h.1
theorem Trace.swap (hM : Mild J step foot) {x y : Nat} {l : List Nat} {e E : Env} {φ : Nat -> Foot} (h : Trace J step foot (x :: y :: l) e E φ) (hd : Dis (φ x) (φ y)) : Trace J step foot (y :: x :: l) e E φ := by
 obtain ⟨je, fx, e1, sx, je1, fy, e2, sy, ht⟩ := h
 have je2 := ht.all
 cases hφx : φ x with
 | none => rw [hφx] at hd; exact hd.elim
 | some p =>
  cases hφy : φ y with
  | none => rw [hφx, hφy] at hd; exact hd.elim
  | some q =>
   obtain ⟨W, R⟩ := p
   obtain ⟨W', R'⟩ := q
   rw [hφx, hφy] at hd
   obtain ⟨d1, d2⟩ := hd
   rw [hφx] at fx
   rw [hφy] at fy
   obtain ⟨vs, lx, rfl, kx⟩ := hM x e W R e1 je fx sx
   obtain ⟨vs', ly, rfl, ky⟩ := hM y (puts e W vs) W' R' e2 je1 fy sy
   have dW : ∀ w ∈ W', w ∉ W := fun w hw hw' => (d1 w hw').1 hw
   obtain ⟨a1, a2⟩ := ky e je (Y1u _ _ _).symm (fun k hk => by
    rw [Y11]
    intro hkW
    rcases List.mem_append.1 hk with hk | hk
    ·exact (d1 k hkW).1 hk
    ·exact (d1 k hkW).2 hk)
   have je' : AllJ J (puts e W' vs') := fun r => by
    by_cases hr : r ∈ W'
    ·rw [Y4c hr ly (Y1u W vs e).symm]
     exact je2 r
    ·rw [Y11 hr]; exact je r
   obtain ⟨b1, b2⟩ := kx (puts e W' vs') je' (Y1u _ _ _) (fun k hk => by
    rw [Y11]
    intro hkW
    rcases List.mem_append.1 hk with hk | hk
    ·exact dW k hkW hk
    ·exact d2 k hkW hk)
   refine ⟨je, a2.trans hφy.symm, _, a1, je', b2.trans hφx.symm, _, b1, ?_⟩
   rw [Y82 (fun w hw => dW w hw)]
   exact ht
theorem Trace.move (hM : Mild J step foot) {x : Nat} {B : List Nat} {E : Env} {φ : Nat -> Foot} : ∀ {A : List Nat} {e : Env}, Trace J step foot (x :: (A ++ B)) e E φ -> (∀ a ∈ A, Dis (φ x) (φ a)) -> Trace J step foot (A ++ x :: B) e E φ
 | [], e, h, _ => h
 | a :: A, e, h, hd => by
  obtain ⟨k0, k1, e1, k2, k3⟩ := Trace.swap hM h (hd a (by simp))
  exact ⟨k0, k1, e1, k2, Trace.move hM k3 (fun a' ha' => hd a' (by simp [ha']))⟩
theorem Trace.reorder (hM : Mild J step foot) {E : Env} {φ : Nat -> Foot} : ∀ {l π : List Nat} {e : Env}, l.Pairwise (· < ·) -> π.Perm l -> π.Pairwise (fun a x => x < a -> Dis (φ x) (φ a)) -> Trace J step foot l e E φ -> Trace J step foot π e E φ
 | [], π, e, _, hp, _, h => by rw [List.Perm.eq_nil hp]; exact h
 | x :: l, π, e, hs, hp, hg, ⟨k0, k1, e1, k2, k3⟩ => by
  have hx : x ∈ π := hp.symm.subset (by simp)
  obtain ⟨A, B, rfl⟩ := List.append_of_mem hx
  have hp' : (A ++ B).Perm l := by
   have h1 : (x :: (A ++ B)).Perm (x :: l) := List.perm_middle.symm.trans hp
   exact List.Perm.cons_inv h1
  have hs' := List.pairwise_cons.1 hs
  have hsub : (A ++ B).Sublist (A ++ x :: B) := List.Sublist.append_left (List.sublist_cons_self x B) A
  have hrec := Trace.reorder hM hs'.2 hp' (hg.sublist hsub) k3
  refine Trace.move hM ⟨k0, k1, e1, k2, hrec⟩ (fun a ha => ?_)
  have hax : x < a := hs'.1 a (hp'.subset (List.mem_append_left _ ha))
  exact (List.pairwise_append.1 hg).2.2 a ha x (by simp) hax
end
def unl (n : Nat) (listed : Array Bool) : List Nat := (List.range n).filter fun i => !listed.getD i true
theorem Y8c (m : Region.Mode) (ops : Array Oper) : ∀ (fuel t : Nat) (listed : Array Bool) (acc : List Nat), Region.linearise.go m ops fuel t listed acc = acc.reverse ++ Region.linearise.go m ops fuel t listed [] := linearise_go_acc m ops
theorem Yde {n : Nat} {listed : Array Bool} (hs : listed.size = n) {i : Nat} (hi : i ∈ unl n listed) : (unl n listed).Perm (i :: unl n (listed.setIfInBounds i true)) := by
 have hnd : (unl n listed).Nodup := List.Nodup.sublist List.filter_sublist List.nodup_range
 have hnd2 : (i :: unl n (listed.setIfInBounds i true)).Nodup := by
  refine List.nodup_cons.2 ⟨fun h => ?_, List.Nodup.sublist List.filter_sublist List.nodup_range⟩
  simp only [unl, List.mem_filter, List.mem_range] at h
  have : i < listed.size := by omega
  simp [this] at h
 refine (List.perm_ext_iff_of_nodup hnd hnd2).2 (fun k => ?_)
 simp only [unl, List.mem_filter, List.mem_range, List.mem_cons] at hi ⊢
 by_cases hk : k = i
 ·subst hk
  constructor
  ·intro _; exact .inl rfl
  ·intro _; exact hi
 ·have hki : ¬ i = k := fun h => hk h.symm
  constructor
  ·intro ⟨h1, h2⟩
   refine .inr ⟨h1, ?_⟩
   have h1' : k < listed.size := by omega
   simp only [Array.getD_eq_getD_getElem?, Array.getElem?_setIfInBounds, if_neg hki] at h2 ⊢
   exact h2
  ·rintro (h | ⟨h1, h2⟩)
   ·exact absurd h hk
   ·refine ⟨h1, ?_⟩
    simp only [Array.getD_eq_getD_getElem?, Array.getElem?_setIfInBounds, if_neg hki] at h2 ⊢
    exact h2
theorem Yak (m : Region.Mode) (ops : Array Oper) (hback : ∀ (i : Nat) (o : Oper), ops[i]? = some o -> ∀ e ∈ o.after, Region.binds m e = true -> e.on < i) : ∀ (fuel t : Nat) (listed : Array Bool), listed.size = ops.size -> (unl ops.size listed).length <= fuel ->
  (Region.linearise.go m ops fuel t listed []).Perm (unl ops.size listed) /\ ∀ (A : List Nat) (i : Nat) (B : List Nat), Region.linearise.go m ops fuel t listed [] = A ++ i :: B -> ∀ (o : Oper), ops[i]? = some o -> ∀ e ∈ o.after, Region.binds m e = true -> listed.getD e.on false = true \/ e.on ∈ A
 | 0, t, listed, hs, hl => by
  have : unl ops.size listed = [] := List.length_eq_zero_iff.1 (by omega)
  rw [this]
  exact ⟨by simp [Region.linearise.go], fun A i B h => by simp [Region.linearise.go] at h⟩
 | fuel + 1, t, listed, hs, hl => by
  rw [Region.linearise.go]
  let rs := (List.range ops.size).filter fun i => !listed.getD i true && ((ops[i]?).map (·.after.all fun e => !Region.binds m e || listed.getD e.on false)).getD false
  have hrs : ∀ i ∈ rs, i ∈ unl ops.size listed /\ ∀ (o : Oper), ops[i]? = some o -> ∀ e ∈ o.after, Region.binds m e = true -> listed.getD e.on false = true := by
   intro i hi
   simp only [rs, List.mem_filter, Bool.and_eq_true] at hi
   obtain ⟨h1, h2, h3⟩ := hi
   refine ⟨by simp only [unl, List.mem_filter]; exact ⟨h1, h2⟩, fun o ho e he hb => ?_⟩
   rw [ho] at h3
   simp only [Option.map_some, Option.getD_some, Array.all_eq_true'] at h3
   have := h3 e he
   simpa [hb] using this
  show List.Perm (match rs[t % rs.length]? with | some i => Region.linearise.go m ops fuel (t / rs.length) (listed.setIfInBounds i true) [i] | none => [].reverse) _ /\ _
  cases hu : unl ops.size listed with
  | nil =>
   have hrs0 : rs = [] := by
    apply List.eq_nil_iff_forall_not_mem.2
    intro i hi
    have := (hrs i hi).1
    rw [hu] at this
    simp at this
   have e0 : rs[t % rs.length]? = none := by rw [hrs0]; rfl
   refine ⟨by rw [e0]; exact List.Perm.refl _, fun A i B h => ?_⟩
   change (match rs[t % rs.length]? with | some i => Region.linearise.go m ops fuel (t / rs.length) (listed.setIfInBounds i true) [i] | none => [].reverse) = _ at h
   rw [e0] at h
   simp at h
  | cons i0 us =>
   have hi0 : i0 ∈ rs := by
    have hm0 : i0 ∈ unl ops.size listed := by rw [hu]; simp
    simp only [unl, List.mem_filter, List.mem_range] at hm0
    simp only [rs, List.mem_filter, List.mem_range, Bool.and_eq_true]
    refine ⟨hm0.1, hm0.2, ?_⟩
    rw [Array.getElem?_eq_getElem hm0.1]
    simp only [Option.map_some, Option.getD_some, Array.all_eq_true']
    intro e he
    apply Decidable.byContradiction
    intro hcon
    have hbe : Region.binds m e = true := by
     cases hb : Region.binds m e with
     | true => rfl
     | false => rw [hb] at hcon; simp at hcon
    apply hcon
    have hlt := hback i0 _ (Array.getElem?_eq_getElem hm0.1) e he hbe
    have : listed.getD e.on false = true := by
     apply Decidable.byContradiction
     intro hne
     have hsz : e.on < listed.size := by omega
     have hmem : e.on ∈ unl ops.size listed := by
      simp only [unl, List.mem_filter, List.mem_range]
      refine ⟨by omega, ?_⟩
      simp only [Array.getD_eq_getD_getElem?, Array.getElem?_eq_getElem hsz, Option.getD_some] at hne ⊢
      simpa using hne
     rw [hu] at hmem
     have hsorted : (i0 :: us).Pairwise (· < ·) := by
      rw [<- hu]
      exact List.Pairwise.sublist List.filter_sublist List.pairwise_lt_range
     rcases List.mem_cons.1 hmem with h | h
     ·omega
     ·have := (List.pairwise_cons.1 hsorted).1 _ h
      omega
    rw [this]
    simp
   have hpos : 0 < rs.length := List.length_pos_of_mem hi0
   have hlt : t % rs.length < rs.length := Nat.mod_lt _ hpos
   let i := rs[t % rs.length]
   have ei : rs[t % rs.length]? = some i := List.getElem?_eq_getElem hlt
   have him : i ∈ rs := List.getElem_mem hlt
   obtain ⟨k1, k2⟩ := hrs i him
   have hperm := Yde hs k1
   have hlen : (unl ops.size (listed.setIfInBounds i true)).length <= fuel := by
    have := hperm.length_eq
    simp only [List.length_cons] at this
    omega
   obtain ⟨g1, g2⟩ := Yak m ops hback fuel (t / rs.length) (listed.setIfInBounds i true) (by simpa using hs) hlen
   have eg : Region.linearise.go m ops fuel (t / rs.length) (listed.setIfInBounds i true) [i] = i :: Region.linearise.go m ops fuel (t / rs.length) (listed.setIfInBounds i true) [] := by
    rw [Y8c]; rfl
   rw [<- hu]
   refine ⟨by rw [ei]; simp only; rw [eg]; exact (List.Perm.cons i g1).trans hperm.symm, fun A j B h o ho e he hb => ?_⟩
   change (match rs[t % rs.length]? with | some i => Region.linearise.go m ops fuel (t / rs.length) (listed.setIfInBounds i true) [i] | none => [].reverse) = _ at h
   rw [ei] at h
   simp only at h
   rw [eg] at h
   cases A with
   | nil =>
    simp only [List.nil_append, List.cons.injEq] at h
    rw [<- h.1] at ho
    exact .inl (k2 o ho e he hb)
   | cons a A =>
    simp only [List.cons_append, List.cons.injEq] at h
    obtain ⟨rfl, h⟩ := h
    rcases g2 A j B h o ho e he hb with h1 | h1
    ·by_cases hea : e.on = i
     ·exact .inr (by rw [hea]; simp)
     ·left
      have hie : ¬ i = e.on := fun h => hea h.symm
      simp only [Array.getD_eq_getD_getElem?, Array.getElem?_setIfInBounds, if_neg hie] at h1 ⊢
      exact h1
    ·exact .inr (List.mem_cons_of_mem _ h1)
end Go.FP

namespace Go.FP
open Go.RowKit
section
variable {R : Type} {T : Tab} {sig : FuncId -> Option Sig} {caps : FuncId -> List Ty} {orc : Orc}
theorem Yb8 (op : BinOp) (k : IntKind) (a b : Int) (K : AV -> Option R) : intOp op k a b K = (intOp op k a b some).bind K := by
 unfold intOp
 repeat' split
 all_goals first | rfl | (cases h : decide (b = 0) <;> rfl) | (cases h : decide (b < 0) <;> rfl) | skip
theorem Yb9 (op : BinOp) (a b : ByteArray) (K : AV -> Option R) : strOp op a b K = (strOp op a b some).bind K := by
 unfold strOp
 repeat' split
 all_goals first | rfl | (cases h : decide (a.size + b.size <= 140737488355328) <;> rfl)
theorem Y9f (op : BinOp) (k : IntKind) (a b : Int) (K : AV -> Option R) : shiftOp op k a b K = (shiftOp op k a b some).bind K := by
 unfold shiftOp
 split
 ·cases h : decide (b < 0) <;> rfl
 ·cases h : decide (b < 0) <;> rfl
 ·rfl
theorem Yba (op : BinOp) (t : TypeId) (x y : AV) (K : AV -> Option R) : aggOp T op t x y K = (aggOp T op t x y some).bind K := by
 unfold aggOp
 repeat' split
 all_goals rfl
theorem Y36 (op : BinOp) (t : TypeId) (x y : AV) (K : AV -> Option R) : binOp1 T op t x y K = (binOp1 T op t x y some).bind K := by
 unfold binOp1
 repeat' split
 all_goals first | rfl | exact Yb8 _ _ _ _ _ | exact Y9f _ _ _ _ _ | exact Yb9 _ _ _ _ | exact Yba _ _ _ _ _
theorem Y3m (op : UnOp) (x : AV) (K : AV -> Option R) : unOp1 op x K = (unOp1 op x some).bind K := by
 unfold unOp1
 repeat' split
 all_goals first | rfl
theorem Y4v (te : TE) (lv : Lvl) (s x : List te.ty.D) (K : Leaf -> Option R) : appendTo te lv s x K = (appendTo te lv s x some).bind K := by
 unfold appendTo
 cases h : decide ((s.length + x.length) * te.bytes <= 140737488355328) <;> rfl
theorem Yv {b : Bool} {α β : Type} {x : Option α} {k : α -> Option β} {y : Option β} (h : y = x.bind k) : (bif b then y else none) = (bif b then x else none).bind k := by
 cases b
 ·rfl
 ·exact h
theorem Y32 {α β γ : Type} {z : Option γ} {f : γ -> Option α} {g : γ -> Option β} {k : α -> Option β} (h : ∀ c, g c = (f c).bind k) : z.bind g = (z.bind f).bind k := by
 cases z
 ·rfl
 ·exact h _
theorem Y4w (te : TE) (lv : Lvl) (s x : List te.ty.D) (G : Leaf -> Env) (K : Env -> Option R) : appendTo te lv s x (fun l => K (G l)) = (appendTo te lv s x (fun l => some (G l))).bind K := by
 rw [Y4v, Y4v te lv s x (fun l => some (G l))]
 exact Y32 (fun _ => rfl)
theorem Ya9 (op : BinOp) (t : TypeId) (x y : AV) (G : AV -> Env) (K : Env -> Option R) : binOp1 T op t x y (fun l => K (G l)) = (binOp1 T op t x y (fun l => some (G l))).bind K := by
 rw [Y36, Y36 op t x y (fun l => some (G l))]
 exact Y32 (fun _ => rfl)
theorem Ybb (op : UnOp) (x : AV) (G : AV -> Env) (K : Env -> Option R) : unOp1 op x (fun l => K (G l)) = (unOp1 op x (fun l => some (G l))).bind K := by
 rw [Y3m, Y3m op x (fun l => some (G l))]
 exact Y32 (fun _ => rfl)
theorem Y9g (d : Option Nat) (te : TE) (s : Operand) (xs : List te.ty.D) (deep : Bool) (env : Env) (K : Env -> Option R) : appendS d te s xs deep env K = (appendS d te s xs deep env some).bind K := by
 unfold appendS
 repeat' split
 all_goals first | rfl | exact Y4w _ _ _ _ _ _
theorem Y9h (d : Option Nat) (t : TypeId) (s x : Operand) (env : Env) (K : Env -> Option R) : append1 T d t s x env K = (append1 T d t s x env some).bind K := by
 unfold append1
 repeat' split
 all_goals first | rfl | exact Y9g _ _ _ _ _ _ _
theorem Y9i (d : Nat) (te : TE) (r j : Nat) (i : Int) (o : Nat) (x : Operand) (env : Env) (K : Env -> Option R) : appendN d te r j i o x env K = (appendN d te r j i o x env some).bind K := by
 unfold appendN
 repeat' split
 all_goals first | rfl | skip
 all_goals (refine Yv ?_; repeat' split)
 all_goals first | rfl | exact Y4w _ _ _ _ _ _
theorem Y7j (s r j : Nat) (i : Int) (o : Nat) (l : Leaf) (a : Operand) (env : Env) (K : Env -> Option R) : storeGrow s r j i o l a env K = (storeGrow s r j i o l a env some).bind K := by
 unfold storeGrow
 repeat' split
 all_goals first | rfl | (exact Yv rfl) | (refine Yv ?_; split <;> rfl)
theorem Ybc (d : Option Nat) (f : FuncId) (sg : Sig) (args : List Operand) (extra : List AV) (env : Env) (K : Env -> Option R) : callM caps orc d f sg args extra env K = (callM caps orc d f sg args extra env some).bind K := by
 unfold callM
 split
 ·split
  ·simp only
   split
   ·split
    ·split
     ·rfl
     ·split
      ·rfl
      ·refine Y32 (fun xs => ?_)
       split
       ·rfl
       ·split
        ·split
         ·rfl
         ·split <;> rfl
        ·rfl
    ·rfl
   ·rfl
  ·rfl
 ·rfl
theorem Ybd (d : Option Nat) (f : FuncId) (sg : Sig) (args : List Operand) (extra : List AV) (env : Env) (K : Env -> Option R) : callO caps orc d f sg args extra env K = (callO caps orc d f sg args extra env some).bind K := rfl
theorem Ybe (d : Option Nat) (f : FuncId) (sg : Sig) (args : List Operand) (extra : List AV) (env : Env) (K : Env -> Option R) : callS orc d f sg args extra env K = (callS orc d f sg args extra env some).bind K := rfl
theorem Ybf (d : Option Nat) (f : FuncId) (sg : Sig) (b : BoxSig) (args : List Operand) (extra : List AV) (env : Env) (K : Env -> Option R) : callB caps orc d f sg b args extra env K = (callB caps orc d f sg b args extra env some).bind K := by
 unfold callB
 simp only
 split
 ·split
  ·split
   ·split
    ·rfl
    ·split
     ·rfl
     ·refine Y32 (fun xs => ?_)
      split
      ·rfl
      ·split
       ·split <;> rfl
       ·rfl
   ·rfl
  ·rfl
 ·rfl
theorem Ybg (d : Option Nat) (f : FuncId) (sg : Sig) (id : TypeId) (args : List Operand) (extra : List AV) (env : Env) (K : Env -> Option R) : callN caps orc d f sg id args extra env K = (callN caps orc d f sg id args extra env some).bind K := rfl
theorem Y9j (t : TypeId) (a v : Operand) (env : Env) (K : Env -> Option R) : storeFn t a v env K = (storeFn t a v env some).bind K := by
 unfold storeFn
 split
 ·split
  ·split <;> rfl
  ·rfl
 ·rfl
theorem Y3n (d : Option Nat) (f : FuncId) (args : List Operand) (extra : List AV) (env : Env) (K : Env -> Option R) : call1 sig caps orc d f args extra env K = (call1 sig caps orc d f args extra env some).bind K := by
 unfold call1
 split
 ·rfl
 ·split
  ·exact Ybf _ _ _ _ _ _ _ _
  split
  ·exact Ybg _ _ _ _ _ _ _ _
  split
  ·split
   ·exact Ybe _ _ _ _ _ _ _
   simp only
   split
   ·split
    ·rfl
    ·split
     ·rfl
     ·exact Y32 (fun xs => by split <;> rfl)
   ·rfl
  ·split
   ·exact Ybd _ _ _ _ _ _ _
   ·exact Ybc _ _ _ _ _ _ _
theorem Yaa (t : TypeId) (a v : Operand) (env : Env) (K : Env -> Option R) : store1 T t a v env K = (store1 T t a v env some).bind K := by
 unfold store1
 split
 ·exact Y9j _ _ _ _ _
 split
 ·split
  ·exact Y7j _ _ _ _ _ _ _ _ _
  ·rfl
 unfold storePlain
 repeat' split
 all_goals first | rfl | (refine Yv ?_; split <;> rfl) | (simp only; repeat' split) | skip
 all_goals first | rfl | exact Yv rfl
theorem Ybh (d : Nat) (o : Oper) (env : Env) (K : Env -> Option R) : evVal T sig caps orc d o env K = (evVal T sig caps orc d o env some).bind K := by
 cases hop : o.op with
 | binOp op t x y t' => simp only [evVal, hop]; exact Ya9 _ _ _ _ _ _
 | unOp op t x => simp only [evVal, hop]; exact Ybb _ _ _ _
 | pick cc a b =>
  simp only [evVal, hop]
  split
  ·rename_i t _
   cases t <;> rfl
  ·rfl
 | index t x i =>
  simp only [evVal, hop]
  split
  ·exact Y32 (fun _ => rfl)
  ·rfl
 | call cl =>
  simp only [evVal, hop]
  split
  ·exact Y3n _ _ _ _ _ _
  ·split
   ·exact Y3n _ _ _ _ _ _
   ·exact Y3n _ _ _ _ _ _
   ·exact Y3n _ _ _ _ _ _
   ·rfl
  ·repeat' split
   all_goals rfl
  ·repeat' split
   all_goals first | rfl | exact Y9h _ _ _ _ _ _ | exact Y9i _ _ _ _ _ _ _ _ _
  ·repeat' split
   all_goals rfl
  ·repeat' split
   all_goals rfl
  ·rfl
 | makeFunc fn first captured =>
  cases fn with
  | func f =>
   simp only [evVal, hop]
   split
   ·split
    ·rfl
    ·rfl
   ·rfl
  | _ => simp only [evVal, hop]; rfl
 | slice t x lo hi mx =>
  simp only [evVal, hop]
  repeat' split
  all_goals first | rfl | exact Yv rfl
 | indexAddr t x i =>
  simp only [evVal, hop]
  repeat' split
  all_goals first | rfl | exact Yv rfl
 | makeSlice t l c =>
  simp only [evVal, hop]
  repeat' split
  all_goals first | rfl | exact Yv rfl
 | extract x i =>
  simp only [evVal, hop]
  repeat' split
  all_goals rfl
 | load t x =>
  simp only [evVal, hop]
  repeat' split
  all_goals rfl
 | fieldAddr t x f =>
  simp only [evVal, hop]
  repeat' split
  all_goals rfl
 | field t x f =>
  simp only [evVal, hop]
  repeat' split
  all_goals rfl
 | build t ps =>
  simp only [evVal, hop]
  repeat' split
  all_goals rfl
 | buildSlice t n ps =>
  simp only [evVal, hop]
  repeat' split
  all_goals rfl
 | convert t u x =>
  simp only [evVal, hop]
  repeat' split
  all_goals rfl
 | nilCheck x =>
  simp only [evVal, hop]
  repeat' split
  all_goals rfl
 | alloc e =>
  simp only [evVal, hop]
  repeat' split
  all_goals rfl
 | box e x =>
  simp only [evVal, hop]
  repeat' split
  all_goals rfl
 | assign x =>
  simp only [evVal, hop]
  repeat' split
  all_goals rfl
 | move x => simp only [evVal, hop]; rfl
 | _ => simp only [evVal, hop]; rfl
theorem Y41 (o : Oper) (env : Env) (K : Env -> Option R) : evOp T sig caps orc o env K = (evOp T sig caps orc o env some).bind K := by
 unfold evOp
 repeat' split
 all_goals first | rfl | exact Ybh _ _ _ _ | exact Yaa _ _ _ _ _
theorem Y37 (o : Oper) (env : Env) (K : Env -> Option R) : skipOp o env K = (skipOp o env some).bind K := by
 unfold skipOp
 repeat' split
 all_goals rfl
theorem Ybi (ops : Array Oper) (o : Oper) (rest : List Oper) (env : Env) (K : Env -> Option R) : evOps T sig caps orc ops (o :: rest) env K = (evOps T sig caps orc ops [o] env some).bind fun env' => evOps T sig caps orc ops rest env' K := by
 simp only [evOps]
 split
 ·exact Y41 _ _ _
 ·split
  ·rfl
  ·split
   ·exact Y37 _ _ _
   ·rename_i b _
    cases b
    ·simp only [cond_false]
     split
     ·exact Y37 _ _ _
     ·exact Y41 _ _ _
    ·simp only [cond_true]
     split
     ·exact Y41 _ _ _
     ·exact Y37 _ _ _
   ·rfl
end
end Go.FP

namespace Go.FP
open Go.RowKit
def rootsOf : AV -> List Nat
 | .path r _ => [r]
 | .clo _ caps => caps.map (·.1)
 | _ => []
def opReads (env : Env) : Operand -> List Nat
 | .tmp s => s :: rootsOf (get env s)
 | _ => []
def Agree (S : List Nat) (e1 e2 : Env) : Prop := e2.length = e1.length /\ ∀ k ∈ S, get e2 k = get e1 k
theorem Agree.mono {S S' : List Nat} {e1 e2 : Env} (h : Agree S e1 e2) (hs : ∀ k ∈ S', k ∈ S) : Agree S' e1 e2 := ⟨h.1, fun k hk => h.2 k (hs k hk)⟩
theorem Agree.rd {env env2 : Env} {x : Operand} (h : Agree (opReads env x) env env2) (ty : Option Ty) : rd ty env2 x = rd ty env x := by
 cases x with
 | tmp s =>
  have := h.2 s (by simp [opReads])
  simp only [FP.rd, this]
 | _ => rfl
theorem Agree.reads {env env2 : Env} {x : Operand} (h : Agree (opReads env x) env env2) : opReads env2 x = opReads env x := by
 cases x with
 | tmp s =>
  have := h.2 s (by simp [opReads])
  simp only [opReads, this]
 | _ => rfl
theorem Agree.root {env env2 : Env} {x : Operand} {q off : Nat} (h : Agree (opReads env x) env env2) (ty : Option Ty) (hx : FP.rd ty env x = .path q off) : get env2 q = get env q \/ (∃ s, x = .tmp s /\ s = q) := by
 cases x with
 | tmp s =>
  simp only [FP.rd] at hx
  cases hg : get env s with
  | path r o =>
   rw [hg] at hx
   simp only [AV.path.injEq] at hx
   exact .inl (h.2 q (by simp [opReads, hg, rootsOf, hx.1]))
  | con k ls =>
   rw [hg] at hx
   cases k with
   | box e => simp only [AV.path.injEq] at hx; exact .inr ⟨s, rfl, hx.1⟩
   | _ => simp at hx
  | _ => rw [hg] at hx; simp at hx
 | const v =>
  exfalso
  have typed : ∀ ty, constAV ty v ≠ .path q off := by
   intro ty h
   unfold constAV at h
   split at h
   ·simp at h
   ·split at h
    ·split at h
     ·simp [mkCon] at h
     ·simp at h
    ·simp at h
  simp only [FP.rd] at hx
  split at hx <;> first | (simp at hx; done) | exact typed _ hx
 | func f => simp [FP.rd] at hx
 | global g => simp [FP.rd] at hx
theorem Agree.rootB {env env2 : Env} {x : Operand} {q off : Nat} (h : Agree (opReads env x) env env2) (ty : Option Ty) (hx : FP.rd ty env x = .path q off) : get env2 q = get env q := by
 rcases h.root ty hx with h1 | ⟨s, rfl, rfl⟩
 ·exact h1
 ·exact h.2 s (by simp [opReads])
def pureReads (env : Env) : Op -> Option (List Nat)
 | .move x | .nilCheck x | .load _ x | .fieldAddr _ x _ | .field _ x _ | .unOp _ _ x | .convert _ _ x => some (opReads env x)
 | .pick c a b => some (opReads env c ++ (opReads env a ++ opReads env b))
 | .binOp _ _ x y _ | .indexAddr _ x y | .index _ x y | .makeSlice _ x y => some (opReads env x ++ opReads env y)
 | .alloc _ => some []
 | .makeFunc _ _ captured => some (captured.toList.flatMap (opReads env))
 | _ => none
section
variable {R : Type} {T : Tab} {sig : FuncId -> Option Sig} {caps : FuncId -> List Ty} {orc : Orc}
theorem Ybj {op : BinOp} {t : TypeId} {x y : AV} {G : AV -> Env} {e : Env} (h : binOp1 T op t x y (fun v => some (G v)) = some e) : ∃ v, e = G v /\ ∀ {A : Type} (K : AV -> Option A), binOp1 T op t x y K = K v := by
 rw [Y36] at h
 obtain ⟨v, h1, h2⟩ := Option.bind_eq_some_iff.1 h
 exact ⟨v, (Option.some.inj h2).symm, fun K => by rw [Y36, h1]; rfl⟩
theorem Yc2 {op : UnOp} {x : AV} {G : AV -> Env} {e : Env} (h : unOp1 op x (fun v => some (G v)) = some e) : ∃ v, e = G v /\ ∀ {A : Type} (K : AV -> Option A), unOp1 op x K = K v := by
 rw [Y3m] at h
 obtain ⟨v, h1, h2⟩ := Option.bind_eq_some_iff.1 h
 exact ⟨v, (Option.some.inj h2).symm, fun K => by rw [Y3m, h1]; rfl⟩
theorem Y3 {env : Env} {d : Nat} (h : (get env d).quiet = true) (v : AV) : setD (some d) env v = put env d v := by
 simp only [setD, h, if_true]
theorem Yc3 {o : Oper} {d : Nat} {env e1 : Env} {Rd : List Nat} (hr : pureReads env o.op = some Rd) (hq : (get env d).quiet = true) (h : evVal T sig caps orc d o env some = some e1) :
  ∃ v, e1 = put env d v /\ ∀ env2, Agree Rd env env2 -> (get env2 d).quiet = true -> evVal T sig caps orc d o env2 some = some (put env2 d v) /\ pureReads env2 o.op = some Rd := by
 cases hop : o.op with
 | move x =>
  rw [hop] at hr
  simp only [pureReads, Option.some.injEq] at hr
  subst hr
  simp only [evVal, hop, Option.some.injEq] at h
  rw [Y3 hq] at h
  exact ⟨_, h.symm, fun env2 ha hq2 => ⟨by simp only [evVal, hop]; rw [ha.rd, Y3 hq2], by simp only [pureReads, ha.reads]⟩⟩
 | nilCheck x =>
  rw [hop] at hr
  simp only [pureReads, Option.some.injEq] at hr
  subst hr
  simp only [evVal, hop] at h
  split at h
  ·rename_i q off hx
   simp only [Option.some.injEq] at h
   rw [Y3 hq] at h
   exact ⟨_, h.symm, fun env2 ha hq2 => ⟨by simp only [evVal, hop]; rw [ha.rd, hx]; simp only [Y3 hq2], by simp only [pureReads, ha.reads]⟩⟩
  ·rename_i f cs hx
   simp only [Option.some.injEq] at h
   rw [Y3 hq] at h
   exact ⟨_, h.symm, fun env2 ha hq2 => ⟨by simp only [evVal, hop]; rw [ha.rd, hx]; simp only [Y3 hq2], by simp only [pureReads, ha.reads]⟩⟩
  ·rename_i f cs hx
   simp only [Option.some.injEq] at h
   rw [Y3 hq] at h
   exact ⟨_, h.symm, fun env2 ha hq2 => ⟨by simp only [evVal, hop]; rw [ha.rd, hx]; simp only [Y3 hq2], by simp only [pureReads, ha.reads]⟩⟩
  ·rename_i f cs hx
   simp only [Option.some.injEq] at h
   rw [Y3 hq] at h
   exact ⟨_, h.symm, fun env2 ha hq2 => ⟨by simp only [evVal, hop]; rw [ha.rd, hx]; simp only [Y3 hq2], by simp only [pureReads, ha.reads]⟩⟩
  ·rename_i f cs hx
   simp only [Option.some.injEq] at h
   rw [Y3 hq] at h
   exact ⟨_, h.symm, fun env2 ha hq2 => ⟨by simp only [evVal, hop]; rw [ha.rd, hx]; simp only [Y3 hq2], by simp only [pureReads, ha.reads]⟩⟩
  ·simp at h
 | load t x =>
  rw [hop] at hr
  simp only [pureReads, Option.some.injEq] at hr
  subst hr
  simp only [evVal, hop] at h
  split at h
  ·rename_i τ ht
   split at h
   ·rename_i q off hx
    split at h
    ·rename_i e ls hb
     split at h
     ·rename_i hty
      simp only [Option.some.injEq] at h
      rw [Y3 hq] at h
      exact ⟨_, h.symm, fun env2 ha hq2 => ⟨by simp only [evVal, hop]; rw [ht]; simp only; rw [ha.rd, hx]; simp only; rw [ha.rootB none hx, hb]; simp only; rw [if_pos hty, Y3 hq2], by simp only [pureReads, ha.reads]⟩⟩
     ·simp at h
    ·simp at h
   ·rename_i ls wr hx
    split at h
    ·rename_i hty
     simp only [Option.some.injEq] at h
     rw [Y3 hq] at h
     exact ⟨_, h.symm, fun env2 ha hq2 => ⟨by simp only [evVal, hop]; rw [ht]; simp only; rw [ha.rd, hx]; simp only; rw [if_pos hty, Y3 hq2], by simp only [pureReads, ha.reads]⟩⟩
    ·simp at h
   ·simp at h
  ·rename_i ht
   split at h
   ·rename_i hfn
    split at h
    ·rename_i f cs hx
     simp only [Option.some.injEq] at h
     rw [Y3 hq] at h
     exact ⟨_, h.symm, fun env2 ha hq2 => ⟨by simp only [evVal, hop]; rw [ht]; simp only; rw [if_pos hfn, ha.rd, hx]; simp only [Y3 hq2], by simp only [pureReads, ha.reads]⟩⟩
    ·simp at h
   ·simp at h
 | fieldAddr s x f =>
  rw [hop] at hr
  simp only [pureReads, Option.some.injEq] at hr
  subst hr
  simp only [evVal, hop] at h
  split at h
  ·rename_i off τ hf
   split at h
   ·rename_i q o' hx
    simp only [Option.some.injEq] at h
    rw [Y3 hq] at h
    exact ⟨_, h.symm, fun env2 ha hq2 => ⟨by simp only [evVal, hop]; rw [hf]; simp only; rw [ha.rd, hx]; simp only [Y3 hq2], by simp only [pureReads, ha.reads]⟩⟩
   ·rename_i ls wr hx
    simp only [Option.some.injEq] at h
    rw [Y3 hq] at h
    exact ⟨_, h.symm, fun env2 ha hq2 => ⟨by simp only [evVal, hop]; rw [hf]; simp only; rw [ha.rd, hx]; simp only [Y3 hq2], by simp only [pureReads, ha.reads]⟩⟩
   ·simp at h
  ·simp at h
 | field s x f =>
  rw [hop] at hr
  simp only [pureReads, Option.some.injEq] at hr
  subst hr
  simp only [evVal, hop] at h
  split at h
  ·rename_i off τ hf
   split at h
   ·rename_i ls hx
    split at h
    ·rename_i hty
     simp only [Option.some.injEq] at h
     rw [Y3 hq] at h
     exact ⟨_, h.symm, fun env2 ha hq2 => ⟨by simp only [evVal, hop]; rw [hf]; simp only; rw [ha.rd, hx]; simp only; rw [if_pos hty, Y3 hq2], by simp only [pureReads, ha.reads]⟩⟩
    ·simp at h
   ·simp at h
  ·simp at h
 | unOp op t x =>
  rw [hop] at hr
  simp only [pureReads, Option.some.injEq] at hr
  subst hr
  simp only [evVal, hop] at h
  obtain ⟨v, rfl, hK⟩ := Yc2 h
  exact ⟨v, Y3 hq v, fun env2 ha hq2 => ⟨by simp only [evVal, hop]; rw [ha.rd, hK, Y3 hq2], by simp only [pureReads, ha.reads]⟩⟩
 | convert s dt x =>
  rw [hop] at hr
  simp only [pureReads, Option.some.injEq] at hr
  subst hr
  simp only [evVal, hop] at h
  split at h
  ·rename_i k k' k2 n hs ht hi
   simp only [Option.some.injEq] at h
   rw [Y3 hq] at h
   exact ⟨_, h.symm, fun env2 ha hq2 => ⟨by simp only [evVal, hop]; rw [hs, ht, ha.rd, hi]; simp only [Y3 hq2], by simp only [pureReads, ha.reads]⟩⟩
  ·rename_i hne
   split at h
   ·rename_i b hb
    simp only [Option.some.injEq] at h
    rw [Y3 hq] at h
    refine ⟨_, h.symm, fun env2 ha hq2 => ⟨?_, by simp only [pureReads, ha.reads]⟩⟩
    have e : (fun ty => rd ty env2 x) = (fun ty => rd ty env x) := funext fun ty => ha.rd ty
    simp only [evVal, hop]
    rw [ha.rd none, e]
    split
    ·rename_i k k' k2 n hs ht hi
     exact (hne _ _ _ _ hs ht hi).elim
    ·rw [hb]; simp only [Y3 hq2]
   ·simp at h
 | pick cc x y =>
  rw [hop] at hr
  simp only [pureReads, Option.some.injEq] at hr
  subst hr
  simp only [evVal, hop] at h
  split at h
  ·rename_i t hb
   cases t with
   | true =>
    simp only [cond_true, Option.some.injEq] at h
    rw [Y3 hq] at h
    refine ⟨_, h.symm, fun env2 ha hq2 => ?_⟩
    have h1 := ha.mono (S' := opReads env cc) (fun k hk => List.mem_append_left _ hk)
    have h2 := ha.mono (S' := opReads env x) (fun k hk => List.mem_append_right _ (List.mem_append_left _ hk))
    have h3 := ha.mono (S' := opReads env y) (fun k hk => List.mem_append_right _ (List.mem_append_right _ hk))
    exact ⟨by simp only [evVal, hop]; rw [h1.rd, hb]; simp only [cond_true]; rw [h2.rd, Y3 hq2], by simp only [pureReads, h1.reads, h2.reads, h3.reads]⟩
   | false =>
    simp only [cond_false, Option.some.injEq] at h
    rw [Y3 hq] at h
    refine ⟨_, h.symm, fun env2 ha hq2 => ?_⟩
    have h1 := ha.mono (S' := opReads env cc) (fun k hk => List.mem_append_left _ hk)
    have h2 := ha.mono (S' := opReads env x) (fun k hk => List.mem_append_right _ (List.mem_append_left _ hk))
    have h3 := ha.mono (S' := opReads env y) (fun k hk => List.mem_append_right _ (List.mem_append_right _ hk))
    exact ⟨by simp only [evVal, hop]; rw [h1.rd, hb]; simp only [cond_false]; rw [h3.rd, Y3 hq2], by simp only [pureReads, h1.reads, h2.reads, h3.reads]⟩
  ·simp at h
 | binOp op t x y t' =>
  rw [hop] at hr
  simp only [pureReads, Option.some.injEq] at hr
  subst hr
  simp only [evVal, hop] at h
  obtain ⟨v, rfl, hK⟩ := Ybj h
  refine ⟨v, Y3 hq v, fun env2 ha hq2 => ?_⟩
  have h1 := ha.mono (S' := opReads env x) (fun k hk => List.mem_append_left _ hk)
  have h2 := ha.mono (S' := opReads env y) (fun k hk => List.mem_append_right _ hk)
  exact ⟨by simp only [evVal, hop]; rw [h1.rd, h2.rd, hK, Y3 hq2], by simp only [pureReads, h1.reads, h2.reads]⟩
 | indexAddr t x y =>
  rw [hop] at hr
  simp only [pureReads, Option.some.injEq] at hr
  subst hr
  simp only [evVal, hop] at h
  split at h
  ·rename_i te he
   split at h
   ·rename_i lx n hx hi
    split at h
    ·rename_i xs hxs
     split at h
     ·simp at h
     ·rename_i hl
      obtain ⟨h0, h⟩ := Y1g h
      simp only [Option.some.injEq] at h
      rw [Y3 hq] at h
      refine ⟨_, h.symm, fun env2 ha hq2 => ?_⟩
      have h1 := ha.mono (S' := opReads env x) (fun k hk => List.mem_append_left _ hk)
      have h2 := ha.mono (S' := opReads env y) (fun k hk => List.mem_append_right _ hk)
      exact ⟨by simp only [evVal, hop]; rw [he]; simp only; rw [h1.rd, h2.rd, hx, hi]; simp only; rw [hxs]; simp only; rw [if_neg hl, h0]; simp only [cond_true, Y3 hq2], by simp only [pureReads, h1.reads, h2.reads]⟩
    ·simp at h
   ·simp at h
  ·simp at h
 | index t x y =>
  rw [hop] at hr
  simp only [pureReads, Option.some.injEq] at hr
  subst hr
  simp only [evVal, hop] at h
  split at h
  ·rename_i s k n ht hs hi
   obtain ⟨b, hb, h⟩ := Option.bind_eq_some_iff.1 h
   simp only [Option.some.injEq] at h
   rw [Y3 hq] at h
   refine ⟨_, h.symm, fun env2 ha hq2 => ?_⟩
   have h1 := ha.mono (S' := opReads env x) (fun k hk => List.mem_append_left _ hk)
   have h2 := ha.mono (S' := opReads env y) (fun k hk => List.mem_append_right _ hk)
   exact ⟨by simp only [evVal, hop]; rw [h1.rd, h2.rd, ht, hs, hi]; simp only; rw [hb]; simp only [Option.bind_some, Y3 hq2], by simp only [pureReads, h1.reads, h2.reads]⟩
  ·simp at h
 | makeSlice t x y =>
  rw [hop] at hr
  simp only [pureReads, Option.some.injEq] at hr
  subst hr
  simp only [evVal, hop] at h
  split at h
  ·rename_i te n m he hl hc
   obtain ⟨h0, h⟩ := Y1g h
   simp only [Option.some.injEq] at h
   rw [Y3 hq] at h
   refine ⟨_, h.symm, fun env2 ha hq2 => ?_⟩
   have h1 := ha.mono (S' := opReads env x) (fun k hk => List.mem_append_left _ hk)
   have h2 := ha.mono (S' := opReads env y) (fun k hk => List.mem_append_right _ hk)
   exact ⟨by simp only [evVal, hop]; rw [h1.rd, h2.rd, he, hl, hc]; simp only; rw [h0]; simp only [cond_true, Y3 hq2], by simp only [pureReads, h1.reads, h2.reads]⟩
  ·simp at h
 | alloc e =>
  rw [hop] at hr
  simp only [pureReads, Option.some.injEq] at hr
  subst hr
  simp only [evVal, hop] at h
  split at h
  ·rename_i τ he
   simp only [Option.some.injEq] at h
   rw [Y3 hq] at h
   exact ⟨_, h.symm, fun env2 ha hq2 => ⟨by simp only [evVal, hop]; rw [he]; simp only [Y3 hq2], rfl⟩⟩
  ·rename_i he
   split at h
   ·rename_i hfn
    simp only [Option.some.injEq] at h
    rw [Y3 hq] at h
    exact ⟨_, h.symm, fun env2 ha hq2 => ⟨by simp only [evVal, hop]; rw [he]; simp only; rw [if_pos hfn]; simp only [Y3 hq2], rfl⟩⟩
   ·simp at h
 | makeFunc fn first captured =>
  rw [hop] at hr
  simp only [pureReads, Option.some.injEq] at hr
  subst hr
  cases fn with
  | func f =>
   simp only [evVal, hop] at h
   split at h
   ·rename_i hf
    split at h
    ·rename_i cs hc
     simp only [Option.some.injEq] at h
     rw [Y3 hq] at h
     refine ⟨_, h.symm, fun env2 ha hq2 => ?_⟩
     have hx : ∀ x ∈ captured.toList, Agree (opReads env x) env env2 := fun x hx => ha.mono (fun k hk => List.mem_flatMap.2 ⟨x, hx, hk⟩)
     have hm : ∀ l : List Operand, (∀ x ∈ l, Agree (opReads env x) env env2) -> l.mapM (fun x => match rd none env2 x with | .path r off => some (r, off) | _ => none) = l.mapM (fun x => match rd none env x with | .path r off => some (r, off) | _ => none) := by
      intro l hl
      induction l with
      | nil => rfl
      | cons x l ih =>
       rw [List.mapM_cons, List.mapM_cons, ih (fun y hy => hl y (List.mem_cons_of_mem _ hy)), (hl x List.mem_cons_self).rd]
     have hf2 : ∀ l : List Operand, (∀ x ∈ l, Agree (opReads env x) env env2) -> l.flatMap (opReads env2) = l.flatMap (opReads env) := by
      intro l hl
      induction l with
      | nil => rfl
      | cons x l ih => rw [List.flatMap_cons, List.flatMap_cons, ih (fun y hy => hl y (List.mem_cons_of_mem _ hy)), (hl x List.mem_cons_self).reads]
     refine ⟨?_, by simp only [pureReads, hf2 _ hx]⟩
     simp only [evVal, hop]
     rw [if_pos hf]
     erw [(hm _ hx).trans hc]
     simp only [Y3 hq2]
    ·simp at h
   ·simp at h
  | _ => simp [evVal, hop] at h
 | _ => rw [hop] at hr; simp [pureReads] at hr
end
end Go.FP

namespace Go.FP
open Go.RowKit
def Mode.isRo : Mode -> Bool
 | .at_ .ro => true
 | _ => false
def inert (env : Env) : Operand -> Bool
 | .tmp s => match get env s with
  | .con k ls => k.plain && ls.all (fun l => l.m.isRo)
  | .undef => false
  | .grow _ _ _ _ _ => false
  | .sel _ _ _ _ _ _ _ => false
  | .junk => false
  | _ => true
 | _ => true
theorem Y33 {m : Mode} (h : m.isRo = true) : m = .at_ .ro := by
 cases m with
 | at_ lv => cases lv <;> simp [Mode.isRo] at h ⊢
 | _ => simp [Mode.isRo] at h
theorem Y5f : ∀ {ls : List Leaf} {env : Env}, ls.all (fun l => l.m.isRo) = true -> freezeAll ls env = env
 | [], env, _ => rfl
 | l :: ls, env, h => by
  simp only [List.all_cons, Bool.and_eq_true] at h
  have hm := Y33 h.1
  unfold freezeAll
  rw [hm]
  exact Y5f h.2
theorem Ydf {env : Env} {s q : Nat} {k : Kind} {ls : List Leaf} (hg : get env s = .con k ls) (hl : ls.all (fun l => l.m.isRo) = true) : pull s q env = env := by
 unfold pull
 rw [hg]
 simp only [AV.leaf?]
 split
 ·rename_i t x r j hq
  have := Y33 (List.all_eq_true.1 hl _ (Yc hq))
  simp at this
 ·rfl
theorem Y9k {env : Env} {s : Nat} {k : Kind} {ls : List Leaf} (hg : get env s = .con k ls) (hl : ls.all (fun l => l.m.isRo) = true) : ∀ n, pulls s n env = env
 | 0 => rfl
 | n + 1 => by rw [pulls, Y9k hg hl n, Ydf hg hl]
theorem Ybk {env : Env} {s : Nat} {k : Kind} {ls : List Leaf} (hg : get env s = .con k ls) (hl : ls.all (fun l => l.m.isRo) = true) : pullAll (.tmp s) env = env := by
 simp only [pullAll, hg]
 split
 ·exact Y9k hg hl _
 ·rfl
theorem Y76 {ty : Option Ty} {env : Env} {s : Nat} {k : Kind} {ls : List Leaf} (hg : get env s = .con k ls) (hk : k.plain = true) (hl : ls.all (fun l => l.m.isRo) = true) : takeIn ty env (.tmp s) = some (env, .con k ls) := by
 rw [takeIn, Ybk hg hl]
 simp only [takeIn0, hg, hk, if_true, Y5f hl]
 have h1 : ls.all (fun l => l.m.settled) = true := List.all_eq_true.2 fun l hl' => by rw [Y33 (List.all_eq_true.1 hl l hl')]; rfl
 have h2 : ls.any (fun l => l.m.own) = false := by
  cases ha : ls.any (fun l => l.m.own) with
  | false => rfl
  | true =>
   obtain ⟨l, hl', ho⟩ := List.any_eq_true.1 ha
   rw [Y33 (List.all_eq_true.1 hl l hl')] at ho
   simp [Mode.own] at ho
 rw [if_pos (by exact ⟨trivial, h1⟩), h2]
 rfl
theorem Y12 {env env2 : Env} {x : Operand} (h : inert env x = true) (ha : Agree (opReads env x) env env2) (ty : Option Ty) : ∃ av, takeIn ty env x = some (env, av) /\ takeIn ty env2 x = some (env2, av) /\ inert env2 x = true := by
 cases x with
 | tmp s =>
  have hg2 := ha.2 s (by simp [opReads])
  cases hg : get env s with
  | con k ls =>
   simp only [inert, hg, Bool.and_eq_true] at h
   rw [hg] at hg2
   exact ⟨_, Y76 hg h.1 h.2, Y76 hg2 h.1 h.2, by simp only [inert, hg2, Bool.and_eq_true]; exact h⟩
  | undef => simp [inert, hg] at h
  | grow _ _ _ _ _ => simp [inert, hg] at h
  | sel _ _ _ _ _ _ _ => simp [inert, hg] at h
  | junk => simp [inert, hg] at h
  | skip => rw [hg] at hg2; exact ⟨.skip, by simp only [takeIn, pullAll, takeIn0, hg], by simp only [takeIn, pullAll, takeIn0, hg2], by simp only [inert, hg2]⟩
  | path r off => rw [hg] at hg2; exact ⟨.path r off, by simp only [takeIn, pullAll, takeIn0, hg], by simp only [takeIn, pullAll, takeIn0, hg2], by simp only [inert, hg2]⟩
  | eptr ls wr => rw [hg] at hg2; exact ⟨.eptr ls wr, by simp only [takeIn, pullAll, takeIn0, hg], by simp only [takeIn, pullAll, takeIn0, hg2], by simp only [inert, hg2]⟩
  | fptr f caps => rw [hg] at hg2; exact ⟨.fptr f caps, by simp only [takeIn, pullAll, takeIn0, hg], by simp only [takeIn, pullAll, takeIn0, hg2], by simp only [inert, hg2]⟩
  | cloS f caps => rw [hg] at hg2; exact ⟨.cloS f caps, by simp only [takeIn, pullAll, takeIn0, hg], by simp only [takeIn, pullAll, takeIn0, hg2], by simp only [inert, hg2]⟩
  | cloR f caps => rw [hg] at hg2; exact ⟨.cloR f caps, by simp only [takeIn, pullAll, takeIn0, hg], by simp only [takeIn, pullAll, takeIn0, hg2], by simp only [inert, hg2]⟩
  | clo f caps => rw [hg] at hg2; exact ⟨.clo f caps, by simp only [takeIn, pullAll, takeIn0, hg], by simp only [takeIn, pullAll, takeIn0, hg2], by simp only [inert, hg2]⟩
 | const v => exact ⟨_, rfl, rfl, rfl⟩
 | func f => exact ⟨_, rfl, rfl, rfl⟩
 | global g => exact ⟨_, rfl, rfl, rfl⟩
theorem Y2l {env env1 env2 : Env} {x : Operand} {τ : Ty} {ls : List Leaf} (h : inert env x = true) (ha : Agree (opReads env x) env env2) (ht : takeAs τ env x = some (env1, ls)) : env1 = env /\ takeAs τ env2 x = some (env2, ls) /\ inert env2 x = true := by
 obtain ⟨av, h1, h2, h3⟩ := Y12 h ha (some τ)
 unfold takeAs at ht ⊢
 rw [h1] at ht
 rw [h2]
 split at ht
 ·rename_i e k ls' heq
  simp only [Option.some.injEq, Prod.mk.injEq] at heq
  obtain ⟨rfl, rfl⟩ := heq
  split at ht
  ·rename_i hc
   simp only [Option.some.injEq, Prod.mk.injEq] at ht
   obtain ⟨rfl, rfl⟩ := ht
   exact ⟨rfl, by simp only; rw [if_pos hc], h3⟩
  ·simp at ht
 ·simp at ht
theorem Y2m {t : Ty} {env2 : Env} : ∀ {parts : List (Nat × Operand)} {env env' : Env} {n : Nat} {xs : List t.D} {dp : Bool}, (∀ p ∈ parts, inert env p.2 = true) -> (∀ p ∈ parts, Agree (opReads env p.2) env env2) -> elemParts t env n parts = some (env', xs, dp) -> env' = env /\ elemParts t env2 n parts = some (env2, xs, dp)
 | [], env, env', n, xs, dp, _, _, h => by
  simp only [elemParts, Option.some.injEq, Prod.mk.injEq] at h ⊢
  exact ⟨h.1.symm, trivial, h.2⟩
 | (i, x) :: parts, env, env', n, xs, dp, hi, ha, h => by
  simp only [elemParts] at h ⊢
  split at h
  ·rename_i hin
   rw [if_pos hin]
   cases hta : takeAs t env x with
   | none => rw [hta] at h; simp at h
   | some q =>
    obtain ⟨env1, l⟩ := q
    obtain ⟨e1, k2, _⟩ := Y2l (hi _ List.mem_cons_self) (ha _ List.mem_cons_self) hta
    subst e1
    rw [hta] at h
    rw [k2]
    simp only at h ⊢
    split at h
    ·rename_i v hv
     split at h
     ·rename_i e2 vs d hrec
      obtain ⟨rfl, k3⟩ := Y2m (fun p hp => hi p (List.mem_cons_of_mem _ hp)) (fun p hp => ha p (List.mem_cons_of_mem _ hp)) hrec
      rw [k3]
      simp only [Option.some.injEq, Prod.mk.injEq] at h ⊢
      exact ⟨h.1.symm, trivial, h.2⟩
     ·simp at h
    ·simp at h
  ·simp at h
theorem Y2g {T : Tab} {t : TypeId} {env2 : Env} : ∀ {parts : List (Nat × Operand)} {env env' : Env} {ls ls' : List Leaf}, (∀ p ∈ parts, inert env p.2 = true) -> (∀ p ∈ parts, Agree (opReads env p.2) env env2) -> buildParts T t env ls parts = some (env', ls') -> env' = env /\ buildParts T t env2 ls parts = some (env2, ls')
 | [], env, env', ls, ls', _, _, h => by
  simp only [buildParts, Option.some.injEq, Prod.mk.injEq] at h ⊢
  exact ⟨h.1.symm, trivial, h.2⟩
 | (f, x) :: parts, env, env', ls, ls', hi, ha, h => by
  simp only [buildParts] at h ⊢
  split at h
  ·rename_i off τ hf
   cases hta : takeAs τ env x with
   | none => rw [hta] at h; simp at h
   | some q =>
    obtain ⟨env1, l⟩ := q
    obtain ⟨e1, k2, _⟩ := Y2l (hi _ List.mem_cons_self) (ha _ List.mem_cons_self) hta
    subst e1
    rw [hta] at h
    rw [k2]
    simp only at h ⊢
    split at h
    ·rename_i hle
     rw [if_pos hle]
     exact Y2g (fun p hp => hi p (List.mem_cons_of_mem _ hp)) (fun p hp => ha p (List.mem_cons_of_mem _ hp)) h
    ·simp at h
  ·simp at h
theorem Ycz (ty : Option Ty) (env : Env) (x : Operand) : ∀ q ∈ rootsOf (rd ty env x), q ∈ opReads env x := by
 have typed : ∀ ty v, rootsOf (constAV ty v) = [] := by
  intro ty v
  unfold constAV
  split
  ·rfl
  ·split
   ·split <;> rfl
   ·rfl
 cases x with
 | tmp s =>
  intro q hq
  simp only [rd] at hq
  cases hg : get env s with
  | con k ls => rw [hg] at hq; cases k <;> simp [rootsOf] at hq ⊢ <;> simp [opReads, hq]
  | path r off => rw [hg] at hq; simp [rootsOf] at hq; simp [opReads, hg, rootsOf, hq]
  | clo f cs => rw [hg] at hq; simp only [opReads, hg]; exact List.mem_cons_of_mem _ hq
  | _ => rw [hg] at hq; simp [rootsOf] at hq
 | const v =>
  intro q hq
  simp only [rd] at hq
  split at hq <;> first | (simp [rootsOf] at hq; done) | (rw [typed] at hq; simp at hq)
 | func f => intro q hq; simp [rd, rootsOf] at hq
 | global g => intro q hq; simp [rd, rootsOf] at hq
theorem Y5g {env env2 : Env} : ∀ {cs : List (Nat × Nat)} {ts : List Ty}, (∀ p ∈ cs, get env2 p.1 = get env p.1) -> capsOf env2 cs ts = capsOf env cs ts
 | [], [], _ => rfl
 | [], t :: ts, _ => rfl
 | p :: cs, [], _ => rfl
 | (q, off) :: cs, t :: ts, h => by
  have h1 := h (q, off) List.mem_cons_self
  simp only [capsOf, Y5g (ts := ts) (fun p hp => h p (List.mem_cons_of_mem _ hp))]
  have : ptrOf env2 t q off = ptrOf env t q off := by
   unfold ptrOf
   have h1 : get env2 q = get env q := h1
   rw [h1]
  rw [this]
theorem Y83 {caps : FuncId -> List Ty} {env env2 : Env} : ∀ {ps : List PTy} {vs : List AV}, (∀ v ∈ vs, ∀ q ∈ rootsOf v, get env2 q = get env q) -> RVs caps env2 ps vs = RVs caps env ps vs
 | [], [], _ => rfl
 | [], v :: vs, _ => rfl
 | p :: ps, [], _ => rfl
 | p :: ps, v :: vs, h => by
  have h1 := h v List.mem_cons_self
  have : RVof caps env2 p v = RVof caps env p v := by
   unfold RVof
   split
   ·rfl
   ·rename_i t q off
    have h2 : get env2 q = get env q := h1 q (by simp [rootsOf])
    unfold ptrOf
    rw [h2]
   ·rfl
   ·rfl
   ·rename_i f cs
    rw [Y5g (fun p hp => h1 p.1 (by simp only [rootsOf]; exact List.mem_map.2 ⟨p, hp, rfl⟩))]
   ·rfl
  simp only [RVs, this, Y83 (ps := ps) (fun v hv => h v (List.mem_cons_of_mem _ hv))]
theorem Y5h {env env2 : Env} : ∀ {ps : List PTy} {xs : List Operand}, (∀ x ∈ xs, Agree (opReads env x) env env2) -> rdArgs env2 ps xs = rdArgs env ps xs
 | [], xs, _ => by cases xs <;> rfl
 | p :: ps, [], _ => rfl
 | p :: ps, x :: xs, h => by
  simp only [rdArgs]
  rw [(h x List.mem_cons_self).rd, Y5h (fun y hy => h y (List.mem_cons_of_mem _ hy))]
theorem Y5i {env : Env} : ∀ {ps : List PTy} {xs : List Operand}, ∀ v ∈ rdArgs env ps xs, ∀ q ∈ rootsOf v, ∃ x ∈ xs, q ∈ opReads env x
 | [], xs, v, hv => by cases xs <;> simp [rdArgs] at hv
 | p :: ps, [], v, hv => by simp [rdArgs] at hv
 | p :: ps, x :: xs, v, hv => by
  simp only [rdArgs, List.mem_cons] at hv
  intro q hq
  rcases hv with rfl | hv
  ·exact ⟨x, List.mem_cons_self, Ycz _ _ _ q hq⟩
  ·obtain ⟨y, hy, h⟩ := Y5i v hv q hq
   exact ⟨y, List.mem_cons_of_mem _ hy, h⟩
section
variable {T : Tab} {sig : FuncId -> Option Sig} {caps : FuncId -> List Ty} {orc : Orc}
def freshSig (sig : FuncId -> Option Sig) (f : FuncId) : Bool := match sig f with
 | some sg => (sg.box.isNone && sg.newb.isNone) && (!sg.muts && (!sg.own && allFresh sg.results))
 | none => false
theorem Y66 {d : Nat} {f : FuncId} {args : List Operand} {extra : List AV} {env e1 env2 : Env} (hf : freshSig sig f = true) (hq : (get env d).quiet = true) (h : call1 sig caps orc (some d) f args extra env some = some e1) :
  ∃ v, e1 = put env d v /\ ∀ env2, (∀ x ∈ args, Agree (opReads env x) env env2) -> (∀ v ∈ extra, ∀ q ∈ rootsOf v, get env2 q = get env q) -> (get env2 d).quiet = true -> call1 sig caps orc (some d) f args extra env2 some = some (put env2 d v) := by
 unfold call1 at h
 split at h
 ·simp at h
 ·rename_i sg hsg
  have hmf0 : (sg.box = none /\ sg.newb = none) /\ sg.muts = false /\ sg.own = false /\ allFresh sg.results = true := by simpa [freshSig, hsg] using hf
  obtain ⟨hbx, hmf⟩ := hmf0
  have haf := hmf.2.2
  simp only [hbx.1, hbx.2] at h
  split at h
  ·rename_i hm
   rw [if_neg (by rw [hmf.2.1]; simp)] at h
   split at h
   ·rename_i hc
    split at h
    ·simp at h
    ·rename_i rvs hrv
     split at h
     ·simp at h
     rename_i q hq'
     obtain ⟨xs, hxs, h⟩ := Option.bind_eq_some_iff.1 h
     split at h
     ·simp at h
     ·rename_i v hv
      simp only [Option.some.injEq] at h
      rw [Y3 hq] at h
      refine ⟨v, h.symm, fun env2 ha he hq2 => ?_⟩
      have hrd := Y5h (ps := sg.params) ha
      have hrv2 : RVs caps env2 sg.params (rdArgs env sg.params args ++ extra) = some rvs := by
       rw [Y83, hrv]
       intro v hv q hq
       rcases List.mem_append.1 hv with hv | hv
       ·obtain ⟨x, hx, hqx⟩ := Y5i v hv q hq
        exact (ha x hx).2 q hqx
       ·exact he v hv q hq
      unfold call1
      rw [hsg]
      simp only [hbx.1, hbx.2, hm, hrd]
      rw [if_neg (by rw [hmf.2.1]; simp)]
      rw [if_pos hc, hrv2]
      simp only [hq', hxs, Option.bind_some, hv]
      rw [if_pos haf, Y3 hq2]
   ·simp at h
  ·rename_i hm; rw [hmf.1] at hm; simp at hm
end
end Go.FP

namespace Go.FP
open Go.RowKit
def allReads (env : Env) (xs : List Operand) : List Nat := xs.flatMap (opReads env)
def footVal (sig : FuncId -> Option Sig) (env : Env) (d : Nat) (o : Oper) : Foot1 :=
 if (get env d).quiet then
  match pureReads env o.op with
  | some Rd => some (d, Rd)
  | none => match o.op with
   | .assign x => if inert env x then some (d, opReads env x) else none
   | .box _ x => if inert env x then some (d, opReads env x) else none
   | .build _ ps => if ps.toList.all (fun p => inert env p.2) then some (d, allReads env (ps.toList.map (·.2))) else none
   | .buildSlice _ _ ps => if ps.toList.all (fun p => inert env p.2) then some (d, allReads env (ps.toList.map (·.2))) else none
   | .slice _ x lo hi _ => if inert env x then some (d, opReads env x ++ allReads env (lo.toList ++ hi.toList)) else none
   | .extract x _ => match x with
    | .tmp s => match get env s with
     | .con (.tup _) ls => if ls.all (fun l => !l.m.own) then some (d, [s]) else none
     | _ => none
    | _ => none
   | .call c => match c.callee with
    | .value (.func f) => if freshSig sig f then some (d, allReads env c.args.toList) else none
    | .value (.tmp t) => match get env t with
     | .clo f _ => if freshSig sig f then some (d, opReads env (.tmp t) ++ allReads env c.args.toList) else none
     | _ => none
    | .builtin .len => some (d, allReads env c.args.toList)
    | .builtin .max => some (d, allReads env c.args.toList)
    | .builtin .min => some (d, allReads env c.args.toList)
    | _ => none
   | _ => none
 else none
theorem Yp {env env2 : Env} : ∀ {xs : List Operand}, Agree (allReads env xs) env env2 -> (∀ x ∈ xs, Agree (opReads env x) env env2) /\ allReads env2 xs = allReads env xs
 | [], _ => ⟨by simp, rfl⟩
 | x :: xs, h => by
  have h1 := h.mono (S' := opReads env x) (fun k hk => by simp only [allReads, List.flatMap_cons]; exact List.mem_append_left _ hk)
  have h2 := h.mono (S' := allReads env xs) (fun k hk => by simp only [allReads, List.flatMap_cons]; exact List.mem_append_right _ hk)
  obtain ⟨k1, k2⟩ := Yp h2
  refine ⟨fun y hy => ?_, ?_⟩
  ·rcases List.mem_cons.1 hy with rfl | hy
   ·exact h1
   ·exact k1 y hy
  ·simp only [allReads, List.flatMap_cons] at k2 ⊢
   rw [h1.reads, k2]
theorem Y77 {env : Env} {x : Operand} (h : inert env x = true) : nestB env x = false := by
 cases x with
 | tmp s =>
  cases hg : get env s with
  | con k ls =>
   simp only [inert, hg, Bool.and_eq_true] at h
   have : (ls.any fun l => l.m.nested) = false := by
    rw [List.any_eq_false]
    intro l hl
    rw [Y33 (List.all_eq_true.1 h.2 l hl)]
    simp [Mode.nested]
   cases k with
   | box e => simp [Kind.plain] at h
   | _ => simp [nestB, hg, this]
  | _ => simp [nestB, hg]
 | _ => rfl
theorem Y5j {env env2 : Env} : ∀ {lo : Option Operand}, (∀ x ∈ lo.toList, Agree (opReads env x) env env2) -> optInt env2 lo = optInt env lo
 | none, _ => rfl
 | some x, h => by simp only [optInt]; rw [(h x (by simp)).rd]
theorem Y5k {env : Env} {x : Operand} {ty : Option Ty} {lx : Leaf} (h : inert env x = true) (hx : rd ty env x = .con .val [lx]) (e : Env) : freezeAll [lx] e = e := by
 have hm : lx.m.settled = true := by
  cases x with
  | tmp s =>
   cases hg : get env s with
   | con k ls =>
    simp only [inert, hg, Bool.and_eq_true] at h
    cases k with
    | val =>
     simp only [rd, hg, AV.con.injEq, true_and] at hx
     cases ls with
     | nil => simp [borrowFrom] at hx
     | cons l ls =>
      simp only [borrowFrom, List.cons.injEq] at hx
      have hl : l.m.isRo = true := List.all_eq_true.1 h.2 l (by simp)
      rw [Y33 hl] at hx
      simp only [Mode.own, Bool.false_eq_true, if_false] at hx
      rw [<- hx.1, Y33 hl]
      rfl
    | agg => simp [rd, hg] at hx
    | tup sh => simp [rd, hg] at hx
    | box e => simp [rd, hg] at hx
   | _ => simp [rd, hg] at hx
  | const v => exact Y10 (ty := ty) (env := env) (env' := env) (x := .const v) (k := .val) (ls := [lx]) (by rw [<- hx]; rfl) lx (by simp)
  | func f => simp [rd] at hx
  | global g => simp [rd] at hx
 simp only [freezeAll]
 split
 ·rename_i hb; rw [hb] at hm; simp [Mode.settled] at hm
 ·rfl
section
variable {T : Tab} {sig : FuncId -> Option Sig} {caps : FuncId -> List Ty} {orc : Orc}
theorem Y9l {o : Oper} {d t : Nat} {env e1 : Env} {Rd : List Nat} (hf : footVal sig env d o = some (t, Rd)) (h : evVal T sig caps orc d o env some = some e1) :
  t = d /\ ∃ v, e1 = put env d v /\ ∀ env2, Agree (d :: Rd) env env2 -> evVal T sig caps orc d o env2 some = some (put env2 d v) /\ footVal sig env2 d o = some (d, Rd) := by
 unfold footVal at hf
 split at hf
 ·rename_i hq
  have quiet2 : ∀ {env2 : Env} {S : List Nat}, Agree (d :: S) env env2 -> (get env2 d).quiet = true := fun ha => by rw [ha.2 d List.mem_cons_self]; exact hq
  have tail : ∀ {env2 : Env} {S : List Nat}, Agree (d :: S) env env2 -> Agree S env env2 := fun ha => ha.mono (fun k hk => List.mem_cons_of_mem _ hk)
  cases hp : pureReads env o.op with
  | some Rd0 =>
   rw [hp] at hf
   simp only [Option.some.injEq, Prod.mk.injEq] at hf
   obtain ⟨rfl, rfl⟩ := hf
   obtain ⟨v, e, k⟩ := Yc3 hp hq h
   refine ⟨rfl, v, e, fun env2 ha => ?_⟩
   obtain ⟨k1, k2⟩ := k env2 (tail ha) (quiet2 ha)
   exact ⟨k1, by unfold footVal; rw [if_pos (quiet2 ha), k2]⟩
  | none =>
   rw [hp] at hf
   simp only at hf
   have none2 : ∀ env2 : Env, pureReads env2 o.op = none := by
    intro env2
    cases hop : o.op <;> rw [hop] at hp <;> simp [pureReads] at hp ⊢
   cases hop : o.op with
   | assign x =>
    rw [hop] at hf
    simp only at hf
    split at hf
    ·rename_i hi
     simp only [Option.some.injEq, Prod.mk.injEq] at hf
     obtain ⟨rfl, rfl⟩ := hf
     simp only [evVal, hop] at h
     obtain ⟨av, k1, _, _⟩ := Y12 hi (env2 := env) ⟨rfl, fun _ _ => rfl⟩ (T.ty o.type)
     rw [Y77 hi, k1] at h
     simp only [Bool.false_eq_true, if_false, Option.some.injEq] at h
     rw [Y3 hq] at h
     refine ⟨rfl, av, h.symm, fun env2 ha => ?_⟩
     obtain ⟨av', k1', k2', k3'⟩ := Y12 hi (tail ha) (T.ty o.type)
     rw [k1] at k1'
     simp only [Option.some.injEq, Prod.mk.injEq] at k1'
     refine ⟨by simp only [evVal, hop]; rw [Y77 k3', k2']; simp only [Bool.false_eq_true, if_false]; rw [Y3 (quiet2 ha), <- k1'.2], ?_⟩
     unfold footVal
     rw [if_pos (quiet2 ha), none2 env2]
     simp only [hop, k3', if_true, (tail ha).reads]
    ·simp at hf
   | box e x =>
    rw [hop] at hf
    simp only at hf
    split at hf
    ·rename_i hi
     simp only [Option.some.injEq, Prod.mk.injEq] at hf
     obtain ⟨rfl, rfl⟩ := hf
     simp only [evVal, hop] at h
     split at h
     ·rename_i τ he
      split at h
      ·rename_i env' ls hta
       obtain ⟨rfl, _, _⟩ := Y2l hi (env2 := env) ⟨rfl, fun _ _ => rfl⟩ hta
       simp only [Option.some.injEq] at h
       rw [Y3 hq] at h
       refine ⟨rfl, _, h.symm, fun env2 ha => ?_⟩
       obtain ⟨_, k2', k3'⟩ := Y2l hi (tail ha) hta
       refine ⟨by simp only [evVal, hop]; rw [he]; simp only; rw [k2']; simp only; rw [Y3 (quiet2 ha)], ?_⟩
       unfold footVal
       rw [if_pos (quiet2 ha), none2 env2]
       simp only [hop, k3', if_true, (tail ha).reads]
      ·simp at h
     ·simp at h
    ·simp at hf
   | build t' ps =>
    rw [hop] at hf
    simp only at hf
    split at hf
    ·rename_i hi
     simp only [Option.some.injEq, Prod.mk.injEq] at hf
     obtain ⟨rfl, rfl⟩ := hf
     have hi' : ∀ p ∈ ps.toList, inert env p.2 = true := fun p hp => List.all_eq_true.1 hi p hp
     simp only [evVal, hop] at h
     split at h
     ·rename_i τ he
      split at h
      ·rename_i hag
       split at h
       ·rename_i env' ls hb
        obtain ⟨rfl, _⟩ := Y2g hi' (env2 := env) (fun _ _ => ⟨rfl, fun _ _ => rfl⟩) hb
        simp only [Option.some.injEq] at h
        rw [Y3 hq] at h
        refine ⟨rfl, _, h.symm, fun env2 ha => ?_⟩
        obtain ⟨a1, a2⟩ := Yp (tail ha)
        have a1' : ∀ p ∈ ps.toList, Agree (opReads env' p.2) env' env2 := fun p hp => a1 _ (List.mem_map.2 ⟨p, hp, rfl⟩)
        obtain ⟨_, k2⟩ := Y2g hi' a1' hb
        have hi2 : ps.toList.all (fun p => inert env2 p.2) = true := List.all_eq_true.2 fun p hp => (Y12 (hi' p hp) (a1' p hp) none).choose_spec.2.2
        refine ⟨by simp only [evVal, hop]; rw [he]; simp only; rw [if_pos hag, k2]; simp only; rw [Y3 (quiet2 ha)], ?_⟩
        unfold footVal
        rw [if_pos (quiet2 ha), none2 env2]
        simp only [hop, hi2, if_true, a2]
       ·simp at h
      ·simp at h
     ·simp at h
    ·simp at hf
   | buildSlice t' n ps =>
    rw [hop] at hf
    simp only at hf
    split at hf
    ·rename_i hi
     simp only [Option.some.injEq, Prod.mk.injEq] at hf
     obtain ⟨rfl, rfl⟩ := hf
     have hi' : ∀ p ∈ ps.toList, inert env p.2 = true := fun p hp => List.all_eq_true.1 hi p hp
     simp only [evVal, hop] at h
     split at h
     ·rename_i te he
      split at h
      ·rename_i hc
       split at h
       ·rename_i env' xs dp hb
        obtain ⟨rfl, _⟩ := Y2m hi' (env2 := env) (fun _ _ => ⟨rfl, fun _ _ => rfl⟩) hb
        simp only [Option.some.injEq] at h
        rw [Y3 hq] at h
        refine ⟨rfl, _, h.symm, fun env2 ha => ?_⟩
        obtain ⟨a1, a2⟩ := Yp (tail ha)
        have a1' : ∀ p ∈ ps.toList, Agree (opReads env' p.2) env' env2 := fun p hp => a1 _ (List.mem_map.2 ⟨p, hp, rfl⟩)
        obtain ⟨_, k2⟩ := Y2m hi' a1' hb
        have hi2 : ps.toList.all (fun p => inert env2 p.2) = true := List.all_eq_true.2 fun p hp => (Y12 (hi' p hp) (a1' p hp) none).choose_spec.2.2
        refine ⟨by simp only [evVal, hop]; rw [he]; simp only; rw [if_pos hc, k2]; simp only; rw [Y3 (quiet2 ha)], ?_⟩
        unfold footVal
        rw [if_pos (quiet2 ha), none2 env2]
        simp only [hop, hi2, if_true, a2]
       ·simp at h
      ·simp at h
     ·simp at h
    ·simp at hf
   | slice t' x lo hi mx =>
    rw [hop] at hf
    simp only at hf
    split at hf
    ·rename_i hin
     simp only [Option.some.injEq, Prod.mk.injEq] at hf
     obtain ⟨rfl, rfl⟩ := hf
     have key : ∀ env2, Agree (d :: (opReads env x ++ allReads env (lo.toList ++ hi.toList))) env env2 -> footVal sig env2 d o = some (d, opReads env x ++ allReads env (lo.toList ++ hi.toList)) /\ (∀ ty, rd ty env2 x = rd ty env x) /\ optInt env2 lo = optInt env lo /\ optInt env2 hi = optInt env hi := fun env2 ha => by
      have a0 := (tail ha).mono (S' := opReads env x) (fun k hk => List.mem_append_left _ hk)
      obtain ⟨a1, a2⟩ := Yp ((tail ha).mono (fun k hk => List.mem_append_right _ hk))
      obtain ⟨_, _, _, a3⟩ := Y12 hin a0 none
      refine ⟨?_, fun ty => a0.rd ty, Y5j (fun y hy => a1 y (by simp at hy ⊢; simp [hy])), Y5j (fun y hy => a1 y (by simp at hy ⊢; simp [hy]))⟩
      unfold footVal
      rw [if_pos (quiet2 ha), none2 env2]
      simp only [hop, a3, if_true, a0.reads, a2]
     simp only [evVal, hop] at h
     split at h
     ·simp at h
     ·split at h
      ·rename_i va vb hva hvb
       split at h
       ·rename_i sx hsx
        split at h
        ·rename_i hty
         have hc : (decide (0 <= va.getD 0) && (decide (va.getD 0 <= vb.getD (sx.size : Int)) && decide (vb.getD (sx.size : Int) <= (sx.size : Int)))) = true := by
          cases hcc : (decide (0 <= va.getD 0) && (decide (va.getD 0 <= vb.getD (sx.size : Int)) && decide (vb.getD (sx.size : Int) <= (sx.size : Int)))) with
          | true => rfl
          | false => rw [hcc] at h; simp at h
         rw [hc] at h
         simp only [cond_true, Option.some.injEq] at h
         rw [Y3 hq] at h
         refine ⟨rfl, _, h.symm, fun env2 ha => ?_⟩
         obtain ⟨b1, b2, b3, b4⟩ := key env2 ha
         refine ⟨?_, b1⟩
         simp only [evVal, hop, b2, b3, b4, hva, hvb, hsx, hty, hc, cond_true]
         rw [Y3 (quiet2 ha)]
        ·simp at h
       ·rename_i hsx
        split at h
        ·rename_i te hte
         split at h
         ·rename_i lx hrd
          split at h
          ·rename_i xs has
           split at h
           ·simp at h
           ·rename_i hl
            have hc : (decide (0 <= va.getD 0) && (decide (va.getD 0 <= vb.getD (xs.length : Int)) && decide (vb.getD (xs.length : Int) <= (xs.length : Int)))) = true := by
             cases hcc : (decide (0 <= va.getD 0) && (decide (va.getD 0 <= vb.getD (xs.length : Int)) && decide (vb.getD (xs.length : Int) <= (xs.length : Int)))) with
             | true => rfl
             | false => rw [hcc] at h; simp at h
            rw [hc] at h
            simp only [cond_true, Option.some.injEq] at h
            rw [Y5k hin hrd, Y3 hq] at h
            refine ⟨rfl, _, h.symm, fun env2 ha => ?_⟩
            obtain ⟨b1, b2, b3, b4⟩ := key env2 ha
            refine ⟨?_, b1⟩
            simp only [evVal, hop, b2, b3, b4, hva, hvb, hsx, hte, hrd, has, hc, cond_true]
            rw [if_neg hl, Y5k hin hrd, Y3 (quiet2 ha)]
          ·simp at h
         ·simp at h
        ·simp at h
      ·simp at h
    ·simp at hf
   | extract x i =>
    rw [hop] at hf
    simp only at hf
    split at hf
    ·rename_i s
     split at hf
     ·rename_i sh ls hs
      split at hf
      ·rename_i hno
       simp only [Option.some.injEq, Prod.mk.injEq] at hf
       obtain ⟨rfl, rfl⟩ := hf
       simp only [evVal, hop, hs] at h
       split at h
       ·rename_i off agg n ho
        have hany : (takeLs n (dropLs off ls)).any (fun l => l.m.own) = false := by
         cases ha : (takeLs n (dropLs off ls)).any (fun l => l.m.own) with
         | false => rfl
         | true =>
          obtain ⟨l, hl, hlo⟩ := List.any_eq_true.1 ha
          rw [Ys, Yu] at hl
          have := List.all_eq_true.1 hno l (List.mem_of_mem_drop (List.mem_of_mem_take hl))
          rw [hlo] at this
          simp at this
        split at h
        ·rename_i hlive
         simp only [hany, Bool.false_eq_true, if_false, Option.some.injEq] at h
         rw [Y3 hq] at h
         refine ⟨rfl, _, h.symm, fun env2 ha => ?_⟩
         have hs2 : get env2 s = .con (.tup sh) ls := (ha.2 s (by simp)).trans hs
         refine ⟨by simp only [evVal, hop, hs2, ho]; rw [if_pos hlive]; simp only [hany, Bool.false_eq_true, if_false]; rw [Y3 (quiet2 ha)], ?_⟩
         unfold footVal
         rw [if_pos (quiet2 ha), none2 env2]
         simp only [hop, hs2, hno, if_true]
        ·simp at h
       ·simp at h
      ·simp at hf
     ·simp at hf
    ·simp at hf
   | call cl =>
    rw [hop] at hf
    simp only at hf
    split at hf
    ·rename_i f hc
     split at hf
     ·rename_i hfr
      simp only [Option.some.injEq, Prod.mk.injEq] at hf
      obtain ⟨rfl, rfl⟩ := hf
      simp only [evVal, hop, hc] at h
      obtain ⟨v, e, k⟩ := Y66 (env2 := env) hfr hq h
      refine ⟨rfl, v, e, fun env2 ha => ?_⟩
      obtain ⟨a1, a2⟩ := Yp (tail ha)
      refine ⟨by simp only [evVal, hop, hc]; exact k env2 a1 (by simp) (quiet2 ha), ?_⟩
      unfold footVal
      rw [if_pos (quiet2 ha), none2 env2]
      simp only [hop, hc, hfr, if_true, a2]
     ·simp at hf
    ·rename_i t' hc
     split at hf
     ·rename_i f cs ht
      split at hf
      ·rename_i hfr
       simp only [Option.some.injEq, Prod.mk.injEq] at hf
       obtain ⟨rfl, rfl⟩ := hf
       simp only [evVal, hop, hc, ht] at h
       obtain ⟨v, e, k⟩ := Y66 (env2 := env) hfr hq h
       refine ⟨rfl, v, e, fun env2 ha => ?_⟩
       have hb := (tail ha).mono (S' := opReads env (.tmp t')) (fun k hk => List.mem_append_left _ hk)
       obtain ⟨a1, a2⟩ := Yp ((tail ha).mono (fun k hk => List.mem_append_right _ hk))
       have ht2 : get env2 t' = .clo f cs := (hb.2 t' (by simp [opReads])).trans ht
       refine ⟨by
        simp only [evVal, hop, hc, ht2]
        refine k env2 a1 (fun v hv q hq => ?_) (quiet2 ha)
        simp only [List.mem_map] at hv
        obtain ⟨p, hp, rfl⟩ := hv
        simp only [rootsOf, List.mem_singleton] at hq
        refine hb.2 q ?_
        simp only [opReads, ht, rootsOf]
        exact List.mem_cons_of_mem _ (List.mem_map.2 ⟨p, hp, hq.symm⟩), ?_⟩
       unfold footVal
       rw [if_pos (quiet2 ha), none2 env2]
       simp only [hop, hc, ht2, hfr, if_true, a2, hb.reads]
      ·simp at hf
     ·simp at hf
    ·rename_i hc
     simp only [Option.some.injEq, Prod.mk.injEq] at hf
     obtain ⟨rfl, rfl⟩ := hf
     have key : ∀ env2, Agree (d :: allReads env cl.args.toList) env env2 -> footVal sig env2 d o = some (d, allReads env cl.args.toList) := fun env2 ha => by
      unfold footVal
      rw [if_pos (quiet2 ha), none2 env2]
      simp only [hop, hc, (Yp (tail ha)).2]
     simp only [evVal, hop, hc] at h
     split at h
     ·rename_i x t' hargs htys
      have hx : ∀ env2, Agree (d :: allReads env cl.args.toList) env env2 -> Agree (opReads env x) env env2 := fun env2 ha => (Yp (tail ha)).1 x (by rw [hargs]; simp)
      split at h
      ·rename_i s hs
       split at h
       ·rename_i ht
        simp only [Option.some.injEq] at h
        rw [Y3 hq] at h
        exact ⟨rfl, _, h.symm, fun env2 ha => ⟨by simp only [evVal, hop, hc, hargs, htys]; rw [(hx env2 ha).rd, hs]; simp only; rw [ht]; simp only; rw [Y3 (quiet2 ha)], key env2 ha⟩⟩
       ·simp at h
      ·rename_i hs
       split at h
       ·rename_i e τ ht
        split at h
        ·rename_i lx hrd
         split at h
         ·rename_i xs hxs
          split at h
          ·rename_i hl
           simp only [Option.some.injEq] at h
           rw [Y3 hq] at h
           exact ⟨rfl, _, h.symm, fun env2 ha => ⟨by simp only [evVal, hop, hc, hargs, htys]; rw [(hx env2 ha).rd, hs]; simp only; rw [ht]; simp only; rw [(hx env2 ha).rd, hrd]; simp only; rw [hxs]; simp only; rw [if_pos hl, Y3 (quiet2 ha)], key env2 ha⟩⟩
          ·simp at h
         ·simp at h
        ·simp at h
       ·simp at h
     ·simp at h
    ·rename_i hc
     simp only [Option.some.injEq, Prod.mk.injEq] at hf
     obtain ⟨rfl, rfl⟩ := hf
     simp only [evVal, hop, hc] at h
     split at h
     ·rename_i x y hargs
      split at h
      ·rename_i k n k' m hx hy
       split at h
       ·rename_i hkk
        simp only [Option.some.injEq] at h
        rw [Y3 hq] at h
        refine ⟨rfl, _, h.symm, fun env2 ha => ?_⟩
        obtain ⟨a1, a2⟩ := Yp (tail ha)
        refine ⟨by simp only [evVal, hop, hc, hargs]; rw [(a1 x (by rw [hargs]; simp)).rd, (a1 y (by rw [hargs]; simp)).rd, hx, hy]; simp only; rw [if_pos hkk, Y3 (quiet2 ha)], ?_⟩
        unfold footVal
        rw [if_pos (quiet2 ha), none2 env2]
        simp only [hop, hc, a2]
       ·simp at h
      ·simp at h
     ·simp at h
    ·rename_i hc
     simp only [Option.some.injEq, Prod.mk.injEq] at hf
     obtain ⟨rfl, rfl⟩ := hf
     simp only [evVal, hop, hc] at h
     split at h
     ·rename_i x y hargs
      split at h
      ·rename_i k n k' m hx hy
       split at h
       ·rename_i hkk
        simp only [Option.some.injEq] at h
        rw [Y3 hq] at h
        refine ⟨rfl, _, h.symm, fun env2 ha => ?_⟩
        obtain ⟨a1, a2⟩ := Yp (tail ha)
        refine ⟨by simp only [evVal, hop, hc, hargs]; rw [(a1 x (by rw [hargs]; simp)).rd, (a1 y (by rw [hargs]; simp)).rd, hx, hy]; simp only; rw [if_pos hkk, Y3 (quiet2 ha)], ?_⟩
        unfold footVal
        rw [if_pos (quiet2 ha), none2 env2]
        simp only [hop, hc, a2]
       ·simp at h
      ·simp at h
     ·simp at h
    ·simp at hf
   | _ => rw [hop] at hf; simp at hf
 ·simp at hf
end
end Go.FP

namespace Go.FP
open Go.RowKit
structure DS where
 ts : List Nat := []
 bx : List Nat := []
def AV.free (TS : DS) (v : AV) : Bool := (v.refs.all fun q => !TS.ts.contains q.1 && !TS.bx.contains q.1) && v.ptrs.all fun q => !TS.ts.contains q
def AV.isBox : AV -> Bool
 | .con (.box _) _ => true
 | _ => false
def ownRow : AV -> Bool
 | .con .val [⟨.slice _ te, _, .at_ .dp⟩] => te.flatB
 | .con .val [⟨.slice _ te, _, .at_ .sh⟩] => te.flatB
 | _ => false
def isTmp (s : Nat) : Operand -> Bool
 | .tmp s' => Nat.beq s s'
 | _ => false
def footApp (T : Tab) (TS : DS) (env : Env) (d : Nat) (o : Oper) : Foot := match o.op with
 | .call c => match c.callee with
  | .builtin .append => match c.args.toList, c.argTypes.toList with
   | [.tmp ts, x], [t, _] => match elemAt T t with
    | some te => if (TS.ts.contains ts && !(Nat.beq d ts)) && ((get env d).quiet && ((ownRow (get env ts) && te.ty.flatB) && !isTmp ts x)) then some ([ts, d], opReads env x) else none
    | none => none
   | _, _ => none
  | _ => none
 | _ => none
def isAt : Mode -> Bool
 | .at_ _ => true
 | _ => false
def takes (TS : DS) (env : Env) (x : Operand) : Option (List Nat × List Nat) :=
 if inert env x then some ([], opReads env x) else match x with
  | .tmp s => match get env s with
   | .con k ls => if (TS.ts.contains s && k.plain) && (ls.all (fun l => isAt l.m) && ls.any fun l => l.m.own) then some ([s], []) else none
   | _ => none
  | _ => none
def gone (W : List Nat) : List AV := W.map fun _ => AV.undef
def takesAll (TS : DS) : Env -> List Operand -> Option (List Nat × List Nat)
 | _, [] => some ([], [])
 | env, x :: xs => match takes TS env x with
  | some (W, R) => match takesAll TS (puts env W (gone W)) xs with
   | some (W', R') => some (W ++ W', R ++ R')
   | none => none
  | none => none
def footTake (TS : DS) (env : Env) (d : Nat) (o : Oper) : Foot := if (get env d).quiet then match o.op with
  | .build _ ps => match takesAll TS env (ps.toList.map (·.2)) with
   | some (W, R) => if W.contains d then none else some (W ++ [d], R)
   | none => none
  | .buildSlice _ _ ps => match takesAll TS env (ps.toList.map (·.2)) with
   | some (W, R) => if W.contains d then none else some (W ++ [d], R)
   | none => none
  | _ => none
 else none
def footBox (sig : FuncId -> Option Sig) (TS : DS) (env : Env) (d : Nat) (o : Oper) : Foot := none
def footPtr (TS : DS) (env : Env) (d : Nat) (o : Oper) : Foot := none
def isBuild : Op -> Bool
 | .build _ _ => true
 | .buildSlice _ _ _ => true
 | _ => false
def Foot.reads (xs : List Nat) : Foot -> Foot
 | some (W, R) => some (W, xs ++ R)
 | none => none
def footRun (T : Tab) (sig : FuncId -> Option Sig) (TS : DS) (o : Oper) (env : Env) : Foot := match o.dst with
 | some d => if isBuild o.op then footTake TS env d o else match footPtr TS env d o with
  | some f => some f
  | none => match footVal sig env d o with
  | some (t, R) => some ([t], R)
  | none => match footBox sig TS env d o with
   | some f => some f
   | none => footApp T TS env d o
 | none => none
def footSkip (o : Oper) (env : Env) : Foot := match o.dst with
 | some d => if (get env d).quiet then some ([d], []) else none
 | none => none
def footG (T : Tab) (sig : FuncId -> Option Sig) (TS : DS) (ops : Array Oper) (o : Oper) (env : Env) : Foot := match o.guard with
 | none => footRun T sig TS o env
 | some (j, want) => match (ops[j]?).bind (·.dst) with
  | none => none
  | some dj => match get env dj with
   | .skip => Foot.reads [dj] (footSkip o env)
   | .con .val [⟨.bool, b, .at_ .ro⟩] => if b = want then Foot.reads [dj] (footRun T sig TS o env) else Foot.reads [dj] (footSkip o env)
   | _ => none
abbrev Fr (TS : DS) : Nat -> AV -> Prop := fun r v => v.free TS = true /\ (r ∈ TS.bx -> v.isBox = true)
theorem Yd0 {TS : DS} {s : Nat} (hs : s ∈ TS.ts) {v : AV} (h : v.free TS = true) : v.chg (killG s) = v := by
 simp only [AV.free, Bool.and_eq_true, List.all_eq_true, Bool.not_eq_true', List.contains_eq_mem, decide_eq_false_iff_not] at h
 obtain ⟨h1, h2⟩ := h
 have hne : ∀ q ∈ v.refs, q.1 ≠ s := fun q hq e => (h1 q hq).1 (e ▸ hs)
 have hne2 : ∀ q ∈ v.ptrs, q ≠ s := fun q hq e => h2 q hq (e ▸ hs)
 have leaf : ∀ l : Leaf, (∀ q ∈ l.refs, q.1 ≠ s) -> l.chg (killG s) = l := by
  intro l hl
  obtain ⟨t, x, m⟩ := l
  cases m with
  | at_ _ => rfl
  | dead => rfl
  | bor r j p => simp only [Leaf.chg, killG]; rw [if_neg (hl (r, j) (by simp [Leaf.refs]))]
 have leaves : ∀ ls : List Leaf, (∀ q ∈ ls.flatMap Leaf.refs, q.1 ≠ s) -> chgs (killG s) ls = ls := by
  intro ls
  induction ls with
  | nil => intro _; rfl
  | cons l ls ih =>
   intro hls
   rw [chgs, leaf l (fun q hq => hls q (by simp [hq])), ih (fun q hq => hls q (by rw [List.flatMap_cons]; exact List.mem_append_right _ hq))]
 cases v with
 | con k ls => simp only [AV.chg]; rw [leaves ls hne]
 | path r off => simp only [AV.chg]; rw [if_neg (by simpa [killG] using hne2 r (by simp [AV.ptrs]))]
 | eptr ls wr =>
  cases wr with
  | none => simp only [AV.chg]; rw [leaves ls (fun q hq => hne q (by simp only [AV.refs, List.append_nil]; exact hq))]
  | some w =>
   simp only [AV.chg]
   rw [leaves ls (fun q hq => hne q (by simp only [AV.refs]; exact List.mem_append_left _ hq)), if_neg (by simpa [killG] using hne (w.1, w.2.1) (by simp [AV.refs]))]
 | clo f caps =>
  simp only [AV.chg]
  rw [if_neg]
  simp only [List.any_eq_true, not_exists, not_and]
  intro q hq
  simpa [killG] using hne2 q.1 (by simp only [AV.ptrs, List.mem_map]; exact ⟨q, hq, rfl⟩)
 | fptr f caps =>
  simp only [AV.chg]
  rw [if_neg]
  simp only [List.any_eq_true, not_exists, not_and]
  intro q hq
  simpa [killG] using hne2 q hq
 | cloS f caps =>
  simp only [AV.chg]
  rw [if_neg]
  simp only [List.any_eq_true, not_exists, not_and]
  intro q hq
  simpa [killG] using hne2 q hq
 | grow r j i o l => simp only [AV.chg]; rw [if_neg (by simpa [killG] using hne (r, j) (by simp [AV.refs]))]
 | sel r j e e2 t ix x => simp only [AV.chg]; rw [if_neg (by simpa [killG] using hne (r, j) (by simp [AV.refs]))]
 | _ => rfl
theorem Y4d {TS : DS} {s : Nat} (hs : s ∈ TS.ts) : ∀ {env : Env}, (∀ r, (get env r).free TS = true) -> chgEnv (killG s) env = env
 | [], _ => rfl
 | v :: env, h => by
  show v.chg _ :: chgEnv _ env = _
  have h0 : v.free TS = true := h 0
  rw [Yd0 hs h0, Y4d hs (fun r => h (r + 1))]
theorem Yab {v : AV} (h : ownRow v = true) : ∃ e te xs lv, v = .con .val [⟨.slice e te, xs, .at_ lv⟩] /\ te.flatB = true /\ (lv = .dp \/ lv = .sh) := by
 unfold ownRow at h
 split at h
 ·exact ⟨_, _, _, _, rfl, h, .inl rfl⟩
 ·exact ⟨_, _, _, _, rfl, h, .inr rfl⟩
 ·simp at h
theorem Y9m {TS : DS} {env : Env} {ts : Nat} {e : TypeId} {te : Ty} {ss : List te.D} {lv : Lvl} (hJ : AllJ (Fr TS) env) (hts : ts ∈ TS.ts) (hg : get env ts = .con .val [⟨.slice e te, ss, .at_ lv⟩]) (hlv : lv = .dp \/ lv = .sh) (ty : Ty) :
  grabS ty env (.tmp ts) = some (put env ts .undef, .con .val [⟨.slice e te, ss, .at_ lv⟩]) := by
 have hp : pullAll (.tmp ts) env = env := by
  simp only [pullAll, hg, Kind.plain, if_true, List.length_singleton, pulls]
  unfold pull
  rw [hg]
  rfl
 have hown : (Mode.at_ lv).own = true := by rcases hlv with rfl | rfl <;> rfl
 have htake : takeIn (some ty) env (.tmp ts) = some (put env ts .undef, .con .val [⟨.slice e te, ss, .at_ lv⟩]) := by
  unfold takeIn
  rw [hp]
  simp only [takeIn0, hg, Kind.plain, if_true, freezeAll]
  rw [if_pos ⟨trivial, by simp [Mode.settled]⟩]
  simp only [List.any_cons, hown, Bool.true_or, if_true]
  unfold killRoot
  rw [Y4d hts (fun r => (hJ r).1)]
 unfold grabS
 simp only [hg]
 exact htake
theorem Y78 {TS : DS} {T : Tab} {env : Env} {d ts : Nat} {t : TypeId} {t' : TE} {x : Operand} {e : TypeId} {te : Ty} {ss : List te.D} {lv : Lvl} {lx : Leaf} {xs s' : List t'.ty.D} (he : elemAt T t = some t') (hfl : t'.ty.flatB = true) (hJ : AllJ (Fr TS) env) (hts : ts ∈ TS.ts) (hd : d ≠ ts) (hq : (get env d).quiet = true) (hg : get env ts = .con .val [⟨.slice e te, ss, .at_ lv⟩]) (hlv : lv = .dp \/ lv = .sh)
  (hrd : rd (some (.slice t'.id t'.ty)) env x = .con .val [lx]) (has : lx.as (.slice t'.id t'.ty) = some xs) (hl : lx.m.live = true) (has2 : (⟨.slice e te, ss, .at_ lv⟩ : Leaf).as (.slice t'.id t'.ty) = some s') :
  append1 T (some d) t (.tmp ts) x env some = appendTo t' lv s' xs fun l => some (puts env [ts, d] [.undef, .con .val [l]]) := by
 have hq2 : (get (put env ts .undef) d).quiet = true := by
  rw [Y1i]
  split
  ·rfl
  ·exact hq
 unfold append1
 simp only [he, hfl, if_true, hrd, has, hl]
 unfold appendS
 rw [Y9m hJ hts hg hlv]
 simp only [has2]
 rcases hlv with rfl | rfl
 ·simp only [if_true]
  congr 1
  funext l
  rw [Y3 hq2]; rfl
 ·simp only
  congr 1
  funext l
  rw [Y3 hq2]; rfl
theorem Y7k {TS : DS} {T : Tab} {env e1 : Env} {d ts : Nat} {t : TypeId} {t' : TE} {x : Operand} {e : TypeId} {te : Ty} {ss : List te.D} {lv : Lvl} (he : elemAt T t = some t') (hfl : t'.ty.flatB = true) (hJ : AllJ (Fr TS) env) (hts : ts ∈ TS.ts) (hg : get env ts = .con .val [⟨.slice e te, ss, .at_ lv⟩]) (hlv : lv = .dp \/ lv = .sh)
  (h : append1 T (some d) t (.tmp ts) x env some = some e1) : ∃ (lx : Leaf) (xs s' : List t'.ty.D), rd (some (.slice t'.id t'.ty)) env x = .con .val [lx] /\ lx.as (.slice t'.id t'.ty) = some xs /\ lx.m.live = true /\ (⟨.slice e te, ss, .at_ lv⟩ : Leaf).as (.slice t'.id t'.ty) = some s' := by
 unfold append1 at h
 simp only [he, hfl, if_true] at h
 split at h
 ·rename_i lx hrd
  split at h
  ·rename_i xs has
   split at h
   ·rename_i hl
    unfold appendS at h
    rw [Y9m hJ hts hg hlv] at h
    simp only at h
    split at h
    ·rename_i s' has2
     exact ⟨lx, xs, s', hrd, has, hl, has2⟩
    ·simp at h
   ·simp at h
  ·simp at h
 ·simp at h
section
variable {T : Tab} {sig : FuncId -> Option Sig} {caps : FuncId -> List Ty} {orc : Orc} {TS : DS}
theorem Yac {env : Env} {d : Nat} {o : Oper} {c : Call} (ho : o.op = .call c) (hc : c.callee = .builtin .append) : footVal sig env d o = none := by
 unfold footVal
 split
 ·simp only [ho, pureReads, hc]
 ·rfl
theorem Y9n {o : Oper} {d : Nat} {env e1 : Env} {W Rd : List Nat} (hJ : AllJ (Fr TS) env) (hf : footApp T TS env d o = some (W, Rd)) (h : evVal T sig caps orc d o env some = some e1) :
  ∃ vs, vs.length = W.length /\ e1 = puts env W vs /\ ∀ env2, AllJ (Fr TS) env2 -> Agree (W ++ Rd) env env2 -> evVal T sig caps orc d o env2 some = some (puts env2 W vs) /\ footVal sig env2 d o = none /\ footApp T TS env2 d o = some (W, Rd) := by
 unfold footApp at hf
 split at hf
 ·rename_i c ho
  split at hf
  ·rename_i hc
   split at hf
   ·rename_i ts x t t0 hargs htys
    split at hf
    ·rename_i t1 he
     split at hf
     ·rename_i hcond
      simp only [Bool.and_eq_true, Bool.not_eq_true', List.contains_eq_mem, decide_eq_true_eq] at hcond
      obtain ⟨⟨hts, hdt⟩, hq, ⟨hown, hfl⟩, hxt⟩ := hcond
      have hdt' : d ≠ ts := fun e => by rw [e] at hdt; simp at hdt
      simp only [Option.some.injEq, Prod.mk.injEq] at hf
      obtain ⟨rfl, rfl⟩ := hf
      obtain ⟨e, te, ss, lv, hg, _, hlv⟩ := Yab hown
      -- the operation, in any such environment
      have hop : ∀ (env' : Env), get env' ts = get env ts -> evVal T sig caps orc d o env' some = if t = t0 then append1 T (some d) t (.tmp ts) x env' some else none := by
       intro env' hg'
       have hn : nestOf env' (.tmp ts) = none := by
        first
         | rfl
         | (unfold nestOf; simp only [hg', hg])
       simp only [evVal, ho, hc, hargs, htys, hn]
      rw [hop env rfl] at h
      split at h
      ·rename_i htt
       obtain ⟨lx, xs, s1, hrd, has, hl, has1⟩ := Y7k he hfl hJ hts hg hlv h
       rw [Y78 he hfl hJ hts hdt' hq hg hlv hrd has hl has1] at h
       unfold appendTo at h
       obtain ⟨hb, h⟩ := Y1g h
       simp only [Option.some.injEq] at h
       refine ⟨[.undef, .con .val [⟨.slice t1.id t1.ty, s1 ++ xs, .at_ lv⟩]], rfl, h.symm, fun env2 hJ2 ha => ?_⟩
       have h1 : get env2 d = get env d := ha.2 d (by simp)
       have h3 : get env2 ts = get env ts := ha.2 ts (by simp)
       have hax : Agree (opReads env x) env env2 := ha.mono (S' := opReads env x) (fun k hk => List.mem_append_right _ hk)
       refine ⟨?_, Yac ho hc, ?_⟩
       ·rw [hop env2 h3, if_pos htt, Y78 he hfl hJ2 hts hdt' (by rw [h1]; exact hq) (by rw [h3]; exact hg) hlv (by rw [hax.rd]; exact hrd) has hl has1]
        unfold appendTo
        rw [hb]; rfl
       ·unfold footApp
        simp only [ho, hc, hargs, htys, he]
        rw [h1, h3, hax.reads, if_pos]
        simp [hts, hdt, hq, hown, hxt, hfl]
      ·simp at h
     ·simp at hf
    ·simp at hf
   ·simp at hf
  ·simp at hf
 ·simp at hf
theorem Y1v : ∀ (W W' : List Nat) (vs vs' : List AV) (env : Env), vs.length = W.length -> puts env (W ++ W') (vs ++ vs') = puts (puts env W vs) W' vs'
 | [], W', [], vs', env, _ => by simp [puts]
 | [], W', _ :: _, vs', env, h => by simp at h
 | w :: W, W', [], vs', env, h => by simp at h
 | w :: W, W', v :: vs, vs', env, h => by simp only [List.cons_append, puts]; exact Y1v W W' vs vs' _ (by simpa using h)
theorem Y1a (W : List Nat) : (gone W).length = W.length := by simp [gone]
theorem Y38 (W W' : List Nat) : gone (W ++ W') = gone W ++ gone W' := by simp [gone]
theorem Y3d {TS : DS} : ∀ {W : List Nat} {env : Env}, (∀ w ∈ W, w ∉ TS.bx) -> AllJ (Fr TS) env -> AllJ (Fr TS) (puts env W (gone W))
 | [], env, hW, h => by simpa [puts, gone] using h
 | w :: W, env, hW, h => by
  show AllJ (Fr TS) (puts (put env w .undef) W (gone W))
  refine Y3d (fun w' hw' => hW w' (List.mem_cons_of_mem _ hw')) (fun r => ?_)
  rw [Y1i]
  split
  ·rename_i hc
   exact ⟨by simp [AV.free, AV.refs, AV.ptrs], fun hb => absurd (hc.1 ▸ hb) (hW w List.mem_cons_self)⟩
  ·exact h r
theorem Y39 {TS : DS} {env : Env} {x : Operand} {W Rd : List Nat} (hJ : AllJ (Fr TS) env) (h : takes TS env x = some (W, Rd)) : ∀ w ∈ W, w ∉ TS.bx := by
 unfold takes at h
 split at h
 ·simp only [Option.some.injEq, Prod.mk.injEq] at h
  obtain ⟨rfl, _⟩ := h
  simp
 ·split at h
  ·rename_i s _
   split at h
   ·rename_i k ls hg
    split at h
    ·rename_i hc
     simp only [Option.some.injEq, Prod.mk.injEq] at h
     obtain ⟨rfl, _⟩ := h
     simp only [Bool.and_eq_true] at hc
     intro w hw hb
     obtain rfl : w = s := by simpa using hw
     have := (hJ w).2 hb
     rw [hg] at this
     cases k with
     | box e => have := hc.1.2; simp [Kind.plain] at this
     | _ => simp [AV.isBox] at this
    ·simp at h
   ·simp at h
  ·simp at h
theorem Y79 {W S : List Nat} {vs : List AV} {env env2 : Env} (hl : vs.length = W.length) (h : Agree S env env2) : Agree S (puts env W vs) (puts env2 W vs) := by
 refine ⟨by rw [Y1u, Y1u]; exact h.1, fun k hk => ?_⟩
 by_cases hw : k ∈ W
 ·exact Y4c hw hl h.1
 ·rw [Y11 hw, Y11 hw]; exact h.2 k hk
theorem Y9o {TS : DS} {env : Env} {s : Nat} {k : Kind} {ls : List Leaf} {ty : Option Ty} (hJ : AllJ (Fr TS) env) (hs : s ∈ TS.ts) (hg : get env s = .con k ls) (hk : k.plain = true) (hat : ls.all (fun l => isAt l.m) = true) (hown : ls.any (fun l => l.m.own) = true) : takeIn ty env (.tmp s) = some (put env s .undef, .con k ls) := by
 have at1 : ∀ l ∈ ls, ∃ lv, l.m = .at_ lv := fun l hl => by
  have := List.all_eq_true.1 hat l hl
  cases hm : l.m with
  | at_ lv => exact ⟨lv, rfl⟩
  | bor _ _ _ => rw [hm] at this; simp [isAt] at this
  | dead => rw [hm] at this; simp [isAt] at this
 have hpull : ∀ q, pull s q env = env := fun q => by
  unfold pull
  rw [hg]
  simp only [AV.leaf?]
  split
  ·rename_i t x r j hq
   obtain ⟨lv, e⟩ := at1 _ (Yc hq)
   simp at e
  ·rfl
 have hpulls : ∀ n, pulls s n env = env := fun n => by
  induction n with
  | zero => rfl
  | succ n ih => rw [pulls, ih, hpull]
 have hfr : ∀ {L : List Leaf}, (∀ l ∈ L, ∃ lv, l.m = .at_ lv) -> freezeAll L env = env := by
  intro L
  induction L with
  | nil => intro _; rfl
  | cons l L ih =>
   intro h
   obtain ⟨lv, e⟩ := h l List.mem_cons_self
   unfold freezeAll
   rw [e]
   exact ih (fun l hl => h l (List.mem_cons_of_mem _ hl))
 have hp : pullAll (.tmp s) env = env := by
  simp only [pullAll, hg, hk, if_true, hpulls]
 unfold takeIn
 rw [hp]
 simp only [takeIn0, hg, hk, if_true, hfr at1]
 rw [if_pos ⟨trivial, List.all_eq_true.2 fun l hl => by obtain ⟨lv, e⟩ := at1 l hl; rw [e]; rfl⟩]
 simp only [hown, if_true]
 unfold killRoot
 rw [Y4d hs (fun r => (hJ r).1)]
theorem Y7a {TS : DS} {env : Env} {x : Operand} {W Rd : List Nat} (ty : Option Ty) (hJ : AllJ (Fr TS) env) (h : takes TS env x = some (W, Rd)) : ∃ v, takeIn ty env x = some (puts env W (gone W), v) /\
  ∀ env2, AllJ (Fr TS) env2 -> Agree (W ++ Rd) env env2 -> takeIn ty env2 x = some (puts env2 W (gone W), v) /\ takes TS env2 x = some (W, Rd) := by
 unfold takes at h
 split at h
 ·rename_i hin
  simp only [Option.some.injEq, Prod.mk.injEq] at h
  obtain ⟨rfl, rfl⟩ := h
  obtain ⟨av, h1, _, _⟩ := Y12 hin ⟨rfl, fun _ _ => rfl⟩ ty
  refine ⟨av, by simpa [puts, gone] using h1, fun env2 _ ha => ?_⟩
  have ha' : Agree (opReads env x) env env2 := by simpa using ha
  obtain ⟨av', k1, k2, k3⟩ := Y12 hin ha' ty
  rw [h1] at k1
  simp only [Option.some.injEq, Prod.mk.injEq, true_and] at k1
  subst k1
  exact ⟨by simpa [puts, gone] using k2, by unfold takes; rw [if_pos k3, ha'.reads]⟩
 ·rename_i hin
  split at h
  ·rename_i s
   split at h
   ·rename_i k ls hg
    split at h
    ·rename_i hc
     simp only [Option.some.injEq, Prod.mk.injEq] at h
     obtain ⟨rfl, rfl⟩ := h
     simp only [Bool.and_eq_true, List.contains_eq_mem, decide_eq_true_eq] at hc
     obtain ⟨⟨hs, hk⟩, hat, hown⟩ := hc
     refine ⟨.con k ls, Y9o hJ hs hg hk hat hown, fun env2 hJ2 ha => ?_⟩
     have hg2 : get env2 s = .con k ls := (ha.2 s (by simp)).trans hg
     refine ⟨Y9o hJ2 hs hg2 hk hat hown, ?_⟩
     have hin2 : ¬ inert env2 (.tmp s) = true := by
      simp only [inert, hg2]
      simp only [inert, hg] at hin
      exact hin
     unfold takes
     rw [if_neg hin2]
     simp only [hg2]
     rw [if_pos (by simp [hs, hk, hat, hown])]
    ·simp at h
   ·simp at h
  ·simp at h
theorem Y42 {t : Ty} {env : Env} {x : Operand} {e1 : Env} {v : AV} (h : takeIn (some t) env x = some (e1, v)) : takeAs t env x = (match v with
  | .con k ls => if typedAs ls t && decide (k = t.kind) then some (e1, ls) else none
  | _ => none) := by
 cases v <;> simp only [takeAs, h]
theorem Y43 {T : Tab} {TS : DS} {s : TypeId} : ∀ {parts : List (Nat × Operand)} {env e1 : Env} {ls ls1 : List Leaf} {W Rd : List Nat}, AllJ (Fr TS) env -> takesAll TS env (parts.map (·.2)) = some (W, Rd) -> buildParts T s env ls parts = some (e1, ls1) ->
  e1 = puts env W (gone W) /\ ∀ env2, AllJ (Fr TS) env2 -> Agree (W ++ Rd) env env2 -> buildParts T s env2 ls parts = some (puts env2 W (gone W), ls1) /\ takesAll TS env2 (parts.map (·.2)) = some (W, Rd)
 | [], env, e1, ls, ls1, W, Rd, hJ, ht, hb => by
  simp only [List.map_nil, takesAll, Option.some.injEq, Prod.mk.injEq] at ht
  obtain ⟨rfl, rfl⟩ := ht
  simp only [buildParts, Option.some.injEq, Prod.mk.injEq] at hb
  obtain ⟨rfl, rfl⟩ := hb
  exact ⟨by simp [puts], fun env2 _ _ => ⟨by simp [buildParts, puts], rfl⟩⟩
 | (f, x) :: parts, env, e1, ls, ls1, W, Rd, hJ, ht, hb => by
  simp only [List.map_cons, takesAll] at ht
  split at ht
  ·rename_i W1 R1 h1
   split at ht
   ·rename_i W2 R2 h2
    simp only [Option.some.injEq, Prod.mk.injEq] at ht
    obtain ⟨rfl, rfl⟩ := ht
    simp only [buildParts] at hb
    split at hb
    ·rename_i off t hf
     obtain ⟨v, k1, k2⟩ := Y7a (some t) hJ h1
     rw [Y42 k1] at hb
     split at hb
     ·rename_i env' l htk
      split at htk
      ·rename_i k0 ls0
       split at htk
       ·rename_i hc
        simp only [Option.some.injEq, Prod.mk.injEq] at htk
        obtain ⟨rfl, rfl⟩ := htk
        split at hb
        ·rename_i hle
         obtain ⟨r1, r2⟩ := Y43 (Y3d (Y39 hJ h1) hJ) h2 hb
         refine ⟨by rw [r1, Y38, Y1v _ _ _ _ _ (Y1a _)], fun env2 hJ2 ha => ?_⟩
         have ha1 : Agree (W1 ++ R1) env env2 := ha.mono (fun k hk => by rcases List.mem_append.1 hk with hk | hk <;> simp [hk])
         have ha2 : Agree (W2 ++ R2) (puts env W1 (gone W1)) (puts env2 W1 (gone W1)) := Y79 (Y1a _) (ha.mono (fun k hk => by rcases List.mem_append.1 hk with hk | hk <;> simp [hk]))
         obtain ⟨m1, m2⟩ := k2 env2 hJ2 ha1
         obtain ⟨n1, n2⟩ := r2 _ (Y3d (Y39 hJ h1) hJ2) ha2
         refine ⟨?_, by simp only [List.map_cons, takesAll, m2, n2]⟩
         simp only [buildParts, hf]
         rw [Y42 m1]
         simp only [hc, if_true, hle]
         rw [n1, Y38, Y1v _ _ _ _ _ (Y1a _)]
        ·simp at hb
       ·simp at htk
      ·simp at htk
     ·simp at hb
    ·simp at hb
   ·simp at ht
  ·simp at ht
theorem Y4g {TS : DS} {t : Ty} : ∀ {parts : List (Nat × Operand)} {n : Nat} {env e1 : Env} {vs : List t.D} {dp : Bool} {W Rd : List Nat}, AllJ (Fr TS) env -> takesAll TS env (parts.map (·.2)) = some (W, Rd) -> elemParts t env n parts = some (e1, vs, dp) ->
  e1 = puts env W (gone W) /\ ∀ env2, AllJ (Fr TS) env2 -> Agree (W ++ Rd) env env2 -> elemParts t env2 n parts = some (puts env2 W (gone W), vs, dp) /\ takesAll TS env2 (parts.map (·.2)) = some (W, Rd)
 | [], n, env, e1, vs, dp, W, Rd, hJ, ht, hb => by
  simp only [List.map_nil, takesAll, Option.some.injEq, Prod.mk.injEq] at ht
  obtain ⟨rfl, rfl⟩ := ht
  simp only [elemParts, Option.some.injEq, Prod.mk.injEq] at hb
  obtain ⟨rfl, rfl, rfl⟩ := hb
  exact ⟨by simp [puts], fun env2 _ _ => ⟨by simp [elemParts, puts], rfl⟩⟩
 | (i, x) :: parts, n, env, e1, vs, dp, W, Rd, hJ, ht, hb => by
  simp only [List.map_cons, takesAll] at ht
  split at ht
  ·rename_i W1 R1 h1
   split at ht
   ·rename_i W2 R2 h2
    simp only [Option.some.injEq, Prod.mk.injEq] at ht
    obtain ⟨rfl, rfl⟩ := ht
    simp only [elemParts] at hb
    split at hb
    ·rename_i hi
     obtain ⟨v, k1, k2⟩ := Y7a (some t) hJ h1
     rw [Y42 k1] at hb
     split at hb
     ·rename_i env' l htk
      split at htk
      ·rename_i k0 ls0
       split at htk
       ·rename_i hc
        simp only [Option.some.injEq, Prod.mk.injEq] at htk
        obtain ⟨rfl, rfl⟩ := htk
        split at hb
        ·rename_i v0 has
         split at hb
         ·rename_i env'' vs0 d0 hrec
          simp only [Option.some.injEq, Prod.mk.injEq] at hb
          obtain ⟨rfl, rfl, rfl⟩ := hb
          obtain ⟨r1, r2⟩ := Y4g (Y3d (Y39 hJ h1) hJ) h2 hrec
          refine ⟨by rw [r1, Y38, Y1v _ _ _ _ _ (Y1a _)], fun env2 hJ2 ha => ?_⟩
          have ha1 : Agree (W1 ++ R1) env env2 := ha.mono (fun k hk => by rcases List.mem_append.1 hk with hk | hk <;> simp [hk])
          have ha2 : Agree (W2 ++ R2) (puts env W1 (gone W1)) (puts env2 W1 (gone W1)) := Y79 (Y1a _) (ha.mono (fun k hk => by rcases List.mem_append.1 hk with hk | hk <;> simp [hk]))
          obtain ⟨m1, m2⟩ := k2 env2 hJ2 ha1
          obtain ⟨n1, n2⟩ := r2 _ (Y3d (Y39 hJ h1) hJ2) ha2
          refine ⟨?_, by simp only [List.map_cons, takesAll, m2, n2]⟩
          simp only [elemParts, hi, if_true]
          rw [Y42 m1]
          simp only [hc, if_true, has]
          subst hi
          rw [n1, Y38, Y1v _ _ _ _ _ (Y1a _)]
         ·simp at hb
        ·simp at hb
       ·simp at htk
      ·simp at htk
     ·simp at hb
    ·simp at hb
   ·simp at ht
  ·simp at ht
theorem Y8d {o : Oper} {d : Nat} {env e1 : Env} {W Rd : List Nat} (hJ : AllJ (Fr TS) env) (hf : footTake TS env d o = some (W, Rd)) (h : evVal T sig caps orc d o env some = some e1) :
  ∃ vs, vs.length = W.length /\ e1 = puts env W vs /\ ∀ env2, AllJ (Fr TS) env2 -> Agree (W ++ Rd) env env2 -> evVal T sig caps orc d o env2 some = some (puts env2 W vs) /\ footTake TS env2 d o = some (W, Rd) := by
 have fin : ∀ {W0 R0 : List Nat} {v : AV}, (get env d).quiet = true -> W0.contains d = false -> W = W0 ++ [d] -> Rd = R0 -> e1 = setD (some d) (puts env W0 (gone W0)) v -> (∀ env2, AllJ (Fr TS) env2 -> Agree (W0 ++ R0) env env2 -> (get env2 d).quiet = true -> evVal T sig caps orc d o env2 some = some (setD (some d) (puts env2 W0 (gone W0)) v) /\ footTake TS env2 d o = some (W, Rd)) ->
   ∃ vs, vs.length = W.length /\ e1 = puts env W vs /\ ∀ env2, AllJ (Fr TS) env2 -> Agree (W ++ Rd) env env2 -> evVal T sig caps orc d o env2 some = some (puts env2 W vs) /\ footTake TS env2 d o = some (W, Rd) := by
  intro W0 R0 v hq hd hW hR he hk
  subst hW; subst hR
  have hd' : d ∉ W0 := by simpa using hd
  have key : ∀ (env' : Env), (get env' d).quiet = true -> setD (some d) (puts env' W0 (gone W0)) v = puts env' (W0 ++ [d]) (gone W0 ++ [v]) := fun env' hq' => by
   rw [Y3 (by rw [Y11 hd']; exact hq'), Y1v _ _ _ _ _ (Y1a _)]; rfl
  refine ⟨gone W0 ++ [v], by simp [Y1a], by rw [he, key env hq], fun env2 hJ2 ha => ?_⟩
  have hq2 : (get env2 d).quiet = true := by rw [ha.2 d (by simp)]; exact hq
  obtain ⟨k1, k2⟩ := hk env2 hJ2 (ha.mono (fun k hk => by rcases List.mem_append.1 hk with hk | hk <;> simp [hk])) hq2
  exact ⟨by rw [k1, key env2 hq2], k2⟩
 unfold footTake at hf
 split at hf
 ·rename_i hq
  split at hf
  ·rename_i t ps ho
   split at hf
   ·rename_i W0 R0 ht
    split at hf
    ·simp at hf
    ·rename_i hd
     simp only [Option.some.injEq, Prod.mk.injEq] at hf
     simp only [evVal, ho] at h
     split at h
     ·rename_i τ hτ
      split at h
      ·rename_i hag
       split at h
       ·rename_i env' ls hb
        obtain ⟨r1, r2⟩ := Y43 hJ ht hb
        simp only [Option.some.injEq] at h
        refine fin hq (by simpa using hd) hf.1.symm hf.2.symm (by rw [<- h, r1]) (fun env2 hJ2 ha hq2 => ?_)
        obtain ⟨m1, m2⟩ := r2 env2 hJ2 ha
        refine ⟨by simp only [evVal, ho, hτ, hag, if_true, m1], ?_⟩
        unfold footTake
        rw [if_pos hq2]
        simp only [ho, m2]
        rw [if_neg hd, hf.1, hf.2]
       ·simp at h
      ·simp at h
     ·simp at h
   ·simp at hf
  ·rename_i t n ps ho
   split at hf
   ·rename_i W0 R0 ht
    split at hf
    ·simp at hf
    ·rename_i hd
     simp only [Option.some.injEq, Prod.mk.injEq] at hf
     simp only [evVal, ho] at h
     split at h
     ·rename_i te hte
      split at h
      ·rename_i hc
       split at h
       ·rename_i env' xs dp hb
        obtain ⟨r1, r2⟩ := Y4g hJ ht hb
        simp only [Option.some.injEq] at h
        refine fin hq (by simpa using hd) hf.1.symm hf.2.symm (by rw [<- h, r1]) (fun env2 hJ2 ha hq2 => ?_)
        obtain ⟨m1, m2⟩ := r2 env2 hJ2 ha
        refine ⟨by simp only [evVal, ho, hte, m1]; rw [if_pos hc], ?_⟩
        unfold footTake
        rw [if_pos hq2]
        simp only [ho, m2]
        rw [if_neg hd, hf.1, hf.2]
       ·simp at h
      ·simp at h
     ·simp at h
   ·simp at hf
  ·simp at hf
 ·simp at hf
theorem Y9p {o : Oper} {d : Nat} {env e1 : Env} {W Rd : List Nat} (hJ : AllJ (Fr TS) env) (hf : footBox sig TS env d o = some (W, Rd)) (h : evVal T sig caps orc d o env some = some e1) :
  ∃ vs, vs.length = W.length /\ e1 = puts env W vs /\ ∀ env2, AllJ (Fr TS) env2 -> Agree (W ++ Rd) env env2 -> evVal T sig caps orc d o env2 some = some (puts env2 W vs) /\ footVal sig env2 d o = none /\ footBox sig TS env2 d o = some (W, Rd) := by simp [footBox] at hf
theorem Yad {env : Env} {d : Nat} {o : Oper} {c : Call} (ho : o.op = .call c) (hc : c.callee = .builtin .append) : footBox sig TS env d o = none := rfl
theorem Y9q {env : Env} {d : Nat} {o : Oper} {f : Foot} {W Rd : List Nat} (h : footApp T TS env d o = some (W, Rd)) : ∃ c, o.op = .call c /\ c.callee = .builtin .append := by
 unfold footApp at h
 split at h
 ·rename_i c ho
  split at h
  ·rename_i hc; exact ⟨c, ho, hc⟩
  ·simp at h
 ·simp at h
theorem Y9r {env : Env} {d : Nat} {o : Oper} {f : Foot} (h : footBox sig TS env d o = f) (hf : f ≠ none) : ∃ c, o.op = .call c := absurd h.symm hf
theorem Y5l {env : Env} {d : Nat} {o : Oper} {c : Call} (ho : o.op = .call c) : footPtr TS env d o = none := rfl
theorem Y8e {env env2 : Env} {d : Nat} {o : Oper} (hfp0 : footPtr TS env d o = none) (hq : (get env2 d).quiet = (get env d).quiet) : footPtr TS env2 d o = none := rfl
theorem Y9s {o : Oper} {d : Nat} {env e1 : Env} {W Rd : List Nat} (hJ : AllJ (Fr TS) env) (hf : footPtr TS env d o = some (W, Rd)) (h : evVal T sig caps orc d o env some = some e1) :
  ∃ vs, vs.length = W.length /\ e1 = puts env W vs /\ ∀ env2, AllJ (Fr TS) env2 -> Agree (W ++ Rd) env env2 -> evVal T sig caps orc d o env2 some = some (puts env2 W vs) /\ footPtr TS env2 d o = some (W, Rd) := by simp [footPtr] at hf
theorem Y5m {o : Oper} {env e1 : Env} {W Rd : List Nat} (hJ : AllJ (Fr TS) env) (hf : footRun T sig TS o env = some (W, Rd)) (h : evOp T sig caps orc o env some = some e1) :
  ∃ vs, vs.length = W.length /\ e1 = puts env W vs /\ ∀ env2, AllJ (Fr TS) env2 -> Agree (W ++ Rd) env env2 -> evOp T sig caps orc o env2 some = some (puts env2 W vs) /\ footRun T sig TS o env2 = some (W, Rd) := by
 unfold footRun at hf
 unfold evOp at h
 split at hf
 ·rename_i d hd
  rw [hd] at h
  simp only at h
  split at h
  ·rename_i hlt
   split at hf
   ·rename_i hib
    obtain ⟨vs, e0, e, k⟩ := Y8d hJ hf h
    refine ⟨vs, e0, e, fun env2 hJ2 ha => ?_⟩
    obtain ⟨k1, k2⟩ := k env2 hJ2 ha
    exact ⟨by unfold evOp; rw [hd]; simp only; rw [if_pos (by rw [ha.1]; exact hlt)]; exact k1, by unfold footRun; rw [hd]; simp only; rw [if_pos hib]; exact k2⟩
   rename_i hib
   split at hf
   ·rename_i fp hfp
    simp only [Option.some.injEq] at hf
    subst hf
    obtain ⟨vs, e0, e, k⟩ := Y9s hJ hfp h
    refine ⟨vs, e0, e, fun env2 hJ2 ha => ?_⟩
    obtain ⟨k1, k2⟩ := k env2 hJ2 ha
    exact ⟨by unfold evOp; rw [hd]; simp only; rw [if_pos (by rw [ha.1]; exact hlt)]; exact k1, by unfold footRun; rw [hd]; simp only; rw [if_neg hib, k2]⟩
   rename_i hfp0
   -- whether it is such a move does not depend on the environment
   have hfp : ∀ env2, AllJ (Fr TS) env2 -> (get env2 d).quiet = (get env d).quiet -> footPtr TS env2 d o = none := fun env2 _ hq => Y8e hfp0 hq
   split at hf
   ·rename_i t R hfv
    simp only [Option.some.injEq, Prod.mk.injEq] at hf
    obtain ⟨rfl, rfl⟩ := hf
    obtain ⟨rfl, v, e, k⟩ := Y9l hfv h
    refine ⟨[v], rfl, e, fun env2 hJ2 ha => ?_⟩
    obtain ⟨k1, k2⟩ := k env2 ha
    exact ⟨by unfold evOp; rw [hd]; simp only; rw [if_pos (by rw [ha.1]; exact hlt)]; exact k1, by unfold footRun; rw [hd]; simp only; rw [if_neg hib, hfp env2 hJ2 (by rw [ha.2 _ (by simp)])]; simp only; rw [k2]⟩
   ·rename_i hfv
    split at hf
    ·rename_i fb hfb
     simp only [Option.some.injEq] at hf
     subst hf
     obtain ⟨vs, e0, e, k⟩ := Y9p hJ hfb h
     refine ⟨vs, e0, e, fun env2 hJ2 ha => ?_⟩
     obtain ⟨k1, k2, k3⟩ := k env2 hJ2 ha
     exact ⟨by unfold evOp; rw [hd]; simp only; rw [if_pos (by rw [ha.1]; exact hlt)]; exact k1, by unfold footRun; rw [hd]; simp only; rw [if_neg hib, Y5l (Y9r hfb (by simp)).choose_spec]; simp only; rw [k2]; simp only; rw [k3]⟩
    rename_i hfb
    obtain ⟨c0, ho0, hc0⟩ := Y9q (f := none) hf
    obtain ⟨vs, e0, e, k⟩ := Y9n hJ hf h
    refine ⟨vs, e0, e, fun env2 hJ2 ha => ?_⟩
    obtain ⟨k1, k2, k3⟩ := k env2 hJ2 ha
    exact ⟨by unfold evOp; rw [hd]; simp only; rw [if_pos (by rw [ha.1]; exact hlt)]; exact k1, by unfold footRun; rw [hd]; simp only; rw [if_neg hib, Y5l ho0]; simp only; rw [k2]; simp only; rw [Yad ho0 hc0]; exact k3⟩
  ·simp at h
 ·simp at hf
theorem Y4x {o : Oper} {env e1 : Env} {W Rd : List Nat} (hf : footSkip o env = some (W, Rd)) (h : skipOp o env some = some e1) :
  ∃ vs, vs.length = W.length /\ e1 = puts env W vs /\ ∀ env2, Agree (W ++ Rd) env env2 -> skipOp o env2 some = some (puts env2 W vs) /\ footSkip o env2 = some (W, Rd) := by
 unfold footSkip at hf
 unfold skipOp at h
 split at hf
 ·rename_i d hd
  rw [hd] at h
  simp only at h
  split at hf
  ·rename_i hq
   simp only [Option.some.injEq, Prod.mk.injEq] at hf
   obtain ⟨rfl, rfl⟩ := hf
   split at h
   ·rename_i hlt
    simp only [Option.some.injEq] at h
    rw [Y3 hq] at h
    refine ⟨[.skip], rfl, h.symm, fun env2 ha => ?_⟩
    have hq2 : (get env2 d).quiet = true := by rw [ha.2 d (by simp)]; exact hq
    exact ⟨by unfold skipOp; rw [hd]; simp only; rw [if_pos (by rw [ha.1]; exact hlt), Y3 hq2]; rfl, by unfold footSkip; rw [hd]; simp only; rw [if_pos hq2]⟩
   ·simp at h
  ·simp at hf
 ·simp at hf
theorem Y4s {xs : List Nat} {f : Foot} {W Rd : List Nat} (h : Foot.reads xs f = some (W, Rd)) : ∃ R, f = some (W, R) /\ Rd = xs ++ R := by
 cases f with
 | none => simp [Foot.reads] at h
 | some p =>
  obtain ⟨W', R⟩ := p
  simp only [Foot.reads, Option.some.injEq, Prod.mk.injEq] at h
  exact ⟨R, by rw [h.1], h.2.symm⟩
theorem Ybl {ops : Array Oper} {o : Oper} {env e1 : Env} {W Rd : List Nat} (hJ : AllJ (Fr TS) env) (hf : footG T sig TS ops o env = some (W, Rd)) (h : evOps T sig caps orc ops [o] env some = some e1) :
  ∃ vs, vs.length = W.length /\ e1 = puts env W vs /\ ∀ env2, AllJ (Fr TS) env2 -> Agree (W ++ Rd) env env2 -> evOps T sig caps orc ops [o] env2 some = some (puts env2 W vs) /\ footG T sig TS ops o env2 = some (W, Rd) := by
 simp only [evOps] at h
 unfold footG at hf
 cases hg : o.guard with
 | none =>
  rw [hg] at h hf
  simp only at h hf
  obtain ⟨vs, e0, e, k⟩ := Y5m hJ hf h
  refine ⟨vs, e0, e, fun env2 hJ2 ha => ?_⟩
  obtain ⟨k1, k2⟩ := k env2 hJ2 ha
  exact ⟨by simp only [evOps, hg]; exact k1, by unfold footG; rw [hg]; exact k2⟩
 | some g =>
  obtain ⟨j, want⟩ := g
  rw [hg] at h hf
  simp only at h hf
  cases hj : (ops[j]?).bind (·.dst) with
  | none => rw [hj] at h; simp at h
  | some dj =>
   rw [hj] at h hf
   simp only at h hf
   have split2 : ∀ {R : List Nat} {env2 : Env}, Rd = [dj] ++ R -> Agree (W ++ Rd) env env2 -> get env2 dj = get env dj /\ Agree (W ++ R) env env2 := by
    intro R env2 hR ha
    subst hR
    exact ⟨ha.2 dj (by simp), ha.mono (fun k hk => by
     rcases List.mem_append.1 hk with hk | hk
     ·simp [hk]
     ·simp [hk])⟩
   split at h
   ·rename_i hs
    rw [hs] at hf
    simp only at hf
    obtain ⟨R, hf1, hR⟩ := Y4s hf
    obtain ⟨vs, e0, e, k⟩ := Y4x hf1 h
    refine ⟨vs, e0, e, fun env2 hJ2 ha => ?_⟩
    obtain ⟨a1, a2⟩ := split2 hR ha
    rw [hs] at a1
    obtain ⟨k1, k2⟩ := k env2 a2
    exact ⟨by simp only [evOps, hg, hj, a1]; exact k1, by unfold footG; rw [hg]; simp only [hj, a1, k2, Foot.reads, hR]⟩
   ·rename_i b hs
    rw [hs] at hf
    simp only at hf
    have hput : put env dj (vBool b) = env := Y30 hs
    have fin : ∀ (b' : Bool), b' = b -> (if b' = want then evOp T sig caps orc o env some else skipOp o env some) = some e1 -> ∃ vs, vs.length = W.length /\ e1 = puts env W vs /\ ∀ env2, AllJ (Fr TS) env2 -> Agree (W ++ Rd) env env2 -> evOps T sig caps orc ops [o] env2 some = some (puts env2 W vs) /\ footG T sig TS ops o env2 = some (W, Rd) := by
     intro b' hb' hh
     subst hb'
     by_cases hw : b' = want
     ·rw [if_pos hw] at hh hf
      obtain ⟨R, hf1, hR⟩ := Y4s hf
      obtain ⟨vs, e0, e, k⟩ := Y5m hJ hf1 hh
      refine ⟨vs, e0, e, fun env2 hJ2 ha => ?_⟩
      obtain ⟨a1, a2⟩ := split2 hR ha
      rw [hs] at a1
      obtain ⟨k1, k2⟩ := k env2 hJ2 a2
      have hput2 : put env2 dj (vBool b') = env2 := Y30 a1
      refine ⟨?_, by unfold footG; rw [hg]; simp only [hj, a1, k2, Foot.reads, hR]; rw [if_pos hw]⟩
      simp only [evOps, hg, hj, a1]
      subst hw
      cases b' with
      | true => simp only [cond_true, if_true]; rw [hput2]; exact k1
      | false => simp only [cond_false, Bool.false_eq_true, if_false]; rw [hput2]; exact k1
     ·rw [if_neg hw] at hh hf
      obtain ⟨R, hf1, hR⟩ := Y4s hf
      obtain ⟨vs, e0, e, k⟩ := Y4x hf1 hh
      refine ⟨vs, e0, e, fun env2 hJ2 ha => ?_⟩
      obtain ⟨a1, a2⟩ := split2 hR ha
      rw [hs] at a1
      obtain ⟨k1, k2⟩ := k env2 a2
      have hput2 : put env2 dj (vBool b') = env2 := Y30 a1
      refine ⟨?_, by unfold footG; rw [hg]; simp only [hj, a1, k2, Foot.reads, hR]; rw [if_neg hw]⟩
      simp only [evOps, hg, hj, a1]
      cases b' with
      | true => cases want with
       | true => exact absurd rfl hw
       | false => simp only [cond_true, Bool.false_eq_true, if_false]; rw [hput2]; exact k1
      | false => cases want with
       | true => simp only [cond_false, if_true]; rw [hput2]; exact k1
       | false => exact absurd rfl hw
    refine fin b rfl ?_
    cases b with
    | true =>
     simp only [cond_true] at h
     rw [hput] at h
     cases want with
     | true => simpa using h
     | false => simpa using h
    | false =>
     simp only [cond_false] at h
     rw [hput] at h
     cases want with
     | true => simpa using h
     | false => simpa using h
   ·simp at h
def stepI (T : Tab) (sig : FuncId -> Option Sig) (caps : FuncId -> List Ty) (orc : Orc) (ops : Array Oper) (i : Nat) (env : Env) : Option Env := match ops[i]? with
 | some o => evOps T sig caps orc ops [o] env some
 | none => none
def footI (T : Tab) (sig : FuncId -> Option Sig) (TS : DS) (ops : Array Oper) (i : Nat) (env : Env) : Foot := match ops[i]? with
 | some o => footG T sig TS ops o env
 | none => none
theorem Ydo (ops : Array Oper) : Mild (Fr TS) (stepI T sig caps orc ops) (footI T sig TS ops) := by
 intro i env W Rd env' hJ hf hs
 unfold stepI at hs
 unfold footI at hf
 cases ho : ops[i]? with
 | none => rw [ho] at hs; simp at hs
 | some o =>
  rw [ho] at hs hf
  simp only at hs hf
  obtain ⟨vs, e0, e, k⟩ := Ybl hJ hf hs
  refine ⟨vs, e0, e, fun env2 hJ2 hl ha => ?_⟩
  obtain ⟨k1, k2⟩ := k env2 hJ2 ⟨hl, ha⟩
  exact ⟨by unfold stepI; rw [ho]; exact k1, by unfold footI; rw [ho]; exact k2⟩
theorem Y9t {R : Type} {ops : Array Oper} {φ : Nat -> Foot} {E : Env} {K : Env -> Option R} {r : R} (hK : K E = some r) : ∀ {l : List Nat} {env : Env}, Trace (Fr TS) (stepI T sig caps orc ops) (footI T sig TS ops) l env E φ -> evOps T sig caps orc ops (l.filterMap (ops[·]?)) env K = some r
 | [], env, h => by
  obtain ⟨_, h⟩ := h
  subst h
  exact hK
 | i :: l, env, ⟨_, _, e1, h1, h2⟩ => by
  unfold stepI at h1
  cases ho : ops[i]? with
  | none => rw [ho] at h1; simp at h1
  | some o =>
   rw [ho] at h1
   simp only at h1
   rw [List.filterMap_cons_some (by exact ho), Ybi, h1]
   exact Y9t hK h2
end
end Go.FP

namespace Go.FP
open Go.RowKit
def ancMask (ms : List Nat) : List Edge -> Nat
 | [] => 0
 | e :: r => if Region.binds .any e then (2 ^ e.on ||| ms.getD e.on 0) ||| ancMask ms r else ancMask ms r
def notIn (t : Nat) : List Nat -> Bool
 | [] => true
 | x :: r => !(Nat.beq x t) && notIn t r
def disB : Foot -> Foot -> Bool
 | some (W, R), some (W', R') => (W.all fun w => notIn w W' && notIn w R') && W'.all fun w => notIn w R
 | _, _ => false
def okE (TS : DS) (env : Env) : Bool := (TS.ts.isEmpty && TS.bx.isEmpty) || (env.all (AV.free TS) && TS.bx.all fun r => (get env r).isBox)
def usesOf : Op -> List Operand
 | .move x | .assign x | .box _ x | .nilCheck x | .load _ x | .fieldAddr _ x _ | .field _ x _ | .unOp _ _ x | .convert _ _ x | .extract x _ => [x]
 | .pick c a b => [c, a, b]
 | .build _ ps => ps.toList.map (·.2)
 | .buildSlice _ _ ps => ps.toList.map (·.2)
 | .indexAddr _ x i | .index _ x i | .makeSlice _ x i | .store _ x i => [x, i]
 | .binOp _ _ x y _ => [x, y]
 | .slice _ x lo hi _ => x :: (lo.toList ++ hi.toList)
 | .call c => c.args.toList
 | _ => []
def makesRow : Op -> Bool
 | .buildSlice _ _ _ => true
 | .build _ _ => true
 | .makeSlice _ _ _ => true
 | .call c => match c.callee with
  | .builtin .append => true
  | .value _ => true
  | _ => false
 | _ => false
def takenBy : Op -> List Operand
 | .build _ ps => ps.toList.map (·.2)
 | .buildSlice _ _ ps => ps.toList.map (·.2)
 | .call c => match c.callee with
  | .builtin .append => c.args.toList.take 1
  | _ => []
 | _ => []
def tsOf (ops : List Oper) : List Nat := ops.flatMap fun o => (takenBy o.op).filterMap fun x => match x with
 | .tmp s => if (ops.any fun o => o.dst == some s && makesRow o.op) && Nat.beq ((ops.map fun o => ((usesOf o.op).filter (isTmp s)).length).sum) 1 then some s else none
 | _ => none
def okAll (mask : Nat) : Nat -> List Foot -> Foot -> Bool
 | _, [], _ => true
 | i, f :: fs, g => (mask.testBit i || disB f g) && okAll mask (i + 1) fs g
def opsOf : Op -> Option (List Operand)
 | .move x | .assign x | .box _ x | .load _ x | .nilCheck x | .unOp _ _ x | .convert _ _ x | .fieldAddr _ x _ | .field _ x _ | .extract x _ => some [x]
 | .alloc _ => some []
 | .pick c a b => some [c, a, b]
 | .build _ ps => some (ps.toList.map (·.2))
 | .buildSlice _ _ ps => some (ps.toList.map (·.2))
 | .store _ a v | .binOp _ _ a v _ | .makeSlice _ a v | .indexAddr _ a v | .index _ a v => some [a, v]
 | .slice _ x l h m => some (x :: (l.toList ++ (h.toList ++ m.toList)))
 | .call c => match c.callee with
  | .value f => some (f :: c.args.toList)
  | .builtin _ => some c.args.toList
  | _ => none
 | _ => none
def swapOk (ops : Array Oper) (d : Nat) (x : Operand) (k : Oper) : Bool :=
 (match opsOf k.op with
  | some xs => xs.all fun y => !isTmp d y
  | none => false) && ((match k.dst with
   | some dk => !(Nat.beq d dk) && !isTmp dk x
   | none => true) && (match k.guard with
    | some (j, _) => (match (ops[j]?).bind (·.dst) with
     | some dj => !(Nat.beq d dj)
     | none => true)
    | none => true))
def bareOp : Op -> Option Operand
 | .move x => some x
 | .extract x _ => some x
 | _ => none
def floatTo (ops : Array Oper) (i : Nat) (d : Nat) (x : Operand) : Nat -> Bool
 | 0 => true
 | n + 1 => (decide (n <= i) || (match ops[n]? with
  | some k => swapOk ops d x k || k.after.toList.any fun e => Region.binds .any e && Nat.beq e.on i
  | none => true)) && floatTo ops i d x n
def floatOk (ops : Array Oper) (i : Nat) : Bool := match ops[i]? with
 | some z => (match bareOp z.op, z.dst with
  | some x, some d => z.guard.isNone && (!isTmp d x && floatTo ops i d x ops.size)
  | _, _ => false)
 | none => false
def okFloat (ops : Array Oper) (mask : Nat) : Nat -> Bool
 | 0 => true
 | n + 1 => (mask.testBit n || floatOk ops n) && okFloat ops mask n
def okStep (ops : Array Oper) (mask : Nat) (fs : List Foot) (f : Foot) : Bool := okAll mask 0 fs f || okFloat ops mask fs.length
section
variable {R : Type} (T : Tab) (sig : FuncId -> Option Sig) (caps : FuncId -> List Ty) (orc : Orc)
def evDraw (TS : DS) (ops : Array Oper) : List Oper -> List Nat -> List Foot -> Env -> (Env -> Option R) -> Option R
 | [], _, _, env, K => K env
 | o :: rest, ms, fs, env, K =>
  let mask := ancMask ms o.after.toList
  if o.after.toList.all (fun e => !Region.binds .any e || decide (e.on < ms.length)) then
   match o.guard with
   | none => if okStep ops mask fs (footRun T sig TS o env) then evOp T sig caps orc o env fun env' => if okE TS env' then evDraw TS ops rest (ms ++ [mask]) (fs ++ [footRun T sig TS o env]) env' K else none else none
   | some (j, want) => match (ops[j]?).bind (·.dst) with
    | none => none
    | some dj => match get env dj with
     | .skip => if okStep ops mask fs (Foot.reads [dj] (footSkip o env)) then skipOp o env fun env' => if okE TS env' then evDraw TS ops rest (ms ++ [mask]) (fs ++ [Foot.reads [dj] (footSkip o env)]) env' K else none else none
     | .con .val [⟨.bool, b, .at_ .ro⟩] => bif b
       then (if want then (if okStep ops mask fs (Foot.reads [dj] (footRun T sig TS o (put env dj (vBool true)))) then evOp T sig caps orc o (put env dj (vBool true)) fun env' => if okE TS env' then evDraw TS ops rest (ms ++ [mask]) (fs ++ [Foot.reads [dj] (footRun T sig TS o (put env dj (vBool true)))]) env' K else none else none)
        else (if okStep ops mask fs (Foot.reads [dj] (footSkip o (put env dj (vBool true)))) then skipOp o (put env dj (vBool true)) fun env' => if okE TS env' then evDraw TS ops rest (ms ++ [mask]) (fs ++ [Foot.reads [dj] (footSkip o (put env dj (vBool true)))]) env' K else none else none))
       else (if want then (if okStep ops mask fs (Foot.reads [dj] (footSkip o (put env dj (vBool false)))) then skipOp o (put env dj (vBool false)) fun env' => if okE TS env' then evDraw TS ops rest (ms ++ [mask]) (fs ++ [Foot.reads [dj] (footSkip o (put env dj (vBool false)))]) env' K else none else none)
        else (if okStep ops mask fs (Foot.reads [dj] (footRun T sig TS o (put env dj (vBool false)))) then evOp T sig caps orc o (put env dj (vBool false)) fun env' => if okE TS env' then evDraw TS ops rest (ms ++ [mask]) (fs ++ [Foot.reads [dj] (footRun T sig TS o (put env dj (vBool false)))]) env' K else none else none))
     | _ => none
  else none
def boxCalls (ops : List Oper) : Bool := ops.any fun o => match o.op with
 | .call c => match c.callee with
  | .value (.func f) => match sig f with
   | some sg => sg.box.isSome
   | none => false
  | _ => false
 | _ => false
def boxesOf : Nat -> Env -> List Nat
 | _, [] => []
 | n, v :: r => match v with
  | .con (.box _) ls => if ls.all fun l => !l.m.own then n :: boxesOf (n + 1) r else boxesOf (n + 1) r
  | _ => boxesOf (n + 1) r
def firstOk (env : Env) : List DS -> DS
 | [] => {}
 | D :: r => if okE D env then D else firstOk env r
def drawTS (ops : Array Oper) (env : Env) : DS :=
 let ts := tsOf ops.toList
 firstOk env [⟨ts, if boxCalls sig ops.toList then boxesOf 0 env else []⟩, ⟨ts, []⟩]
def drawReg (ops : Array Oper) (env : Env) (K : Env -> Option R) : Option R := evDraw T sig caps orc (drawTS sig ops env) ops ops.toList [] [] env K
end
section
variable {R : Type} {T : Tab} {sig : FuncId -> Option Sig} {caps : FuncId -> List Ty} {orc : Orc}
theorem Yae {ops : Array Oper} {o : Oper} {rest : List Oper} {TS : DS} {ms : List Nat} {fs : List Foot} {env : Env} {K : Env -> Option R} {r : R} (h : evDraw T sig caps orc TS ops (o :: rest) ms fs env K = some r) :
  (∀ e ∈ o.after.toList, Region.binds .any e = true -> e.on < ms.length) /\ okStep ops (ancMask ms o.after.toList) fs (footG T sig TS ops o env) = true /\ ∃ e1, evOps T sig caps orc ops [o] env some = some e1 /\ okE TS e1 = true /\ evDraw T sig caps orc TS ops rest (ms ++ [ancMask ms o.after.toList]) (fs ++ [footG T sig TS ops o env]) e1 K = some r := by
 simp only [evDraw] at h
 split at h
 ·rename_i hb
  refine ⟨fun e he hbe => by have := List.all_eq_true.1 hb e he; rw [hbe] at this; simpa using this, ?_⟩
  have run : ∀ {f : Foot} {X : Env}, (if okStep ops (ancMask ms o.after.toList) fs f = true then evOp T sig caps orc o X fun env' => if okE TS env' then evDraw T sig caps orc TS ops rest (ms ++ [ancMask ms o.after.toList]) (fs ++ [f]) env' K else none else none) = some r ->
    okStep ops (ancMask ms o.after.toList) fs f = true /\ ∃ e1, evOp T sig caps orc o X some = some e1 /\ okE TS e1 = true /\ evDraw T sig caps orc TS ops rest (ms ++ [ancMask ms o.after.toList]) (fs ++ [f]) e1 K = some r := by
   intro f X h
   split at h
   ·rename_i hok
    rw [Y41] at h
    obtain ⟨e1, h1, h2⟩ := Option.bind_eq_some_iff.1 h
    split at h2
    ·rename_i hE
     exact ⟨hok, e1, h1, hE, h2⟩
    ·simp at h2
   ·simp at h
  have skp : ∀ {f : Foot} {X : Env}, (if okStep ops (ancMask ms o.after.toList) fs f = true then skipOp o X fun env' => if okE TS env' then evDraw T sig caps orc TS ops rest (ms ++ [ancMask ms o.after.toList]) (fs ++ [f]) env' K else none else none) = some r ->
    okStep ops (ancMask ms o.after.toList) fs f = true /\ ∃ e1, skipOp o X some = some e1 /\ okE TS e1 = true /\ evDraw T sig caps orc TS ops rest (ms ++ [ancMask ms o.after.toList]) (fs ++ [f]) e1 K = some r := by
   intro f X h
   split at h
   ·rename_i hok
    rw [Y37] at h
    obtain ⟨e1, h1, h2⟩ := Option.bind_eq_some_iff.1 h
    split at h2
    ·rename_i hE
     exact ⟨hok, e1, h1, hE, h2⟩
    ·simp at h2
   ·simp at h
  unfold footG
  simp only [evOps]
  cases hg : o.guard with
  | none =>
   rw [hg] at h
   simp only at h ⊢
   exact run h
  | some g =>
   obtain ⟨j, want⟩ := g
   rw [hg] at h
   simp only at h ⊢
   cases hj : (ops[j]?).bind (·.dst) with
   | none => rw [hj] at h; simp at h
   | some dj =>
    rw [hj] at h
    simp only at h ⊢
    split at h
    ·rename_i hs
     simp only [hs]
     exact skp h
    ·rename_i b hs
     have hput : put env dj (vBool b) = env := Y30 hs
     simp only [hs]
     cases b with
     | true =>
      simp only [cond_true] at h ⊢
      rw [hput] at h ⊢
      cases want with
      | true => simp only [if_true] at h ⊢; exact run h
      | false => simp only [Bool.false_eq_true, if_false, Bool.true_eq_false] at h ⊢; exact skp h
     | false =>
      simp only [cond_false] at h ⊢
      rw [hput] at h ⊢
      cases want with
      | true => simp only [if_true, Bool.false_eq_true, if_false] at h ⊢; exact skp h
      | false => simp only [Bool.false_eq_true, if_false, if_true] at h ⊢; exact run h
    ·simp at h
 ·simp at h
end
end Go.FP
