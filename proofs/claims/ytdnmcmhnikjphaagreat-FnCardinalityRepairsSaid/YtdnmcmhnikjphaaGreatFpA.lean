/- How Go values lie in memory, and an evaluator of code with its soundness (part 1 of 7). Conditions: those that stand in each theorem; nothing is assumed of any program. -/
import Derived.Below
import Derived.Deep.Draws
import Derived.OwnWalk
import Derived.Laws.MakeOwn
import Derived.Laws.OwnMore
import Derived.LoopN
import Derived.Orders
import Derived.RowKit3
import Derived.Laws.BytesArg

set_option linter.unusedVariables false
set_option linter.unusedSimpArgs false
set_option linter.unnecessarySimpa false

namespace Go.FP
theorem om {p : Prop} (h : p := by omega) : p := h
theorem sm {p : Prop} (h : p := by simp) : p := h
theorem gr {p : Prop} (h : p := by grind) : p := h
abbrev X0 := @Option.some.injEq
abbrev X1 := @List.getElem?_eq_getElem
abbrev X2 := @if_neg
abbrev X3 := @List.mem_cons_of_mem
abbrev X4 := @if_pos
abbrev X5 := @List.getElem?_eq_some_iff
abbrev X6 := @List.mem_append
abbrev X7 := @List.append_assoc
abbrev X8 := @List.mem_of_getElem?
abbrev X9 := @Bool.and_eq_true
abbrev Xa := @List.all_eq_true
abbrev Xb := @List.mem_singleton
abbrev Xc := @List.getElem?_append_right
abbrev Xd := @Nat.le_refl
abbrev Xe := @List.mem_append_left
abbrev Xf := @List.mem_append_right
abbrev Xg := @List.getElem?_cons_zero
abbrev Xh := @List.append_nil
abbrev Xi := @List.mem_flatMap
abbrev Xj := @List.getElem?_append_left
abbrev Xk := @List.getD_eq_getElem?_getD
abbrev Xl := @List.length_append
abbrev Xm := @Bool.false_eq_true
abbrev Xn := @List.length_take
abbrev Xo := @List.length_eq_zero_iff
abbrev Xp := @List.mem_cons_self
abbrev Xq := @Option.some.inj
abbrev Xr := @List.mem_cons
abbrev Xs := @Decidable.byContradiction
abbrev Xt := @Option.bind_eq_some_iff
abbrev Xu := @Array.getElem?_eq_getElem
abbrev Xv := @Option.map_eq_some_iff
abbrev Xw := @Prod.mk.injEq
abbrev Xx := @List.getElem?_of_mem
abbrev Xy := @List.getElem?_set_ne
abbrev Xz := @List.length_set
abbrev X10 := @Array.getElem?_eq_some_iff
abbrev X11 := @Array.getD_eq_getD_getElem?
abbrev X12 := @List.nodup_append
abbrev X13 := @List.nodup_nil
abbrev X14 := @Nat.zero_add
abbrev X15 := @Nat.le_of_not_lt
abbrev X16 := @List.length_drop
abbrev X17 := @Array.length_toList
abbrev X18 := @List.getElem?_map
abbrev X19 := @if_false
abbrev X1a := @decide_eq_true_eq
abbrev X1b := @List.mem_map
abbrev X1c := @Nat.ne_of_lt
abbrev X1d := @Go.World.cell?_of_block
abbrev X1e := @Nat.lt_of_lt_of_le
abbrev X1f := @Go.RowKit.Below.refl
abbrev X1g := @Array.toArray_toList
abbrev X1h := @List.contains_eq_mem
abbrev X1i := @List.getElem?_set_self
abbrev X1j := @List.pairwise_cons
abbrev X1k := @Bool.not_eq_true'
abbrev X1l := @List.getElem?_cons_succ
abbrev X1m := @List.getElem?_take
abbrev X1n := @List.getElem?_drop
abbrev X1o := @List.any_eq_true
abbrev X1p := @if_true
abbrev X1q := @List.nodup_cons
abbrev X1r := @List.length_eq_one_iff
abbrev X1s := @List.mem_filter
abbrev X1t := @List.length_cons
abbrev X1u := @List.flatMap_cons
abbrev X1v := @List.mem_range
abbrev X1w := @Option.map_some
abbrev X1x := @List.filterMap_cons_some
abbrev X1y := @List.map_cons
abbrev X1z := @Array.getElem?_setIfInBounds
abbrev X20 := @List.cons_append
abbrev X21 := @List.append_eq_nil_iff
abbrev X22 := @List.set_append_right
abbrev X23 := @List.getElem?_eq_none
abbrev X24 := @List.ext_getElem?
abbrev X25 := @List.mem_or_eq_of_mem_set
abbrev X26 := @List.mem_of_mem_drop
abbrev X27 := @List.mem_of_mem_take
abbrev X28 := @List.take_succ_eq_append_getElem
abbrev X29 := @Array.getElem?_replicate
abbrev X2a := @decide_eq_false_iff_not
abbrev X2b := @Nat.add_assoc
abbrev X2c := @List.eq_nil_iff_forall_not_mem
abbrev X2d := @Nat.add_mul
abbrev X2e := @List.take_of_length_le
abbrev X2f := @Nat.zero_le
abbrev X2g := @List.any_eq_false
abbrev X2h := @not_or
abbrev X2i := @Nat.add_zero
abbrev X2j := @Array.getElem?_append_right
abbrev X2k := @cond_true
abbrev X2l := @List.map_toArray
abbrev X2m := @Go.Calls.mono
abbrev X2n := @List.Sublist.append
abbrev X2o := @List.nil_append
abbrev X2p := @List.length_map
abbrev X2q := @List.cons.injEq
abbrev X2r := @Bool.or_eq_true
abbrev X2s := @List.mapM_cons
abbrev X2t := @Go.World.block_lt_of_cell?
abbrev X2u := @List.Sublist.refl
abbrev X2v := @Go.Result.andThen_ok
abbrev X2w := @List.drop_of_length_le
abbrev X2x := @Go.Addr.mk.injEq
abbrev X2y := @Option.getD_some
abbrev X2z := @eq_of_heq
abbrev X30 := @List.length_singleton
abbrev X31 := @List.take_append_drop
abbrev X32 := @Array.getElem?_append
abbrev X33 := @Nat.min_eq_left
abbrev X34 := @Go.Sem.run_bind
abbrev X35 := @Nat.le_of_eq
abbrev X36 := @Nat.mul_le_mul_left
abbrev X37 := @List.filter_sublist
abbrev X38 := @List.mem_flatten
abbrev X39 := @List.map_nil
abbrev X3a := @Option.bind_some
inductive Ty where
 | int (k : IntKind) | bool | str | slice (e : TypeId) (t : Ty) | unit | pair (a b : Ty)
 deriving DecidableEq, Inhabited
@[reducible] def Ty.D : Ty -> Type
 | .int _ => Int
 | .bool => Bool
 | .str => ByteArray
 | .slice _ t => List t.D
 | .unit => Unit
 | .pair a b => a.D × b.D
def Ty.sz : Ty -> Nat
 | .unit => 0
 | .pair a b => a.sz + b.sz
 | _ => 1
def Ty.dflt : (t : Ty) -> t.D
 | .int _ => (0 : Int)
 | .bool => false
 | .str => (⟨#[]⟩ : ByteArray)
 | .slice _ _ => []
 | .unit => ()
 | .pair a b => (a.dflt, b.dflt)
def Ty.flatB : Ty -> Bool
 | .slice _ _ => false
 | .pair a b => a.flatB && b.flatB
 | _ => true
def Ty.isAgg : Ty -> Bool
 | .unit => true
 | .pair _ _ => true
 | _ => false
inductive Lvl where
 | ro | sh | dp
 | pn (h : Nat)
 deriving DecidableEq, Inhabited
def Lvl.deep : Lvl -> Bool
 | .dp => true
 | .pn _ => true
 | _ => false
inductive Mode where
 | at_ (l : Lvl)
 | bor (r l : Nat) (p : List (Int × Nat))
 | dead
 deriving DecidableEq, Inhabited
structure Leaf where
 t : Ty
 x : t.D
 m : Mode
structure BoxK where
 id : TypeId
 pin : Bool := false
 fix : List Bool := []     -- cells that are never written
 deriving DecidableEq, Inhabited
def nthB : List Bool -> Nat -> Bool
 | [], _ => false
 | b :: _, 0 => b
 | _ :: r, n + 1 => nthB r n
def BoxK.free (e : BoxK) (off : Nat) : Nat -> Bool
 | 0 => true
 | n + 1 => !nthB e.fix (off + n) && e.free off n
inductive Kind where
 | val
 | agg
 | tup (sh : List (Bool × Nat))
 | box (e : BoxK)
 | tupB (id : TypeId) (n : Nat) (sh : List (Bool × Nat))
 deriving DecidableEq, Inhabited
def Ty.kind (t : Ty) : Kind := if t.isAgg then .agg else .val
def Kind.plain : Kind -> Bool
 | .val => true
 | .agg => true
 | _ => false
inductive Cap where
 | path (r off : Nat)
 | ro (x : Σ t : Ty, t.D)
 | self
def Cap.roots : Cap -> List Nat
 | .path r _ => [r]
 | _ => []
def capRoots : List Cap -> List Nat
 | [] => []
 | c :: cs => c.roots ++ capRoots cs
inductive AV where
 | undef
 | skip
 | con (k : Kind) (ls : List Leaf)
 | path (r off : Nat)
 | eptr (ls : List Leaf) (wr : Option (Nat × Nat × List (Int × Nat) × Int × Nat))
 | clo (f : FuncId) (caps : List (Nat × Nat))
 | cloR (f : FuncId) (caps : List (Σ t : Ty, t.D))
 | fptr (f : FuncId) (caps : List Cap)
 | cloS (f : FuncId) (caps : List Cap)
 | grow (r j : Nat) (i : Int) (o : Nat) (l : Leaf)
 | sel (r j : Nat) (e e2 : TypeId) (t : Ty) (ix : List Int) (x : List (List t.D))
 | junk
 | part (e : TypeId) (t : Ty) (x : List t.D) (n : Int)
 | eown (ls : List Leaf)
abbrev Env := List AV
def get : Env -> Nat -> AV
 | [], _ => .undef
 | v :: _, 0 => v
 | _ :: r, n + 1 => get r n
def put : Env -> Nat -> AV -> Env
 | [], _, _ => []
 | _ :: r, 0, v => v :: r
 | u :: r, n + 1, v => u :: put r n v
def leaves : (t : Ty) -> t.D -> (Nat -> Mode) -> Nat -> List Leaf
 | .unit, _, _, _ => []
 | .pair a b, x, md, n => leaves a x.1 md n ++ leaves b x.2 md (n + a.sz)
 | .slice e t, x, md, n => [⟨.slice e t, x, md n⟩]
 | .int k, x, _, _ => [⟨.int k, x, .at_ .ro⟩]
 | .bool, x, _, _ => [⟨.bool, x, .at_ .ro⟩]
 | .str, x, _, _ => [⟨.str, x, .at_ .ro⟩]
def Leaf.as (l : Leaf) (t : Ty) : Option t.D := if h : l.t = t then some (h ▸ l.x) else none
def asm : (t : Ty) -> List Leaf -> Option (t.D × List Leaf)
 | .unit, ls => some ((), ls)
 | .pair a b, ls => match asm a ls with
  | some (x, r) => match asm b r with
   | some (y, r') => some ((x, y), r')
   | none => none
  | none => none
 | .int k, ls => match ls with
  | [] => none
  | l :: r => match l.as (.int k) with | some x => some (x, r) | none => none
 | .bool, ls => match ls with
  | [] => none
  | l :: r => match l.as .bool with | some x => some (x, r) | none => none
 | .str, ls => match ls with
  | [] => none
  | l :: r => match l.as .str with | some x => some (x, r) | none => none
 | .slice e t, ls => match ls with
  | [] => none
  | l :: r => match l.as (.slice e t) with | some x => some (x, r) | none => none
def flat : Ty -> List Ty
 | .unit => []
 | .pair a b => flat a ++ flat b
 | t => [t]
def typedAs (ls : List Leaf) (t : Ty) : Bool := decide (ls.map Leaf.t = flat t)
def Mode.live : Mode -> Bool
 | .dead => false
 | _ => true
def Mode.own : Mode -> Bool
 | .at_ .sh => true
 | .at_ .dp => true
 | .at_ (.pn _) => true
 | _ => false
def Mode.settled : Mode -> Bool
 | .at_ _ => true
 | _ => false
def Mode.bare : Mode -> Bool
 | .bor _ _ _ => false
 | _ => true
def Leaf.ro (l : Leaf) : Leaf := ⟨l.t, l.x, .at_ .ro⟩
def Leaf.lost (l : Leaf) : Leaf := ⟨l.t, l.x, .dead⟩
def setAt : List Leaf -> Nat -> Leaf -> List Leaf
 | [], _, _ => []
 | _ :: r, 0, l => l :: r
 | u :: r, n + 1, l => u :: setAt r n l
def leafAt : List Leaf -> Nat -> Option Leaf
 | [], _ => none
 | l :: _, 0 => some l
 | _ :: r, n + 1 => leafAt r n
def AV.leaf? : AV -> Nat -> Option Leaf
 | .con _ ls, j => leafAt ls j
 | _, _ => none
def AV.setLeaf : AV -> Nat -> Leaf -> AV
 | .con k ls, j, l => .con k (setAt ls j l)
 | v, _, _ => v
structure Chg where
 f : Nat -> Nat -> List (Int × Nat) -> Leaf -> Leaf
 wf : Nat -> Nat -> Bool
 lose : Bool
 pk : Nat -> Bool
def Leaf.chg (g : Chg) (l : Leaf) : Leaf := match l.m with
 | .bor r j p => g.f r j p l
 | _ => l
def chgs (g : Chg) : List Leaf -> List Leaf
 | [] => []
 | l :: r => l.chg g :: chgs g r
def AV.chg (g : Chg) : AV -> AV
 | .con k ls => .con k (chgs g ls)
 | .path r off => if g.pk r then .undef else .path r off
 | .eptr ls b => match b with
  | some w => if g.wf w.1 w.2.1 then (if g.lose then .undef else .eptr (chgs g ls) none) else .eptr (chgs g ls) b
  | none => .eptr (chgs g ls) none
 | .clo f caps => if caps.any (fun c => g.pk c.1) then .undef else .clo f caps
 | .fptr f caps => if (capRoots caps).any g.pk then .undef else .fptr f caps
 | .cloS f caps => if (capRoots caps).any g.pk then .undef else .cloS f caps
 | .grow r j i o l => if g.wf r j then .junk else .grow r j i o l
 | .sel r j e e2 t ix x => if g.wf r j then .junk else .sel r j e e2 t ix x
 | v => v
def chgEnv (g : Chg) : Env -> Env
 | [] => []
 | v :: r => v.chg g :: chgEnv g r
def forgetG (d : Nat) : Chg := ⟨fun r _ _ l => if r = d then l.ro else l, fun r _ => r == d, false, fun r => r == d⟩
def forget (d : Nat) (env : Env) : Env := put (chgEnv (forgetG d) env) d .undef
def AV.quiet : AV -> Bool
 | .con (.box _) _ => false
 | .con (.tupB _ _ _) _ => false
 | .con _ ls => ls.all fun l => !l.m.own
 | .grow _ _ _ _ _ => false
 | .sel _ _ _ _ _ _ _ => false
 | .part _ _ _ _ => false
 | .eown _ => false
 | .junk => false
 | _ => true
def clear (d : Nat) (env : Env) : Env := if (get env d).quiet then env else forget d env
def freezeG (r j : Nat) : Chg := ⟨fun r' g _ l => if r' = r /\ g = j then l.ro else l, fun a b => a == r && b == j, false, fun _ => false⟩
def freeze (r j : Nat) (env : Env) : Env :=
 match (get env r).leaf? j with
 | none => env
 | some l => if l.m.own then
   let b := chgEnv (freezeG r j) env
   put b r ((get b r).setLeaf j l.ro)
  else env
def freezeAll : List Leaf -> Env -> Env
 | [], env => env
 | l :: r, env => match l.m with
  | .bor r' j _ => freezeAll r (freeze r' j env)
  | _ => freezeAll r env
def killG (s : Nat) : Chg := ⟨fun r _ _ l => if r = s then l.lost else l, fun r _ => r == s, true, fun r => r == s⟩
def killRoot (s : Nat) (env : Env) : Env := put (chgEnv (killG s) env) s .undef
def killPG (r j : Nat) : Chg := ⟨fun r' g _ l => if r' = r /\ g = j then l.lost else l, fun a b => a == r && b == j, true, fun _ => false⟩
def killPlace (r j : Nat) (env : Env) : Env := chgEnv (killPG r j) env
def Leaf.refs (l : Leaf) : List (Nat × Nat) := match l.m with | .bor r j _ => [(r, j)] | _ => []
def AV.refs : AV -> List (Nat × Nat)
 | .con _ ls => ls.flatMap Leaf.refs
 | .eptr ls b => ls.flatMap Leaf.refs ++ (match b with | some w => [(w.1, w.2.1)] | none => [])
 | .grow r j _ _ _ => [(r, j)]
 | .sel r j _ _ _ _ _ => [(r, j)]
 | _ => []
def AV.ptrs : AV -> List Nat
 | .path r _ => [r]
 | .clo _ caps => caps.map (·.1)
 | .fptr _ caps => capRoots caps
 | .cloS _ caps => capRoots caps
 | _ => []
def lookM : List (Nat × Nat × Leaf) -> Nat -> Nat -> Option Leaf
 | [], _, _ => none
 | (r, j, n) :: L, r', j' => if r' = r /\ j' = j then some n else lookM L r' j'
def syncsG (L : List (Nat × Nat × Leaf)) : Chg := ⟨fun r j p l => match lookM L r j with
  | some n => (match p with | [] => ⟨n.t, n.x, l.m⟩ | _ => l.lost)
  | none => l, fun a b => (lookM L a b).isSome, true, fun _ => false⟩
def renewLs (L : List (Nat × Nat × Leaf)) (r : Nat) : Nat -> List Leaf -> List Leaf
 | _, [] => []
 | j, l :: ls => (lookM L r j).getD l :: renewLs L r (j + 1) ls
def AV.renew (L : List (Nat × Nat × Leaf)) (r : Nat) : AV -> AV
 | .con k ls => .con k (renewLs L r 0 ls)
 | v => v
def renewEnv (L : List (Nat × Nat × Leaf)) : Nat -> Env -> Env
 | _, [] => []
 | r, v :: env => v.renew L r :: renewEnv L (r + 1) env
def syncs (L : List (Nat × Nat × Leaf)) (env : Env) : Env := renewEnv L 0 (chgEnv (syncsG L) env)
def syncG (r j : Nat) (n : Leaf) : Chg := ⟨fun r' g p l => if r' = r /\ g = j then (match p with | [] => ⟨n.t, n.x, l.m⟩ | _ => l.lost) else l, fun a b => a == r && b == j, true, fun _ => false⟩
def syncPlace (r j : Nat) (n : Leaf) (env : Env) : Env :=
 let b := chgEnv (syncG r j n) env
 put b r ((get b r).setLeaf j n)
def borrowFrom (s : Nat) : Nat -> List Leaf -> List Leaf
 | _, [] => []
 | n, l :: r => (if l.m.own then ⟨l.t, l.x, .bor s n []⟩ else l) :: borrowFrom s (n + 1) r
def constLeaves : (t : Ty) -> List Value -> Option (List Leaf × List Value)
 | .unit, cs => some ([], cs)
 | .pair a b, cs => match constLeaves a cs with
  | some (x, r) => match constLeaves b r with
   | some (y, r') => some (x ++ y, r')
   | none => none
  | none => none
 | .int k, cs => match cs with
  | .int k' n :: r => if k' = k then some ([⟨.int k, n, .at_ .ro⟩], r) else none
  | _ => none
 | .bool, cs => match cs with
  | .bool b :: r => some ([⟨.bool, b, .at_ .ro⟩], r)
  | _ => none
 | .str, cs => match cs with
  | .string s :: r => some ([⟨.str, s, .at_ .ro⟩], r)
  | _ => none
 | .slice e t, cs => match cs with
  | .slice none 0 0 :: r => some ([⟨.slice e t, [], .at_ .dp⟩], r)
  | _ => none
def Value.isAgg' : Value -> Bool
 | .agg _ => true
 | _ => false
def mkCon (agg : Bool) (ls : List Leaf) : AV := .con (if agg then .agg else .val) ls
def constAV (ty : Option Ty) (v : Value) : AV := match ty with
 | none => .undef
 | some t => match constLeaves t v.cells.toList with
  | some (ls, []) => if t.isAgg == Value.isAgg' v then mkCon t.isAgg ls else .undef
  | _ => .undef
def rd (ty : Option Ty) (env : Env) : Operand -> AV
 | .tmp s => match get env s with
  | .con .val ls => .con .val (borrowFrom s 0 ls)
  | .con .agg ls => .con .agg (borrowFrom s 0 ls)
  | .con (.box _) _ => .path s 0
  | .con (.tup sh) ls => .con (.tup sh) (borrowFrom s 0 ls)
  | .con (.tupB _ _ _) _ => .undef
  | .grow _ _ _ _ _ => .undef
  | .sel _ _ _ _ _ _ _ => .undef
  | .part _ _ _ _ => .undef
  | .eown _ => .undef
  | .junk => .undef
  | v => v
 | .const v => match v with
  | .int k n => .con .val [⟨.int k, n, .at_ .ro⟩]
  | .bool b => .con .val [⟨.bool, b, .at_ .ro⟩]
  | .string s => .con .val [⟨.str, s, .at_ .ro⟩]
  | v => constAV ty v
 | .func f => .clo f []
 | .global _ => .undef
def pull (s q : Nat) (env : Env) : Env := match (get env s).leaf? q with
 | some ⟨t, x, .bor r j []⟩ => match (get env r).leaf? j with
  | some lp => match lp.m with
   | .at_ lv => if lv ≠ .ro /\ s ≠ r then
     let b := killPlace r j env
     let e2 := put b r ((get b r).setLeaf j ⟨lp.t, lp.x, .dead⟩)
     put e2 s ((get e2 s).setLeaf q ⟨t, x, .at_ lv⟩)
    else env
   | _ => env
  | none => env
 | _ => env
def pulls (s : Nat) : Nat -> Env -> Env
 | 0, env => env
 | n + 1, env => pull s n (pulls s n env)
def pullAll (x : Operand) (env : Env) : Env := match x with
 | .tmp s => match get env s with
  | .con k ls => if k.plain then pulls s ls.length env else env
  | _ => env
 | _ => env
def takeIn0 (ty : Option Ty) (env : Env) (x : Operand) : Option (Env × AV) :=
 match x with
 | .tmp s => match get env s with
  | .con k ls =>
   if k.plain then
    let b := freezeAll ls env
    match get b s with
    | .con k' g =>
     if k' = k /\ (g.all fun l => l.m.settled) then
      some (if g.any (fun l => l.m.own) then killRoot s b else b, .con k g)
     else none
    | _ => none
   else none
  | .undef => none
  | .grow _ _ _ _ _ => none
  | .sel _ _ _ _ _ _ _ => none
  | .part _ _ _ _ => none
  | .eown _ => none
  | .junk => none
  | v => some (env, v)
 | x => some (env, rd ty env x)
def takeIn (ty : Option Ty) (env : Env) (x : Operand) : Option (Env × AV) := takeIn0 ty (pullAll x env) x
def takeAs (t : Ty) (env : Env) (x : Operand) : Option (Env × List Leaf) :=
 match takeIn (some t) env x with
 | some (env', .con k ls) => if typedAs ls t && decide (k = t.kind) then some (env', ls) else none
 | _ => none
structure TE where
 id : TypeId
 ty : Ty
 bytes : Nat
 fields : List (Nat × TypeId)
 fn : Bool := false               -- a type of functions
 eq : Bool := false               -- structs of this type are compared
abbrev Tab := List TE
def Tab.te (T : Tab) (t : TypeId) : Option TE := match T with
 | [] => none
 | e :: r => if e.id = t /\ e.fn = false then some e else Tab.te r t
def Tab.isFn (T : Tab) (t : TypeId) : Bool := match T with
 | [] => false
 | e :: r => e.fn && decide (e.id = t) || Tab.isFn r t
def Tab.ty (T : Tab) (t : TypeId) : Option Ty := match T.te t with | some e => some e.ty | none => none
def fieldAt (T : Tab) (s : TypeId) (f : Nat) : Option (Nat × Ty) :=
 match T.te s with
 | some e => match e.fields[f]? with
  | some (off, ft) => match T.ty ft with
   | some t => if t.sz = 0 \/ e.ty.isAgg = false then none else some (off, t)
   | none => none
  | none => none
 | none => none
def elemAt (T : Tab) (t : TypeId) : Option TE :=
 match T.ty t with
 | some (.slice e τ) => match T.te e with
  | some te => if te.ty = τ /\ 0 < τ.sz /\ 0 < te.bytes then some te else none
  | none => none
 | _ => none
inductive RCap where
 | ro (x : Σ t : Ty, t.D)
 | pin
 | self
inductive RV where
 | val (t : Ty) (x : t.D)
 | ptr (t : Ty) (x : t.D)
 | clo (f : FuncId) (caps : List (Σ t : Ty, t.D))
 | fptr (f : FuncId) (caps : List RCap)
inductive PTy where
 | val (t : Ty)
 | ptr (t : Ty)
 | clo
 | self
 deriving DecidableEq, Inhabited
inductive Slot where
 | fx | dp | sh | ro
 deriving DecidableEq, Inhabited
structure BoxSig where
 k : Nat
 id : TypeId
 lv : List Slot
 deriving DecidableEq
def slotAt : List Slot -> Nat -> Slot
 | [], _ => .ro
 | s :: _, 0 => s
 | _ :: r, n + 1 => slotAt r n
def nthL {α : Type} : List α -> Nat -> Option α
 | [], _ => none
 | a :: _, 0 => some a
 | _ :: r, n + 1 => nthL r n
def dropAt {α : Type} : Nat -> List α -> List α
 | _, [] => []
 | 0, _ :: r => r
 | n + 1, a :: r => a :: dropAt n r
def Slot.mode : Slot -> Mode
 | .dp => .at_ .dp
 | .sh => .at_ .sh
 | _ => .at_ .ro
def BoxSig.md (b : BoxSig) (n : Nat) : Mode := (slotAt b.lv n).mode
def Slot.isFx : Slot -> Bool
 | .fx => true
 | _ => false
structure Sig where
 params : List PTy
 results : List (Ty × Lvl)      -- dp: all of it is new; sh: its outer rows are; ro: nothing is
 muts : Bool := false             -- argument 0 is written: its new value comes first among the results (and these are flat)
 own : Bool := false              -- with muts: argument 0 is taken over, what comes back is the caller's own; without: what comes back is a new row of the argument's elements
 box : Option BoxSig := none      -- a variable that is handed as a pointer is written: its new content comes first among the results
 newb : Option TypeId := none     -- the result is a pointer to a new variable of that type; nothing in it is owned
 give : Option Nat := none        -- with own, without muts: that argument (a row, wholly the caller's own) is given for good; the results are wholly the caller's own
 deriving DecidableEq
structure OrcRes where
 α : Type
 run : Option α
 pk : α -> List (Σ t : Ty, t.D)
abbrev Orc := FuncId -> List RV -> Option OrcRes
def ptrOf (env : Env) (t : Ty) (r off : Nat) : Option t.D :=
 match off, get env r with
 | 0, .con (.box _) ls => match asm t ls with
  | some (x, []) => if ls.all (fun l => l.m.settled) then some x else none
  | _ => none
 | _, _ => none
def capsOf (env : Env) : List (Nat × Nat) -> List Ty -> Option (List (Σ t : Ty, t.D))
 | [], [] => some []
 | (r, off) :: cs, t :: ts => match ptrOf env t r off, capsOf env cs ts with
  | some x, some xs => some (⟨t, x⟩ :: xs)
  | _, _ => none
 | _, _ => none
def RVof (caps : FuncId -> List Ty) (env : Env) (p : PTy) (v : AV) : Option RV :=
 match p, v with
 | .val t, .con k ls => if decide (k = t.kind) && ls.all (fun l => l.m.live) then match asm t ls with
   | some (x, []) => some (.val t x)
   | _ => none
  else none
 | .ptr t, .path r off => match ptrOf env t r off with | some x => some (.ptr t x) | none => none
 | .ptr t, .eptr ls none => if ls.all (fun l => l.m.live) then match asm t ls with
   | some (x, []) => some (.ptr t x)
   | _ => none
  else none
 | .clo, .cloR f xs => some (.clo f xs)
 | .clo, .clo f cs => match capsOf env cs (caps f) with | some xs => some (.clo f xs) | none => none
 | _, _ => none
def PTy.ty? : PTy -> Option Ty
 | .val t => some t
 | _ => none
def RVs (caps : FuncId -> List Ty) (env : Env) : List PTy -> List AV -> Option (List RV)
 | [], [] => some []
 | p :: ps, v :: vs => match RVof caps env p v, RVs caps env ps vs with
  | some x, some xs => some (x :: xs)
  | _, _ => none
 | _, _ => none
def rdArgs (env : Env) : List PTy -> List Operand -> List AV
 | p :: ps, x :: xs => rd p.ty? env x :: rdArgs env ps xs
 | _, _ => []
def Lvl.res : Lvl -> Lvl
 | .dp => .dp
 | .sh => .sh
 | _ => .ro
def newMode (b : Lvl) : Nat -> Mode := fun _ => .at_ b.res
def Lvl.asks (fr : Lvl) (l : Leaf) : Bool := match l.t with
 | .slice _ _ => (match fr with
  | .dp => l.m == .at_ .dp
  | .sh => l.m == .at_ .dp || l.m == .at_ .sh
  | _ => true)
 | _ => true
def upgM (t : Ty) (m : Mode) : Mode := match t with
 | .slice _ te => if te.flatB && m == .at_ .sh then .at_ .dp else m
 | _ => m
def Leaf.upg (l : Leaf) : Leaf := ⟨l.t, l.x, upgM l.t l.m⟩
def resLeaves : List (Ty × Lvl) -> List (Σ t : Ty, t.D) -> Option (List (Bool × Nat) × List Leaf)
 | [], [] => some ([], [])
 | (t, fr) :: ps, x :: xs => if h : x.1 = t then
   match resLeaves ps xs with
   | some (sh, ls) => some ((t.isAgg, t.sz) :: sh, (leaves t (h ▸ x.2) (newMode fr) 0).map Leaf.upg ++ ls)
   | none => none
  else none
 | _, _ => none
def resAV (rs : List (Ty × Lvl)) (xs : List (Σ t : Ty, t.D)) : Option AV :=
 match resLeaves rs xs with
 | some (sh, ls) => match sh with
  | [(agg, _)] => some (mkCon agg ls)
  | _ => some (.con (.tup sh) ls)
 | none => none
def freezeArgs (rs : List (Ty × Lvl)) : List AV -> Env -> Env
 | [], env => env
 | v :: vs, env => freezeArgs rs vs (match v with
  | .con _ ls => freezeAll ls env
  | _ => env)
def allCon : List AV -> Bool
 | [] => true
 | .con _ _ :: r => allCon r
 | _ :: _ => false
def allFresh : List (Ty × Lvl) -> Bool
 | [] => true
 | (t, fr) :: r => (fr == .dp || t.flatB) && allFresh r
def updLeafD : (t : Ty) -> t.D -> Nat -> Leaf -> Option t.D
 | .unit, _, _, _ => none
 | .pair a b, x, n, l => if n < a.sz then (match updLeafD a x.1 n l with | some y => some (y, x.2) | none => none)
   else (match updLeafD b x.2 (n - a.sz) l with | some y => some (x.1, y) | none => none)
 | .int k, _, n, l => if n = 0 then l.as (.int k) else none
 | .bool, _, n, l => if n = 0 then l.as .bool else none
 | .str, _, n, l => if n = 0 then l.as .str else none
 | .slice e t, _, n, l => if n = 0 then l.as (.slice e t) else none
def updLeavesD (t : Ty) : t.D -> Nat -> List Leaf -> Option t.D
 | x, _, [] => some x
 | x, n, l :: ls => match updLeafD t x n l with
  | some y => updLeavesD t y (n + 1) ls
  | none => none
section
variable {R : Type} (T : Tab) (sig : FuncId -> Option Sig) (caps : FuncId -> List Ty) (orc : Orc)
def int1 (v : AV) : Option (IntKind × Int) := match v with
 | .con .val [⟨.int k, n, .at_ _⟩] => some (k, n)
 | _ => none
def bool1 (v : AV) : Option Bool := match v with
 | .con .val [⟨.bool, b, .at_ _⟩] => some b
 | _ => none
def str1 (v : AV) : Option ByteArray := match v with
 | .con .val [⟨.str, s, .at_ _⟩] => some s
 | _ => none
def vInt (k : IntKind) (n : Int) : AV := .con .val [⟨.int k, n, .at_ .ro⟩]
def vBool (b : Bool) : AV := .con .val [⟨.bool, b, .at_ .ro⟩]
def vStr (s : ByteArray) : AV := .con .val [⟨.str, s, .at_ .ro⟩]
def setD (b : Option Nat) (env : Env) (v : AV) : Env := match b with
 | some d => if (get env d).quiet then put env d v else put (forget d env) d (v.chg (forgetG d))
 | none => env
def intOp (g : BinOp) (k : IntKind) (a b : Int) (K : AV -> Option R) : Option R :=
 match g with
 | .add => K (vInt k (k.wrap (a + b)))
 | .sub => K (vInt k (k.wrap (a - b)))
 | .mul => K (vInt k (k.wrap (a * b)))
 | .quo => bif decide (b = 0) then none else K (vInt k (k.wrap (a.tdiv b)))
 | .rem => bif decide (b = 0) then none else K (vInt k (a.tmod b))
 | .and => K (vInt k (k.wrap ((BitVec.ofInt k.bits a &&& BitVec.ofInt k.bits b).toNat : Int)))
 | .xor => K (vInt k (k.wrap ((BitVec.ofInt k.bits a ^^^ BitVec.ofInt k.bits b).toNat : Int)))
 | .or => K (vInt k (k.wrap ((BitVec.ofInt k.bits a ||| BitVec.ofInt k.bits b).toNat : Int)))
 | .shr => bif decide (b < 0) then none else K (vInt k (a.fdiv (2 ^ (min b.toNat k.bits))))
 | .shl => bif decide (b < 0) then none else K (vInt k (k.wrap (a * 2 ^ (min b.toNat k.bits))))
 | .eql => K (vBool (a == b))
 | .neq => K (vBool (a != b))
 | .lss => K (vBool (decide (a < b)))
 | .leq => K (vBool (decide (a <= b)))
 | .gtr => K (vBool (decide (a > b)))
 | .geq => K (vBool (decide (a >= b)))
 | _ => none
def shiftOp (g : BinOp) (k : IntKind) (a b : Int) (K : AV -> Option R) : Option R :=
 match g with
 | .shr => bif decide (b < 0) then none else K (vInt k (a.fdiv (2 ^ (min b.toNat k.bits))))
 | .shl => bif decide (b < 0) then none else K (vInt k (k.wrap (a * 2 ^ (min b.toNat k.bits))))
 | _ => none
def strOp (g : BinOp) (a b : ByteArray) (K : AV -> Option R) : Option R :=
 match g with
 | .add => bif decide (a.size + b.size <= 140737488355328) then K (vStr (a ++ b)) else none
 | .eql => K (vBool (a.toList == b.toList))
 | .neq => K (vBool (!(a.toList == b.toList)))
 | .lss => K (vBool (Op.bytesLess a.toList b.toList))
 | .geq => K (vBool (!(Op.bytesLess a.toList b.toList)))
 | _ => none
def aggOp (b : BinOp) (t : TypeId) (x y : AV) (K : AV -> Option R) : Option R := (fun _ => none) T
def binOp1 (g : BinOp) (t : TypeId) (x y : AV) (K : AV -> Option R) : Option R :=
 match int1 x, int1 y with
 | some (k, a), some (k', b) => if k = k' then intOp g k a b K else shiftOp g k a b K
 | _, _ => match str1 x, str1 y with
  | some a, some b => strOp g a b K
  | _, _ => match bool1 x, bool1 y with
   | some a, some b => match T.ty t with
    | some .bool => match g with
     | .eql => K (vBool (a == b))
     | .neq => K (vBool (!(a == b)))
     | _ => none
    | _ => none
   | _, _ => aggOp T g t x y K
def unOp1 (g : UnOp) (x : AV) (K : AV -> Option R) : Option R :=
 match g with
 | .not => match bool1 x with | some b => K (vBool (!b)) | none => none
 | .neg => match int1 x with | some (k, a) => K (vInt k (k.wrap (0 - a))) | none => none
 | _ => none
def setLeaves (ls : List Leaf) (off : Nat) : List Leaf -> List Leaf
 | [] => ls
 | l :: r => setLeaves (setAt ls off l) (off + 1) r
def buildParts (s : TypeId) : Env -> List Leaf -> List (Nat × Operand) -> Option (Env × List Leaf)
 | env, ls, [] => some (env, ls)
 | env, ls, (f, x) :: r => match fieldAt T s f with
  | some (off, t) => match takeAs t env x with
   | some (env', l) => if off + l.length <= ls.length then buildParts s env' (setLeaves ls off l) r else none
   | none => none
  | none => none
def allDeep (ls : List Leaf) : Bool := ls.all fun l => (match l.t with | .slice _ _ => l.m == .at_ .dp | _ => true)
def elemParts (t : Ty) : Env -> Nat -> List (Nat × Operand) -> Option (Env × List t.D × Bool)
 | env, _, [] => some (env, [], true)
 | env, n, (i, x) :: r => if i = n then
   match takeAs t env x with
   | some (env', l) => match asm t l with
    | some (v, []) => match elemParts t env' (n + 1) r with
     | some (env'', vs, d) => some (env'', v :: vs, allDeep l && d)
     | none => none
    | _ => none
   | none => none
  else none
def nestP (z : Nat) : List (Int × Nat) -> List (Int × Nat)
 | [] => []
 | [q] => [q, (0, z)]
 | p => (0, 0) :: p
def elemMode (m : Mode) (i : Int) : Nat -> Mode := fun o => match m with
 | .bor r l p => .bor r l (p ++ [(i, o)])
 | _ => .at_ .ro
def dropLs : Nat -> List Leaf -> List Leaf
 | 0, ls => ls
 | _ + 1, [] => []
 | n + 1, _ :: r => dropLs n r
def takeLs : Nat -> List Leaf -> List Leaf
 | 0, _ => []
 | _ + 1, [] => []
 | n + 1, l :: r => l :: takeLs n r
def giveUp (r : Nat) : Nat -> List Leaf -> Env -> Env
 | _, [], env => env
 | j, l :: ls, env => giveUp r (j + 1) ls (if l.m.own then freeze r j env else env)
def growOf (env : Env) : Operand -> Option (Nat × Nat × Nat × Int × Nat × Leaf) := fun _ => none
def storeGrow (s r j : Nat) (i : Int) (o : Nat) (l : Leaf) (a : Operand) (env : Env) (K : Env -> Option R) : Option R :=
 match rd none env a with
 | .eptr _ (some (r', j', [], i', o')) => if r' = r /\ (j' = j /\ o' = o) then
   match (get env r).leaf? j with
   | some ⟨.slice e te, xs, .at_ lv⟩ =>
    if lv.deep then
     bif decide (i' = i) && (decide (0 <= i') && decide (i' < (xs.length : Int))) then
      match updLeafD te (xs.getD i'.toNat te.dflt) o l with
      | some y => K (syncPlace r j ⟨.slice e te, xs.set i'.toNat y, .at_ lv⟩ (put env s .undef))
      | none => none
     else none
    else none
   | _ => none
  else none
 | _ => none
def leafD : (t : Ty) -> t.D -> Nat -> Option (Σ t : Ty, t.D)
 | .unit, _, _ => none
 | .pair a b, x, n => if n < a.sz then leafD a x.1 n else leafD b x.2 (n - a.sz)
 | .slice e t, x, n => if n = 0 then some ⟨.slice e t, x⟩ else none
 | .int k, x, n => if n = 0 then some ⟨.int k, x⟩ else none
 | .bool, x, n => if n = 0 then some ⟨.bool, x⟩ else none
 | .str, x, n => if n = 0 then some ⟨.str, x⟩ else none
def storeNest (r j : Nat) (i0 : Int) (g : Nat) (h : Int) (z : Nat) (i : Int) (o : Nat) (ls : List Leaf) (b : Env) (K : Env -> Option R) : Option R :=
 match (get b r).leaf? j with
 | some ⟨.slice e te, xs, .at_ lv⟩ =>
  if lv.deep = true /\ (!ls.isEmpty && ls.all fun l => !l.t.isAgg && l.t.flatB) = true then
   match leafD te (xs.getD i0.toNat te.dflt) g with
   | some ⟨.slice e' t', ys⟩ => if h = 0 /\ t'.sz = z then
     match updLeavesD t' (ys.getD i.toNat t'.dflt) o ls with
     | some y => match updLeafD te (xs.getD i0.toNat te.dflt) g ⟨.slice e' t', ys.set i.toNat y, .at_ .dp⟩ with
      | some x => K (syncPlace r j ⟨.slice e te, xs.set i0.toNat x, .at_ lv⟩ b)
      | none => none
     | none => none
    else none
   | _ => none
  else none
 | _ => none
def storePlain (t : TypeId) (a v : Operand) (env : Env) (K : Env -> Option R) : Option R :=
 match T.ty t with
 | none => none
 | some τ => match takeAs τ env v with
  | none => none
  | some (env1, ls) => match rd none env1 a with
   | .path r off => match get env1 r with
    | .con (.box _) old =>
     if off + τ.sz <= old.length /\ ((takeLs τ.sz (dropLs off old)).map Leaf.t) = flat τ then
      let env2 := giveUp r off (takeLs τ.sz (dropLs off old)) env1
      match get env2 r with
      | .con (.box e) old2 => if (off + τ.sz <= old2.length /\ ((takeLs τ.sz (dropLs off old2)).all fun l => !l.m.own) = true) /\ e.free off τ.sz = true then K (put env2 r (.con (.box e) (setLeaves old2 off ls))) else none
      | _ => none
     else none
    | _ => none
   | .eptr _ (some (r, j, [], i, o)) => match (get env1 r).leaf? j with
    | some ⟨.slice e te, xs, .at_ lv⟩ =>
     if lv.deep = true /\ (!ls.isEmpty && ls.all fun l => !l.t.isAgg && (l.t.flatB || l.m == .at_ .dp)) = true then
      bif decide (0 <= i) && decide (i < (xs.length : Int)) then
       match updLeavesD te (xs.getD i.toNat te.dflt) o ls with
       | some y => K (syncPlace r j ⟨.slice e te, xs.set i.toNat y, .at_ lv⟩ env1)
       | none => none
      else none
     else none
    | _ => none
   | .eptr _ (some (r, j, [(i0, o0), (i1, z)], i, o)) => storeNest r j i0 o0 i1 z i o ls env1 K
   | _ => none
def storeFn (b : TypeId) (a v : Operand) (env : Env) (K : Env -> Option R) : Option R :=
 match rd none env a, rd none env v with
 | .path s 0, .clo f cs => match get env s with
  | .con (.box _) [⟨_, _, .dead⟩] => if (cs.all fun c => !(c.1 == s) || c.2 == 0) = true then
    K (put (killRoot s env) s (.fptr f (cs.map fun c => if c.1 = s then .self else .path c.1 c.2)))
   else none
  | _ => none
 | _, _ => none
def store1 (t : TypeId) (a v : Operand) (env : Env) (K : Env -> Option R) : Option R :=
 if T.isFn t then storeFn t a v env K else match growOf env v with
 | some (s, r, j, i, o, l) => if T.ty t = some l.t then storeGrow s r j i o l a env K else none
 | none => storePlain T t a v env K
def appendTo (te : TE) (lv : Lvl) (s x : List te.ty.D) (K : Leaf -> Option R) : Option R :=
 bif decide ((s.length + x.length) * te.bytes <= 140737488355328) then K ⟨.slice te.id te.ty, s ++ x, .at_ lv⟩ else none
def grabS (ty : Ty) (env : Env) (s : Operand) : Option (Env × AV) :=
 match s with
 | .tmp ts => match get env ts with
  | .con .val [⟨t, x, .bor r j []⟩] => match (get env r).leaf? j with
   | some lp => match lp.m with
    | .at_ .ro => none
    | .at_ lv => some (put (killPlace r j env) r ((get (killPlace r j env) r).setLeaf j ⟨lp.t, lp.x, .dead⟩), .con .val [⟨t, x, .at_ lv⟩])
    | _ => none
   | none => none
  | _ => takeIn (some ty) env s
 | _ => takeIn (some ty) env s
def appendS (g : Option Nat) (te : TE) (s : Operand) (xs : List te.ty.D) (b : Bool) (env : Env) (K : Env -> Option R) : Option R :=
 match grabS (.slice te.id te.ty) env s with
 | some (env2, .con .val [l]) => match l.as (.slice te.id te.ty) with
  | some ss => match l.m with
   | .at_ .dp => appendTo te (if b then .dp else .sh) ss xs fun l => K (setD g env2 (.con .val [l]))
   | .at_ .sh => appendTo te .sh ss xs fun l => K (setD g env2 (.con .val [l]))
   | _ => none
  | none => none
 | _ => none
def nestOf (env : Env) : Operand -> Option (Nat × Nat × Int × Nat) := fun _ => none
def appendN (b : Nat) (te : TE) (r j : Nat) (i : Int) (o : Nat) (x : Operand) (env : Env) (K : Env -> Option R) : Option R :=
 match rd (some (.slice te.id te.ty)) env x with
 | .con .val [lx] => match lx.as (.slice te.id te.ty) with
  | some xs => if lx.m.live /\ te.ty.flatB = true then
    match (get env r).leaf? j with
    | some ⟨.slice e t', ys, .at_ lv⟩ =>
     if lv.deep then
      bif decide (0 <= i) && decide (i < (ys.length : Int)) then
       match leafD t' (ys.getD i.toNat t'.dflt) o with
       | some q => match (⟨q.1, q.2, .at_ .dp⟩ : Leaf).as (.slice te.id te.ty) with
        | some g => appendTo te .dp g xs fun l => K (setD (some b) (syncPlace r j ⟨.slice e t', ys, .at_ lv⟩ env) (.grow r j i o l))
        | none => none
       | none => none
      else none
     else none
    | _ => none
   else none
  | none => none
 | _ => none
def append1 (b : Option Nat) (t : TypeId) (s x : Operand) (env : Env) (K : Env -> Option R) : Option R :=
 match elemAt T t with
 | none => none
 | some te =>
  if te.ty.flatB then
   match rd (some (.slice te.id te.ty)) env x with
   | .con .val [lx] => match lx.as (.slice te.id te.ty) with
    | some xs => if lx.m.live then appendS b te s xs true env K else none
    | none => none
   | _ => none
  else match takeIn (some (.slice te.id te.ty)) env x with
   | some (env1, .con .val [lx]) => match lx.as (.slice te.id te.ty) with
    | some xs => appendS b te s xs (decide (lx.m = .at_ .dp)) env1 K
    | none => none
   | _ => none
def selOn (caps : FuncId -> List Ty) : Bool := !(caps 1000000007).isEmpty
def selPart (env : Env) (te : TE) (n : Nat) : List (Nat × Operand) -> Option AV
 | [(0, .tmp p)] => match get env p with
  | .con .val [⟨.slice e2 t, y, .bor r j [(i, 0)]⟩] => match (get env r).leaf? j with
   | some ⟨.slice _ te', _, .at_ .dp⟩ => if te' = .slice e2 t /\ (te.ty = .slice e2 t /\ (t.flatB = true /\ n = 1)) then some (.sel r j te.id e2 t [i] [y]) else none
   | _ => none
  | _ => none
 | _ => none
def selOf (env : Env) : Operand -> Option (Nat × AV)
 | .tmp s => match get env s with
  | .sel r j e e2 t ix x => some (s, .sel r j e e2 t ix x)
  | _ => none
 | _ => none
def appendSel (b : Nat) (te : TE) (s : Operand) (g : Nat) (env : Env) : Option (Bool × Env) := match selOf env s with
 | some (ts, .sel r' j' e' e2' t' ix x) => match get (put env ts .undef) g with
  | .sel r j e e2 t [i] [y] => if h : ((r' = r /\ j' = j) /\ (e' = e /\ (e2' = e2 /\ t' = t))) /\ (e = te.id /\ te.ty = .slice e2 t) then
    some (ix.all (fun k => decide (k < i)) && decide ((x.length + 1) * te.bytes <= 140737488355328), setD (some b) (put env ts .undef) (.sel r j e e2 t (ix ++ [i]) ((h.1.2.2.2 ▸ x) ++ [y])))
   else none
  | _ => none
 | _ => match grabS (.slice te.id te.ty) env s with
  | some (env2, .con .val [⟨.slice e0 t0, xs, .at_ .dp⟩]) => match get env2 g with
   | .sel r j e e2 t [i] [y] => if (e0 = te.id /\ t0 = te.ty) /\ (e = te.id /\ te.ty = .slice e2 t) then
     some (xs.isEmpty && decide ((0 + 1) * te.bytes <= 140737488355328), setD (some b) env2 (.sel r j e e2 t [i] [y]))
    else none
   | _ => none
  | _ => none
def tupOff : List (Bool × Nat) -> Nat -> Option (Nat × Bool × Nat)
 | [], _ => none
 | (a, n) :: _, 0 => some (0, a, n)
 | (_, n) :: r, i + 1 => match tupOff r i with | some (o, q) => some (n + o, q) | none => none
def Leaf.spent (l : Leaf) : Leaf := ⟨l.t, l.x, if l.m.own then .dead else l.m⟩
def spendLs : Nat -> List Leaf -> List Leaf
 | _, [] => []
 | 0, ls => ls
 | n + 1, l :: ls => l.spent :: spendLs n ls
def killLeaves : List Leaf -> Nat -> Nat -> List Leaf
 | ls, 0, n => spendLs n ls
 | [], _ + 1, _ => []
 | l :: ls, off + 1, n => l :: killLeaves ls off n
def allFlat : List (Ty × Lvl) -> Bool
 | [] => true
 | (t, _) :: r => t.flatB && allFlat r
def mutSet (env : Env) : List Leaf -> List Leaf -> Option (List (Nat × Nat × Leaf))
 | [], [] => some []
 | l :: ls, n :: ns => match mutSet env ls ns with
  | none => none
  | some L => if l.t.flatB then (if l.m.live then some L else none) else match l.m with
   | .bor r j [] => match (get env r).leaf? j with
    | some ⟨_, _, .at_ lv⟩ => if lv.deep = true /\ (lookM L r j).isNone = true then some ((r, j, ⟨n.t, n.x, .at_ lv⟩) :: L) else none
    | _ => none
   | _ => none
 | _, _ => none
def mutOf (env : Env) (ls ns : List Leaf) : Option (List (Nat × Nat × Leaf)) := mutSet env ls ns
def argNow (env : Env) (ls : List Leaf) : Option (List Leaf) := some ls
def apart (g : List (Nat × Nat)) (v : AV) : Bool :=
 (v.refs.all fun q => g.all fun b => !(q.1 == b.1 && q.2 == b.2)) && (v.ptrs.all fun r => g.all fun b => !(r == b.1))
def callM (b : Option Nat) (f : FuncId) (sg : Sig) (args : List Operand) (extra : List AV) (env : Env) (K : Env -> Option R) : Option R :=
 match sg.params, args with
 | .val t :: ps, a0 :: as => match rd (some t) env a0 with
  | .con k ls =>
   let vs := rdArgs env ps as ++ extra
   if (k = t.kind /\ typedAs ls t = true) /\ (vs.length = ps.length /\ vs.length = as.length + extra.length) /\ (allFlat sg.results = true /\ vs.all (apart (ls.flatMap Leaf.refs)) = true) then
    match (argNow env ls).bind (asm t) with
    | some (x, []) => match RVs caps env ps vs with
     | none => none
     | some rvs => match orc f (.val t x :: rvs) with
      | none => none
      | some q => q.run.bind fun xs => match q.pk xs with
       | [] => none
       | y :: ys => if h : y.1 = t then match mutOf env ls (leaves t (h ▸ y.2) (fun _ => .at_ .dp) 0) with
         | none => none
         | some L => match resAV sg.results ys with
          | none => none
          | some v => K (setD b (syncs L env) v)
        else none
    | _ => none
   else none
  | _ => none
 | _, _ => none
def callO (b : Option Nat) (f : FuncId) (sg : Sig) (args : List Operand) (extra : List AV) (env : Env) (K : Env -> Option R) : Option R :=
 match sg.params, args with
 | .val t :: ps, a0 :: as => match grabS t env a0 with
  | some (env2, .con .val [l]) => match l.as t with
   | some x =>
    let vs := rdArgs env2 ps as
    if (extra.isEmpty = true /\ l.m = .at_ .dp /\ t.isAgg = false) /\ (vs.length = ps.length /\ vs.length = as.length) /\ (vs.all fun v => v.refs.isEmpty && v.ptrs.isEmpty) = true then
     match RVs caps env2 ps vs with
     | none => none
     | some rvs => match orc f (.val t x :: rvs) with
      | none => none
      | some q => q.run.bind fun g => match q.pk g with
       | [y] => if y.1 = t then K (setD b env2 (.con .val [⟨y.1, y.2, .at_ .dp⟩])) else none
       | _ => none
    else none
   | none => none
  | _ => none
 | _, _ => none
def insN {α : Type} : Nat -> α -> List α -> List α
 | 0, x, l => x :: l
 | k + 1, x, y :: l => y :: insN k x l
 | k + 1, x, [] => [x]
def splitN {α : Type} : Nat -> List α -> Option (α × List α)
 | 0, x :: l => some (x, l)
 | k + 1, y :: l => match splitN k l with
  | some (x, m) => some (x, y :: m)
  | none => none
 | _, [] => none
def frzArgs (vs : List AV) (env : Env) : Env := if allCon vs then freezeArgs [] vs env else env
def callG (k : Nat) (b : Option Nat) (f : FuncId) (sg : Sig) (args : List Operand) (extra : List AV) (env : Env) (K : Env -> Option R) : Option R :=
 match splitN k sg.params, splitN k args with
 | some (.val t, ps), some (a0, as) => match grabS t (frzArgs (rdArgs env ps as) env) a0 with
  | some (env2, .con .val [l]) => match l.as t with
   | some x =>
    let vs := rdArgs env2 ps as
    if (extra.isEmpty = true /\ l.m = .at_ .dp /\ t.isAgg = false) /\ (vs.length = ps.length /\ vs.length = as.length /\ allFresh sg.results = true) /\ (vs.all fun v => v.refs.isEmpty && v.ptrs.isEmpty) = true then
     match RVs caps env2 ps vs with
     | none => none
     | some rvs => match orc f (insN k (.val t x) rvs) with
      | none => none
      | some q => q.run.bind fun g => match resAV sg.results (q.pk g) with
       | none => none
       | some v => K (setD b env2 v)
    else none
   | none => none
  | _ => none
 | _, _ => none
def callS (b : Option Nat) (f : FuncId) (sg : Sig) (args : List Operand) (extra : List AV) (env : Env) (K : Env -> Option R) : Option R := (fun _ => none) orc
def boxFits (b : BoxSig) : Nat -> List Leaf -> Bool
 | _, [] => true
 | n, l :: ls => (l.m.settled && (match l.t with
  | .slice _ _ => (slotAt b.lv n).isFx || l.m == b.md n
  | _ => true)) && boxFits b (n + 1) ls
def boxCalm (b : BoxSig) : Nat -> List Leaf -> Bool
 | _, [] => true
 | n, l :: ls => (match l.t with
  | .slice _ _ => (match slotAt b.lv n with
   | .fx => true
   | .dp => true
   | _ => false)
  | _ => true) && boxCalm b (n + 1) ls
def boxFxRo (b : BoxSig) : Nat -> List Leaf -> Bool
 | _, [] => true
 | n, l :: ls => (!(slotAt b.lv n).isFx || !l.m.own) && boxFxRo b (n + 1) ls
def mixLs (b : BoxSig) : Nat -> List Leaf -> List Leaf -> List Leaf
 | n, l :: ls, m :: ms => (if (slotAt b.lv n).isFx then l else m) :: mixLs b (n + 1) ls ms
 | _, _, _ => []
def subFix : List Bool -> List Slot -> Bool
 | [], _ => true
 | f :: fs, [] => !f && subFix fs []
 | f :: fs, s :: ss => (!f || s.isFx) && subFix fs ss
def apartR (r : Nat) (v : AV) : Bool := (v.refs.all fun q => !(q.1 == r)) && v.ptrs.all fun q => !(q == r)
def apartX (r : Nat) (v : AV) : Bool := match v with
 | .fptr _ _ => true
 | v => apartR r v
def bareAV (v : AV) : Bool := v.refs.isEmpty && v.ptrs.isEmpty
def renewG (r : Nat) : Chg := ⟨fun r' _ _ l => if r' = r then l.lost else l, fun a _ => a == r, true, fun _ => false⟩
def renewBox (r : Nat) (k : Kind) (ns : List Leaf) (env : Env) : Env := put (chgEnv (renewG r) env) r (.con k ns)
def capRV (env : Env) (r : Nat) (t : Ty) : Cap -> Option RCap
 | .path r' off => if r' = r then (if off = 0 then some .pin else none) else match ptrOf env t r' off with
  | some x => some (.ro ⟨t, x⟩)
  | none => none
 | .ro x => some (.ro x)
 | .self => some .self
def capRVs (env : Env) (r : Nat) : List Ty -> List Cap -> Option (List RCap)
 | [], [] => some []
 | t :: ts, c :: cs => match capRV env r t c, capRVs env r ts cs with
  | some x, some xs => some (x :: xs)
  | _, _ => none
 | _, _ => none
def RVofX (caps : FuncId -> List Ty) (env : Env) (r : Nat) (p : PTy) (v : AV) : Option RV := match p with
 | .self => match v with
  | .fptr f cs => match capRVs env r (caps f) cs with
   | some xs => some (.fptr f xs)
   | none => none
  | _ => none
 | p => RVof caps env p v
def RVsX (caps : FuncId -> List Ty) (env : Env) (r : Nat) : List PTy -> List AV -> Option (List RV)
 | [], [] => some []
 | p :: ps, v :: vs => match RVofX caps env r p v, RVsX caps env r ps vs with
  | some x, some xs => some (x :: xs)
  | _, _ => none
 | _, _ => none
def callB (g : Option Nat) (f : FuncId) (sg : Sig) (b : BoxSig) (args : List Operand) (extra : List AV) (env : Env) (K : Env -> Option R) : Option R :=
 let vs := rdArgs env sg.params args ++ extra
 match nthL vs b.k, nthL sg.params b.k with
 | some (.path r 0), some (.ptr t) => match get env r with
  | .con (.box e) ls =>
   if ((e.id = b.id /\ typedAs ls t = true) /\ (boxFits b 0 ls = true /\ subFix e.fix b.lv = true)) /\ (vs.length = sg.params.length /\ vs.length = args.length + extra.length) /\ ((dropAt b.k vs).all (apartX r) = true /\
     ((allFresh sg.results = true /\ boxCalm b 0 ls = true) \/ ((dropAt b.k vs).all bareAV = true /\ boxFxRo b 0 ls = true))) then
    match RVsX caps env r sg.params vs with
    | none => none
    | some rvs => match orc f rvs with
     | none => none
     | some q => q.run.bind fun xs => match q.pk xs with
      | [] => none
      | y :: ys => if h : y.1 = t then match resAV sg.results ys with
        | none => none
        | some v => K (setD g (renewBox r (.box e) (mixLs b 0 ls (leaves t (h ▸ y.2) b.md 0)) env) v)
       else none
   else none
  | _ => none
 | _, _ => none
def newAV (id : TypeId) (rs : List (Ty × Lvl)) : List (Σ t : Ty, t.D) -> Option AV
 | [] => none
 | y :: ys => match resLeaves rs ys with
  | none => none
  | some (sh, ls) => match rs with
   | [] => some (.con (.box ⟨id, false, []⟩) (leaves y.1 y.2 (fun _ => .at_ .ro) 0))
   | _ :: _ => some (.con (.tupB id y.1.sz sh) (leaves y.1 y.2 (fun _ => .at_ .ro) 0 ++ ls))
def callN (b : Option Nat) (f : FuncId) (sg : Sig) (id : TypeId) (args : List Operand) (extra : List AV) (env : Env) (K : Env -> Option R) : Option R :=
 let vs := rdArgs env sg.params args ++ extra
 if (vs.length = sg.params.length /\ vs.length = args.length + extra.length) /\ allCon vs = true then
  match RVs caps env sg.params vs with
  | none => none
  | some rvs => match orc f rvs with
   | none => none
   | some q => q.run.bind fun xs => match newAV id sg.results (q.pk xs) with
    | some v => K (setD b (freezeArgs [] vs env) v)
    | none => none
 else none
def call1 (g : Option Nat) (f : FuncId) (args : List Operand) (extra : List AV) (env : Env) (K : Env -> Option R) : Option R :=
 match sig f with
 | none => none
 | some sg => match sg.box with
  | some b => callB caps orc g f sg b args extra env K
  | none => match sg.newb with
  | some id => callN caps orc g f sg id args extra env K
  | none => match sg.muts with
  | false => if sg.own then (match sg.give with
   | none => callS orc g f sg args extra env K
   | some k => callG caps orc k g f sg args extra env K) else
   let vs := rdArgs env sg.params args ++ extra
   if vs.length = sg.params.length /\ vs.length = args.length + extra.length /\ (allFresh sg.results = true \/ allCon vs = true) then
    match RVs caps env sg.params vs with
    | none => none
    | some rvs => match orc f rvs with
     | none => none
     | some q => q.run.bind fun xs => match resAV sg.results (q.pk xs) with
      | none => none
      | some v => K (setD g (if allFresh sg.results then env else freezeArgs sg.results vs env) v)
   else none
  | true => if sg.own then callO caps orc g f sg args extra env K else callM caps orc g f sg args extra env K
def zeros (τ : Ty) : List Leaf := leaves τ τ.dflt (fun _ => .at_ .dp) 0
def sliceOf {α : Type} (x : List α) (h g : Option Int) : List α :=
 match h, g with
 | none, none => x
 | some a, none => x.drop a.toNat
 | none, some b => x.take b.toNat
 | some a, some b => (x.take b.toNat).drop a.toNat
def optInt (env : Env) : Option Operand -> Option (Option Int)
 | none => some none
 | some x => match int1 (rd none env x) with
  | some (.i64, n) => some (some n)
  | _ => none
def Mode.nested : Mode -> Bool
 | .bor _ _ (_ :: _) => true
 | _ => false
def nestB (env : Env) : Operand -> Bool
 | .tmp s => match get env s with
  | .con (.box _) _ => true
  | .con k ls => k.plain && ((ls.any fun l => l.m.nested) && ls.all fun l => l.m.nested || l.m == .at_ .ro)
  | _ => false
 | _ => false
def ptrAV (x : Σ t : Ty, t.D) : AV := .eptr (leaves x.1 x.2 (fun _ => .at_ .ro) 0) none
def capAV (f : FuncId) (cs : List Cap) : Cap -> AV
 | .path r off => .path r off
 | .ro x => ptrAV x
 | .self => .fptr f cs
def bytesOf (s b : TypeId) (f : Option Ty -> AV) : Option ByteArray := match T.ty s, T.ty b with
 | some (.slice e (.int .u8)), some .str => match T.ty e with
  | some (.int .u8) => match f (some (.slice e (.int .u8))) with
   | .con .val [lx] => match lx.as (.slice e (.int .u8)) with
    | some xs => if lx.m.live then some (strOfNums xs) else none
    | none => none
   | _ => none
  | _ => none
 | _, _ => none
def evVal (d : Nat) (o : Oper) (env : Env) (K : Env -> Option R) : Option R :=
 match o.op with
 | .move x => K (setD (some d) env (rd (T.ty o.type) env x))
 | .assign x => if nestB env x then K (setD (some d) env (rd (T.ty o.type) env x)) else match takeIn (T.ty o.type) env x with
  | some (env', v) => K (setD (some d) env' v)
  | none => none
 | .pick c a b => match bool1 (rd none env c) with
  | some t => bif t then K (setD (some d) env (rd (T.ty o.type) env a)) else K (setD (some d) env (rd (T.ty o.type) env b))
  | none => none
 | .alloc e => match T.ty e with
  | some τ => K (setD (some d) env (.con (.box ⟨e, false, []⟩) (zeros τ)))
  | none => if T.isFn e then K (setD (some d) env (.con (.box ⟨e, false, []⟩) [⟨.bool, false, .dead⟩])) else none
 | .box e x => match T.ty e with
  | some τ => match takeAs τ env x with
   | some (env', ls) => K (setD (some d) env' (.con (.box ⟨e, false, []⟩) ls))
   | none => none
  | none => none
 | .build t g => match T.ty t with
  | some τ => if τ.isAgg then match buildParts T t env (zeros τ) g.toList with
    | some (env', ls) => K (setD (some d) env' (.con .agg ls))
    | none => none
   else none
  | none => none
 | .buildSlice t n g => match elemAt T t with
  | some te => if n = g.size /\ n <= 1000 /\ te.ty.sz <= 1000 then match elemParts te.ty env 0 g.toList with
    | some (env', xs, dp) => K (setD (some d) env' (.con .val [⟨.slice te.id te.ty, xs, .at_ (if dp then .dp else .sh)⟩]))
    | none => none
   else none
  | none => none
 | .load t a => match T.ty t with
  | some τ => match rd none env a with
   | .path r off => match get env r with
    | .con (.box _) ls =>
     let sub := takeLs τ.sz (dropLs off ls)
     if typedAs sub τ then K (setD (some d) env (mkCon τ.isAgg (borrowFrom r off sub))) else none
    | _ => none
   | .eptr ls _ =>
    let sub := takeLs τ.sz ls
    if typedAs sub τ then K (setD (some d) env (mkCon τ.isAgg sub)) else none
   | _ => none
  | none => if T.isFn t then match rd none env a with
   | .fptr f cs => K (setD (some d) env (.cloS f cs))
   | _ => none
   else none
 | .fieldAddr s x f => match fieldAt T s f with
  | some (off, _) => match rd none env x with
   | .path r D => K (setD (some d) env (.path r (D + off)))
   | .eptr ls z => K (setD (some d) env (.eptr (dropLs off ls) (match z with | some (r, j, p, i, q) => some (r, j, p, i, q + off) | none => none)))
   | _ => none
  | none => none
 | .field s x f => match fieldAt T s f with
  | some (off, τ) => match rd none env x with
   | .con .agg ls =>
    let sub := takeLs τ.sz (dropLs off ls)
    if typedAs sub τ then K (setD (some d) env (mkCon τ.isAgg sub)) else none
   | _ => none
  | none => none
 | .indexAddr t x i => match elemAt T t with
  | some te => match rd (some (.slice te.id te.ty)) env x, int1 (rd none env i) with
   | .con .val [lx], some (.i64, n) => match lx.as (.slice te.id te.ty) with
    | some xs => if !lx.m.live then none else
      bif decide (0 <= n) && decide (n < (xs.length : Int)) then
       K (setD (some d) env (.eptr (leaves te.ty (xs.getD n.toNat te.ty.dflt) (elemMode lx.m n) 0) (match lx.m with | .bor r j p => some (r, j, nestP te.ty.sz p, n, 0) | _ => none)))
      else none
    | none => none
   | _, _ => none
  | none => none
 | .index t x i => match T.ty t, str1 (rd none env x), int1 (rd none env i) with
  | some .str, some s, some (_, n) => (if 0 <= n then s[n.toNat]? else none).bind fun b => K (setD (some d) env (vInt .u8 b.toNat))
  | _, _, _ => none
 | .extract x i => match x with
  | .tmp s => match get env s with
   | .con (.tup sh) ls => match tupOff sh i with
    | some (off, agg, n) =>
     let sub := takeLs n (dropLs off ls)
     if sub.all (fun l => l.m.live) then
      if sub.any (fun l => l.m.own) then (if ls.all (fun l => l.m.bare) then K (setD (some d) (put (killRoot s env) s (.con (.tup sh) (killLeaves ls off n))) (mkCon agg sub)) else none)
      else K (setD (some d) env (mkCon agg sub))
     else none
    | none => none
   | _ => none
  | _ => none
 | .binOp h t x y _ => binOp1 T h t (rd none env x) (rd none env y) fun v => K (setD (some d) env v)
 | .unOp h _ x => unOp1 h (rd none env x) fun v => K (setD (some d) env v)
 | .convert s A x => match T.ty s, T.ty A, int1 (rd none env x) with
  | some (.int _), some (.int k'), some (_, n) => K (setD (some d) env (vInt k' (k'.wrap n)))
  | _, _, _ => match bytesOf T s A (fun ty => rd ty env x) with
   | some b => K (setD (some d) env (vStr b))
   | none => none
 | .slice t x C B mx => match mx with
  | some _ => none
  | none => match optInt env C, optInt env B with
   | some a, some b => match str1 (rd none env x) with
    | some s => match T.ty t with
     | some .str => bif decide (0 <= a.getD 0) && (decide (a.getD 0 <= b.getD (s.size : Int)) && decide (b.getD (s.size : Int) <= (s.size : Int))) then
       K (setD (some d) env (vStr (s.extract (a.getD 0).toNat (b.getD (s.size : Int)).toNat)))
      else none
     | _ => none
    | none => match elemAt T t with
     | some te => match rd (some (.slice te.id te.ty)) env x with
      | .con .val [lx] => match lx.as (.slice te.id te.ty) with
       | some xs => if !lx.m.live then none else
         bif decide (0 <= a.getD 0) && (decide (a.getD 0 <= b.getD (xs.length : Int)) && decide (b.getD (xs.length : Int) <= (xs.length : Int))) then
          K (setD (some d) (freezeAll [lx] env) (.con .val [⟨.slice te.id te.ty, sliceOf xs a b, .at_ .ro⟩]))
         else none
       | none => none
      | _ => none
     | none => none
   | _, _ => none
 | .makeSlice t l c => match elemAt T t, int1 (rd none env l), int1 (rd none env c) with
  | some te, some (.i64, n), some (.i64, m) =>
   bif decide (n = m) && (decide (0 <= n) && decide (n * te.bytes <= 140737488355328)) then
    K (setD (some d) env (.con .val [⟨.slice te.id te.ty, List.replicate n.toNat te.ty.dflt, .at_ .dp⟩]))
   else none
  | _, _, _ => none
 | .makeFunc (.func f) first captured =>
  if first.size = 0 then
   match captured.toList.mapM (fun x => match rd none env x with | .path r off => some (r, off) | _ => none) with
   | some cs => K (setD (some d) env (.clo f cs))
   | none => none
  else none
 | .nilCheck x => match rd none env x with
  | .path r off => K (setD (some d) env (.path r off))
  | .clo f cs => K (setD (some d) env (.clo f cs))
  | .cloR f xs => K (setD (some d) env (.cloR f xs))
  | .cloS f cs => K (setD (some d) env (.cloS f cs))
  | .eptr ls z => K (setD (some d) env (.eptr ls z))
  | _ => none
 | .call c => match c.callee with
  | .value (.func f) => call1 sig caps orc (some d) f c.args.toList [] env K
  | .value (.tmp t) => match get env t with
   | .clo f cs => call1 sig caps orc (some d) f c.args.toList (cs.map fun c => .path c.1 c.2) env K
   | .cloR f xs => call1 sig caps orc (some d) f c.args.toList (xs.map ptrAV) env K
   | .cloS f cs => call1 sig caps orc (some d) f c.args.toList (cs.map (capAV f cs)) env K
   | _ => none
  | .builtin .len => match c.args.toList, c.argTypes.toList with
   | [x], [t] => match str1 (rd none env x) with
    | some s => match T.ty t with
     | some .str => K (setD (some d) env (vInt .i64 (s.size : Int)))
     | _ => none
    | none => match T.ty t with
     | some (.slice e τ) => match rd (some (.slice e τ)) env x with
      | .con .val [lx] => match lx.as (.slice e τ) with
       | some xs => if lx.m.live then K (setD (some d) env (vInt .i64 (xs.length : Int))) else none
       | none => none
      | _ => none
     | _ => none
   | _, _ => none
  | .builtin .append => match c.args.toList, c.argTypes.toList with
   | [s, x], [t, t'] => if t = t' then (match nestOf env s with
     | some (r, j, i, o) => (match elemAt T t with
      | some te => appendN d te r j i o x env K
      | none => none)
     | none => append1 T (some d) t s x env K) else none
   | _, _ => none
  | .builtin .max => match c.args.toList with
   | [x, y] => match int1 (rd none env x), int1 (rd none env y) with
    | some (k, a), some (k', b) => if k = k' then K (setD (some d) env (vInt k (if b > a then b else a))) else none
    | _, _ => none
   | _ => none
  | .builtin .min => match c.args.toList with
   | [x, y] => match int1 (rd none env x), int1 (rd none env y) with
    | some (k, a), some (k', b) => if k = k' then K (setD (some d) env (vInt k (if b < a then b else a))) else none
    | _, _ => none
   | _ => none
  | _ => none
 | _ => none
def evOp (o : Oper) (env : Env) (K : Env -> Option R) : Option R :=
 match o.dst with
 | some d => if d < env.length then evVal T sig caps orc d o env K else none
 | none => match o.op with
  | .store t a v => store1 T t a v env K
  | _ => none
def skipOp (o : Oper) (env : Env) (K : Env -> Option R) : Option R := match o.dst with
 | some d => if d < env.length then K (setD (some d) env .skip) else none
 | none => K env
def evOps (ops : Array Oper) : List Oper -> Env -> (Env -> Option R) -> Option R
 | [], env, K => K env
 | o :: rest, env, K => match o.guard with
  | none => evOp T sig caps orc o env fun env' => evOps ops rest env' K
  | some (j, want) => match (ops[j]?).bind (·.dst) with
   | none => none
   | some d => match get env d with
    | .skip => skipOp o env fun env' => evOps ops rest env' K
    | .con .val [⟨.bool, b, .at_ .ro⟩] => bif b
      then (if want then evOp T sig caps orc o (put env d (vBool true)) fun env' => evOps ops rest env' K else skipOp o (put env d (vBool true)) fun env' => evOps ops rest env' K)
      else (if want then skipOp o (put env d (vBool false)) fun env' => evOps ops rest env' K else evOp T sig caps orc o (put env d (vBool false)) fun env' => evOps ops rest env' K)
    | _ => none
def tupStep (o : Oper) (d : Nat) (env : Env) : Option Env := match o.op with
 | .move (.tmp s) => match get env s with
  | .con (.tupB id n sh) ls => if (ls.all fun l => l.m.settled) = true then some (setD (some d) (killRoot s env) (.con (.tupB id n sh) ls)) else none
  | _ => none
 | .extract (.tmp s) 0 => match get env s with
  | .con (.tupB id n sh) ls => if (ls.all fun l => l.m.bare) = true /\ ((takeLs n ls).all fun l => l.m == .at_ .ro) = true then
    some (setD (some d) (put (killRoot s env) s (.con (.tup ((false, 1) :: sh)) (⟨.bool, false, .dead⟩ :: dropLs n ls))) (.con (.box ⟨id, false, []⟩) (takeLs n ls)))
   else none
  | _ => none
 | _ => none
def takeStep (o : Oper) (d : Nat) (env : Env) : Option (Bool × Env) := (fun _ _ _ _ => none) T caps o d
def preTup (o : Oper) (env : Env) : Env := match o.op with
 | .extract (.tmp s) (_ + 1) => match get env s with
  | .con (.tupB id n sh) ls => if (ls.all fun l => l.m.bare) = true /\ ((takeLs n ls).all fun l => l.m == .at_ .ro) = true then
    put (killRoot s env) s (.con (.tup ((false, 1) :: sh)) (⟨.bool, false, .dead⟩ :: dropLs n ls))
   else env
  | _ => env
 | _ => env
def selStep (o : Oper) (env : Env) : Option (Bool × Env) := match o.guard, o.dst with
 | none, some d => if d < env.length then (match tupStep o d env with
  | some env' => some (true, env')
  | none => match takeStep T caps o d env with
  | some z => some z
  | none => match o.op with
  | .move x => match selOf env x with
   | some (s, v) => if s = d then none else some (true, setD (some d) (put env s .undef) v)
   | none => none
  | .assign x => match selOf env x with
   | some (s, v) => if s = d then none else some (true, setD (some d) (put env s .undef) v)
   | none => none
  | .buildSlice t n b => if selOn caps then (match elemAt T t with
   | some te => match selPart env te n b.toList with
    | some v => some (true, setD (some d) env v)
    | none => none
   | none => none) else none
  | .call c => match c.callee with
   | .builtin .append => match c.args.toList, c.argTypes.toList with
    | [s, x], [t, t'] => if t = t' then (match selOf env x, elemAt T t with
     | some (tx, _), some te => appendSel d te s tx env
     | _, _ => none) else none
    | _, _ => none
   | _ => none
  | _ => none) else none
 | _, _ => none
def evOpsS (ops : Array Oper) : List Oper -> Env -> (Env -> Option R) -> Option R
 | [], env, K => K env
 | o :: rest, env, K => match selStep T caps o env with
  | some (b, env') => bif b then evOpsS ops rest env' K else none
  | none => evOps T sig caps orc ops [o] (preTup o env) fun env' => evOpsS ops rest env' K
def iter (step : (Env -> Option R) -> Env -> Option R) : Nat -> Env -> Option R
 | 0, _ => none
 | n + 1, env => step (iter step n) env
def dropAll (keep : List Nat) : List Nat -> Env -> Env
 | [], env => env
 | d :: ds, env => dropAll keep ds (if keep.contains d then env else put (clear d env) d .undef)
def movedFrom (ops : List Oper) (s : Nat) : Option Nat := match ops.find? (fun o => o.dst == some s) with
 | none => some s
 | some o => match o.op with
  | .move (.tmp s') => if (ops.takeWhile fun o => !(o.dst == some s)).any (fun o => o.dst == some s') then none else some s'
  | _ => none
def defOf (ops : List Oper) (s : Nat) : Option Op := (ops.find? fun o => o.dst == some s).map (·.op)
def loadedFrom (ops : List Oper) (env : Env) (s : Nat) : Option (Nat × Nat) := match defOf ops s with
 | some (.load _ (.tmp a)) => match defOf ops a with
  | some (.fieldAddr st (.tmp b) f) => match fieldAt T st f, rd none env (.tmp b) with
   | some (off, _), .path r o => some (r, o + off)
   | _, _ => none
  | none => match rd none env (.tmp a) with
   | .path r o => some (r, o)
   | _ => none
  | _ => none
 | _ => none
def preRow (ops : List Oper) (s : Nat) (env : Env) : Env := match movedFrom ops s with
 | some s' => match rd none env (.tmp s') with
  | .con .val ls => freezeAll ls env
  | _ => env
 | none => match loadedFrom T ops env s with
  | some (r', j) => freeze r' j env
  | none => env
def elemOf (ops : List Oper) : Operand -> Option Nat
 | .tmp p => match defOf ops p with
  | some (.load t (.tmp a)) => match T.ty t with
   | some τ => if τ.flatB then none else match defOf ops a with
    | some (.indexAddr _ (.tmp b) _) => some b
    | _ => none
   | none => none
  | _ => none
 | _ => none
def preElems (ops : List Oper) : List (Nat × Operand) -> Env -> Env
 | [], env => env
 | p :: ps, env => preElems ops ps (match elemOf T ops p.2 with
  | some b => preRow T ops b env
  | none => env)
def preStore (ops : List Oper) (s : Nat) (env : Env) : Env := match defOf ops s with
 | some (.load _ (.tmp a)) => match rd none env (.tmp a) with
  | .path r 0 => match get env r with
   | .con (.box _) ls => freezeAll ((List.range ls.length).map fun j => ⟨.unit, (), .bor r j []⟩) env
   | _ => env
  | _ => env
 | _ => env
def preAsg (ops : List Oper) (s : Nat) (env : Env) : Env := match defOf ops s with
 | some (.move (.tmp a)) => match rd none env (.tmp a) with
  | .con .val ls => freezeAll ls env
  | _ => env
 | _ => env
def preF (ops : List Oper) : List Oper -> Env -> Env
 | [], env => env
 | o :: r, env => preF ops r (match o.guard, o.op with
  | none, .slice _ (.tmp s) _ _ _ => preRow T ops s env
  | none, .buildSlice _ _ ps => preElems T ops ps.toList env
  | none, .store _ _ (.tmp s) => if r.isEmpty then env else preStore ops s env
  | none, .assign (.tmp s) => if r.isEmpty then env else preAsg ops s env
  | _, _ => env)
def evCode (g : Array Oper -> Env -> (Env -> Option R) -> Option R) (fuel : Nat) (ann : Nat -> Option (List Nat)) : Nat -> Code -> Env -> (Exit -> Env -> Option R) -> Option R
 | _, .skip, env, K => K .normal env
 | _, .region _ ops draw, env, K => if draw then g ops (preF T ops.toList ops.toList env) (K .normal) else evOpsS T sig caps orc ops ops.toList env (K .normal)
 | m, .seq a b, env, K => evCode g fuel ann m a env fun e env' => match e with
  | .normal => evCode g fuel ann m b env' K
  | e => K e env'
 | m, .cond c a b, env, K => match bool1 (rd none env c) with
  | some t => bif t then evCode g fuel ann m a env K else evCode g fuel ann m b env K
  | none => none
 | _, .block id c, env, K => evCode g fuel ann id c env fun e env' => match e with
  | .exit h => if h = id then K .normal env' else K e env'
  | e => K e env'
 | m, .loop c, env, K => match ann m with
  | none => none
  | some keep => iter (fun i env => evCode g fuel ann m c env fun e env' => match e with
   | .normal => i (dropAll keep (List.range env'.length) env')
   | e => K e env') fuel (dropAll keep (List.range env.length) env)
 | _, .exit id, env, K => K (.exit id) env
 | _, .ret, env, K => K .ret env
 | _, _, _, _ => none
def paramAV : RV -> Option AV
 | .val t x => some (mkCon t.isAgg (leaves t x (fun _ => .at_ .ro) 0))
 | .ptr t x => some (.eptr (leaves t x (fun _ => .at_ .ro) 0) none)
 | .clo f xs => some (.cloR f xs)
 | .fptr _ _ => none
def paramAVs : List RV -> Option (List AV)
 | [] => some []
 | v :: r => match paramAV v, paramAVs r with
  | some a, some as => some (a :: as)
  | _, _ => none
def paramMut : RV -> Option AV
 | .val t x => some (mkCon t.isAgg (leaves t x (fun n => .at_ (.pn n)) 0))
 | _ => none
def entryAVs (sg : Sig) (args : List RV) : Option (List AV) := match sg.muts, args with
 | true, a :: r => match paramMut a, paramAVs r with
  | some v, some vs => some (v :: vs)
  | _, _ => none
 | true, [] => none
 | false, args => paramAVs args
def findPinL (h : Nat) : List Leaf -> Option Leaf
 | [] => none
 | l :: ls => if l.m = .at_ (.pn h) then some l else findPinL h ls
def findPin (h : Nat) : Env -> Option Leaf
 | [] => none
 | .con _ ls :: env => match findPinL h ls with
  | some l => some l
  | none => findPin h env
 | _ :: env => findPin h env
def pinVal (env : Env) : (t : Ty) -> t.D -> Nat -> Option t.D
 | .slice e t, _, n => match findPin n env with
  | some l => l.as (.slice e t)
  | none => none
 | .pair a b, x, n => match pinVal env a x.1 n, pinVal env b x.2 (n + a.sz) with
  | some y, some z => some (y, z)
  | _, _ => none
 | .int _, x, _ => some x
 | .bool, x, _ => some x
 | .str, x, _ => some x
 | .unit, x, _ => some x
def res1 (env : Env) (t : Ty) (b : Lvl) : ResultVar -> Option t.D
 | .tmp d => match get env d with
  | .con k ls => if decide (k = t.kind) && ls.all (fun l => l.m.settled && b.asks l) then match asm t ls with
    | some (x, []) => some x
    | _ => none
   else none
  | _ => none
 | .cell d g => if T.ty g = some t then match get env d with
  | .con (.box _) ls => if ls.all (fun l => l.m.settled && b.asks l) then match asm t ls with
    | some (x, []) => some x
    | _ => none
   else none
  | _ => none
  else none
def resN (env : Env) : List (Ty × Lvl) -> List ResultVar -> Option (List (Σ t : Ty, t.D))
 | [], [] => some []
 | (t, fr) :: ps, v :: vs => match res1 T env t fr v, resN env ps vs with
  | some x, some xs => some (⟨t, x⟩ :: xs)
  | _, _ => none
 | _, _ => none
def blank : (t : Ty) -> t.D -> t.D
 | .slice _ _, _ => []
 | .pair a b, x => (blank a x.1, blank b x.2)
 | .int _, x => x
 | .bool, x => x
 | .str, x => x
 | .unit, x => x
def keepArgs (sg : Sig) (args : List RV) : List RV := match sg.muts with
 | true => match args with
  | .val t x :: _ => [.val t (blank t x)]
  | _ => []
 | false => []
def mutRes (sg : Sig) (args : List RV) (env : Env) (xs : List (Σ t : Ty, t.D)) : Option (List (Σ t : Ty, t.D)) := match sg.muts, args with
 | true, .val t x :: _ => match pinVal env t x 0 with
  | some y => some (⟨t, y⟩ :: xs)
  | none => none
 | true, _ => none
 | false, _ => some xs
def pullN (s : Nat) (env : Env) : Env := match get env s with
 | .con .val [⟨.slice e t, x, .bor r j [(_, 0)]⟩] => match (get env r).leaf? j with
  | some ⟨.slice e' te, xs, .at_ .dp⟩ => if te = .slice e t /\ (t.flatB = true /\ s ≠ r) then
    let b := killPlace r j env
    let e2 := put b r ((get b r).setLeaf j ⟨.slice e' te, xs, .dead⟩)
    put e2 s ((get e2 s).setLeaf 0 ⟨.slice e t, x, .at_ .dp⟩)
   else env
  | _ => env
 | .sel r j e e2 t _ x => match (get env r).leaf? j with
  | some ⟨.slice e' te, xs, .at_ .dp⟩ => if te = .slice e2 t /\ (t.flatB = true /\ s ≠ r) then
    let b := killPlace r j env
    let g := put b r ((get b r).setLeaf j ⟨.slice e' te, xs, .dead⟩)
    put g s (.con .val [⟨.slice e (.slice e2 t), x, .at_ .dp⟩])
   else env
  | _ => env
 | _ => env
def pullRes : List (Ty × Lvl) -> List ResultVar -> Env -> Env
 | (_, fr) :: ps, v :: vs, env => pullRes ps vs (match fr, v with
  | .dp, .tmp d => pullN d env
  | _, _ => env)
 | _, _, env => env
def endPull (sg : Sig) (fn : Func) (env : Env) : Env := match sg.muts with
 | true => env
 | false => pullRes sg.results fn.results.toList env
def endK (sg : Sig) (fn : Func) (args : List RV) (K : List (Σ t : Ty, t.D) -> Option R) : Exit -> Env -> Option R := fun e env =>
 match e with
 | .ret | .normal => match resN T (endPull sg fn env) sg.results fn.results.toList with
  | some xs => match mutRes sg args env xs with
   | some b => K b
   | none => none
  | none => none
 | _ => none
def newVal (id : TypeId) (t : Ty) : AV -> Option t.D
 | .con (.box e) ls => if e.id = id /\ (ls.all fun l => l.m == .at_ .ro) = true then match asm t ls with
   | some (y, []) => some y
   | _ => none
  else none
 | _ => none
def endN (id : TypeId) (t : Ty) (rs : List (Ty × Lvl)) (fn : Func) (K : List (Σ t : Ty, t.D) -> Option R) : Exit -> Env -> Option R := fun e b =>
 match e with
 | .ret | .normal => match fn.results.toList with
  | .tmp d :: vs => match resN T (pullRes rs vs b) rs vs with
   | some xs => match get (pullRes rs vs b) d with
    | .path r 0 => match newVal id t (get (pullRes rs vs b) r) with
     | some y => K (⟨t, y⟩ :: xs)
     | none => none
    | v => match newVal id t v with
     | some y => K (⟨t, y⟩ :: xs)
     | none => none
   | none => none
  | _ => none
 | _ => none
def resTmp : ResultVar -> Nat
 | .tmp d => d
 | .cell d _ => d
def evFn (b : Array Oper -> Env -> (Env -> Option R) -> Option R) (fuel : Nat) (ann : Nat -> Option (List Nat)) (sg : Sig) (fn : Func) (c : Code) (args : List RV) (K : List (Σ t : Ty, t.D) -> Option R) : Option R :=
 match entryAVs sg args with
 | some as => if as.length <= fn.ntmps /\ (fn.results.toList.map resTmp).Nodup /\ (sg.muts = true -> allFlat sg.results = true) then evCode T sig caps orc b fuel ann 0 c (as ++ List.replicate (fn.ntmps - as.length) .skip) (endK T sg fn (keepArgs sg args) K) else none
 | none => none
def evFnG (b : Array Oper -> Env -> (Env -> Option R) -> Option R) (fuel : Nat) (ann : Nat -> Option (List Nat)) (k : Nat) (sg : Sig) (fn : Func) (c : Code) (args : List RV) (K : List (Σ t : Ty, t.D) -> Option R) : Option R :=
 match splitN k args with
 | some (.val t x, rest) => match paramAVs rest with
  | some as => if (as.length + 1 <= fn.ntmps /\ k <= as.length /\ t.isAgg = false) /\ (fn.results.toList.map resTmp).Nodup /\ sg.muts = false then evCode T sig caps orc b fuel ann 0 c (insN k (.con .val [⟨t, x, .at_ .dp⟩]) as ++ List.replicate (fn.ntmps - (as.length + 1)) .skip) (endK T sg fn [] K) else none
  | none => none
 | _ => none
def evFnN (b : Array Oper -> Env -> (Env -> Option R) -> Option R) (fuel : Nat) (ann : Nat -> Option (List Nat)) (id : TypeId) (t : Ty) (rs : List (Ty × Lvl)) (fn : Func) (c : Code) (args : List RV) (K : List (Σ t : Ty, t.D) -> Option R) : Option R :=
 match paramAVs args with
 | some as => if as.length <= fn.ntmps /\ (fn.results.toList.map resTmp).Nodup then evCode T sig caps orc b fuel ann 0 c (as ++ List.replicate (fn.ntmps - as.length) .skip) (endN T id t rs fn K) else none
 | none => none
end
def El {α : Type} (P : List Value -> α -> List Nat -> Prop) (n : Nat) : List Value -> List α -> List Nat -> Prop
 | xs, [], bs => xs = [] /\ bs = []
 | xs, x :: r, bs => ∃ c g b bs', xs = c ++ g /\ c.length = n /\ bs = b ++ bs' /\ P c x b /\ El P n g r bs'
section
variable {α : Type} {P Q : List Value -> α -> List Nat -> Prop} {n : Nat}
theorem El.imp : ∀ {l : List α} {xs : List Value} {bs : List Nat}, (∀ c x b, (∀ k ∈ b, k ∈ bs) -> P c x b -> Q c x b) -> El P n xs l bs -> El Q n xs l bs
 | [], _, _, _, h => h
 | x :: r, xs, bs, hp, ⟨c, xs', b, bs', e, l, eb, p, t⟩ =>
  ⟨c, xs', b, bs', e, l, eb, hp _ _ _ (fun k g => by rw [eb]; exact Xe _ g) p,
   El.imp (fun c x i j h => hp c x i (fun k g => gr) h) t⟩
theorem El.bare (g : ∀ c x b, P c x b -> Q c x []) : ∀ {l : List α} {xs : List Value} {bs : List Nat}, El P n xs l bs -> El Q n xs l []
 | [], _, _, h => ⟨h.1, rfl⟩
 | x :: r, xs, bs, ⟨c, xs', b, bs', e, l, eb, p, t⟩ => ⟨c, xs', [], [], e, l, rfl, g _ _ _ p, El.bare g t⟩
theorem El.bareW {bs : List Nat} (i : ∀ c x b, (∀ k ∈ b, k ∈ bs) -> P c x b -> Q c x []) : ∀ {l : List α} {xs : List Value} {bs' : List Nat}, (∀ k ∈ bs', k ∈ bs) -> El P n xs l bs' -> El Q n xs l []
 | [], _, _, _, h => ⟨h.1, rfl⟩
 | x :: r, xs, bs', hs, ⟨c, xs', b, bs'', e, l, eb, p, t⟩ =>
  ⟨c, xs', [], [], e, l, rfl, i _ _ _ (fun k g => hs k (by rw [eb]; exact Xe _ g)) p, El.bareW i (fun k g => hs k gr) t⟩
theorem El.len : ∀ {l : List α} {xs : List Value} {bs : List Nat}, El P n xs l bs -> xs.length = l.length * n
 | [], _, _, h => by rw [h.1]; simp
 | x :: r, xs, bs, ⟨c, xs', b, bs', e, l, eb, p, t⟩ => by rw [e, Xl, l, El.len t, X1t, X2d]; omega
theorem El.all {p : Value -> Prop} (i : ∀ c x b, P c x b -> ∀ u ∈ c, p u) : ∀ {l : List α} {xs : List Value} {bs : List Nat}, El P n xs l bs -> ∀ u ∈ xs, p u
 | [], _, _, h, u, g => by rw [h.1] at g; simp at g
 | x :: r, xs, bs, ⟨c, xs', b, bs', e, l, eb, h, t⟩, u, g => by
  rw [e] at g;rcases X6.1 g with g | g
  ·grind
  ·exact El.all i t u g
theorem El.allB {p : Nat -> Prop} (i : ∀ c x b, P c x b -> ∀ u ∈ b, p u) : ∀ {l : List α} {xs : List Value} {bs : List Nat}, El P n xs l bs -> ∀ u ∈ bs, p u
 | [], _, _, h, u, g => by rw [h.2] at g; simp at g
 | x :: r, xs, bs, ⟨c, xs', b, bs', e, l, eb, h, t⟩, u, g => by
  rw [eb] at g;rcases X6.1 g with g | g
  ·exact i _ _ _ h u g
  ·exact El.allB i t u g
theorem El.noB (g : ∀ c x b, P c x b -> b = []) : ∀ {l : List α} {xs : List Value} {bs : List Nat}, El P n xs l bs -> bs = []
 | [], _, _, h => h.2
 | x :: r, xs, bs, ⟨c, xs', b, bs', e, l, eb, h, t⟩ => by rw [eb, g _ _ _ h, El.noB g t]; rfl
theorem El.append : ∀ {l g : List α} {xs ys : List Value} {bs bs' : List Nat}, El P n xs l bs -> El P n ys g bs' -> El P n (xs ++ ys) (l ++ g) (bs ++ bs')
 | [], _, _, _, _, _, h, k => by rw [h.1, h.2]; exact k
 | x :: r, g, xs, ys, bs, bs', ⟨c, xs', b, b', e, l, eb, p, t⟩, k =>
  ⟨c, xs' ++ ys, b, b' ++ bs', by rw [e, X7], l, by rw [eb, X7], p, El.append t k⟩
theorem El.at_ : ∀ {l : List α} {xs : List Value} {bs : List Nat} (i : Nat) (h : i < l.length), El P n xs l bs ->
  ∃ j c g z b A, xs = j ++ c ++ g /\ j.length = i * n /\ c.length = n /\ bs = z ++ b ++ A /\ P c l[i] b /\
   (∀ m y q, m.length = n -> P m y q -> El P n (j ++ m ++ g) (l.set i y) (z ++ q ++ A))
 | [], _, _, i, h, _ => by simp at h
 | x :: r, xs, bs, 0, h, ⟨c, xs', b, bs', e, l, eb, p, t⟩ =>
  ⟨[], c, xs', [], b, bs', by simpa using e, sm, l, by simpa using eb, p, fun m y q D E => ⟨m, xs', q, bs', sm, D, sm, E, t⟩⟩
 | x :: r, xs, bs, i + 1, h, ⟨c, xs', b, bs', e, l, eb, p, t⟩ => by
  obtain ⟨j, F, g, z, A, C, G, I, l2, B, L, M⟩ := El.at_ i (by simpa using h) t;refine ⟨c ++ j, F, g, b ++ z, A, C, by rw [e, G]; simp [X7], by rw [Xl, l, I, X2d]; omega, l2, by rw [eb, B]; simp [X7], L, ?_⟩;intro m y q D E;exact ⟨c, j ++ m ++ g, b, z ++ q ++ C, by simp [X7], l, gr⟩
theorem El.take : ∀ {l : List α} {xs : List Value} (j : Nat), El P n xs l [] -> (∀ c x b, P c x b -> b = []) -> El P n (xs.take (j * n)) (l.take j) []
 | _, _, 0, _, _ => by simp [El]
 | [], xs, j + 1, h, _ => by rw [h.1]; simp [El]
 | x :: r, xs, j + 1, ⟨c, xs', b, bs', e, l, eb, p, t⟩, hb => by
  have g := hb _ _ _ p;subst g;obtain rfl : bs' = [] :=gr;refine ⟨c, xs'.take (j * n), [], [], ?_, l, rfl, p, El.take j t hb⟩;rw [e, List.take_append, X2d, l, X2e om];congr 2;omega
theorem El.drop : ∀ {l : List α} {xs : List Value} (j : Nat), El P n xs l [] -> (∀ c x b, P c x b -> b = []) -> El P n (xs.drop (j * n)) (l.drop j) []
 | _, _, 0, h, _ => by simpa using h
 | [], xs, j + 1, h, _ => by rw [h.1]; simp [El]
 | x :: r, xs, j + 1, ⟨c, xs', b, bs', e, l, eb, p, t⟩, hb => by
  have g := hb _ _ _ p;subst g;obtain rfl : bs' = [] := by simpa using eb.symm
  have := El.drop j t hb;rw [e, List.drop_append, X2d, l, X2w om, X2o, List.drop_succ_cons];rw [show j * n + 1 * n - n = j * n by omega];exact this
theorem El.replicate (x : α) (c : List Value) (b : c.length = n) (g : P c x []) : ∀ k : Nat, El P n (List.replicate k c).flatten (List.replicate k x) []
 | 0 => by simp [El]
 | k + 1 => ⟨c, (List.replicate k c).flatten, [], [], by simp [List.replicate_succ], b, rfl, g, El.replicate x c b g k⟩
end
def Lvl.sub : Lvl -> Lvl
 | .dp => .dp
 | .pn _ => .dp
 | _ => .ro
def RowRep (S : Nat -> Prop) (w : World) (e : TypeId) (sz : Nat) (m : Lvl) (v : Value) (n : Nat) (xs : List Value) (b : List Nat) : Prop :=
 match m with
 | .ro => b = [] /\ ∃ A c, v = .slice A n c /\ n <= c /\ (A = none -> c = 0) /\ ∀ j u, xs[j]? = some u -> ∃ a, A = some a /\ S a.block /\ w.cell? (a.add j) = some u
 | _ => b = v.ownBlock.toList /\ w.ownsRow 0 e sz v n xs
def Rep (S : Nat -> Prop) (w : World) : (t : Ty) -> Lvl -> List Value -> t.D -> List Nat -> Prop
 | .int k, _, cs, x, bs => cs = [.int k x] /\ bs = []
 | .bool, _, cs, x, bs => cs = [.bool x] /\ bs = []
 | .str, _, cs, x, bs => cs = [.string x] /\ bs = []
 | .slice e t, m, cs, x, bs => ∃ v xs h g, cs = [v] /\ bs = h ++ g /\ El (Rep S w t m.sub) t.sz xs x g /\ RowRep S w e t.sz m v x.length xs h
 | .unit, _, cs, _, bs => cs = [] /\ bs = []
 | .pair a b, m, cs, x, bs => ∃ j l g i, cs = j ++ l /\ bs = g ++ i /\ Rep S w a m j x.1 g /\ Rep S w b m l x.2 i
theorem Rep.len {S : Nat -> Prop} {w : World} : ∀ {t : Ty} {m : Lvl} {cs : List Value} {x : t.D} {bs : List Nat}, Rep S w t m cs x bs -> cs.length = t.sz
 | .int k, _, _, _, _, h => by rw [h.1]; rfl
 | .bool, _, _, _, _, h => by rw [h.1]; rfl
 | .str, _, _, _, _, h => by rw [h.1]; rfl
 | .slice e t, _, _, _, _, ⟨v, xs, b0, b1, h, _⟩ => by rw [h]; rfl
 | .unit, _, _, _, _, h => by rw [h.1]; rfl
 | .pair a b, _, _, _, _, ⟨c1, c2, b1, b2, h, _, h1, h2⟩ => by rw [h, Xl, Rep.len h1, Rep.len h2]; rfl
theorem RowRep.slice {S : Nat -> Prop} {w : World} {e : TypeId} {sz : Nat} {m : Lvl} {v : Value} {n : Nat} {xs : List Value} {b : List Nat} (h : RowRep S w e sz m v n xs b) : ∃ A c, v = .slice A n c /\ n <= c := by
 cases m with
 | ro => obtain ⟨_, A, c, e, l, _⟩ := h; exact ⟨A, c, e, l⟩
 | sh =>
  obtain ⟨_, _, h | ⟨g, cap, cur, e, _, _, l, _⟩⟩ := h
  ·grind
  ·grind
 | dp =>
  obtain ⟨_, _, h | ⟨g, cap, cur, e, _, _, l, _⟩⟩ := h
  ·simp_all
  ·exact ⟨_, _, e, l⟩
 | pn _ =>
  obtain ⟨_, _, h | ⟨g, cap, cur, e, _, _, l, _⟩⟩ := h
  ·exact ⟨none, 0, by rw [h.1, h.2], om⟩
  ·exact ⟨_, _, e, l⟩
theorem Rep.one {S : Nat -> Prop} {w : World} : ∀ {t : Ty} {m : Lvl} {cs : List Value} {x : t.D} {bs : List Nat}, Rep S w t m cs x bs -> ∀ u ∈ cs, u.oneCell' = true
 | .int k, _, _, _, _, h, u, g => by rw [h.1] at g; rw [Xb.1 g]; rfl
 | .bool, _, _, _, _, h, u, g => by rw [h.1] at g; rw [Xb.1 g]; rfl
 | .str, _, _, _, _, h, u, g => by rw [h.1] at g; rw [Xb.1 g]; rfl
 | .slice e t, _, _, _, _, ⟨v, xs, b0, b1, h, _, _, hr⟩, u, g => by
  rw [h] at g;obtain ⟨A, c, e, _⟩ := hr.slice;rw [Xb.1 g, e];rfl
 | .unit, _, _, _, _, h, u, g => by rw [h.1] at g; simp at g
 | .pair a b, _, _, _, _, ⟨c1, c2, b1, b2, h, _, h1, h2⟩, u, g => by
  rw [h] at g;rcases X6.1 g with g | g
  ·exact Rep.one h1 u g
  ·exact Rep.one h2 u g
theorem Y1m {w : World} {base : Nat} {e : TypeId} {b n : Nat} {v : Value} {xs : List Value} (h : w.ownsRow base e b v n xs) (k : Nat) (i : v.ownBlock = some k) : base <= k /\ k < w.heap.size := by
 rcases h.2 with ⟨rfl, _⟩ | ⟨g, cap, cur, rfl, j, l, _⟩
 ·simp [Value.ownBlock] at i
 ·have : g = k := by simpa [Value.ownBlock] using i
  subst this;exact ⟨j, (X10.1 l).1⟩
theorem Y3i {w j : World} {base : Nat} {e : TypeId} {b n : Nat} {v : Value} {xs : List Value} (h : w.ownsRow base e b v n xs) (q : ∀ k, v.ownBlock = some k -> j.heap[k]? = w.heap[k]?) : j.ownsRow base e b v n xs := by
 obtain ⟨l, i⟩ := h;refine ⟨l, ?_⟩;rcases i with i | ⟨g, cap, cur, rfl, m, p, r⟩
 ·exact .inl i
 ·exact .inr ⟨g, cap, cur, rfl, m, (q g (by simp [Value.ownBlock])).trans p, r⟩
theorem Yk {o : Option Nat} {k : Nat} : k ∈ o.toList ↔ o = some k := by cases o <;> simp [eq_comm]
theorem Addr.add_block (a : Addr) (j : Nat) : (a.add j).block = a.block := by unfold Addr.add; split <;> rfl
theorem Rep.move {S S' : Nat -> Prop} {w w' : World} (p : ∀ b, S b -> b < w.heap.size -> S' b /\ w'.heap[b]? = w.heap[b]?) :
  ∀ {t : Ty} {m : Lvl} {cs : List Value} {x : t.D} {bs : List Nat}, (∀ b ∈ bs, w'.heap[b]? = w.heap[b]?) -> Rep S w t m cs x bs -> Rep S' w' t m cs x bs
 | .int k, _, _, _, _, _, h => h
 | .bool, _, _, _, _, _, h => h
 | .str, _, _, _, _, _, h => h
 | .slice e t, m, _, _, bs, hb, ⟨v, xs, b0, b1, h, hbs, he, hr⟩ => by
  refine ⟨v, xs, b0, b1, h, hbs, El.imp (fun c x b i L => Rep.move p (fun k D => hb k gr) L) he, ?_⟩;cases m with
  | ro =>
   obtain ⟨B, A, c, y, E, M, C⟩ := hr;refine ⟨B, A, c, y, E, M, fun j u G => ?_⟩;obtain ⟨a, z, F, g⟩ := C j u G;have l := X2t w _ g;rw [Addr.add_block] at l;obtain ⟨q, I⟩ := p _ F l;exact ⟨a, z, q, (X1d (by rw [Addr.add_block]; exact I)).trans g⟩
  | sh => exact ⟨hr.1, Y3i hr.2 (fun k i => hb k (by rw [hbs, hr.1]; exact Xe _ (Yk.2 i)))⟩
  | dp => exact ⟨hr.1, Y3i hr.2 (fun k i => hb k (by rw [hbs, hr.1]; exact Xe _ (Yk.2 i)))⟩
  | pn _ => exact ⟨hr.1, Y3i hr.2 (fun k i => hb k (by rw [hbs, hr.1]; exact Xe _ (Yk.2 i)))⟩
 | .unit, _, _, _, _, _, h => h
 | .pair a b, _, _, _, bs, hb, ⟨c1, c2, b1, b2, h, hbs, h1, h2⟩ =>
  ⟨c1, c2, b1, b2, h, hbs, Rep.move p (fun k i => hb k (by rw [hbs]; exact Xe _ i)) h1, Rep.move p (fun k i => hb k (by rw [hbs]; exact Xf _ i)) h2⟩
theorem Y2l {w : World} {base : Nat} {e : TypeId} {i n : Nat} {v : Value} {xs : List Value} (h : w.ownsRow base e i v n xs) :
  ∃ A c, v = .slice A n c /\ n <= c /\ (A = none -> c = 0) /\ ∀ j u, xs[j]? = some u -> ∃ a, A = some a /\ v.ownBlock = some a.block /\ w.cell? (a.add j) = some u := by
 obtain ⟨z, m⟩ := h;rcases m with ⟨rfl, rfl⟩ | ⟨g, cap, cur, rfl, B, p, q, C, D, y⟩
 ·grind
 ·refine ⟨_, _, rfl, q, (fun h => by simp at h), fun j u l => ⟨⟨g, 0, none⟩, rfl, rfl, ?_⟩⟩;have b : (⟨g, 0, none⟩ : Addr).add j = ⟨g, j, none⟩ := by unfold Addr.add; split <;> simp_all
  rw [b];unfold World.cell?;rw [p];rw [<- y, X1m] at l;split at l
  ·simpa using l
  ·simp at l
theorem Rep.ro {S : Nat -> Prop} {w : World} : ∀ {t : Ty} {m : Lvl} {cs : List Value} {x : t.D} {bs : List Nat}, Rep S w t m cs x bs -> Rep (fun b => S b \/ b ∈ bs) w t .ro cs x []
 | .int k, _, _, _, _, h => ⟨h.1, rfl⟩
 | .bool, _, _, _, _, h => ⟨h.1, rfl⟩
 | .str, _, _, _, _, h => ⟨h.1, rfl⟩
 | .slice e t, m, _, x, bs, ⟨v, xs, b0, b1, h, hbs, he, hr⟩ => by
  refine ⟨v, xs, [], [], h, rfl, ?_, ?_⟩
  ·refine El.bareW (bs := b1) (fun c x b B C => ?_) (fun k B => B) he;refine Rep.move (S := fun i => S i \/ i ∈ b) (fun i g _ => ⟨?_, rfl⟩) sm (Rep.ro C);rcases g with g | g
   ·exact .inl g
   ·grind
  ·cases m with
   | ro =>
    obtain ⟨D, A, c, l, q, z, p⟩ := hr;exact ⟨rfl, A, c, l, q, z, fun j u y => let ⟨a, ea, hs, hcell⟩ := p j u y; ⟨a, ea, .inl hs, hcell⟩⟩
   | sh =>
    obtain ⟨A, c, l, q, z, p⟩ := Y2l hr.2;exact ⟨rfl, A, c, l, q, z, fun j u y => let ⟨a, ea, hs, hcell⟩ := p j u y; ⟨a, ea, .inr (by rw [hbs, hr.1]; exact Xe _ (Yk.2 hs)), hcell⟩⟩
   | dp =>
    obtain ⟨A, c, l, q, z, p⟩ := Y2l hr.2;exact ⟨rfl, A, c, l, q, z, fun j u y => let ⟨a, ea, hs, hcell⟩ := p j u y; ⟨a, ea, .inr (by rw [hbs, hr.1]; exact Xe _ (Yk.2 hs)), hcell⟩⟩
   | pn _ =>
    obtain ⟨A, c, l, q, z, p⟩ := Y2l hr.2;exact ⟨rfl, A, c, l, q, z, fun j u y => let ⟨a, ea, hs, hcell⟩ := p j u y; ⟨a, ea, .inr (by rw [hbs, hr.1]; exact Xe _ (Yk.2 hs)), hcell⟩⟩
 | .unit, _, _, _, _, h => ⟨h.1, rfl⟩
 | .pair a b, _, _, _, bs, ⟨c1, c2, b1, b2, h, hbs, h1, h2⟩ =>
  ⟨c1, c2, [], [], h, rfl,
   Rep.move (S := fun i => S i \/ i ∈ b1) (fun i g _ => ⟨g.imp id (fun h => by rw [hbs]; exact Xe _ h), rfl⟩) sm (Rep.ro h1),
   Rep.move (S := fun i => S i \/ i ∈ b2) (fun i g _ => ⟨g.imp id (fun h => by rw [hbs]; exact Xf _ h), rfl⟩) sm (Rep.ro h2)⟩
theorem Rep.lt {S : Nat -> Prop} {w : World} : ∀ {t : Ty} {m : Lvl} {cs : List Value} {x : t.D} {bs : List Nat}, Rep S w t m cs x bs -> ∀ b ∈ bs, b < w.heap.size
 | .int k, _, _, _, _, h, b, g => by rw [h.2] at g; simp at g
 | .bool, _, _, _, _, h, b, g => by rw [h.2] at g; simp at g
 | .str, _, _, _, _, h, b, g => by rw [h.2] at g; simp at g
 | .slice e t, m, _, _, bs, ⟨v, xs, b0, b1, h, hbs, he, hr⟩, b, g => by
  rw [hbs] at g;rcases X6.1 g with g | g
  ·cases m with
   | ro => rw [hr.1] at g; simp at g
   | sh => rw [hr.1] at g; exact (Y1m hr.2 b (Yk.1 g)).2
   | dp => rw [hr.1] at g; exact (Y1m hr.2 b (Yk.1 g)).2
   | pn _ => rw [hr.1] at g; exact (Y1m hr.2 b (Yk.1 g)).2
  ·exact El.allB (fun c x l j => Rep.lt j) he b g
 | .unit, _, _, _, _, h, b, g => by rw [h.2] at g; simp at g
 | .pair a b, _, _, _, bs, ⟨c1, c2, b1, b2, h, hbs, h1, h2⟩, k, i => by
  rw [hbs] at i;rcases X6.1 i with i | i
  ·exact Rep.lt h1 k i
  ·exact Rep.lt h2 k i
theorem Rep.ro_bs {S : Nat -> Prop} {w : World} : ∀ {t : Ty} {cs : List Value} {x : t.D} {bs : List Nat}, Rep S w t .ro cs x bs -> bs = []
 | .int k, _, _, _, h => h.2
 | .bool, _, _, _, h => h.2
 | .str, _, _, _, h => h.2
 | .slice e t, _, _, bs, ⟨v, xs, b0, b1, h, hbs, he, hr⟩ => by rw [hbs, hr.1, El.noB (fun c x b g => Rep.ro_bs g) he]; rfl
 | .unit, _, _, _, h => h.2
 | .pair a b, _, _, bs, ⟨c1, c2, b1, b2, h, hbs, h1, h2⟩ => by rw [hbs, Rep.ro_bs h1, Rep.ro_bs h2]; rfl
theorem Rep.pn {S : Nat -> Prop} {w : World} {h : Nat} : ∀ {t : Ty} {cs : List Value} {x : t.D} {bs : List Nat}, Rep S w t (.pn h) cs x bs ↔ Rep S w t .dp cs x bs
 | .int k, _, _, _ => Iff.rfl
 | .bool, _, _, _ => Iff.rfl
 | .str, _, _, _ => Iff.rfl
 | .slice e t, _, _, _ => Iff.rfl
 | .unit, _, _, _ => Iff.rfl
 | .pair a b, _, _, _ => by
  constructor
  ·rintro ⟨l, m, i, j, h, g, p, q⟩
   exact ⟨l, m, i, j, h, g, Rep.pn.1 p, Rep.pn.1 q⟩
  ·rintro ⟨l, m, i, j, h, g, p, q⟩
   exact ⟨l, m, i, j, h, g, Rep.pn.2 p, Rep.pn.2 q⟩
theorem Rep.deep {S : Nat -> Prop} {w : World} {lv : Lvl} (b : lv.deep = true) {t : Ty} {cs : List Value} {x : t.D} {bs : List Nat} : Rep S w t lv cs x bs ↔ Rep S w t .dp cs x bs := by
 cases lv with
 | dp => exact Iff.rfl
 | pn h => exact Rep.pn
 | ro => simp [Lvl.deep] at b
 | sh => simp [Lvl.deep] at b
theorem Rep.flat {S S' : Nat -> Prop} {w w' : World} : ∀ {t : Ty} {m m' : Lvl} {cs : List Value} {x : t.D} {bs : List Nat}, t.flatB = true -> Rep S w t m cs x bs -> bs = [] /\ Rep S' w' t m' cs x []
 | .int k, _, _, _, _, _, _, h => ⟨h.2, h.1, rfl⟩
 | .bool, _, _, _, _, _, _, h => ⟨h.2, h.1, rfl⟩
 | .str, _, _, _, _, _, _, h => ⟨h.2, h.1, rfl⟩
 | .slice e t, _, _, _, _, _, hf, _ => by simp [Ty.flatB] at hf
 | .unit, _, _, _, _, _, _, h => ⟨h.2, h.1, rfl⟩
 | .pair a b, _, _, _, _, _, hf, ⟨c1, c2, b1, b2, h, hbs, h1, h2⟩ => by
  simp [Ty.flatB] at hf;obtain ⟨g, r1⟩ := Rep.flat hf.1 h1;obtain ⟨e2, i⟩ := Rep.flat hf.2 h2;exact ⟨by rw [hbs, g, e2]; rfl, c1, c2, [], [], h, rfl, r1, i⟩
theorem Rep.roS {S : Nat -> Prop} {w : World} {t : Ty} {m : Lvl} {cs : List Value} {x : t.D} {bs : List Nat} {S' : Nat -> Prop} (h : Rep S w t m cs x bs) (g : ∀ b, S b -> b < w.heap.size -> S' b) (i : ∀ b ∈ bs, S' b) : Rep S' w t .ro cs x [] :=
 Rep.move (S := fun b => S b \/ b ∈ bs) (fun b j l => ⟨j.elim (fun h => g b h l) (i b), rfl⟩) sm h.ro
def zeroCells : Ty -> List Value
 | .int k => [.int k 0]
 | .bool => [.bool false]
 | .str => [.string ⟨#[]⟩]
 | .slice _ _ => [.slice none 0 0]
 | .unit => []
 | .pair a b => zeroCells a ++ zeroCells b
theorem Rep.zero (S : Nat -> Prop) (w : World) : ∀ (t : Ty) (m : Lvl), Rep S w t m (zeroCells t) t.dflt []
 | .int k, _ => ⟨rfl, rfl⟩
 | .bool, _ => ⟨rfl, rfl⟩
 | .str, _ => ⟨rfl, rfl⟩
 | .slice e t, m => by
  refine ⟨.slice none 0 0, [], [], [], rfl, rfl, ⟨rfl, rfl⟩, ?_⟩;cases m with
  | ro => exact ⟨rfl, none, 0, rfl, Xd _, fun _ => rfl, sm⟩
  | sh => exact ⟨rfl, by simp [Ty.dflt], .inl ⟨rfl, rfl⟩⟩
  | dp => exact ⟨rfl, by simp [Ty.dflt], .inl ⟨rfl, rfl⟩⟩
  | pn _ => exact ⟨rfl, by simp [Ty.dflt], .inl ⟨rfl, rfl⟩⟩
 | .unit, _ => ⟨rfl, rfl⟩
 | .pair a b, m => ⟨_, _, [], [], rfl, rfl, Rep.zero S w a m, Rep.zero S w b m⟩
open Go.RowKit
structure Cx where
 S0 : Nat -> Prop
 base : Nat
 w0 : World
 pin : Nat -> Value := fun _ => default
 fz : Nat -> Prop := fun _ => False
 pinB : Value := default
 pinC : Nat -> Value := fun _ => default
def Cx.mine (c : Cx) (b : Nat) : Prop := c.base <= b /\ ¬ c.fz b
def Lvl.pinOk (c : Cx) (u : Value) : Lvl -> Prop
 | .pn h => u = c.pin h
 | _ => True
structure St where
 env : Nat -> AV
 tm : Nat -> Value
 w : World
 cs : Nat -> List Value
 bs : Nat -> Nat -> List Nat
variable {w : World} {env : Env} {tmps : Array Value} {vs : Nat -> Value} {ps : Nat -> AV} {cs : Nat -> List Value} {bs : Nat -> Nat -> List Nat} {c : Cx} {s : St} {ls : List Leaf} {t : Ty} {v : Value} {d : Nat} {f : FuncId} {cells : List Value} {lf : Leaf} {n : Nat} {u : Value} {k : Kind} {av : AV} {lv : Lvl} {w' : World} {us : List Value}
def RoS (c : Cx) (s : St) (b : Nat) : Prop := (∀ r l, b ∉ s.bs r l) /\ (c.S0 b \/ c.mine b)
def OwnPlace (s : St) (r j : Nat) (lf : Leaf) (u : Value) : Prop := (s.env r).leaf? j = some lf /\ lf.m.own = true /\ (s.cs r)[j]? = some u
def NestC (c : Cx) (s : St) (a : Addr) (r j : Nat) (lf : Leaf) (u : Value) (i0 : Int) (l z : Nat) (i : Int) (o : Nat) : Prop :=
 ∃ e t xs m B n h A g b, lf = ⟨.slice e t, xs, m⟩ /\ u = .slice (some ⟨B, 0, none⟩) n h /\ (0 <= i0 /\ i0.toNat < xs.length) /\ ((RoS c s B \/ B ∈ s.bs r (j + 1)) /\ B < s.w.heap.size) /\
  s.w.cell? ⟨B, i0.toNat * t.sz + l, none⟩ = some (.slice (some A) g b) /\ (0 <= i /\ i.toNat < g) /\ a = A.add (i.toNat * z + o)
def WrRel0 (c : Cx) (s : St) (a : Addr) (r j : Nat) (p : List (Int × Nat)) (i : Int) (o : Nat) : Prop :=
 ((RoS c s a.block \/ a.block ∈ s.bs r (j + 1)) /\ a.block < s.w.heap.size) /\ ∃ lf u, OwnPlace s r j lf u /\
   (p = [] -> ∃ e t xs m B n g, lf = ⟨.slice e t, xs, m⟩ /\ u = .slice (some ⟨B, 0, none⟩) n g /\ 0 <= i /\ i.toNat < xs.length /\ a = ⟨B, i.toNat * t.sz + o, none⟩) /\
   ∀ i0 b z, p = [(i0, b), (0, z)] -> NestC c s a r j lf u i0 b z i o
def WrRel (c : Cx) (s : St) (a : Addr) : Option (Nat × Nat × List (Int × Nat) × Int × Nat) -> Prop
 | none => RoS c s a.block /\ a.block < s.w.heap.size
 | some (r, j, p, i, o) => WrRel0 c s a r j p i o
def BorRel (c : Cx) (s : St) (u : Value) (lf : Leaf) (r j : Nat) (p : List (Int × Nat)) : Prop :=
 Rep (fun b => RoS c s b \/ b ∈ s.bs r (j + 1)) s.w lf.t .ro [u] lf.x [] /\
 (∃ g h, OwnPlace s r j g h /\ (p = [] -> ∃ m, g = ⟨lf.t, lf.x, m⟩ /\ h = u)) /\
 (∀ i o, p = [(i, o)] -> ∃ a, WrRel0 c s a r j [] i o /\ s.w.cell? a = some u)
def Held (c : Cx) (s : St) (u : Value) (lf : Leaf) : Prop :=
 match lf.m with
 | .at_ _ => Rep (RoS c s) s.w lf.t .ro [u] lf.x []
 | .bor r j p => BorRel c s u lf r j p
 | .dead => u.oneCell' = true
def LeafRel (c : Cx) (s : St) (r l : Nat) (u : Value) (lf : Leaf) : Prop :=
 match lf.m with
 | .at_ .ro => s.bs r (l + 1) = [] /\ Held c s u lf
 | .at_ lv => Rep (RoS c s) s.w lf.t lv [u] lf.x (s.bs r (l + 1)) /\ lv.pinOk c u
 | _ => s.bs r (l + 1) = [] /\ Held c s u lf
def TupCells : List (Bool × Nat) -> List Value -> List Value -> Prop
 | [], vs, cs => vs = [] /\ cs = []
 | (agg, n) :: sh, vs, cs => ∃ v g c b, vs = v :: g /\ cs = c ++ b /\ c.length = n /\ (if agg then v = .agg c.toArray else c = [v] /\ v.oneCell' = true) /\ TupCells sh g b
def KCells (c : Cx) (w : World) (b : List Nat) : Kind -> Value -> List Value -> Prop
 | .val, v, cs => cs = [v] /\ b = []
 | .agg, v, cs => v = .agg cs.toArray /\ b = []
 | .tup sh, v, cs => b = [] /\ ∃ vs, v = .tuple vs.toArray /\ TupCells sh vs cs
 | .tupB id n sh, v, cs => ∃ B vs g h, v = .tuple (.pointer (some ⟨B, 0, none⟩) :: vs).toArray /\ cs = g ++ h /\ g.length = n /\ w.heap[B]? = some (.cells g.toArray id (0, 0)) /\ b = [B] /\ TupCells sh vs h
 | .box e, v, cs => ∃ B, v = .pointer (some ⟨B, 0, none⟩) /\ w.heap[B]? = some (.cells cs.toArray e.id (0, 0)) /\ b = [B] /\ ((e.pin = true -> v = c.pinB) /\ ∀ l, nthB e.fix l = true -> cs[l]? = some (c.pinC l))
def PtrRel (s : St) (r off : Nat) (v : Value) : Prop :=
 ∃ e ls B, s.env r = .con (.box e) ls /\ s.tm r = .pointer (some ⟨B, 0, none⟩) /\ v = .pointer (some ⟨B, off, none⟩)
def PtrRels (s : St) : List (Nat × Nat) -> List Value -> Prop
 | [], vs => vs = []
 | c :: cs, vs => ∃ v b, vs = v :: b /\ PtrRel s c.1 c.2 v /\ PtrRels s cs b
def PtrV (S : Nat -> Prop) (w : World) (t : Ty) (x : t.D) (v : Value) : Prop :=
 ∃ (a : Addr) (b : List Value), v = .pointer (some a) /\ S a.block /\ a.block < w.heap.size /\ (∀ (j : Nat) (u : Value), b[j]? = some u -> w.cell? (a.add j) = some u) /\ Rep S w t .ro b x []
def PtrVs (S : Nat -> Prop) (w : World) : List (Σ t : Ty, t.D) -> List Value -> Prop
 | [], vs => vs = []
 | x :: xs, vs => ∃ v b, vs = v :: b /\ PtrV S w x.1 x.2 v /\ PtrVs S w xs b
theorem PtrV.move {S S' : Nat -> Prop} {w w' : World} (i : ∀ b, S b -> b < w.heap.size -> S' b /\ w'.heap[b]? = w.heap[b]?) {x : t.D} (h : PtrV S w t x v) : PtrV S' w' t x v := by
 obtain ⟨a, l, m, p, q, y, z⟩ := h;obtain ⟨B, k2⟩ := i _ p q;have g : a.block < w'.heap.size :=gr;exact ⟨a, l, m, B, g, fun j u A => (X1d (by rw [Addr.add_block]; exact k2)).trans (y j u A), Rep.move i sm z⟩
theorem PtrVs.move {S S' : Nat -> Prop} {w w' : World} (g : ∀ b, S b -> b < w.heap.size -> S' b /\ w'.heap[b]? = w.heap[b]?) : ∀ {xs : List (Σ t : Ty, t.D)} {vs : List Value}, PtrVs S w xs vs -> PtrVs S' w' xs vs
 | [], vs, h => h
 | x :: xs, vs, ⟨v, vs', e, h1, h2⟩ => ⟨v, vs', e, h1.move g, h2.move g⟩
def CapRel (c : Cx) (s : St) (v : Value) : Cap -> Value -> Prop
 | .path r off, u => PtrRel s r off u
 | .ro x, u => PtrV (RoS c s) s.w x.1 x.2 u
 | .self, u => u = v
def CapRels (c : Cx) (s : St) (v : Value) : List Cap -> List Value -> Prop
 | [], vs => vs = []
 | cp :: cs, vs => ∃ u b, vs = u :: b /\ CapRel c s v cp u /\ CapRels c s v cs b
def SelfAt (c : Cx) (s : St) (f : FuncId) (caps : List Cap) (v : Value) (us : List Value) : Prop :=
 ∃ B, v = .pointer (some ⟨B, 0, none⟩) /\ RoS c s B /\ B < s.w.heap.size /\ s.w.cell? ⟨B, 0, none⟩ = some (.func (.func f) #[] us.toArray) /\ CapRels c s v caps us
def SelRel (c : Cx) (s : St) (r j : Nat) (e e2 : TypeId) (t : Ty) (ix : List Int) (x : List (List t.D)) (v : Value) : Prop :=
 (∃ a : Addr, WrRel0 c s a r j [(0, 0), (0, 0), (0, 0)] 0 0) /\ ∃ xs : List Value, s.w.ownsRow 0 e 1 v x.length xs /\ ix.length = x.length /\ ix.Pairwise (· < ·) /\
  ∀ (k : Nat) (i : Int) (y : List t.D), ix[k]? = some i -> x[k]? = some y -> ∃ u, xs[k]? = some u /\ BorRel c s u ⟨.slice e2 t, y, .bor r j [(i, 0)]⟩ r j [(i, 0)]
def PartRel (c : Cx) (s : St) (t : Ty) (x : List t.D) (n : Int) (v : Value) (b : List Nat) : Prop :=
 0 <= n /\ ∃ (A : Option Addr) (g : Nat) (xs : List Value), v = .slice A x.length g /\ xs.length = x.length * t.sz /\ (∀ (j : Nat) (u : Value), xs[j]? = some u -> ∃ a, A = some a /\ RoS c s a.block /\ a.block < s.w.heap.size /\ s.w.cell? (a.add j) = some u) /\
  El (Rep (RoS c s) s.w t .dp) t.sz (xs.drop (n.toNat * t.sz)) (x.drop n.toNat) b
def AVRel (c : Cx) (s : St) (r : Nat) : AV -> Value -> Prop
 | .undef, _ => ∀ l, s.bs r l = []
 | .skip, v => v = undef /\ ∀ l, s.bs r l = []
 | .con k ls, v => KCells c s.w (s.bs r 0) k v (s.cs r) /\ ls.length = (s.cs r).length /\ (∀ l, ls.length <= l -> s.bs r (l + 1) = []) /\
   ∀ l lf u, leafAt ls l = some lf -> (s.cs r)[l]? = some u -> LeafRel c s r l u lf
 | .path r' off, v => (∀ l, s.bs r l = []) /\ PtrRel s r' off v
 | .eptr ls wr, v => (∀ l, s.bs r l = []) /\ ∃ a, v = .pointer (some a) /\ (∀ l lf, leafAt ls l = some lf -> lf.m.own = false /\ ∃ u, s.w.cell? (a.add l) = some u /\ Held c s u lf) /\ WrRel c s a wr
 | .clo f caps, v => (∀ l, s.bs r l = []) /\ ∃ vs, v = .func (.func f) #[] vs.toArray /\ PtrRels s caps vs
 | .cloR f xs, v => (∀ l, s.bs r l = []) /\ ∃ vs, v = .func (.func f) #[] vs.toArray /\ PtrVs (RoS c s) s.w xs vs
 | .fptr f caps, v => (∀ l, s.bs r l = []) /\ ∃ us, SelfAt c s f caps v us
 | .cloS f caps, u => (∀ l, s.bs r l = []) /\ ∃ v us, u = .func (.func f) #[] us.toArray /\ SelfAt c s f caps v us
 | .sel r' j e e2 t ix x, v => ((∀ k, s.bs r (k + 1) = []) /\ s.bs r 0 = v.ownBlock.toList) /\ SelRel c s r' j e e2 t ix x v
 | .junk, _ => ∀ k, s.bs r (k + 1) = []
 | .part e t x n, v => (∀ l, s.bs r (l + 1) = []) /\ PartRel c s t x n v (s.bs r 0)
 | .eown ls, v => (∀ l, s.bs r (l + 1) = []) /\ ∃ (a : Addr) (g : List (List Nat)), v = .pointer (some a) /\ RoS c s a.block /\ a.block < s.w.heap.size /\ s.bs r 0 = g.flatten /\ g.length = ls.length /\ ∀ (l : Nat) (lf : Leaf), ls[l]? = some lf -> ∃ u m, s.w.cell? (a.add l) = some u /\ lf.m = .at_ m /\ (∀ h, m ≠ .pn h) /\ Rep (RoS c s) s.w lf.t m [u] lf.x (g.getD l [])
 | .grow r' j i o l, v => (∀ k, s.bs r (k + 1) = []) /\ (∃ e t, l.t = .slice e t /\ t.flatB = true) /\ Rep (fun _ => False) s.w l.t .dp [v] l.x v.ownBlock.toList /\
   ∃ a u, WrRel0 c s a r' j [] i o /\ s.w.cell? a = some u /\
    (s.bs r 0 = v.ownBlock.toList \/ (s.bs r 0 = [] /\ u.ownBlock = v.ownBlock /\ ∀ b, v.ownBlock = some b -> WrRel0 c s ⟨b, 0, none⟩ r' j [(i, o), (0, 0), (0, 0)] 0 0))
structure Rel (c : Cx) (s : St) : Prop where
 below : Below c.base c.w0 s.w
 base : c.base <= s.w.heap.size
 own : ∀ r l b, b ∈ s.bs r l -> c.mine b /\ b < s.w.heap.size
 disj : ∀ r l r' l' b, b ∈ s.bs r l -> b ∈ s.bs r' l' -> r = r' /\ l = l'
 nodup : ∀ r l, (s.bs r l).Nodup
 av : ∀ r, AVRel c s r (s.env r) (s.tm r)
 froz : ∀ b, c.fz b -> b < s.w.heap.size /\ (∀ r l, b ∉ s.bs r l) /\ s.w.heap[b]? = c.w0.heap[b]?
theorem Rel.mine_new (h : Rel c s) {b : Nat} (g : s.w.heap.size <= b) : c.mine b :=
 ⟨Nat.le_trans h.base g, fun i => by have := (h.froz b i).1; omega⟩
theorem Y16 : ∀ (env : Env) (d : Nat) (v : AV) (r : Nat), get (put env d v) r = if r = d /\ d < env.length then v else get env r
 | [], d, v, r => by simp [put, get]
 | u :: env, 0, v, 0 => by simp [put, get]
 | u :: env, 0, v, r + 1 => by simp [put, get]
 | u :: env, d + 1, v, 0 => by simp [put, get]
 | u :: env, d + 1, v, r + 1 => by simp [put, get, Y16 env d v r]
theorem Y5 : ∀ (env : Env) (d : Nat) (v : AV), (put env d v).length = env.length
 | [], _, _ => rfl
 | _ :: _, 0, _ => rfl
 | u :: env, d + 1, v => by simp [put, Y5 env d v]
theorem Y11 : ∀ (env : Env) (r : Nat), env.length <= r -> get env r = .undef
 | [], r, _ => rfl
 | u :: env, 0, h => by simp at h
 | u :: env, r + 1, h => by simp [get]; exact Y11 env r (by simpa using h)
theorem Y2 : ∀ (ls : List Leaf) (j : Nat), leafAt ls j = ls[j]?
 | [], _ => by simp [leafAt]
 | l :: ls, 0 => by simp [leafAt]
 | l :: ls, j + 1 => by simp [leafAt, Y2 ls j]
theorem Y9 : ∀ (ls : List Leaf) (j : Nat) (l : Leaf), setAt ls j l = ls.set j l
 | [], _, _ => by simp [setAt]
 | u :: ls, 0, l => by simp [setAt]
 | u :: ls, j + 1, l => by simp [setAt, Y9 ls j l]
theorem Yq : ∀ (n : Nat) (ls : List Leaf), takeLs n ls = ls.take n
 | 0, ls => by simp [takeLs]
 | n + 1, [] => by simp [takeLs]
 | n + 1, l :: ls => by simp [takeLs, Yq n ls]
theorem Yr : ∀ (n : Nat) (ls : List Leaf), dropLs n ls = ls.drop n
 | 0, ls => by simp [dropLs]
 | n + 1, [] => by simp [dropLs]
 | n + 1, l :: ls => by simp [dropLs, Yr n ls]
theorem Y41 : ∀ (b : List Leaf) (ls : List Leaf) (off : Nat), off + b.length <= ls.length -> setLeaves ls off b = ls.take off ++ b ++ ls.drop (off + b.length)
 | [], ls, off, h => by simp [setLeaves]
 | l :: b, ls, off, h => by
  simp at h;rw [setLeaves, Y41 b _ _ (by rw [Y9, Xz]; omega), Y9];rw [List.take_set, List.drop_set, X4 om];simp;rw [show (ls.take (off + 1)).set off l = ls.take off ++ [l] by
   rw [X28 om, X22 _ _ (by simp; omega)];simp [Xn, X33 (show off <= ls.length by omega)]]
  simp;rw [show off + 1 + b.length = off + (b.length + 1) by omega]
theorem Y6u (tm : Array Value) (d : Nat) (v : Value) (r : Nat) : (tm.setIfInBounds d v).getD r undef = if r = d /\ d < tm.size then v else tm.getD r undef := by
 simp only [X11];rw [X1z];by_cases h : d = r
 ·grind
 ·grind
theorem Y12 (g : Chg) : ∀ (env : Env) (r : Nat), get (chgEnv g env) r = (get env r).chg g
 | [], r => by simp [get, chgEnv, AV.chg]
 | u :: env, 0 => by simp [get, chgEnv]
 | u :: env, r + 1 => by simp [get, chgEnv, Y12 g env r]
theorem Y8 (g : Chg) : ∀ env : Env, (chgEnv g env).length = env.length
 | [] => rfl
 | u :: env => by simp [chgEnv, Y8 g env]
theorem Y2y (g : Chg) : ∀ ls : List Leaf, chgs g ls = ls.map (Leaf.chg g)
 | [] => rfl
 | l :: ls => by simp [chgs, Y2y g ls]
theorem Yf (g : Chg) (ls : List Leaf) (l : Nat) : leafAt (chgs g ls) l = (leafAt ls l).map (Leaf.chg g) := by
 rw [Y2, Y2, Y2y, X18]
theorem Yu (g : Chg) (ls : List Leaf) : (chgs g ls).length = ls.length := by rw [Y2y, X2p]
theorem Yc {l : Nat} (h : leafAt ls l = some lf) : lf ∈ ls := by
 rw [Y2] at h;exact X8 h
def Keeps (c : Cx) (s s' : St) : Prop := ∀ b, RoS c s b -> b < s.w.heap.size -> RoS c s' b /\ s'.w.heap[b]? = s.w.heap[b]?
def SamePl (s s' : St) (r j : Nat) : Prop :=
 (∀ lf u, OwnPlace s r j lf u -> OwnPlace s' r j lf u) /\ s'.bs r (j + 1) = s.bs r (j + 1) /\ ∀ b ∈ s.bs r (j + 1), s'.w.heap[b]? = s.w.heap[b]?
def SamePtr (s s' : St) (r : Nat) : Prop :=
 s'.tm r = s.tm r /\ ∀ e ls, s.env r = .con (.box e) ls -> ∃ e' b, s'.env r = .con (.box e') b
theorem NestC.keep {s s' : St} {a : Addr} {r j : Nat} {i0 i : Int} {D z o : Nat} (C : Keeps c s s') (N : s'.bs r (j + 1) = s.bs r (j + 1)) (O : ∀ b ∈ s.bs r (j + 1), s'.w.heap[b]? = s.w.heap[b]?) (h : NestC c s a r j lf u i0 D z i o) : NestC c s' a r j lf u i0 D z i o := by
 obtain ⟨e, t, xs, m, B, n, E, A, U, p, F, G, I, ⟨g, q⟩, L, M⟩ := h;have l : s'.w.heap[B]? = s.w.heap[B]? /\ (RoS c s' B \/ B ∈ s'.bs r (j + 1)) := by
  rcases g with g | g
  ·exact ⟨(C _ g q).2, .inl (C _ g q).1⟩
  ·exact ⟨O _ g, .inr (by rw [N]; exact g)⟩
 have y : B < s'.w.heap.size := by
  have := l.1;rw [Xu q] at this;exact (X10.1 this).1
 exact ⟨e, t, xs, m, B, n, E, A, U, p, F, G, I, ⟨l.2, y⟩, (X1d l.1).trans L, M⟩
theorem WrRel0.keep {s s' : St} {a : Addr} {r j : Nat} {p : List (Int × Nat)} {i : Int} {o : Nat} (m : Keeps c s s') (F : SamePl s s' r j) (h : WrRel0 c s a r j p i o) : s'.w.heap[a.block]? = s.w.heap[a.block]? /\ WrRel0 c s' a r j p i o := by
 obtain ⟨D, A, B⟩ := F;obtain ⟨⟨b, l⟩, lf, u, C, y⟩ := h;have g : s'.w.heap[a.block]? = s.w.heap[a.block]? /\ (RoS c s' a.block \/ a.block ∈ s'.bs r (j + 1)) := by
  rcases b with b | b
  ·exact ⟨(m _ b l).2, .inl (m _ b l).1⟩
  ·exact ⟨B _ b, .inr (by rw [A]; exact b)⟩
 have q : a.block < s'.w.heap.size := by
  have := g.1;rw [Xu l] at this;exact (X10.1 this).1
 exact ⟨g.1, ⟨g.2, q⟩, lf, u, D _ _ C, y.1, fun i0 G z E => (y.2 i0 G z E).keep m A B⟩
theorem BorRel.keep {s s' : St} {r j : Nat} {p : List (Int × Nat)} (l : Keeps c s s') (F : SamePl s s' r j) (h : BorRel c s u lf r j p) : BorRel c s' u lf r j p := by
 obtain ⟨q, D, G⟩ := F;obtain ⟨z, ⟨m, N, A, B⟩, C⟩ := h;refine ⟨Rep.move (fun b g y => ?_) sm z, ⟨m, N, q _ _ A, B⟩, fun i o E => ?_⟩
 ·rcases g with g | g
  ·exact ⟨.inl (l b g y).1, (l b g y).2⟩
  ·grind
 ·obtain ⟨a, I, k2⟩ := C i o E;obtain ⟨L, M⟩ := I.keep l ⟨q, D, G⟩;exact ⟨a, M, (X1d L).trans k2⟩
def ChgLeaf (c : Cx) (s s' : St) (g : Chg) (L : Nat -> Nat -> Prop) : Prop := ∀ u t x r j p, L r j -> BorRel c s u ⟨t, x, .bor r j p⟩ r j p -> (g.f r j p ⟨t, x, .bor r j p⟩).m.own = false /\ Held c s' u (g.f r j p ⟨t, x, .bor r j p⟩)
theorem Held.chg {s s' : St} {g : Chg} {L : Nat -> Nat -> Prop} (z : Keeps c s s') (y : ChgLeaf c s s' g L) (i : ∀ q ∈ lf.refs, L q.1 q.2) (h : Held c s u lf) : Held c s' u (lf.chg g) := by
 obtain ⟨t, x, m⟩ := lf;cases m with
 | at_ lv => exact Rep.move (fun b l A => z b l A) sm h
 | bor r j p => exact (y _ _ _ _ _ _ (i (r, j) (by simp [Leaf.refs])) h).2
 | dead => exact h
theorem Ybh {s s' : St} {g : Chg} {L : Nat -> Nat -> Prop} (l : ChgLeaf c s s' g L) (i : ∀ q ∈ lf.refs, L q.1 q.2) (h : Held c s u lf) (b : lf.m.own = false) : (lf.chg g).m.own = false := by
 obtain ⟨t, x, m⟩ := lf;cases m with
 | at_ lv => exact b
 | bor r j p => exact (l _ _ _ _ _ _ (i (r, j) (by simp [Leaf.refs])) h).1
 | dead => exact b
theorem LeafRel.of_held {r l : Nat} (g : lf.m.own = false) (b : s.bs r (l + 1) = []) (h : Held c s u lf) : LeafRel c s r l u lf := by
 obtain ⟨t, x, m⟩ := lf;cases m with
 | at_ lv => cases lv with
  | ro => exact ⟨b, h⟩
  | sh => simp [Mode.own] at g
  | dp => simp [Mode.own] at g
  | pn _ => simp [Mode.own] at g
 | bor r j p => exact ⟨b, h⟩
 | dead => exact ⟨b, h⟩
theorem LeafRel.held {r l : Nat} (h : LeafRel c s r l u lf) (b : lf.m.own = false) : s.bs r (l + 1) = [] /\ Held c s u lf := by
 obtain ⟨t, x, m⟩ := lf;cases m with
 | at_ lv => cases lv with
  | ro => exact h
  | sh => simp [Mode.own] at b
  | dp => simp [Mode.own] at b
  | pn _ => simp [Mode.own] at b
 | bor r j p => exact h
 | dead => exact h
theorem LeafRel.rep {r l : Nat} {x : t.D} (h : LeafRel c s r l u ⟨t, x, .at_ lv⟩) : Rep (RoS c s) s.w t lv [u] x (s.bs r (l + 1)) := by
 cases lv with
 | ro => obtain ⟨b, g⟩ := h; rw [b]; exact g
 | sh => exact h.1
 | dp => exact h.1
 | pn _ => exact h.1
theorem LeafRel.pin {r l : Nat} {x : t.D} (h : LeafRel c s r l u ⟨t, x, .at_ lv⟩) : lv.pinOk c u := by
 cases lv with
 | ro => trivial
 | sh => trivial
 | dp => trivial
 | pn _ => exact h.2
theorem LeafRel.of_rep {r l : Nat} {x : t.D} (b : lv.pinOk c u) (h : Rep (RoS c s) s.w t lv [u] x (s.bs r (l + 1))) : LeafRel c s r l u ⟨t, x, .at_ lv⟩ := by
 cases lv with
 | ro =>
  have := Rep.ro_bs h;exact ⟨this, by rw [this] at h; exact h⟩
 | sh => exact ⟨h, b⟩
 | dp => exact ⟨h, b⟩
 | pn _ => exact ⟨h, b⟩
theorem LeafRel.chg {s s' : St} {g : Chg} {L : Nat -> Nat -> Prop} {r r' l : Nat} (D : Keeps c s s') (C : ChgLeaf c s s' g L) (B : ∀ q ∈ lf.refs, L q.1 q.2) (i : s'.bs r' (l + 1) = s.bs r (l + 1)) (F : ∀ b ∈ s.bs r (l + 1), s'.w.heap[b]? = s.w.heap[b]?)
  (h : LeafRel c s r l u lf) : LeafRel c s' r' l u (lf.chg g) := by
 by_cases y : lf.m.own = false
 ·obtain ⟨z, A⟩ := h.held y;exact LeafRel.of_held (Ybh C B A y) (i.trans z) (A.chg D C B)
 ·obtain ⟨t, x, m⟩ := lf;cases m with
  | at_ lv =>
   have z := h.rep;exact LeafRel.of_rep h.pin (by rw [i]; exact Rep.move (fun b i E => D b i E) F z)
  | bor r j p => simp [Mode.own] at y
  | dead => simp [Mode.own] at y
theorem PtrRel.keep {s s' : St} {r off : Nat} (i : SamePtr s s' r) (h : PtrRel s r off v) : PtrRel s' r off v := by
 obtain ⟨e, ls, B, j, l, m⟩ := h;obtain ⟨e', g, b⟩ := i.2 e ls j;exact ⟨e', g, B, b, by rw [i.1]; exact l, m⟩
theorem PtrRels.keep {s s' : St} : ∀ {cs : List (Nat × Nat)} {vs : List Value}, (∀ r ∈ cs.map (·.1), SamePtr s s' r) -> PtrRels s cs vs -> PtrRels s' cs vs
 | [], _, _, h => h
 | c :: cs, vs, hs, ⟨v, vs', e, h1, h2⟩ => ⟨v, vs', e, h1.keep (hs _ sm), h2.keep (fun r b => hs r (by simp at b ⊢; exact .inr b))⟩
theorem CapRels.keep {s s' : St} (b : Keeps c s s') : ∀ {cs : List Cap} {us : List Value}, (∀ r ∈ capRoots cs, SamePtr s s' r) -> CapRels c s v cs us -> CapRels c s' v cs us
 | [], _, _, h => h
 | cp :: cs, us, hs, ⟨u, us', e, h1, h2⟩ => by
  refine ⟨u, us', e, ?_, h2.keep b (fun r g => hs r (by simp [capRoots]; exact .inr g))⟩;cases cp with
  | path r off => exact PtrRel.keep (hs r (by simp [capRoots, Cap.roots])) h1
  | ro x => exact PtrV.move b h1
  | self => exact h1
theorem SelfAt.keep {s s' : St} {caps : List Cap} (g : Keeps c s s') (q : ∀ r ∈ capRoots caps, SamePtr s s' r) (h : SelfAt c s f caps v us) : SelfAt c s' f caps v us := by
 obtain ⟨B, i, j, l, m, p⟩ := h;obtain ⟨y, k2⟩ := g B j l;have b : B < s'.w.heap.size :=gr;exact ⟨B, i, y, b, (X1d k2).trans m, p.keep g q⟩
def ChgWr (c : Cx) (s s' : St) (g : Chg) (L : Nat -> Nat -> Prop) : Prop := ∀ a r j p i o, L r j -> WrRel c s a (some (r, j, p, i, o)) ->
 if g.wf r j then (g.lose = true \/ (s'.w.heap[a.block]? = s.w.heap[a.block]? /\ RoS c s' a.block /\ a.block < s'.w.heap.size)) else (s'.w.heap[a.block]? = s.w.heap[a.block]? /\ WrRel c s' a (some (r, j, p, i, o)))
def ChgPtr (s s' : St) (g : Chg) (Lp : Nat -> Prop) : Prop := ∀ r, Lp r -> g.pk r = false -> SamePtr s s' r
theorem BorRel.keepN {s s' : St} {r j : Nat} {i : Int} (U : Keeps c s s') (A : ∀ (a : Addr) p i o, WrRel0 c s a r j p i o -> s'.w.heap[a.block]? = s.w.heap[a.block]? /\ WrRel0 c s' a r j p i o) (h : BorRel c s u lf r j [(i, 0)]) : BorRel c s' u lf r j [(i, 0)] := by
 obtain ⟨F, ⟨C, N, G, O⟩, D⟩ := h;have B : ∀ b, (RoS c s b \/ b ∈ s.bs r (j + 1)) -> b < s.w.heap.size -> s'.w.heap[b]? = s.w.heap[b]? /\ WrRel0 c s' ⟨b, 0, none⟩ r j [(i, 0), (0, 0), (0, 0)] 0 0 := fun b y z => A ⟨b, 0, none⟩ [(i, 0), (0, 0), (0, 0)] 0 0 ⟨⟨y, z⟩, C, N, G, (fun e => by cases e), fun _ _ _ e => by cases e⟩;have own : ∃ g q, OwnPlace s' r j g q := by
  obtain ⟨a, m, _⟩ := D i 0 rfl;obtain ⟨_, _, g, q, k2, _⟩ := A a [] i 0 m;exact ⟨g, q, k2⟩
 obtain ⟨g, q, l⟩ := own;refine ⟨Rep.move (fun b y z => ?_) sm F, ⟨g, q, l, fun e => by cases e⟩, fun E o I => ?_⟩
 ·obtain ⟨m, ⟨k2, _⟩, _⟩ := B b y z;exact ⟨k2, m⟩
 ·obtain ⟨a, m, k2⟩ := D E o I;obtain ⟨L, M⟩ := A a [] E o m;exact ⟨a, M, (X1d L).trans k2⟩
theorem SelRel.keepN {s s' : St} {r j : Nat} {e e2 : TypeId} {ix : List Int} {x : List (List t.D)} (D : Keeps c s s') (g : ∀ (a : Addr) p i o, WrRel0 c s a r j p i o -> s'.w.heap[a.block]? = s.w.heap[a.block]? /\ WrRel0 c s' a r j p i o)
  (E : ∀ b, v.ownBlock = some b -> s'.w.heap[b]? = s.w.heap[b]?) (h : SelRel c s r j e e2 t ix x v) : SelRel c s' r j e e2 t ix x v := by
 obtain ⟨⟨a, l⟩, xs, m, q, z, A⟩ := h;refine ⟨⟨a, (g a _ _ _ l).2⟩, xs, Y3i m E, q, z, fun k i y C G => ?_⟩;obtain ⟨u, F, B⟩ := A k i y C G;exact ⟨u, F, B.keepN D g⟩
theorem AVRel.chg {s s' : St} {g : Chg} {L : Nat -> Nat -> Prop} {Lp : Nat -> Prop} {r r1 : Nat} (U : Keeps c s s') (hg : ChgLeaf c s s' g L) (hw : ChgWr c s s' g L) (hp : ChgPtr s s' g Lp)
  (hL : ∀ q ∈ av.refs, L q.1 q.2) (Z : ∀ q ∈ av.ptrs, Lp q)
  (hc : s'.cs r1 = s.cs r) (C : s'.bs r1 = s.bs r) (ho : ∀ l, ∀ b ∈ s.bs r l, s'.w.heap[b]? = s.w.heap[b]?) (h : AVRel c s r av v) : AVRel c s' r1 (av.chg g) v := by
 cases av with
 | undef => simpa [AVRel, AV.chg, C] using h
 | skip => simpa [AVRel, AV.chg, C] using h
 | con k ls =>
  obtain ⟨z, E, N, Y⟩ := h;refine ⟨?_, by rw [hc, Yu]; exact E, by rw [C, Yu]; exact N, fun l lf u hl hu => ?_⟩
  ·rw [hc, C];cases k with
   | val => exact z
   | agg => exact z
   | tup sh => exact z
   | tupB id n sh =>
    obtain ⟨B, vs, c0, c1, e1, e2, e3, e4, e5, e6⟩ := z;exact ⟨B, vs, c0, c1, e1, e2, e3, (ho 0 B (by rw [e5]; simp)).trans e4, e5, e6⟩
   | box e =>
    obtain ⟨B, e1, e2, e3, e4⟩ := z;exact ⟨B, e1, (ho 0 B (by rw [e3]; simp)).trans e2, e3, e4⟩
  ·rw [hc] at hu;rw [Yf] at hl;obtain ⟨M, V, rfl⟩ := Xv.1 hl;exact (Y l M u V hu).chg U hg (fun q hq => hL q (by simp only [AV.refs, Xi]; exact ⟨M, Yc V, hq⟩)) (by rw [C]) (ho _)
 | path r' off =>
  simp only [AV.chg];cases D : g.pk r' with
  | true => simp only [X1p]; intro l; rw [C]; exact h.1 l
  | false => simp only [Xm, X19]; exact ⟨by rw [C]; exact h.1, h.2.keep (hp r' (Z _ (by simp [AV.ptrs])) D)⟩
 | eptr ls wr =>
  obtain ⟨z, a, E, N, Y⟩ := h;have leaves (hblk : s'.w.heap[a.block]? = s.w.heap[a.block]?) : ∀ l lf, leafAt (chgs g ls) l = some lf -> lf.m.own = false /\ ∃ u, s'.w.cell? (a.add l) = some u /\ Held c s' u lf := by
   intro l lf hl;rw [Yf] at hl;obtain ⟨M, V, rfl⟩ := Xv.1 hl;obtain ⟨hm, u, hu, hh⟩ := N l M V;have G : ∀ q ∈ M.refs, L q.1 q.2 := fun q hq => hL q (by simp only [AV.refs, X6, Xi]; exact .inl ⟨M, Yc V, hq⟩);exact ⟨Ybh hg G hh hm, u, (X1d (by rw [Addr.add_block]; exact hblk)).trans hu, hh.chg U hg G⟩
  cases wr with
  | none =>
   obtain ⟨k1, k2⟩ := U _ Y.1 Y.2;have W : a.block < s'.w.heap.size := by
    rw [Xu Y.2] at k2;exact (X10.1 k2).1
   exact ⟨by rw [C]; exact z, a, E, leaves k2, k1, W⟩
  | some q =>
   obtain ⟨r', j, p, i, o⟩ := q;have := hw a r' j p i o (hL (r', j) (by simp [AV.refs])) Y;simp only [AV.chg];cases I : g.wf r' j with
   | false =>
    rw [I] at this;simp only [Xm, X19] at this ⊢;exact ⟨by rw [C]; exact z, a, E, leaves this.1, this.2⟩
   | true =>
    rw [I] at this;simp only [X1p] at this ⊢;cases hlo : g.lose with
    | true => simp only [X1p]; intro l; rw [C]; exact z l
    | false =>
     rw [hlo] at this;simp only [Xm, X19, false_or] at this ⊢;exact ⟨by rw [C]; exact z, a, E, leaves this.1, this.2⟩
 | cloR f xs =>
  obtain ⟨z, vs, E, N⟩ := h;exact ⟨by rw [C]; exact z, vs, E, N.move U⟩
 | fptr f caps =>
  obtain ⟨z, us, E⟩ := h;simp only [AV.chg];cases D : (capRoots caps).any g.pk with
  | true => simp only [X1p]; intro l; rw [C]; exact z l
  | false =>
   simp only [Xm, X19];rw [X2g] at D;exact ⟨by rw [C]; exact z, us, E.keep U (fun r' F => hp r' (Z _ F) (by simpa using D r' F))⟩
 | cloS f caps =>
  obtain ⟨z, v0, us, e0, E⟩ := h;simp only [AV.chg];cases D : (capRoots caps).any g.pk with
  | true => simp only [X1p]; intro l; rw [C]; exact z l
  | false =>
   simp only [Xm, X19];rw [X2g] at D;exact ⟨by rw [C]; exact z, v0, us, e0, E.keep U (fun r' F => hp r' (Z _ F) (by simpa using D r' F))⟩
 | junk => show ∀ k, _ = _; rw [C]; exact h
 | part e t x n =>
  obtain ⟨z, E, A, cp, xs, e1, e2, e3, e4⟩ := h;refine ⟨by rw [C]; exact z, E, A, cp, xs, e1, e2, fun j u hu => ?_, ?_⟩
  ·obtain ⟨a, k1, k2, k3, X⟩ := e3 j u hu;obtain ⟨m1, m2⟩ := U _ k2 k3;have W : a.block < s'.w.heap.size := by
    rw [Xu k3] at m2;exact (X10.1 m2).1
   exact ⟨a, k1, m1, W, (X1d (by rw [Addr.add_block]; exact m2)).trans X⟩
  ·rw [C];exact El.imp (fun c0 x0 b0 hb0 h0 => Rep.move U (fun b y => ho 0 b (hb0 b y)) h0) e4
 | eown ls =>
  obtain ⟨z, a, bds, k1, k2, k3, X, k5, k6⟩ := h;obtain ⟨m1, m2⟩ := U _ k2 k3;have W : a.block < s'.w.heap.size := by
   rw [Xu k3] at m2;exact (X10.1 m2).1
  refine ⟨by rw [C]; exact z, a, bds, k1, m1, W, by rw [C]; exact X, k5, fun l lf hl => ?_⟩;obtain ⟨u, m, g1, g2, g3, g4⟩ := k6 l lf hl;refine ⟨u, m, (X1d (by rw [Addr.add_block]; exact m2)).trans g1, g2, g3, Rep.move U (fun b y => ho 0 b ?_) g4⟩;rw [X, X38];rw [Xk] at y;cases hbl : bds[l]? with
  | none => rw [hbl] at y; simp at y
  | some q => rw [hbl] at y; exact ⟨q, X8 hbl, y⟩
 | sel r' j e e2 t ix x =>
  obtain ⟨⟨z, E⟩, N⟩ := h;have G : L r' j := hL (r', j) (by simp [AV.refs]);simp only [AV.chg];cases I : g.wf r' j with
  | true => simp only [X1p]; show ∀ k, _ = _; rw [C]; exact z
  | false =>
   simp only [Xm, X19];have X : ∀ (a : Addr) p i o, WrRel0 c s a r' j p i o -> s'.w.heap[a.block]? = s.w.heap[a.block]? /\ WrRel0 c s' a r' j p i o := fun a p i o Y => by
    have := hw a r' j p i o G Y;rw [I] at this;simp only [Xm, X19] at this;exact this
   exact ⟨⟨by rw [C]; exact z, by rw [C]; exact E⟩, N.keepN U X (fun b y => ho 0 b (by rw [E]; exact Yk.2 y))⟩
 | grow r' j i o l =>
  obtain ⟨z, E, N, a, u, Y, h5, O⟩ := h;have G : L r' j := hL (r', j) (by simp [AV.refs]);have X := hw a r' j [] i o G Y;simp only [AV.chg];cases I : g.wf r' j with
  | true => simp only [X1p]; show ∀ k, _ = _; rw [C]; exact z
  | false =>
   rw [I] at X;simp only [Xm, X19] at X ⊢;have k6 : ∀ b, s.bs r 0 = [] -> (∀ b, v.ownBlock = some b -> WrRel0 c s ⟨b, 0, none⟩ r' j [(i, o), (0, 0), (0, 0)] 0 0) -> v.ownBlock = some b -> s'.w.heap[b]? = s.w.heap[b]? /\ WrRel0 c s' ⟨b, 0, none⟩ r' j [(i, o), (0, 0), (0, 0)] 0 0 := by
    intro b _ hh y;have := hw _ r' j _ _ _ G (hh b y);rw [I] at this;simp only [Xm, X19] at this;exact this
   refine ⟨by rw [C]; exact z, E, Rep.move (S := fun _ => False) (fun _ hf => absurd hf id) (fun b y => ?_) N, a, u, X.2, (X1d X.1).trans h5, ?_⟩
   ·rcases O with O | ⟨O, h7, h8⟩
    ·exact ho 0 b (by rw [O]; exact y)
    ·exact (k6 b O h8 (Yk.1 y)).1
   ·rcases O with O | ⟨O, h7, h8⟩
    ·exact .inl (by rw [C]; exact O)
    ·exact .inr ⟨by rw [C]; exact O, h7, fun b y => (k6 b O h8 y).2⟩
 | clo f caps =>
  obtain ⟨z, vs, E, N⟩ := h;simp only [AV.chg];cases D : caps.any (fun c => g.pk c.1) with
  | true => simp only [X1p]; intro l; rw [C]; exact z l
  | false =>
   simp only [Xm, X19];refine ⟨by rw [C]; exact z, vs, E, N.keep (fun r' F => hp r' (Z _ (by simpa [AV.ptrs] using F)) ?_)⟩;simp only [X2g] at D;obtain ⟨q, hq, rfl⟩ := X1b.1 F;simpa using D q hq
def noG : Chg := ⟨fun _ _ _ l => l, fun _ _ => false, false, fun _ => false⟩
theorem Y84 : ∀ ls : List Leaf, chgs noG ls = ls
 | [] => rfl
 | l :: ls => by
  obtain ⟨t, x, m⟩ := l;rw [chgs, Y84 ls];cases m <;> rfl
theorem AV.chg_no (v : AV) : v.chg noG = v := by
 cases v with
 | con k ls => simp [AV.chg, Y84]
 | path r off => simp [AV.chg, noG]
 | eptr ls b => cases b <;> simp [AV.chg, Y84] <;> simp [noG]
 | clo f caps => simp [AV.chg, noG]
 | fptr f caps => simp [AV.chg, noG]
 | cloS f caps => simp [AV.chg, noG]
 | sel r j e e2 t ix x => simp [AV.chg, noG]
 | grow r j i o l => simp [AV.chg, noG]
 | _ => rfl
theorem OwnPlace.loud {r j : Nat} (h : OwnPlace s r j lf u) : (s.env r).quiet = false := by
 obtain ⟨b, i, _⟩ := h;cases g : s.env r with
 | con k ls =>
  rw [g] at b;have l := Yc b;cases k <;> simp only [AV.quiet] <;> first | rfl | (rw [List.all_eq_false]; exact ⟨lf, l, by simp [i]⟩)
 | _ => rw [g] at b; simp [AV.leaf?] at b
theorem PtrRel.loud {r off : Nat} (h : PtrRel s r off v) : (s.env r).quiet = false := by
 obtain ⟨e, ls, B, b, _⟩ := h;rw [b];rfl
theorem PtrRels.mem {r' : Nat} : ∀ {cs : List (Nat × Nat)} {vs : List Value}, PtrRels s cs vs -> r' ∈ cs.map (·.1) -> ∃ off v, PtrRel s r' off v
 | [], _, _, b => by simp at b
 | c :: cs, vs, ⟨v, vs', e, h1, h2⟩, b => by
  simp only [X1y, Xr] at b;rcases b with rfl | b
  ·grind
  ·exact h2.mem b
theorem CapRels.mem {r' : Nat} : ∀ {cs : List Cap} {us : List Value}, CapRels c s v cs us -> r' ∈ capRoots cs -> ∃ off v, PtrRel s r' off v
 | [], _, _, b => by simp [capRoots] at b
 | cp :: cs, us, ⟨u, us', e, h1, h2⟩, b => by
  simp [capRoots] at b;rcases b with b | b
  ·cases cp with
   | path r off => simp [Cap.roots] at b; subst b; exact ⟨_, _, h1⟩
   | ro x => simp [Cap.roots] at b
   | self => simp [Cap.roots] at b
  ·exact h2.mem b
theorem AVRel.refs_own {r : Nat} (h : AVRel c s r av v) : (∀ q ∈ av.refs, ∃ lf u, OwnPlace s q.1 q.2 lf u) /\ (∀ q ∈ av.ptrs, ∃ off v, PtrRel s q off v) := by
 have z : ∀ (u : Value) (lf : Leaf), Held c s u lf -> ∀ q ∈ lf.refs, ∃ lf u, OwnPlace s q.1 q.2 lf u := by
  intro u lf E q b;obtain ⟨t, x, m⟩ := lf;cases m with
  | at_ _ => simp [Leaf.refs] at b
  | dead => simp [Leaf.refs] at b
  | bor r1 j p =>
   simp only [Leaf.refs, Xb] at b;subst b;obtain ⟨_, ⟨I, L, C, _⟩, _⟩ := E;exact ⟨I, L, C⟩
 cases av with
 | undef => exact ⟨by simp [AV.refs], by simp [AV.ptrs]⟩
 | skip => exact ⟨by simp [AV.refs], by simp [AV.ptrs]⟩
 | con k ls =>
  refine ⟨fun q b => ?_, by simp [AV.ptrs]⟩;simp only [AV.refs, Xi] at b;obtain ⟨lf, G, b⟩ := b;obtain ⟨l, D⟩ := Xx G;obtain ⟨N, C, y, A⟩ := h;have F : l < (s.cs r).length := by rw [<- C]; exact (X5.1 D).1
  have := A l lf _ (by rw [Y2]; exact D) (X1 F);refine z (s.cs r)[l] lf ?_ q b;obtain ⟨t, x, m⟩ := lf;cases m with
  | at_ _ => simp [Leaf.refs] at b
  | dead => simp [Leaf.refs] at b
  | bor _ _ _ => exact this.2
 | path r1 off =>
  refine ⟨by simp [AV.refs], fun q b => ?_⟩;simp only [AV.ptrs, Xb] at b;subst b;exact ⟨_, _, h.2⟩
 | eptr ls O =>
  refine ⟨fun q b => ?_, by simp [AV.ptrs]⟩;simp only [AV.refs, X6, Xi] at b;obtain ⟨N, a, C, y, A⟩ := h;rcases b with ⟨lf, G, b⟩ | b
  ·obtain ⟨l, D⟩ := Xx G;obtain ⟨_, u, _, E⟩ := y l lf (by rw [Y2]; exact D);exact z u lf E q b
  ·cases O with
   | none => simp at b
   | some w =>
    obtain ⟨r1, j, p, i, o⟩ := w;simp only [Xb] at b;subst b;obtain ⟨_, lf, u, M, _⟩ := A;exact ⟨lf, u, M⟩
 | cloR f xs => exact ⟨by simp [AV.refs], by simp [AV.ptrs]⟩
 | fptr f caps =>
  obtain ⟨_, us, B, _, _, _, _, y⟩ := h;exact ⟨by simp [AV.refs], fun q b => y.mem b⟩
 | cloS f caps =>
  obtain ⟨_, U, us, _, B, _, _, _, _, y⟩ := h;exact ⟨by simp [AV.refs], fun q b => y.mem b⟩
 | junk => exact ⟨by simp [AV.refs], by simp [AV.ptrs]⟩
 | part e t x n => exact ⟨by simp [AV.refs], by simp [AV.ptrs]⟩
 | eown ls => exact ⟨by simp [AV.refs], by simp [AV.ptrs]⟩
 | sel r' j e e2 t ix x =>
  refine ⟨fun q b => ?_, by simp [AV.ptrs]⟩;simp only [AV.refs, Xb] at b;subst b;obtain ⟨_, ⟨a, _, lf, u, g, _⟩, _⟩ := h;exact ⟨lf, u, g⟩
 | grow r' j i o l =>
  refine ⟨fun q b => ?_, by simp [AV.ptrs]⟩;simp only [AV.refs, Xb] at b;subst b;obtain ⟨_, _, _, a, u, A, _⟩ := h;obtain ⟨_, lf, L, h, _⟩ := A;exact ⟨lf, L, h⟩
 | clo f caps =>
  obtain ⟨_, vs, _, y⟩ := h;exact ⟨by simp [AV.refs], fun q b => y.mem (by simpa [AV.ptrs] using b)⟩
theorem Rel.step {s s' : St} (g : Chg) (h : Rel c s) (D : Nat -> Prop) (L : Nat -> Nat -> Prop) (Lp : Nat -> Prop)
  (i : ∀ r, ¬ D r -> s'.env r = (s.env r).chg g /\ s'.tm r = s.tm r /\ s'.cs r = s.cs r /\ s'.bs r = s.bs r)
  (j : Below c.base s.w s'.w)
  (z : ∀ b, b < s.w.heap.size -> (∀ r l, D r -> b ∉ s.bs r l) -> s'.w.heap[b]? = s.w.heap[b]?)
  (A : ∀ r l b, D r -> b ∈ s'.bs r l -> b < s'.w.heap.size /\ (s.w.heap.size <= b \/ ∃ r' E, D r' /\ b ∈ s.bs r' E))
  (U : ∀ r l r' E b, D r -> D r' -> b ∈ s'.bs r l -> b ∈ s'.bs r' E -> r = r' /\ l = E)
  (M : ∀ r l, D r -> (s'.bs r l).Nodup)
  (Z : ∀ r, ¬ D r -> (∀ q ∈ (s.env r).refs, L q.1 q.2) /\ (∀ q ∈ (s.env r).ptrs, Lp q))
  (hg : Keeps c s s' -> ChgLeaf c s s' g L /\ ChgWr c s s' g L /\ ChgPtr s s' g Lp)
  (hav : Keeps c s s' -> ∀ r, D r -> AVRel c s' r (s'.env r) (s'.tm r)) : Rel c s' := by
 classical
 have C : Keeps c s s' := by
  intro b m hl;refine ⟨⟨fun r l I => ?_, m.2⟩, z b hl (fun r l _ => m.1 r l)⟩;by_cases p : D r
  ·rcases (A r l b p I).2 with G | ⟨r', E, _, F⟩
   ·omega
   ·exact m.1 _ _ F
  ·rw [(i r p).2.2.2] at I;exact m.1 _ _ I
 obtain ⟨V, W, X⟩ := hg C;refine ⟨h.below.trans j, Nat.le_trans h.base j.size, fun r l b m => ?_, fun r l r' E b m y => ?_, fun r l => ?_, fun r => ?_, fun b m => ?_⟩
 ·by_cases p : D r
  ·obtain ⟨G, F⟩ := A r l b p m;refine ⟨?_, G⟩;rcases F with F | ⟨r', E, _, F⟩
   ·exact h.mine_new F
   ·exact (h.own _ _ _ F).1
  ·rw [(i r p).2.2.2] at m;exact ⟨(h.own r l b m).1, X1e (h.own r l b m).2 j.size⟩
 ·by_cases p : D r <;> by_cases B : D r'
  ·grind
  ·rw [(i r' B).2.2.2] at y;exfalso;rcases (A r l b p m).2 with G | ⟨r2, l2, N, O⟩
   ·have := (h.own _ _ _ y).2; omega
   ·obtain ⟨rfl, _⟩ := h.disj _ _ _ _ _ O y;exact B N
  ·rw [(i r p).2.2.2] at m;exfalso;rcases (A r' E b B y).2 with G | ⟨r2, l2, N, O⟩
   ·have := (h.own _ _ _ m).2; omega
   ·obtain ⟨rfl, _⟩ := h.disj _ _ _ _ _ O m;exact p N
  ·rw [(i r p).2.2.2] at m;rw [(i r' B).2.2.2] at y;exact h.disj _ _ _ _ _ m y
 ·by_cases p : D r
  ·grind
  ·rw [(i r p).2.2.2]; exact h.nodup r l
 ·by_cases p : D r
  ·grind
  ·obtain ⟨e1, e2, e3, e4⟩ := i r p;rw [e1, e2];refine (h.av r).chg C V W X (Z r p).1 (Z r p).2 e3 e4 (fun l b m => z b (h.own _ _ _ m).2 (fun r' E B y => ?_));obtain ⟨rfl, _⟩ := h.disj _ _ _ _ _ m y;exact p B
 ·obtain ⟨Y, f2, f3⟩ := h.froz b m;refine ⟨X1e Y j.size, fun r l I => ?_, (z b Y (fun r l _ => f2 r l)).trans f3⟩;by_cases p : D r
  ·grind
  ·simp_all
def upd {α : Type} (f : Nat -> α) (d : Nat) (a : α) : Nat -> α := fun r => if r = d then a else f r
theorem Y0 {α : Type} (f : Nat -> α) (d : Nat) (a : α) : upd f d a d = a := by simp [upd]
theorem Y1 {α : Type} (f : Nat -> α) {d r : Nat} (a : α) (h : r ≠ d) : upd f d a r = f r := by simp [upd, h]
theorem OwnPlace.chg {s s' : St} {g : Chg} {r j : Nat} (p : s'.env r = (s.env r).chg g) (y : s'.cs r = s.cs r) (h : OwnPlace s r j lf u) : OwnPlace s' r j lf u := by
 obtain ⟨b, i, q⟩ := h;refine ⟨?_, i, gr⟩;cases l : s.env r with
 | con k ls =>
  rw [l] at b;rw [p, l];simp only [AV.chg, AV.leaf?] at b ⊢;rw [Yf, b];obtain ⟨t, x, m⟩ := lf;cases m with
  | at_ lv => rfl
  | bor _ _ _ => simp [Mode.own] at i
  | dead => simp [Mode.own] at i
 | _ => rw [l] at b; simp [AV.leaf?] at b
theorem SamePtr.chg {s s' : St} {g : Chg} {r : Nat} (b : s'.env r = (s.env r).chg g) (i : s'.tm r = s.tm r) : SamePtr s s' r :=
 ⟨i, fun e ls h => ⟨e, _, by rw [b, h]; rfl⟩⟩
theorem WrRel.blk {s s' : St} {a : Addr} {r j : Nat} {p : List (Int × Nat)} {i : Int} {o : Nat} (m : Keeps c s s') (q : ∀ b ∈ s.bs r (j + 1), s'.w.heap[b]? = s.w.heap[b]?) (h : WrRel c s a (some (r, j, p, i, o))) : s'.w.heap[a.block]? = s.w.heap[a.block]? /\ a.block < s'.w.heap.size := by
 obtain ⟨⟨l, g⟩, _⟩ := h;have : s'.w.heap[a.block]? = s.w.heap[a.block]? := l.elim (fun h => (m _ h g).2) (q _);refine ⟨this, ?_⟩;rw [Xu g] at this;exact (X10.1 this).1
theorem WrRel.chg {s s' : St} {a : Addr} {r j : Nat} {p : List (Int × Nat)} {i : Int} {o : Nat} (l : Keeps c s s') (E : ∀ lf u, OwnPlace s r j lf u -> OwnPlace s' r j lf u) (q : s'.bs r (j + 1) = s.bs r (j + 1)) (y : ∀ b ∈ s.bs r (j + 1), s'.w.heap[b]? = s.w.heap[b]?) (h : WrRel c s a (some (r, j, p, i, o))) : WrRel c s' a (some (r, j, p, i, o)) := by
 have g := h.blk l y;obtain ⟨⟨A, B⟩, lf, u, C, m⟩ := h;exact ⟨⟨A.imp (fun h => (l _ h B).1) (fun h => by rw [q]; exact h), g.2⟩, lf, u, E _ _ C, m.1, fun i0 F z D => (m.2 i0 F z D).keep l q y⟩
theorem Yl {s s' : St} {L : Nat -> Nat -> Prop} (i : Keeps c s s') (h : ∀ r j, L r j -> SamePl s s' r j) : ChgLeaf c s s' noG L :=
 fun u t x r j p b g => ⟨rfl, g.keep i (h r j b)⟩
theorem Y13 {s s' : St} {L : Nat -> Nat -> Prop} (g : Keeps c s s') (h : ∀ r j, L r j -> SamePl s s' r j) : ChgWr c s s' noG L := by
 intro a r j p i o y l;simp [noG];obtain ⟨m, q, b⟩ := h r j y;exact ⟨(l.blk g b).1, l.chg g m q b⟩
theorem Rel.world (h : Rel c s) (i : Below s.w.heap.size s.w w') : Rel c { s with w := w' } := by
 refine Rel.step (s' := { s with w := w' }) noG h (fun _ => False) (fun _ _ => True) (fun _ => True) (fun r _ => ⟨(AV.chg_no _).symm, rfl, rfl, rfl⟩) (i.mono h.base) (fun b y _ => i.block b y)
  (fun r l b g => g.elim) (fun r l r' z b g => g.elim) (fun r l g => g.elim) (fun r _ => ⟨fun _ _ => trivial, fun _ _ => trivial⟩) (fun p => ?_) (fun _ r g => g.elim)
 have q : ∀ r j, True -> SamePl s { s with w := w' } r j := fun r j _ => ⟨fun _ _ h => h, rfl, fun b m => i.block b (h.own _ _ _ m).2⟩;exact ⟨Yl p q, Y13 p q, fun r _ _ => ⟨rfl, fun e ls h => ⟨e, ls, h⟩⟩⟩
def updP (f : Nat -> Nat -> List Nat) (d j : Nat) (a : List Nat) : Nat -> Nat -> List Nat := fun r l => if r = d /\ l = j then a else f r l
theorem Y20 (f : Nat -> Nat -> List Nat) {d r : Nat} (j : Nat) (a : List Nat) (h : r ≠ d) : updP f d j a r = f r := by funext l; simp [updP, h]
def forgetE (d : Nat) (E : Nat -> AV) : Nat -> AV := upd (fun r => (E r).chg (forgetG d)) d .undef
theorem Rel.forget_ (h : Rel c s) (d : Nat) : Rel c { s with env := forgetE d s.env, bs := upd s.bs d (fun _ => []) } := by
 have q : ∀ r, r ≠ d -> forgetE d s.env r = (s.env r).chg (forgetG d) := fun r g => Y1 _ _ g;have C : forgetE d s.env d = .undef := Y0 _ _ _;refine Rel.step (s' := { s with env := forgetE d s.env, bs := upd s.bs d (fun _ => []) }) (forgetG d) h (fun r => r = d) (fun _ _ => True) (fun _ => True)
  (fun r g => ⟨q r g, rfl, rfl, Y1 _ _ g⟩) (X1f _ _) (fun b _ _ => rfl)
  (fun r l b z y => by subst z; simp [upd] at y) (fun r l r' I b z _ y => by subst z; simp [upd] at y) (fun r l z => by subst z; simp [upd])
  (fun r _ => ⟨fun _ _ => trivial, fun _ _ => trivial⟩) (fun A => ?_) (fun _ r z => ?_)
 ·have F : ∀ l b, b ∈ s.bs d l -> RoS c { s with env := forgetE d s.env, bs := upd s.bs d (fun _ => []) } b := by
   intro l b y;refine ⟨fun r' I m => ?_, .inr (h.own _ _ _ y).1⟩;by_cases g : r' = d
   ·subst g; simp only [Y0] at m; simp at m
   ·simp only [Y1 _ _ g] at m;exact g (h.disj _ _ _ _ _ m y).1
  refine ⟨fun u t x r j p _ y => ?_, fun a r j p i o _ B => ?_, fun r _ E => ?_⟩
  ·by_cases g : r = d
   ·subst g;simp [forgetG];refine ⟨rfl, Rep.move (fun b m G => ⟨?_, rfl⟩) sm y.1⟩;rcases m with m | m
    ·exact (A b m G).1
    ·grind
   ·simp only [forgetG, X2 g];exact ⟨rfl, y.keep A ⟨fun lf u D => D.chg (q r g) rfl, by simp only [Y1 _ _ g], fun _ _ => rfl⟩⟩
  ·by_cases g : r = d
   ·subst g;simp only [forgetG, beq_self_eq_true, X1p];exact .inr ⟨by trivial, B.1.1.elim (fun h => (A _ h B.1.2).1) (F _ _), B.1.2⟩
   ·have : (forgetG d).wf r j = false := by simp [forgetG, g]
    rw [this];simp only [Xm, X19];exact ⟨by trivial, B.chg A (fun lf u D => D.chg (q r g) rfl) (by simp only [Y1 _ _ g]) (fun _ _ => rfl)⟩
  ·have g : r ≠ d := by simpa [forgetG] using E
   exact SamePtr.chg (q r g) rfl
 ·subst z;show AVRel c _ _ (forgetE r s.env r) _;rw [C];intro l;simp [Y0]
def freezeE (r j : Nat) (E : Nat -> AV) : Nat -> AV :=
 match (E r).leaf? j with
 | none => E
 | some l => if l.m.own then upd (fun r' => (E r').chg (freezeG r j)) r (((E r).chg (freezeG r j)).setLeaf j l.ro) else E
def freezeAllE : List Leaf -> (Nat -> AV) -> (Nat -> AV)
 | [], E => E
 | l :: r, E => match l.m with
  | .bor r' j _ => freezeAllE r (freezeE r' j E)
  | _ => freezeAllE r E
theorem AVRel.bs_none {r j : Nat} (h : AVRel c s r av v) (b : av.leaf? j = none) : s.bs r (j + 1) = [] := by
 cases av with
 | undef => exact h _
 | skip => exact h.2 _
 | con k ls =>
  simp only [AV.leaf?, Y2] at b;exact h.2.2.1 j (List.getElem?_eq_none_iff.1 b)
 | path _ _ => exact h.1 _
 | eptr _ _ => exact h.1 _
 | clo _ _ => exact h.1 _
 | cloR _ _ => exact h.1 _
 | fptr _ _ => exact h.1 _
 | cloS _ _ => exact h.1 _
 | grow _ _ _ _ _ => exact h.1 _
 | sel _ _ _ _ _ _ _ => exact h.1.1 _
 | part _ _ _ _ => exact h.1 _
 | eown ls => exact h.1 _
 | junk => exact h _
theorem AVRel.bs_leaf {r j : Nat} (h : AVRel c s r av v) (b : av.leaf? j = some lf) (i : lf.m.own = false) : s.bs r (j + 1) = [] := by
 cases av with
 | con k ls =>
  simp only [AV.leaf?] at b;have g : j < (s.cs r).length := by
   rw [<- h.2.1];rw [Y2] at b;exact (X5.1 b).1
  exact ((h.2.2.2 j lf _ b (X1 g)).held i).1
 | _ => simp [AV.leaf?] at b
theorem Rel.freeze_ (h : Rel c s) (r0 B : Nat) : ∃ bs', Rel c { s with env := freezeE r0 B s.env, bs := bs' } /\ (∀ r l b, b ∈ bs' r l -> b ∈ s.bs r l) /\ bs' r0 (B + 1) = [] := by
 unfold freezeE;cases I : (s.env r0).leaf? B with
 | none => exact ⟨s.bs, h, fun _ _ _ h => h, (h.av r0).bs_none I⟩
 | some W =>
  simp only;by_cases Y : ¬ W.m.own = true
  ·rw [X2 Y]; exact ⟨s.bs, h, fun _ _ _ h => h, (h.av r0).bs_leaf I (by simpa using Y)⟩
  have ho : W.m.own = true :=gr;rw [X4 ho];obtain ⟨k0, ls0, N⟩ : ∃ k ls, s.env r0 = .con k ls := by
   cases hv : s.env r0 with
   | con k ls => exact ⟨k, ls, rfl⟩
   | _ => rw [hv] at I; simp [AV.leaf?] at I
  have L := I;rw [N] at L;simp only [AV.leaf?] at L
  let env2 : Nat -> AV := upd (fun r' => (s.env r').chg (freezeG r0 B)) r0 (((s.env r0).chg (freezeG r0 B)).setLeaf B W.ro)
  let g : Nat -> Nat -> List Nat := updP s.bs r0 (B + 1) []
  have G : ∀ r, r ≠ r0 -> env2 r = (s.env r).chg (freezeG r0 B) := fun r z => Y1 _ _ z;have D : env2 r0 = .con k0 (setAt (chgs (freezeG r0 B) ls0) B W.ro) := by
   show upd _ _ _ r0 = _;rw [Y0, N];rfl
  have y : ∀ r l b, b ∈ g r l -> b ∈ s.bs r l := by
   intro r l b A;simp only [g, updP] at A;split at A
   ·simp at A
   ·exact A
  obtain ⟨h1, h2, h3, h4⟩ : AVRel c s r0 (.con k0 ls0) (s.tm r0) := by rw [<- N]; exact h.av r0
  have hlt : B < (s.cs r0).length := by
   rw [<- h2];rw [Y2] at L;exact (X5.1 L).1
  have hu0 := h4 B W _ L (X1 hlt);refine ⟨g, ?_, y, by simp [g, updP]⟩;have M : ∀ (r j : Nat), ¬ (r = r0 /\ j = B) -> ∀ lf u, OwnPlace s r j lf u -> OwnPlace { s with env := env2, bs := g } r j lf u := by
   intro r j V lf u Z;by_cases z : r = r0
   ·subst z;obtain ⟨g1, g2, g3⟩ := Z;refine ⟨?_, g2, g3⟩;show (env2 r).leaf? j = _;rw [D];rw [N] at g1;simp only [AV.leaf?] at g1 ⊢;rw [Y2, Y9, Xy (fun h => V ⟨rfl, h.symm⟩), <- Y2, Yf, g1];obtain ⟨t, x, m⟩ := lf;cases m <;> first | rfl | simp [Mode.own] at g2
   ·exact Z.chg (G r z) rfl
  have F : ∀ (r j : Nat), ¬ (r = r0 /\ j = B) -> g r (j + 1) = s.bs r (j + 1) := by
   intro r j V;simp only [g, updP];rw [X2 (fun h => V ⟨h.1, om⟩)]
  refine Rel.step (s' := { s with env := env2, bs := g }) (freezeG r0 B) h (fun r => r = r0) (fun _ _ => True) (fun _ => True)
   (fun r z => ⟨G r z, rfl, rfl, Y20 _ _ _ z⟩) (X1f _ _) (fun b _ _ => rfl)
   (fun r l b X A => ⟨(h.own _ _ _ (y _ _ _ A)).2, .inr ⟨r, l, X, y _ _ _ A⟩⟩) (fun r l r' l' b X hD' A q => h.disj _ _ _ _ _ (y _ _ _ A) (y _ _ _ q))
   (fun r l X => ?_) (fun r _ => ⟨fun _ _ => trivial, fun _ _ => trivial⟩) (fun O => ?_) (fun O r X => ?_)
  ·simp [g, updP];split
   ·grind
   ·exact h.nodup _ _
  ·have hun : ∀ b, b ∈ s.bs r0 (B + 1) -> RoS c { s with env := env2, bs := g } b := by
    intro b A;refine ⟨fun r' l' q => ?_, .inr (h.own _ _ _ A).1⟩;obtain ⟨rfl, rfl⟩ := h.disj _ _ _ _ _ (y _ _ _ q) A;simp [g, updP] at q
   refine ⟨fun u t x r j p _ A => ?_, fun a r j p i o _ hw => ?_, fun r _ _ => ?_⟩
   ·by_cases z : r = r0 /\ j = B
    ·obtain ⟨rfl, rfl⟩ := z;simp [freezeG];refine ⟨rfl, Rep.move (fun b q I => ⟨?_, rfl⟩) sm A.1⟩;rcases q with q | q
     ·exact (O b q I).1
     ·exact hun b q
    ·simp only [freezeG, X2 z];exact ⟨rfl, A.keep O ⟨M r j z, F r j z, fun _ _ => rfl⟩⟩
   ·by_cases z : r = r0 /\ j = B
    ·obtain ⟨rfl, rfl⟩ := z;simp only [freezeG, beq_self_eq_true, Bool.and_self, X1p];exact .inr ⟨by trivial, hw.1.1.elim (fun h => (O _ h hw.1.2).1) (hun _), hw.1.2⟩
    ·have : (freezeG r0 B).wf r j = false := by simp [freezeG]; omega
     rw [this];simp only [Xm, X19];exact ⟨by trivial, hw.chg O (M r j z) (F r j z) (fun _ _ => rfl)⟩
   ·by_cases z : r = r0
    ·subst z;exact ⟨rfl, fun e ls he => ⟨e, _, by show env2 r = _; rw [D]; rw [N] at he; cases he; rfl⟩⟩
    ·exact SamePtr.chg (G r z) rfl
  ·subst X;show AVRel c _ r (env2 r) _;rw [D];have hg : ChgLeaf c s { s with env := env2, bs := g } (freezeG r B) (fun _ _ => True) := by
    intro u t x r' j p _ A;by_cases z : r' = r /\ j = B
    ·obtain ⟨rfl, rfl⟩ := z;simp [freezeG];refine ⟨rfl, Rep.move (fun b q I => ⟨?_, rfl⟩) sm A.1⟩;rcases q with q | q
     ·exact (O b q I).1
     ·refine ⟨fun r2 l' E => ?_, .inr (h.own _ _ _ q).1⟩;obtain ⟨rfl, rfl⟩ := h.disj _ _ _ _ _ (y _ _ _ E) q;simp [g, updP] at E
    ·simp only [freezeG, X2 z];exact ⟨rfl, A.keep O ⟨M r' j z, F r' j z, fun _ _ => rfl⟩⟩
   refine ⟨?_, by rw [Y9, Xz, Yu]; exact h2, fun l C => ?_, fun l lf u C hu => ?_⟩
   ·show KCells c s.w (g r 0) k0 _ (s.cs r);have : g r 0 = s.bs r 0 := by simp [g, updP]
    rw [this];exact h1
   ·rw [Y9, Xz, Yu] at C;show g r (l + 1) = [];rw [F r l (fun h => om)];exact h3 l C
   ·rw [Y2, Y9] at C;by_cases U : l = B
    ·subst U;rw [X1i gr] at C;simp at C;subst C;have hu' : u = (s.cs r)[l] :=gr;subst hu';obtain ⟨t, x, m⟩ := W;cases m with
     | bor _ _ _ => simp [Mode.own] at ho
     | dead => simp [Mode.own] at ho
     | at_ lv =>
      have hrep := hu0.rep;have hb0 : g r (l + 1) = [] := by simp [g, updP]
      refine LeafRel.of_held rfl hb0 ?_;refine hrep.roS (fun b A I => (O b A I).1) (fun b A => ?_);refine ⟨fun r2 l' E => ?_, .inr (h.own _ _ _ A).1⟩;obtain ⟨rfl, rfl⟩ := h.disj _ _ _ _ _ (y _ _ _ E) A;simp [g, updP] at E
    ·rw [Xy (fun h => U h.symm), <- Y2, Yf] at C;obtain ⟨lf0, hl0, rfl⟩ := Xv.1 C;exact (h4 l lf0 u hl0 hu).chg O hg (fun _ _ => trivial) (F r l (fun h => U h.2)) (fun _ _ => rfl)
theorem Held.thawed {s s' : St} (l : ∀ b, RoS c s b -> RoS c s' b) (q : s'.w = s.w) (h : Held c s u lf) (y : lf.m.live = true)
  (g : ∀ r j p, lf.m = .bor r j p -> ∀ b ∈ s.bs r (j + 1), RoS c s' b) : Rep (RoS c s') s'.w lf.t .ro [u] lf.x [] := by
 obtain ⟨t, x, m⟩ := lf;cases m with
 | at_ lv => exact Rep.move (fun b g z => ⟨l b g, by rw [q]⟩) sm h
 | bor r j p => exact Rep.move (fun b i z => ⟨i.elim (l b) (g r j p rfl b), by rw [q]⟩) sm h.1
 | dead => simp [Mode.live] at y
theorem RoS.sub {s s' : St} (g : ∀ r l b, b ∈ s'.bs r l -> b ∈ s.bs r l) : ∀ b, RoS c s b -> RoS c s' b := fun b h => ⟨fun r l i => h.1 r l (g r l b i), h.2⟩
theorem Rel.freezeAll_ : ∀ (ls : List Leaf) {s : St} (h : Rel c s), ∃ bs', Rel c { s with env := freezeAllE ls s.env, bs := bs' } /\ (∀ r l b, b ∈ bs' r l -> b ∈ s.bs r l) /\
  (∀ lf ∈ ls, ∀ r j p, lf.m = .bor r j p -> bs' r (j + 1) = [])
 | [], s, h => ⟨s.bs, h, fun _ _ _ h => h, sm⟩
 | l :: ls, s, h => by
  obtain ⟨t, x, m⟩ := l;cases m with
  | bor r j p =>
   obtain ⟨C, D, E, F⟩ := h.freeze_ r j;obtain ⟨i, y, k2, e2⟩ := Rel.freezeAll_ ls D;refine ⟨i, y, fun r l b B => E _ _ _ (k2 _ _ _ B), fun lf q r' z A g => ?_⟩;rcases Xr.1 q with rfl | q
   ·simp at g;obtain ⟨rfl, rfl, rfl⟩ := g;exact X2c.2 (fun b B => gr)
   ·grind
  | at_ lv =>
   obtain ⟨i, y, k2, e2⟩ := Rel.freezeAll_ ls h;refine ⟨i, y, k2, fun lf q r' z A g => ?_⟩;rcases Xr.1 q with rfl | q
   ·simp at g
   ·exact e2 lf q r' z A g
  | dead =>
   obtain ⟨i, y, k2, e2⟩ := Rel.freezeAll_ ls h;refine ⟨i, y, k2, fun lf q r' z A g => ?_⟩;rcases Xr.1 q with rfl | q
   ·simp at g
   ·exact e2 lf q r' z A g
theorem Rel.thaw (h : Rel c s) {bs' : Nat -> Nat -> List Nat} {E : Nat -> AV} (k : ∀ r l b, b ∈ bs' r l -> b ∈ s.bs r l) (e : ∀ r j p, lf.m = .bor r j p -> bs' r (j + 1) = []) (q : Held c s u lf) (m : lf.m.live = true) : Rep (RoS c { s with env := E, bs := bs' }) s.w lf.t .ro [u] lf.x [] := by
 refine Held.thawed (s' := { s with env := E, bs := bs' }) (RoS.sub k) rfl q m (fun r j p y b i => ⟨fun r' z g => ?_, .inr (h.own _ _ _ i).1⟩);obtain ⟨rfl, rfl⟩ := h.disj _ _ _ _ _ (k _ _ _ g) i;have : b ∈ bs' r' (j + 1) := g;rw [e _ _ _ y] at this;simp at this
def chgE (g : Chg) (E : Nat -> AV) : Nat -> AV := fun r => (E r).chg g
theorem Rel.chgE_ (h : Rel c s) (g : Chg) (j : let s' : St := { s with env := chgE g s.env }; Keeps c s s' -> ChgLeaf c s s' g (fun _ _ => True) /\ ChgWr c s s' g (fun _ _ => True)) : Rel c { s with env := chgE g s.env } := by
 refine Rel.step (s' := { s with env := chgE g s.env }) g h (fun _ => False) (fun _ _ => True) (fun _ => True) (fun r _ => ⟨rfl, rfl, rfl, rfl⟩) (X1f _ _) (fun b p _ => rfl)
  (fun r l b i => i.elim) (fun r l r' q b i => i.elim) (fun r l i => i.elim) (fun r _ => ⟨fun _ _ => trivial, fun _ _ => trivial⟩) (fun m => ?_) (fun _ r i => i.elim)
 exact ⟨(j m).1, (j m).2, fun r _ _ => SamePtr.chg rfl rfl⟩
theorem Held.one (h : Held c s u lf) : u.oneCell' = true := by
 obtain ⟨t, x, m⟩ := lf;cases m with
 | at_ lv => exact Rep.one h u sm
 | bor r j p => exact Rep.one h.1 u sm
 | dead => exact h
theorem Rel.kill (h : Rel c s) (g : Chg) (P : Nat -> Nat -> Bool) (z : ∀ r j p l, g.f r j p l = if P r j then l.lost else l) (B : ∀ r j, g.wf r j = P r j) (A : g.lose = true) : Rel c { s with env := chgE g s.env } := by
 refine h.chgE_ g (fun y => ⟨fun u t x r j p _ q => ?_, fun a r j p i o _ m => ?_⟩)
 ·rw [z];split
  ·exact ⟨rfl, Held.one (lf := ⟨t, x, .bor r j p⟩) q⟩
  ·exact ⟨rfl, q.keep y ⟨fun lf u b => b.chg rfl rfl, rfl, fun _ _ => rfl⟩⟩
 ·rw [B];split
  ·exact .inl A
  ·exact ⟨rfl, m.chg y (fun lf u b => b.chg rfl rfl) rfl (fun _ _ => rfl)⟩
theorem Y99 {g : Chg} {P : Nat -> Nat -> Bool} (A : ∀ r j p l, g.f r j p l = if P r j then l.lost else l) (z : ∀ r j, g.wf r j = P r j) (B : g.lose = true) (v : AV) : ∀ q ∈ (v.chg g).refs, P q.1 q.2 = false := by
 have y : ∀ (l : Leaf) q, q ∈ (l.chg g).refs -> P q.1 q.2 = false := by
  intro l q b;obtain ⟨t, x, m⟩ := l;cases m with
  | at_ _ => simp [Leaf.chg, Leaf.refs] at b
  | dead => simp [Leaf.chg, Leaf.refs] at b
  | bor r j p =>
   simp [Leaf.chg, A] at b;cases h : P r j with
   | true => simp [h, Leaf.lost, Leaf.refs] at b
   | false =>
    simp [h, Leaf.refs] at b;rw [b];exact h
 have leaves : ∀ (ls : List Leaf) q, q ∈ (chgs g ls).flatMap Leaf.refs -> P q.1 q.2 = false := by
  intro ls q b;rw [Y2y] at b;simp at b;obtain ⟨_, ⟨l, _, rfl⟩, b⟩ := b;exact y l q b
 intro q b;cases v with
 | con k ls => exact leaves ls q b
 | eptr ls C =>
  cases C with
  | none => simp only [AV.chg, AV.refs, Xh] at b; exact leaves ls q b
  | some w =>
   simp only [AV.chg, z, B, X1p] at b;cases h : P w.1 w.2.1 with
   | true => simp [h, AV.refs] at b
   | false =>
    simp only [h, Xm, X19, AV.refs, X6, Xb] at b;rcases b with b | b
    ·grind
    ·grind
 | path r off => simp only [AV.chg] at b; split at b <;> simp [AV.refs] at b
 | clo f caps => simp only [AV.chg] at b; split at b <;> simp [AV.refs] at b
 | fptr f caps => simp only [AV.chg] at b; split at b <;> simp [AV.refs] at b
 | cloS f caps => simp only [AV.chg] at b; split at b <;> simp [AV.refs] at b
 | grow r j i o l =>
  simp only [AV.chg, z] at b;split at b
  ·simp [AV.refs] at b
  ·rename_i h;simp only [AV.refs, Xb] at b;rw [b]; simpa using h
 | sel r j e e2 t ix x =>
  simp only [AV.chg, z] at b;split at b
  ·simp [AV.refs] at b
  ·rename_i h;simp only [AV.refs, Xb] at b;rw [b]; simpa using h
 | _ => simp [AV.chg, AV.refs] at b
theorem Ydp {g : Chg} (v : AV) : ∀ q ∈ (v.chg g).ptrs, g.pk q = false := by
 intro q b;cases v with
 | path r off =>
  simp only [AV.chg] at b;split at b
  ·simp [AV.ptrs] at b
  ·rename_i h; simp only [AV.ptrs, Xb] at b; rw [b]; simpa using h
 | clo f caps =>
  simp only [AV.chg] at b;split at b
  ·simp [AV.ptrs] at b
  ·rename_i h;simp only [AV.ptrs, X1b] at b;obtain ⟨p, m, rfl⟩ := b;simp only [X1o, not_exists, not_and] at h;simpa using h p m
 | fptr f caps =>
  simp only [AV.chg] at b;split at b
  ·simp [AV.ptrs] at b
  ·rename_i h;simp at h;simpa using h q b
 | cloS f caps =>
  simp only [AV.chg] at b;split at b
  ·simp [AV.ptrs] at b
  ·rename_i h;simp at h;simpa using h q b
 | eptr ls y =>
  simp only [AV.chg] at b;cases y with
  | none => simp [AV.ptrs] at b
  | some w => simp only at b; split at b <;> (try split at b) <;> simp [AV.ptrs] at b
 | grow r j i o l => simp only [AV.chg] at b; split at b <;> simp [AV.ptrs] at b
 | sel r j e e2 t ix x => simp only [AV.chg] at b; split at b <;> simp [AV.ptrs] at b
 | _ => simp [AV.chg, AV.ptrs] at b
theorem Rel.killRoot_ (h : Rel c s) (s0 : Nat) : Rel c { s with env := chgE (killG s0) s.env } /\ ∀ r, (∀ q ∈ (chgE (killG s0) s.env r).refs, q.1 ≠ s0) /\ (∀ q ∈ (chgE (killG s0) s.env r).ptrs, q ≠ s0) := by
 have i : ∀ r j p l, (killG s0).f r j p l = if (fun r _ => r == s0) r j then l.lost else l := by intro r j p l; simp [killG]
 refine ⟨h.kill (killG s0) (fun r _ => r == s0) i (fun _ _ => rfl) rfl, fun r => ⟨fun q b => ?_, fun q b => ?_⟩⟩
 ·simpa using Y99 i (fun _ _ => rfl) rfl (s.env r) q b
 ·simpa [killG] using Ydp (g := killG s0) (s.env r) q b
theorem Rel.killPlace_ (h : Rel c s) (r0 b : Nat) : Rel c { s with env := chgE (killPG r0 b) s.env } /\ ∀ r, (∀ q ∈ (chgE (killPG r0 b) s.env r).refs, q ≠ (r0, b)) := by
 have g : ∀ r j p l, (killPG r0 b).f r j p l = if (fun r j => r == r0 && j == b) r j then l.lost else l := by intro r j p l; simp [killPG]
 refine ⟨h.kill (killPG r0 b) (fun r j => r == r0 && j == b) g (fun _ _ => rfl) rfl, fun r q i => ?_⟩;have := Y99 g (fun _ _ => rfl) rfl (s.env r) q i
 rintro rfl
 simp at this
def LeafV (c : Cx) (s : St) (u : Value) (lf : Leaf) : Prop :=
 match lf.m with
 | .at_ lv => Rep (RoS c s) s.w lf.t lv [u] lf.x [] /\ lv.pinOk c u
 | _ => Held c s u lf
theorem LeafV.of_held (b : lf.m.own = false) (h : Held c s u lf) : LeafV c s u lf := by
 obtain ⟨t, x, m⟩ := lf;cases m with
 | at_ lv => cases lv with
  | ro => exact ⟨h, trivial⟩
  | sh => simp [Mode.own] at b
  | dp => simp [Mode.own] at b
  | pn _ => simp [Mode.own] at b
 | bor r j p => exact h
 | dead => exact h
theorem LeafV.rel {r l : Nat} (b : s.bs r (l + 1) = []) (h : LeafV c s u lf) : LeafRel c s r l u lf := by
 obtain ⟨t, x, m⟩ := lf;cases m with
 | at_ lv => exact LeafRel.of_rep h.2 (by rw [b]; exact h.1)
 | bor r j p => exact ⟨b, h⟩
 | dead => exact ⟨b, h⟩
def ValC (c : Cx) (s : St) (av : AV) (v : Value) (cells : List Value) : Prop :=
 match av with
 | .undef => True
 | .skip => v = undef
 | .con k ls => KCells c s.w [] k v cells /\ ls.length = cells.length /\ ∀ l lf u, leafAt ls l = some lf -> cells[l]? = some u -> LeafV c s u lf
 | .path r' off => PtrRel s r' off v
 | .eptr ls g => ∃ a, v = .pointer (some a) /\ (∀ l lf, leafAt ls l = some lf -> lf.m.own = false /\ ∃ u, s.w.cell? (a.add l) = some u /\ Held c s u lf) /\ WrRel c s a g
 | .clo f caps => ∃ vs, v = .func (.func f) #[] vs.toArray /\ PtrRels s caps vs
 | .cloR f xs => ∃ vs, v = .func (.func f) #[] vs.toArray /\ PtrVs (RoS c s) s.w xs vs
 | .fptr f caps => ∃ us, SelfAt c s f caps v us
 | .cloS f caps => ∃ b us, v = .func (.func f) #[] us.toArray /\ SelfAt c s f caps b us
 | .junk => True
 | .grow _ _ _ _ _ => False
 | .sel _ _ _ _ _ _ _ => False
 | .part _ _ _ _ => False
 | .eown _ => False
theorem KCells.bare (h : KCells c w [] k v cells) {b : List Nat} (g : b = []) : KCells c w' b k v cells := by
 subst g;cases k with
 | box e => obtain ⟨B, _, _, h⟩ := h; simp at h
 | tupB i n j => obtain ⟨B, _, _, _, _, _, _, _, h, _⟩ := h; simp at h
 | _ => exact h
theorem ValC.toAV (h : ValC c s av v cells) (b : ∀ l, s.bs d l = []) (g : s.cs d = cells) : AVRel c s d av v := by
 cases av with
 | undef => exact b
 | skip => exact ⟨h, b⟩
 | con k ls =>
  obtain ⟨j, m, p⟩ := h;refine ⟨?_, by rw [g]; exact m, fun l _ => b _, fun l lf u q i => ?_⟩
  ·rw [g, b 0]; exact j
  ·rw [g] at i;exact (p l lf u q i).rel (b _)
 | path r off => exact ⟨b, h⟩
 | eptr ls y => exact ⟨b, h⟩
 | clo f caps => exact ⟨b, h⟩
 | cloR f xs => exact ⟨b, h⟩
 | fptr f caps => exact ⟨b, h⟩
 | cloS f caps => exact ⟨b, h⟩
 | junk => exact fun k => b _
 | grow _ _ _ _ _ => exact h.elim
 | sel _ _ _ _ _ _ _ => exact h.elim
 | part _ _ _ _ => exact h.elim
 | eown _ => exact h.elim
theorem ValC.keep {s s' : St} (z : Keeps c s s') (G : ∀ r j lf u, OwnPlace s r j lf u -> SamePl s s' r j) (L : ∀ r off v, PtrRel s r off v -> SamePtr s s' r) (h : ValC c s av v cells) : ValC c s' av v cells := by
 have held : ∀ u lf, Held c s u lf -> Held c s' u lf := by
  intro u lf h;obtain ⟨t, x, m⟩ := lf;cases m with
  | at_ lv => exact Rep.move (fun b M D => z b M D) sm h
  | bor r j p => obtain ⟨⟨Y, u', E, _⟩, _⟩ := h.2; exact h.keep z (G _ _ _ _ E)
  | dead => exact h
 cases av with
 | undef => trivial
 | skip => exact h
 | con k ls =>
  obtain ⟨C, y, g⟩ := h;refine ⟨C.bare rfl, y, fun l lf u D X => ?_⟩;have A := g l lf u D X;obtain ⟨t, x, m⟩ := lf;cases m with
  | at_ lv => exact ⟨Rep.move (fun b M D => z b M D) sm A.1, A.2⟩
  | bor r j p => exact held _ ⟨t, x, .bor r j p⟩ A
  | dead => exact A
 | path r off => exact PtrRel.keep (L _ _ _ h) h
 | eptr ls V =>
  obtain ⟨a, C, y, g⟩ := h;have F : s'.w.heap[a.block]? = s.w.heap[a.block]? := by
   cases V with
   | none => exact (z _ g.1 g.2).2
   | some q => obtain ⟨r, j, p, i, o⟩ := q; obtain ⟨lf, u, E, _⟩ := g.2; exact (g.blk z (G _ _ _ _ E).2.2).1
  refine ⟨a, C, fun l lf D => ?_, ?_⟩
  ·obtain ⟨N, u, k2, O⟩ := y l lf D;exact ⟨N, u, (X1d (by rw [Addr.add_block]; exact F)).trans k2, held _ _ O⟩
  ·cases V with
   | none =>
    obtain ⟨N, k2⟩ := z _ g.1 g.2;refine ⟨N, ?_⟩;have O := g.2;rw [Xu O] at k2;exact (X10.1 k2).1
   | some q =>
    obtain ⟨r, j, p, i, o⟩ := q;obtain ⟨lf, u, E, g2⟩ := g.2;exact WrRel.chg z (G _ _ _ _ E).1 (G _ _ _ _ E).2.1 (G _ _ _ _ E).2.2 g
 | cloR f xs =>
  obtain ⟨vs, C, y⟩ := h;exact ⟨vs, C, y.move z⟩
 | fptr f caps =>
  obtain ⟨us, y⟩ := h;refine ⟨us, y.keep z (fun r I => ?_)⟩;obtain ⟨B, _, _, _, _, g⟩ := y;obtain ⟨off, U, A⟩ := g.mem I;exact L _ _ _ A
 | cloS f caps =>
  obtain ⟨Z, us, W, y⟩ := h;refine ⟨Z, us, W, y.keep z (fun r I => ?_)⟩;obtain ⟨B, _, _, _, _, g⟩ := y;obtain ⟨off, U, A⟩ := g.mem I;exact L _ _ _ A
 | junk => trivial
 | grow _ _ _ _ _ => exact h.elim
 | sel _ _ _ _ _ _ _ => exact h.elim
 | part _ _ _ _ => exact h.elim
 | eown _ => exact h.elim
 | clo f caps =>
  obtain ⟨vs, C, y⟩ := h;refine ⟨vs, C, y.keep (fun r I => ?_)⟩;obtain ⟨off, U, g⟩ := y.mem I;exact L _ _ _ g
theorem Y6v {d r j : Nat} (b : (s.env d).quiet = true) (h : OwnPlace s r j lf u) : r ≠ d := by
 rintro rfl
 rw [h.loud] at b;simp at b
theorem Y5g {d r off : Nat} (b : (s.env d).quiet = true) (h : PtrRel s r off v) : r ≠ d := by
 rintro rfl
 rw [h.loud] at b;simp at b
theorem Rel.setNew (h : Rel c s) (G : (s.env d).quiet = true) (N : Below s.w.heap.size s.w w') (av : AV) (v : Value) (cd : List Value) (m : Nat -> List Nat)
  (D : ∀ l b, b ∈ m l -> s.w.heap.size <= b /\ b < w'.heap.size) (V : ∀ l I b, b ∈ m l -> b ∈ m I -> l = I) (W : ∀ l, (m l).Nodup)
  (M : let s' : St := ⟨upd s.env d av, upd s.tm d v, w', upd s.cs d cd, upd s.bs d m⟩; Keeps c s s' -> (∀ r j lf u, OwnPlace s r j lf u -> SamePl s s' r j) -> (∀ r off v, PtrRel s r off v -> SamePtr s s' r) -> AVRel c s' d av v) :
  Rel c ⟨upd s.env d av, upd s.tm d v, w', upd s.cs d cd, upd s.bs d m⟩ := by
 let s' : St := ⟨upd s.env d av, upd s.tm d v, w', upd s.cs d cd, upd s.bs d m⟩
 have g : ∀ r, ¬ r = d -> s'.env r = (s.env r).chg noG /\ s'.tm r = s.tm r /\ s'.cs r = s.cs r /\ s'.bs r = s.bs r := fun r i =>
  ⟨by rw [AV.chg_no]; exact Y1 _ _ i, Y1 _ _ i, Y1 _ _ i, Y1 _ _ i⟩
 have B : ∀ r j, r ≠ d -> SamePl s s' r j := fun r j i =>
  ⟨fun lf u p => p.chg (g r i).1 (g r i).2.2.1, by rw [(g r i).2.2.2], fun b A => N.block b (h.own _ _ _ A).2⟩
 have E : ∀ r, r ≠ d -> SamePtr s s' r := fun r i => SamePtr.chg (g r i).1 (g r i).2.1;refine Rel.step (s' := s') noG h (fun r => r = d) (fun r _ => r ≠ d) (fun r => r ≠ d) g (N.mono h.base) (fun b Z _ => N.block b Z)
  (fun r l b z A => ?_) (fun r l r' I b z L O U => ?_) (fun r l z => ?_) (fun r _ => ⟨fun q C => ?_, fun q C => ?_⟩) (fun F => ⟨Yl F B, Y13 F B, fun r Y _ => E r Y⟩) (fun F r z => ?_)
 ·subst z;have y : b ∈ m l := by simpa [s', upd] using A
  exact ⟨(D l b y).2, .inl (D l b y).1⟩
 ·subst z; subst L;exact ⟨rfl, V l I b (by simpa [s', upd] using O) (by simpa [s', upd] using U)⟩
 ·subst z;have : s'.bs r l = m l := by simp [s', upd]
  rw [this]; exact W l
 ·obtain ⟨lf, u, p⟩ := (h.av r).refs_own.1 q C;exact Y6v G p
 ·obtain ⟨off, v', p⟩ := (h.av r).refs_own.2 q C;exact Y5g G p
 ·subst z;have X : s'.env r = av := Y0 _ _ _;have e2 : s'.tm r = v := Y0 _ _ _;rw [X, e2];exact M F (fun r' j lf u p => B r' j (Y6v G p)) (fun r' off v' p => E r' (Y5g G p))
theorem Rel.setVal (h : Rel c s) (b : (s.env d).quiet = true) (j : ValC c s av v cells) :
  Rel c ⟨upd s.env d av, upd s.tm d v, s.w, upd s.cs d cells, upd s.bs d (fun _ => [])⟩ :=
 h.setNew b (X1f _ _) av v cells (fun _ => []) sm sm sm
  (fun g i b => (j.keep g i b).toAV (by intro l; simp [upd]) (Y0 _ _ _))
theorem Rel.move (h : Rel c s) {s0 d : Nat} (G : s0 ≠ d) (V : (s.env d).quiet = true) (i : ∀ r, (∀ q ∈ (s.env r).refs, q.1 ≠ s0) /\ (∀ q ∈ (s.env r).ptrs, q ≠ s0)) :
  Rel c ⟨upd (upd s.env s0 .undef) d (s.env s0), upd s.tm d (s.tm s0), s.w, upd s.cs d (s.cs s0), upd (upd s.bs s0 (fun _ => [])) d (s.bs s0)⟩ := by
 let s' : St := ⟨upd (upd s.env s0 .undef) d (s.env s0), upd s.tm d (s.tm s0), s.w, upd s.cs d (s.cs s0), upd (upd s.bs s0 (fun _ => [])) d (s.bs s0)⟩
 have g : ∀ r, ¬ (r = d \/ r = s0) -> s'.env r = (s.env r).chg noG /\ s'.tm r = s.tm r /\ s'.cs r = s.cs r /\ s'.bs r = s.bs r := fun r i => by
  simp at i;refine ⟨by rw [AV.chg_no]; show upd _ _ _ r = _; rw [Y1 _ _ i.1, Y1 _ _ i.2], Y1 _ _ i.1, Y1 _ _ i.1, ?_⟩;show upd _ _ _ r = _;rw [Y1 _ _ i.1, Y1 _ _ i.2]
 have y : s'.bs d = s.bs s0 := Y0 _ _ _;have F : s'.bs s0 = fun _ => [] := by show upd (upd s.bs s0 (fun _ => [])) d (s.bs s0) s0 = _; rw [Y1 _ _ G, Y0]
 have U : ∀ l, s'.bs s0 l = [] := fun l => by rw [F]
 have z : ∀ r j, r ≠ d /\ r ≠ s0 -> SamePl s s' r j := fun r j i => by
  have := g r (by simp; exact i);exact ⟨fun lf u I => I.chg this.1 this.2.2.1, by rw [this.2.2.2], fun b p => rfl⟩
 have L : ∀ r, r ≠ d /\ r ≠ s0 -> SamePtr s s' r := fun r i => by
  have := g r (by simp; exact i);exact SamePtr.chg this.1 this.2.1
 have B : ∀ r, (∀ q ∈ (s.env r).refs, q.1 ≠ d /\ q.1 ≠ s0) /\ (∀ q ∈ (s.env r).ptrs, q ≠ d /\ q ≠ s0) := fun r =>
  ⟨fun q m => ⟨by obtain ⟨lf, u, I⟩ := (h.av r).refs_own.1 q m; exact Y6v V I, (i r).1 q m⟩, fun q m => ⟨by obtain ⟨off, Y, I⟩ := (h.av r).refs_own.2 q m; exact Y5g V I, (i r).2 q m⟩⟩
 refine Rel.step (s' := s') noG h (fun r => r = d \/ r = s0) (fun r _ => r ≠ d /\ r ≠ s0) (fun r => r ≠ d /\ r ≠ s0) g (X1f _ _) (fun b W _ => rfl)
  (fun r l b A p => ?_) (fun r l r' X b A N D E => ?_) (fun r l A => ?_) (fun r _ => B r) (fun C => ⟨Yl C z, Y13 C z, fun r O _ => L r O⟩) (fun C r A => ?_)
 ·rcases A with rfl | rfl
  ·rw [y] at p;exact ⟨(h.own _ _ _ p).2, .inr ⟨s0, l, .inr rfl, p⟩⟩
  ·grind
 ·rcases A with rfl | rfl <;> rcases N with rfl | rfl
  ·rw [y] at D E;exact ⟨rfl, (h.disj _ _ _ _ _ D E).2⟩
  ·grind
  ·grind
  ·simp_all
 ·rcases A with rfl | rfl
  ·rw [y]; exact h.nodup _ _
  ·grind
 ·rcases A with rfl | rfl
  ·have M : s'.env r = (s.env s0).chg noG := by rw [AV.chg_no]; exact Y0 _ _ _
   have e2 : s'.tm r = s.tm s0 := Y0 _ _ _;rw [M, e2];exact (h.av s0).chg (r1 := r) C (Yl C z) (Y13 C z) (fun r O _ => L r O) (B s0).1 (B s0).2 (Y0 _ _ _) y (fun _ _ _ => rfl)
  ·have M : s'.env r = .undef := by show upd _ _ _ r = _; rw [Y1 _ _ G, Y0]
   rw [M];exact U
theorem Y50 (h : d < env.length) (v : AV) : get (put env d v) = upd (get env) d v := by
 funext r;rw [Y16];by_cases b : r = d
 ·rw [X4 ⟨b, h⟩, b, Y0]
 ·rw [X2 (fun h => b h.1), Y1 _ _ b]
theorem Y85 (g : Chg) (env : Env) : get (chgEnv g env) = chgE g (get env) := by funext r; exact Y12 g env r
theorem Y51 (d : Nat) (env : Env) : get (forget d env) = forgetE d (get env) := by
 unfold forget forgetE;by_cases h : d < env.length
 ·rw [Y50 (by rw [Y8]; exact h), Y85]; rfl
 ·funext r;rw [Y16, Y8, X2 (fun g => h g.2), Y12];by_cases b : r = d
  ·rw [b, Y0, Y11 _ _ om]; rfl
  ·rw [Y1 _ _ b]
theorem Y1j (d : Nat) (env : Env) : (forget d env).length = env.length := by unfold forget; rw [Y5, Y8]
theorem Yx {r : Nat} (h : get env r = .con k ls) : r < env.length := by
 apply Xs;intro b;rw [Y11 _ _ om] at h;exact AV.noConfusion h
theorem Y1g {r j : Nat} (h : (get env r).leaf? j = some lf) : r < env.length := by
 cases b : get env r with
 | con k ls => exact Yx b
 | _ => rw [b] at h; simp [AV.leaf?] at h
theorem Y3s (r j : Nat) (env : Env) : get (freeze r j env) = freezeE r j (get env) /\ (freeze r j env).length = env.length := by
 unfold freeze freezeE;cases b : (get env r).leaf? j with
 | none => exact ⟨rfl, rfl⟩
 | some l =>
  simp only;split
  ·refine ⟨?_, by rw [Y5, Y8]⟩;rw [Y50 (by rw [Y8]; exact Y1g b), Y85];rfl
  ·exact ⟨rfl, rfl⟩
theorem Yn : ∀ (ls : List Leaf) (env : Env), get (freezeAll ls env) = freezeAllE ls (get env) /\ (freezeAll ls env).length = env.length
 | [], env => ⟨rfl, rfl⟩
 | l :: ls, env => by
  obtain ⟨t, x, m⟩ := l;cases m with
  | bor r j p =>
   simp [freezeAll, freezeAllE];obtain ⟨b, g⟩ := Y3s r j env;obtain ⟨h, i⟩ := Yn ls (freeze r j env);exact ⟨by rw [h, b], by rw [i, g]⟩
  | at_ lv => exact Yn ls env
  | dead => exact Yn ls env
theorem Ya (s : Nat) (env : Env) : (killRoot s env).length = env.length := by unfold killRoot; rw [Y5, Y8]
theorem ValC.refs_own (h : ValC c s av v cells) : (∀ q ∈ av.refs, ∃ lf u, OwnPlace s q.1 q.2 lf u) /\ (∀ q ∈ av.ptrs, ∃ off v, PtrRel s q off v) := by
 have y : ∀ (u : Value) (lf : Leaf), Held c s u lf -> ∀ q ∈ lf.refs, ∃ lf u, OwnPlace s q.1 q.2 lf u := by
  intro u lf C q b;obtain ⟨t, x, m⟩ := lf;cases m with
  | at_ _ => simp [Leaf.refs] at b
  | dead => simp [Leaf.refs] at b
  | bor r1 j p =>
   simp only [Leaf.refs, Xb] at b;subst b;obtain ⟨_, ⟨F, L, z, _⟩, _⟩ := C;exact ⟨F, L, z⟩
 cases av with
 | undef => exact ⟨by simp [AV.refs], by simp [AV.ptrs]⟩
 | junk => exact ⟨by simp [AV.refs], by simp [AV.ptrs]⟩
 | grow _ _ _ _ _ => exact h.elim
 | sel _ _ _ _ _ _ _ => exact h.elim
 | part _ _ _ _ => exact h.elim
 | eown _ => exact h.elim
 | skip => exact ⟨by simp [AV.refs], by simp [AV.ptrs]⟩
 | con k ls =>
  refine ⟨fun q b => ?_, by simp [AV.ptrs]⟩;simp only [AV.refs, Xi] at b;obtain ⟨lf, E, b⟩ := b;obtain ⟨l, A⟩ := Xx E;obtain ⟨N, z, g⟩ := h;have D : l < cells.length := by rw [<- z]; exact (X5.1 A).1
  have := g l lf _ (by rw [Y2]; exact A) (X1 D);refine y cells[l] lf ?_ q b;obtain ⟨t, x, m⟩ := lf;cases m with
  | at_ _ => simp [Leaf.refs] at b
  | dead => simp [Leaf.refs] at b
  | bor _ _ _ => exact this
 | path r1 off =>
  refine ⟨by simp [AV.refs], fun q b => ?_⟩;simp only [AV.ptrs, Xb] at b;subst b;exact ⟨_, _, h⟩
 | eptr ls M =>
  refine ⟨fun q b => ?_, by simp [AV.ptrs]⟩;simp only [AV.refs, X6, Xi] at b;obtain ⟨a, z, g, I⟩ := h;rcases b with ⟨lf, E, b⟩ | b
  ·obtain ⟨l, A⟩ := Xx E;obtain ⟨_, u, _, C⟩ := g l lf (by rw [Y2]; exact A);exact y u lf C q b
  ·cases M with
   | none => simp at b
   | some w =>
    obtain ⟨r1, j, p, i, o⟩ := w;simp only [Xb] at b;subst b;obtain ⟨_, lf, u, G, _⟩ := I;exact ⟨lf, u, G⟩
 | cloR f xs => exact ⟨by simp [AV.refs], by simp [AV.ptrs]⟩
 | fptr f caps =>
  obtain ⟨us, B, _, _, _, _, g⟩ := h;exact ⟨by simp [AV.refs], fun q b => g.mem b⟩
 | cloS f caps =>
  obtain ⟨O, us, _, B, _, _, _, _, g⟩ := h;exact ⟨by simp [AV.refs], fun q b => g.mem b⟩
 | clo f caps =>
  obtain ⟨vs, _, g⟩ := h;exact ⟨by simp [AV.refs], fun q b => g.mem (by simpa [AV.ptrs] using b)⟩
def ovl (env : Env) (ps : Nat -> AV) : Nat -> AV := fun r => if r < env.length then get env r else ps r
def ovlT (tmps : Array Value) (vs : Nat -> Value) : Nat -> Value := fun r => if r < tmps.size then tmps.getD r undef else vs r
def noP : Nat -> AV := fun _ => .undef
def noV : Nat -> Value := fun _ => undef
structure RP (c : Cx) (env : Env) (tmps : Array Value) (w : World) (ps : Nat -> AV) (vs : Nat -> Value) : Prop where
 len : env.length = tmps.size
 rel : ∃ cs bs, Rel c ⟨ovl env ps, ovlT tmps vs, w, cs, bs⟩ /\ ∀ r, (∀ q ∈ (ovl env ps r).refs, q.1 < env.length) /\ (∀ q ∈ (ovl env ps r).ptrs, q < env.length)
def RE (c : Cx) (env : Env) (tmps : Array Value) (w : World) : Prop := ∃ vs, RP c env tmps w noP vs
def Settled (v : AV) : Prop := v = .undef \/ ∃ k ls, v = .con k ls /\ (∀ l ∈ ls, l.m.settled = true)
theorem Y4l (g : Chg) (h : ∀ l ∈ ls, l.m.settled = true) : chgs g ls = ls := by
 induction ls with
 | nil => rfl
 | cons l ls i =>
  rw [chgs, i (fun l b => h l (X3 _ b))];have := h l Xp;obtain ⟨t, x, m⟩ := l;cases m with
  | at_ lv => rfl
  | bor _ _ _ => simp [Mode.settled] at this
  | dead => simp [Mode.settled] at this
theorem Settled.chg {v : AV} (g : Chg) (h : Settled v) : v.chg g = v := by
 rcases h with rfl | ⟨k, ls, rfl, h⟩
 ·rfl
 ·simp only [AV.chg, Y4l g h]
theorem Settled.refs {v : AV} (h : Settled v) : v.refs = [] /\ v.ptrs = [] := by
 rcases h with rfl | ⟨k, ls, rfl, h⟩
 ·exact ⟨rfl, rfl⟩
 ·refine ⟨?_, rfl⟩;simp only [AV.refs, List.flatMap_eq_nil_iff];intro l b;have := h l b;obtain ⟨t, x, m⟩ := l;cases m with
  | at_ lv => rfl
  | bor _ _ _ => simp [Mode.settled] at this
  | dead => simp [Mode.settled] at this
theorem Y7 {r : Nat} (h : r < env.length) : ovl env ps r = get env r := X4 h
theorem Yg {r : Nat} (h : env.length <= r) : ovl env ps r = ps r := X2 om
theorem Yt (h : d < env.length) (v : AV) : ovl (put env d v) ps = upd (ovl env ps) d v := by
 funext r;simp [ovl, Y5, upd, Y16];by_cases b : r = d
 ·grind
 ·simp [b]
theorem Yb (h : env.length <= n) (v : AV) : ovl env (upd ps n v) = upd (ovl env ps) n v := by
 funext r;simp [ovl, upd];by_cases b : r = n
 ·grind
 ·simp [b]
theorem Ydq (h : d < tmps.size) (v : Value) : ovlT (tmps.setIfInBounds d v) vs = upd (ovlT tmps vs) d v := by
 funext r;simp only [ovlT, upd, Y6u, Array.size_setIfInBounds];by_cases b : r = d
 ·simp_all
 ·simp [b]
theorem Yv (h : tmps.size <= n) (v : Value) : ovlT tmps (upd vs n v) = upd (ovlT tmps vs) n v := by
 funext r;simp [ovlT, upd];by_cases b : r = n
 ·subst b; simp; omega
 ·simp [b]
theorem Y1s (g : Chg) (env : Env) (ps : Nat -> AV) (b : ∀ r, Settled (ps r)) : chgE g (ovl env ps) = ovl (chgEnv g env) ps := by
 funext r;simp [chgE, ovl, Y8];split
 ·rw [Y12]
 ·exact (b r).chg g
theorem Rel.congr {E b : Nat -> AV} {t g : Nat -> Value} (h : Rel c ⟨E, t, w, cs, bs⟩) (i : E = b) (j : t = g) : Rel c ⟨b, g, w, cs, bs⟩ := by subst i; subst j; exact h
def Fewer (g : Chg) : Prop := ∀ r j p l, (g.f r j p l).refs = [] \/ (g.f r j p l).refs = l.refs
theorem Yi {g : Chg} (z : Fewer g) (v : AV) : (∀ q ∈ (v.chg g).refs, q ∈ v.refs) /\ (∀ q ∈ (v.chg g).ptrs, q ∈ v.ptrs) := by
 have y : ∀ (l : Leaf) q, q ∈ (l.chg g).refs -> q ∈ l.refs := by
  intro l q b;obtain ⟨t, x, m⟩ := l;cases m with
  | at_ _ => exact b
  | dead => exact b
  | bor r j p =>
   simp [Leaf.chg] at b;rcases z r j p ⟨t, x, .bor r j p⟩ with h | h
   ·grind
   ·grind
 have leaves : ∀ (ls : List Leaf) q, q ∈ (chgs g ls).flatMap Leaf.refs -> q ∈ ls.flatMap Leaf.refs := by
  intro ls q b;rw [Y2y] at b;simp at b ⊢;obtain ⟨_, ⟨l, A, rfl⟩, b⟩ := b;exact ⟨l, A, y l q b⟩
 cases v with
 | con k ls => exact ⟨fun q b => leaves ls q b, by simp [AV.chg, AV.ptrs]⟩
 | path r off =>
  refine ⟨by simp only [AV.chg]; split <;> simp [AV.refs], fun q b => ?_⟩;simp only [AV.chg] at b;split at b
  ·simp [AV.ptrs] at b
  ·exact b
 | eptr ls B =>
  cases B with
  | none => exact ⟨fun q b => by simp only [AV.chg, AV.refs, Xh] at b ⊢; exact leaves ls q b, by simp [AV.chg, AV.ptrs]⟩
  | some w =>
   simp only [AV.chg];split
   ·split
    ·exact ⟨by simp [AV.refs], by simp [AV.ptrs]⟩
    ·exact ⟨fun q b => by simp only [AV.refs, Xh, X6] at b ⊢; exact .inl (leaves ls q b), by simp [AV.ptrs]⟩
   ·exact ⟨fun q b => by simp only [AV.refs, X6] at b ⊢; exact b.imp (leaves ls q) id, by simp [AV.ptrs]⟩
 | clo f caps =>
  refine ⟨by simp only [AV.chg]; split <;> simp [AV.refs], fun q b => ?_⟩;simp only [AV.chg] at b;split at b
  ·simp [AV.ptrs] at b
  ·exact b
 | fptr f caps =>
  refine ⟨by simp only [AV.chg]; split <;> simp [AV.refs], fun q b => ?_⟩;simp only [AV.chg] at b;split at b
  ·simp [AV.ptrs] at b
  ·exact b
 | cloS f caps =>
  refine ⟨by simp only [AV.chg]; split <;> simp [AV.refs], fun q b => ?_⟩;simp only [AV.chg] at b;split at b
  ·simp [AV.ptrs] at b
  ·exact b
 | grow r j i o l =>
  refine ⟨fun q b => ?_, by simp only [AV.chg]; split <;> simp [AV.ptrs]⟩;simp only [AV.chg] at b;split at b
  ·simp [AV.refs] at b
  ·exact b
 | sel r j e e2 t ix x =>
  refine ⟨fun q b => ?_, by simp only [AV.chg]; split <;> simp [AV.ptrs]⟩;simp only [AV.chg] at b;split at b
  ·simp [AV.refs] at b
  ·exact b
 | _ => exact ⟨fun q b => b, fun q b => b⟩
theorem Y9a (d : Nat) : Fewer (forgetG d) := fun r j p l => by simp [forgetG]; split; exact .inl rfl; exact .inr rfl
theorem Y9b (r j : Nat) : Fewer (freezeG r j) := fun r j p l => by simp [freezeG]; split; exact .inl rfl; exact .inr rfl
theorem Y14 (d : Nat) : Fewer (killG d) := fun r j p l => by simp [killG]; split; exact .inl rfl; exact .inr rfl
theorem Y1d (r j : Nat) : Fewer (killPG r j) := fun r j p l => by simp [killPG]; split; exact .inl rfl; exact .inr rfl
theorem NoRef.of_lt {E : Nat -> AV} {N n : Nat} (g : s.env = E) (h : ∀ r, (∀ q ∈ (E r).refs, q.1 < N) /\ (∀ q ∈ (E r).ptrs, q < N)) (i : N <= n) : ∀ r, (∀ q ∈ (s.env r).refs, q.1 ≠ n) /\ (∀ q ∈ (s.env r).ptrs, q ≠ n) := by
 subst g;exact fun r => ⟨fun q b => by have := (h r).1 q b; omega, fun q b => by have := (h r).2 q b; omega⟩
theorem RP.addVal (h : RP c env tmps w ps vs) (g : env.length <= n) (p : ps n = .undef)
  (i : ∀ cs bs, Rel c ⟨ovl env ps, ovlT tmps vs, w, cs, bs⟩ -> ∃ cells, ValC c ⟨ovl env ps, ovlT tmps vs, w, cs, bs⟩ av v cells) (z : (∀ q ∈ av.refs, q.1 < env.length) /\ (∀ q ∈ av.ptrs, q < env.length)) : RP c env tmps w (upd ps n av) (upd vs n v) := by
 obtain ⟨m, cs, bs, j, l⟩ := h;obtain ⟨cells, i⟩ := i cs bs j;have y : (ovl env ps n).quiet = true := by rw [Yg g, p]; rfl
 refine ⟨m, _, _, Rel.congr (j.setVal y i) (Yb g av).symm (Yv om v).symm, fun r => ?_⟩;rw [Yb g];by_cases b : r = n
 ·subst b; rw [Y0]; exact z
 ·rw [Y1 _ _ b]; exact l r
theorem RP.dropAt (h : RP c env tmps w ps vs) (E : env.length <= n) (L : ∀ r, Settled (ps r)) : RP c env tmps w (upd ps n .undef) vs := by
 obtain ⟨C, cs, bs, F, D⟩ := h;have e : forgetE n (ovl env ps) = ovl env (upd ps n .undef) := by
  funext r;rw [Yb E];simp [forgetE, upd];split
  ·rfl
  ·have := D r;generalize ovl env ps r = v at this;have y : ∀ q ∈ v.refs, q.1 ≠ n := fun q g => gr;have b : ∀ q ∈ v.ptrs, q ≠ n := fun q g => gr;have B : ∀ l : Leaf, (∀ q ∈ l.refs, q.1 ≠ n) -> l.chg (forgetG n) = l := by
    intro l C;obtain ⟨t, x, m⟩ := l;cases m with
    | at_ _ => rfl
    | dead => rfl
    | bor r j p => simp only [Leaf.chg, forgetG]; rw [X2 (C (r, j) (by simp [Leaf.refs]))]
   have leaves : ∀ ls : List Leaf, (∀ q ∈ ls.flatMap Leaf.refs, q.1 ≠ n) -> chgs (forgetG n) ls = ls := by
    intro ls
    induction ls with
    | nil => intro _; rfl
    | cons l ls G =>
     intro z;rw [chgs, B l (fun q g => z q (by simp [g])), G (fun q g => z q gr)]
   cases v with
   | con k ls => simp only [AV.chg]; rw [leaves ls y]
   | path r off => simp only [AV.chg]; rw [X2 (by simpa [forgetG] using b r (by simp [AV.ptrs]))]
   | eptr ls I =>
    cases I with
    | none => simp only [AV.chg]; rw [leaves ls (fun q g => y q (by simp only [AV.refs, Xh]; exact g))]
    | some w =>
     simp only [AV.chg];rw [leaves ls (fun q g => y q (by simp only [AV.refs]; exact Xe _ g)), X2 (by simpa [forgetG] using y (w.1, w.2.1) (by simp [AV.refs]))]
   | clo f caps =>
    simp only [AV.chg];rw [X2];simp only [X1o, not_exists, not_and];intro q g;simpa [forgetG] using b q.1 (by simp only [AV.ptrs, X1b]; exact ⟨q, g, rfl⟩)
   | fptr f caps =>
    simp only [AV.chg];rw [X2];simp;intro q g;simpa [forgetG] using b q g
   | cloS f caps =>
    simp only [AV.chg];rw [X2];simp;intro q g;simpa [forgetG] using b q g
   | grow r j i o l => simp only [AV.chg]; rw [X2 (by simpa [forgetG] using y (r, j) (by simp [AV.refs]))]
   | sel r j e e2 t ix x => simp only [AV.chg]; rw [X2 (by simpa [forgetG] using y (r, j) (by simp [AV.refs]))]
   | _ => rfl
 refine ⟨C, _, _, Rel.congr (F.forget_ n) e rfl, fun r => ?_⟩;rw [Yb E];by_cases A : r = n
 ·subst A; rw [Y0]; exact ⟨by simp [AV.refs], by simp [AV.ptrs]⟩
 ·rw [Y1 _ _ A]; exact D r
theorem RP.commit {n d : Nat} (h : RP c env tmps w ps vs) (M : env.length <= n) (N : d < env.length) (U : ∀ r, r ≠ n -> Settled (ps r)) :
  RP c (setD (some d) env (ps n)) (tmps.setIfInBounds d (vs n)) w (upd ps n .undef) vs := by
 obtain ⟨y, cs, bs, O, z⟩ := h;have m : n ≠ d :=om;have G : ovlT tmps vs n = vs n := X2 om;have D : ∀ {b : Env} {g : Nat -> AV} {cs bs}, b.length = env.length -> Rel c ⟨ovl b g, ovlT tmps vs, w, cs, bs⟩ -> (∀ r, (∀ q ∈ (ovl b g r).refs, q.1 < env.length) /\ (∀ q ∈ (ovl b g r).ptrs, q < env.length)) -> (get b d).quiet = true ->
   RP c (put b d (g n)) (tmps.setIfInBounds d (vs n)) w (upd g n .undef) vs := by
  intro b g cs bs p F i l;have A : ovl b g n = g n := Yg om;have j := F.move m (by show (ovl b g d).quiet = true; rw [Y7 om]; exact l) (NoRef.of_lt rfl i M);simp [A, G] at j;have I : upd (upd (ovl b g) n .undef) d (g n) = ovl (put b d (g n)) (upd g n .undef) := by
   rw [Yt om, Yb om]
  refine ⟨by rw [Y5, p, Array.size_setIfInBounds]; exact y, _, _, Rel.congr j I (Ydq om _).symm, fun r => ?_⟩;rw [Y5, p, <- I];by_cases B : r = d
  ·subst B; rw [Y0]; have := i n; rw [A] at this; exact this
  ·rw [Y1 _ _ B];by_cases C : r = n
   ·subst C; rw [Y0]; exact ⟨by simp [AV.refs], by simp [AV.ptrs]⟩
   ·rw [Y1 _ _ C]; exact i r
 unfold setD;simp only;by_cases l : (get env d).quiet = true
 ·grind
 ·rw [X2 l];have e : forgetE d (ovl env ps) = ovl (forget d env) (upd ps n ((ps n).chg (forgetG d))) := by
   rw [Yb (by rw [Y1j]; omega)];funext r;simp [forgetE, upd];by_cases j : r = n
   ·subst j;rw [X2 m, X4 rfl, Yg M]
   ·rw [X2 j];by_cases E : r = d
    ·subst E;rw [X4 rfl, Y7 (by rw [Y1j]; exact N)];have := congrFun (Y51 r env) r;rw [this];simp [forgetE, upd]
    ·rw [X2 E];simp [ovl, Y1j];split
     ·rw [Y51]; simp [forgetE, upd, E]
     ·exact (U r j).chg _
  have j := Rel.congr (O.forget_ d) e rfl;have := D (Y1j d env) j (fun r => ?_) ?_
  ·rw [Y0] at this;have e2 : upd (upd ps n ((ps n).chg (forgetG d))) n .undef = upd ps n .undef := by funext r; simp [upd]; split <;> rfl
   rw [e2] at this;exact this
  ·rw [<- e];simp only [forgetE, upd];split
   ·exact ⟨by simp [AV.refs], by simp [AV.ptrs]⟩
   ·have L := Yi (Y9a d) (ovl env ps r);exact ⟨fun q l => (z r).1 q (L.1 q l), fun q l => (z r).2 q (L.2 q l)⟩
  ·rw [Y51]; simp [forgetE, upd]; rfl
def pullE (r j s0 q : Nat) (b g : Leaf) (E : Nat -> AV) : Nat -> AV :=
 upd (upd (chgE (killPG r j) E) r ((chgE (killPG r j) E r).setLeaf j b)) s0 ((chgE (killPG r j) E s0).setLeaf q g)
theorem Rel.pull_ (h : Rel c s) {r j q s0 : Nat} {x : t.D} {lp : Leaf} (hs : s.env s0 = .con k ls) (hq : leafAt ls q = some ⟨t, x, .bor r j []⟩) (hne : s0 ≠ r) (hl : (s.env r).leaf? j = some lp) (hm : lp.m = .at_ lv) (hlv : lv ≠ .ro) :
  ∃ bs', Rel c ⟨pullE r j s0 q ⟨lp.t, lp.x, .dead⟩ ⟨t, x, .at_ lv⟩ s.env, s.tm, s.w, s.cs, bs'⟩ /\
   ∀ p, (∀ z ∈ (pullE r j s0 q ⟨lp.t, lp.x, .dead⟩ ⟨t, x, .at_ lv⟩ s.env p).refs, z ∈ (s.env p).refs) /\ (∀ z ∈ (pullE r j s0 q ⟨lp.t, lp.x, .dead⟩ ⟨t, x, .at_ lv⟩ s.env p).ptrs, z ∈ (s.env p).ptrs) := by
 obtain ⟨env, tm, w, cs, bs⟩ := s;simp only at hs hl ⊢
 -- what is borrowed is the place itself
 have hav0 := h.av s0;simp [hs] at hav0;obtain ⟨_, g2, _, g4⟩ := hav0;have hqlt : q < ls.length := by rw [Y2] at hq; exact (X5.1 hq).1
 have g2 : ls.length = (cs s0).length := g2;obtain ⟨u, hu⟩ : ∃ u, (cs s0)[q]? = some u := ⟨_, X1 om⟩;have hbor : (cs r)[j]? = some u /\ lp = ⟨t, x, lp.m⟩ := by
  have := g4 q _ u hq hu;obtain ⟨_, _, ⟨lf', u', ⟨g5, g6, g7⟩, g8⟩, _⟩ := this;rw [hl] at g5;simp at g5;obtain ⟨m, g9, rfl⟩ := g8 rfl;subst g5;exact ⟨g7, by rw [g9]⟩
 obtain ⟨hcj, hlp⟩ := hbor;obtain ⟨C, hk3⟩ := h.killPlace_ r j;obtain ⟨k0, ls0, hv0⟩ : ∃ k ls, env r = .con k ls := by
  cases hv : env r with
  | con k ls => exact ⟨k, ls, rfl⟩
  | _ => rw [hv] at hl; simp [AV.leaf?] at hl
 have hl' : leafAt ls0 j = some lp := by rw [hv0] at hl; exact hl
 let E := chgE (killPG r j) env
 have O : E r = .con k0 (chgs (killPG r j) ls0) := by show (env r).chg _ = _; rw [hv0]; rfl
 have U : E s0 = .con k (chgs (killPG r j) ls) := by show (env s0).chg _ = _; rw [hs]; rfl
 have hlj : leafAt (chgs (killPG r j) ls0) j = some lp := by
  rw [Yf, hl'];obtain ⟨t', x', m'⟩ := lp;subst hm;rfl
 have hjlt : j < (chgs (killPG r j) ls0).length := by rw [Y2] at hlj; exact (X5.1 hlj).1
 let dl : Leaf := ⟨lp.t, lp.x, .dead⟩
 let nl : Leaf := ⟨t, x, .at_ lv⟩
 let bs' : Nat -> Nat -> List Nat := updP (updP bs r (j + 1) []) s0 (q + 1) (bs r (j + 1))
 let s' : St := ⟨pullE r j s0 q dl nl env, tm, w, cs, bs'⟩
 have Y : s'.env s0 = .con k (setAt (chgs (killPG r j) ls) q nl) := by
  show upd _ s0 _ s0 = _;rw [Y0, show chgE (killPG r j) env s0 = _ from U]; rfl
 have X : s'.env r = .con k0 (setAt (chgs (killPG r j) ls0) j dl) := by
  show upd _ s0 _ r = _;rw [Y1 _ _ (Ne.symm hne), Y0, show chgE (killPG r j) env r = _ from O]; rfl
 have G : bs' r = fun l => if l = j + 1 then [] else bs r l := by
  show updP _ s0 _ _ r = _;rw [Y20 _ _ _ (Ne.symm hne)];funext l;simp [updP]
 have I : bs' s0 = fun l => if l = q + 1 then bs r (j + 1) else bs s0 l := by
  funext l;show (if s0 = s0 /\ l = q + 1 then _ else updP bs r (j + 1) [] s0 l) = _;rw [Y20 _ _ _ hne];simp
 have hbsq : bs s0 (q + 1) = [] := by
  have := g4 q _ u hq hu;exact this.1
 have V : ∀ p, ¬ (p = r \/ p = s0) -> s'.env p = (E p).chg noG /\ s'.tm p = tm p /\ s'.cs p = cs p /\ s'.bs p = bs p := fun p hp => by
  simp at hp;refine ⟨by rw [AV.chg_no]; show upd _ s0 _ p = _; rw [Y1 _ _ hp.2, Y1 _ _ hp.1], rfl, rfl, ?_⟩;show updP _ s0 _ _ p = _;rw [Y20 _ _ _ hp.2, Y20 _ _ _ hp.1]
 have hnoq : ∀ lf v, ¬ OwnPlace ⟨E, tm, w, cs, bs⟩ s0 q lf v := by
  rintro lf v ⟨L, o2, o3⟩
  have L : (E s0).leaf? q = some lf := L;rw [U] at L;simp only [AV.leaf?] at L;rw [Yf, hq] at L;simp at L;subst L;simp [Leaf.chg, killPG, Leaf.lost, Mode.own] at o2
 have hown : ∀ p i, ¬ (p = r /\ i = j) /\ ¬ (p = s0 /\ i = q) -> SamePl ⟨E, tm, w, cs, bs⟩ s' p i := by
  intro p i ⟨hpi, hpq⟩;by_cases M : p = r
  ·subst M;refine ⟨fun lf v ⟨L, o2, o3⟩ => ⟨?_, o2, o3⟩, by show bs' p (i + 1) = _; rw [G]; exact X2 (fun h => hpi ⟨rfl, om⟩), fun _ _ => rfl⟩;rw [X];have L : (E p).leaf? i = some lf := L;rw [O] at L;simp only [AV.leaf?] at L ⊢;rw [Y2, Y9, Xy (fun h => hpi ⟨rfl, h.symm⟩), <- Y2];exact L
  ·by_cases N : p = s0
   ·subst N;have hiq : i ≠ q := fun h => hpq ⟨rfl, h⟩;refine ⟨fun lf v ⟨L, o2, o3⟩ => ⟨?_, o2, o3⟩, by show bs' p (i + 1) = _; rw [I]; exact X2 om, fun _ _ => rfl⟩;rw [Y];have L : (E p).leaf? i = some lf := L;rw [U] at L;simp only [AV.leaf?] at L ⊢;rw [Y2, Y9, Xy (Ne.symm hiq), <- Y2];exact L
   ·have hs4 := V p (by simp; exact ⟨M, N⟩);exact ⟨fun lf v ho => ho.chg hs4.1 hs4.2.2.1, by rw [hs4.2.2.2], fun _ _ => rfl⟩
 have hptr : ∀ p, SamePtr ⟨E, tm, w, cs, bs⟩ s' p := by
  intro p;by_cases M : p = r
  ·subst M;refine ⟨rfl, fun e ls he => ?_⟩;have he : E p = _ := he;rw [O] at he;cases he;exact ⟨e, _, X⟩
  ·by_cases N : p = s0
   ·subst N;refine ⟨rfl, fun e ls he => ?_⟩;have he : E p = _ := he;rw [U] at he;cases he;exact ⟨e, _, Y⟩
   ·have hs4 := V p (by simp; exact ⟨M, N⟩);exact SamePtr.chg hs4.1 hs4.2.1
 have hLr : ∀ p, (∀ z ∈ (E p).refs, ¬ (z.1 = r /\ z.2 = j) /\ ¬ (z.1 = s0 /\ z.2 = q)) /\ (∀ z ∈ (E p).ptrs, True) := fun p =>
  ⟨fun z hz => ⟨fun h2 => hk3 p z hz (Prod.ext h2.1 h2.2), fun h2 => by
   obtain ⟨lf, v, ho⟩ := (C.av p).refs_own.1 z hz;rw [h2.1, h2.2] at ho;exact hnoq lf v ho⟩, fun _ _ => trivial⟩
 obtain ⟨hrepj, hpinj⟩ : Rep (RoS c ⟨E, tm, w, cs, bs⟩) w t lv [u] x (bs r (j + 1)) /\ lv.pinOk c (u) := by
  have D := C.av r;simp only [show chgE (killPG r j) env r = _ from O] at D;have h6 := D.2.2.2 j lp _ hlj hcj;rw [hlp, hm] at h6;exact ⟨h6.rep, h6.pin⟩
 have hrs : r ≠ s0 := Ne.symm hne;have hmain : Rel c s' := by
  refine Rel.step (s' := s') noG C (fun p => p = r \/ p = s0) (fun p i => ¬ (p = r /\ i = j) /\ ¬ (p = s0 /\ i = q)) (fun _ => True) V (X1f _ _) (fun b _ _ => rfl)
   (fun p l b hD F => ?_) (fun p1 l1 p2 l2 b hD hD' A y => ?_) (fun p l hD => ?_) (fun p _ => hLr p) (fun Z => ⟨Yl Z hown, Y13 Z hown, fun p _ _ => hptr p⟩) (fun Z p hD => ?_)
  ·rcases hD with rfl | rfl
   ·rw [show s'.bs p = _ from G] at F
    replace F : b ∈ (if l = j + 1 then [] else bs p l) := F
    split at F
    ·simp at F
    ·exact ⟨(C.own _ _ _ F).2, .inr ⟨p, l, .inl rfl, F⟩⟩
   ·rw [show s'.bs p = _ from I] at F
    replace F : b ∈ (if l = q + 1 then bs r (j + 1) else bs p l) := F
    split at F
    ·exact ⟨(C.own _ _ _ F).2, .inr ⟨r, j + 1, .inl rfl, F⟩⟩
    ·exact ⟨(C.own _ _ _ F).2, .inr ⟨p, l, .inr rfl, F⟩⟩
  ·rcases hD with rfl | rfl <;> rcases hD' with rfl | rfl
   ·rw [show s'.bs p2 = _ from G] at A y
    replace A : b ∈ (if l1 = j + 1 then [] else bs p2 l1) := A
    replace y : b ∈ (if l2 = j + 1 then [] else bs p2 l2) := y
    split at A
    ·simp at A
    ·split at y
     ·simp at y
     ·exact C.disj _ _ _ _ _ A y
   ·exfalso;rw [show s'.bs p1 = _ from G] at A;rw [show s'.bs p2 = _ from I] at y
    replace A : b ∈ (if l1 = j + 1 then [] else bs p1 l1) := A
    replace y : b ∈ (if l2 = q + 1 then bs p1 (j + 1) else bs p2 l2) := y
    split at A
    ·simp at A
    ·rename_i hn1;split at y
     ·exact hn1 (C.disj _ _ _ _ _ A y).2
     ·exact hrs (C.disj _ _ _ _ _ A y).1
   ·exfalso;rw [show s'.bs p2 = _ from G] at y;rw [show s'.bs p1 = _ from I] at A
    replace y : b ∈ (if l2 = j + 1 then [] else bs p2 l2) := y
    replace A : b ∈ (if l1 = q + 1 then bs p2 (j + 1) else bs p1 l1) := A
    split at y
    ·simp at y
    ·rename_i hn1;split at A
     ·exact hn1 (C.disj _ _ _ _ _ y A).2
     ·exact hrs (C.disj _ _ _ _ _ y A).1
   ·rw [show s'.bs p2 = _ from I] at A y
    replace A : b ∈ (if l1 = q + 1 then bs r (j + 1) else bs p2 l1) := A
    replace y : b ∈ (if l2 = q + 1 then bs r (j + 1) else bs p2 l2) := y
    split at A
    ·split at y
     ·grind
     ·exact (hrs (C.disj _ _ _ _ _ A y).1).elim
    ·split at y
     ·exact (hrs (C.disj _ _ _ _ _ y A).1).elim
     ·exact C.disj _ _ _ _ _ A y
  ·rcases hD with rfl | rfl
   ·rw [show s'.bs p = _ from G];show (if l = j + 1 then [] else bs p l).Nodup;split
    ·grind
    ·exact C.nodup _ _
   ·rw [show s'.bs p = _ from I];show (if l = q + 1 then bs r (j + 1) else bs p l).Nodup;split
    ·exact C.nodup _ _
    ·exact C.nodup _ _
  ·have leaf : ∀ (p l : Nat) (lf : Leaf) (v : Value), (∃ k ls, E p = .con k ls /\ leafAt ls l = some lf) -> s'.bs p (l + 1) = bs p (l + 1) -> LeafRel c ⟨E, tm, w, cs, bs⟩ p l v lf -> LeafRel c s' p l v lf := by
    intro p l lf v ⟨k1, ls1, e1, e2⟩ F h6;have := h6.chg (g := noG) (r' := p) Z (Yl Z hown) (fun z hz => by
     have := (hLr p).1 z (by rw [e1]; simp only [AV.refs, Xi]; exact ⟨lf, Yc e2, hz⟩);exact this) F (fun _ _ => rfl)
    have hno1 : lf.chg noG = lf := by obtain ⟨t, x, m⟩ := lf; cases m <;> rfl
    rw [hno1] at this;exact this
   rcases hD with rfl | rfl
   ·have D := C.av p;simp only [show chgE (killPG p j) env p = _ from O] at D;obtain ⟨g1, g2, g3, g4⟩ := D;rw [X];refine ⟨?_, by rw [Y9, Xz]; exact g2, fun l B => ?_, fun l lf v B W => ?_⟩
    ·grind
    ·rw [Y9, Xz] at B;rw [show s'.bs p = _ from G];show (if l + 1 = j + 1 then [] else bs p (l + 1)) = [];split
     ·rfl
     ·exact g3 l B
    ·rw [Y2, Y9] at B;by_cases hlj2 : l = j
     ·subst hlj2;rw [X1i hjlt] at B;simp at B;subst B;refine ⟨by rw [show s'.bs p = _ from G]; simp, ?_⟩;have hu' : v = u := by rw [show (s'.cs p)[l]? = some u from hcj] at W; exact (Xq W).symm
      rw [hu'];exact Rep.one hrepj _ sm
     ·rw [Xy (fun h => hlj2 h.symm), <- Y2] at B;exact leaf p l lf v ⟨_, _, O, B⟩ (by rw [show s'.bs p = _ from G]; show (if l + 1 = j + 1 then [] else bs p (l + 1)) = _; rw [X2 om]) (g4 l lf v B W)
   ·have D := C.av p;simp only [show chgE (killPG r j) env p = _ from U] at D;obtain ⟨g1, g2, g3, g4⟩ := D;rw [Y];refine ⟨?_, by rw [Y9, Xz]; exact g2, fun l B => ?_, fun l lf v B W => ?_⟩
    ·grind
    ·rw [Y9, Xz] at B;rw [show s'.bs p = _ from I];show (if l + 1 = q + 1 then bs r (j + 1) else bs p (l + 1)) = [];rw [X2 gr];exact g3 l B
    ·rw [Y2, Y9] at B;by_cases hlq : l = q
     ·subst hlq;rw [X1i (by rw [Yu]; exact hqlt)] at B;simp at B;subst B;have hu' : v = u := by rw [show (s'.cs p)[l]? = some u from hu] at W; exact (Xq W).symm
      rw [hu'];refine LeafRel.of_rep hpinj ?_;rw [show s'.bs p = _ from I];simp;exact Rep.move (fun b F hl => Z b F hl) (fun _ _ => rfl) hrepj
     ·rw [Xy (fun h => hlq h.symm), <- Y2] at B;exact leaf p l lf v ⟨_, _, U, B⟩ (by rw [show s'.bs p = _ from I]; show (if l + 1 = q + 1 then _ else bs p (l + 1)) = _; rw [X2 om]) (g4 l lf v B W)
 refine ⟨bs', hmain, fun p => ?_⟩;have hc := Yi (Y1d r j) (env p);have setR : ∀ (k1 : Kind) (ls1 : List Leaf) (i : Nat) (l : Leaf), l.refs = [] -> ∀ z ∈ (AV.con k1 (setAt ls1 i l)).refs, z ∈ (AV.con k1 ls1).refs := by
  intro k1 ls1 i l hl z hz;rw [Y9] at hz;simp only [AV.refs, Xi] at hz ⊢;obtain ⟨lf, hmm, hz⟩ := hz;rcases X25 hmm with hmm | rfl
  ·grind
  ·grind
 by_cases N : p = s0
 ·subst N;rw [show pullE r j p q _ _ env p = _ from Y];refine ⟨fun z hz => ?_, by simp [AV.ptrs]⟩;have := setR _ _ _ _ rfl z hz;rw [<- U] at this;exact hc.1 z this
 ·by_cases M : p = r
  ·subst M;rw [show pullE p j s0 q _ _ env p = _ from X];refine ⟨fun z hz => ?_, by simp [AV.ptrs]⟩;have := setR _ _ _ _ rfl z hz;rw [<- O] at this;exact hc.1 z this
  ·rw [show pullE r j s0 q _ _ env p = E p from by show upd _ s0 _ p = _; rw [Y1 _ _ N, Y1 _ _ M]];exact hc
end Go.FP
