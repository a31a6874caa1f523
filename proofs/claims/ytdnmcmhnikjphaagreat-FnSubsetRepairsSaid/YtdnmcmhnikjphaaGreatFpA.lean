/- How Go values lie in memory, and an evaluator of code with its soundness (part 1 of 7). Conditions: those that stand in each theorem; nothing is assumed of any program. -/
import Derived.Below
import Derived.Deep.Draws
import Derived.OwnWalk
import Derived.Laws.MakeOwn
import Derived.Laws.OwnMore
import Derived.LoopN
import Derived.Orders
import Derived.RowKit3
import Derived.Laws.BytesArg

set_option linter.unusedVariables false
set_option linter.unusedSimpArgs false
set_option linter.unnecessarySimpa false

namespace Go.FP
abbrev X0 := @Option.some.injEq
abbrev X1 := @List.getElem?_eq_getElem
abbrev X2 := @if_neg
abbrev X3 := @List.mem_cons_of_mem
abbrev X4 := @if_pos
abbrev X5 := @List.mem_append
abbrev X6 := @List.getElem?_eq_some_iff
abbrev X7 := @List.append_assoc
abbrev X8 := @List.mem_of_getElem?
abbrev X9 := @Bool.and_eq_true
abbrev Xa := @List.all_eq_true
abbrev Xb := @List.mem_singleton
abbrev Xc := @List.mem_append_left
abbrev Xd := @List.getElem?_append_right
abbrev Xe := @List.mem_append_right
abbrev Xf := @List.append_nil
abbrev Xg := @List.getElem?_cons_zero
abbrev Xh := @List.getD_eq_getElem?_getD
abbrev Xi := @Nat.le_refl
abbrev Xj := @List.mem_flatMap
abbrev Xk := @List.length_append
abbrev Xl := @Bool.false_eq_true
abbrev Xm := @List.length_take
abbrev Xn := @List.length_eq_zero_iff
abbrev Xo := @List.mem_cons_self
abbrev Xp := @List.getElem?_append_left
abbrev Xq := @List.mem_cons
abbrev Xr := @Option.bind_eq_some_iff
abbrev Xs := @Option.some.inj
abbrev Xt := @Array.getElem?_eq_getElem
abbrev Xu := @Option.map_eq_some_iff
abbrev Xv := @Array.getElem?_eq_some_iff
abbrev Xw := @List.getElem?_of_mem
abbrev Xx := @Decidable.byContradiction
abbrev Xy := @Array.getD_eq_getD_getElem?
abbrev Xz := @List.length_set
abbrev X10 := @List.getElem?_set_ne
abbrev X11 := @Prod.mk.injEq
abbrev X12 := @List.length_drop
abbrev X13 := @Nat.zero_add
abbrev X14 := @List.getElem?_map
abbrev X15 := @List.nodup_append
abbrev X16 := @List.nodup_nil
abbrev X17 := @Array.length_toList
abbrev X18 := @if_false
abbrev X19 := @List.mem_map
abbrev X1a := @decide_eq_true_eq
abbrev X1b := @Go.World.cell?_of_block
abbrev X1c := @Array.toArray_toList
abbrev X1d := @List.contains_eq_mem
abbrev X1e := @Nat.lt_of_lt_of_le
abbrev X1f := @List.pairwise_cons
abbrev X1g := @Go.RowKit.Below.refl
abbrev X1h := @Bool.not_eq_true'
abbrev X1i := @List.getElem?_cons_succ
abbrev X1j := @List.getElem?_take
abbrev X1k := @Nat.ne_of_lt
abbrev X1l := @List.getElem?_drop
abbrev X1m := @List.getElem?_set_self
abbrev X1n := @List.any_eq_true
abbrev X1o := @Nat.le_of_not_lt
abbrev X1p := @if_true
abbrev X1q := @List.nodup_cons
abbrev X1r := @List.mem_filter
abbrev X1s := @List.length_cons
abbrev X1t := @List.flatMap_cons
abbrev X1u := @List.length_eq_one_iff
abbrev X1v := @List.mem_range
abbrev X1w := @Option.map_some
abbrev X1x := @List.filterMap_cons_some
abbrev X1y := @List.map_cons
abbrev X1z := @Array.getElem?_setIfInBounds
abbrev X20 := @List.cons_append
abbrev X21 := @List.append_eq_nil_iff
abbrev X22 := @List.set_append_right
abbrev X23 := @List.getElem?_eq_none
abbrev X24 := @List.ext_getElem?
abbrev X25 := @List.mem_of_mem_drop
abbrev X26 := @List.mem_of_mem_take
abbrev X27 := @List.take_succ_eq_append_getElem
abbrev X28 := @Array.getElem?_replicate
abbrev X29 := @decide_eq_false_iff_not
abbrev X2a := @Nat.add_assoc
abbrev X2b := @List.eq_nil_iff_forall_not_mem
abbrev X2c := @Nat.add_mul
abbrev X2d := @List.take_of_length_le
abbrev X2e := @List.any_eq_false
abbrev X2f := @Nat.add_zero
abbrev X2g := @Array.getElem?_append_right
abbrev X2h := @cond_true
abbrev X2i := @List.map_toArray
abbrev X2j := @Go.Calls.mono
abbrev X2k := @List.Sublist.append
abbrev X2l := @List.nil_append
abbrev X2m := @List.length_map
abbrev X2n := @List.mem_or_eq_of_mem_set
abbrev X2o := @List.cons.injEq
abbrev X2p := @Bool.or_eq_true
abbrev X2q := @List.mapM_cons
abbrev X2r := @Go.World.block_lt_of_cell?
abbrev X2s := @List.Sublist.refl
abbrev X2t := @Go.Result.andThen_ok
abbrev X2u := @List.drop_of_length_le
abbrev X2v := @not_or
abbrev X2w := @Nat.zero_le
abbrev X2x := @Option.getD_some
abbrev X2y := @List.take_append_drop
abbrev X2z := @Array.getElem?_append
abbrev X30 := @Nat.min_eq_left
abbrev X31 := @Go.Sem.run_bind
abbrev X32 := @List.filter_sublist
abbrev X33 := @eq_of_heq
abbrev X34 := @Go.Addr.mk.injEq
abbrev X35 := @List.mem_flatten
abbrev X36 := @List.map_nil
abbrev X37 := @Option.bind_some
inductive Ty where
 | int (k : IntKind) | bool | str | slice (e : TypeId) (t : Ty) | unit | pair (a b : Ty)
 deriving DecidableEq, Inhabited
@[reducible] def Ty.D : Ty -> Type
 | .int _ => Int
 | .bool => Bool
 | .str => ByteArray
 | .slice _ t => List t.D
 | .unit => Unit
 | .pair a b => a.D × b.D
def Ty.sz : Ty -> Nat
 | .unit => 0
 | .pair a b => a.sz + b.sz
 | _ => 1
def Ty.dflt : (t : Ty) -> t.D
 | .int _ => (0 : Int)
 | .bool => false
 | .str => (⟨#[]⟩ : ByteArray)
 | .slice _ _ => []
 | .unit => ()
 | .pair a b => (a.dflt, b.dflt)
def Ty.flatB : Ty -> Bool
 | .slice _ _ => false
 | .pair a b => a.flatB && b.flatB
 | _ => true
def Ty.isAgg : Ty -> Bool
 | .unit => true
 | .pair _ _ => true
 | _ => false
inductive Lvl where
 | ro | sh | dp
 | pn (h : Nat)
 deriving DecidableEq, Inhabited
def Lvl.deep : Lvl -> Bool
 | .dp => true
 | .pn _ => true
 | _ => false
inductive Mode where
 | at_ (l : Lvl)
 | bor (r l : Nat) (p : List (Int × Nat))
 | dead
 deriving DecidableEq, Inhabited
structure Leaf where
 t : Ty
 x : t.D
 m : Mode
structure BoxK where
 id : TypeId
 pin : Bool := false
 fix : List Bool := []     -- cells that are never written
 deriving DecidableEq, Inhabited
def nthB : List Bool -> Nat -> Bool
 | [], _ => false
 | b :: _, 0 => b
 | _ :: r, n + 1 => nthB r n
def BoxK.free (e : BoxK) (off : Nat) : Nat -> Bool
 | 0 => true
 | n + 1 => !nthB e.fix (off + n) && e.free off n
inductive Kind where
 | val
 | agg
 | tup (sh : List (Bool × Nat))
 | box (e : BoxK)
 | tupB (id : TypeId) (n : Nat) (sh : List (Bool × Nat))
 deriving DecidableEq, Inhabited
def Ty.kind (t : Ty) : Kind := if t.isAgg then .agg else .val
def Kind.plain : Kind -> Bool
 | .val => true
 | .agg => true
 | _ => false
inductive Cap where
 | path (r off : Nat)
 | ro (x : Σ t : Ty, t.D)
 | self
def Cap.roots : Cap -> List Nat
 | .path r _ => [r]
 | _ => []
def capRoots : List Cap -> List Nat
 | [] => []
 | c :: cs => c.roots ++ capRoots cs
inductive AV where
 | undef
 | skip
 | con (k : Kind) (ls : List Leaf)
 | path (r off : Nat)
 | eptr (ls : List Leaf) (wr : Option (Nat × Nat × List (Int × Nat) × Int × Nat))
 | clo (f : FuncId) (caps : List (Nat × Nat))
 | cloR (f : FuncId) (caps : List (Σ t : Ty, t.D))
 | fptr (f : FuncId) (caps : List Cap)
 | cloS (f : FuncId) (caps : List Cap)
 | grow (r j : Nat) (i : Int) (o : Nat) (l : Leaf)
 | sel (r j : Nat) (e e2 : TypeId) (t : Ty) (ix : List Int) (x : List (List t.D))
 | junk
 | part (e : TypeId) (t : Ty) (x : List t.D) (n : Int)
 | eown (ls : List Leaf)
abbrev Env := List AV
def get : Env -> Nat -> AV
 | [], _ => .undef
 | v :: _, 0 => v
 | _ :: r, n + 1 => get r n
def put : Env -> Nat -> AV -> Env
 | [], _, _ => []
 | _ :: r, 0, v => v :: r
 | u :: r, n + 1, v => u :: put r n v
def leaves : (t : Ty) -> t.D -> (Nat -> Mode) -> Nat -> List Leaf
 | .unit, _, _, _ => []
 | .pair a b, x, md, n => leaves a x.1 md n ++ leaves b x.2 md (n + a.sz)
 | .slice e t, x, md, n => [⟨.slice e t, x, md n⟩]
 | .int k, x, _, _ => [⟨.int k, x, .at_ .ro⟩]
 | .bool, x, _, _ => [⟨.bool, x, .at_ .ro⟩]
 | .str, x, _, _ => [⟨.str, x, .at_ .ro⟩]
def Leaf.as (l : Leaf) (t : Ty) : Option t.D := if h : l.t = t then some (h ▸ l.x) else none
def asm : (t : Ty) -> List Leaf -> Option (t.D × List Leaf)
 | .unit, ls => some ((), ls)
 | .pair a b, ls => match asm a ls with
  | some (x, r) => match asm b r with
   | some (y, r') => some ((x, y), r')
   | none => none
  | none => none
 | .int k, ls => match ls with
  | [] => none
  | l :: r => match l.as (.int k) with | some x => some (x, r) | none => none
 | .bool, ls => match ls with
  | [] => none
  | l :: r => match l.as .bool with | some x => some (x, r) | none => none
 | .str, ls => match ls with
  | [] => none
  | l :: r => match l.as .str with | some x => some (x, r) | none => none
 | .slice e t, ls => match ls with
  | [] => none
  | l :: r => match l.as (.slice e t) with | some x => some (x, r) | none => none
def flat : Ty -> List Ty
 | .unit => []
 | .pair a b => flat a ++ flat b
 | t => [t]
def typedAs (ls : List Leaf) (t : Ty) : Bool := decide (ls.map Leaf.t = flat t)
def Mode.live : Mode -> Bool
 | .dead => false
 | _ => true
def Mode.own : Mode -> Bool
 | .at_ .sh => true
 | .at_ .dp => true
 | .at_ (.pn _) => true
 | _ => false
def Mode.settled : Mode -> Bool
 | .at_ _ => true
 | _ => false
def Mode.bare : Mode -> Bool
 | .bor _ _ _ => false
 | _ => true
def Leaf.ro (l : Leaf) : Leaf := ⟨l.t, l.x, .at_ .ro⟩
def Leaf.lost (l : Leaf) : Leaf := ⟨l.t, l.x, .dead⟩
def setAt : List Leaf -> Nat -> Leaf -> List Leaf
 | [], _, _ => []
 | _ :: r, 0, l => l :: r
 | u :: r, n + 1, l => u :: setAt r n l
def leafAt : List Leaf -> Nat -> Option Leaf
 | [], _ => none
 | l :: _, 0 => some l
 | _ :: r, n + 1 => leafAt r n
def AV.leaf? : AV -> Nat -> Option Leaf
 | .con _ ls, j => leafAt ls j
 | _, _ => none
def AV.setLeaf : AV -> Nat -> Leaf -> AV
 | .con k ls, j, l => .con k (setAt ls j l)
 | v, _, _ => v
structure Chg where
 f : Nat -> Nat -> List (Int × Nat) -> Leaf -> Leaf
 wf : Nat -> Nat -> Bool
 lose : Bool
 pk : Nat -> Bool
def Leaf.chg (g : Chg) (l : Leaf) : Leaf := match l.m with
 | .bor r j p => g.f r j p l
 | _ => l
def chgs (g : Chg) : List Leaf -> List Leaf
 | [] => []
 | l :: r => l.chg g :: chgs g r
def AV.chg (g : Chg) : AV -> AV
 | .con k ls => .con k (chgs g ls)
 | .path r off => if g.pk r then .undef else .path r off
 | .eptr ls wr => match wr with
  | some w => if g.wf w.1 w.2.1 then (if g.lose then .undef else .eptr (chgs g ls) none) else .eptr (chgs g ls) wr
  | none => .eptr (chgs g ls) none
 | .clo f caps => if caps.any (fun c => g.pk c.1) then .undef else .clo f caps
 | .fptr f caps => if (capRoots caps).any g.pk then .undef else .fptr f caps
 | .cloS f caps => if (capRoots caps).any g.pk then .undef else .cloS f caps
 | .grow r j i o l => if g.wf r j then .junk else .grow r j i o l
 | .sel r j e e2 t ix x => if g.wf r j then .junk else .sel r j e e2 t ix x
 | v => v
def chgEnv (g : Chg) : Env -> Env
 | [] => []
 | v :: r => v.chg g :: chgEnv g r
def forgetG (d : Nat) : Chg := ⟨fun r _ _ l => if r = d then l.ro else l, fun r _ => r == d, false, fun r => r == d⟩
def forget (d : Nat) (env : Env) : Env := put (chgEnv (forgetG d) env) d .undef
def AV.quiet : AV -> Bool
 | .con (.box _) _ => false
 | .con (.tupB _ _ _) _ => false
 | .con _ ls => ls.all fun l => !l.m.own
 | .grow _ _ _ _ _ => false
 | .sel _ _ _ _ _ _ _ => false
 | .part _ _ _ _ => false
 | .eown _ => false
 | .junk => false
 | _ => true
def clear (d : Nat) (env : Env) : Env := if (get env d).quiet then env else forget d env
def freezeG (r j : Nat) : Chg := ⟨fun r' j' _ l => if r' = r /\ j' = j then l.ro else l, fun a b => a == r && b == j, false, fun _ => false⟩
def freeze (r j : Nat) (env : Env) : Env :=
 match (get env r).leaf? j with
 | none => env
 | some l => if l.m.own then
   let env1 := chgEnv (freezeG r j) env
   put env1 r ((get env1 r).setLeaf j l.ro)
  else env
def freezeAll : List Leaf -> Env -> Env
 | [], env => env
 | l :: r, env => match l.m with
  | .bor r' j _ => freezeAll r (freeze r' j env)
  | _ => freezeAll r env
def killG (s : Nat) : Chg := ⟨fun r _ _ l => if r = s then l.lost else l, fun r _ => r == s, true, fun r => r == s⟩
def killRoot (s : Nat) (env : Env) : Env := put (chgEnv (killG s) env) s .undef
def killPG (r j : Nat) : Chg := ⟨fun r' j' _ l => if r' = r /\ j' = j then l.lost else l, fun a b => a == r && b == j, true, fun _ => false⟩
def killPlace (r j : Nat) (env : Env) : Env := chgEnv (killPG r j) env
def Leaf.refs (l : Leaf) : List (Nat × Nat) := match l.m with | .bor r j _ => [(r, j)] | _ => []
def AV.refs : AV -> List (Nat × Nat)
 | .con _ ls => ls.flatMap Leaf.refs
 | .eptr ls wr => ls.flatMap Leaf.refs ++ (match wr with | some w => [(w.1, w.2.1)] | none => [])
 | .grow r j _ _ _ => [(r, j)]
 | .sel r j _ _ _ _ _ => [(r, j)]
 | _ => []
def AV.ptrs : AV -> List Nat
 | .path r _ => [r]
 | .clo _ caps => caps.map (·.1)
 | .fptr _ caps => capRoots caps
 | .cloS _ caps => capRoots caps
 | _ => []
def lookM : List (Nat × Nat × Leaf) -> Nat -> Nat -> Option Leaf
 | [], _, _ => none
 | (r, j, n) :: L, r', j' => if r' = r /\ j' = j then some n else lookM L r' j'
def syncsG (L : List (Nat × Nat × Leaf)) : Chg := ⟨fun r j p l => match lookM L r j with
  | some n => (match p with | [] => ⟨n.t, n.x, l.m⟩ | _ => l.lost)
  | none => l, fun a b => (lookM L a b).isSome, true, fun _ => false⟩
def renewLs (L : List (Nat × Nat × Leaf)) (r : Nat) : Nat -> List Leaf -> List Leaf
 | _, [] => []
 | j, l :: ls => (lookM L r j).getD l :: renewLs L r (j + 1) ls
def AV.renew (L : List (Nat × Nat × Leaf)) (r : Nat) : AV -> AV
 | .con k ls => .con k (renewLs L r 0 ls)
 | v => v
def renewEnv (L : List (Nat × Nat × Leaf)) : Nat -> Env -> Env
 | _, [] => []
 | r, v :: env => v.renew L r :: renewEnv L (r + 1) env
def syncs (L : List (Nat × Nat × Leaf)) (env : Env) : Env := renewEnv L 0 (chgEnv (syncsG L) env)
def syncG (r j : Nat) (n : Leaf) : Chg := ⟨fun r' j' p l => if r' = r /\ j' = j then (match p with | [] => ⟨n.t, n.x, l.m⟩ | _ => l.lost) else l, fun a b => a == r && b == j, true, fun _ => false⟩
def syncPlace (r j : Nat) (n : Leaf) (env : Env) : Env :=
 let env1 := chgEnv (syncG r j n) env
 put env1 r ((get env1 r).setLeaf j n)
def borrowFrom (s : Nat) : Nat -> List Leaf -> List Leaf
 | _, [] => []
 | n, l :: r => (if l.m.own then ⟨l.t, l.x, .bor s n []⟩ else l) :: borrowFrom s (n + 1) r
def constLeaves : (t : Ty) -> List Value -> Option (List Leaf × List Value)
 | .unit, cs => some ([], cs)
 | .pair a b, cs => match constLeaves a cs with
  | some (x, r) => match constLeaves b r with
   | some (y, r') => some (x ++ y, r')
   | none => none
  | none => none
 | .int k, cs => match cs with
  | .int k' n :: r => if k' = k then some ([⟨.int k, n, .at_ .ro⟩], r) else none
  | _ => none
 | .bool, cs => match cs with
  | .bool b :: r => some ([⟨.bool, b, .at_ .ro⟩], r)
  | _ => none
 | .str, cs => match cs with
  | .string s :: r => some ([⟨.str, s, .at_ .ro⟩], r)
  | _ => none
 | .slice e t, cs => match cs with
  | .slice none 0 0 :: r => some ([⟨.slice e t, [], .at_ .dp⟩], r)
  | _ => none
def Value.isAgg' : Value -> Bool
 | .agg _ => true
 | _ => false
def mkCon (agg : Bool) (ls : List Leaf) : AV := .con (if agg then .agg else .val) ls
def constAV (ty : Option Ty) (v : Value) : AV := match ty with
 | none => .undef
 | some t => match constLeaves t v.cells.toList with
  | some (ls, []) => if t.isAgg == Value.isAgg' v then mkCon t.isAgg ls else .undef
  | _ => .undef
def rd (ty : Option Ty) (env : Env) : Operand -> AV
 | .tmp s => match get env s with
  | .con .val ls => .con .val (borrowFrom s 0 ls)
  | .con .agg ls => .con .agg (borrowFrom s 0 ls)
  | .con (.box _) _ => .path s 0
  | .con (.tup sh) ls => .con (.tup sh) (borrowFrom s 0 ls)
  | .con (.tupB _ _ _) _ => .undef
  | .grow _ _ _ _ _ => .undef
  | .sel _ _ _ _ _ _ _ => .undef
  | .part _ _ _ _ => .undef
  | .eown _ => .undef
  | .junk => .undef
  | v => v
 | .const v => match v with
  | .int k n => .con .val [⟨.int k, n, .at_ .ro⟩]
  | .bool b => .con .val [⟨.bool, b, .at_ .ro⟩]
  | .string s => .con .val [⟨.str, s, .at_ .ro⟩]
  | v => constAV ty v
 | .func f => .clo f []
 | .global _ => .undef
def pull (s q : Nat) (env : Env) : Env := match (get env s).leaf? q with
 | some ⟨t, x, .bor r j []⟩ => match (get env r).leaf? j with
  | some lp => match lp.m with
   | .at_ lv => if lv ≠ .ro /\ s ≠ r then
     let e1 := killPlace r j env
     let e2 := put e1 r ((get e1 r).setLeaf j ⟨lp.t, lp.x, .dead⟩)
     put e2 s ((get e2 s).setLeaf q ⟨t, x, .at_ lv⟩)
    else env
   | _ => env
  | none => env
 | _ => env
def pulls (s : Nat) : Nat -> Env -> Env
 | 0, env => env
 | n + 1, env => pull s n (pulls s n env)
def pullAll (x : Operand) (env : Env) : Env := match x with
 | .tmp s => match get env s with
  | .con k ls => if k.plain then pulls s ls.length env else env
  | _ => env
 | _ => env
def takeIn0 (ty : Option Ty) (env : Env) (x : Operand) : Option (Env × AV) :=
 match x with
 | .tmp s => match get env s with
  | .con k ls =>
   if k.plain then
    let env1 := freezeAll ls env
    match get env1 s with
    | .con k' ls1 =>
     if k' = k /\ (ls1.all fun l => l.m.settled) then
      some (if ls1.any (fun l => l.m.own) then killRoot s env1 else env1, .con k ls1)
     else none
    | _ => none
   else none
  | .undef => none
  | .grow _ _ _ _ _ => none
  | .sel _ _ _ _ _ _ _ => none
  | .part _ _ _ _ => none
  | .eown _ => none
  | .junk => none
  | v => some (env, v)
 | x => some (env, rd ty env x)
def takeIn (ty : Option Ty) (env : Env) (x : Operand) : Option (Env × AV) := takeIn0 ty (pullAll x env) x
def takeAs (t : Ty) (env : Env) (x : Operand) : Option (Env × List Leaf) :=
 match takeIn (some t) env x with
 | some (env', .con k ls) => if typedAs ls t && decide (k = t.kind) then some (env', ls) else none
 | _ => none
structure TE where
 id : TypeId
 ty : Ty
 bytes : Nat
 fields : List (Nat × TypeId)
 fn : Bool := false               -- a type of functions
 eq : Bool := false               -- structs of this type are compared
abbrev Tab := List TE
def Tab.te (T : Tab) (t : TypeId) : Option TE := match T with
 | [] => none
 | e :: r => if e.id = t /\ e.fn = false then some e else Tab.te r t
def Tab.isFn (T : Tab) (t : TypeId) : Bool := match T with
 | [] => false
 | e :: r => e.fn && decide (e.id = t) || Tab.isFn r t
def Tab.ty (T : Tab) (t : TypeId) : Option Ty := match T.te t with | some e => some e.ty | none => none
def fieldAt (T : Tab) (s : TypeId) (f : Nat) : Option (Nat × Ty) :=
 match T.te s with
 | some e => match e.fields[f]? with
  | some (off, ft) => match T.ty ft with
   | some t => if t.sz = 0 \/ e.ty.isAgg = false then none else some (off, t)
   | none => none
  | none => none
 | none => none
def elemAt (T : Tab) (t : TypeId) : Option TE :=
 match T.ty t with
 | some (.slice e τ) => match T.te e with
  | some te => if te.ty = τ /\ 0 < τ.sz /\ 0 < te.bytes then some te else none
  | none => none
 | _ => none
inductive RCap where
 | ro (x : Σ t : Ty, t.D)
 | pin
 | self
inductive RV where
 | val (t : Ty) (x : t.D)
 | ptr (t : Ty) (x : t.D)
 | clo (f : FuncId) (caps : List (Σ t : Ty, t.D))
 | fptr (f : FuncId) (caps : List RCap)
inductive PTy where
 | val (t : Ty)
 | ptr (t : Ty)
 | clo
 | self
 deriving DecidableEq, Inhabited
inductive Slot where
 | fx | dp | sh | ro
 deriving DecidableEq, Inhabited
structure BoxSig where
 k : Nat
 id : TypeId
 lv : List Slot
 deriving DecidableEq
def slotAt : List Slot -> Nat -> Slot
 | [], _ => .ro
 | s :: _, 0 => s
 | _ :: r, n + 1 => slotAt r n
def nthL {α : Type} : List α -> Nat -> Option α
 | [], _ => none
 | a :: _, 0 => some a
 | _ :: r, n + 1 => nthL r n
def dropAt {α : Type} : Nat -> List α -> List α
 | _, [] => []
 | 0, _ :: r => r
 | n + 1, a :: r => a :: dropAt n r
def Slot.mode : Slot -> Mode
 | .dp => .at_ .dp
 | .sh => .at_ .sh
 | _ => .at_ .ro
def BoxSig.md (b : BoxSig) (n : Nat) : Mode := (slotAt b.lv n).mode
def Slot.isFx : Slot -> Bool
 | .fx => true
 | _ => false
structure Sig where
 params : List PTy
 results : List (Ty × Lvl)      -- dp: all of it is new; sh: its outer rows are; ro: nothing is
 muts : Bool := false             -- argument 0 is written: its new value comes first among the results (and these are flat)
 own : Bool := false              -- with muts: argument 0 is taken over, what comes back is the caller's own; without: what comes back is a new row of the argument's elements
 box : Option BoxSig := none      -- a variable that is handed as a pointer is written: its new content comes first among the results
 newb : Option TypeId := none     -- the result is a pointer to a new variable of that type; nothing in it is owned
 give : Option Nat := none        -- with own, without muts: that argument (a row, wholly the caller's own) is given for good; the results are wholly the caller's own
 deriving DecidableEq
structure OrcRes where
 α : Type
 run : Option α
 pk : α -> List (Σ t : Ty, t.D)
abbrev Orc := FuncId -> List RV -> Option OrcRes
def ptrOf (env : Env) (t : Ty) (r off : Nat) : Option t.D :=
 match off, get env r with
 | 0, .con (.box _) ls => match asm t ls with
  | some (x, []) => if ls.all (fun l => l.m.settled) then some x else none
  | _ => none
 | _, _ => none
def capsOf (env : Env) : List (Nat × Nat) -> List Ty -> Option (List (Σ t : Ty, t.D))
 | [], [] => some []
 | (r, off) :: cs, t :: ts => match ptrOf env t r off, capsOf env cs ts with
  | some x, some xs => some (⟨t, x⟩ :: xs)
  | _, _ => none
 | _, _ => none
def RVof (caps : FuncId -> List Ty) (env : Env) (p : PTy) (v : AV) : Option RV :=
 match p, v with
 | .val t, .con k ls => if decide (k = t.kind) && ls.all (fun l => l.m.live) then match asm t ls with
   | some (x, []) => some (.val t x)
   | _ => none
  else none
 | .ptr t, .path r off => match ptrOf env t r off with | some x => some (.ptr t x) | none => none
 | .ptr t, .eptr ls none => if ls.all (fun l => l.m.live) then match asm t ls with
   | some (x, []) => some (.ptr t x)
   | _ => none
  else none
 | .clo, .cloR f xs => some (.clo f xs)
 | .clo, .clo f cs => match capsOf env cs (caps f) with | some xs => some (.clo f xs) | none => none
 | _, _ => none
def PTy.ty? : PTy -> Option Ty
 | .val t => some t
 | _ => none
def RVs (caps : FuncId -> List Ty) (env : Env) : List PTy -> List AV -> Option (List RV)
 | [], [] => some []
 | p :: ps, v :: vs => match RVof caps env p v, RVs caps env ps vs with
  | some x, some xs => some (x :: xs)
  | _, _ => none
 | _, _ => none
def rdArgs (env : Env) : List PTy -> List Operand -> List AV
 | p :: ps, x :: xs => rd p.ty? env x :: rdArgs env ps xs
 | _, _ => []
def Lvl.res : Lvl -> Lvl
 | .dp => .dp
 | .sh => .sh
 | _ => .ro
def newMode (fresh : Lvl) : Nat -> Mode := fun _ => .at_ fresh.res
def Lvl.asks (fr : Lvl) (l : Leaf) : Bool := match l.t with
 | .slice _ _ => (match fr with
  | .dp => l.m == .at_ .dp
  | .sh => l.m == .at_ .dp || l.m == .at_ .sh
  | _ => true)
 | _ => true
def upgM (t : Ty) (m : Mode) : Mode := match t with
 | .slice _ te => if te.flatB && m == .at_ .sh then .at_ .dp else m
 | _ => m
def Leaf.upg (l : Leaf) : Leaf := ⟨l.t, l.x, upgM l.t l.m⟩
def resLeaves : List (Ty × Lvl) -> List (Σ t : Ty, t.D) -> Option (List (Bool × Nat) × List Leaf)
 | [], [] => some ([], [])
 | (t, fr) :: ps, x :: xs => if h : x.1 = t then
   match resLeaves ps xs with
   | some (sh, ls) => some ((t.isAgg, t.sz) :: sh, (leaves t (h ▸ x.2) (newMode fr) 0).map Leaf.upg ++ ls)
   | none => none
  else none
 | _, _ => none
def resAV (rs : List (Ty × Lvl)) (xs : List (Σ t : Ty, t.D)) : Option AV :=
 match resLeaves rs xs with
 | some (sh, ls) => match sh with
  | [(agg, _)] => some (mkCon agg ls)
  | _ => some (.con (.tup sh) ls)
 | none => none
def freezeArgs (rs : List (Ty × Lvl)) : List AV -> Env -> Env
 | [], env => env
 | v :: vs, env => freezeArgs rs vs (match v with
  | .con _ ls => freezeAll ls env
  | _ => env)
def allCon : List AV -> Bool
 | [] => true
 | .con _ _ :: r => allCon r
 | _ :: _ => false
def allFresh : List (Ty × Lvl) -> Bool
 | [] => true
 | (t, fr) :: r => (fr == .dp || t.flatB) && allFresh r
def updLeafD : (t : Ty) -> t.D -> Nat -> Leaf -> Option t.D
 | .unit, _, _, _ => none
 | .pair a b, x, n, l => if n < a.sz then (match updLeafD a x.1 n l with | some y => some (y, x.2) | none => none)
   else (match updLeafD b x.2 (n - a.sz) l with | some y => some (x.1, y) | none => none)
 | .int k, _, n, l => if n = 0 then l.as (.int k) else none
 | .bool, _, n, l => if n = 0 then l.as .bool else none
 | .str, _, n, l => if n = 0 then l.as .str else none
 | .slice e t, _, n, l => if n = 0 then l.as (.slice e t) else none
def updLeavesD (t : Ty) : t.D -> Nat -> List Leaf -> Option t.D
 | x, _, [] => some x
 | x, n, l :: ls => match updLeafD t x n l with
  | some y => updLeavesD t y (n + 1) ls
  | none => none
section
variable {R : Type} (T : Tab) (sig : FuncId -> Option Sig) (caps : FuncId -> List Ty) (orc : Orc)
def int1 (v : AV) : Option (IntKind × Int) := match v with
 | .con .val [⟨.int k, n, .at_ _⟩] => some (k, n)
 | _ => none
def bool1 (v : AV) : Option Bool := match v with
 | .con .val [⟨.bool, b, .at_ _⟩] => some b
 | _ => none
def str1 (v : AV) : Option ByteArray := match v with
 | .con .val [⟨.str, s, .at_ _⟩] => some s
 | _ => none
def vInt (k : IntKind) (n : Int) : AV := .con .val [⟨.int k, n, .at_ .ro⟩]
def vBool (b : Bool) : AV := .con .val [⟨.bool, b, .at_ .ro⟩]
def vStr (s : ByteArray) : AV := .con .val [⟨.str, s, .at_ .ro⟩]
def setD (dst : Option Nat) (env : Env) (v : AV) : Env := match dst with
 | some d => if (get env d).quiet then put env d v else put (forget d env) d (v.chg (forgetG d))
 | none => env
def intOp (op : BinOp) (k : IntKind) (a b : Int) (K : AV -> Option R) : Option R :=
 match op with
 | .add => K (vInt k (k.wrap (a + b)))
 | .sub => K (vInt k (k.wrap (a - b)))
 | .mul => K (vInt k (k.wrap (a * b)))
 | .quo => bif decide (b = 0) then none else K (vInt k (k.wrap (a.tdiv b)))
 | .rem => bif decide (b = 0) then none else K (vInt k (a.tmod b))
 | .and => K (vInt k (k.wrap ((BitVec.ofInt k.bits a &&& BitVec.ofInt k.bits b).toNat : Int)))
 | .xor => K (vInt k (k.wrap ((BitVec.ofInt k.bits a ^^^ BitVec.ofInt k.bits b).toNat : Int)))
 | .or => K (vInt k (k.wrap ((BitVec.ofInt k.bits a ||| BitVec.ofInt k.bits b).toNat : Int)))
 | .shr => bif decide (b < 0) then none else K (vInt k (a.fdiv (2 ^ (min b.toNat k.bits))))
 | .shl => bif decide (b < 0) then none else K (vInt k (k.wrap (a * 2 ^ (min b.toNat k.bits))))
 | .eql => K (vBool (a == b))
 | .neq => K (vBool (a != b))
 | .lss => K (vBool (decide (a < b)))
 | .leq => K (vBool (decide (a <= b)))
 | .gtr => K (vBool (decide (a > b)))
 | .geq => K (vBool (decide (a >= b)))
 | _ => none
def shiftOp (op : BinOp) (k : IntKind) (a b : Int) (K : AV -> Option R) : Option R :=
 match op with
 | .shr => bif decide (b < 0) then none else K (vInt k (a.fdiv (2 ^ (min b.toNat k.bits))))
 | .shl => bif decide (b < 0) then none else K (vInt k (k.wrap (a * 2 ^ (min b.toNat k.bits))))
 | _ => none
def strOp (op : BinOp) (a b : ByteArray) (K : AV -> Option R) : Option R :=
 match op with
 | .add => bif decide (a.size + b.size <= 140737488355328) then K (vStr (a ++ b)) else none
 | .eql => K (vBool (a.toList == b.toList))
 | .neq => K (vBool (!(a.toList == b.toList)))
 | .lss => K (vBool (Op.bytesLess a.toList b.toList))
 | .geq => K (vBool (!(Op.bytesLess a.toList b.toList)))
 | _ => none
def aggOp (op : BinOp) (t : TypeId) (x y : AV) (K : AV -> Option R) : Option R := (fun _ => none) T
def binOp1 (op : BinOp) (t : TypeId) (x y : AV) (K : AV -> Option R) : Option R :=
 match int1 x, int1 y with
 | some (k, a), some (k', b) => if k = k' then intOp op k a b K else shiftOp op k a b K
 | _, _ => match str1 x, str1 y with
  | some a, some b => strOp op a b K
  | _, _ => match bool1 x, bool1 y with
   | some a, some b => match T.ty t with
    | some .bool => match op with
     | .eql => K (vBool (a == b))
     | .neq => K (vBool (!(a == b)))
     | _ => none
    | _ => none
   | _, _ => aggOp T op t x y K
def unOp1 (op : UnOp) (x : AV) (K : AV -> Option R) : Option R :=
 match op with
 | .not => match bool1 x with | some b => K (vBool (!b)) | none => none
 | .neg => match int1 x with | some (k, a) => K (vInt k (k.wrap (0 - a))) | none => none
 | _ => none
def setLeaves (ls : List Leaf) (off : Nat) : List Leaf -> List Leaf
 | [] => ls
 | l :: r => setLeaves (setAt ls off l) (off + 1) r
def buildParts (s : TypeId) : Env -> List Leaf -> List (Nat × Operand) -> Option (Env × List Leaf)
 | env, ls, [] => some (env, ls)
 | env, ls, (f, x) :: r => match fieldAt T s f with
  | some (off, t) => match takeAs t env x with
   | some (env', l) => if off + l.length <= ls.length then buildParts s env' (setLeaves ls off l) r else none
   | none => none
  | none => none
def allDeep (ls : List Leaf) : Bool := ls.all fun l => (match l.t with | .slice _ _ => l.m == .at_ .dp | _ => true)
def elemParts (t : Ty) : Env -> Nat -> List (Nat × Operand) -> Option (Env × List t.D × Bool)
 | env, _, [] => some (env, [], true)
 | env, n, (i, x) :: r => if i = n then
   match takeAs t env x with
   | some (env', l) => match asm t l with
    | some (v, []) => match elemParts t env' (n + 1) r with
     | some (env'', vs, d) => some (env'', v :: vs, allDeep l && d)
     | none => none
    | _ => none
   | none => none
  else none
def nestP (z : Nat) : List (Int × Nat) -> List (Int × Nat)
 | [] => []
 | [q] => [q, (0, z)]
 | p => (0, 0) :: p
def elemMode (m : Mode) (i : Int) : Nat -> Mode := fun o => match m with
 | .bor r l p => .bor r l (p ++ [(i, o)])
 | _ => .at_ .ro
def dropLs : Nat -> List Leaf -> List Leaf
 | 0, ls => ls
 | _ + 1, [] => []
 | n + 1, _ :: r => dropLs n r
def takeLs : Nat -> List Leaf -> List Leaf
 | 0, _ => []
 | _ + 1, [] => []
 | n + 1, l :: r => l :: takeLs n r
def giveUp (r : Nat) : Nat -> List Leaf -> Env -> Env
 | _, [], env => env
 | j, l :: ls, env => giveUp r (j + 1) ls (if l.m.own then freeze r j env else env)
def growOf (env : Env) : Operand -> Option (Nat × Nat × Nat × Int × Nat × Leaf) := fun _ => none
def storeGrow (s r j : Nat) (i : Int) (o : Nat) (l : Leaf) (a : Operand) (env : Env) (K : Env -> Option R) : Option R :=
 match rd none env a with
 | .eptr _ (some (r', j', [], i', o')) => if r' = r /\ (j' = j /\ o' = o) then
   match (get env r).leaf? j with
   | some ⟨.slice e te, xs, .at_ lv⟩ =>
    if lv.deep then
     bif decide (i' = i) && (decide (0 <= i') && decide (i' < (xs.length : Int))) then
      match updLeafD te (xs.getD i'.toNat te.dflt) o l with
      | some y => K (syncPlace r j ⟨.slice e te, xs.set i'.toNat y, .at_ lv⟩ (put env s .undef))
      | none => none
     else none
    else none
   | _ => none
  else none
 | _ => none
def leafD : (t : Ty) -> t.D -> Nat -> Option (Σ t : Ty, t.D)
 | .unit, _, _ => none
 | .pair a b, x, n => if n < a.sz then leafD a x.1 n else leafD b x.2 (n - a.sz)
 | .slice e t, x, n => if n = 0 then some ⟨.slice e t, x⟩ else none
 | .int k, x, n => if n = 0 then some ⟨.int k, x⟩ else none
 | .bool, x, n => if n = 0 then some ⟨.bool, x⟩ else none
 | .str, x, n => if n = 0 then some ⟨.str, x⟩ else none
def storeNest (r j : Nat) (i0 : Int) (o0 : Nat) (i1 : Int) (z : Nat) (i : Int) (o : Nat) (ls : List Leaf) (env1 : Env) (K : Env -> Option R) : Option R :=
 match (get env1 r).leaf? j with
 | some ⟨.slice e te, xs, .at_ lv⟩ =>
  if lv.deep = true /\ (!ls.isEmpty && ls.all fun l => !l.t.isAgg && l.t.flatB) = true then
   match leafD te (xs.getD i0.toNat te.dflt) o0 with
   | some ⟨.slice e' t', ys⟩ => if i1 = 0 /\ t'.sz = z then
     match updLeavesD t' (ys.getD i.toNat t'.dflt) o ls with
     | some y => match updLeafD te (xs.getD i0.toNat te.dflt) o0 ⟨.slice e' t', ys.set i.toNat y, .at_ .dp⟩ with
      | some x => K (syncPlace r j ⟨.slice e te, xs.set i0.toNat x, .at_ lv⟩ env1)
      | none => none
     | none => none
    else none
   | _ => none
  else none
 | _ => none
def storePlain (t : TypeId) (a v : Operand) (env : Env) (K : Env -> Option R) : Option R :=
 match T.ty t with
 | none => none
 | some τ => match takeAs τ env v with
  | none => none
  | some (env1, ls) => match rd none env1 a with
   | .path r off => match get env1 r with
    | .con (.box _) old =>
     if off + τ.sz <= old.length /\ ((takeLs τ.sz (dropLs off old)).map Leaf.t) = flat τ then
      let env2 := giveUp r off (takeLs τ.sz (dropLs off old)) env1
      match get env2 r with
      | .con (.box e) old2 => if (off + τ.sz <= old2.length /\ ((takeLs τ.sz (dropLs off old2)).all fun l => !l.m.own) = true) /\ e.free off τ.sz = true then K (put env2 r (.con (.box e) (setLeaves old2 off ls))) else none
      | _ => none
     else none
    | _ => none
   | .eptr _ (some (r, j, [], i, o)) => match (get env1 r).leaf? j with
    | some ⟨.slice e te, xs, .at_ lv⟩ =>
     if lv.deep = true /\ (!ls.isEmpty && ls.all fun l => !l.t.isAgg && (l.t.flatB || l.m == .at_ .dp)) = true then
      bif decide (0 <= i) && decide (i < (xs.length : Int)) then
       match updLeavesD te (xs.getD i.toNat te.dflt) o ls with
       | some y => K (syncPlace r j ⟨.slice e te, xs.set i.toNat y, .at_ lv⟩ env1)
       | none => none
      else none
     else none
    | _ => none
   | .eptr _ (some (r, j, [(i0, o0), (i1, z)], i, o)) => storeNest r j i0 o0 i1 z i o ls env1 K
   | _ => none
def storeFn (_t : TypeId) (a v : Operand) (env : Env) (K : Env -> Option R) : Option R :=
 match rd none env a, rd none env v with
 | .path s 0, .clo f cs => match get env s with
  | .con (.box _) [⟨_, _, .dead⟩] => if (cs.all fun c => !(c.1 == s) || c.2 == 0) = true then
    K (put (killRoot s env) s (.fptr f (cs.map fun c => if c.1 = s then .self else .path c.1 c.2)))
   else none
  | _ => none
 | _, _ => none
def store1 (t : TypeId) (a v : Operand) (env : Env) (K : Env -> Option R) : Option R :=
 if T.isFn t then storeFn t a v env K else match growOf env v with
 | some (s, r, j, i, o, l) => if T.ty t = some l.t then storeGrow s r j i o l a env K else none
 | none => storePlain T t a v env K
def appendTo (te : TE) (lv : Lvl) (s x : List te.ty.D) (K : Leaf -> Option R) : Option R :=
 bif decide ((s.length + x.length) * te.bytes <= 140737488355328) then K ⟨.slice te.id te.ty, s ++ x, .at_ lv⟩ else none
def grabS (ty : Ty) (env : Env) (s : Operand) : Option (Env × AV) :=
 match s with
 | .tmp ts => match get env ts with
  | .con .val [⟨t, x, .bor r j []⟩] => match (get env r).leaf? j with
   | some lp => match lp.m with
    | .at_ .ro => none
    | .at_ lv => some (put (killPlace r j env) r ((get (killPlace r j env) r).setLeaf j ⟨lp.t, lp.x, .dead⟩), .con .val [⟨t, x, .at_ lv⟩])
    | _ => none
   | none => none
  | _ => takeIn (some ty) env s
 | _ => takeIn (some ty) env s
def appendS (dst : Option Nat) (te : TE) (s : Operand) (xs : List te.ty.D) (deep : Bool) (env : Env) (K : Env -> Option R) : Option R :=
 match grabS (.slice te.id te.ty) env s with
 | some (env2, .con .val [l]) => match l.as (.slice te.id te.ty) with
  | some ss => match l.m with
   | .at_ .dp => appendTo te (if deep then .dp else .sh) ss xs fun l => K (setD dst env2 (.con .val [l]))
   | .at_ .sh => appendTo te .sh ss xs fun l => K (setD dst env2 (.con .val [l]))
   | _ => none
  | none => none
 | _ => none
def nestOf (env : Env) : Operand -> Option (Nat × Nat × Int × Nat) := fun _ => none
def appendN (dst : Nat) (te : TE) (r j : Nat) (i : Int) (o : Nat) (x : Operand) (env : Env) (K : Env -> Option R) : Option R :=
 match rd (some (.slice te.id te.ty)) env x with
 | .con .val [lx] => match lx.as (.slice te.id te.ty) with
  | some xs => if lx.m.live /\ te.ty.flatB = true then
    match (get env r).leaf? j with
    | some ⟨.slice e t', ys, .at_ lv⟩ =>
     if lv.deep then
      bif decide (0 <= i) && decide (i < (ys.length : Int)) then
       match leafD t' (ys.getD i.toNat t'.dflt) o with
       | some q => match (⟨q.1, q.2, .at_ .dp⟩ : Leaf).as (.slice te.id te.ty) with
        | some row => appendTo te .dp row xs fun l => K (setD (some dst) (syncPlace r j ⟨.slice e t', ys, .at_ lv⟩ env) (.grow r j i o l))
        | none => none
       | none => none
      else none
     else none
    | _ => none
   else none
  | none => none
 | _ => none
def append1 (dst : Option Nat) (t : TypeId) (s x : Operand) (env : Env) (K : Env -> Option R) : Option R :=
 match elemAt T t with
 | none => none
 | some te =>
  if te.ty.flatB then
   match rd (some (.slice te.id te.ty)) env x with
   | .con .val [lx] => match lx.as (.slice te.id te.ty) with
    | some xs => if lx.m.live then appendS dst te s xs true env K else none
    | none => none
   | _ => none
  else match takeIn (some (.slice te.id te.ty)) env x with
   | some (env1, .con .val [lx]) => match lx.as (.slice te.id te.ty) with
    | some xs => appendS dst te s xs (decide (lx.m = .at_ .dp)) env1 K
    | none => none
   | _ => none
def tupOff : List (Bool × Nat) -> Nat -> Option (Nat × Bool × Nat)
 | [], _ => none
 | (a, n) :: _, 0 => some (0, a, n)
 | (_, n) :: r, i + 1 => match tupOff r i with | some (o, q) => some (n + o, q) | none => none
def Leaf.spent (l : Leaf) : Leaf := ⟨l.t, l.x, if l.m.own then .dead else l.m⟩
def spendLs : Nat -> List Leaf -> List Leaf
 | _, [] => []
 | 0, ls => ls
 | n + 1, l :: ls => l.spent :: spendLs n ls
def killLeaves : List Leaf -> Nat -> Nat -> List Leaf
 | ls, 0, n => spendLs n ls
 | [], _ + 1, _ => []
 | l :: ls, off + 1, n => l :: killLeaves ls off n
def allFlat : List (Ty × Lvl) -> Bool
 | [] => true
 | (t, _) :: r => t.flatB && allFlat r
def mutSet (env : Env) : List Leaf -> List Leaf -> Option (List (Nat × Nat × Leaf))
 | [], [] => some []
 | l :: ls, n :: ns => match mutSet env ls ns with
  | none => none
  | some L => if l.t.flatB then (if l.m.live then some L else none) else match l.m with
   | .bor r j [] => match (get env r).leaf? j with
    | some ⟨_, _, .at_ lv⟩ => if lv.deep = true /\ (lookM L r j).isNone = true then some ((r, j, ⟨n.t, n.x, .at_ lv⟩) :: L) else none
    | _ => none
   | _ => none
 | _, _ => none
def mutOf (env : Env) (ls ns : List Leaf) : Option (List (Nat × Nat × Leaf)) := mutSet env ls ns
def argNow (env : Env) (ls : List Leaf) : Option (List Leaf) := some ls
def apart (qs : List (Nat × Nat)) (v : AV) : Bool :=
 (v.refs.all fun q => qs.all fun q' => !(q.1 == q'.1 && q.2 == q'.2)) && (v.ptrs.all fun r => qs.all fun q' => !(r == q'.1))
def callM (dst : Option Nat) (f : FuncId) (sg : Sig) (args : List Operand) (extra : List AV) (env : Env) (K : Env -> Option R) : Option R :=
 match sg.params, args with
 | .val t :: ps, a0 :: as => match rd (some t) env a0 with
  | .con k ls =>
   let vs := rdArgs env ps as ++ extra
   if (k = t.kind /\ typedAs ls t = true) /\ (vs.length = ps.length /\ vs.length = as.length + extra.length) /\ (allFlat sg.results = true /\ vs.all (apart (ls.flatMap Leaf.refs)) = true) then
    match (argNow env ls).bind (asm t) with
    | some (x, []) => match RVs caps env ps vs with
     | none => none
     | some rvs => match orc f (.val t x :: rvs) with
      | none => none
      | some q => q.run.bind fun xs => match q.pk xs with
       | [] => none
       | y :: ys => if h : y.1 = t then match mutOf env ls (leaves t (h ▸ y.2) (fun _ => .at_ .dp) 0) with
         | none => none
         | some L => match resAV sg.results ys with
          | none => none
          | some v => K (setD dst (syncs L env) v)
        else none
    | _ => none
   else none
  | _ => none
 | _, _ => none
def callO (dst : Option Nat) (f : FuncId) (sg : Sig) (args : List Operand) (extra : List AV) (env : Env) (K : Env -> Option R) : Option R :=
 match sg.params, args with
 | .val t :: ps, a0 :: as => match grabS t env a0 with
  | some (env2, .con .val [l]) => match l.as t with
   | some x =>
    let vs := rdArgs env2 ps as
    if (extra.isEmpty = true /\ l.m = .at_ .dp /\ t.isAgg = false) /\ (vs.length = ps.length /\ vs.length = as.length) /\ (vs.all fun v => v.refs.isEmpty && v.ptrs.isEmpty) = true then
     match RVs caps env2 ps vs with
     | none => none
     | some rvs => match orc f (.val t x :: rvs) with
      | none => none
      | some q => q.run.bind fun zs => match q.pk zs with
       | [y] => if y.1 = t then K (setD dst env2 (.con .val [⟨y.1, y.2, .at_ .dp⟩])) else none
       | _ => none
    else none
   | none => none
  | _ => none
 | _, _ => none
def insN {α : Type} : Nat -> α -> List α -> List α
 | 0, x, l => x :: l
 | k + 1, x, y :: l => y :: insN k x l
 | k + 1, x, [] => [x]
def splitN {α : Type} : Nat -> List α -> Option (α × List α)
 | 0, x :: l => some (x, l)
 | k + 1, y :: l => match splitN k l with
  | some (x, m) => some (x, y :: m)
  | none => none
 | _, [] => none
def frzArgs (vs : List AV) (env : Env) : Env := if allCon vs then freezeArgs [] vs env else env
def callG (k : Nat) (dst : Option Nat) (f : FuncId) (sg : Sig) (args : List Operand) (extra : List AV) (env : Env) (K : Env -> Option R) : Option R :=
 match splitN k sg.params, splitN k args with
 | some (.val t, ps), some (a0, as) => match grabS t (frzArgs (rdArgs env ps as) env) a0 with
  | some (env2, .con .val [l]) => match l.as t with
   | some x =>
    let vs := rdArgs env2 ps as
    if (extra.isEmpty = true /\ l.m = .at_ .dp /\ t.isAgg = false) /\ (vs.length = ps.length /\ vs.length = as.length /\ allFresh sg.results = true) /\ (vs.all fun v => v.refs.isEmpty && v.ptrs.isEmpty) = true then
     match RVs caps env2 ps vs with
     | none => none
     | some rvs => match orc f (insN k (.val t x) rvs) with
      | none => none
      | some q => q.run.bind fun zs => match resAV sg.results (q.pk zs) with
       | none => none
       | some v => K (setD dst env2 v)
    else none
   | none => none
  | _ => none
 | _, _ => none
def callS (dst : Option Nat) (f : FuncId) (sg : Sig) (args : List Operand) (extra : List AV) (env : Env) (K : Env -> Option R) : Option R := (fun _ => none) orc
def boxFits (b : BoxSig) : Nat -> List Leaf -> Bool
 | _, [] => true
 | n, l :: ls => (l.m.settled && (match l.t with
  | .slice _ _ => (slotAt b.lv n).isFx || l.m == b.md n
  | _ => true)) && boxFits b (n + 1) ls
def boxCalm (b : BoxSig) : Nat -> List Leaf -> Bool
 | _, [] => true
 | n, l :: ls => (match l.t with
  | .slice _ _ => (match slotAt b.lv n with
   | .fx => true
   | .dp => true
   | _ => false)
  | _ => true) && boxCalm b (n + 1) ls
def boxFxRo (b : BoxSig) : Nat -> List Leaf -> Bool
 | _, [] => true
 | n, l :: ls => (!(slotAt b.lv n).isFx || !l.m.own) && boxFxRo b (n + 1) ls
def mixLs (b : BoxSig) : Nat -> List Leaf -> List Leaf -> List Leaf
 | n, l :: ls, m :: ms => (if (slotAt b.lv n).isFx then l else m) :: mixLs b (n + 1) ls ms
 | _, _, _ => []
def subFix : List Bool -> List Slot -> Bool
 | [], _ => true
 | f :: fs, [] => !f && subFix fs []
 | f :: fs, s :: ss => (!f || s.isFx) && subFix fs ss
def apartR (r : Nat) (v : AV) : Bool := (v.refs.all fun q => !(q.1 == r)) && v.ptrs.all fun q => !(q == r)
def apartX (r : Nat) (v : AV) : Bool := match v with
 | .fptr _ _ => true
 | v => apartR r v
def bareAV (v : AV) : Bool := v.refs.isEmpty && v.ptrs.isEmpty
def renewG (r : Nat) : Chg := ⟨fun r' _ _ l => if r' = r then l.lost else l, fun a _ => a == r, true, fun _ => false⟩
def renewBox (r : Nat) (k : Kind) (ns : List Leaf) (env : Env) : Env := put (chgEnv (renewG r) env) r (.con k ns)
def capRV (env : Env) (r : Nat) (t : Ty) : Cap -> Option RCap
 | .path r' off => if r' = r then (if off = 0 then some .pin else none) else match ptrOf env t r' off with
  | some x => some (.ro ⟨t, x⟩)
  | none => none
 | .ro x => some (.ro x)
 | .self => some .self
def capRVs (env : Env) (r : Nat) : List Ty -> List Cap -> Option (List RCap)
 | [], [] => some []
 | t :: ts, c :: cs => match capRV env r t c, capRVs env r ts cs with
  | some x, some xs => some (x :: xs)
  | _, _ => none
 | _, _ => none
def RVofX (caps : FuncId -> List Ty) (env : Env) (r : Nat) (p : PTy) (v : AV) : Option RV := match p with
 | .self => match v with
  | .fptr f cs => match capRVs env r (caps f) cs with
   | some xs => some (.fptr f xs)
   | none => none
  | _ => none
 | p => RVof caps env p v
def RVsX (caps : FuncId -> List Ty) (env : Env) (r : Nat) : List PTy -> List AV -> Option (List RV)
 | [], [] => some []
 | p :: ps, v :: vs => match RVofX caps env r p v, RVsX caps env r ps vs with
  | some x, some xs => some (x :: xs)
  | _, _ => none
 | _, _ => none
def callB (dst : Option Nat) (f : FuncId) (sg : Sig) (b : BoxSig) (args : List Operand) (extra : List AV) (env : Env) (K : Env -> Option R) : Option R :=
 let vs := rdArgs env sg.params args ++ extra
 match nthL vs b.k, nthL sg.params b.k with
 | some (.path r 0), some (.ptr t) => match get env r with
  | .con (.box e) ls =>
   if ((e.id = b.id /\ typedAs ls t = true) /\ (boxFits b 0 ls = true /\ subFix e.fix b.lv = true)) /\ (vs.length = sg.params.length /\ vs.length = args.length + extra.length) /\ ((dropAt b.k vs).all (apartX r) = true /\
     ((allFresh sg.results = true /\ boxCalm b 0 ls = true) \/ ((dropAt b.k vs).all bareAV = true /\ boxFxRo b 0 ls = true))) then
    match RVsX caps env r sg.params vs with
    | none => none
    | some rvs => match orc f rvs with
     | none => none
     | some q => q.run.bind fun xs => match q.pk xs with
      | [] => none
      | y :: ys => if h : y.1 = t then match resAV sg.results ys with
        | none => none
        | some v => K (setD dst (renewBox r (.box e) (mixLs b 0 ls (leaves t (h ▸ y.2) b.md 0)) env) v)
       else none
   else none
  | _ => none
 | _, _ => none
def newAV (id : TypeId) (rs : List (Ty × Lvl)) : List (Σ t : Ty, t.D) -> Option AV
 | [] => none
 | y :: ys => match resLeaves rs ys with
  | none => none
  | some (sh, ls) => match rs with
   | [] => some (.con (.box ⟨id, false, []⟩) (leaves y.1 y.2 (fun _ => .at_ .ro) 0))
   | _ :: _ => some (.con (.tupB id y.1.sz sh) (leaves y.1 y.2 (fun _ => .at_ .ro) 0 ++ ls))
def callN (dst : Option Nat) (f : FuncId) (sg : Sig) (id : TypeId) (args : List Operand) (extra : List AV) (env : Env) (K : Env -> Option R) : Option R :=
 let vs := rdArgs env sg.params args ++ extra
 if (vs.length = sg.params.length /\ vs.length = args.length + extra.length) /\ allCon vs = true then
  match RVs caps env sg.params vs with
  | none => none
  | some rvs => match orc f rvs with
   | none => none
   | some q => q.run.bind fun xs => match newAV id sg.results (q.pk xs) with
    | some v => K (setD dst (freezeArgs [] vs env) v)
    | none => none
 else none
def call1 (dst : Option Nat) (f : FuncId) (args : List Operand) (extra : List AV) (env : Env) (K : Env -> Option R) : Option R :=
 match sig f with
 | none => none
 | some sg => match sg.box with
  | some b => callB caps orc dst f sg b args extra env K
  | none => match sg.newb with
  | some id => callN caps orc dst f sg id args extra env K
  | none => match sg.muts with
  | false => if sg.own then (match sg.give with
   | none => callS orc dst f sg args extra env K
   | some k => callG caps orc k dst f sg args extra env K) else
   let vs := rdArgs env sg.params args ++ extra
   if vs.length = sg.params.length /\ vs.length = args.length + extra.length /\ (allFresh sg.results = true \/ allCon vs = true) then
    match RVs caps env sg.params vs with
    | none => none
    | some rvs => match orc f rvs with
     | none => none
     | some q => q.run.bind fun xs => match resAV sg.results (q.pk xs) with
      | none => none
      | some v => K (setD dst (if allFresh sg.results then env else freezeArgs sg.results vs env) v)
   else none
  | true => if sg.own then callO caps orc dst f sg args extra env K else callM caps orc dst f sg args extra env K
def zeros (τ : Ty) : List Leaf := leaves τ τ.dflt (fun _ => .at_ .dp) 0
def sliceOf {α : Type} (x : List α) (lo hi : Option Int) : List α :=
 match lo, hi with
 | none, none => x
 | some a, none => x.drop a.toNat
 | none, some b => x.take b.toNat
 | some a, some b => (x.take b.toNat).drop a.toNat
def optInt (env : Env) : Option Operand -> Option (Option Int)
 | none => some none
 | some x => match int1 (rd none env x) with
  | some (.i64, n) => some (some n)
  | _ => none
def Mode.nested : Mode -> Bool
 | .bor _ _ (_ :: _) => true
 | _ => false
def nestB (env : Env) : Operand -> Bool
 | .tmp s => match get env s with
  | .con (.box _) _ => true
  | .con k ls => k.plain && ((ls.any fun l => l.m.nested) && ls.all fun l => l.m.nested || l.m == .at_ .ro)
  | _ => false
 | _ => false
def ptrAV (x : Σ t : Ty, t.D) : AV := .eptr (leaves x.1 x.2 (fun _ => .at_ .ro) 0) none
def capAV (f : FuncId) (cs : List Cap) : Cap -> AV
 | .path r off => .path r off
 | .ro x => ptrAV x
 | .self => .fptr f cs
def bytesOf (s dt : TypeId) (f : Option Ty -> AV) : Option ByteArray := match T.ty s, T.ty dt with
 | some (.slice e (.int .u8)), some .str => match T.ty e with
  | some (.int .u8) => match f (some (.slice e (.int .u8))) with
   | .con .val [lx] => match lx.as (.slice e (.int .u8)) with
    | some xs => if lx.m.live then some (strOfNums xs) else none
    | none => none
   | _ => none
  | _ => none
 | _, _ => none
def evVal (d : Nat) (o : Oper) (env : Env) (K : Env -> Option R) : Option R :=
 match o.op with
 | .move x => K (setD (some d) env (rd (T.ty o.type) env x))
 | .assign x => if nestB env x then K (setD (some d) env (rd (T.ty o.type) env x)) else match takeIn (T.ty o.type) env x with
  | some (env', v) => K (setD (some d) env' v)
  | none => none
 | .pick c a b => match bool1 (rd none env c) with
  | some t => bif t then K (setD (some d) env (rd (T.ty o.type) env a)) else K (setD (some d) env (rd (T.ty o.type) env b))
  | none => none
 | .alloc e => match T.ty e with
  | some τ => K (setD (some d) env (.con (.box ⟨e, false, []⟩) (zeros τ)))
  | none => if T.isFn e then K (setD (some d) env (.con (.box ⟨e, false, []⟩) [⟨.bool, false, .dead⟩])) else none
 | .box e x => match T.ty e with
  | some τ => match takeAs τ env x with
   | some (env', ls) => K (setD (some d) env' (.con (.box ⟨e, false, []⟩) ls))
   | none => none
  | none => none
 | .build t parts => match T.ty t with
  | some τ => if τ.isAgg then match buildParts T t env (zeros τ) parts.toList with
    | some (env', ls) => K (setD (some d) env' (.con .agg ls))
    | none => none
   else none
  | none => none
 | .buildSlice t n parts => match elemAt T t with
  | some te => if n = parts.size /\ n <= 1000 /\ te.ty.sz <= 1000 then match elemParts te.ty env 0 parts.toList with
    | some (env', xs, dp) => K (setD (some d) env' (.con .val [⟨.slice te.id te.ty, xs, .at_ (if dp then .dp else .sh)⟩]))
    | none => none
   else none
  | none => none
 | .load t a => match T.ty t with
  | some τ => match rd none env a with
   | .path r off => match get env r with
    | .con (.box _) ls =>
     let sub := takeLs τ.sz (dropLs off ls)
     if typedAs sub τ then K (setD (some d) env (mkCon τ.isAgg (borrowFrom r off sub))) else none
    | _ => none
   | .eptr ls _ =>
    let sub := takeLs τ.sz ls
    if typedAs sub τ then K (setD (some d) env (mkCon τ.isAgg sub)) else none
   | _ => none
  | none => if T.isFn t then match rd none env a with
   | .fptr f cs => K (setD (some d) env (.cloS f cs))
   | _ => none
   else none
 | .fieldAddr s x f => match fieldAt T s f with
  | some (off, _) => match rd none env x with
   | .path r o' => K (setD (some d) env (.path r (o' + off)))
   | .eptr ls wr => K (setD (some d) env (.eptr (dropLs off ls) (match wr with | some (r, j, p, i, q) => some (r, j, p, i, q + off) | none => none)))
   | _ => none
  | none => none
 | .field s x f => match fieldAt T s f with
  | some (off, τ) => match rd none env x with
   | .con .agg ls =>
    let sub := takeLs τ.sz (dropLs off ls)
    if typedAs sub τ then K (setD (some d) env (mkCon τ.isAgg sub)) else none
   | _ => none
  | none => none
 | .indexAddr t x i => match elemAt T t with
  | some te => match rd (some (.slice te.id te.ty)) env x, int1 (rd none env i) with
   | .con .val [lx], some (.i64, n) => match lx.as (.slice te.id te.ty) with
    | some xs => if !lx.m.live then none else
      bif decide (0 <= n) && decide (n < (xs.length : Int)) then
       K (setD (some d) env (.eptr (leaves te.ty (xs.getD n.toNat te.ty.dflt) (elemMode lx.m n) 0) (match lx.m with | .bor r j p => some (r, j, nestP te.ty.sz p, n, 0) | _ => none)))
      else none
    | none => none
   | _, _ => none
  | none => none
 | .index t x i => match T.ty t, str1 (rd none env x), int1 (rd none env i) with
  | some .str, some s, some (_, n) => (if 0 <= n then s[n.toNat]? else none).bind fun b => K (setD (some d) env (vInt .u8 b.toNat))
  | _, _, _ => none
 | .extract x i => match x with
  | .tmp s => match get env s with
   | .con (.tup sh) ls => match tupOff sh i with
    | some (off, agg, n) =>
     let sub := takeLs n (dropLs off ls)
     if sub.all (fun l => l.m.live) then
      if sub.any (fun l => l.m.own) then (if ls.all (fun l => l.m.bare) then K (setD (some d) (put (killRoot s env) s (.con (.tup sh) (killLeaves ls off n))) (mkCon agg sub)) else none)
      else K (setD (some d) env (mkCon agg sub))
     else none
    | none => none
   | _ => none
  | _ => none
 | .binOp op t x y _ => binOp1 T op t (rd none env x) (rd none env y) fun v => K (setD (some d) env v)
 | .unOp op _ x => unOp1 op (rd none env x) fun v => K (setD (some d) env v)
 | .convert s dt x => match T.ty s, T.ty dt, int1 (rd none env x) with
  | some (.int _), some (.int k'), some (_, n) => K (setD (some d) env (vInt k' (k'.wrap n)))
  | _, _, _ => match bytesOf T s dt (fun ty => rd ty env x) with
   | some b => K (setD (some d) env (vStr b))
   | none => none
 | .slice t x lo hi mx => match mx with
  | some _ => none
  | none => match optInt env lo, optInt env hi with
   | some a, some b => match str1 (rd none env x) with
    | some s => match T.ty t with
     | some .str => bif decide (0 <= a.getD 0) && (decide (a.getD 0 <= b.getD (s.size : Int)) && decide (b.getD (s.size : Int) <= (s.size : Int))) then
       K (setD (some d) env (vStr (s.extract (a.getD 0).toNat (b.getD (s.size : Int)).toNat)))
      else none
     | _ => none
    | none => match elemAt T t with
     | some te => match rd (some (.slice te.id te.ty)) env x with
      | .con .val [lx] => match lx.as (.slice te.id te.ty) with
       | some xs => if !lx.m.live then none else
         bif decide (0 <= a.getD 0) && (decide (a.getD 0 <= b.getD (xs.length : Int)) && decide (b.getD (xs.length : Int) <= (xs.length : Int))) then
          K (setD (some d) (freezeAll [lx] env) (.con .val [⟨.slice te.id te.ty, sliceOf xs a b, .at_ .ro⟩]))
         else none
       | none => none
      | _ => none
     | none => none
   | _, _ => none
 | .makeSlice t l c => match elemAt T t, int1 (rd none env l), int1 (rd none env c) with
  | some te, some (.i64, n), some (.i64, m) =>
   bif decide (n = m) && (decide (0 <= n) && decide (n * te.bytes <= 140737488355328)) then
    K (setD (some d) env (.con .val [⟨.slice te.id te.ty, List.replicate n.toNat te.ty.dflt, .at_ .dp⟩]))
   else none
  | _, _, _ => none
 | .makeFunc (.func f) first captured =>
  if first.size = 0 then
   match captured.toList.mapM (fun x => match rd none env x with | .path r off => some (r, off) | _ => none) with
   | some cs => K (setD (some d) env (.clo f cs))
   | none => none
  else none
 | .nilCheck x => match rd none env x with
  | .path r off => K (setD (some d) env (.path r off))
  | .clo f cs => K (setD (some d) env (.clo f cs))
  | .cloR f xs => K (setD (some d) env (.cloR f xs))
  | .cloS f cs => K (setD (some d) env (.cloS f cs))
  | .eptr ls wr => K (setD (some d) env (.eptr ls wr))
  | _ => none
 | .call c => match c.callee with
  | .value (.func f) => call1 sig caps orc (some d) f c.args.toList [] env K
  | .value (.tmp t) => match get env t with
   | .clo f cs => call1 sig caps orc (some d) f c.args.toList (cs.map fun c => .path c.1 c.2) env K
   | .cloR f xs => call1 sig caps orc (some d) f c.args.toList (xs.map ptrAV) env K
   | .cloS f cs => call1 sig caps orc (some d) f c.args.toList (cs.map (capAV f cs)) env K
   | _ => none
  | .builtin .len => match c.args.toList, c.argTypes.toList with
   | [x], [t] => match str1 (rd none env x) with
    | some s => match T.ty t with
     | some .str => K (setD (some d) env (vInt .i64 (s.size : Int)))
     | _ => none
    | none => match T.ty t with
     | some (.slice e τ) => match rd (some (.slice e τ)) env x with
      | .con .val [lx] => match lx.as (.slice e τ) with
       | some xs => if lx.m.live then K (setD (some d) env (vInt .i64 (xs.length : Int))) else none
       | none => none
      | _ => none
     | _ => none
   | _, _ => none
  | .builtin .append => match c.args.toList, c.argTypes.toList with
   | [s, x], [t, t'] => if t = t' then (match nestOf env s with
     | some (r, j, i, o) => (match elemAt T t with
      | some te => appendN d te r j i o x env K
      | none => none)
     | none => append1 T (some d) t s x env K) else none
   | _, _ => none
  | .builtin .max => match c.args.toList with
   | [x, y] => match int1 (rd none env x), int1 (rd none env y) with
    | some (k, a), some (k', b) => if k = k' then K (setD (some d) env (vInt k (if b > a then b else a))) else none
    | _, _ => none
   | _ => none
  | .builtin .min => match c.args.toList with
   | [x, y] => match int1 (rd none env x), int1 (rd none env y) with
    | some (k, a), some (k', b) => if k = k' then K (setD (some d) env (vInt k (if b < a then b else a))) else none
    | _, _ => none
   | _ => none
  | _ => none
 | _ => none
def evOp (o : Oper) (env : Env) (K : Env -> Option R) : Option R :=
 match o.dst with
 | some d => if d < env.length then evVal T sig caps orc d o env K else none
 | none => match o.op with
  | .store t a v => store1 T t a v env K
  | _ => none
def skipOp (o : Oper) (env : Env) (K : Env -> Option R) : Option R := match o.dst with
 | some d => if d < env.length then K (setD (some d) env .skip) else none
 | none => K env
def evOps (ops : Array Oper) : List Oper -> Env -> (Env -> Option R) -> Option R
 | [], env, K => K env
 | o :: rest, env, K => match o.guard with
  | none => evOp T sig caps orc o env fun env' => evOps ops rest env' K
  | some (j, want) => match (ops[j]?).bind (·.dst) with
   | none => none
   | some d => match get env d with
    | .skip => skipOp o env fun env' => evOps ops rest env' K
    | .con .val [⟨.bool, b, .at_ .ro⟩] => bif b
      then (if want then evOp T sig caps orc o (put env d (vBool true)) fun env' => evOps ops rest env' K else skipOp o (put env d (vBool true)) fun env' => evOps ops rest env' K)
      else (if want then skipOp o (put env d (vBool false)) fun env' => evOps ops rest env' K else evOp T sig caps orc o (put env d (vBool false)) fun env' => evOps ops rest env' K)
    | _ => none
def tupStep (o : Oper) (d : Nat) (env : Env) : Option Env := match o.op with
 | .move (.tmp s) => match get env s with
  | .con (.tupB id n sh) ls => if (ls.all fun l => l.m.settled) = true then some (setD (some d) (killRoot s env) (.con (.tupB id n sh) ls)) else none
  | _ => none
 | .extract (.tmp s) 0 => match get env s with
  | .con (.tupB id n sh) ls => if (ls.all fun l => l.m.bare) = true /\ ((takeLs n ls).all fun l => l.m == .at_ .ro) = true then
    some (setD (some d) (put (killRoot s env) s (.con (.tup ((false, 1) :: sh)) (⟨.bool, false, .dead⟩ :: dropLs n ls))) (.con (.box ⟨id, false, []⟩) (takeLs n ls)))
   else none
  | _ => none
 | _ => none
def takeStep (o : Oper) (d : Nat) (env : Env) : Option (Bool × Env) := (fun _ _ _ _ => none) T caps o d
def preTup (o : Oper) (env : Env) : Env := match o.op with
 | .extract (.tmp s) (_ + 1) => match get env s with
  | .con (.tupB id n sh) ls => if (ls.all fun l => l.m.bare) = true /\ ((takeLs n ls).all fun l => l.m == .at_ .ro) = true then
    put (killRoot s env) s (.con (.tup ((false, 1) :: sh)) (⟨.bool, false, .dead⟩ :: dropLs n ls))
   else env
  | _ => env
 | _ => env
def selStep (o : Oper) (env : Env) : Option (Bool × Env) := match o.guard, o.dst with
 | none, some d => if d < env.length then (match tupStep o d env with
  | some env' => some (true, env')
  | none => takeStep T caps o d env) else none
 | _, _ => none
def evOpsS (ops : Array Oper) : List Oper -> Env -> (Env -> Option R) -> Option R
 | [], env, K => K env
 | o :: rest, env, K => match selStep T caps o env with
  | some (b, env') => bif b then evOpsS ops rest env' K else none
  | none => evOps T sig caps orc ops [o] (preTup o env) fun env' => evOpsS ops rest env' K
def iter (step : (Env -> Option R) -> Env -> Option R) : Nat -> Env -> Option R
 | 0, _ => none
 | n + 1, env => step (iter step n) env
def dropAll (keep : List Nat) : List Nat -> Env -> Env
 | [], env => env
 | d :: ds, env => dropAll keep ds (if keep.contains d then env else put (clear d env) d .undef)
def movedFrom (ops : List Oper) (s : Nat) : Option Nat := match ops.find? (fun o => o.dst == some s) with
 | none => some s
 | some o => match o.op with
  | .move (.tmp s') => if (ops.takeWhile fun o => !(o.dst == some s)).any (fun o => o.dst == some s') then none else some s'
  | _ => none
def defOf (ops : List Oper) (s : Nat) : Option Op := (ops.find? fun o => o.dst == some s).map (·.op)
def loadedFrom (ops : List Oper) (env : Env) (s : Nat) : Option (Nat × Nat) := match defOf ops s with
 | some (.load _ (.tmp a)) => match defOf ops a with
  | some (.fieldAddr st (.tmp b) f) => match fieldAt T st f, rd none env (.tmp b) with
   | some (off, _), .path r o => some (r, o + off)
   | _, _ => none
  | none => match rd none env (.tmp a) with
   | .path r o => some (r, o)
   | _ => none
  | _ => none
 | _ => none
def preRow (ops : List Oper) (s : Nat) (env : Env) : Env := match movedFrom ops s with
 | some s' => match rd none env (.tmp s') with
  | .con .val ls => freezeAll ls env
  | _ => env
 | none => match loadedFrom T ops env s with
  | some (r', j) => freeze r' j env
  | none => env
def elemOf (ops : List Oper) : Operand -> Option Nat
 | .tmp p => match defOf ops p with
  | some (.load t (.tmp a)) => match T.ty t with
   | some τ => if τ.flatB then none else match defOf ops a with
    | some (.indexAddr _ (.tmp b) _) => some b
    | _ => none
   | none => none
  | _ => none
 | _ => none
def preElems (ops : List Oper) : List (Nat × Operand) -> Env -> Env
 | [], env => env
 | p :: ps, env => preElems ops ps (match elemOf T ops p.2 with
  | some b => preRow T ops b env
  | none => env)
def preStore (ops : List Oper) (s : Nat) (env : Env) : Env := match defOf ops s with
 | some (.load _ (.tmp a)) => match rd none env (.tmp a) with
  | .path r 0 => match get env r with
   | .con (.box _) ls => freezeAll ((List.range ls.length).map fun j => ⟨.unit, (), .bor r j []⟩) env
   | _ => env
  | _ => env
 | _ => env
def preAsg (ops : List Oper) (s : Nat) (env : Env) : Env := match defOf ops s with
 | some (.move (.tmp a)) => match rd none env (.tmp a) with
  | .con .val ls => freezeAll ls env
  | _ => env
 | _ => env
def preF (ops : List Oper) : List Oper -> Env -> Env
 | [], env => env
 | o :: r, env => preF ops r (match o.guard, o.op with
  | none, .slice _ (.tmp s) _ _ _ => preRow T ops s env
  | none, .buildSlice _ _ ps => preElems T ops ps.toList env
  | none, .store _ _ (.tmp s) => if r.isEmpty then env else preStore ops s env
  | none, .assign (.tmp s) => if r.isEmpty then env else preAsg ops s env
  | _, _ => env)
def evCode (dr : Array Oper -> Env -> (Env -> Option R) -> Option R) (fuel : Nat) (ann : Nat -> Option (List Nat)) : Nat -> Code -> Env -> (Exit -> Env -> Option R) -> Option R
 | _, .skip, env, K => K .normal env
 | _, .region _ ops draw, env, K => if draw then dr ops (preF T ops.toList ops.toList env) (K .normal) else evOpsS T sig caps orc ops ops.toList env (K .normal)
 | m, .seq a b, env, K => evCode dr fuel ann m a env fun e env' => match e with
  | .normal => evCode dr fuel ann m b env' K
  | e => K e env'
 | m, .cond c a b, env, K => match bool1 (rd none env c) with
  | some t => bif t then evCode dr fuel ann m a env K else evCode dr fuel ann m b env K
  | none => none
 | _, .block id c, env, K => evCode dr fuel ann id c env fun e env' => match e with
  | .exit id' => if id' = id then K .normal env' else K e env'
  | e => K e env'
 | m, .loop c, env, K => match ann m with
  | none => none
  | some keep => iter (fun rec env => evCode dr fuel ann m c env fun e env' => match e with
   | .normal => rec (dropAll keep (List.range env'.length) env')
   | e => K e env') fuel (dropAll keep (List.range env.length) env)
 | _, .exit id, env, K => K (.exit id) env
 | _, .ret, env, K => K .ret env
 | _, _, _, _ => none
def paramAV : RV -> Option AV
 | .val t x => some (mkCon t.isAgg (leaves t x (fun _ => .at_ .ro) 0))
 | .ptr t x => some (.eptr (leaves t x (fun _ => .at_ .ro) 0) none)
 | .clo f xs => some (.cloR f xs)
 | .fptr _ _ => none
def paramAVs : List RV -> Option (List AV)
 | [] => some []
 | v :: r => match paramAV v, paramAVs r with
  | some a, some as => some (a :: as)
  | _, _ => none
def paramMut : RV -> Option AV
 | .val t x => some (mkCon t.isAgg (leaves t x (fun n => .at_ (.pn n)) 0))
 | _ => none
def entryAVs (sg : Sig) (args : List RV) : Option (List AV) := match sg.muts, args with
 | true, a :: r => match paramMut a, paramAVs r with
  | some v, some vs => some (v :: vs)
  | _, _ => none
 | true, [] => none
 | false, args => paramAVs args
def findPinL (h : Nat) : List Leaf -> Option Leaf
 | [] => none
 | l :: ls => if l.m = .at_ (.pn h) then some l else findPinL h ls
def findPin (h : Nat) : Env -> Option Leaf
 | [] => none
 | .con _ ls :: env => match findPinL h ls with
  | some l => some l
  | none => findPin h env
 | _ :: env => findPin h env
def pinVal (env : Env) : (t : Ty) -> t.D -> Nat -> Option t.D
 | .slice e t, _, n => match findPin n env with
  | some l => l.as (.slice e t)
  | none => none
 | .pair a b, x, n => match pinVal env a x.1 n, pinVal env b x.2 (n + a.sz) with
  | some y, some z => some (y, z)
  | _, _ => none
 | .int _, x, _ => some x
 | .bool, x, _ => some x
 | .str, x, _ => some x
 | .unit, x, _ => some x
def res1 (env : Env) (t : Ty) (fresh : Lvl) : ResultVar -> Option t.D
 | .tmp d => match get env d with
  | .con k ls => if decide (k = t.kind) && ls.all (fun l => l.m.settled && fresh.asks l) then match asm t ls with
    | some (x, []) => some x
    | _ => none
   else none
  | _ => none
 | .cell d tid => if T.ty tid = some t then match get env d with
  | .con (.box _) ls => if ls.all (fun l => l.m.settled && fresh.asks l) then match asm t ls with
    | some (x, []) => some x
    | _ => none
   else none
  | _ => none
  else none
def resN (env : Env) : List (Ty × Lvl) -> List ResultVar -> Option (List (Σ t : Ty, t.D))
 | [], [] => some []
 | (t, fr) :: ps, v :: vs => match res1 T env t fr v, resN env ps vs with
  | some x, some xs => some (⟨t, x⟩ :: xs)
  | _, _ => none
 | _, _ => none
def blank : (t : Ty) -> t.D -> t.D
 | .slice _ _, _ => []
 | .pair a b, x => (blank a x.1, blank b x.2)
 | .int _, x => x
 | .bool, x => x
 | .str, x => x
 | .unit, x => x
def keepArgs (sg : Sig) (args : List RV) : List RV := match sg.muts with
 | true => match args with
  | .val t x :: _ => [.val t (blank t x)]
  | _ => []
 | false => []
def mutRes (sg : Sig) (args : List RV) (env : Env) (xs : List (Σ t : Ty, t.D)) : Option (List (Σ t : Ty, t.D)) := match sg.muts, args with
 | true, .val t x :: _ => match pinVal env t x 0 with
  | some y => some (⟨t, y⟩ :: xs)
  | none => none
 | true, _ => none
 | false, _ => some xs
def pullN (s : Nat) (env : Env) : Env := match get env s with
 | .con .val [⟨.slice e t, x, .bor r j [(_, 0)]⟩] => match (get env r).leaf? j with
  | some ⟨.slice e' te, xs, .at_ .dp⟩ => if te = .slice e t /\ (t.flatB = true /\ s ≠ r) then
    let e1 := killPlace r j env
    let e2 := put e1 r ((get e1 r).setLeaf j ⟨.slice e' te, xs, .dead⟩)
    put e2 s ((get e2 s).setLeaf 0 ⟨.slice e t, x, .at_ .dp⟩)
   else env
  | _ => env
 | _ => env
def pullRes : List (Ty × Lvl) -> List ResultVar -> Env -> Env
 | (_, fr) :: ps, v :: vs, env => pullRes ps vs (match fr, v with
  | .dp, .tmp d => pullN d env
  | _, _ => env)
 | _, _, env => env
def endPull (sg : Sig) (fn : Func) (env : Env) : Env := match sg.muts with
 | true => env
 | false => pullRes sg.results fn.results.toList env
def endK (sg : Sig) (fn : Func) (args : List RV) (K : List (Σ t : Ty, t.D) -> Option R) : Exit -> Env -> Option R := fun e env =>
 match e with
 | .ret | .normal => match resN T (endPull sg fn env) sg.results fn.results.toList with
  | some xs => match mutRes sg args env xs with
   | some ys => K ys
   | none => none
  | none => none
 | _ => none
def newVal (id : TypeId) (t : Ty) : AV -> Option t.D
 | .con (.box e) ls => if e.id = id /\ (ls.all fun l => l.m == .at_ .ro) = true then match asm t ls with
   | some (y, []) => some y
   | _ => none
  else none
 | _ => none
def endN (id : TypeId) (t : Ty) (rs : List (Ty × Lvl)) (fn : Func) (K : List (Σ t : Ty, t.D) -> Option R) : Exit -> Env -> Option R := fun e env0 =>
 match e with
 | .ret | .normal => match fn.results.toList with
  | .tmp d :: vs => match resN T (pullRes rs vs env0) rs vs with
   | some xs => match get (pullRes rs vs env0) d with
    | .path r 0 => match newVal id t (get (pullRes rs vs env0) r) with
     | some y => K (⟨t, y⟩ :: xs)
     | none => none
    | v => match newVal id t v with
     | some y => K (⟨t, y⟩ :: xs)
     | none => none
   | none => none
  | _ => none
 | _ => none
def resTmp : ResultVar -> Nat
 | .tmp d => d
 | .cell d _ => d
def evFn (dr : Array Oper -> Env -> (Env -> Option R) -> Option R) (fuel : Nat) (ann : Nat -> Option (List Nat)) (sg : Sig) (fn : Func) (c : Code) (args : List RV) (K : List (Σ t : Ty, t.D) -> Option R) : Option R :=
 match entryAVs sg args with
 | some as => if as.length <= fn.ntmps /\ (fn.results.toList.map resTmp).Nodup /\ (sg.muts = true -> allFlat sg.results = true) then evCode T sig caps orc dr fuel ann 0 c (as ++ List.replicate (fn.ntmps - as.length) .skip) (endK T sg fn (keepArgs sg args) K) else none
 | none => none
def evFnG (dr : Array Oper -> Env -> (Env -> Option R) -> Option R) (fuel : Nat) (ann : Nat -> Option (List Nat)) (k : Nat) (sg : Sig) (fn : Func) (c : Code) (args : List RV) (K : List (Σ t : Ty, t.D) -> Option R) : Option R :=
 match splitN k args with
 | some (.val t x, rest) => match paramAVs rest with
  | some as => if (as.length + 1 <= fn.ntmps /\ k <= as.length /\ t.isAgg = false) /\ (fn.results.toList.map resTmp).Nodup /\ sg.muts = false then evCode T sig caps orc dr fuel ann 0 c (insN k (.con .val [⟨t, x, .at_ .dp⟩]) as ++ List.replicate (fn.ntmps - (as.length + 1)) .skip) (endK T sg fn [] K) else none
  | none => none
 | _ => none
def evFnN (dr : Array Oper -> Env -> (Env -> Option R) -> Option R) (fuel : Nat) (ann : Nat -> Option (List Nat)) (id : TypeId) (t : Ty) (rs : List (Ty × Lvl)) (fn : Func) (c : Code) (args : List RV) (K : List (Σ t : Ty, t.D) -> Option R) : Option R :=
 match paramAVs args with
 | some as => if as.length <= fn.ntmps /\ (fn.results.toList.map resTmp).Nodup then evCode T sig caps orc dr fuel ann 0 c (as ++ List.replicate (fn.ntmps - as.length) .skip) (endN T id t rs fn K) else none
 | none => none
end
def El {α : Type} (P : List Value -> α -> List Nat -> Prop) (n : Nat) : List Value -> List α -> List Nat -> Prop
 | xs, [], bs => xs = [] /\ bs = []
 | xs, x :: r, bs => ∃ c xs' b bs', xs = c ++ xs' /\ c.length = n /\ bs = b ++ bs' /\ P c x b /\ El P n xs' r bs'
section
variable {α : Type} {P Q : List Value -> α -> List Nat -> Prop} {n : Nat}
theorem El.imp : ∀ {l : List α} {xs : List Value} {bs : List Nat}, (∀ c x b, (∀ k ∈ b, k ∈ bs) -> P c x b -> Q c x b) -> El P n xs l bs -> El Q n xs l bs
 | [], _, _, _, h => h
 | x :: r, xs, bs, hp, ⟨c, xs', b, bs', e, l, eb, p, t⟩ =>
  ⟨c, xs', b, bs', e, l, eb, hp _ _ _ (fun k hk => by rw [eb]; exact Xc _ hk) p,
   El.imp (fun c x b' hb h => hp c x b' (fun k hk => by grind) h) t⟩
theorem El.bare (hp : ∀ c x b, P c x b -> Q c x []) : ∀ {l : List α} {xs : List Value} {bs : List Nat}, El P n xs l bs -> El Q n xs l []
 | [], _, _, h => ⟨h.1, rfl⟩
 | x :: r, xs, bs, ⟨c, xs', b, bs', e, l, eb, p, t⟩ => ⟨c, xs', [], [], e, l, rfl, hp _ _ _ p, El.bare hp t⟩
theorem El.bareW {bs : List Nat} (hp : ∀ c x b, (∀ k ∈ b, k ∈ bs) -> P c x b -> Q c x []) : ∀ {l : List α} {xs : List Value} {bs' : List Nat}, (∀ k ∈ bs', k ∈ bs) -> El P n xs l bs' -> El Q n xs l []
 | [], _, _, _, h => ⟨h.1, rfl⟩
 | x :: r, xs, bs', hs, ⟨c, xs', b, bs'', e, l, eb, p, t⟩ =>
  ⟨c, xs', [], [], e, l, rfl, hp _ _ _ (fun k hk => hs k (by rw [eb]; exact Xc _ hk)) p, El.bareW hp (fun k hk => hs k (by grind)) t⟩
theorem El.len : ∀ {l : List α} {xs : List Value} {bs : List Nat}, El P n xs l bs -> xs.length = l.length * n
 | [], _, _, h => by rw [h.1]; simp
 | x :: r, xs, bs, ⟨c, xs', b, bs', e, l, eb, p, t⟩ => by rw [e, Xk, l, El.len t, X1s, X2c]; omega
theorem El.all {p : Value -> Prop} (hp : ∀ c x b, P c x b -> ∀ u ∈ c, p u) : ∀ {l : List α} {xs : List Value} {bs : List Nat}, El P n xs l bs -> ∀ u ∈ xs, p u
 | [], _, _, h, u, hu => by rw [h.1] at hu; simp at hu
 | x :: r, xs, bs, ⟨c, xs', b, bs', e, l, eb, h, t⟩, u, hu => by
  rw [e] at hu;rcases X5.1 hu with hu | hu
  ·grind
  ·exact El.all hp t u hu
theorem El.allB {p : Nat -> Prop} (hp : ∀ c x b, P c x b -> ∀ u ∈ b, p u) : ∀ {l : List α} {xs : List Value} {bs : List Nat}, El P n xs l bs -> ∀ u ∈ bs, p u
 | [], _, _, h, u, hu => by rw [h.2] at hu; simp at hu
 | x :: r, xs, bs, ⟨c, xs', b, bs', e, l, eb, h, t⟩, u, hu => by
  rw [eb] at hu;rcases X5.1 hu with hu | hu
  ·exact hp _ _ _ h u hu
  ·exact El.allB hp t u hu
theorem El.noB (hp : ∀ c x b, P c x b -> b = []) : ∀ {l : List α} {xs : List Value} {bs : List Nat}, El P n xs l bs -> bs = []
 | [], _, _, h => h.2
 | x :: r, xs, bs, ⟨c, xs', b, bs', e, l, eb, h, t⟩ => by rw [eb, hp _ _ _ h, El.noB hp t]; rfl
theorem El.append : ∀ {l l' : List α} {xs ys : List Value} {bs bs' : List Nat}, El P n xs l bs -> El P n ys l' bs' -> El P n (xs ++ ys) (l ++ l') (bs ++ bs')
 | [], _, _, _, _, _, h, k => by rw [h.1, h.2]; exact k
 | x :: r, l', xs, ys, bs, bs', ⟨c, xs', b, b', e, l, eb, p, t⟩, k =>
  ⟨c, xs' ++ ys, b, b' ++ bs', by rw [e, X7], l, by rw [eb, X7], p, El.append t k⟩
theorem El.at_ : ∀ {l : List α} {xs : List Value} {bs : List Nat} (i : Nat) (h : i < l.length), El P n xs l bs ->
  ∃ pre c post b0 b b1, xs = pre ++ c ++ post /\ pre.length = i * n /\ c.length = n /\ bs = b0 ++ b ++ b1 /\ P c l[i] b /\
   (∀ c' y b', c'.length = n -> P c' y b' -> El P n (pre ++ c' ++ post) (l.set i y) (b0 ++ b' ++ b1))
 | [], _, _, i, h, _ => by simp at h
 | x :: r, xs, bs, 0, h, ⟨c, xs', b, bs', e, l, eb, p, t⟩ =>
  ⟨[], c, xs', [], b, bs', by simpa using e, by simp, l, by simpa using eb, p, fun c' y b' hl hp => ⟨c', xs', b', bs', by simp, hl, by simp, hp, t⟩⟩
 | x :: r, xs, bs, i + 1, h, ⟨c, xs', b, bs', e, l, eb, p, t⟩ => by
  obtain ⟨pre, c1, post, b0, b1, b2, e1, l1, l2, eb1, p1, k1⟩ := El.at_ i (by simpa using h) t;refine ⟨c ++ pre, c1, post, b ++ b0, b1, b2, by rw [e, e1]; simp [X7], by rw [Xk, l, l1, X2c]; omega, l2, by rw [eb, eb1]; simp [X7], p1, ?_⟩;intro c' y b' hl hp;exact ⟨c, pre ++ c' ++ post, b, b0 ++ b' ++ b2, by simp [X7], l, by grind⟩
theorem El.take : ∀ {l : List α} {xs : List Value} (j : Nat), El P n xs l [] -> (∀ c x b, P c x b -> b = []) -> El P n (xs.take (j * n)) (l.take j) []
 | _, _, 0, _, _ => by simp [El]
 | [], xs, j + 1, h, _ => by rw [h.1]; simp [El]
 | x :: r, xs, j + 1, ⟨c, xs', b, bs', e, l, eb, p, t⟩, hb => by
  have hb0 := hb _ _ _ p;subst hb0;obtain rfl : bs' = [] := by grind
  refine ⟨c, xs'.take (j * n), [], [], ?_, l, rfl, p, El.take j t hb⟩;rw [e, List.take_append, X2c, l, X2d (by omega)];congr 2;omega
theorem El.drop : ∀ {l : List α} {xs : List Value} (j : Nat), El P n xs l [] -> (∀ c x b, P c x b -> b = []) -> El P n (xs.drop (j * n)) (l.drop j) []
 | _, _, 0, h, _ => by simpa using h
 | [], xs, j + 1, h, _ => by rw [h.1]; simp [El]
 | x :: r, xs, j + 1, ⟨c, xs', b, bs', e, l, eb, p, t⟩, hb => by
  have hb0 := hb _ _ _ p;subst hb0;obtain rfl : bs' = [] := by simpa using eb.symm
  have := El.drop j t hb;rw [e, List.drop_append, X2c, l, X2u (by omega), X2l, List.drop_succ_cons];rw [show j * n + 1 * n - n = j * n by omega];exact this
theorem El.replicate (x : α) (c : List Value) (hc : c.length = n) (hp : P c x []) : ∀ k : Nat, El P n (List.replicate k c).flatten (List.replicate k x) []
 | 0 => by simp [El]
 | k + 1 => ⟨c, (List.replicate k c).flatten, [], [], by simp [List.replicate_succ], hc, rfl, hp, El.replicate x c hc hp k⟩
end
def Lvl.sub : Lvl -> Lvl
 | .dp => .dp
 | .pn _ => .dp
 | _ => .ro
def RowRep (S : Nat -> Prop) (w : World) (e : TypeId) (sz : Nat) (m : Lvl) (v : Value) (n : Nat) (xs : List Value) (b0 : List Nat) : Prop :=
 match m with
 | .ro => b0 = [] /\ ∃ A c, v = .slice A n c /\ n <= c /\ (A = none -> c = 0) /\ ∀ j u, xs[j]? = some u -> ∃ a, A = some a /\ S a.block /\ w.cell? (a.add j) = some u
 | _ => b0 = v.ownBlock.toList /\ w.ownsRow 0 e sz v n xs
def Rep (S : Nat -> Prop) (w : World) : (t : Ty) -> Lvl -> List Value -> t.D -> List Nat -> Prop
 | .int k, _, cs, x, bs => cs = [.int k x] /\ bs = []
 | .bool, _, cs, x, bs => cs = [.bool x] /\ bs = []
 | .str, _, cs, x, bs => cs = [.string x] /\ bs = []
 | .slice e t, m, cs, x, bs => ∃ v xs b0 b1, cs = [v] /\ bs = b0 ++ b1 /\ El (Rep S w t m.sub) t.sz xs x b1 /\ RowRep S w e t.sz m v x.length xs b0
 | .unit, _, cs, _, bs => cs = [] /\ bs = []
 | .pair a b, m, cs, x, bs => ∃ c1 c2 b1 b2, cs = c1 ++ c2 /\ bs = b1 ++ b2 /\ Rep S w a m c1 x.1 b1 /\ Rep S w b m c2 x.2 b2
theorem Rep.len {S : Nat -> Prop} {w : World} : ∀ {t : Ty} {m : Lvl} {cs : List Value} {x : t.D} {bs : List Nat}, Rep S w t m cs x bs -> cs.length = t.sz
 | .int k, _, _, _, _, h => by rw [h.1]; rfl
 | .bool, _, _, _, _, h => by rw [h.1]; rfl
 | .str, _, _, _, _, h => by rw [h.1]; rfl
 | .slice e t, _, _, _, _, ⟨v, xs, b0, b1, h, _⟩ => by rw [h]; rfl
 | .unit, _, _, _, _, h => by rw [h.1]; rfl
 | .pair a b, _, _, _, _, ⟨c1, c2, b1, b2, h, _, h1, h2⟩ => by rw [h, Xk, Rep.len h1, Rep.len h2]; rfl
theorem RowRep.slice {S : Nat -> Prop} {w : World} {e : TypeId} {sz : Nat} {m : Lvl} {v : Value} {n : Nat} {xs : List Value} {b0 : List Nat} (h : RowRep S w e sz m v n xs b0) : ∃ A c, v = .slice A n c /\ n <= c := by
 cases m with
 | ro => obtain ⟨_, A, c, e, l, _⟩ := h; exact ⟨A, c, e, l⟩
 | sh =>
  obtain ⟨_, _, h | ⟨g, cap, cur, e, _, _, l, _⟩⟩ := h
  ·grind
  ·grind
 | dp =>
  obtain ⟨_, _, h | ⟨g, cap, cur, e, _, _, l, _⟩⟩ := h
  ·simp_all
  ·exact ⟨_, _, e, l⟩
 | pn _ =>
  obtain ⟨_, _, h | ⟨g, cap, cur, e, _, _, l, _⟩⟩ := h
  ·exact ⟨none, 0, by rw [h.1, h.2], by omega⟩
  ·exact ⟨_, _, e, l⟩
theorem Rep.one {S : Nat -> Prop} {w : World} : ∀ {t : Ty} {m : Lvl} {cs : List Value} {x : t.D} {bs : List Nat}, Rep S w t m cs x bs -> ∀ u ∈ cs, u.oneCell' = true
 | .int k, _, _, _, _, h, u, hu => by rw [h.1] at hu; rw [Xb.1 hu]; rfl
 | .bool, _, _, _, _, h, u, hu => by rw [h.1] at hu; rw [Xb.1 hu]; rfl
 | .str, _, _, _, _, h, u, hu => by rw [h.1] at hu; rw [Xb.1 hu]; rfl
 | .slice e t, _, _, _, _, ⟨v, xs, b0, b1, h, _, _, hr⟩, u, hu => by
  rw [h] at hu;obtain ⟨A, c, e, _⟩ := hr.slice;rw [Xb.1 hu, e];rfl
 | .unit, _, _, _, _, h, u, hu => by rw [h.1] at hu; simp at hu
 | .pair a b, _, _, _, _, ⟨c1, c2, b1, b2, h, _, h1, h2⟩, u, hu => by
  rw [h] at hu;rcases X5.1 hu with hu | hu
  ·exact Rep.one h1 u hu
  ·exact Rep.one h2 u hu
theorem Y1v {w : World} {base : Nat} {e : TypeId} {size n : Nat} {v : Value} {xs : List Value} (h : w.ownsRow base e size v n xs) (k : Nat) (hk : v.ownBlock = some k) : base <= k /\ k < w.heap.size := by
 rcases h.2 with ⟨rfl, _⟩ | ⟨g, cap, cur, rfl, hb, hh, _⟩
 ·simp [Value.ownBlock] at hk
 ·have : g = k := by simpa [Value.ownBlock] using hk
  subst this;exact ⟨hb, (Xv.1 hh).1⟩
theorem Y3h {w w1 : World} {base : Nat} {e : TypeId} {size n : Nat} {v : Value} {xs : List Value} (h : w.ownsRow base e size v n xs) (hm : ∀ k, v.ownBlock = some k -> w1.heap[k]? = w.heap[k]?) : w1.ownsRow base e size v n xs := by
 obtain ⟨h1, h2⟩ := h;refine ⟨h1, ?_⟩;rcases h2 with h2 | ⟨g, cap, cur, rfl, hg, hh, r⟩
 ·exact .inl h2
 ·exact .inr ⟨g, cap, cur, rfl, hg, (hm g (by simp [Value.ownBlock])).trans hh, r⟩
theorem Ys {o : Option Nat} {k : Nat} : k ∈ o.toList ↔ o = some k := by cases o <;> simp [eq_comm]
theorem Addr.add_block (a : Addr) (j : Nat) : (a.add j).block = a.block := by unfold Addr.add; split <;> rfl
theorem Rep.move {S S' : Nat -> Prop} {w w' : World} (hS : ∀ b, S b -> b < w.heap.size -> S' b /\ w'.heap[b]? = w.heap[b]?) :
  ∀ {t : Ty} {m : Lvl} {cs : List Value} {x : t.D} {bs : List Nat}, (∀ b ∈ bs, w'.heap[b]? = w.heap[b]?) -> Rep S w t m cs x bs -> Rep S' w' t m cs x bs
 | .int k, _, _, _, _, _, h => h
 | .bool, _, _, _, _, _, h => h
 | .str, _, _, _, _, _, h => h
 | .slice e t, m, _, _, bs, hb, ⟨v, xs, b0, b1, h, hbs, he, hr⟩ => by
  refine ⟨v, xs, b0, b1, h, hbs, El.imp (fun c x b hk hx => Rep.move hS (fun k hk' => hb k (by grind)) hx) he, ?_⟩;cases m with
  | ro =>
   obtain ⟨h0, A, c, e1, hl, hz, hc⟩ := hr;refine ⟨h0, A, c, e1, hl, hz, fun j u hu => ?_⟩;obtain ⟨a, ea, hs, hcell⟩ := hc j u hu;have hlt := X2r w _ hcell;rw [Addr.add_block] at hlt;obtain ⟨hs', hw⟩ := hS _ hs hlt;exact ⟨a, ea, hs', (X1b (by rw [Addr.add_block]; exact hw)).trans hcell⟩
  | sh => exact ⟨hr.1, Y3h hr.2 (fun k hk => hb k (by rw [hbs, hr.1]; exact Xc _ (Ys.2 hk)))⟩
  | dp => exact ⟨hr.1, Y3h hr.2 (fun k hk => hb k (by rw [hbs, hr.1]; exact Xc _ (Ys.2 hk)))⟩
  | pn _ => exact ⟨hr.1, Y3h hr.2 (fun k hk => hb k (by rw [hbs, hr.1]; exact Xc _ (Ys.2 hk)))⟩
 | .unit, _, _, _, _, _, h => h
 | .pair a b, _, _, _, bs, hb, ⟨c1, c2, b1, b2, h, hbs, h1, h2⟩ =>
  ⟨c1, c2, b1, b2, h, hbs, Rep.move hS (fun k hk => hb k (by rw [hbs]; exact Xc _ hk)) h1, Rep.move hS (fun k hk => hb k (by rw [hbs]; exact Xe _ hk)) h2⟩
theorem Y2w {w : World} {base : Nat} {e : TypeId} {size n : Nat} {v : Value} {xs : List Value} (h : w.ownsRow base e size v n xs) :
  ∃ A c, v = .slice A n c /\ n <= c /\ (A = none -> c = 0) /\ ∀ j u, xs[j]? = some u -> ∃ a, A = some a /\ v.ownBlock = some a.block /\ w.cell? (a.add j) = some u := by
 obtain ⟨h1, h2⟩ := h;rcases h2 with ⟨rfl, rfl⟩ | ⟨g, cap, cur, rfl, hg, hh, hn, hm, hs, ht⟩
 ·grind
 ·refine ⟨_, _, rfl, hn, (fun h => by simp at h), fun j u hu => ⟨⟨g, 0, none⟩, rfl, rfl, ?_⟩⟩;have hadd : (⟨g, 0, none⟩ : Addr).add j = ⟨g, j, none⟩ := by unfold Addr.add; split <;> simp_all
  rw [hadd];unfold World.cell?;rw [hh];rw [<- ht, X1j] at hu;split at hu
  ·simpa using hu
  ·simp at hu
theorem Rep.ro {S : Nat -> Prop} {w : World} : ∀ {t : Ty} {m : Lvl} {cs : List Value} {x : t.D} {bs : List Nat}, Rep S w t m cs x bs -> Rep (fun b => S b \/ b ∈ bs) w t .ro cs x []
 | .int k, _, _, _, _, h => ⟨h.1, rfl⟩
 | .bool, _, _, _, _, h => ⟨h.1, rfl⟩
 | .str, _, _, _, _, h => ⟨h.1, rfl⟩
 | .slice e t, m, _, x, bs, ⟨v, xs, b0, b1, h, hbs, he, hr⟩ => by
  refine ⟨v, xs, [], [], h, rfl, ?_, ?_⟩
  ·refine El.bareW (bs := b1) (fun c x b hk hx => ?_) (fun k hk => hk) he;refine Rep.move (S := fun b' => S b' \/ b' ∈ b) (fun b' hb' _ => ⟨?_, rfl⟩) (by simp) (Rep.ro hx);rcases hb' with hb' | hb'
   ·exact .inl hb'
   ·grind
  ·cases m with
   | ro =>
    obtain ⟨h0, A, c, e1, hl, hz, hc⟩ := hr;exact ⟨rfl, A, c, e1, hl, hz, fun j u hu => let ⟨a, ea, hs, hcell⟩ := hc j u hu; ⟨a, ea, .inl hs, hcell⟩⟩
   | sh =>
    obtain ⟨A, c, e1, hl, hz, hc⟩ := Y2w hr.2;exact ⟨rfl, A, c, e1, hl, hz, fun j u hu => let ⟨a, ea, hs, hcell⟩ := hc j u hu; ⟨a, ea, .inr (by rw [hbs, hr.1]; exact Xc _ (Ys.2 hs)), hcell⟩⟩
   | dp =>
    obtain ⟨A, c, e1, hl, hz, hc⟩ := Y2w hr.2;exact ⟨rfl, A, c, e1, hl, hz, fun j u hu => let ⟨a, ea, hs, hcell⟩ := hc j u hu; ⟨a, ea, .inr (by rw [hbs, hr.1]; exact Xc _ (Ys.2 hs)), hcell⟩⟩
   | pn _ =>
    obtain ⟨A, c, e1, hl, hz, hc⟩ := Y2w hr.2;exact ⟨rfl, A, c, e1, hl, hz, fun j u hu => let ⟨a, ea, hs, hcell⟩ := hc j u hu; ⟨a, ea, .inr (by rw [hbs, hr.1]; exact Xc _ (Ys.2 hs)), hcell⟩⟩
 | .unit, _, _, _, _, h => ⟨h.1, rfl⟩
 | .pair a b, _, _, _, bs, ⟨c1, c2, b1, b2, h, hbs, h1, h2⟩ =>
  ⟨c1, c2, [], [], h, rfl,
   Rep.move (S := fun b' => S b' \/ b' ∈ b1) (fun b' hb' _ => ⟨hb'.imp id (fun h => by rw [hbs]; exact Xc _ h), rfl⟩) (by simp) (Rep.ro h1),
   Rep.move (S := fun b' => S b' \/ b' ∈ b2) (fun b' hb' _ => ⟨hb'.imp id (fun h => by rw [hbs]; exact Xe _ h), rfl⟩) (by simp) (Rep.ro h2)⟩
theorem Rep.lt {S : Nat -> Prop} {w : World} : ∀ {t : Ty} {m : Lvl} {cs : List Value} {x : t.D} {bs : List Nat}, Rep S w t m cs x bs -> ∀ b ∈ bs, b < w.heap.size
 | .int k, _, _, _, _, h, b, hb => by rw [h.2] at hb; simp at hb
 | .bool, _, _, _, _, h, b, hb => by rw [h.2] at hb; simp at hb
 | .str, _, _, _, _, h, b, hb => by rw [h.2] at hb; simp at hb
 | .slice e t, m, _, _, bs, ⟨v, xs, b0, b1, h, hbs, he, hr⟩, b, hb => by
  rw [hbs] at hb;rcases X5.1 hb with hb | hb
  ·cases m with
   | ro => rw [hr.1] at hb; simp at hb
   | sh => rw [hr.1] at hb; exact (Y1v hr.2 b (Ys.1 hb)).2
   | dp => rw [hr.1] at hb; exact (Y1v hr.2 b (Ys.1 hb)).2
   | pn _ => rw [hr.1] at hb; exact (Y1v hr.2 b (Ys.1 hb)).2
  ·exact El.allB (fun c x b' hx => Rep.lt hx) he b hb
 | .unit, _, _, _, _, h, b, hb => by rw [h.2] at hb; simp at hb
 | .pair a b, _, _, _, bs, ⟨c1, c2, b1, b2, h, hbs, h1, h2⟩, k, hk => by
  rw [hbs] at hk;rcases X5.1 hk with hk | hk
  ·exact Rep.lt h1 k hk
  ·exact Rep.lt h2 k hk
theorem Rep.ro_bs {S : Nat -> Prop} {w : World} : ∀ {t : Ty} {cs : List Value} {x : t.D} {bs : List Nat}, Rep S w t .ro cs x bs -> bs = []
 | .int k, _, _, _, h => h.2
 | .bool, _, _, _, h => h.2
 | .str, _, _, _, h => h.2
 | .slice e t, _, _, bs, ⟨v, xs, b0, b1, h, hbs, he, hr⟩ => by rw [hbs, hr.1, El.noB (fun c x b hx => Rep.ro_bs hx) he]; rfl
 | .unit, _, _, _, h => h.2
 | .pair a b, _, _, bs, ⟨c1, c2, b1, b2, h, hbs, h1, h2⟩ => by rw [hbs, Rep.ro_bs h1, Rep.ro_bs h2]; rfl
theorem Rep.pn {S : Nat -> Prop} {w : World} {h : Nat} : ∀ {t : Ty} {cs : List Value} {x : t.D} {bs : List Nat}, Rep S w t (.pn h) cs x bs ↔ Rep S w t .dp cs x bs
 | .int k, _, _, _ => Iff.rfl
 | .bool, _, _, _ => Iff.rfl
 | .str, _, _, _ => Iff.rfl
 | .slice e t, _, _, _ => Iff.rfl
 | .unit, _, _, _ => Iff.rfl
 | .pair a b, _, _, _ => by
  constructor
  ·rintro ⟨c1, c2, b1, b2, h, hbs, h1, h2⟩
   exact ⟨c1, c2, b1, b2, h, hbs, Rep.pn.1 h1, Rep.pn.1 h2⟩
  ·rintro ⟨c1, c2, b1, b2, h, hbs, h1, h2⟩
   exact ⟨c1, c2, b1, b2, h, hbs, Rep.pn.2 h1, Rep.pn.2 h2⟩
theorem Rep.deep {S : Nat -> Prop} {w : World} {lv : Lvl} (hl : lv.deep = true) {t : Ty} {cs : List Value} {x : t.D} {bs : List Nat} : Rep S w t lv cs x bs ↔ Rep S w t .dp cs x bs := by
 cases lv with
 | dp => exact Iff.rfl
 | pn h => exact Rep.pn
 | ro => simp [Lvl.deep] at hl
 | sh => simp [Lvl.deep] at hl
theorem Rep.flat {S S' : Nat -> Prop} {w w' : World} : ∀ {t : Ty} {m m' : Lvl} {cs : List Value} {x : t.D} {bs : List Nat}, t.flatB = true -> Rep S w t m cs x bs -> bs = [] /\ Rep S' w' t m' cs x []
 | .int k, _, _, _, _, _, _, h => ⟨h.2, h.1, rfl⟩
 | .bool, _, _, _, _, _, _, h => ⟨h.2, h.1, rfl⟩
 | .str, _, _, _, _, _, _, h => ⟨h.2, h.1, rfl⟩
 | .slice e t, _, _, _, _, _, hf, _ => by simp [Ty.flatB] at hf
 | .unit, _, _, _, _, _, _, h => ⟨h.2, h.1, rfl⟩
 | .pair a b, _, _, _, _, _, hf, ⟨c1, c2, b1, b2, h, hbs, h1, h2⟩ => by
  simp [Ty.flatB] at hf;obtain ⟨e1, r1⟩ := Rep.flat hf.1 h1;obtain ⟨e2, r2⟩ := Rep.flat hf.2 h2;exact ⟨by rw [hbs, e1, e2]; rfl, c1, c2, [], [], h, rfl, r1, r2⟩
theorem Rep.roS {S : Nat -> Prop} {w : World} {t : Ty} {m : Lvl} {cs : List Value} {x : t.D} {bs : List Nat} {S' : Nat -> Prop} (h : Rep S w t m cs x bs) (h1 : ∀ b, S b -> b < w.heap.size -> S' b) (h2 : ∀ b ∈ bs, S' b) : Rep S' w t .ro cs x [] :=
 Rep.move (S := fun b => S b \/ b ∈ bs) (fun b hb hl => ⟨hb.elim (fun h => h1 b h hl) (h2 b), rfl⟩) (by simp) h.ro
def zeroCells : Ty -> List Value
 | .int k => [.int k 0]
 | .bool => [.bool false]
 | .str => [.string ⟨#[]⟩]
 | .slice _ _ => [.slice none 0 0]
 | .unit => []
 | .pair a b => zeroCells a ++ zeroCells b
theorem Rep.zero (S : Nat -> Prop) (w : World) : ∀ (t : Ty) (m : Lvl), Rep S w t m (zeroCells t) t.dflt []
 | .int k, _ => ⟨rfl, rfl⟩
 | .bool, _ => ⟨rfl, rfl⟩
 | .str, _ => ⟨rfl, rfl⟩
 | .slice e t, m => by
  refine ⟨.slice none 0 0, [], [], [], rfl, rfl, ⟨rfl, rfl⟩, ?_⟩;cases m with
  | ro => exact ⟨rfl, none, 0, rfl, Xi _, fun _ => rfl, by simp⟩
  | sh => exact ⟨rfl, by simp [Ty.dflt], .inl ⟨rfl, rfl⟩⟩
  | dp => exact ⟨rfl, by simp [Ty.dflt], .inl ⟨rfl, rfl⟩⟩
  | pn _ => exact ⟨rfl, by simp [Ty.dflt], .inl ⟨rfl, rfl⟩⟩
 | .unit, _ => ⟨rfl, rfl⟩
 | .pair a b, m => ⟨_, _, [], [], rfl, rfl, Rep.zero S w a m, Rep.zero S w b m⟩
open Go.RowKit
structure Cx where
 S0 : Nat -> Prop
 base : Nat
 w0 : World
 pin : Nat -> Value := fun _ => default
 fz : Nat -> Prop := fun _ => False
 pinB : Value := default
 pinC : Nat -> Value := fun _ => default
def Cx.mine (c : Cx) (b : Nat) : Prop := c.base <= b /\ ¬ c.fz b
def Lvl.pinOk (c : Cx) (u : Value) : Lvl -> Prop
 | .pn h => u = c.pin h
 | _ => True
structure St where
 env : Nat -> AV
 tm : Nat -> Value
 w : World
 cs : Nat -> List Value
 bs : Nat -> Nat -> List Nat
variable {w : World} {env : Env} {tmps : Array Value} {vs : Nat -> Value} {ps : Nat -> AV} {cs : Nat -> List Value} {bs : Nat -> Nat -> List Nat} {c : Cx} {s : St} {ls : List Leaf} {t : Ty} {v : Value} {d : Nat} {f : FuncId} {cells : List Value} {lf : Leaf} {n : Nat} {u : Value} {k : Kind} {av : AV} {lv : Lvl} {w' : World} {us : List Value}
def RoS (c : Cx) (s : St) (b : Nat) : Prop := (∀ r l, b ∉ s.bs r l) /\ (c.S0 b \/ c.mine b)
def OwnPlace (s : St) (r j : Nat) (lf : Leaf) (u : Value) : Prop := (s.env r).leaf? j = some lf /\ lf.m.own = true /\ (s.cs r)[j]? = some u
def NestC (c : Cx) (s : St) (a : Addr) (r j : Nat) (lf : Leaf) (u : Value) (i0 : Int) (o0 z : Nat) (i : Int) (o : Nat) : Prop :=
 ∃ e t xs m B n cp A n' cp', lf = ⟨.slice e t, xs, m⟩ /\ u = .slice (some ⟨B, 0, none⟩) n cp /\ (0 <= i0 /\ i0.toNat < xs.length) /\ ((RoS c s B \/ B ∈ s.bs r (j + 1)) /\ B < s.w.heap.size) /\
  s.w.cell? ⟨B, i0.toNat * t.sz + o0, none⟩ = some (.slice (some A) n' cp') /\ (0 <= i /\ i.toNat < n') /\ a = A.add (i.toNat * z + o)
def WrRel0 (c : Cx) (s : St) (a : Addr) (r j : Nat) (p : List (Int × Nat)) (i : Int) (o : Nat) : Prop :=
 ((RoS c s a.block \/ a.block ∈ s.bs r (j + 1)) /\ a.block < s.w.heap.size) /\ ∃ lf u, OwnPlace s r j lf u /\
   (p = [] -> ∃ e t xs m B n cp, lf = ⟨.slice e t, xs, m⟩ /\ u = .slice (some ⟨B, 0, none⟩) n cp /\ 0 <= i /\ i.toNat < xs.length /\ a = ⟨B, i.toNat * t.sz + o, none⟩) /\
   ∀ i0 o0 z, p = [(i0, o0), (0, z)] -> NestC c s a r j lf u i0 o0 z i o
def WrRel (c : Cx) (s : St) (a : Addr) : Option (Nat × Nat × List (Int × Nat) × Int × Nat) -> Prop
 | none => RoS c s a.block /\ a.block < s.w.heap.size
 | some (r, j, p, i, o) => WrRel0 c s a r j p i o
def BorRel (c : Cx) (s : St) (u : Value) (lf : Leaf) (r j : Nat) (p : List (Int × Nat)) : Prop :=
 Rep (fun b => RoS c s b \/ b ∈ s.bs r (j + 1)) s.w lf.t .ro [u] lf.x [] /\
 (∃ lf' u', OwnPlace s r j lf' u' /\ (p = [] -> ∃ m, lf' = ⟨lf.t, lf.x, m⟩ /\ u' = u)) /\
 (∀ i o, p = [(i, o)] -> ∃ a, WrRel0 c s a r j [] i o /\ s.w.cell? a = some u)
def Held (c : Cx) (s : St) (u : Value) (lf : Leaf) : Prop :=
 match lf.m with
 | .at_ _ => Rep (RoS c s) s.w lf.t .ro [u] lf.x []
 | .bor r j p => BorRel c s u lf r j p
 | .dead => u.oneCell' = true
def LeafRel (c : Cx) (s : St) (r l : Nat) (u : Value) (lf : Leaf) : Prop :=
 match lf.m with
 | .at_ .ro => s.bs r (l + 1) = [] /\ Held c s u lf
 | .at_ lv => Rep (RoS c s) s.w lf.t lv [u] lf.x (s.bs r (l + 1)) /\ lv.pinOk c u
 | _ => s.bs r (l + 1) = [] /\ Held c s u lf
def TupCells : List (Bool × Nat) -> List Value -> List Value -> Prop
 | [], vs, cs => vs = [] /\ cs = []
 | (agg, n) :: sh, vs, cs => ∃ v vs' c cs', vs = v :: vs' /\ cs = c ++ cs' /\ c.length = n /\ (if agg then v = .agg c.toArray else c = [v] /\ v.oneCell' = true) /\ TupCells sh vs' cs'
def KCells (c : Cx) (w : World) (b0 : List Nat) : Kind -> Value -> List Value -> Prop
 | .val, v, cs => cs = [v] /\ b0 = []
 | .agg, v, cs => v = .agg cs.toArray /\ b0 = []
 | .tup sh, v, cs => b0 = [] /\ ∃ vs, v = .tuple vs.toArray /\ TupCells sh vs cs
 | .tupB id n sh, v, cs => ∃ B vs c0 c1, v = .tuple (.pointer (some ⟨B, 0, none⟩) :: vs).toArray /\ cs = c0 ++ c1 /\ c0.length = n /\ w.heap[B]? = some (.cells c0.toArray id (0, 0)) /\ b0 = [B] /\ TupCells sh vs c1
 | .box e, v, cs => ∃ B, v = .pointer (some ⟨B, 0, none⟩) /\ w.heap[B]? = some (.cells cs.toArray e.id (0, 0)) /\ b0 = [B] /\ ((e.pin = true -> v = c.pinB) /\ ∀ l, nthB e.fix l = true -> cs[l]? = some (c.pinC l))
def PtrRel (s : St) (r off : Nat) (v : Value) : Prop :=
 ∃ e ls B, s.env r = .con (.box e) ls /\ s.tm r = .pointer (some ⟨B, 0, none⟩) /\ v = .pointer (some ⟨B, off, none⟩)
def PtrRels (s : St) : List (Nat × Nat) -> List Value -> Prop
 | [], vs => vs = []
 | c :: cs, vs => ∃ v vs', vs = v :: vs' /\ PtrRel s c.1 c.2 v /\ PtrRels s cs vs'
def PtrV (S : Nat -> Prop) (w : World) (t : Ty) (x : t.D) (v : Value) : Prop :=
 ∃ (a : Addr) (ch : List Value), v = .pointer (some a) /\ S a.block /\ a.block < w.heap.size /\ (∀ (j : Nat) (u : Value), ch[j]? = some u -> w.cell? (a.add j) = some u) /\ Rep S w t .ro ch x []
def PtrVs (S : Nat -> Prop) (w : World) : List (Σ t : Ty, t.D) -> List Value -> Prop
 | [], vs => vs = []
 | x :: xs, vs => ∃ v vs', vs = v :: vs' /\ PtrV S w x.1 x.2 v /\ PtrVs S w xs vs'
theorem PtrV.move {S S' : Nat -> Prop} {w w' : World} (hS : ∀ b, S b -> b < w.heap.size -> S' b /\ w'.heap[b]? = w.heap[b]?) {x : t.D} (h : PtrV S w t x v) : PtrV S' w' t x v := by
 obtain ⟨a, ch, h1, h2, h3, h4, h5⟩ := h;obtain ⟨k1, k2⟩ := hS _ h2 h3;have hlt : a.block < w'.heap.size := by grind
 exact ⟨a, ch, h1, k1, hlt, fun j u hu => (X1b (by rw [Addr.add_block]; exact k2)).trans (h4 j u hu), Rep.move hS (by simp) h5⟩
theorem PtrVs.move {S S' : Nat -> Prop} {w w' : World} (hS : ∀ b, S b -> b < w.heap.size -> S' b /\ w'.heap[b]? = w.heap[b]?) : ∀ {xs : List (Σ t : Ty, t.D)} {vs : List Value}, PtrVs S w xs vs -> PtrVs S' w' xs vs
 | [], vs, h => h
 | x :: xs, vs, ⟨v, vs', e, h1, h2⟩ => ⟨v, vs', e, h1.move hS, h2.move hS⟩
def CapRel (c : Cx) (s : St) (v : Value) : Cap -> Value -> Prop
 | .path r off, u => PtrRel s r off u
 | .ro x, u => PtrV (RoS c s) s.w x.1 x.2 u
 | .self, u => u = v
def CapRels (c : Cx) (s : St) (v : Value) : List Cap -> List Value -> Prop
 | [], vs => vs = []
 | cp :: cs, vs => ∃ u vs', vs = u :: vs' /\ CapRel c s v cp u /\ CapRels c s v cs vs'
def SelfAt (c : Cx) (s : St) (f : FuncId) (caps : List Cap) (v : Value) (us : List Value) : Prop :=
 ∃ B, v = .pointer (some ⟨B, 0, none⟩) /\ RoS c s B /\ B < s.w.heap.size /\ s.w.cell? ⟨B, 0, none⟩ = some (.func (.func f) #[] us.toArray) /\ CapRels c s v caps us
def SelRel (c : Cx) (s : St) (r j : Nat) (e e2 : TypeId) (t : Ty) (ix : List Int) (x : List (List t.D)) (v : Value) : Prop :=
 (∃ a : Addr, WrRel0 c s a r j [(0, 0), (0, 0), (0, 0)] 0 0) /\ ∃ xs : List Value, s.w.ownsRow 0 e 1 v x.length xs /\ ix.length = x.length /\ ix.Pairwise (· < ·) /\
  ∀ (k : Nat) (i : Int) (y : List t.D), ix[k]? = some i -> x[k]? = some y -> ∃ u, xs[k]? = some u /\ BorRel c s u ⟨.slice e2 t, y, .bor r j [(i, 0)]⟩ r j [(i, 0)]
def PartRel (c : Cx) (s : St) (t : Ty) (x : List t.D) (n : Int) (v : Value) (b : List Nat) : Prop :=
 0 <= n /\ ∃ (A : Option Addr) (cp : Nat) (xs : List Value), v = .slice A x.length cp /\ xs.length = x.length * t.sz /\ (∀ (j : Nat) (u : Value), xs[j]? = some u -> ∃ a, A = some a /\ RoS c s a.block /\ a.block < s.w.heap.size /\ s.w.cell? (a.add j) = some u) /\
  El (Rep (RoS c s) s.w t .dp) t.sz (xs.drop (n.toNat * t.sz)) (x.drop n.toNat) b
def AVRel (c : Cx) (s : St) (r : Nat) : AV -> Value -> Prop
 | .undef, _ => ∀ l, s.bs r l = []
 | .skip, v => v = undef /\ ∀ l, s.bs r l = []
 | .con k ls, v => KCells c s.w (s.bs r 0) k v (s.cs r) /\ ls.length = (s.cs r).length /\ (∀ l, ls.length <= l -> s.bs r (l + 1) = []) /\
   ∀ l lf u, leafAt ls l = some lf -> (s.cs r)[l]? = some u -> LeafRel c s r l u lf
 | .path r' off, v => (∀ l, s.bs r l = []) /\ PtrRel s r' off v
 | .eptr ls wr, v => (∀ l, s.bs r l = []) /\ ∃ a, v = .pointer (some a) /\ (∀ l lf, leafAt ls l = some lf -> lf.m.own = false /\ ∃ u, s.w.cell? (a.add l) = some u /\ Held c s u lf) /\ WrRel c s a wr
 | .clo f caps, v => (∀ l, s.bs r l = []) /\ ∃ vs, v = .func (.func f) #[] vs.toArray /\ PtrRels s caps vs
 | .cloR f xs, v => (∀ l, s.bs r l = []) /\ ∃ vs, v = .func (.func f) #[] vs.toArray /\ PtrVs (RoS c s) s.w xs vs
 | .fptr f caps, v => (∀ l, s.bs r l = []) /\ ∃ us, SelfAt c s f caps v us
 | .cloS f caps, u => (∀ l, s.bs r l = []) /\ ∃ v us, u = .func (.func f) #[] us.toArray /\ SelfAt c s f caps v us
 | .sel r' j e e2 t ix x, v => ((∀ k, s.bs r (k + 1) = []) /\ s.bs r 0 = v.ownBlock.toList) /\ SelRel c s r' j e e2 t ix x v
 | .junk, _ => ∀ k, s.bs r (k + 1) = []
 | .part e t x n, v => (∀ l, s.bs r (l + 1) = []) /\ PartRel c s t x n v (s.bs r 0)
 | .eown ls, v => (∀ l, s.bs r (l + 1) = []) /\ ∃ (a : Addr) (bds : List (List Nat)), v = .pointer (some a) /\ RoS c s a.block /\ a.block < s.w.heap.size /\ s.bs r 0 = bds.flatten /\ bds.length = ls.length /\ ∀ (l : Nat) (lf : Leaf), ls[l]? = some lf -> ∃ u m, s.w.cell? (a.add l) = some u /\ lf.m = .at_ m /\ (∀ h, m ≠ .pn h) /\ Rep (RoS c s) s.w lf.t m [u] lf.x (bds.getD l [])
 | .grow r' j i o l, v => (∀ k, s.bs r (k + 1) = []) /\ (∃ e t, l.t = .slice e t /\ t.flatB = true) /\ Rep (fun _ => False) s.w l.t .dp [v] l.x v.ownBlock.toList /\
   ∃ a u, WrRel0 c s a r' j [] i o /\ s.w.cell? a = some u /\
    (s.bs r 0 = v.ownBlock.toList \/ (s.bs r 0 = [] /\ u.ownBlock = v.ownBlock /\ ∀ b, v.ownBlock = some b -> WrRel0 c s ⟨b, 0, none⟩ r' j [(i, o), (0, 0), (0, 0)] 0 0))
structure Rel (c : Cx) (s : St) : Prop where
 below : Below c.base c.w0 s.w
 base : c.base <= s.w.heap.size
 own : ∀ r l b, b ∈ s.bs r l -> c.mine b /\ b < s.w.heap.size
 disj : ∀ r l r' l' b, b ∈ s.bs r l -> b ∈ s.bs r' l' -> r = r' /\ l = l'
 nodup : ∀ r l, (s.bs r l).Nodup
 av : ∀ r, AVRel c s r (s.env r) (s.tm r)
 froz : ∀ b, c.fz b -> b < s.w.heap.size /\ (∀ r l, b ∉ s.bs r l) /\ s.w.heap[b]? = c.w0.heap[b]?
theorem Rel.mine_new (h : Rel c s) {b : Nat} (hb : s.w.heap.size <= b) : c.mine b :=
 ⟨Nat.le_trans h.base hb, fun hf => by have := (h.froz b hf).1; omega⟩
theorem Y12 : ∀ (env : Env) (d : Nat) (v : AV) (r : Nat), get (put env d v) r = if r = d /\ d < env.length then v else get env r
 | [], d, v, r => by simp [put, get]
 | u :: env, 0, v, 0 => by simp [put, get]
 | u :: env, 0, v, r + 1 => by simp [put, get]
 | u :: env, d + 1, v, 0 => by simp [put, get]
 | u :: env, d + 1, v, r + 1 => by simp [put, get, Y12 env d v r]
theorem Y5 : ∀ (env : Env) (d : Nat) (v : AV), (put env d v).length = env.length
 | [], _, _ => rfl
 | _ :: _, 0, _ => rfl
 | u :: env, d + 1, v => by simp [put, Y5 env d v]
theorem Y1d : ∀ (env : Env) (r : Nat), env.length <= r -> get env r = .undef
 | [], r, _ => rfl
 | u :: env, 0, h => by simp at h
 | u :: env, r + 1, h => by simp [get]; exact Y1d env r (by simpa using h)
theorem Y1 : ∀ (ls : List Leaf) (j : Nat), leafAt ls j = ls[j]?
 | [], _ => by simp [leafAt]
 | l :: ls, 0 => by simp [leafAt]
 | l :: ls, j + 1 => by simp [leafAt, Y1 ls j]
theorem Y9 : ∀ (ls : List Leaf) (j : Nat) (l : Leaf), setAt ls j l = ls.set j l
 | [], _, _ => by simp [setAt]
 | u :: ls, 0, l => by simp [setAt]
 | u :: ls, j + 1, l => by simp [setAt, Y9 ls j l]
theorem Yn : ∀ (n : Nat) (ls : List Leaf), takeLs n ls = ls.take n
 | 0, ls => by simp [takeLs]
 | n + 1, [] => by simp [takeLs]
 | n + 1, l :: ls => by simp [takeLs, Yn n ls]
theorem Yo : ∀ (n : Nat) (ls : List Leaf), dropLs n ls = ls.drop n
 | 0, ls => by simp [dropLs]
 | n + 1, [] => by simp [dropLs]
 | n + 1, l :: ls => by simp [dropLs, Yo n ls]
theorem Y41 : ∀ (new : List Leaf) (ls : List Leaf) (off : Nat), off + new.length <= ls.length -> setLeaves ls off new = ls.take off ++ new ++ ls.drop (off + new.length)
 | [], ls, off, h => by simp [setLeaves]
 | l :: new, ls, off, h => by
  simp at h;rw [setLeaves, Y41 new _ _ (by rw [Y9, Xz]; omega), Y9];rw [List.take_set, List.drop_set, X4 (by omega)];simp;rw [show (ls.take (off + 1)).set off l = ls.take off ++ [l] by
   rw [X27 (by omega), X22 _ _ (by simp; omega)];simp [Xm, X30 (show off <= ls.length by omega)]]
  simp;rw [show off + 1 + new.length = off + (new.length + 1) by omega]
theorem Y6s (tm : Array Value) (d : Nat) (v : Value) (r : Nat) : (tm.setIfInBounds d v).getD r undef = if r = d /\ d < tm.size then v else tm.getD r undef := by
 simp only [Xy];rw [X1z];by_cases h : d = r
 ·grind
 ·grind
theorem Y16 (g : Chg) : ∀ (env : Env) (r : Nat), get (chgEnv g env) r = (get env r).chg g
 | [], r => by simp [get, chgEnv, AV.chg]
 | u :: env, 0 => by simp [get, chgEnv]
 | u :: env, r + 1 => by simp [get, chgEnv, Y16 g env r]
theorem Y7 (g : Chg) : ∀ env : Env, (chgEnv g env).length = env.length
 | [] => rfl
 | u :: env => by simp [chgEnv, Y7 g env]
theorem Y2x (g : Chg) : ∀ ls : List Leaf, chgs g ls = ls.map (Leaf.chg g)
 | [] => rfl
 | l :: ls => by simp [chgs, Y2x g ls]
theorem Yh (g : Chg) (ls : List Leaf) (l : Nat) : leafAt (chgs g ls) l = (leafAt ls l).map (Leaf.chg g) := by
 rw [Y1, Y1, Y2x, X14]
theorem Yr (g : Chg) (ls : List Leaf) : (chgs g ls).length = ls.length := by rw [Y2x, X2m]
theorem Yb {l : Nat} (h : leafAt ls l = some lf) : lf ∈ ls := by
 rw [Y1] at h;exact X8 h
def Keeps (c : Cx) (s s' : St) : Prop := ∀ b, RoS c s b -> b < s.w.heap.size -> RoS c s' b /\ s'.w.heap[b]? = s.w.heap[b]?
def SamePl (s s' : St) (r j : Nat) : Prop :=
 (∀ lf u, OwnPlace s r j lf u -> OwnPlace s' r j lf u) /\ s'.bs r (j + 1) = s.bs r (j + 1) /\ ∀ b ∈ s.bs r (j + 1), s'.w.heap[b]? = s.w.heap[b]?
def SamePtr (s s' : St) (r : Nat) : Prop :=
 s'.tm r = s.tm r /\ ∀ e ls, s.env r = .con (.box e) ls -> ∃ e' ls', s'.env r = .con (.box e') ls'
theorem NestC.keep {s s' : St} {a : Addr} {r j : Nat} {i0 i : Int} {o0 z o : Nat} (hk : Keeps c s s') (hb : s'.bs r (j + 1) = s.bs r (j + 1)) (hw : ∀ b ∈ s.bs r (j + 1), s'.w.heap[b]? = s.w.heap[b]?) (h : NestC c s a r j lf u i0 o0 z i o) : NestC c s' a r j lf u i0 o0 z i o := by
 obtain ⟨e, t, xs, m, B, n, cp, A, n', cp', g1, g2, g3, ⟨g4, g5⟩, g6, g7⟩ := h;have key : s'.w.heap[B]? = s.w.heap[B]? /\ (RoS c s' B \/ B ∈ s'.bs r (j + 1)) := by
  rcases g4 with g4 | g4
  ·exact ⟨(hk _ g4 g5).2, .inl (hk _ g4 g5).1⟩
  ·exact ⟨hw _ g4, .inr (by rw [hb]; exact g4)⟩
 have hlt : B < s'.w.heap.size := by
  have := key.1;rw [Xt g5] at this;exact (Xv.1 this).1
 exact ⟨e, t, xs, m, B, n, cp, A, n', cp', g1, g2, g3, ⟨key.2, hlt⟩, (X1b key.1).trans g6, g7⟩
theorem WrRel0.keep {s s' : St} {a : Addr} {r j : Nat} {p : List (Int × Nat)} {i : Int} {o : Nat} (hk : Keeps c s s') (hs : SamePl s s' r j) (h : WrRel0 c s a r j p i o) : s'.w.heap[a.block]? = s.w.heap[a.block]? /\ WrRel0 c s' a r j p i o := by
 obtain ⟨he, hb, hw⟩ := hs;obtain ⟨⟨h1, h2⟩, lf, u, h3, h4⟩ := h;have key : s'.w.heap[a.block]? = s.w.heap[a.block]? /\ (RoS c s' a.block \/ a.block ∈ s'.bs r (j + 1)) := by
  rcases h1 with h1 | h1
  ·exact ⟨(hk _ h1 h2).2, .inl (hk _ h1 h2).1⟩
  ·exact ⟨hw _ h1, .inr (by rw [hb]; exact h1)⟩
 have hlt : a.block < s'.w.heap.size := by
  have := key.1;rw [Xt h2] at this;exact (Xv.1 this).1
 exact ⟨key.1, ⟨key.2, hlt⟩, lf, u, he _ _ h3, h4.1, fun i0 o0 z hp => (h4.2 i0 o0 z hp).keep hk hb hw⟩
theorem BorRel.keep {s s' : St} {r j : Nat} {p : List (Int × Nat)} (hk : Keeps c s s') (hs : SamePl s s' r j) (h : BorRel c s u lf r j p) : BorRel c s' u lf r j p := by
 obtain ⟨he, hb, hw⟩ := hs;obtain ⟨h1, ⟨lf', u', h2, h5⟩, h6⟩ := h;refine ⟨Rep.move (fun b hb' hl => ?_) (by simp) h1, ⟨lf', u', he _ _ h2, h5⟩, fun i o hp => ?_⟩
 ·rcases hb' with hb' | hb'
  ·exact ⟨.inl (hk b hb' hl).1, (hk b hb' hl).2⟩
  ·grind
 ·obtain ⟨a, k1, k2⟩ := h6 i o hp;obtain ⟨k3, k4⟩ := k1.keep hk ⟨he, hb, hw⟩;exact ⟨a, k4, (X1b k3).trans k2⟩
def ChgLeaf (c : Cx) (s s' : St) (g : Chg) (L : Nat -> Nat -> Prop) : Prop := ∀ u t x r j p, L r j -> BorRel c s u ⟨t, x, .bor r j p⟩ r j p -> (g.f r j p ⟨t, x, .bor r j p⟩).m.own = false /\ Held c s' u (g.f r j p ⟨t, x, .bor r j p⟩)
theorem Held.chg {s s' : St} {g : Chg} {L : Nat -> Nat -> Prop} (hk : Keeps c s s') (hg : ChgLeaf c s s' g L) (hL : ∀ q ∈ lf.refs, L q.1 q.2) (h : Held c s u lf) : Held c s' u (lf.chg g) := by
 obtain ⟨t, x, m⟩ := lf;cases m with
 | at_ lv => exact Rep.move (fun b hb hl => hk b hb hl) (by simp) h
 | bor r j p => exact (hg _ _ _ _ _ _ (hL (r, j) (by simp [Leaf.refs])) h).2
 | dead => exact h
theorem Ybc {s s' : St} {g : Chg} {L : Nat -> Nat -> Prop} (hg : ChgLeaf c s s' g L) (hL : ∀ q ∈ lf.refs, L q.1 q.2) (h : Held c s u lf) (ho : lf.m.own = false) : (lf.chg g).m.own = false := by
 obtain ⟨t, x, m⟩ := lf;cases m with
 | at_ lv => exact ho
 | bor r j p => exact (hg _ _ _ _ _ _ (hL (r, j) (by simp [Leaf.refs])) h).1
 | dead => exact ho
theorem LeafRel.of_held {r l : Nat} (ho : lf.m.own = false) (hb : s.bs r (l + 1) = []) (h : Held c s u lf) : LeafRel c s r l u lf := by
 obtain ⟨t, x, m⟩ := lf;cases m with
 | at_ lv => cases lv with
  | ro => exact ⟨hb, h⟩
  | sh => simp [Mode.own] at ho
  | dp => simp [Mode.own] at ho
  | pn _ => simp [Mode.own] at ho
 | bor r j p => exact ⟨hb, h⟩
 | dead => exact ⟨hb, h⟩
theorem LeafRel.held {r l : Nat} (h : LeafRel c s r l u lf) (ho : lf.m.own = false) : s.bs r (l + 1) = [] /\ Held c s u lf := by
 obtain ⟨t, x, m⟩ := lf;cases m with
 | at_ lv => cases lv with
  | ro => exact h
  | sh => simp [Mode.own] at ho
  | dp => simp [Mode.own] at ho
  | pn _ => simp [Mode.own] at ho
 | bor r j p => exact h
 | dead => exact h
theorem LeafRel.rep {r l : Nat} {x : t.D} (h : LeafRel c s r l u ⟨t, x, .at_ lv⟩) : Rep (RoS c s) s.w t lv [u] x (s.bs r (l + 1)) := by
 cases lv with
 | ro => obtain ⟨h1, h2⟩ := h; rw [h1]; exact h2
 | sh => exact h.1
 | dp => exact h.1
 | pn _ => exact h.1
theorem LeafRel.pin {r l : Nat} {x : t.D} (h : LeafRel c s r l u ⟨t, x, .at_ lv⟩) : lv.pinOk c u := by
 cases lv with
 | ro => trivial
 | sh => trivial
 | dp => trivial
 | pn _ => exact h.2
theorem LeafRel.of_rep {r l : Nat} {x : t.D} (hp : lv.pinOk c u) (h : Rep (RoS c s) s.w t lv [u] x (s.bs r (l + 1))) : LeafRel c s r l u ⟨t, x, .at_ lv⟩ := by
 cases lv with
 | ro =>
  have := Rep.ro_bs h;exact ⟨this, by rw [this] at h; exact h⟩
 | sh => exact ⟨h, hp⟩
 | dp => exact ⟨h, hp⟩
 | pn _ => exact ⟨h, hp⟩
theorem LeafRel.chg {s s' : St} {g : Chg} {L : Nat -> Nat -> Prop} {r r' l : Nat} (hk : Keeps c s s') (hg : ChgLeaf c s s' g L) (hL : ∀ q ∈ lf.refs, L q.1 q.2) (hb : s'.bs r' (l + 1) = s.bs r (l + 1)) (ho : ∀ b ∈ s.bs r (l + 1), s'.w.heap[b]? = s.w.heap[b]?)
  (h : LeafRel c s r l u lf) : LeafRel c s' r' l u (lf.chg g) := by
 by_cases hm : lf.m.own = false
 ·obtain ⟨h1, h2⟩ := h.held hm;exact LeafRel.of_held (Ybc hg hL h2 hm) (hb.trans h1) (h2.chg hk hg hL)
 ·obtain ⟨t, x, m⟩ := lf;cases m with
  | at_ lv =>
   have h1 := h.rep;exact LeafRel.of_rep h.pin (by rw [hb]; exact Rep.move (fun b hb hl => hk b hb hl) ho h1)
  | bor r j p => simp [Mode.own] at hm
  | dead => simp [Mode.own] at hm
theorem PtrRel.keep {s s' : St} {r off : Nat} (hs : SamePtr s s' r) (h : PtrRel s r off v) : PtrRel s' r off v := by
 obtain ⟨e, ls, B, h1, h2, h3⟩ := h;obtain ⟨e', ls', h1'⟩ := hs.2 e ls h1;exact ⟨e', ls', B, h1', by rw [hs.1]; exact h2, h3⟩
theorem PtrRels.keep {s s' : St} : ∀ {cs : List (Nat × Nat)} {vs : List Value}, (∀ r ∈ cs.map (·.1), SamePtr s s' r) -> PtrRels s cs vs -> PtrRels s' cs vs
 | [], _, _, h => h
 | c :: cs, vs, hs, ⟨v, vs', e, h1, h2⟩ => ⟨v, vs', e, h1.keep (hs _ (by simp)), h2.keep (fun r hr => hs r (by simp at hr ⊢; exact .inr hr))⟩
theorem CapRels.keep {s s' : St} (hk : Keeps c s s') : ∀ {cs : List Cap} {us : List Value}, (∀ r ∈ capRoots cs, SamePtr s s' r) -> CapRels c s v cs us -> CapRels c s' v cs us
 | [], _, _, h => h
 | cp :: cs, us, hs, ⟨u, us', e, h1, h2⟩ => by
  refine ⟨u, us', e, ?_, h2.keep hk (fun r hr => hs r (by simp [capRoots]; exact .inr hr))⟩;cases cp with
  | path r off => exact PtrRel.keep (hs r (by simp [capRoots, Cap.roots])) h1
  | ro x => exact PtrV.move hk h1
  | self => exact h1
theorem SelfAt.keep {s s' : St} {caps : List Cap} (hk : Keeps c s s') (hs : ∀ r ∈ capRoots caps, SamePtr s s' r) (h : SelfAt c s f caps v us) : SelfAt c s' f caps v us := by
 obtain ⟨B, h1, h2, h3, h4, h5⟩ := h;obtain ⟨k1, k2⟩ := hk B h2 h3;have hlt : B < s'.w.heap.size := by grind
 exact ⟨B, h1, k1, hlt, (X1b k2).trans h4, h5.keep hk hs⟩
def ChgWr (c : Cx) (s s' : St) (g : Chg) (L : Nat -> Nat -> Prop) : Prop := ∀ a r j p i o, L r j -> WrRel c s a (some (r, j, p, i, o)) ->
 if g.wf r j then (g.lose = true \/ (s'.w.heap[a.block]? = s.w.heap[a.block]? /\ RoS c s' a.block /\ a.block < s'.w.heap.size)) else (s'.w.heap[a.block]? = s.w.heap[a.block]? /\ WrRel c s' a (some (r, j, p, i, o)))
def ChgPtr (s s' : St) (g : Chg) (Lp : Nat -> Prop) : Prop := ∀ r, Lp r -> g.pk r = false -> SamePtr s s' r
theorem BorRel.keepN {s s' : St} {r j : Nat} {i : Int} (hk : Keeps c s s') (hw : ∀ (a : Addr) p i o, WrRel0 c s a r j p i o -> s'.w.heap[a.block]? = s.w.heap[a.block]? /\ WrRel0 c s' a r j p i o) (h : BorRel c s u lf r j [(i, 0)]) : BorRel c s' u lf r j [(i, 0)] := by
 obtain ⟨h1, ⟨lf', u', h2, h5⟩, h6⟩ := h;have key : ∀ b, (RoS c s b \/ b ∈ s.bs r (j + 1)) -> b < s.w.heap.size -> s'.w.heap[b]? = s.w.heap[b]? /\ WrRel0 c s' ⟨b, 0, none⟩ r j [(i, 0), (0, 0), (0, 0)] 0 0 := fun b hb hl => hw ⟨b, 0, none⟩ [(i, 0), (0, 0), (0, 0)] 0 0 ⟨⟨hb, hl⟩, lf', u', h2, (fun e => by cases e), fun _ _ _ e => by cases e⟩;have own : ∃ lf2 u2, OwnPlace s' r j lf2 u2 := by
  obtain ⟨a, k1, _⟩ := h6 i 0 rfl;obtain ⟨_, _, lf2, u2, k2, _⟩ := hw a [] i 0 k1;exact ⟨lf2, u2, k2⟩
 obtain ⟨lf2, u2, hown⟩ := own;refine ⟨Rep.move (fun b hb hl => ?_) (by simp) h1, ⟨lf2, u2, hown, fun e => by cases e⟩, fun i' o hp => ?_⟩
 ·obtain ⟨k1, ⟨k2, _⟩, _⟩ := key b hb hl;exact ⟨k2, k1⟩
 ·obtain ⟨a, k1, k2⟩ := h6 i' o hp;obtain ⟨k3, k4⟩ := hw a [] i' o k1;exact ⟨a, k4, (X1b k3).trans k2⟩
theorem SelRel.keepN {s s' : St} {r j : Nat} {e e2 : TypeId} {ix : List Int} {x : List (List t.D)} (hk : Keeps c s s') (hw : ∀ (a : Addr) p i o, WrRel0 c s a r j p i o -> s'.w.heap[a.block]? = s.w.heap[a.block]? /\ WrRel0 c s' a r j p i o)
  (ho : ∀ b, v.ownBlock = some b -> s'.w.heap[b]? = s.w.heap[b]?) (h : SelRel c s r j e e2 t ix x v) : SelRel c s' r j e e2 t ix x v := by
 obtain ⟨⟨a, h0⟩, xs, h1, h2, h3, h4⟩ := h;refine ⟨⟨a, (hw a _ _ _ h0).2⟩, xs, Y3h h1 ho, h2, h3, fun k i y hi hy => ?_⟩;obtain ⟨u, hu, hb⟩ := h4 k i y hi hy;exact ⟨u, hu, hb.keepN hk hw⟩
theorem AVRel.chg {s s' : St} {g : Chg} {L : Nat -> Nat -> Prop} {Lp : Nat -> Prop} {r r1 : Nat} (hk : Keeps c s s') (hg : ChgLeaf c s s' g L) (hw : ChgWr c s s' g L) (hp : ChgPtr s s' g Lp)
  (hL : ∀ q ∈ av.refs, L q.1 q.2) (hLp : ∀ q ∈ av.ptrs, Lp q)
  (hc : s'.cs r1 = s.cs r) (hb : s'.bs r1 = s.bs r) (ho : ∀ l, ∀ b ∈ s.bs r l, s'.w.heap[b]? = s.w.heap[b]?) (h : AVRel c s r av v) : AVRel c s' r1 (av.chg g) v := by
 cases av with
 | undef => simpa [AVRel, AV.chg, hb] using h
 | skip => simpa [AVRel, AV.chg, hb] using h
 | con k ls =>
  obtain ⟨h1, h2, h3, h4⟩ := h;refine ⟨?_, by rw [hc, Yr]; exact h2, by rw [hb, Yr]; exact h3, fun l lf u hl hu => ?_⟩
  ·rw [hc, hb];cases k with
   | val => exact h1
   | agg => exact h1
   | tup sh => exact h1
   | tupB id n sh =>
    obtain ⟨B, vs, c0, c1, e1, e2, e3, e4, e5, e6⟩ := h1;exact ⟨B, vs, c0, c1, e1, e2, e3, (ho 0 B (by rw [e5]; simp)).trans e4, e5, e6⟩
   | box e =>
    obtain ⟨B, e1, e2, e3, e4⟩ := h1;exact ⟨B, e1, (ho 0 B (by rw [e3]; simp)).trans e2, e3, e4⟩
  ·rw [hc] at hu;rw [Yh] at hl;obtain ⟨lf0, hl0, rfl⟩ := Xu.1 hl;exact (h4 l lf0 u hl0 hu).chg hk hg (fun q hq => hL q (by simp only [AV.refs, Xj]; exact ⟨lf0, Yb hl0, hq⟩)) (by rw [hb]) (ho _)
 | path r' off =>
  simp only [AV.chg];cases hpk : g.pk r' with
  | true => simp only [X1p]; intro l; rw [hb]; exact h.1 l
  | false => simp only [Xl, X18]; exact ⟨by rw [hb]; exact h.1, h.2.keep (hp r' (hLp _ (by simp [AV.ptrs])) hpk)⟩
 | eptr ls wr =>
  obtain ⟨h1, a, h2, h3, h4⟩ := h;have leaves (hblk : s'.w.heap[a.block]? = s.w.heap[a.block]?) : ∀ l lf, leafAt (chgs g ls) l = some lf -> lf.m.own = false /\ ∃ u, s'.w.cell? (a.add l) = some u /\ Held c s' u lf := by
   intro l lf hl;rw [Yh] at hl;obtain ⟨lf0, hl0, rfl⟩ := Xu.1 hl;obtain ⟨hm, u, hu, hh⟩ := h3 l lf0 hl0;have hL0 : ∀ q ∈ lf0.refs, L q.1 q.2 := fun q hq => hL q (by simp only [AV.refs, X5, Xj]; exact .inl ⟨lf0, Yb hl0, hq⟩);exact ⟨Ybc hg hL0 hh hm, u, (X1b (by rw [Addr.add_block]; exact hblk)).trans hu, hh.chg hk hg hL0⟩
  cases wr with
  | none =>
   obtain ⟨k1, k2⟩ := hk _ h4.1 h4.2;have hlt : a.block < s'.w.heap.size := by
    rw [Xt h4.2] at k2;exact (Xv.1 k2).1
   exact ⟨by rw [hb]; exact h1, a, h2, leaves k2, k1, hlt⟩
  | some q =>
   obtain ⟨r', j, p, i, o⟩ := q;have := hw a r' j p i o (hL (r', j) (by simp [AV.refs])) h4;simp only [AV.chg];cases hwf : g.wf r' j with
   | false =>
    rw [hwf] at this;simp only [Xl, X18] at this ⊢;exact ⟨by rw [hb]; exact h1, a, h2, leaves this.1, this.2⟩
   | true =>
    rw [hwf] at this;simp only [X1p] at this ⊢;cases hlo : g.lose with
    | true => simp only [X1p]; intro l; rw [hb]; exact h1 l
    | false =>
     rw [hlo] at this;simp only [Xl, X18, false_or] at this ⊢;exact ⟨by rw [hb]; exact h1, a, h2, leaves this.1, this.2⟩
 | cloR f xs =>
  obtain ⟨h1, vs, h2, h3⟩ := h;exact ⟨by rw [hb]; exact h1, vs, h2, h3.move hk⟩
 | fptr f caps =>
  obtain ⟨h1, us, h2⟩ := h;simp only [AV.chg];cases hpk : (capRoots caps).any g.pk with
  | true => simp only [X1p]; intro l; rw [hb]; exact h1 l
  | false =>
   simp only [Xl, X18];rw [X2e] at hpk;exact ⟨by rw [hb]; exact h1, us, h2.keep hk (fun r' hr' => hp r' (hLp _ hr') (by simpa using hpk r' hr'))⟩
 | cloS f caps =>
  obtain ⟨h1, v0, us, e0, h2⟩ := h;simp only [AV.chg];cases hpk : (capRoots caps).any g.pk with
  | true => simp only [X1p]; intro l; rw [hb]; exact h1 l
  | false =>
   simp only [Xl, X18];rw [X2e] at hpk;exact ⟨by rw [hb]; exact h1, v0, us, e0, h2.keep hk (fun r' hr' => hp r' (hLp _ hr') (by simpa using hpk r' hr'))⟩
 | junk => show ∀ k, _ = _; rw [hb]; exact h
 | part e t x n =>
  obtain ⟨h1, h2, A, cp, xs, e1, e2, e3, e4⟩ := h;refine ⟨by rw [hb]; exact h1, h2, A, cp, xs, e1, e2, fun j u hu => ?_, ?_⟩
  ·obtain ⟨a, k1, k2, k3, k4⟩ := e3 j u hu;obtain ⟨m1, m2⟩ := hk _ k2 k3;have hlt : a.block < s'.w.heap.size := by
    rw [Xt k3] at m2;exact (Xv.1 m2).1
   exact ⟨a, k1, m1, hlt, (X1b (by rw [Addr.add_block]; exact m2)).trans k4⟩
  ·rw [hb];exact El.imp (fun c0 x0 b0 hb0 h0 => Rep.move hk (fun b hb' => ho 0 b (hb0 b hb')) h0) e4
 | eown ls =>
  obtain ⟨h1, a, bds, k1, k2, k3, k4, k5, k6⟩ := h;obtain ⟨m1, m2⟩ := hk _ k2 k3;have hlt : a.block < s'.w.heap.size := by
   rw [Xt k3] at m2;exact (Xv.1 m2).1
  refine ⟨by rw [hb]; exact h1, a, bds, k1, m1, hlt, by rw [hb]; exact k4, k5, fun l lf hl => ?_⟩;obtain ⟨u, m, g1, g2, g3, g4⟩ := k6 l lf hl;refine ⟨u, m, (X1b (by rw [Addr.add_block]; exact m2)).trans g1, g2, g3, Rep.move hk (fun b hb' => ho 0 b ?_) g4⟩;rw [k4, X35];rw [Xh] at hb';cases hbl : bds[l]? with
  | none => rw [hbl] at hb'; simp at hb'
  | some q => rw [hbl] at hb'; exact ⟨q, X8 hbl, hb'⟩
 | sel r' j e e2 t ix x =>
  obtain ⟨⟨h1, h2⟩, h3⟩ := h;have hL0 : L r' j := hL (r', j) (by simp [AV.refs]);simp only [AV.chg];cases hwf : g.wf r' j with
  | true => simp only [X1p]; show ∀ k, _ = _; rw [hb]; exact h1
  | false =>
   simp only [Xl, X18];have k4 : ∀ (a : Addr) p i o, WrRel0 c s a r' j p i o -> s'.w.heap[a.block]? = s.w.heap[a.block]? /\ WrRel0 c s' a r' j p i o := fun a p i o h4 => by
    have := hw a r' j p i o hL0 h4;rw [hwf] at this;simp only [Xl, X18] at this;exact this
   exact ⟨⟨by rw [hb]; exact h1, by rw [hb]; exact h2⟩, h3.keepN hk k4 (fun b hb' => ho 0 b (by rw [h2]; exact Ys.2 hb'))⟩
 | grow r' j i o l =>
  obtain ⟨h1, h2, h3, a, u, h4, h5, h6⟩ := h;have hL0 : L r' j := hL (r', j) (by simp [AV.refs]);have k4 := hw a r' j [] i o hL0 h4;simp only [AV.chg];cases hwf : g.wf r' j with
  | true => simp only [X1p]; show ∀ k, _ = _; rw [hb]; exact h1
  | false =>
   rw [hwf] at k4;simp only [Xl, X18] at k4 ⊢;have k6 : ∀ b, s.bs r 0 = [] -> (∀ b, v.ownBlock = some b -> WrRel0 c s ⟨b, 0, none⟩ r' j [(i, o), (0, 0), (0, 0)] 0 0) -> v.ownBlock = some b -> s'.w.heap[b]? = s.w.heap[b]? /\ WrRel0 c s' ⟨b, 0, none⟩ r' j [(i, o), (0, 0), (0, 0)] 0 0 := by
    intro b _ hh hb';have := hw _ r' j _ _ _ hL0 (hh b hb');rw [hwf] at this;simp only [Xl, X18] at this;exact this
   refine ⟨by rw [hb]; exact h1, h2, Rep.move (S := fun _ => False) (fun _ hf => absurd hf id) (fun b hb' => ?_) h3, a, u, k4.2, (X1b k4.1).trans h5, ?_⟩
   ·rcases h6 with h6 | ⟨h6, h7, h8⟩
    ·exact ho 0 b (by rw [h6]; exact hb')
    ·exact (k6 b h6 h8 (Ys.1 hb')).1
   ·rcases h6 with h6 | ⟨h6, h7, h8⟩
    ·exact .inl (by rw [hb]; exact h6)
    ·exact .inr ⟨by rw [hb]; exact h6, h7, fun b hb' => (k6 b h6 h8 hb').2⟩
 | clo f caps =>
  obtain ⟨h1, vs, h2, h3⟩ := h;simp only [AV.chg];cases hpk : caps.any (fun c => g.pk c.1) with
  | true => simp only [X1p]; intro l; rw [hb]; exact h1 l
  | false =>
   simp only [Xl, X18];refine ⟨by rw [hb]; exact h1, vs, h2, h3.keep (fun r' hr' => hp r' (hLp _ (by simpa [AV.ptrs] using hr')) ?_)⟩;simp only [X2e] at hpk;obtain ⟨q, hq, rfl⟩ := X19.1 hr';simpa using hpk q hq
def noG : Chg := ⟨fun _ _ _ l => l, fun _ _ => false, false, fun _ => false⟩
theorem Y82 : ∀ ls : List Leaf, chgs noG ls = ls
 | [] => rfl
 | l :: ls => by
  obtain ⟨t, x, m⟩ := l;rw [chgs, Y82 ls];cases m <;> rfl
theorem AV.chg_no (v : AV) : v.chg noG = v := by
 cases v with
 | con k ls => simp [AV.chg, Y82]
 | path r off => simp [AV.chg, noG]
 | eptr ls wr => cases wr <;> simp [AV.chg, Y82] <;> simp [noG]
 | clo f caps => simp [AV.chg, noG]
 | fptr f caps => simp [AV.chg, noG]
 | cloS f caps => simp [AV.chg, noG]
 | sel r j e e2 t ix x => simp [AV.chg, noG]
 | grow r j i o l => simp [AV.chg, noG]
 | _ => rfl
theorem OwnPlace.loud {r j : Nat} (h : OwnPlace s r j lf u) : (s.env r).quiet = false := by
 obtain ⟨h2, h3, _⟩ := h;cases hv : s.env r with
 | con k ls =>
  rw [hv] at h2;have hm := Yb h2;cases k <;> simp only [AV.quiet] <;> first | rfl | (rw [List.all_eq_false]; exact ⟨lf, hm, by simp [h3]⟩)
 | _ => rw [hv] at h2; simp [AV.leaf?] at h2
theorem PtrRel.loud {r off : Nat} (h : PtrRel s r off v) : (s.env r).quiet = false := by
 obtain ⟨e, ls, B, h1, _⟩ := h;rw [h1];rfl
theorem PtrRels.mem {r' : Nat} : ∀ {cs : List (Nat × Nat)} {vs : List Value}, PtrRels s cs vs -> r' ∈ cs.map (·.1) -> ∃ off v, PtrRel s r' off v
 | [], _, _, hr => by simp at hr
 | c :: cs, vs, ⟨v, vs', e, h1, h2⟩, hr => by
  simp only [X1y, Xq] at hr;rcases hr with rfl | hr
  ·grind
  ·exact h2.mem hr
theorem CapRels.mem {r' : Nat} : ∀ {cs : List Cap} {us : List Value}, CapRels c s v cs us -> r' ∈ capRoots cs -> ∃ off v, PtrRel s r' off v
 | [], _, _, hr => by simp [capRoots] at hr
 | cp :: cs, us, ⟨u, us', e, h1, h2⟩, hr => by
  simp [capRoots] at hr;rcases hr with hr | hr
  ·cases cp with
   | path r off => simp [Cap.roots] at hr; subst hr; exact ⟨_, _, h1⟩
   | ro x => simp [Cap.roots] at hr
   | self => simp [Cap.roots] at hr
  ·exact h2.mem hr
theorem AVRel.refs_own {r : Nat} (h : AVRel c s r av v) : (∀ q ∈ av.refs, ∃ lf u, OwnPlace s q.1 q.2 lf u) /\ (∀ q ∈ av.ptrs, ∃ off v, PtrRel s q off v) := by
 have hbor : ∀ (u : Value) (lf : Leaf), Held c s u lf -> ∀ q ∈ lf.refs, ∃ lf u, OwnPlace s q.1 q.2 lf u := by
  intro u lf hh q hq;obtain ⟨t, x, m⟩ := lf;cases m with
  | at_ _ => simp [Leaf.refs] at hq
  | dead => simp [Leaf.refs] at hq
  | bor r1 j p =>
   simp only [Leaf.refs, Xb] at hq;subst hq;obtain ⟨_, ⟨lf', u', h2, _⟩, _⟩ := hh;exact ⟨lf', u', h2⟩
 cases av with
 | undef => exact ⟨by simp [AV.refs], by simp [AV.ptrs]⟩
 | skip => exact ⟨by simp [AV.refs], by simp [AV.ptrs]⟩
 | con k ls =>
  refine ⟨fun q hq => ?_, by simp [AV.ptrs]⟩;simp only [AV.refs, Xj] at hq;obtain ⟨lf, hm, hq⟩ := hq;obtain ⟨l, hl⟩ := Xw hm;obtain ⟨h1, h2, h3, h4⟩ := h;have hlt : l < (s.cs r).length := by rw [<- h2]; exact (X6.1 hl).1
  have := h4 l lf _ (by rw [Y1]; exact hl) (X1 hlt);refine hbor (s.cs r)[l] lf ?_ q hq;obtain ⟨t, x, m⟩ := lf;cases m with
  | at_ _ => simp [Leaf.refs] at hq
  | dead => simp [Leaf.refs] at hq
  | bor _ _ _ => exact this.2
 | path r1 off =>
  refine ⟨by simp [AV.refs], fun q hq => ?_⟩;simp only [AV.ptrs, Xb] at hq;subst hq;exact ⟨_, _, h.2⟩
 | eptr ls wr =>
  refine ⟨fun q hq => ?_, by simp [AV.ptrs]⟩;simp only [AV.refs, X5, Xj] at hq;obtain ⟨h1, a, h2, h3, h4⟩ := h;rcases hq with ⟨lf, hm, hq⟩ | hq
  ·obtain ⟨l, hl⟩ := Xw hm;obtain ⟨_, u, _, hh⟩ := h3 l lf (by rw [Y1]; exact hl);exact hbor u lf hh q hq
  ·cases wr with
   | none => simp at hq
   | some w =>
    obtain ⟨r1, j, p, i, o⟩ := w;simp only [Xb] at hq;subst hq;obtain ⟨_, lf, u, g2, _⟩ := h4;exact ⟨lf, u, g2⟩
 | cloR f xs => exact ⟨by simp [AV.refs], by simp [AV.ptrs]⟩
 | fptr f caps =>
  obtain ⟨_, us, B, _, _, _, _, h3⟩ := h;exact ⟨by simp [AV.refs], fun q hq => h3.mem hq⟩
 | cloS f caps =>
  obtain ⟨_, v0, us, _, B, _, _, _, _, h3⟩ := h;exact ⟨by simp [AV.refs], fun q hq => h3.mem hq⟩
 | junk => exact ⟨by simp [AV.refs], by simp [AV.ptrs]⟩
 | part e t x n => exact ⟨by simp [AV.refs], by simp [AV.ptrs]⟩
 | eown ls => exact ⟨by simp [AV.refs], by simp [AV.ptrs]⟩
 | sel r' j e e2 t ix x =>
  refine ⟨fun q hq => ?_, by simp [AV.ptrs]⟩;simp only [AV.refs, Xb] at hq;subst hq;obtain ⟨_, ⟨a, _, lf, u, g, _⟩, _⟩ := h;exact ⟨lf, u, g⟩
 | grow r' j i o l =>
  refine ⟨fun q hq => ?_, by simp [AV.ptrs]⟩;simp only [AV.refs, Xb] at hq;subst hq;obtain ⟨_, _, _, a, u, h4, _⟩ := h;obtain ⟨_, lf, u', h, _⟩ := h4;exact ⟨lf, u', h⟩
 | clo f caps =>
  obtain ⟨_, vs, _, h3⟩ := h;exact ⟨by simp [AV.refs], fun q hq => h3.mem (by simpa [AV.ptrs] using hq)⟩
theorem Rel.step {s s' : St} (g : Chg) (h : Rel c s) (D : Nat -> Prop) (L : Nat -> Nat -> Prop) (Lp : Nat -> Prop)
  (hsame : ∀ r, ¬ D r -> s'.env r = (s.env r).chg g /\ s'.tm r = s.tm r /\ s'.cs r = s.cs r /\ s'.bs r = s.bs r)
  (hbelow : Below c.base s.w s'.w)
  (hheap : ∀ b, b < s.w.heap.size -> (∀ r l, D r -> b ∉ s.bs r l) -> s'.w.heap[b]? = s.w.heap[b]?)
  (hnew : ∀ r l b, D r -> b ∈ s'.bs r l -> b < s'.w.heap.size /\ (s.w.heap.size <= b \/ ∃ r' l', D r' /\ b ∈ s.bs r' l'))
  (hdisj : ∀ r l r' l' b, D r -> D r' -> b ∈ s'.bs r l -> b ∈ s'.bs r' l' -> r = r' /\ l = l')
  (hnodup : ∀ r l, D r -> (s'.bs r l).Nodup)
  (hL : ∀ r, ¬ D r -> (∀ q ∈ (s.env r).refs, L q.1 q.2) /\ (∀ q ∈ (s.env r).ptrs, Lp q))
  (hg : Keeps c s s' -> ChgLeaf c s s' g L /\ ChgWr c s s' g L /\ ChgPtr s s' g Lp)
  (hav : Keeps c s s' -> ∀ r, D r -> AVRel c s' r (s'.env r) (s'.tm r)) : Rel c s' := by
 classical
 have keeps : Keeps c s s' := by
  intro b hb hl;refine ⟨⟨fun r l hm => ?_, hb.2⟩, hheap b hl (fun r l _ => hb.1 r l)⟩;by_cases hD : D r
  ·rcases (hnew r l b hD hm).2 with h1 | ⟨r', l', _, h2⟩
   ·omega
   ·exact hb.1 _ _ h2
  ·rw [(hsame r hD).2.2.2] at hm;exact hb.1 _ _ hm
 obtain ⟨hg1, hg2, hg3⟩ := hg keeps;refine ⟨h.below.trans hbelow, Nat.le_trans h.base hbelow.size, fun r l b hb => ?_, fun r l r' l' b hb hb' => ?_, fun r l => ?_, fun r => ?_, fun b hb => ?_⟩
 ·by_cases hD : D r
  ·obtain ⟨h1, h2⟩ := hnew r l b hD hb;refine ⟨?_, h1⟩;rcases h2 with h2 | ⟨r', l', _, h2⟩
   ·exact h.mine_new h2
   ·exact (h.own _ _ _ h2).1
  ·rw [(hsame r hD).2.2.2] at hb;exact ⟨(h.own r l b hb).1, X1e (h.own r l b hb).2 hbelow.size⟩
 ·by_cases hD : D r <;> by_cases hD' : D r'
  ·grind
  ·rw [(hsame r' hD').2.2.2] at hb';exfalso;rcases (hnew r l b hD hb).2 with h1 | ⟨r2, l2, h3, h4⟩
   ·have := (h.own _ _ _ hb').2; omega
   ·obtain ⟨rfl, _⟩ := h.disj _ _ _ _ _ h4 hb';exact hD' h3
  ·rw [(hsame r hD).2.2.2] at hb;exfalso;rcases (hnew r' l' b hD' hb').2 with h1 | ⟨r2, l2, h3, h4⟩
   ·have := (h.own _ _ _ hb).2; omega
   ·obtain ⟨rfl, _⟩ := h.disj _ _ _ _ _ h4 hb;exact hD h3
  ·rw [(hsame r hD).2.2.2] at hb;rw [(hsame r' hD').2.2.2] at hb';exact h.disj _ _ _ _ _ hb hb'
 ·by_cases hD : D r
  ·grind
  ·rw [(hsame r hD).2.2.2]; exact h.nodup r l
 ·by_cases hD : D r
  ·grind
  ·obtain ⟨e1, e2, e3, e4⟩ := hsame r hD;rw [e1, e2];refine (h.av r).chg keeps hg1 hg2 hg3 (hL r hD).1 (hL r hD).2 e3 e4 (fun l b hb => hheap b (h.own _ _ _ hb).2 (fun r' l' hD' hb' => ?_));obtain ⟨rfl, _⟩ := h.disj _ _ _ _ _ hb hb';exact hD hD'
 ·obtain ⟨f1, f2, f3⟩ := h.froz b hb;refine ⟨X1e f1 hbelow.size, fun r l hm => ?_, (hheap b f1 (fun r l _ => f2 r l)).trans f3⟩;by_cases hD : D r
  ·grind
  ·simp_all
def upd {α : Type} (f : Nat -> α) (d : Nat) (a : α) : Nat -> α := fun r => if r = d then a else f r
theorem Y0 {α : Type} (f : Nat -> α) (d : Nat) (a : α) : upd f d a d = a := by simp [upd]
theorem Y2 {α : Type} (f : Nat -> α) {d r : Nat} (a : α) (h : r ≠ d) : upd f d a r = f r := by simp [upd, h]
theorem OwnPlace.chg {s s' : St} {g : Chg} {r j : Nat} (he : s'.env r = (s.env r).chg g) (hc : s'.cs r = s.cs r) (h : OwnPlace s r j lf u) : OwnPlace s' r j lf u := by
 obtain ⟨h1, h2, h3⟩ := h;refine ⟨?_, h2, by grind⟩;cases hv : s.env r with
 | con k ls =>
  rw [hv] at h1;rw [he, hv];simp only [AV.chg, AV.leaf?] at h1 ⊢;rw [Yh, h1];obtain ⟨t, x, m⟩ := lf;cases m with
  | at_ lv => rfl
  | bor _ _ _ => simp [Mode.own] at h2
  | dead => simp [Mode.own] at h2
 | _ => rw [hv] at h1; simp [AV.leaf?] at h1
theorem SamePtr.chg {s s' : St} {g : Chg} {r : Nat} (he : s'.env r = (s.env r).chg g) (ht : s'.tm r = s.tm r) : SamePtr s s' r :=
 ⟨ht, fun e ls h => ⟨e, _, by rw [he, h]; rfl⟩⟩
theorem WrRel.blk {s s' : St} {a : Addr} {r j : Nat} {p : List (Int × Nat)} {i : Int} {o : Nat} (hk : Keeps c s s') (hw : ∀ b ∈ s.bs r (j + 1), s'.w.heap[b]? = s.w.heap[b]?) (h : WrRel c s a (some (r, j, p, i, o))) : s'.w.heap[a.block]? = s.w.heap[a.block]? /\ a.block < s'.w.heap.size := by
 obtain ⟨⟨h1, h2⟩, _⟩ := h;have : s'.w.heap[a.block]? = s.w.heap[a.block]? := h1.elim (fun h => (hk _ h h2).2) (hw _);refine ⟨this, ?_⟩;rw [Xt h2] at this;exact (Xv.1 this).1
theorem WrRel.chg {s s' : St} {a : Addr} {r j : Nat} {p : List (Int × Nat)} {i : Int} {o : Nat} (hk : Keeps c s s') (hp : ∀ lf u, OwnPlace s r j lf u -> OwnPlace s' r j lf u) (hb : s'.bs r (j + 1) = s.bs r (j + 1)) (hw : ∀ b ∈ s.bs r (j + 1), s'.w.heap[b]? = s.w.heap[b]?) (h : WrRel c s a (some (r, j, p, i, o))) : WrRel c s' a (some (r, j, p, i, o)) := by
 have hblk := h.blk hk hw;obtain ⟨⟨h1, h2⟩, lf, u, h3, h4⟩ := h;exact ⟨⟨h1.imp (fun h => (hk _ h h2).1) (fun h => by rw [hb]; exact h), hblk.2⟩, lf, u, hp _ _ h3, h4.1, fun i0 o0 z he => (h4.2 i0 o0 z he).keep hk hb hw⟩
theorem Yq {s s' : St} {L : Nat -> Nat -> Prop} (hk : Keeps c s s') (h : ∀ r j, L r j -> SamePl s s' r j) : ChgLeaf c s s' noG L :=
 fun u t x r j p hL hb => ⟨rfl, hb.keep hk (h r j hL)⟩
theorem Y15 {s s' : St} {L : Nat -> Nat -> Prop} (hk : Keeps c s s') (h : ∀ r j, L r j -> SamePl s s' r j) : ChgWr c s s' noG L := by
 intro a r j p i o hL hw;simp [noG];obtain ⟨h1, h2, h3⟩ := h r j hL;exact ⟨(hw.blk hk h3).1, hw.chg hk h1 h2 h3⟩
theorem Rel.world (h : Rel c s) (hb : Below s.w.heap.size s.w w') : Rel c { s with w := w' } := by
 refine Rel.step (s' := { s with w := w' }) noG h (fun _ => False) (fun _ _ => True) (fun _ => True) (fun r _ => ⟨(AV.chg_no _).symm, rfl, rfl, rfl⟩) (hb.mono h.base) (fun b hl _ => hb.block b hl)
  (fun r l b hD => hD.elim) (fun r l r' l' b hD => hD.elim) (fun r l hD => hD.elim) (fun r _ => ⟨fun _ _ => trivial, fun _ _ => trivial⟩) (fun hk => ?_) (fun _ r hD => hD.elim)
 have hp : ∀ r j, True -> SamePl s { s with w := w' } r j := fun r j _ => ⟨fun _ _ h => h, rfl, fun b hb' => hb.block b (h.own _ _ _ hb').2⟩;exact ⟨Yq hk hp, Y15 hk hp, fun r _ _ => ⟨rfl, fun e ls h => ⟨e, ls, h⟩⟩⟩
def updP (f : Nat -> Nat -> List Nat) (d j : Nat) (a : List Nat) : Nat -> Nat -> List Nat := fun r l => if r = d /\ l = j then a else f r l
theorem Y1z (f : Nat -> Nat -> List Nat) {d r : Nat} (j : Nat) (a : List Nat) (h : r ≠ d) : updP f d j a r = f r := by funext l; simp [updP, h]
def forgetE (d : Nat) (E : Nat -> AV) : Nat -> AV := upd (fun r => (E r).chg (forgetG d)) d .undef
theorem Rel.forget_ (h : Rel c s) (d : Nat) : Rel c { s with env := forgetE d s.env, bs := upd s.bs d (fun _ => []) } := by
 have hget : ∀ r, r ≠ d -> forgetE d s.env r = (s.env r).chg (forgetG d) := fun r hr => Y2 _ _ hr;have hgd : forgetE d s.env d = .undef := Y0 _ _ _;refine Rel.step (s' := { s with env := forgetE d s.env, bs := upd s.bs d (fun _ => []) }) (forgetG d) h (fun r => r = d) (fun _ _ => True) (fun _ => True)
  (fun r hr => ⟨hget r hr, rfl, rfl, Y2 _ _ hr⟩) (X1g _ _) (fun b _ _ => rfl)
  (fun r l b hD hb => by subst hD; simp [upd] at hb) (fun r l r' l' b hD _ hb => by subst hD; simp [upd] at hb) (fun r l hD => by subst hD; simp [upd])
  (fun r _ => ⟨fun _ _ => trivial, fun _ _ => trivial⟩) (fun hk => ?_) (fun _ r hD => ?_)
 ·have hun : ∀ l b, b ∈ s.bs d l -> RoS c { s with env := forgetE d s.env, bs := upd s.bs d (fun _ => []) } b := by
   intro l b hb;refine ⟨fun r' l' hb' => ?_, .inr (h.own _ _ _ hb).1⟩;by_cases hr : r' = d
   ·subst hr; simp only [Y0] at hb'; simp at hb'
   ·simp only [Y2 _ _ hr] at hb';exact hr (h.disj _ _ _ _ _ hb' hb).1
  refine ⟨fun u t x r j p _ hb => ?_, fun a r j p i o _ hw => ?_, fun r _ hpk => ?_⟩
  ·by_cases hr : r = d
   ·subst hr;simp [forgetG];refine ⟨rfl, Rep.move (fun b hb' hl => ⟨?_, rfl⟩) (by simp) hb.1⟩;rcases hb' with hb' | hb'
    ·exact (hk b hb' hl).1
    ·grind
   ·simp only [forgetG, X2 hr];exact ⟨rfl, hb.keep hk ⟨fun lf u ho => ho.chg (hget r hr) rfl, by simp only [Y2 _ _ hr], fun _ _ => rfl⟩⟩
  ·by_cases hr : r = d
   ·subst hr;simp only [forgetG, beq_self_eq_true, X1p];exact .inr ⟨by trivial, hw.1.1.elim (fun h => (hk _ h hw.1.2).1) (hun _ _), hw.1.2⟩
   ·have : (forgetG d).wf r j = false := by simp [forgetG, hr]
    rw [this];simp only [Xl, X18];exact ⟨by trivial, hw.chg hk (fun lf u ho => ho.chg (hget r hr) rfl) (by simp only [Y2 _ _ hr]) (fun _ _ => rfl)⟩
  ·have hr : r ≠ d := by simpa [forgetG] using hpk
   exact SamePtr.chg (hget r hr) rfl
 ·subst hD;show AVRel c _ _ (forgetE r s.env r) _;rw [hgd];intro l;simp [Y0]
def freezeE (r j : Nat) (E : Nat -> AV) : Nat -> AV :=
 match (E r).leaf? j with
 | none => E
 | some l => if l.m.own then upd (fun r' => (E r').chg (freezeG r j)) r (((E r).chg (freezeG r j)).setLeaf j l.ro) else E
def freezeAllE : List Leaf -> (Nat -> AV) -> (Nat -> AV)
 | [], E => E
 | l :: r, E => match l.m with
  | .bor r' j _ => freezeAllE r (freezeE r' j E)
  | _ => freezeAllE r E
theorem AVRel.bs_none {r j : Nat} (h : AVRel c s r av v) (hl : av.leaf? j = none) : s.bs r (j + 1) = [] := by
 cases av with
 | undef => exact h _
 | skip => exact h.2 _
 | con k ls =>
  simp only [AV.leaf?, Y1] at hl;exact h.2.2.1 j (List.getElem?_eq_none_iff.1 hl)
 | path _ _ => exact h.1 _
 | eptr _ _ => exact h.1 _
 | clo _ _ => exact h.1 _
 | cloR _ _ => exact h.1 _
 | fptr _ _ => exact h.1 _
 | cloS _ _ => exact h.1 _
 | grow _ _ _ _ _ => exact h.1 _
 | sel _ _ _ _ _ _ _ => exact h.1.1 _
 | part _ _ _ _ => exact h.1 _
 | eown ls => exact h.1 _
 | junk => exact h _
theorem AVRel.bs_leaf {r j : Nat} (h : AVRel c s r av v) (hl : av.leaf? j = some lf) (ho : lf.m.own = false) : s.bs r (j + 1) = [] := by
 cases av with
 | con k ls =>
  simp only [AV.leaf?] at hl;have hlt : j < (s.cs r).length := by
   rw [<- h.2.1];rw [Y1] at hl;exact (X6.1 hl).1
  exact ((h.2.2.2 j lf _ hl (X1 hlt)).held ho).1
 | _ => simp [AV.leaf?] at hl
theorem Rel.freeze_ (h : Rel c s) (r0 j0 : Nat) : ∃ bs', Rel c { s with env := freezeE r0 j0 s.env, bs := bs' } /\ (∀ r l b, b ∈ bs' r l -> b ∈ s.bs r l) /\ bs' r0 (j0 + 1) = [] := by
 unfold freezeE;cases hl : (s.env r0).leaf? j0 with
 | none => exact ⟨s.bs, h, fun _ _ _ h => h, (h.av r0).bs_none hl⟩
 | some l0 =>
  simp only;by_cases ho' : ¬ l0.m.own = true
  ·rw [X2 ho']; exact ⟨s.bs, h, fun _ _ _ h => h, (h.av r0).bs_leaf hl (by simpa using ho')⟩
  have ho : l0.m.own = true := by grind
  rw [X4 ho];obtain ⟨k0, ls0, hv0⟩ : ∃ k ls, s.env r0 = .con k ls := by
   cases hv : s.env r0 with
   | con k ls => exact ⟨k, ls, rfl⟩
   | _ => rw [hv] at hl; simp [AV.leaf?] at hl
  have hl' := hl;rw [hv0] at hl';simp only [AV.leaf?] at hl'
  let env2 : Nat -> AV := upd (fun r' => (s.env r').chg (freezeG r0 j0)) r0 (((s.env r0).chg (freezeG r0 j0)).setLeaf j0 l0.ro)
  let bs2 : Nat -> Nat -> List Nat := updP s.bs r0 (j0 + 1) []
  have hget : ∀ r, r ≠ r0 -> env2 r = (s.env r).chg (freezeG r0 j0) := fun r hr => Y2 _ _ hr;have hget0 : env2 r0 = .con k0 (setAt (chgs (freezeG r0 j0) ls0) j0 l0.ro) := by
   show upd _ _ _ r0 = _;rw [Y0, hv0];rfl
  have hsub : ∀ r l b, b ∈ bs2 r l -> b ∈ s.bs r l := by
   intro r l b hb;simp only [bs2, updP] at hb;split at hb
   ·simp at hb
   ·exact hb
  obtain ⟨h1, h2, h3, h4⟩ : AVRel c s r0 (.con k0 ls0) (s.tm r0) := by rw [<- hv0]; exact h.av r0
  have hlt : j0 < (s.cs r0).length := by
   rw [<- h2];rw [Y1] at hl';exact (X6.1 hl').1
  have hu0 := h4 j0 l0 _ hl' (X1 hlt);refine ⟨bs2, ?_, hsub, by simp [bs2, updP]⟩;have hown : ∀ (r j : Nat), ¬ (r = r0 /\ j = j0) -> ∀ lf u, OwnPlace s r j lf u -> OwnPlace { s with env := env2, bs := bs2 } r j lf u := by
   intro r j hne lf u hop;by_cases hr : r = r0
   ·subst hr;obtain ⟨g1, g2, g3⟩ := hop;refine ⟨?_, g2, g3⟩;show (env2 r).leaf? j = _;rw [hget0];rw [hv0] at g1;simp only [AV.leaf?] at g1 ⊢;rw [Y1, Y9, X10 (fun h => hne ⟨rfl, h.symm⟩), <- Y1, Yh, g1];obtain ⟨t, x, m⟩ := lf;cases m <;> first | rfl | simp [Mode.own] at g2
   ·exact hop.chg (hget r hr) rfl
  have hbs : ∀ (r j : Nat), ¬ (r = r0 /\ j = j0) -> bs2 r (j + 1) = s.bs r (j + 1) := by
   intro r j hne;simp only [bs2, updP];rw [X2 (fun h => hne ⟨h.1, by omega⟩)]
  refine Rel.step (s' := { s with env := env2, bs := bs2 }) (freezeG r0 j0) h (fun r => r = r0) (fun _ _ => True) (fun _ => True)
   (fun r hr => ⟨hget r hr, rfl, rfl, Y1z _ _ _ hr⟩) (X1g _ _) (fun b _ _ => rfl)
   (fun r l b hD hb => ⟨(h.own _ _ _ (hsub _ _ _ hb)).2, .inr ⟨r, l, hD, hsub _ _ _ hb⟩⟩) (fun r l r' l' b hD hD' hb hb' => h.disj _ _ _ _ _ (hsub _ _ _ hb) (hsub _ _ _ hb'))
   (fun r l hD => ?_) (fun r _ => ⟨fun _ _ => trivial, fun _ _ => trivial⟩) (fun hk => ?_) (fun hk r hD => ?_)
  ·simp [bs2, updP];split
   ·grind
   ·exact h.nodup _ _
  ·have hun : ∀ b, b ∈ s.bs r0 (j0 + 1) -> RoS c { s with env := env2, bs := bs2 } b := by
    intro b hb;refine ⟨fun r' l' hb' => ?_, .inr (h.own _ _ _ hb).1⟩;obtain ⟨rfl, rfl⟩ := h.disj _ _ _ _ _ (hsub _ _ _ hb') hb;simp [bs2, updP] at hb'
   refine ⟨fun u t x r j p _ hb => ?_, fun a r j p i o _ hw => ?_, fun r _ _ => ?_⟩
   ·by_cases hr : r = r0 /\ j = j0
    ·obtain ⟨rfl, rfl⟩ := hr;simp [freezeG];refine ⟨rfl, Rep.move (fun b hb' hl => ⟨?_, rfl⟩) (by simp) hb.1⟩;rcases hb' with hb' | hb'
     ·exact (hk b hb' hl).1
     ·exact hun b hb'
    ·simp only [freezeG, X2 hr];exact ⟨rfl, hb.keep hk ⟨hown r j hr, hbs r j hr, fun _ _ => rfl⟩⟩
   ·by_cases hr : r = r0 /\ j = j0
    ·obtain ⟨rfl, rfl⟩ := hr;simp only [freezeG, beq_self_eq_true, Bool.and_self, X1p];exact .inr ⟨by trivial, hw.1.1.elim (fun h => (hk _ h hw.1.2).1) (hun _), hw.1.2⟩
    ·have : (freezeG r0 j0).wf r j = false := by simp [freezeG]; omega
     rw [this];simp only [Xl, X18];exact ⟨by trivial, hw.chg hk (hown r j hr) (hbs r j hr) (fun _ _ => rfl)⟩
   ·by_cases hr : r = r0
    ·subst hr;exact ⟨rfl, fun e ls he => ⟨e, _, by show env2 r = _; rw [hget0]; rw [hv0] at he; cases he; rfl⟩⟩
    ·exact SamePtr.chg (hget r hr) rfl
  ·subst hD;show AVRel c _ r (env2 r) _;rw [hget0];have hg : ChgLeaf c s { s with env := env2, bs := bs2 } (freezeG r j0) (fun _ _ => True) := by
    intro u t x r' j p _ hb;by_cases hr : r' = r /\ j = j0
    ·obtain ⟨rfl, rfl⟩ := hr;simp [freezeG];refine ⟨rfl, Rep.move (fun b hb' hl => ⟨?_, rfl⟩) (by simp) hb.1⟩;rcases hb' with hb' | hb'
     ·exact (hk b hb' hl).1
     ·refine ⟨fun r2 l' hb2 => ?_, .inr (h.own _ _ _ hb').1⟩;obtain ⟨rfl, rfl⟩ := h.disj _ _ _ _ _ (hsub _ _ _ hb2) hb';simp [bs2, updP] at hb2
    ·simp only [freezeG, X2 hr];exact ⟨rfl, hb.keep hk ⟨hown r' j hr, hbs r' j hr, fun _ _ => rfl⟩⟩
   refine ⟨?_, by rw [Y9, Xz, Yr]; exact h2, fun l hl2 => ?_, fun l lf u hl2 hu => ?_⟩
   ·show KCells c s.w (bs2 r 0) k0 _ (s.cs r);have : bs2 r 0 = s.bs r 0 := by simp [bs2, updP]
    rw [this];exact h1
   ·rw [Y9, Xz, Yr] at hl2;show bs2 r (l + 1) = [];rw [hbs r l (fun h => by omega)];exact h3 l hl2
   ·rw [Y1, Y9] at hl2;by_cases hlj : l = j0
    ·subst hlj;rw [X1m (by grind)] at hl2;simp at hl2;subst hl2;have hu' : u = (s.cs r)[l] := by grind
     subst hu';obtain ⟨t, x, m⟩ := l0;cases m with
     | bor _ _ _ => simp [Mode.own] at ho
     | dead => simp [Mode.own] at ho
     | at_ lv =>
      have hrep := hu0.rep;have hb0 : bs2 r (l + 1) = [] := by simp [bs2, updP]
      refine LeafRel.of_held rfl hb0 ?_;refine hrep.roS (fun b hb hl => (hk b hb hl).1) (fun b hb => ?_);refine ⟨fun r2 l' hb2 => ?_, .inr (h.own _ _ _ hb).1⟩;obtain ⟨rfl, rfl⟩ := h.disj _ _ _ _ _ (hsub _ _ _ hb2) hb;simp [bs2, updP] at hb2
    ·rw [X10 (fun h => hlj h.symm), <- Y1, Yh] at hl2;obtain ⟨lf0, hl0, rfl⟩ := Xu.1 hl2;exact (h4 l lf0 u hl0 hu).chg hk hg (fun _ _ => trivial) (hbs r l (fun h => hlj h.2)) (fun _ _ => rfl)
theorem Held.thawed {s s' : St} (hS : ∀ b, RoS c s b -> RoS c s' b) (hw : s'.w = s.w) (h : Held c s u lf) (hd : lf.m.live = true)
  (hb : ∀ r j p, lf.m = .bor r j p -> ∀ b ∈ s.bs r (j + 1), RoS c s' b) : Rep (RoS c s') s'.w lf.t .ro [u] lf.x [] := by
 obtain ⟨t, x, m⟩ := lf;cases m with
 | at_ lv => exact Rep.move (fun b hb hl => ⟨hS b hb, by rw [hw]⟩) (by simp) h
 | bor r j p => exact Rep.move (fun b hb' hl => ⟨hb'.elim (hS b) (hb r j p rfl b), by rw [hw]⟩) (by simp) h.1
 | dead => simp [Mode.live] at hd
theorem RoS.sub {s s' : St} (hb : ∀ r l b, b ∈ s'.bs r l -> b ∈ s.bs r l) : ∀ b, RoS c s b -> RoS c s' b := fun b h => ⟨fun r l hm => h.1 r l (hb r l b hm), h.2⟩
theorem Rel.freezeAll_ : ∀ (ls : List Leaf) {s : St} (h : Rel c s), ∃ bs', Rel c { s with env := freezeAllE ls s.env, bs := bs' } /\ (∀ r l b, b ∈ bs' r l -> b ∈ s.bs r l) /\
  (∀ lf ∈ ls, ∀ r j p, lf.m = .bor r j p -> bs' r (j + 1) = [])
 | [], s, h => ⟨s.bs, h, fun _ _ _ h => h, by simp⟩
 | l :: ls, s, h => by
  obtain ⟨t, x, m⟩ := l;cases m with
  | bor r j p =>
   obtain ⟨bs1, h1, k1, e1⟩ := h.freeze_ r j;obtain ⟨bs2, h2, k2, e2⟩ := Rel.freezeAll_ ls h1;refine ⟨bs2, h2, fun r l b hb => k1 _ _ _ (k2 _ _ _ hb), fun lf hm r' j' p' hlf => ?_⟩;rcases Xq.1 hm with rfl | hm
   ·simp at hlf;obtain ⟨rfl, rfl, rfl⟩ := hlf;exact X2b.2 (fun b hb => by grind)
   ·grind
  | at_ lv =>
   obtain ⟨bs2, h2, k2, e2⟩ := Rel.freezeAll_ ls h;refine ⟨bs2, h2, k2, fun lf hm r' j' p' hlf => ?_⟩;rcases Xq.1 hm with rfl | hm
   ·simp at hlf
   ·exact e2 lf hm r' j' p' hlf
  | dead =>
   obtain ⟨bs2, h2, k2, e2⟩ := Rel.freezeAll_ ls h;refine ⟨bs2, h2, k2, fun lf hm r' j' p' hlf => ?_⟩;rcases Xq.1 hm with rfl | hm
   ·simp at hlf
   ·exact e2 lf hm r' j' p' hlf
theorem Rel.thaw (h : Rel c s) {bs' : Nat -> Nat -> List Nat} {E : Nat -> AV} (k : ∀ r l b, b ∈ bs' r l -> b ∈ s.bs r l) (e : ∀ r j p, lf.m = .bor r j p -> bs' r (j + 1) = []) (hh : Held c s u lf) (hd : lf.m.live = true) : Rep (RoS c { s with env := E, bs := bs' }) s.w lf.t .ro [u] lf.x [] := by
 refine Held.thawed (s' := { s with env := E, bs := bs' }) (RoS.sub k) rfl hh hd (fun r j p hm b hb => ⟨fun r' l' hb' => ?_, .inr (h.own _ _ _ hb).1⟩);obtain ⟨rfl, rfl⟩ := h.disj _ _ _ _ _ (k _ _ _ hb') hb;have : b ∈ bs' r' (j + 1) := hb';rw [e _ _ _ hm] at this;simp at this
def chgE (g : Chg) (E : Nat -> AV) : Nat -> AV := fun r => (E r).chg g
theorem Rel.chgE_ (h : Rel c s) (g : Chg) (hg : let s' : St := { s with env := chgE g s.env }; Keeps c s s' -> ChgLeaf c s s' g (fun _ _ => True) /\ ChgWr c s s' g (fun _ _ => True)) : Rel c { s with env := chgE g s.env } := by
 refine Rel.step (s' := { s with env := chgE g s.env }) g h (fun _ => False) (fun _ _ => True) (fun _ => True) (fun r _ => ⟨rfl, rfl, rfl, rfl⟩) (X1g _ _) (fun b hl _ => rfl)
  (fun r l b hD => hD.elim) (fun r l r' l' b hD => hD.elim) (fun r l hD => hD.elim) (fun r _ => ⟨fun _ _ => trivial, fun _ _ => trivial⟩) (fun hk => ?_) (fun _ r hD => hD.elim)
 exact ⟨(hg hk).1, (hg hk).2, fun r _ _ => SamePtr.chg rfl rfl⟩
theorem Held.one (h : Held c s u lf) : u.oneCell' = true := by
 obtain ⟨t, x, m⟩ := lf;cases m with
 | at_ lv => exact Rep.one h u (by simp)
 | bor r j p => exact Rep.one h.1 u (by simp)
 | dead => exact h
theorem Rel.kill (h : Rel c s) (g : Chg) (P : Nat -> Nat -> Bool) (hf : ∀ r j p l, g.f r j p l = if P r j then l.lost else l) (hw : ∀ r j, g.wf r j = P r j) (hl : g.lose = true) : Rel c { s with env := chgE g s.env } := by
 refine h.chgE_ g (fun hk => ⟨fun u t x r j p _ hb => ?_, fun a r j p i o _ hwr => ?_⟩)
 ·rw [hf];split
  ·exact ⟨rfl, Held.one (lf := ⟨t, x, .bor r j p⟩) hb⟩
  ·exact ⟨rfl, hb.keep hk ⟨fun lf u ho => ho.chg rfl rfl, rfl, fun _ _ => rfl⟩⟩
 ·rw [hw];split
  ·exact .inl hl
  ·exact ⟨rfl, hwr.chg hk (fun lf u ho => ho.chg rfl rfl) rfl (fun _ _ => rfl)⟩
theorem Y97 {g : Chg} {P : Nat -> Nat -> Bool} (hf : ∀ r j p l, g.f r j p l = if P r j then l.lost else l) (hw : ∀ r j, g.wf r j = P r j) (hl : g.lose = true) (v : AV) : ∀ q ∈ (v.chg g).refs, P q.1 q.2 = false := by
 have leaf : ∀ (l : Leaf) q, q ∈ (l.chg g).refs -> P q.1 q.2 = false := by
  intro l q hq;obtain ⟨t, x, m⟩ := l;cases m with
  | at_ _ => simp [Leaf.chg, Leaf.refs] at hq
  | dead => simp [Leaf.chg, Leaf.refs] at hq
  | bor r j p =>
   simp [Leaf.chg, hf] at hq;cases hP : P r j with
   | true => simp [hP, Leaf.lost, Leaf.refs] at hq
   | false =>
    simp [hP, Leaf.refs] at hq;rw [hq];exact hP
 have leaves : ∀ (ls : List Leaf) q, q ∈ (chgs g ls).flatMap Leaf.refs -> P q.1 q.2 = false := by
  intro ls q hq;rw [Y2x] at hq;simp at hq;obtain ⟨_, ⟨l, _, rfl⟩, hq⟩ := hq;exact leaf l q hq
 intro q hq;cases v with
 | con k ls => exact leaves ls q hq
 | eptr ls wr =>
  cases wr with
  | none => simp only [AV.chg, AV.refs, Xf] at hq; exact leaves ls q hq
  | some w =>
   simp only [AV.chg, hw, hl, X1p] at hq;cases hP : P w.1 w.2.1 with
   | true => simp [hP, AV.refs] at hq
   | false =>
    simp only [hP, Xl, X18, AV.refs, X5, Xb] at hq;rcases hq with hq | hq
    ·grind
    ·grind
 | path r off => simp only [AV.chg] at hq; split at hq <;> simp [AV.refs] at hq
 | clo f caps => simp only [AV.chg] at hq; split at hq <;> simp [AV.refs] at hq
 | fptr f caps => simp only [AV.chg] at hq; split at hq <;> simp [AV.refs] at hq
 | cloS f caps => simp only [AV.chg] at hq; split at hq <;> simp [AV.refs] at hq
 | grow r j i o l =>
  simp only [AV.chg, hw] at hq;split at hq
  ·simp [AV.refs] at hq
  ·rename_i hP;simp only [AV.refs, Xb] at hq;rw [hq]; simpa using hP
 | sel r j e e2 t ix x =>
  simp only [AV.chg, hw] at hq;split at hq
  ·simp [AV.refs] at hq
  ·rename_i hP;simp only [AV.refs, Xb] at hq;rw [hq]; simpa using hP
 | _ => simp [AV.chg, AV.refs] at hq
theorem Ydj {g : Chg} (v : AV) : ∀ q ∈ (v.chg g).ptrs, g.pk q = false := by
 intro q hq;cases v with
 | path r off =>
  simp only [AV.chg] at hq;split at hq
  ·simp [AV.ptrs] at hq
  ·rename_i h; simp only [AV.ptrs, Xb] at hq; rw [hq]; simpa using h
 | clo f caps =>
  simp only [AV.chg] at hq;split at hq
  ·simp [AV.ptrs] at hq
  ·rename_i h;simp only [AV.ptrs, X19] at hq;obtain ⟨p, hp, rfl⟩ := hq;simp only [X1n, not_exists, not_and] at h;simpa using h p hp
 | fptr f caps =>
  simp only [AV.chg] at hq;split at hq
  ·simp [AV.ptrs] at hq
  ·rename_i h;simp at h;simpa using h q hq
 | cloS f caps =>
  simp only [AV.chg] at hq;split at hq
  ·simp [AV.ptrs] at hq
  ·rename_i h;simp at h;simpa using h q hq
 | eptr ls wr =>
  simp only [AV.chg] at hq;cases wr with
  | none => simp [AV.ptrs] at hq
  | some w => simp only at hq; split at hq <;> (try split at hq) <;> simp [AV.ptrs] at hq
 | grow r j i o l => simp only [AV.chg] at hq; split at hq <;> simp [AV.ptrs] at hq
 | sel r j e e2 t ix x => simp only [AV.chg] at hq; split at hq <;> simp [AV.ptrs] at hq
 | _ => simp [AV.chg, AV.ptrs] at hq
theorem Rel.killRoot_ (h : Rel c s) (s0 : Nat) : Rel c { s with env := chgE (killG s0) s.env } /\ ∀ r, (∀ q ∈ (chgE (killG s0) s.env r).refs, q.1 ≠ s0) /\ (∀ q ∈ (chgE (killG s0) s.env r).ptrs, q ≠ s0) := by
 have hf : ∀ r j p l, (killG s0).f r j p l = if (fun r _ => r == s0) r j then l.lost else l := by intro r j p l; simp [killG]
 refine ⟨h.kill (killG s0) (fun r _ => r == s0) hf (fun _ _ => rfl) rfl, fun r => ⟨fun q hq => ?_, fun q hq => ?_⟩⟩
 ·simpa using Y97 hf (fun _ _ => rfl) rfl (s.env r) q hq
 ·simpa [killG] using Ydj (g := killG s0) (s.env r) q hq
theorem Rel.killPlace_ (h : Rel c s) (r0 j0 : Nat) : Rel c { s with env := chgE (killPG r0 j0) s.env } /\ ∀ r, (∀ q ∈ (chgE (killPG r0 j0) s.env r).refs, q ≠ (r0, j0)) := by
 have hf : ∀ r j p l, (killPG r0 j0).f r j p l = if (fun r j => r == r0 && j == j0) r j then l.lost else l := by intro r j p l; simp [killPG]
 refine ⟨h.kill (killPG r0 j0) (fun r j => r == r0 && j == j0) hf (fun _ _ => rfl) rfl, fun r q hq => ?_⟩;have := Y97 hf (fun _ _ => rfl) rfl (s.env r) q hq
 rintro rfl
 simp at this
def LeafV (c : Cx) (s : St) (u : Value) (lf : Leaf) : Prop :=
 match lf.m with
 | .at_ lv => Rep (RoS c s) s.w lf.t lv [u] lf.x [] /\ lv.pinOk c u
 | _ => Held c s u lf
theorem LeafV.of_held (ho : lf.m.own = false) (h : Held c s u lf) : LeafV c s u lf := by
 obtain ⟨t, x, m⟩ := lf;cases m with
 | at_ lv => cases lv with
  | ro => exact ⟨h, trivial⟩
  | sh => simp [Mode.own] at ho
  | dp => simp [Mode.own] at ho
  | pn _ => simp [Mode.own] at ho
 | bor r j p => exact h
 | dead => exact h
theorem LeafV.rel {r l : Nat} (hb : s.bs r (l + 1) = []) (h : LeafV c s u lf) : LeafRel c s r l u lf := by
 obtain ⟨t, x, m⟩ := lf;cases m with
 | at_ lv => exact LeafRel.of_rep h.2 (by rw [hb]; exact h.1)
 | bor r j p => exact ⟨hb, h⟩
 | dead => exact ⟨hb, h⟩
def ValC (c : Cx) (s : St) (av : AV) (v : Value) (cells : List Value) : Prop :=
 match av with
 | .undef => True
 | .skip => v = undef
 | .con k ls => KCells c s.w [] k v cells /\ ls.length = cells.length /\ ∀ l lf u, leafAt ls l = some lf -> cells[l]? = some u -> LeafV c s u lf
 | .path r' off => PtrRel s r' off v
 | .eptr ls wr => ∃ a, v = .pointer (some a) /\ (∀ l lf, leafAt ls l = some lf -> lf.m.own = false /\ ∃ u, s.w.cell? (a.add l) = some u /\ Held c s u lf) /\ WrRel c s a wr
 | .clo f caps => ∃ vs, v = .func (.func f) #[] vs.toArray /\ PtrRels s caps vs
 | .cloR f xs => ∃ vs, v = .func (.func f) #[] vs.toArray /\ PtrVs (RoS c s) s.w xs vs
 | .fptr f caps => ∃ us, SelfAt c s f caps v us
 | .cloS f caps => ∃ v0 us, v = .func (.func f) #[] us.toArray /\ SelfAt c s f caps v0 us
 | .junk => True
 | .grow _ _ _ _ _ => False
 | .sel _ _ _ _ _ _ _ => False
 | .part _ _ _ _ => False
 | .eown _ => False
theorem KCells.bare (h : KCells c w [] k v cells) {b0 : List Nat} (hb : b0 = []) : KCells c w' b0 k v cells := by
 subst hb;cases k with
 | box e => obtain ⟨B, _, _, h⟩ := h; simp at h
 | tupB i n sh => obtain ⟨B, _, _, _, _, _, _, _, h, _⟩ := h; simp at h
 | _ => exact h
theorem ValC.toAV (h : ValC c s av v cells) (hb : ∀ l, s.bs d l = []) (hc : s.cs d = cells) : AVRel c s d av v := by
 cases av with
 | undef => exact hb
 | skip => exact ⟨h, hb⟩
 | con k ls =>
  obtain ⟨h1, h2, h3⟩ := h;refine ⟨?_, by rw [hc]; exact h2, fun l _ => hb _, fun l lf u hl hu => ?_⟩
  ·rw [hc, hb 0]; exact h1
  ·rw [hc] at hu;exact (h3 l lf u hl hu).rel (hb _)
 | path r off => exact ⟨hb, h⟩
 | eptr ls wr => exact ⟨hb, h⟩
 | clo f caps => exact ⟨hb, h⟩
 | cloR f xs => exact ⟨hb, h⟩
 | fptr f caps => exact ⟨hb, h⟩
 | cloS f caps => exact ⟨hb, h⟩
 | junk => exact fun k => hb _
 | grow _ _ _ _ _ => exact h.elim
 | sel _ _ _ _ _ _ _ => exact h.elim
 | part _ _ _ _ => exact h.elim
 | eown _ => exact h.elim
theorem ValC.keep {s s' : St} (hk : Keeps c s s') (hp : ∀ r j lf u, OwnPlace s r j lf u -> SamePl s s' r j) (hq : ∀ r off v, PtrRel s r off v -> SamePtr s s' r) (h : ValC c s av v cells) : ValC c s' av v cells := by
 have held : ∀ u lf, Held c s u lf -> Held c s' u lf := by
  intro u lf h;obtain ⟨t, x, m⟩ := lf;cases m with
  | at_ lv => exact Rep.move (fun b hb hl => hk b hb hl) (by simp) h
  | bor r j p => obtain ⟨⟨lf', u', ho, _⟩, _⟩ := h.2; exact h.keep hk (hp _ _ _ _ ho)
  | dead => exact h
 cases av with
 | undef => trivial
 | skip => exact h
 | con k ls =>
  obtain ⟨h1, h2, h3⟩ := h;refine ⟨h1.bare rfl, h2, fun l lf u hl hu => ?_⟩;have h4 := h3 l lf u hl hu;obtain ⟨t, x, m⟩ := lf;cases m with
  | at_ lv => exact ⟨Rep.move (fun b hb hl => hk b hb hl) (by simp) h4.1, h4.2⟩
  | bor r j p => exact held _ ⟨t, x, .bor r j p⟩ h4
  | dead => exact h4
 | path r off => exact PtrRel.keep (hq _ _ _ h) h
 | eptr ls wr =>
  obtain ⟨a, h1, h2, h3⟩ := h;have hblk : s'.w.heap[a.block]? = s.w.heap[a.block]? := by
   cases wr with
   | none => exact (hk _ h3.1 h3.2).2
   | some q => obtain ⟨r, j, p, i, o⟩ := q; obtain ⟨lf, u, ho, _⟩ := h3.2; exact (h3.blk hk (hp _ _ _ _ ho).2.2).1
  refine ⟨a, h1, fun l lf hl => ?_, ?_⟩
  ·obtain ⟨k1, u, k2, k3⟩ := h2 l lf hl;exact ⟨k1, u, (X1b (by rw [Addr.add_block]; exact hblk)).trans k2, held _ _ k3⟩
  ·cases wr with
   | none =>
    obtain ⟨k1, k2⟩ := hk _ h3.1 h3.2;refine ⟨k1, ?_⟩;have k3 := h3.2;rw [Xt k3] at k2;exact (Xv.1 k2).1
   | some q =>
    obtain ⟨r, j, p, i, o⟩ := q;obtain ⟨lf, u, ho, g2⟩ := h3.2;exact WrRel.chg hk (hp _ _ _ _ ho).1 (hp _ _ _ _ ho).2.1 (hp _ _ _ _ ho).2.2 h3
 | cloR f xs =>
  obtain ⟨vs, h1, h2⟩ := h;exact ⟨vs, h1, h2.move hk⟩
 | fptr f caps =>
  obtain ⟨us, h2⟩ := h;refine ⟨us, h2.keep hk (fun r hr => ?_)⟩;obtain ⟨B, _, _, _, _, h3⟩ := h2;obtain ⟨off, v', h4⟩ := h3.mem hr;exact hq _ _ _ h4
 | cloS f caps =>
  obtain ⟨v0, us, e0, h2⟩ := h;refine ⟨v0, us, e0, h2.keep hk (fun r hr => ?_)⟩;obtain ⟨B, _, _, _, _, h3⟩ := h2;obtain ⟨off, v', h4⟩ := h3.mem hr;exact hq _ _ _ h4
 | junk => trivial
 | grow _ _ _ _ _ => exact h.elim
 | sel _ _ _ _ _ _ _ => exact h.elim
 | part _ _ _ _ => exact h.elim
 | eown _ => exact h.elim
 | clo f caps =>
  obtain ⟨vs, h1, h2⟩ := h;refine ⟨vs, h1, h2.keep (fun r hr => ?_)⟩;obtain ⟨off, v', h3⟩ := h2.mem hr;exact hq _ _ _ h3
theorem Y6t {d r j : Nat} (hq : (s.env d).quiet = true) (h : OwnPlace s r j lf u) : r ≠ d := by
 rintro rfl
 rw [h.loud] at hq;simp at hq
theorem Y5f {d r off : Nat} (hq : (s.env d).quiet = true) (h : PtrRel s r off v) : r ≠ d := by
 rintro rfl
 rw [h.loud] at hq;simp at hq
theorem Rel.setNew (h : Rel c s) (hq : (s.env d).quiet = true) (hb : Below s.w.heap.size s.w w') (av : AV) (v : Value) (cd : List Value) (bd : Nat -> List Nat)
  (hbd : ∀ l b, b ∈ bd l -> s.w.heap.size <= b /\ b < w'.heap.size) (hdj : ∀ l l' b, b ∈ bd l -> b ∈ bd l' -> l = l') (hnd : ∀ l, (bd l).Nodup)
  (hav : let s' : St := ⟨upd s.env d av, upd s.tm d v, w', upd s.cs d cd, upd s.bs d bd⟩; Keeps c s s' -> (∀ r j lf u, OwnPlace s r j lf u -> SamePl s s' r j) -> (∀ r off v, PtrRel s r off v -> SamePtr s s' r) -> AVRel c s' d av v) :
  Rel c ⟨upd s.env d av, upd s.tm d v, w', upd s.cs d cd, upd s.bs d bd⟩ := by
 let s' : St := ⟨upd s.env d av, upd s.tm d v, w', upd s.cs d cd, upd s.bs d bd⟩
 have hsame : ∀ r, ¬ r = d -> s'.env r = (s.env r).chg noG /\ s'.tm r = s.tm r /\ s'.cs r = s.cs r /\ s'.bs r = s.bs r := fun r hr =>
  ⟨by rw [AV.chg_no]; exact Y2 _ _ hr, Y2 _ _ hr, Y2 _ _ hr, Y2 _ _ hr⟩
 have hpl : ∀ r j, r ≠ d -> SamePl s s' r j := fun r j hr =>
  ⟨fun lf u ho => ho.chg (hsame r hr).1 (hsame r hr).2.2.1, by rw [(hsame r hr).2.2.2], fun b hb' => hb.block b (h.own _ _ _ hb').2⟩
 have hpt : ∀ r, r ≠ d -> SamePtr s s' r := fun r hr => SamePtr.chg (hsame r hr).1 (hsame r hr).2.1;refine Rel.step (s' := s') noG h (fun r => r = d) (fun r _ => r ≠ d) (fun r => r ≠ d) hsame (hb.mono h.base) (fun b hl _ => hb.block b hl)
  (fun r l b hD hb' => ?_) (fun r l r' l' b hD hD' hb1 hb2 => ?_) (fun r l hD => ?_) (fun r _ => ⟨fun q hq' => ?_, fun q hq' => ?_⟩) (fun hk => ⟨Yq hk hpl, Y15 hk hpl, fun r hL _ => hpt r hL⟩) (fun hk r hD => ?_)
 ·subst hD;have hb'' : b ∈ bd l := by simpa [s', upd] using hb'
  exact ⟨(hbd l b hb'').2, .inl (hbd l b hb'').1⟩
 ·subst hD; subst hD';exact ⟨rfl, hdj l l' b (by simpa [s', upd] using hb1) (by simpa [s', upd] using hb2)⟩
 ·subst hD;have : s'.bs r l = bd l := by simp [s', upd]
  rw [this]; exact hnd l
 ·obtain ⟨lf, u, ho⟩ := (h.av r).refs_own.1 q hq';exact Y6t hq ho
 ·obtain ⟨off, v', ho⟩ := (h.av r).refs_own.2 q hq';exact Y5f hq ho
 ·subst hD;have e1 : s'.env r = av := Y0 _ _ _;have e2 : s'.tm r = v := Y0 _ _ _;rw [e1, e2];exact hav hk (fun r' j lf u ho => hpl r' j (Y6t hq ho)) (fun r' off v' ho => hpt r' (Y5f hq ho))
theorem Rel.setVal (h : Rel c s) (hq : (s.env d).quiet = true) (hv : ValC c s av v cells) :
  Rel c ⟨upd s.env d av, upd s.tm d v, s.w, upd s.cs d cells, upd s.bs d (fun _ => [])⟩ :=
 h.setNew hq (X1g _ _) av v cells (fun _ => []) (by simp) (by simp) (by simp)
  (fun hk hp hq => (hv.keep hk hp hq).toAV (by intro l; simp [upd]) (Y0 _ _ _))
theorem Rel.move (h : Rel c s) {s0 d : Nat} (hne : s0 ≠ d) (hq : (s.env d).quiet = true) (hr : ∀ r, (∀ q ∈ (s.env r).refs, q.1 ≠ s0) /\ (∀ q ∈ (s.env r).ptrs, q ≠ s0)) :
  Rel c ⟨upd (upd s.env s0 .undef) d (s.env s0), upd s.tm d (s.tm s0), s.w, upd s.cs d (s.cs s0), upd (upd s.bs s0 (fun _ => [])) d (s.bs s0)⟩ := by
 let s' : St := ⟨upd (upd s.env s0 .undef) d (s.env s0), upd s.tm d (s.tm s0), s.w, upd s.cs d (s.cs s0), upd (upd s.bs s0 (fun _ => [])) d (s.bs s0)⟩
 have hsame : ∀ r, ¬ (r = d \/ r = s0) -> s'.env r = (s.env r).chg noG /\ s'.tm r = s.tm r /\ s'.cs r = s.cs r /\ s'.bs r = s.bs r := fun r hr => by
  simp at hr;refine ⟨by rw [AV.chg_no]; show upd _ _ _ r = _; rw [Y2 _ _ hr.1, Y2 _ _ hr.2], Y2 _ _ hr.1, Y2 _ _ hr.1, ?_⟩;show upd _ _ _ r = _;rw [Y2 _ _ hr.1, Y2 _ _ hr.2]
 have hbd : s'.bs d = s.bs s0 := Y0 _ _ _;have hbs0 : s'.bs s0 = fun _ => [] := by show upd (upd s.bs s0 (fun _ => [])) d (s.bs s0) s0 = _; rw [Y2 _ _ hne, Y0]
 have hbs : ∀ l, s'.bs s0 l = [] := fun l => by rw [hbs0]
 have hpl : ∀ r j, r ≠ d /\ r ≠ s0 -> SamePl s s' r j := fun r j hr => by
  have := hsame r (by simp; exact hr);exact ⟨fun lf u ho => ho.chg this.1 this.2.2.1, by rw [this.2.2.2], fun b hb' => rfl⟩
 have hpt : ∀ r, r ≠ d /\ r ≠ s0 -> SamePtr s s' r := fun r hr => by
  have := hsame r (by simp; exact hr);exact SamePtr.chg this.1 this.2.1
 have hLr : ∀ r, (∀ q ∈ (s.env r).refs, q.1 ≠ d /\ q.1 ≠ s0) /\ (∀ q ∈ (s.env r).ptrs, q ≠ d /\ q ≠ s0) := fun r =>
  ⟨fun q hq' => ⟨by obtain ⟨lf, u, ho⟩ := (h.av r).refs_own.1 q hq'; exact Y6t hq ho, (hr r).1 q hq'⟩, fun q hq' => ⟨by obtain ⟨off, v', ho⟩ := (h.av r).refs_own.2 q hq'; exact Y5f hq ho, (hr r).2 q hq'⟩⟩
 refine Rel.step (s' := s') noG h (fun r => r = d \/ r = s0) (fun r _ => r ≠ d /\ r ≠ s0) (fun r => r ≠ d /\ r ≠ s0) hsame (X1g _ _) (fun b hl _ => rfl)
  (fun r l b hD hb' => ?_) (fun r l r' l' b hD hD' hb1 hb2 => ?_) (fun r l hD => ?_) (fun r _ => hLr r) (fun hk => ⟨Yq hk hpl, Y15 hk hpl, fun r hL _ => hpt r hL⟩) (fun hk r hD => ?_)
 ·rcases hD with rfl | rfl
  ·rw [hbd] at hb';exact ⟨(h.own _ _ _ hb').2, .inr ⟨s0, l, .inr rfl, hb'⟩⟩
  ·grind
 ·rcases hD with rfl | rfl <;> rcases hD' with rfl | rfl
  ·rw [hbd] at hb1 hb2;exact ⟨rfl, (h.disj _ _ _ _ _ hb1 hb2).2⟩
  ·grind
  ·grind
  ·simp_all
 ·rcases hD with rfl | rfl
  ·rw [hbd]; exact h.nodup _ _
  ·grind
 ·rcases hD with rfl | rfl
  ·have e1 : s'.env r = (s.env s0).chg noG := by rw [AV.chg_no]; exact Y0 _ _ _
   have e2 : s'.tm r = s.tm s0 := Y0 _ _ _;rw [e1, e2];exact (h.av s0).chg (r1 := r) hk (Yq hk hpl) (Y15 hk hpl) (fun r hL _ => hpt r hL) (hLr s0).1 (hLr s0).2 (Y0 _ _ _) hbd (fun _ _ _ => rfl)
  ·have e1 : s'.env r = .undef := by show upd _ _ _ r = _; rw [Y2 _ _ hne, Y0]
   rw [e1];exact hbs
theorem Y4z (h : d < env.length) (v : AV) : get (put env d v) = upd (get env) d v := by
 funext r;rw [Y12];by_cases hr : r = d
 ·rw [X4 ⟨hr, h⟩, hr, Y0]
 ·rw [X2 (fun h => hr h.1), Y2 _ _ hr]
theorem Y83 (g : Chg) (env : Env) : get (chgEnv g env) = chgE g (get env) := by funext r; exact Y16 g env r
theorem Y50 (d : Nat) (env : Env) : get (forget d env) = forgetE d (get env) := by
 unfold forget forgetE;by_cases h : d < env.length
 ·rw [Y4z (by rw [Y7]; exact h), Y83]; rfl
 ·funext r;rw [Y12, Y7, X2 (fun h' => h h'.2), Y16];by_cases hr : r = d
  ·rw [hr, Y0, Y1d _ _ (by omega)]; rfl
  ·rw [Y2 _ _ hr]
theorem Y1g (d : Nat) (env : Env) : (forget d env).length = env.length := by unfold forget; rw [Y5, Y7]
theorem Yw {r : Nat} (h : get env r = .con k ls) : r < env.length := by
 apply Xx;intro hn;rw [Y1d _ _ (by omega)] at h;exact AV.noConfusion h
theorem Y1p {r j : Nat} (h : (get env r).leaf? j = some lf) : r < env.length := by
 cases hv : get env r with
 | con k ls => exact Yw hv
 | _ => rw [hv] at h; simp [AV.leaf?] at h
theorem Y3r (r j : Nat) (env : Env) : get (freeze r j env) = freezeE r j (get env) /\ (freeze r j env).length = env.length := by
 unfold freeze freezeE;cases hl : (get env r).leaf? j with
 | none => exact ⟨rfl, rfl⟩
 | some l =>
  simp only;split
  ·refine ⟨?_, by rw [Y5, Y7]⟩;rw [Y4z (by rw [Y7]; exact Y1p hl), Y83];rfl
  ·exact ⟨rfl, rfl⟩
theorem Yk : ∀ (ls : List Leaf) (env : Env), get (freezeAll ls env) = freezeAllE ls (get env) /\ (freezeAll ls env).length = env.length
 | [], env => ⟨rfl, rfl⟩
 | l :: ls, env => by
  obtain ⟨t, x, m⟩ := l;cases m with
  | bor r j p =>
   simp [freezeAll, freezeAllE];obtain ⟨h1, h2⟩ := Y3r r j env;obtain ⟨h3, h4⟩ := Yk ls (freeze r j env);exact ⟨by rw [h3, h1], by rw [h4, h2]⟩
  | at_ lv => exact Yk ls env
  | dead => exact Yk ls env
theorem Ya (s : Nat) (env : Env) : (killRoot s env).length = env.length := by unfold killRoot; rw [Y5, Y7]
theorem ValC.refs_own (h : ValC c s av v cells) : (∀ q ∈ av.refs, ∃ lf u, OwnPlace s q.1 q.2 lf u) /\ (∀ q ∈ av.ptrs, ∃ off v, PtrRel s q off v) := by
 have hbor : ∀ (u : Value) (lf : Leaf), Held c s u lf -> ∀ q ∈ lf.refs, ∃ lf u, OwnPlace s q.1 q.2 lf u := by
  intro u lf hh q hq;obtain ⟨t, x, m⟩ := lf;cases m with
  | at_ _ => simp [Leaf.refs] at hq
  | dead => simp [Leaf.refs] at hq
  | bor r1 j p =>
   simp only [Leaf.refs, Xb] at hq;subst hq;obtain ⟨_, ⟨lf', u', h2, _⟩, _⟩ := hh;exact ⟨lf', u', h2⟩
 cases av with
 | undef => exact ⟨by simp [AV.refs], by simp [AV.ptrs]⟩
 | junk => exact ⟨by simp [AV.refs], by simp [AV.ptrs]⟩
 | grow _ _ _ _ _ => exact h.elim
 | sel _ _ _ _ _ _ _ => exact h.elim
 | part _ _ _ _ => exact h.elim
 | eown _ => exact h.elim
 | skip => exact ⟨by simp [AV.refs], by simp [AV.ptrs]⟩
 | con k ls =>
  refine ⟨fun q hq => ?_, by simp [AV.ptrs]⟩;simp only [AV.refs, Xj] at hq;obtain ⟨lf, hm, hq⟩ := hq;obtain ⟨l, hl⟩ := Xw hm;obtain ⟨h1, h2, h3⟩ := h;have hlt : l < cells.length := by rw [<- h2]; exact (X6.1 hl).1
  have := h3 l lf _ (by rw [Y1]; exact hl) (X1 hlt);refine hbor cells[l] lf ?_ q hq;obtain ⟨t, x, m⟩ := lf;cases m with
  | at_ _ => simp [Leaf.refs] at hq
  | dead => simp [Leaf.refs] at hq
  | bor _ _ _ => exact this
 | path r1 off =>
  refine ⟨by simp [AV.refs], fun q hq => ?_⟩;simp only [AV.ptrs, Xb] at hq;subst hq;exact ⟨_, _, h⟩
 | eptr ls wr =>
  refine ⟨fun q hq => ?_, by simp [AV.ptrs]⟩;simp only [AV.refs, X5, Xj] at hq;obtain ⟨a, h2, h3, h4⟩ := h;rcases hq with ⟨lf, hm, hq⟩ | hq
  ·obtain ⟨l, hl⟩ := Xw hm;obtain ⟨_, u, _, hh⟩ := h3 l lf (by rw [Y1]; exact hl);exact hbor u lf hh q hq
  ·cases wr with
   | none => simp at hq
   | some w =>
    obtain ⟨r1, j, p, i, o⟩ := w;simp only [Xb] at hq;subst hq;obtain ⟨_, lf, u, g2, _⟩ := h4;exact ⟨lf, u, g2⟩
 | cloR f xs => exact ⟨by simp [AV.refs], by simp [AV.ptrs]⟩
 | fptr f caps =>
  obtain ⟨us, B, _, _, _, _, h3⟩ := h;exact ⟨by simp [AV.refs], fun q hq => h3.mem hq⟩
 | cloS f caps =>
  obtain ⟨v0, us, _, B, _, _, _, _, h3⟩ := h;exact ⟨by simp [AV.refs], fun q hq => h3.mem hq⟩
 | clo f caps =>
  obtain ⟨vs, _, h3⟩ := h;exact ⟨by simp [AV.refs], fun q hq => h3.mem (by simpa [AV.ptrs] using hq)⟩
def ovl (env : Env) (ps : Nat -> AV) : Nat -> AV := fun r => if r < env.length then get env r else ps r
def ovlT (tmps : Array Value) (vs : Nat -> Value) : Nat -> Value := fun r => if r < tmps.size then tmps.getD r undef else vs r
def noP : Nat -> AV := fun _ => .undef
def noV : Nat -> Value := fun _ => undef
structure RP (c : Cx) (env : Env) (tmps : Array Value) (w : World) (ps : Nat -> AV) (vs : Nat -> Value) : Prop where
 len : env.length = tmps.size
 rel : ∃ cs bs, Rel c ⟨ovl env ps, ovlT tmps vs, w, cs, bs⟩ /\ ∀ r, (∀ q ∈ (ovl env ps r).refs, q.1 < env.length) /\ (∀ q ∈ (ovl env ps r).ptrs, q < env.length)
def RE (c : Cx) (env : Env) (tmps : Array Value) (w : World) : Prop := ∃ vs, RP c env tmps w noP vs
def Settled (v : AV) : Prop := v = .undef \/ ∃ k ls, v = .con k ls /\ (∀ l ∈ ls, l.m.settled = true)
theorem Y4k (g : Chg) (h : ∀ l ∈ ls, l.m.settled = true) : chgs g ls = ls := by
 induction ls with
 | nil => rfl
 | cons l ls ih =>
  rw [chgs, ih (fun l hl => h l (X3 _ hl))];have := h l Xo;obtain ⟨t, x, m⟩ := l;cases m with
  | at_ lv => rfl
  | bor _ _ _ => simp [Mode.settled] at this
  | dead => simp [Mode.settled] at this
theorem Settled.chg {v : AV} (g : Chg) (h : Settled v) : v.chg g = v := by
 rcases h with rfl | ⟨k, ls, rfl, h⟩
 ·rfl
 ·simp only [AV.chg, Y4k g h]
theorem Settled.refs {v : AV} (h : Settled v) : v.refs = [] /\ v.ptrs = [] := by
 rcases h with rfl | ⟨k, ls, rfl, h⟩
 ·exact ⟨rfl, rfl⟩
 ·refine ⟨?_, rfl⟩;simp only [AV.refs, List.flatMap_eq_nil_iff];intro l hl;have := h l hl;obtain ⟨t, x, m⟩ := l;cases m with
  | at_ lv => rfl
  | bor _ _ _ => simp [Mode.settled] at this
  | dead => simp [Mode.settled] at this
theorem Y8 {r : Nat} (h : r < env.length) : ovl env ps r = get env r := X4 h
theorem Yt {r : Nat} (h : env.length <= r) : ovl env ps r = ps r := X2 (by omega)
theorem Yu (h : d < env.length) (v : AV) : ovl (put env d v) ps = upd (ovl env ps) d v := by
 funext r;simp [ovl, Y5, upd, Y12];by_cases hr : r = d
 ·grind
 ·simp [hr]
theorem Yd (h : env.length <= n) (v : AV) : ovl env (upd ps n v) = upd (ovl env ps) n v := by
 funext r;simp [ovl, upd];by_cases hr : r = n
 ·grind
 ·simp [hr]
theorem Ydk (h : d < tmps.size) (v : Value) : ovlT (tmps.setIfInBounds d v) vs = upd (ovlT tmps vs) d v := by
 funext r;simp only [ovlT, upd, Y6s, Array.size_setIfInBounds];by_cases hr : r = d
 ·simp_all
 ·simp [hr]
theorem Y13 (h : tmps.size <= n) (v : Value) : ovlT tmps (upd vs n v) = upd (ovlT tmps vs) n v := by
 funext r;simp [ovlT, upd];by_cases hr : r = n
 ·subst hr; simp; omega
 ·simp [hr]
theorem Y20 (g : Chg) (env : Env) (ps : Nat -> AV) (hs : ∀ r, Settled (ps r)) : chgE g (ovl env ps) = ovl (chgEnv g env) ps := by
 funext r;simp [chgE, ovl, Y7];split
 ·rw [Y16]
 ·exact (hs r).chg g
theorem Rel.congr {E E' : Nat -> AV} {t t' : Nat -> Value} (h : Rel c ⟨E, t, w, cs, bs⟩) (he : E = E') (ht : t = t') : Rel c ⟨E', t', w, cs, bs⟩ := by subst he; subst ht; exact h
def Fewer (g : Chg) : Prop := ∀ r j p l, (g.f r j p l).refs = [] \/ (g.f r j p l).refs = l.refs
theorem Yj {g : Chg} (hg : Fewer g) (v : AV) : (∀ q ∈ (v.chg g).refs, q ∈ v.refs) /\ (∀ q ∈ (v.chg g).ptrs, q ∈ v.ptrs) := by
 have leaf : ∀ (l : Leaf) q, q ∈ (l.chg g).refs -> q ∈ l.refs := by
  intro l q hq;obtain ⟨t, x, m⟩ := l;cases m with
  | at_ _ => exact hq
  | dead => exact hq
  | bor r j p =>
   simp [Leaf.chg] at hq;rcases hg r j p ⟨t, x, .bor r j p⟩ with h | h
   ·grind
   ·grind
 have leaves : ∀ (ls : List Leaf) q, q ∈ (chgs g ls).flatMap Leaf.refs -> q ∈ ls.flatMap Leaf.refs := by
  intro ls q hq;rw [Y2x] at hq;simp at hq ⊢;obtain ⟨_, ⟨l, hl, rfl⟩, hq⟩ := hq;exact ⟨l, hl, leaf l q hq⟩
 cases v with
 | con k ls => exact ⟨fun q hq => leaves ls q hq, by simp [AV.chg, AV.ptrs]⟩
 | path r off =>
  refine ⟨by simp only [AV.chg]; split <;> simp [AV.refs], fun q hq => ?_⟩;simp only [AV.chg] at hq;split at hq
  ·simp [AV.ptrs] at hq
  ·exact hq
 | eptr ls wr =>
  cases wr with
  | none => exact ⟨fun q hq => by simp only [AV.chg, AV.refs, Xf] at hq ⊢; exact leaves ls q hq, by simp [AV.chg, AV.ptrs]⟩
  | some w =>
   simp only [AV.chg];split
   ·split
    ·exact ⟨by simp [AV.refs], by simp [AV.ptrs]⟩
    ·exact ⟨fun q hq => by simp only [AV.refs, Xf, X5] at hq ⊢; exact .inl (leaves ls q hq), by simp [AV.ptrs]⟩
   ·exact ⟨fun q hq => by simp only [AV.refs, X5] at hq ⊢; exact hq.imp (leaves ls q) id, by simp [AV.ptrs]⟩
 | clo f caps =>
  refine ⟨by simp only [AV.chg]; split <;> simp [AV.refs], fun q hq => ?_⟩;simp only [AV.chg] at hq;split at hq
  ·simp [AV.ptrs] at hq
  ·exact hq
 | fptr f caps =>
  refine ⟨by simp only [AV.chg]; split <;> simp [AV.refs], fun q hq => ?_⟩;simp only [AV.chg] at hq;split at hq
  ·simp [AV.ptrs] at hq
  ·exact hq
 | cloS f caps =>
  refine ⟨by simp only [AV.chg]; split <;> simp [AV.refs], fun q hq => ?_⟩;simp only [AV.chg] at hq;split at hq
  ·simp [AV.ptrs] at hq
  ·exact hq
 | grow r j i o l =>
  refine ⟨fun q hq => ?_, by simp only [AV.chg]; split <;> simp [AV.ptrs]⟩;simp only [AV.chg] at hq;split at hq
  ·simp [AV.refs] at hq
  ·exact hq
 | sel r j e e2 t ix x =>
  refine ⟨fun q hq => ?_, by simp only [AV.chg]; split <;> simp [AV.ptrs]⟩;simp only [AV.chg] at hq;split at hq
  ·simp [AV.refs] at hq
  ·exact hq
 | _ => exact ⟨fun q hq => hq, fun q hq => hq⟩
theorem Y98 (d : Nat) : Fewer (forgetG d) := fun r j p l => by simp [forgetG]; split; exact .inl rfl; exact .inr rfl
theorem Y99 (r j : Nat) : Fewer (freezeG r j) := fun r j p l => by simp [freezeG]; split; exact .inl rfl; exact .inr rfl
theorem Y10 (d : Nat) : Fewer (killG d) := fun r j p l => by simp [killG]; split; exact .inl rfl; exact .inr rfl
theorem Y1l (r j : Nat) : Fewer (killPG r j) := fun r j p l => by simp [killPG]; split; exact .inl rfl; exact .inr rfl
theorem NoRef.of_lt {E : Nat -> AV} {N n : Nat} (hE : s.env = E) (h : ∀ r, (∀ q ∈ (E r).refs, q.1 < N) /\ (∀ q ∈ (E r).ptrs, q < N)) (hn : N <= n) : ∀ r, (∀ q ∈ (s.env r).refs, q.1 ≠ n) /\ (∀ q ∈ (s.env r).ptrs, q ≠ n) := by
 subst hE;exact fun r => ⟨fun q hq => by have := (h r).1 q hq; omega, fun q hq => by have := (h r).2 q hq; omega⟩
theorem RP.addVal (h : RP c env tmps w ps vs) (hn : env.length <= n) (hp : ps n = .undef)
  (hv : ∀ cs bs, Rel c ⟨ovl env ps, ovlT tmps vs, w, cs, bs⟩ -> ∃ cells, ValC c ⟨ovl env ps, ovlT tmps vs, w, cs, bs⟩ av v cells) (hr : (∀ q ∈ av.refs, q.1 < env.length) /\ (∀ q ∈ av.ptrs, q < env.length)) : RP c env tmps w (upd ps n av) (upd vs n v) := by
 obtain ⟨hl, cs, bs, h1, h2⟩ := h;obtain ⟨cells, hv⟩ := hv cs bs h1;have hq : (ovl env ps n).quiet = true := by rw [Yt hn, hp]; rfl
 refine ⟨hl, _, _, Rel.congr (h1.setVal hq hv) (Yd hn av).symm (Y13 (by omega) v).symm, fun r => ?_⟩;rw [Yd hn];by_cases hrn : r = n
 ·subst hrn; rw [Y0]; exact hr
 ·rw [Y2 _ _ hrn]; exact h2 r
theorem RP.dropAt (h : RP c env tmps w ps vs) (hn : env.length <= n) (hs : ∀ r, Settled (ps r)) : RP c env tmps w (upd ps n .undef) vs := by
 obtain ⟨hl, cs, bs, h1, h2⟩ := h;have e : forgetE n (ovl env ps) = ovl env (upd ps n .undef) := by
  funext r;rw [Yd hn];simp [forgetE, upd];split
  ·rfl
  ·have := h2 r;generalize ovl env ps r = v at this;have hne : ∀ q ∈ v.refs, q.1 ≠ n := fun q hq => by grind
   have hne2 : ∀ q ∈ v.ptrs, q ≠ n := fun q hq => by grind
   have leaf : ∀ l : Leaf, (∀ q ∈ l.refs, q.1 ≠ n) -> l.chg (forgetG n) = l := by
    intro l hl;obtain ⟨t, x, m⟩ := l;cases m with
    | at_ _ => rfl
    | dead => rfl
    | bor r j p => simp only [Leaf.chg, forgetG]; rw [X2 (hl (r, j) (by simp [Leaf.refs]))]
   have leaves : ∀ ls : List Leaf, (∀ q ∈ ls.flatMap Leaf.refs, q.1 ≠ n) -> chgs (forgetG n) ls = ls := by
    intro ls
    induction ls with
    | nil => intro _; rfl
    | cons l ls ih =>
     intro hls;rw [chgs, leaf l (fun q hq => hls q (by simp [hq])), ih (fun q hq => hls q (by grind))]
   cases v with
   | con k ls => simp only [AV.chg]; rw [leaves ls hne]
   | path r off => simp only [AV.chg]; rw [X2 (by simpa [forgetG] using hne2 r (by simp [AV.ptrs]))]
   | eptr ls wr =>
    cases wr with
    | none => simp only [AV.chg]; rw [leaves ls (fun q hq => hne q (by simp only [AV.refs, Xf]; exact hq))]
    | some w =>
     simp only [AV.chg];rw [leaves ls (fun q hq => hne q (by simp only [AV.refs]; exact Xc _ hq)), X2 (by simpa [forgetG] using hne (w.1, w.2.1) (by simp [AV.refs]))]
   | clo f caps =>
    simp only [AV.chg];rw [X2];simp only [X1n, not_exists, not_and];intro q hq;simpa [forgetG] using hne2 q.1 (by simp only [AV.ptrs, X19]; exact ⟨q, hq, rfl⟩)
   | fptr f caps =>
    simp only [AV.chg];rw [X2];simp;intro q hq;simpa [forgetG] using hne2 q hq
   | cloS f caps =>
    simp only [AV.chg];rw [X2];simp;intro q hq;simpa [forgetG] using hne2 q hq
   | grow r j i o l => simp only [AV.chg]; rw [X2 (by simpa [forgetG] using hne (r, j) (by simp [AV.refs]))]
   | sel r j e e2 t ix x => simp only [AV.chg]; rw [X2 (by simpa [forgetG] using hne (r, j) (by simp [AV.refs]))]
   | _ => rfl
 refine ⟨hl, _, _, Rel.congr (h1.forget_ n) e rfl, fun r => ?_⟩;rw [Yd hn];by_cases hrn : r = n
 ·subst hrn; rw [Y0]; exact ⟨by simp [AV.refs], by simp [AV.ptrs]⟩
 ·rw [Y2 _ _ hrn]; exact h2 r
theorem RP.commit {n d : Nat} (h : RP c env tmps w ps vs) (hn : env.length <= n) (hd : d < env.length) (hs : ∀ r, r ≠ n -> Settled (ps r)) :
  RP c (setD (some d) env (ps n)) (tmps.setIfInBounds d (vs n)) w (upd ps n .undef) vs := by
 obtain ⟨hlen, cs, bs, hr, hno⟩ := h;have hdn : n ≠ d := by omega
 have hvn : ovlT tmps vs n = vs n := X2 (by omega);have last : ∀ {env1 : Env} {ps1 : Nat -> AV} {cs bs}, env1.length = env.length -> Rel c ⟨ovl env1 ps1, ovlT tmps vs, w, cs, bs⟩ -> (∀ r, (∀ q ∈ (ovl env1 ps1 r).refs, q.1 < env.length) /\ (∀ q ∈ (ovl env1 ps1 r).ptrs, q < env.length)) -> (get env1 d).quiet = true ->
   RP c (put env1 d (ps1 n)) (tmps.setIfInBounds d (vs n)) w (upd ps1 n .undef) vs := by
  intro env1 ps1 cs bs hl1 hr1 hno1 hq;have hpn : ovl env1 ps1 n = ps1 n := Yt (by omega);have h1 := hr1.move hdn (by show (ovl env1 ps1 d).quiet = true; rw [Y8 (by omega)]; exact hq) (NoRef.of_lt rfl hno1 hn);simp [hpn, hvn] at h1;have e1 : upd (upd (ovl env1 ps1) n .undef) d (ps1 n) = ovl (put env1 d (ps1 n)) (upd ps1 n .undef) := by
   rw [Yu (by omega), Yd (by omega)]
  refine ⟨by rw [Y5, hl1, Array.size_setIfInBounds]; exact hlen, _, _, Rel.congr h1 e1 (Ydk (by omega) _).symm, fun r => ?_⟩;rw [Y5, hl1, <- e1];by_cases hrd : r = d
  ·subst hrd; rw [Y0]; have := hno1 n; rw [hpn] at this; exact this
  ·rw [Y2 _ _ hrd];by_cases hrn : r = n
   ·subst hrn; rw [Y0]; exact ⟨by simp [AV.refs], by simp [AV.ptrs]⟩
   ·rw [Y2 _ _ hrn]; exact hno1 r
 unfold setD;simp only;by_cases hq : (get env d).quiet = true
 ·grind
 ·rw [X2 hq];have e : forgetE d (ovl env ps) = ovl (forget d env) (upd ps n ((ps n).chg (forgetG d))) := by
   rw [Yd (by rw [Y1g]; omega)];funext r;simp [forgetE, upd];by_cases h1 : r = n
   ·subst h1;rw [X2 hdn, X4 rfl, Yt hn]
   ·rw [X2 h1];by_cases h2 : r = d
    ·subst h2;rw [X4 rfl, Y8 (by rw [Y1g]; exact hd)];have := congrFun (Y50 r env) r;rw [this];simp [forgetE, upd]
    ·rw [X2 h2];simp [ovl, Y1g];split
     ·rw [Y50]; simp [forgetE, upd, h2]
     ·exact (hs r h1).chg _
  have h1 := Rel.congr (hr.forget_ d) e rfl;have := last (Y1g d env) h1 (fun r => ?_) ?_
  ·rw [Y0] at this;have e2 : upd (upd ps n ((ps n).chg (forgetG d))) n .undef = upd ps n .undef := by funext r; simp [upd]; split <;> rfl
   rw [e2] at this;exact this
  ·rw [<- e];simp only [forgetE, upd];split
   ·exact ⟨by simp [AV.refs], by simp [AV.ptrs]⟩
   ·have h3 := Yj (Y98 d) (ovl env ps r);exact ⟨fun q hq => (hno r).1 q (h3.1 q hq), fun q hq => (hno r).2 q (h3.2 q hq)⟩
  ·rw [Y50]; simp [forgetE, upd]; rfl
def pullE (r j s0 q : Nat) (dl nl : Leaf) (E : Nat -> AV) : Nat -> AV :=
 upd (upd (chgE (killPG r j) E) r ((chgE (killPG r j) E r).setLeaf j dl)) s0 ((chgE (killPG r j) E s0).setLeaf q nl)
theorem Rel.pull_ (h : Rel c s) {r j q s0 : Nat} {x : t.D} {lp : Leaf} (hs : s.env s0 = .con k ls) (hq : leafAt ls q = some ⟨t, x, .bor r j []⟩) (hne : s0 ≠ r) (hl : (s.env r).leaf? j = some lp) (hm : lp.m = .at_ lv) (hlv : lv ≠ .ro) :
  ∃ bs', Rel c ⟨pullE r j s0 q ⟨lp.t, lp.x, .dead⟩ ⟨t, x, .at_ lv⟩ s.env, s.tm, s.w, s.cs, bs'⟩ /\
   ∀ p, (∀ z ∈ (pullE r j s0 q ⟨lp.t, lp.x, .dead⟩ ⟨t, x, .at_ lv⟩ s.env p).refs, z ∈ (s.env p).refs) /\ (∀ z ∈ (pullE r j s0 q ⟨lp.t, lp.x, .dead⟩ ⟨t, x, .at_ lv⟩ s.env p).ptrs, z ∈ (s.env p).ptrs) := by
 obtain ⟨env, tm, w, cs, bs⟩ := s;simp only at hs hl ⊢
 -- what is borrowed is the place itself
 have hav0 := h.av s0;simp [hs] at hav0;obtain ⟨_, g2, _, g4⟩ := hav0;have hqlt : q < ls.length := by rw [Y1] at hq; exact (X6.1 hq).1
 have g2 : ls.length = (cs s0).length := g2;obtain ⟨u, hu⟩ : ∃ u, (cs s0)[q]? = some u := ⟨_, X1 (by omega)⟩;have hbor : (cs r)[j]? = some u /\ lp = ⟨t, x, lp.m⟩ := by
  have := g4 q _ u hq hu;obtain ⟨_, _, ⟨lf', u', ⟨g5, g6, g7⟩, g8⟩, _⟩ := this;rw [hl] at g5;simp at g5;obtain ⟨m, g9, rfl⟩ := g8 rfl;subst g5;exact ⟨g7, by rw [g9]⟩
 obtain ⟨hcj, hlp⟩ := hbor;obtain ⟨hk2, hk3⟩ := h.killPlace_ r j;obtain ⟨k0, ls0, hv0⟩ : ∃ k ls, env r = .con k ls := by
  cases hv : env r with
  | con k ls => exact ⟨k, ls, rfl⟩
  | _ => rw [hv] at hl; simp [AV.leaf?] at hl
 have hl' : leafAt ls0 j = some lp := by rw [hv0] at hl; exact hl
 let E := chgE (killPG r j) env
 have hEr : E r = .con k0 (chgs (killPG r j) ls0) := by show (env r).chg _ = _; rw [hv0]; rfl
 have hEs : E s0 = .con k (chgs (killPG r j) ls) := by show (env s0).chg _ = _; rw [hs]; rfl
 have hlj : leafAt (chgs (killPG r j) ls0) j = some lp := by
  rw [Yh, hl'];obtain ⟨t', x', m'⟩ := lp;subst hm;rfl
 have hjlt : j < (chgs (killPG r j) ls0).length := by rw [Y1] at hlj; exact (X6.1 hlj).1
 let dl : Leaf := ⟨lp.t, lp.x, .dead⟩
 let nl : Leaf := ⟨t, x, .at_ lv⟩
 let bs' : Nat -> Nat -> List Nat := updP (updP bs r (j + 1) []) s0 (q + 1) (bs r (j + 1))
 let s' : St := ⟨pullE r j s0 q dl nl env, tm, w, cs, bs'⟩
 have hEs' : s'.env s0 = .con k (setAt (chgs (killPG r j) ls) q nl) := by
  show upd _ s0 _ s0 = _;rw [Y0, show chgE (killPG r j) env s0 = _ from hEs]; rfl
 have hEr' : s'.env r = .con k0 (setAt (chgs (killPG r j) ls0) j dl) := by
  show upd _ s0 _ r = _;rw [Y2 _ _ (Ne.symm hne), Y0, show chgE (killPG r j) env r = _ from hEr]; rfl
 have hbr : bs' r = fun l => if l = j + 1 then [] else bs r l := by
  show updP _ s0 _ _ r = _;rw [Y1z _ _ _ (Ne.symm hne)];funext l;simp [updP]
 have hbs : bs' s0 = fun l => if l = q + 1 then bs r (j + 1) else bs s0 l := by
  funext l;show (if s0 = s0 /\ l = q + 1 then _ else updP bs r (j + 1) [] s0 l) = _;rw [Y1z _ _ _ hne];simp
 have hbsq : bs s0 (q + 1) = [] := by
  have := g4 q _ u hq hu;exact this.1
 have hsame : ∀ p, ¬ (p = r \/ p = s0) -> s'.env p = (E p).chg noG /\ s'.tm p = tm p /\ s'.cs p = cs p /\ s'.bs p = bs p := fun p hp => by
  simp at hp;refine ⟨by rw [AV.chg_no]; show upd _ s0 _ p = _; rw [Y2 _ _ hp.2, Y2 _ _ hp.1], rfl, rfl, ?_⟩;show updP _ s0 _ _ p = _;rw [Y1z _ _ _ hp.2, Y1z _ _ _ hp.1]
 have hnoq : ∀ lf v, ¬ OwnPlace ⟨E, tm, w, cs, bs⟩ s0 q lf v := by
  rintro lf v ⟨o1, o2, o3⟩
  have o1 : (E s0).leaf? q = some lf := o1;rw [hEs] at o1;simp only [AV.leaf?] at o1;rw [Yh, hq] at o1;simp at o1;subst o1;simp [Leaf.chg, killPG, Leaf.lost, Mode.own] at o2
 have hown : ∀ p i, ¬ (p = r /\ i = j) /\ ¬ (p = s0 /\ i = q) -> SamePl ⟨E, tm, w, cs, bs⟩ s' p i := by
  intro p i ⟨hpi, hpq⟩;by_cases hpr : p = r
  ·subst hpr;refine ⟨fun lf v ⟨o1, o2, o3⟩ => ⟨?_, o2, o3⟩, by show bs' p (i + 1) = _; rw [hbr]; exact X2 (fun h => hpi ⟨rfl, by omega⟩), fun _ _ => rfl⟩;rw [hEr'];have o1 : (E p).leaf? i = some lf := o1;rw [hEr] at o1;simp only [AV.leaf?] at o1 ⊢;rw [Y1, Y9, X10 (fun h => hpi ⟨rfl, h.symm⟩), <- Y1];exact o1
  ·by_cases hps : p = s0
   ·subst hps;have hiq : i ≠ q := fun h => hpq ⟨rfl, h⟩;refine ⟨fun lf v ⟨o1, o2, o3⟩ => ⟨?_, o2, o3⟩, by show bs' p (i + 1) = _; rw [hbs]; exact X2 (by omega), fun _ _ => rfl⟩;rw [hEs'];have o1 : (E p).leaf? i = some lf := o1;rw [hEs] at o1;simp only [AV.leaf?] at o1 ⊢;rw [Y1, Y9, X10 (Ne.symm hiq), <- Y1];exact o1
   ·have hs4 := hsame p (by simp; exact ⟨hpr, hps⟩);exact ⟨fun lf v ho => ho.chg hs4.1 hs4.2.2.1, by rw [hs4.2.2.2], fun _ _ => rfl⟩
 have hptr : ∀ p, SamePtr ⟨E, tm, w, cs, bs⟩ s' p := by
  intro p;by_cases hpr : p = r
  ·subst hpr;refine ⟨rfl, fun e ls he => ?_⟩;have he : E p = _ := he;rw [hEr] at he;cases he;exact ⟨e, _, hEr'⟩
  ·by_cases hps : p = s0
   ·subst hps;refine ⟨rfl, fun e ls he => ?_⟩;have he : E p = _ := he;rw [hEs] at he;cases he;exact ⟨e, _, hEs'⟩
   ·have hs4 := hsame p (by simp; exact ⟨hpr, hps⟩);exact SamePtr.chg hs4.1 hs4.2.1
 have hLr : ∀ p, (∀ z ∈ (E p).refs, ¬ (z.1 = r /\ z.2 = j) /\ ¬ (z.1 = s0 /\ z.2 = q)) /\ (∀ z ∈ (E p).ptrs, True) := fun p =>
  ⟨fun z hz => ⟨fun h2 => hk3 p z hz (Prod.ext h2.1 h2.2), fun h2 => by
   obtain ⟨lf, v, ho⟩ := (hk2.av p).refs_own.1 z hz;rw [h2.1, h2.2] at ho;exact hnoq lf v ho⟩, fun _ _ => trivial⟩
 obtain ⟨hrepj, hpinj⟩ : Rep (RoS c ⟨E, tm, w, cs, bs⟩) w t lv [u] x (bs r (j + 1)) /\ lv.pinOk c (u) := by
  have hav2 := hk2.av r;simp only [show chgE (killPG r j) env r = _ from hEr] at hav2;have h6 := hav2.2.2.2 j lp _ hlj hcj;rw [hlp, hm] at h6;exact ⟨h6.rep, h6.pin⟩
 have hrs : r ≠ s0 := Ne.symm hne;have hmain : Rel c s' := by
  refine Rel.step (s' := s') noG hk2 (fun p => p = r \/ p = s0) (fun p i => ¬ (p = r /\ i = j) /\ ¬ (p = s0 /\ i = q)) (fun _ => True) hsame (X1g _ _) (fun b _ _ => rfl)
   (fun p l b hD hb => ?_) (fun p1 l1 p2 l2 b hD hD' hb1 hb2 => ?_) (fun p l hD => ?_) (fun p _ => hLr p) (fun hkp => ⟨Yq hkp hown, Y15 hkp hown, fun p _ _ => hptr p⟩) (fun hkp p hD => ?_)
  ·rcases hD with rfl | rfl
   ·rw [show s'.bs p = _ from hbr] at hb
    replace hb : b ∈ (if l = j + 1 then [] else bs p l) := hb
    split at hb
    ·simp at hb
    ·exact ⟨(hk2.own _ _ _ hb).2, .inr ⟨p, l, .inl rfl, hb⟩⟩
   ·rw [show s'.bs p = _ from hbs] at hb
    replace hb : b ∈ (if l = q + 1 then bs r (j + 1) else bs p l) := hb
    split at hb
    ·exact ⟨(hk2.own _ _ _ hb).2, .inr ⟨r, j + 1, .inl rfl, hb⟩⟩
    ·exact ⟨(hk2.own _ _ _ hb).2, .inr ⟨p, l, .inr rfl, hb⟩⟩
  ·rcases hD with rfl | rfl <;> rcases hD' with rfl | rfl
   ·rw [show s'.bs p2 = _ from hbr] at hb1 hb2
    replace hb1 : b ∈ (if l1 = j + 1 then [] else bs p2 l1) := hb1
    replace hb2 : b ∈ (if l2 = j + 1 then [] else bs p2 l2) := hb2
    split at hb1
    ·simp at hb1
    ·split at hb2
     ·simp at hb2
     ·exact hk2.disj _ _ _ _ _ hb1 hb2
   ·exfalso;rw [show s'.bs p1 = _ from hbr] at hb1;rw [show s'.bs p2 = _ from hbs] at hb2
    replace hb1 : b ∈ (if l1 = j + 1 then [] else bs p1 l1) := hb1
    replace hb2 : b ∈ (if l2 = q + 1 then bs p1 (j + 1) else bs p2 l2) := hb2
    split at hb1
    ·simp at hb1
    ·rename_i hn1;split at hb2
     ·exact hn1 (hk2.disj _ _ _ _ _ hb1 hb2).2
     ·exact hrs (hk2.disj _ _ _ _ _ hb1 hb2).1
   ·exfalso;rw [show s'.bs p2 = _ from hbr] at hb2;rw [show s'.bs p1 = _ from hbs] at hb1
    replace hb2 : b ∈ (if l2 = j + 1 then [] else bs p2 l2) := hb2
    replace hb1 : b ∈ (if l1 = q + 1 then bs p2 (j + 1) else bs p1 l1) := hb1
    split at hb2
    ·simp at hb2
    ·rename_i hn1;split at hb1
     ·exact hn1 (hk2.disj _ _ _ _ _ hb2 hb1).2
     ·exact hrs (hk2.disj _ _ _ _ _ hb2 hb1).1
   ·rw [show s'.bs p2 = _ from hbs] at hb1 hb2
    replace hb1 : b ∈ (if l1 = q + 1 then bs r (j + 1) else bs p2 l1) := hb1
    replace hb2 : b ∈ (if l2 = q + 1 then bs r (j + 1) else bs p2 l2) := hb2
    split at hb1
    ·split at hb2
     ·grind
     ·exact (hrs (hk2.disj _ _ _ _ _ hb1 hb2).1).elim
    ·split at hb2
     ·exact (hrs (hk2.disj _ _ _ _ _ hb2 hb1).1).elim
     ·exact hk2.disj _ _ _ _ _ hb1 hb2
  ·rcases hD with rfl | rfl
   ·rw [show s'.bs p = _ from hbr];show (if l = j + 1 then [] else bs p l).Nodup;split
    ·grind
    ·exact hk2.nodup _ _
   ·rw [show s'.bs p = _ from hbs];show (if l = q + 1 then bs r (j + 1) else bs p l).Nodup;split
    ·exact hk2.nodup _ _
    ·exact hk2.nodup _ _
  ·have leaf : ∀ (p l : Nat) (lf : Leaf) (v : Value), (∃ k ls, E p = .con k ls /\ leafAt ls l = some lf) -> s'.bs p (l + 1) = bs p (l + 1) -> LeafRel c ⟨E, tm, w, cs, bs⟩ p l v lf -> LeafRel c s' p l v lf := by
    intro p l lf v ⟨k1, ls1, e1, e2⟩ hb h6;have := h6.chg (g := noG) (r' := p) hkp (Yq hkp hown) (fun z hz => by
     have := (hLr p).1 z (by rw [e1]; simp only [AV.refs, Xj]; exact ⟨lf, Yb e2, hz⟩);exact this) hb (fun _ _ => rfl)
    have hno1 : lf.chg noG = lf := by obtain ⟨t, x, m⟩ := lf; cases m <;> rfl
    rw [hno1] at this;exact this
   rcases hD with rfl | rfl
   ·have hav2 := hk2.av p;simp only [show chgE (killPG p j) env p = _ from hEr] at hav2;obtain ⟨g1, g2, g3, g4⟩ := hav2;rw [hEr'];refine ⟨?_, by rw [Y9, Xz]; exact g2, fun l hl2 => ?_, fun l lf v hl2 hu2 => ?_⟩
    ·grind
    ·rw [Y9, Xz] at hl2;rw [show s'.bs p = _ from hbr];show (if l + 1 = j + 1 then [] else bs p (l + 1)) = [];split
     ·rfl
     ·exact g3 l hl2
    ·rw [Y1, Y9] at hl2;by_cases hlj2 : l = j
     ·subst hlj2;rw [X1m hjlt] at hl2;simp at hl2;subst hl2;refine ⟨by rw [show s'.bs p = _ from hbr]; simp, ?_⟩;have hu' : v = u := by rw [show (s'.cs p)[l]? = some u from hcj] at hu2; exact (Xs hu2).symm
      rw [hu'];exact Rep.one hrepj _ (by simp)
     ·rw [X10 (fun h => hlj2 h.symm), <- Y1] at hl2;exact leaf p l lf v ⟨_, _, hEr, hl2⟩ (by rw [show s'.bs p = _ from hbr]; show (if l + 1 = j + 1 then [] else bs p (l + 1)) = _; rw [X2 (by omega)]) (g4 l lf v hl2 hu2)
   ·have hav2 := hk2.av p;simp only [show chgE (killPG r j) env p = _ from hEs] at hav2;obtain ⟨g1, g2, g3, g4⟩ := hav2;rw [hEs'];refine ⟨?_, by rw [Y9, Xz]; exact g2, fun l hl2 => ?_, fun l lf v hl2 hu2 => ?_⟩
    ·grind
    ·rw [Y9, Xz] at hl2;rw [show s'.bs p = _ from hbs];show (if l + 1 = q + 1 then bs r (j + 1) else bs p (l + 1)) = [];rw [X2 (by grind)];exact g3 l hl2
    ·rw [Y1, Y9] at hl2;by_cases hlq : l = q
     ·subst hlq;rw [X1m (by rw [Yr]; exact hqlt)] at hl2;simp at hl2;subst hl2;have hu' : v = u := by rw [show (s'.cs p)[l]? = some u from hu] at hu2; exact (Xs hu2).symm
      rw [hu'];refine LeafRel.of_rep hpinj ?_;rw [show s'.bs p = _ from hbs];simp;exact Rep.move (fun b hb hl => hkp b hb hl) (fun _ _ => rfl) hrepj
     ·rw [X10 (fun h => hlq h.symm), <- Y1] at hl2;exact leaf p l lf v ⟨_, _, hEs, hl2⟩ (by rw [show s'.bs p = _ from hbs]; show (if l + 1 = q + 1 then _ else bs p (l + 1)) = _; rw [X2 (by omega)]) (g4 l lf v hl2 hu2)
 refine ⟨bs', hmain, fun p => ?_⟩;have hc := Yj (Y1l r j) (env p);have setR : ∀ (k1 : Kind) (ls1 : List Leaf) (i : Nat) (l : Leaf), l.refs = [] -> ∀ z ∈ (AV.con k1 (setAt ls1 i l)).refs, z ∈ (AV.con k1 ls1).refs := by
  intro k1 ls1 i l hl z hz;rw [Y9] at hz;simp only [AV.refs, Xj] at hz ⊢;obtain ⟨lf, hmm, hz⟩ := hz;rcases X2n hmm with hmm | rfl
  ·grind
  ·grind
 by_cases hps : p = s0
 ·subst hps;rw [show pullE r j p q _ _ env p = _ from hEs'];refine ⟨fun z hz => ?_, by simp [AV.ptrs]⟩;have := setR _ _ _ _ rfl z hz;rw [<- hEs] at this;exact hc.1 z this
 ·by_cases hpr : p = r
  ·subst hpr;rw [show pullE p j s0 q _ _ env p = _ from hEr'];refine ⟨fun z hz => ?_, by simp [AV.ptrs]⟩;have := setR _ _ _ _ rfl z hz;rw [<- hEr] at this;exact hc.1 z this
  ·rw [show pullE r j s0 q _ _ env p = E p from by show upd _ s0 _ p = _; rw [Y2 _ _ hps, Y2 _ _ hpr]];exact hc
end Go.FP
