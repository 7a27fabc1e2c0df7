/- A verified evaluator of the program's code, part 1 of 4: what it computes of a call is what the call does; rules for what it computes.
   Conditions: none; it speaks of every program. -/
import Derived.WalkKit
import Derived.Orders
import Derived.LoopN
import Derived.Deep.AppendSrc
set_option linter.unusedVariables false
set_option linter.unusedSectionVars false
set_option linter.unusedSimpArgs false
namespace Go.Proofs.YtpjohgnhmjceiaaGreatDoor.AX
noncomputable section
inductive Bt (α : Type) where
 | e : Bt α
 | n (l : Bt α) (v : Option α) (r : Bt α) : Bt α
def Bt.get {α : Type} (t : Bt α) : Nat → Option α :=
 Bt.rec (fun _ => none)
  (fun _ v _ gl gr k => Bool.rec (Bool.rec (gr (Nat.div k 2)) (gl (Nat.div k 2)) (Nat.beq (Nat.mod k 2) 0)) v (Nat.beq k 0)) t
def Bt.one {α : Type} (x : Option α) (f : Nat) : Nat → Bt α :=
 Nat.rec (fun _ => .e) (fun _ ih k => Bool.rec (Bool.rec (.n .e none (ih (Nat.div k 2))) (.n (ih (Nat.div k 2)) none .e) (Nat.beq (Nat.mod k 2) 0)) (.n .e x .e) (Nat.beq k 0)) f
def Bt.put {α : Type} (x : Option α) (t : Bt α) : Nat → Bt α :=
 Bt.rec (fun k => Bt.one x (Nat.succ k) k)
  (fun l v r pl pr k => Bool.rec (Bool.rec (.n l v (pr (Nat.div k 2))) (.n (pl (Nat.div k 2)) v r) (Nat.beq (Nat.mod k 2) 0)) (.n l x r) (Nat.beq k 0)) t
theorem brec {α : Sort _} (f t : α) (b : Bool) : @Bool.rec (fun _ => α) f t b = if b = true then t else f := by cases b <;> rfl
theorem beq0 (k : Nat) : (Nat.beq k 0 = true) = (k = 0) := by simp [Nat.beq_eq]
theorem Bt.get_e {α : Type} (k : Nat) : (Bt.e : Bt α).get k = none := rfl
theorem Bt.get_n {α : Type} (l : Bt α) (v : Option α) (r : Bt α) (k : Nat) :
  (Bt.n l v r).get k = if k = 0 then v else if k % 2 = 0 then l.get (k / 2) else r.get (k / 2) := by
 show @Bool.rec (fun _ => _) _ _ _ = _
 rw [brec, brec]
 simp only [beq0]
 rfl
theorem Bt.one_get {α : Type} (x : Option α) : ∀ (f k j : Nat), k < f → (Bt.one x f k).get j = if j = k then x else none
 | 0, k, j, h => by omega
 | f + 1, k, j, h => by
   show Bt.get (@Bool.rec (fun _ => Bt α) _ _ _) j = _
   rw [brec, brec]
   simp only [beq0]
   have ih := Bt.one_get x f (k / 2)
   by_cases hk : k = 0
   · subst hk
     rw [if_pos rfl, Bt.get_n]
     by_cases hj : j = 0
     · simp [hj]
     · simp [hj, Bt.get_e]
   · rw [if_neg hk]
     have hlt : k / 2 < f := by omega
     by_cases h2 : k % 2 = 0
     · rw [if_pos (show Nat.mod k 2 = 0 from h2), Bt.get_n]
       show (if j = 0 then none else if j % 2 = 0 then (Bt.one x f (k / 2)).get (j / 2) else Bt.get .e (j / 2)) = _
       rw [ih _ hlt, Bt.get_e]
       by_cases hj : j = 0
       · rw [if_pos hj, if_neg (by omega)]
       · rw [if_neg hj]
         by_cases hj2 : j % 2 = 0
         · rw [if_pos hj2]
           by_cases he : j / 2 = k / 2
           · rw [if_pos he, if_pos (by omega)]
           · rw [if_neg he, if_neg (by omega)]
         · rw [if_neg hj2, if_neg (by omega)]
     · rw [if_neg (show ¬ Nat.mod k 2 = 0 from h2), Bt.get_n]
       show (if j = 0 then none else if j % 2 = 0 then Bt.get .e (j / 2) else (Bt.one x f (k / 2)).get (j / 2)) = _
       rw [ih _ hlt, Bt.get_e]
       by_cases hj : j = 0
       · rw [if_pos hj, if_neg (by omega)]
       · rw [if_neg hj]
         by_cases hj2 : j % 2 = 0
         · rw [if_pos hj2, if_neg (by omega)]
         · rw [if_neg hj2]
           by_cases he : j / 2 = k / 2
           · rw [if_pos he, if_pos (by omega)]
           · rw [if_neg he, if_neg (by omega)]
theorem Bt.get_put {α : Type} (x : Option α) (t : Bt α) : ∀ (k j : Nat), (t.put x k).get j = if j = k then x else t.get j := by
 induction t with
 | e =>
   intro k j
   show (Bt.one x (Nat.succ k) k).get j = _
   rw [Bt.one_get x _ _ _ (Nat.lt_succ_self k), Bt.get_e]
 | n l v r ihl ihr =>
   intro k j
   show Bt.get (@Bool.rec (fun _ => Bt α) _ _ _) j = _
   rw [brec, brec]
   simp only [beq0]
   rw [Bt.get_n (k := j)]
   by_cases hk : k = 0
   · subst hk
     rw [if_pos rfl, Bt.get_n]
     by_cases hj : j = 0 <;> simp [hj]
   · rw [if_neg hk]
     by_cases h2 : k % 2 = 0
     · rw [if_pos (show Nat.mod k 2 = 0 from h2), Bt.get_n]
       show (if j = 0 then v else if j % 2 = 0 then (l.put x (k / 2)).get (j / 2) else r.get (j / 2)) = _
       rw [ihl]
       by_cases hj : j = 0
       · rw [if_pos hj, if_neg (by omega), if_pos hj]
       · rw [if_neg hj, if_neg hj]
         by_cases hj2 : j % 2 = 0
         · rw [if_pos hj2, if_pos hj2]
           by_cases he : j / 2 = k / 2
           · rw [if_pos he, if_pos (by omega)]
           · rw [if_neg he, if_neg (by omega)]
         · rw [if_neg hj2, if_neg hj2, if_neg (by omega)]
     · rw [if_neg (show ¬ Nat.mod k 2 = 0 from h2), Bt.get_n]
       show (if j = 0 then v else if j % 2 = 0 then l.get (j / 2) else (r.put x (k / 2)).get (j / 2)) = _
       rw [ihr]
       by_cases hj : j = 0
       · rw [if_pos hj, if_neg (by omega), if_pos hj]
       · rw [if_neg hj, if_neg hj]
         by_cases hj2 : j % 2 = 0
         · rw [if_pos hj2, if_pos hj2, if_neg (by omega)]
         · rw [if_neg hj2, if_neg hj2]
           by_cases he : j / 2 = k / 2
           · rw [if_pos he, if_pos (by omega)]
           · rw [if_neg he, if_neg (by omega)]
inductive Fact where
 | any
 | rng (lo hi : Int)
 | msk (m r : Int)
inductive AV where
 | bool (b : Bool)
 | int (k : IntKind) (n : Int)
 | str (s : List Nat)
 | nil
 | ptr (b o : Nat)
 | nslice
 | slice (b o n c sz : Nat) (ex : Bool)
 | nmap
 | map (b : Nat)
 | func (f : FuncId) (first cap : List AV)
 | nfunc
 | iface (t : TypeId) (v : AV)
 | niface
 | agg (cs : List AV)
 | tup (vs : List AV)
 | opq (b : Nat) (f : Fact)
def AV.undef : AV := .tup []
abbrev TA := Bt AV
inductive Blk where
 | cells (t : TA) (n : Nat) (wr : Bool)
 | map (es : List (AV × AV × Nat)) (clk : Nat)
 | iter (m : Option Nat) (since : Nat) (seen : List Nat) (last : Nat)
abbrev TB := Bt Blk
inductive V1 where
 | no (why : List Nat)
 | ok (v : AV) (t : TB) (nx : Nat)
def fNat {β : Type} (m : Nat) (k : Nat → β) : β := @Nat.rec (fun _ => β) (k 0) (fun p _ => k (Nat.succ p)) m
def fInt {β : Type} (n : Int) (k : Int → β) : β :=
 @Int.rec (fun _ => β) (fun m => fNat m (fun m => k (.ofNat m))) (fun m => fNat m (fun m => k (.negSucc m))) n
theorem fNat_eq {β : Type} (m : Nat) (k : Nat → β) : fNat m k = k m := by cases m <;> rfl
theorem fInt_eq {β : Type} (n : Int) (k : Int → β) : fInt n k = k n := by
 cases n with
 | ofNat m => exact fNat_eq m (fun m => k (.ofNat m))
 | negSucc m => exact fNat_eq m (fun m => k (.negSucc m))
def kN (k : IntKind) : Nat := match k with | .i8 => 0 | .i16 => 1 | .i32 => 2 | .i64 => 3 | .u8 => 4 | .u16 => 5 | .u32 => 6 | .u64 => 7
def kMax (k : IntKind) : Nat := match k with
 | .i8 => 127 | .i16 => 32767 | .i32 => 2147483647 | .i64 => 9223372036854775807 | .u8 => 255 | .u16 => 65535 | .u32 => 4294967295 | .u64 => 18446744073709551615
def wrapF (k : IntKind) (n : Int) : Int := match n with
 | .ofNat m => match Nat.ble m (kMax k) with | true => .ofNat m | false => k.wrap (.ofNat m)
 | .negSucc m => match k.signed with
   | true => (match Nat.ble m (kMax k) with | true => .negSucc m | false => k.wrap (.negSucc m))
   | false => k.wrap (.negSucc m)
def iLt (a b : Int) : Bool := match a, b with
 | .ofNat x, .ofNat y => Nat.ble (Nat.succ x) y
 | .ofNat _, .negSucc _ => false
 | .negSucc _, .ofNat _ => true
 | .negSucc x, .negSucc y => Nat.ble (Nat.succ y) x
def iEq (a b : Int) : Bool := match a, b with
 | .ofNat x, .ofNat y => Nat.beq x y
 | .negSucc x, .negSucc y => Nat.beq x y
 | _, _ => false
def bitsG (op : BinOp) (k : IntKind) (x y : Int) : Option Int :=
 let a := BitVec.ofInt k.bits x
 let b := BitVec.ofInt k.bits y
 match op with
 | .and => some (k.wrap (a &&& b).toNat)
 | .or => some (k.wrap (a ||| b).toNat)
 | .xor => some (k.wrap (a ^^^ b).toNat)
 | .andNot => some (k.wrap (a &&& ~~~b).toNat)
 | _ => none
def bitsF (op : BinOp) (k : IntKind) (x y : Int) : Option Int := match x, y with
 | .ofNat m, .ofNat n => match Nat.ble m (kMax k), Nat.ble n (kMax k) with
   | true, true => (match op with
     | .and => some (.ofNat (Nat.land m n))
     | .or => some (.ofNat (Nat.lor m n))
     | _ => bitsG op k x y)
   | _, _ => bitsG op k x y
 | _, _ => bitsG op k x y
def shlF (k : IntKind) (x y : Int) : Option Int := match x, y with
 | .ofNat m, .ofNat n => some (wrapF k (.ofNat (Nat.mul m (Nat.pow 2 (Nat.min n k.bits)))))
 | x, .ofNat n => some (k.wrap (x * 2 ^ (Nat.min n k.bits)))
 | _, .negSucc _ => none
def shrF (k : IntKind) (x y : Int) : Option Int := match x, y with
 | .ofNat m, .ofNat n => some (.ofNat (Nat.div m (Nat.pow 2 (Nat.min n k.bits))))
 | x, .ofNat n => some (x.fdiv (2 ^ (Nat.min n k.bits)))
 | _, .negSucc _ => none
def intOp (op : BinOp) (k : IntKind) (a b : Int) : Option AV := match op with
 | .add => some (.int k (wrapF k (Int.add a b)))
 | .sub => some (.int k (wrapF k (Int.sub a b)))
 | .mul => some (.int k (wrapF k (Int.mul a b)))
 | .quo => match iEq b 0 with | true => none | false => some (.int k (wrapF k (Int.tdiv a b)))
 | .rem => match iEq b 0 with | true => none | false => some (.int k (Int.tmod a b))
 | .eql => some (.bool (iEq a b))
 | .neq => some (.bool (Bool.not (iEq a b)))
 | .lss => some (.bool (iLt a b))
 | .gtr => some (.bool (iLt b a))
 | .leq => some (.bool (Bool.not (iLt b a)))
 | .geq => some (.bool (Bool.not (iLt a b)))
 | .and => (bitsF .and k a b).map (.int k)
 | .or => (bitsF .or k a b).map (.int k)
 | .xor => (bitsF .xor k a b).map (.int k)
 | .andNot => (bitsF .andNot k a b).map (.int k)
 | _ => none
def opqOp (op : BinOp) (x y : AV) : Option AV := match x, y with
 | .opq _ (.rng lo hi), .int .i64 c => (match op with
   | .lss => (match iLt hi c, iLt lo c with | true, _ => some (.bool true) | _, false => some (.bool false) | _, _ => none)
   | .geq => (match iLt hi c, iLt lo c with | true, _ => some (.bool false) | _, false => some (.bool true) | _, _ => none)
   | .gtr => (match iLt c lo, iLt c hi with | true, _ => some (.bool true) | _, false => some (.bool false) | _, _ => none)
   | .leq => (match iLt c lo, iLt c hi with | true, _ => some (.bool false) | _, false => some (.bool true) | _, _ => none)
   | .eql => (match iLt hi c, iLt c lo with | true, _ => some (.bool false) | _, true => some (.bool false) | _, _ => none)
   | .neq => (match iLt hi c, iLt c lo with | true, _ => some (.bool true) | _, true => some (.bool true) | _, _ => none)
   | _ => none)
 | .opq _ (.msk m r), .int .i64 c => (match op with
   | .and => (match iEq m c with | true => some (.int .i64 r) | false => none)
   | _ => none)
 | _, _ => none
def sEq (a : List Nat) : List Nat → Bool :=
 List.rec (fun b => List.rec true (fun _ _ _ => false) b)
  (fun x _ ih b => List.rec false (fun y b' _ => Bool.rec false (ih b') (Nat.beq x y)) b) a
def sLt (a : List Nat) : List Nat → Bool :=
 List.rec (fun b => List.rec false (fun _ _ _ => true) b)
  (fun x _ ih b => List.rec false (fun y b' _ => Bool.rec (Bool.rec false (ih b') (Nat.beq x y)) true (Nat.ble (Nat.succ x) y)) b) a
def lApp {α β : Type} (a b : List α) (k : List α → β) : β :=
 (List.rec (motive := fun _ => (List α → β) → β) (fun k => k b) (fun x _ ih k => ih (fun r => k (x :: r))) a) k
def lLen {α : Type} (a : List α) : Nat := List.rec (motive := fun _ => Nat) 0 (fun _ _ n => Nat.succ n) a
def lGet {α : Type} (a : List α) : Nat → Option α :=
 List.rec (motive := fun _ => Nat → Option α) (fun _ => none) (fun x _ ih i => Bool.rec (ih (Nat.pred i)) (some x) (Nat.beq i 0)) a
def lDrop {α : Type} (a : List α) : Nat → List α :=
 List.rec (motive := fun _ => Nat → List α) (fun _ => []) (fun x l ih i => Bool.rec (ih (Nat.pred i)) (x :: l) (Nat.beq i 0)) a
def lTake {α β : Type} (a : List α) : Nat → (List α → β) → β :=
 List.rec (motive := fun _ => Nat → (List α → β) → β) (fun _ k => k []) (fun x _ ih i k => Bool.rec (ih (Nat.pred i) (fun r => k (x :: r))) (k []) (Nat.beq i 0)) a
def strOp (op : BinOp) (a b : List Nat) : Option AV := match op with
 | .add => match Nat.ble (Nat.add (lLen a) (lLen b)) 1073741824 with | true => lApp a b (fun r => some (.str r)) | false => none
 | .eql => some (.bool (sEq a b))
 | .neq => some (.bool (Bool.not (sEq a b)))
 | .lss => some (.bool (sLt a b))
 | .leq => some (.bool (Bool.or (sLt a b) (sEq a b)))
 | .gtr => some (.bool (Bool.not (Bool.or (sLt a b) (sEq a b))))
 | .geq => some (.bool (Bool.not (sLt a b)))
 | _ => none
inductive Opd where
 | t (i : Nat)
 | c (v : AV)
 | none_
inductive SK where
 | bool | int | str
inductive EK where
 | cell (k : SK)
 | ptr | slc | mp | fn | ifc
 | agg (l : List (Nat × SK))
inductive LK where
 | str | slc | mp
inductive IOp where
 | mov (x : Opd)
 | pick (c a b : Opd)
 | alloc (zs : List AV)
 | box (x : Opd)
 | build (zs : List AV) (ps : List (Nat × Nat × Opd))
 | bslice (sz n : Nat) (zs : List AV) (ps : List (Nat × Nat × Opd))
 | load (x : Opd)
 | loadA (n : Nat) (x : Opd)
 | store (n : Nat) (x v : Opd)
 | nilck (x : Opd)
 | bin (op : BinOp) (x y : Opd)
 | eqv (neg : Bool) (k : EK) (x y : Opd)
 | not (x : Opd)
 | neg (x : Opd)
 | conv (k : IntKind) (x : Opd)
 | s2b (x : Opd)
 | b2s (x : Opd)
 | iface (t : TypeId) (x : Opd)
 | mkfn (f : FuncId) (first cap : List Opd)
 | mkmap
 | mkslice (sz : Nat) (zs : List AV) (l c : Opd)
 | sslice (x : Opd) (lo hi : Option Opd)
 | cslice (sz : Nat) (x : Opd) (lo hi mx : Option Opd)
 | faddr (x : Opd) (off : Nat)
 | fld (x : Opd) (off n : Nat) (ag : Bool)
 | iaddr (sz : Nat) (x i : Opd)
 | aaddr (len sz : Nat) (x i : Opd)
 | sidx (x i : Opd)
 | aidx (len sz : Nat) (ag : Bool) (x i : Opd)
 | look (sk : SK) (z : AV) (x i : Opd) (ok : Bool)
 | mupd (sk : SK) (x k v : Opd)
 | range (x : Opd)
 | next (x : Opd)
 | entry (x : Opd)
 | tassert (t : TypeId) (z : AV) (x : Opd) (ok : Bool)
 | extr (x : Opd) (i : Nat)
 | len (k : LK) (x : Opd)
 | cap (x : Opd)
 | app (sz : Nat) (x y : Opd)
 | copy (sz : Nat) (x y : Opd)
 | clr (sz : Nat) (zs : List AV) (x : Opd)
 | appz (sz : Nat) (zs : List AV) (x y : Opd)
 | looke (z : AV) (x i : Opd) (ok : Bool)
 | mm (mx : Bool) (x y : Opd)
 | bad
def Opd.ev (x : Opd) (T : TA) : Option AV := Opd.rec (fun i => T.get i) (fun v => some v) none x
def isCell (v : AV) : Bool := match v with | .agg _ => false | .tup _ => false | _ => true
def AV.cells (v : AV) : List AV := match v with | .agg cs => cs | v => [v]
def allCell (l : List AV) : Bool := List.rec true (fun x _ ih => Bool.rec false ih (isCell x)) l
def puts (l : List AV) : Nat → TA → TA :=
 List.rec (motive := fun _ => Nat → TA → TA) (fun _ t => t) (fun x _ ih i t => ih (Nat.succ i) (t.put (some x) i)) l
def gets (t : TA) (n : Nat) : Nat → Option (List AV) :=
 Nat.rec (motive := fun _ => Nat → Option (List AV)) (fun _ => some []) (fun _ ih i => match t.get i with
  | some v => (match ih (Nat.succ i) with | some l => some (v :: l) | none => none)
  | none => none) n
def evs (l : List Opd) (T : TA) : Option (List AV) :=
 List.rec (some []) (fun x _ ih => match x.ev T with
  | some v => (match ih with | some r => some (v :: r) | none => none)
  | none => none) l
def newRow (cs : List AV) (t : TB) (nx : Nat) : TB := t.put (some (.cells (puts cs 0 .e) (lLen cs) true)) nx
def mk (cs : List AV) (t : TB) (nx : Nat) (v : Nat → AV) : V1 := fNat nx (fun nx => .ok (v nx) (newRow cs t nx) (Nat.succ nx))
def setAt (l : List AV) : Nat → AV → List AV :=
 List.rec (motive := fun _ => Nat → AV → List AV) (fun _ _ => []) (fun x r ih i v => Bool.rec (x :: ih (Nat.pred i) v) (v :: r) (Nat.beq i 0)) l
def setsAt (cs : List AV) : Nat → List AV → List AV :=
 List.rec (motive := fun _ => Nat → List AV → List AV) (fun _ l => l) (fun x _ ih i l => ih (Nat.succ i) (setAt l i x)) cs
def fillA (ps : List (Nat × Nat × Opd)) (T : TA) : List AV → Option (List AV) :=
 List.rec (motive := fun _ => List AV → Option (List AV)) (fun l => some l) (fun p _ ih l => match p with
  | (off, size, x) => (match x.ev T with
    | some v => (match Nat.beq (lLen v.cells) size with
      | true => (match Nat.ble (Nat.add off size) (lLen l) with | true => ih (setsAt v.cells off l) | false => none)
      | false => none)
    | none => none)) ps
def repl (zs : List AV) (n : Nat) : List AV :=
 Nat.rec (motive := fun _ => List AV) [] (fun _ ih => lApp zs ih (fun r => r)) n
def cellEq (k : SK) (x y : AV) : Option Bool := match k, x, y with
 | .bool, .bool a, .bool b => some (a == b)
 | .int, .int k a, .int k' b => match Nat.beq (kN k) (kN k') with | true => some (iEq a b) | false => none
 | .str, .str a, .str b => some (sEq a b)
 | _, _, _ => none
def aggEq (l : List (Nat × SK)) (a b : List AV) : Option Bool :=
 List.rec (motive := fun _ => Option Bool) (some true) (fun p _ ih => match lGet a p.1, lGet b p.1 with
  | some x, some y => (match cellEq p.2 x y with
    | some true => ih
    | some false => some false
    | none => none)
  | _, _ => none) l
def eqA (k : EK) (x y : AV) : Option Bool := match k with
 | .cell k => cellEq k x y
 | .ptr => match x, y with
   | .nil, .nil => some true
   | .nil, .ptr _ _ => some false
   | .ptr _ _, .nil => some false
   | .ptr a o, .ptr b q => match Nat.beq a b with | true => some (Nat.beq o q) | false => none
   | _, _ => none
 | .slc => match x, y with
   | .nslice, .nslice => some true
   | .nslice, .slice _ _ _ _ _ _ => some false
   | .slice _ _ _ _ _ _, .nslice => some false
   | _, _ => none
 | .mp => match x, y with
   | .nmap, .nmap => some true
   | .nmap, .map _ => some false
   | .map _, .nmap => some false
   | _, _ => none
 | .fn => match x, y with
   | .nfunc, .nfunc => some true
   | .nfunc, .func _ _ _ => some false
   | .func _ _ _, .nfunc => some false
   | _, _ => none
 | .ifc => match x, y with
   | .niface, .niface => some true
   | .niface, .iface _ _ => some false
   | .iface _ _, .niface => some false
   | _, _ => none
 | .agg l => match x, y with
   | .agg a, .agg b => aggEq l a b
   | _, _ => none
def findK (sk : SK) (k : AV) (es : List (AV × AV × Nat)) : Nat → Option (Option (Nat × AV)) :=
 List.rec (motive := fun _ => Nat → Option (Option (Nat × AV))) (fun _ => some none) (fun e _ ih i => match cellEq sk k e.1 with
  | some true => some (some (i, e.2.1))
  | some false => ih (Nat.succ i)
  | none => none) es
def setVal (es : List (AV × AV × Nat)) : Nat → AV → AV → List (AV × AV × Nat) :=
 List.rec (motive := fun _ => Nat → AV → AV → List (AV × AV × Nat)) (fun _ _ _ => []) (fun x r ih i k v => Bool.rec (x :: ih (Nat.pred i) k v) ((k, v, x.2.2) :: r) (Nat.beq i 0)) es
def nIn (n : Nat) (l : List Nat) : Bool := List.rec false (fun x _ ih => Bool.rec ih true (Nat.beq n x)) l
def leftOf (es : List (AV × AV × Nat)) (seen : List Nat) : List (AV × AV × Nat) :=
 List.rec [] (fun e _ ih => Bool.rec (e :: ih) ih (nIn e.2.2 seen)) es
def anyOld (es : List (AV × AV × Nat)) (last : Nat) : Bool := List.rec false (fun e _ ih => Bool.rec ih true (Nat.ble (Nat.succ e.2.2) last)) es
def findB (es : List (AV × AV × Nat)) (n : Nat) : Option (AV × AV) := List.rec none (fun e _ ih => Bool.rec ih (some (e.1, e.2.1)) (Nat.beq e.2.2 n)) es
def idx (v : AV) : Option Nat := match v with | .int _ (.ofNat n) => some n | _ => none
def bnd (x : Opd) (T : TA) (y : Nat) : Option Nat := match x.ev T with
 | some v => (match idx v with
   | some n => (match Nat.ble n y with | true => some n | false => none)
   | none => none)
 | none => none
def bnds (T : TA) (len cap : Nat) (lo hi mx : Option Opd) : Option (Nat × Nat × Nat) :=
 match (match mx with | some v => bnd v T cap | none => some cap) with
 | none => none
 | some m => match (match hi, mx with | some v, some _ => bnd v T m | some v, none => bnd v T cap | none, none => some len | none, some _ => none) with
   | none => none
   | some h => match (match lo with | some v => bnd v T h | none => some 0) with
     | none => none
     | some l => some (l, h, m)
def srcLen (y : AV) : Option Nat := match y with
 | .nslice => some 0
 | .slice _ _ n _ _ _ => some n
 | .str s => some (lLen s)
 | _ => none
def u8s (s : List Nat) : List AV := List.rec [] (fun x _ ih => .int .u8 (.ofNat x) :: ih) s
def srcCells (y : AV) (n sz : Nat) (t : TB) : Option (List AV) := match y with
 | .nslice => some []
 | .slice b o _ _ _ _ => (match t.get b with
   | some (.cells c _ _) => gets c (Nat.mul n sz) o
   | _ => none)
 | .str s => (match Nat.beq sz 1 with | true => some (lTake s n (fun r => u8s r)) | false => none)
 | _ => none
def storeAt (cs : List AV) (b o : Nat) (t : TB) : Option (TB) := match t.get b with
 | some (.cells c n true) => (match Nat.ble (Nat.add o (lLen cs)) n with
   | true => (match allCell cs with | true => some (t.put (some (.cells (puts cs o c) n true)) b) | false => none)
   | false => none)
 | _ => none
def bytesOf (l : List AV) : Option (List Nat) :=
 List.rec (motive := fun _ => Option (List Nat)) (some []) (fun x _ ih => match x with
  | .int .u8 (.ofNat n) => (match Nat.ble n 255 with
    | true => (match ih with | some r => some (n :: r) | none => none)
    | false => none)
  | _ => none) l
def retV (x : Option AV) (t : TB) (nx : Nat) : V1 := match x with
 | some (.int k n) => fInt n (fun n => .ok (.int k n) t nx)
 | some (.bool b) => @Bool.rec (fun _ => V1) (.ok (.bool false) t nx) (.ok (.bool true) t nx) b
 | some v => .ok v t nx
 | none => (.no [])
def appendA (sz : Nat) (x y : AV) (t : TB) (nx : Nat) : V1 :=
 match srcLen y with
 | none => (.no [])
 | some k => match srcCells y k sz t with
   | none => (.no [])
   | some cs => match allCell cs with
     | false => (.no [])
     | true => match x with
       | .nslice => (match Nat.beq k 0 with
         | true => .ok .nslice t nx
         | false => (match Nat.ble (Nat.mul k sz) 65536 with
           | true => mk cs t nx (fun b => .slice b 0 k k sz false)
           | false => (.no [])))
       | .slice b o n c sz' ex => (match Nat.beq sz sz' with
         | false => (.no [])
         | true => match Nat.ble (Nat.add n k) c with
           | true => (match storeAt cs b (Nat.add o (Nat.mul n sz)) t with
             | some t' => fNat (Nat.add n k) (fun m => .ok (.slice b o m c sz ex) t' nx)
             | none => (.no []))
           | false => (match t.get b with
             | some (.cells r _ wr) => (match Nat.ble (Nat.mul (Nat.add n k) sz) 65536 with
               | false => (.no [])
               | true => match gets r (Nat.mul n sz) o with
                 | none => (.no [])
                 | some old => fNat (Nat.add n k) (fun m => match ex with
                   | true => lApp old cs (fun all => mk all t nx (fun b' => .slice b' 0 m m sz false))
                   | false => (match wr with
                     | true => lApp old cs (fun all => mk all (t.put none b) nx (fun b' => .slice b' 0 m m sz false))
                     | false => (.no []))))
             | _ => (.no [])))
       | _ => (.no [])
def IOp.run (o : IOp) (T : TA) (t : TB) (nx : Nat) : V1 := match o with
 | .mov x => retV (x.ev T) t nx
 | .pick c a b => (match c.ev T with
   | some (.bool true) => retV (a.ev T) t nx
   | some (.bool false) => retV (b.ev T) t nx
   | _ => (.no []))
 | .alloc zs => mk zs t nx (fun b => .ptr b 0)
 | .box x => (match x.ev T with
   | some v => mk v.cells t nx (fun b => .ptr b 0)
   | none => (.no []))
 | .build zs ps => (match fillA ps T zs with
   | some cs => .ok (.agg cs) t nx
   | none => (.no []))
 | .bslice sz n zs ps => (match fillA ps T (repl zs n) with
   | some cs => mk cs t nx (fun b => .slice b 0 n n sz true)
   | none => (.no []))
 | .load x => (match x.ev T with
   | some (.ptr b o) => (match t.get b with
     | some (.cells c _ _) => (match c.get o with
       | some v => .ok v t nx
       | none => (.no []))
     | _ => (.no []))
   | _ => (.no []))
 | .loadA n x => (match x.ev T with
   | some (.ptr b o) => (match t.get b with
     | some (.cells c _ _) => (match gets c n o with
       | some l => .ok (.agg l) t nx
       | none => (.no []))
     | _ => (.no []))
   | _ => (.no []))
 | .store n x v => (match x.ev T, v.ev T with
   | some (.ptr b o), some v => (match Nat.beq (lLen v.cells) n with
     | true => (match storeAt v.cells b o t with
       | some t' => .ok .undef t' nx
       | none => (.no []))
     | false => (.no []))
   | _, _ => (.no []))
 | .nilck x => (match x.ev T with
   | some .nil => (.no [])
   | some .niface => (.no [])
   | some .nfunc => (.no [])
   | some (.opq _ _) => (.no [])
   | some v => .ok v t nx
   | none => (.no []))
 | .bin op x y => (match x.ev T, y.ev T with
   | some (.int k a), some (.int k' b) => (match op with
     | .shl => (match shlF k a b with | some n => fInt n (fun n => .ok (.int k n) t nx) | none => (.no []))
     | .shr => (match shrF k a b with | some n => fInt n (fun n => .ok (.int k n) t nx) | none => (.no []))
     | op => (match Nat.beq (kN k) (kN k') with
       | true => retV (intOp op k a b) t nx
       | false => (.no [])))
   | some (.str a), some (.str b) => retV (strOp op a b) t nx
   | some x, some y => retV (opqOp op x y) t nx
   | _, _ => (.no []))
 | .eqv ng k x y => (match x.ev T, y.ev T with
   | some a, some b => (match eqA k a b with
     | some true => .ok (.bool (Bool.not ng)) t nx
     | some false => .ok (.bool ng) t nx
     | none => (.no []))
   | _, _ => (.no []))
 | .not x => (match x.ev T with
   | some (.bool true) => .ok (.bool false) t nx
   | some (.bool false) => .ok (.bool true) t nx
   | _ => (.no []))
 | .neg x => (match x.ev T with
   | some (.int k n) => retV (some (.int k (wrapF k (Int.sub 0 n)))) t nx
   | _ => (.no []))
 | .conv k x => (match x.ev T with
   | some (.int _ n) => retV (some (.int k (wrapF k n))) t nx
   | _ => (.no []))
 | .s2b x => (match x.ev T with
   | some (.str s) => (match Nat.ble (lLen s) 65536 with
     | true => fNat (lLen s) (fun n => mk (u8s s) t nx (fun b => .slice b 0 n n 1 false))
     | false => (.no []))
   | _ => (.no []))
 | .b2s x => (match x.ev T with
   | some .nslice => .ok (.str []) t nx
   | some (.slice b o n _ _ _) => (match t.get b with
     | some (.cells c _ _) => (match gets c n o with
       | some l => (match bytesOf l with | some s => .ok (.str s) t nx | none => (.no []))
       | none => (.no []))
     | _ => (.no []))
   | _ => (.no []))
 | .iface ty x => (match x.ev T with
   | some v => .ok (.iface ty v) t nx
   | none => (.no []))
 | .mkfn f a b => (match evs a T, evs b T with
   | some a, some b => .ok (.func f a b) t nx
   | _, _ => (.no []))
 | .mkmap => fNat nx (fun nx => .ok (.map nx) (t.put (some (.map [] 0)) nx) (Nat.succ nx))
 | .mkslice sz zs l c => (match l.ev T, c.ev T with
   | some (.int _ (.ofNat l)), some (.int _ (.ofNat c)) => (match Nat.ble l c, Nat.ble (Nat.mul c sz) 65536, Nat.beq (lLen zs) sz with
     | true, true, true => fNat l (fun l => fNat c (fun c => mk (repl zs c) t nx (fun b => .slice b 0 l c sz true)))
     | _, _, _ => (.no []))
   | _, _ => (.no []))
 | .sslice x lo hi => (match x.ev T with
   | some (.str s) => (match bnds T (lLen s) (lLen s) lo hi none with
     | some (l, h, _) => lTake (lDrop s l) (Nat.sub h l) (fun r => .ok (.str r) t nx)
     | none => (.no []))
   | _ => (.no []))
 | .cslice sz x lo hi mx => (match x.ev T with
   | some (.slice b o n c sz' ex) => (match Nat.beq sz sz' with
     | false => (.no [])
     | true => match bnds T n c lo hi mx with
       | some (l, h, m) => fNat (Nat.add o (Nat.mul l sz)) (fun o' => fNat (Nat.sub h l) (fun n' => fNat (Nat.sub m l) (fun c' =>
          .ok (.slice b o' n' c' sz (match mx with | some _ => true | none => ex)) t nx)))
       | none => (.no []))
   | some .nslice => (match bnds T 0 0 lo hi mx with
     | some _ => .ok .nslice t nx
     | none => (.no []))
   | _ => (.no []))
 | .faddr x off => (match x.ev T with
   | some (.ptr b o) => fNat (Nat.add o off) (fun o => .ok (.ptr b o) t nx)
   | _ => (.no []))
 | .fld x off n ag => (match x.ev T with
   | some (.agg cs) => (match ag with
     | true => (match Nat.ble (Nat.add off n) (lLen cs) with | true => lTake (lDrop cs off) n (fun r => .ok (.agg r) t nx) | false => (.no []))
     | false => (match lGet cs off with | some v => .ok v t nx | none => (.no [])))
   | _ => (.no []))
 | .iaddr sz x i => (match x.ev T, i.ev T with
   | some (.slice b o n _ sz' _), some i => (match Nat.beq sz sz' with
     | false => (.no [])
     | true => match idx i with
       | some i => (match Nat.ble (Nat.succ i) n with
         | true => fNat (Nat.add o (Nat.mul i sz)) (fun o => .ok (.ptr b o) t nx)
         | false => (.no []))
       | none => (.no []))
   | _, _ => (.no []))
 | .aaddr ln sz x i => (match x.ev T, i.ev T with
   | some (.ptr b o), some i => (match idx i with
     | some i => (match Nat.ble (Nat.succ i) ln with
       | true => fNat (Nat.add o (Nat.mul i sz)) (fun o => .ok (.ptr b o) t nx)
       | false => (.no []))
     | none => (.no []))
   | _, _ => (.no []))
 | .sidx x i => (match x.ev T, i.ev T with
   | some (.str s), some i => (match idx i with
     | some i => (match lGet s i with
       | some n => fNat n (fun n => .ok (.int .u8 (.ofNat n)) t nx)
       | none => (.no []))
     | none => (.no []))
   | _, _ => (.no []))
 | .aidx ln sz ag x i => (match x.ev T, i.ev T with
   | some (.agg cs), some i => (match idx i with
     | some i => (match Nat.ble (Nat.succ i) ln with
       | true => (match ag with
         | true => (match Nat.ble (Nat.add (Nat.mul i sz) sz) (lLen cs) with | true => lTake (lDrop cs (Nat.mul i sz)) sz (fun r => .ok (.agg r) t nx) | false => (.no []))
         | false => (match lGet cs (Nat.mul i sz) with | some v => .ok v t nx | none => (.no [])))
       | false => (.no []))
     | none => (.no []))
   | _, _ => (.no []))
 | .look sk z x i ok => (match x.ev T, i.ev T with
   | some .nmap, some _ => (match ok with | true => .ok (.tup [z, .bool false]) t nx | false => .ok z t nx)
   | some (.map b), some k => (match t.get b with
     | some (.map es _) => (match findK sk k es 0 with
       | some (some (_, v)) => (match ok with | true => .ok (.tup [v, .bool true]) t nx | false => .ok v t nx)
       | some none => (match ok with | true => .ok (.tup [z, .bool false]) t nx | false => .ok z t nx)
       | none => (.no []))
     | _ => (.no []))
   | _, _ => (.no []))
 | .mupd sk x k v => (match x.ev T, k.ev T, v.ev T with
   | some (.map b), some k, some v => (match t.get b with
     | some (.map es clk) => (match findK sk k es 0 with
       | some (some (i, _)) => .ok .undef (t.put (some (.map (setVal es i k v) clk)) b) nx
       | some none => .ok .undef (t.put (some (.map (lApp es [(k, v, clk)] (fun r => r)) (Nat.succ clk))) b) nx
       | none => .no [])
     | _ => .no [])
   | _, _, _ => .no [])
 | .range x => (match x.ev T with
   | some .nmap => fNat nx (fun nx => .ok (.ptr nx 0) (t.put (some (.iter none 0 [] 0)) nx) (Nat.succ nx))
   | some (.map b) => (match t.get b with
     | some (.map _ clk) => fNat nx (fun nx => .ok (.ptr nx 0) (t.put (some (.iter (some b) clk [] clk)) nx) (Nat.succ nx))
     | _ => .no [])
   | _ => .no [])
 | .next x => (match x.ev T with
   | some (.ptr b 0) => (match t.get b with
     | some (.iter none _ _ _) => .ok (.tup [.bool false]) t nx
     | some (.iter (some m) since seen last) => (match t.get m with
       | some (.map es clk) => (match seen, es, anyOld es last with
         | _ :: _, _ :: _, false => .no []
         | _, _, _ => (match leftOf es seen with
           | [] => .ok (.tup [.bool false]) t nx
           | [e] => (match Nat.ble (Nat.succ e.2.2) since with
             | true => .ok (.tup [.bool true, e.1, e.2.1]) (t.put (some (.iter (some m) since (lApp seen [e.2.2] (fun r => r)) clk)) b) nx
             | false => .no [])
           | _ => .no []))
       | _ => .no [])
     | _ => .no [])
   | _ => .no [])
 | .entry x => (match x.ev T with
   | some (.ptr b 0) => (match t.get b with
     | some (.iter (some m) _ seen last) => (match t.get m with
       | some (.map es clk) => (match Nat.beq clk last, lGet seen (Nat.pred (lLen seen)) with
         | true, some s => (match findB es s with
           | some (k, v) => .ok (.tup [k, v]) t nx
           | none => .no [])
         | _, _ => .no [])
       | _ => .no [])
     | _ => .no [])
   | _ => .no [])
 | .tassert ty z x ok => (match x.ev T with
   | some (.iface ty' v) => (match Nat.beq ty ty' with
     | true => (match ok with | true => .ok (.tup [v, .bool true]) t nx | false => .ok v t nx)
     | false => (match ok with | true => .ok (.tup [z, .bool false]) t nx | false => (.no [])))
   | some .niface => (match ok with | true => .ok (.tup [z, .bool false]) t nx | false => (.no []))
   | _ => (.no []))
 | .extr x i => (match x.ev T with
   | some (.tup vs) => (match lGet vs i with | some v => .ok v t nx | none => (.no []))
   | _ => (.no []))
 | .len k x => (match k, x.ev T with
   | .str, some (.str s) => retV (some (.int .i64 (.ofNat (lLen s)))) t nx
   | .slc, some .nslice => .ok (.int .i64 (.ofNat 0)) t nx
   | .slc, some (.slice _ _ n _ _ _) => .ok (.int .i64 (.ofNat n)) t nx
   | .mp, some .nmap => .ok (.int .i64 (.ofNat 0)) t nx
   | .mp, some (.map b) => (match t.get b with
     | some (.map es _) => retV (some (.int .i64 (.ofNat (lLen es)))) t nx
     | _ => .no [])
   | _, _ => .no [])
 | .cap x => (match x.ev T with
   | some .nslice => .ok (.int .i64 (.ofNat 0)) t nx
   | some (.slice _ _ _ c _ true) => .ok (.int .i64 (.ofNat c)) t nx
   | _ => (.no []))
 | .app sz x y => (match x.ev T, y.ev T with
   | some x, some y => appendA sz x y t nx
   | _, _ => (.no []))
 | .clr sz zs x => (match x.ev T with
   | some .nslice => .ok .undef t nx
   | some (.slice b q n c sz' ex) => (match Nat.beq sz' sz with
     | false => (.no [])
     | true => match Nat.beq n 0 with
       | true => .ok .undef t nx
       | false => match Nat.beq (lLen zs) sz with
         | false => (.no [])
         | true => match storeAt (repl zs n) b q t with
           | some t' => .ok .undef t' nx
           | none => (.no []))
   | _ => (.no []))
 | .copy sz x y => (match x.ev T, y.ev T with
   | some .nslice, some y => (match srcLen y with | some _ => .ok (.int .i64 (.ofNat 0)) t nx | none => (.no []))
   | some (.slice b o n _ sz' _), some y => (match Nat.beq sz sz' with
     | false => (.no [])
     | true => match srcLen y with
       | none => (.no [])
       | some k => fNat (Nat.min k n) (fun m => match srcCells y m sz t with
         | none => (.no [])
         | some cs => (match storeAt cs b o t with
           | some t' => .ok (.int .i64 (.ofNat m)) t' nx
           | none => (.no []))))
   | _, _ => (.no []))
 | .appz sz zs x y => (match x.ev T, y.ev T with
   | some .nslice, some (.int .i64 (.ofNat l)) => (match Nat.beq l 0 with
     | true => .ok .nslice t nx
     | false => (match Nat.ble (Nat.mul l sz) 65536 with
       | true => fNat l (fun l => mk (repl zs l) t nx (fun b => .slice b 0 l l sz false))
       | false => (.no [])))
   | _, _ => (.no []))
 | .looke z x i ok => (match x.ev T, i.ev T with
   | some .nmap, some (.agg [.int _ _, .int _ _]) => (match ok with | true => .ok (.tup [z, .bool false]) t nx | false => .ok z t nx)
   | some (.map b), some (.agg [.int _ _, .int _ _]) => (match t.get b with
     | some (.map [] _) => (match ok with | true => .ok (.tup [z, .bool false]) t nx | false => .ok z t nx)
     | _ => (.no []))
   | _, _ => (.no []))
 | .mm mx x y => (match x.ev T, y.ev T with
   | some (.int k a), some (.int _ b) => (match mx with
     | true => (match iLt a b with | true => .ok (.int k b) t nx | false => .ok (.int k a) t nx)
     | false => (match iLt b a with | true => .ok (.int k b) t nx | false => .ok (.int k a) t nx))
   | _, _ => (.no []))
 | .bad => (.no [])
def Opd.slots (x : Opd) : List Nat := match x with | .t i => [i] | _ => []
def slotsL (l : List Opd) : List Nat := List.rec (motive := fun _ => List Nat) [] (fun x _ ih => x.slots ++ ih) l
def slotsP (l : List (Nat × Nat × Opd)) : List Nat := List.rec (motive := fun _ => List Nat) [] (fun p _ ih => p.2.2.slots ++ ih) l
def slotsO (x : Option Opd) : List Nat := match x with | some x => x.slots | none => []
def IOp.slots (i : IOp) : List Nat := match i with
 | .mov x => x.slots
 | .pick c a b => c.slots ++ a.slots ++ b.slots
 | .alloc zs => []
 | .box x => x.slots
 | .build zs ps => slotsP ps
 | .bslice sz n zs ps => slotsP ps
 | .load x => x.slots
 | .loadA n x => x.slots
 | .store n x v => x.slots ++ v.slots
 | .nilck x => x.slots
 | .bin op x y => x.slots ++ y.slots
 | .eqv ng k x y => x.slots ++ y.slots
 | .not x => x.slots
 | .neg x => x.slots
 | .conv k x => x.slots
 | .s2b x => x.slots
 | .b2s x => x.slots
 | .iface ty x => x.slots
 | .mkfn f xs ys => slotsL xs ++ slotsL ys
 | .mkmap => []
 | .mkslice sz zs l c => l.slots ++ c.slots
 | .sslice x lo hi => x.slots ++ slotsO lo ++ slotsO hi
 | .cslice sz x lo hi mx => x.slots ++ slotsO lo ++ slotsO hi ++ slotsO mx
 | .faddr x off => x.slots
 | .fld x off n ag => x.slots
 | .iaddr sz x i => x.slots ++ i.slots
 | .aaddr ln sz x i => x.slots ++ i.slots
 | .sidx x i => x.slots ++ i.slots
 | .aidx ln sz ag x i => x.slots ++ i.slots
 | .look sk z x i ok => x.slots ++ i.slots
 | .mupd sk x k v => x.slots ++ k.slots ++ v.slots
 | .range x => x.slots
 | .next x => x.slots
 | .entry x => x.slots
 | .tassert ty z x ok => x.slots
 | .extr x i => x.slots
 | .len k x => x.slots
 | .cap x => x.slots
 | .app sz x y => x.slots ++ y.slots
 | .copy sz x y => x.slots ++ y.slots
 | .clr sz zs x => x.slots
 | .appz sz zs x y => x.slots ++ y.slots
 | .looke z x i ok => x.slots ++ i.slots
 | .mm mx x y => x.slots ++ y.slots
 | .bad => []
def IOp.light (i : IOp) : Bool := match i with
 | .mov _ => true | .pick _ _ _ => true | .build _ _ => true | .load _ => true | .loadA _ _ => true | .nilck _ => true | .bin _ _ _ => true | .eqv _ _ _ _ => true | .not _ => true | .neg _ => true | .conv _ _ => true | .b2s _ => true | .iface _ _ => true | .mkfn _ _ _ => true
 | .sslice _ _ _ => true | .cslice _ _ _ _ _ => true | .faddr _ _ => true | .fld _ _ _ _ => true | .iaddr _ _ _ => true | .aaddr _ _ _ _ => true | .sidx _ _ => true | .aidx _ _ _ _ _ => true | .look _ _ _ _ _ => true | .looke _ _ _ _ => true | .tassert _ _ _ _ => true | .extr _ _ => true | .len _ _ => true | .cap _ => true | .mm _ _ _ => true
 | _ => false
inductive Res where
 | tmp (t : Nat)
 | cell (a : Nat) (n : Nat) (ag : Bool)
inductive What where
 | op (o : IOp)
 | callF (f : FuncId) (args : List Opd)
 | callV (x : Opd) (args : List Opd)
 | callM (tab : List (TypeId × FuncId × Option (Nat × Bool))) (x : Opd) (args : List Opd)
structure Ins where
 dst : Option Nat
 grd : Option (Nat × Bool)
 what : What
structure DIns where
 ix : Nat
 pre : List Nat
 ins : Ins
inductive IC where
 | skip
 | reg (l : List Ins)
 | draw (l : List DIns)
 | seq (a b : IC)
 | cond (x : Opd) (a b : IC)
 | block (id : Nat) (c : IC)
 | loop (c : IC)
 | exit (id : Nat)
 | ret
 | bad
inductive AFn where
 | code (np nt : Nat) (body : IC) (res : List Res)
 | prim (f : List AV → TB → Option AV)
inductive R where
 | bad (why : List Nat)
 | ok (T : TA) (t : TB) (nx : Nat)
 | ret (T : TA) (t : TB) (nx : Nat)
 | exit (id : Nat) (T : TA) (t : TB) (nx : Nat)
def slots (l : List AV) : TA := puts l 0 .e
def resOf (T : TA) (t : TB) (r : Res) : Option AV := match r with
 | .tmp s => T.get s
 | .cell a n ag => (match T.get a with
   | some (.ptr b o) => (match t.get b with
     | some (.cells c _ _) => (match ag with
       | true => (match gets c n o with | some l => some (.agg l) | none => none)
       | false => c.get o)
     | _ => none)
   | _ => none)
def resAll (T : TA) (t : TB) (l : List Res) : Option (List AV) :=
 List.rec (some []) (fun r _ ih => match resOf T t r with
  | some v => (match ih with | some vs => some (v :: vs) | none => none)
  | none => none) l
def answer (T : TA) (t : TB) (nx : Nat) (l : List Res) : V1 := match resAll T t l with
 | some [v] => .ok v t nx
 | some vs => .ok (.tup vs) t nx
 | none => .no []
def callA (tab : Nat → Option AFn) (run : IC → TA → TB → Nat → R) (f : FuncId) (args : List AV) (t : TB) (nx : Nat) : V1 :=
 match tab f with
 | some (.code np _ body res) => (match Nat.beq (lLen args) np with
   | true => (match run body (slots args) t nx with
     | .ok T t nx => answer T t nx res
     | .ret T t nx => answer T t nx res
     | .bad l => .no (f :: l)
     | _ => .no [f])
   | false => .no [f, 0])
 | some (.prim g) => (match g args t with | some v => .ok v t nx | none => .no [f, 1])
 | none => .no [f, 2]
def findM (ty : TypeId) (tab : List (TypeId × FuncId × Option (Nat × Bool))) : Option (FuncId × Option (Nat × Bool)) :=
 List.rec none (fun p _ ih => Bool.rec ih (some p.2) (Nat.beq p.1 ty)) tab
def recvA (m : Option (Nat × Bool)) (v : AV) (t : TB) : Option AV := match m with
 | none => some v
 | some (n, ag) => (match v with
   | .ptr b o => (match t.get b with
     | some (.cells c _ _) => (match ag with
       | true => (match gets c n o with | some l => some (.agg l) | none => none)
       | false => c.get o)
     | _ => none)
   | _ => none)
def What.run (w : What) (call : FuncId → List AV → TB → Nat → V1) (T : TA) (t : TB) (nx : Nat) : V1 := match w with
 | .op o => o.run T t nx
 | .callF f args => (match evs args T with
   | some l => call f l t nx
   | none => .no [])
 | .callV x args => (match x.ev T, evs args T with
   | some (.func f a b), some l => call f (lApp a (lApp l b (fun r => r)) (fun r => r)) t nx
   | _, _ => .no [])
 | .callM tab x args => (match x.ev T, evs args T with
   | some (.iface ty v), some l => (match findM ty tab with
     | some (f, m) => (match recvA m v t with
       | some r => call f (r :: l) t nx
       | none => .no [])
     | none => .no [])
   | _, _ => .no [])
def putD (T : TA) (d : Option Nat) (v : AV) : TA := match d with | some d => T.put (some v) d | none => T
def wantA (g : Option (Nat × Bool)) (T : TA) : Option Bool := match g with
 | none => some true
 | some (s, w) => (match T.get s with
   | some (.bool true) => some w
   | some (.bool false) => some (Bool.not w)
   | some (.tup []) => some false
   | _ => none)
def regA (call : FuncId → List AV → TB → Nat → V1) (l : List Ins) : TA → TB → Nat → R :=
 List.rec (motive := fun _ => TA → TB → Nat → R) (fun T t nx => .ok T t nx) (fun i _ ih T t nx => match wantA i.grd T with
  | some true => (match i.what.run call T t nx with
    | .ok v t nx => ih (putD T i.dst v) t nx
    | .no l => .bad ((match i.dst with | some d => d | none => 999) :: l))
  | some false => ih (putD T i.dst .undef) t nx
  | none => .bad [998]) l
def aeqC (x y : AV) : Bool := match x, y with
 | .bool true, .bool true => true
 | .bool false, .bool false => true
 | .int k a, .int k' b => (match Nat.beq (kN k) (kN k') with | true => iEq a b | false => false)
 | .str a, .str b => sEq a b
 | .nil, .nil => true
 | .ptr a b, .ptr c d => (match Nat.beq a c with | true => Nat.beq b d | false => false)
 | .nslice, .nslice => true
 | .slice a b c d e true, .slice a' b' c' d' e' true => (match Nat.beq a a', Nat.beq b b', Nat.beq c c', Nat.beq d d', Nat.beq e e' with | true, true, true, true, true => true | _, _, _, _, _ => false)
 | .slice a b c d e false, .slice a' b' c' d' e' false => (match Nat.beq a a', Nat.beq b b', Nat.beq c c', Nat.beq d d', Nat.beq e e' with | true, true, true, true, true => true | _, _, _, _, _ => false)
 | .nmap, .nmap => true
 | .map a, .map b => Nat.beq a b
 | .nfunc, .nfunc => true
 | .niface, .niface => true
 | _, _ => false
def aeqL (a : List AV) : List AV → Bool :=
 List.rec (motive := fun _ => List AV → Bool) (fun b => match b with | [] => true | _ :: _ => false) (fun x _ ih b => match b with
  | [] => false
  | y :: b => (match aeqC x y with | true => ih b | false => false)) a
def aeqM (x y : AV) : Bool := match x, y with
 | .agg a, .agg b => aeqL a b
 | x, y => aeqC x y
def aeqT (a : List AV) : List AV → Bool :=
 List.rec (motive := fun _ => List AV → Bool) (fun b => match b with | [] => true | _ :: _ => false) (fun x _ ih b => match b with
  | [] => false
  | y :: b => (match aeqM x y with | true => ih b | false => false)) a
def aeq (x y : AV) : Bool := match x, y with
 | .agg a, .agg b => aeqL a b
 | .tup a, .tup b => aeqT a b
 | .func f a b, .func g c d => (match Nat.beq f g, aeqL a c, aeqL b d with | true, true, true => true | _, _, _ => false)
 | .iface t a, .iface u b => (match Nat.beq t u with | true => aeqC a b | false => false)
 | x, y => aeqC x y
def What.slots (w : What) : List Nat := match w with
 | .op o => o.slots
 | .callF _ l => slotsL l
 | .callV x l => x.slots ++ slotsL l
 | .callM _ x l => x.slots ++ slotsL l
def Ins.rd (i : Ins) : List Nat := (match i.grd with | some (s, _) => [s] | none => []) ++ i.what.slots
def evalL (i : Ins) (T : TA) (t : TB) (nx : Nat) : Option AV := match wantA i.grd T with
 | some false => some .undef
 | some true => (match i.what with
   | .op o => (match o.light with
     | true => (match o.run T t nx with | .ok v _ _ => some v | .no _ => none)
     | false => none)
   | _ => none)
 | none => none
def dIn (d : Option Nat) (l : List Nat) : Bool := match d with | some d => nIn d l | none => false
def dEq (a b : Option Nat) : Bool := match a, b with | some a, some b => Nat.beq a b | _, _ => false
def floatOK (i : DIns) (F : List (DIns × AV)) : Bool := Bool.and (Bool.not (dIn i.ins.dst i.ins.rd)) (F.all fun f =>
 Bool.and (Bool.not (dEq f.1.ins.dst i.ins.dst)) (Bool.and (Bool.not (dIn i.ins.dst f.1.ins.rd)) (Bool.or (Bool.not (dIn f.1.ins.dst i.ins.rd)) (nIn f.1.ix i.pre))))
def readyD (L : List Nat) (i : DIns) : Bool := Bool.and (Bool.not (nIn i.ix L)) (i.pre.all fun p => nIn p L)
def findF (L : List Nat) (F : List (DIns × AV)) (T : TA) (t : TB) (nx : Nat) (ops : List DIns) : Option (DIns × AV) :=
 List.rec (motive := fun _ => Option (DIns × AV)) none (fun i _ ih => match readyD L i with
  | true => (match floatOK i F with
    | true => (match evalL i.ins T t nx with
      | some v => some (i, v)
      | none => ih)
    | false => ih)
  | false => ih) ops
def closeD (ops : List DIns) : Nat → List Nat → List Nat
 | 0, l => l
 | n + 1, l => closeD ops n (l ++ (ops.filter (fun i => nIn i.ix l)).flatMap (·.pre))
structure GB where
 ix : Nat
 b : Nat
 k : Blk
def isG (G : List GB) (x : Nat) : Bool := List.rec false (fun g _ ih => Bool.rec ih true (Nat.beq g.ix x)) G
def closedC (v : AV) : Bool := match v with
 | .bool _ => true
 | .int _ _ => true
 | .str _ => true
 | .nil => true
 | .nslice => true
 | .nmap => true
 | .nfunc => true
 | .niface => true
 | _ => false
def closedA (v : AV) : Bool := match v with
 | .agg l => List.rec true (fun x _ ih => match closedC x with | true => ih | false => false) l
 | v => closedC v
def optP {α : Type} (p : α → Bool) (v : Option α) : Bool := match v with | some x => p x | none => true
def TA.allP (p : AV → Bool) (t : TA) : Bool := Bt.rec (motive := fun _ => Bool) true (fun _ v _ x y => match optP p v with | true => (match x with | true => y | false => false) | false => false) t
def closedB (k : Blk) : Bool := match k with
 | .cells t _ true => TA.allP closedA t
 | .map [] _ => true
 | _ => false
def isRef (b : Nat) (v : AV) : Bool := match v with
 | .ptr c _ => Nat.beq c b
 | .slice c _ _ _ _ _ => Nat.beq c b
 | .map c => Nat.beq c b
 | _ => false
def closedS (l : List Nat) (T : TA) : Bool := List.rec true (fun d _ ih => match T.get d with
 | some v => (match closedA v with | true => ih | false => false)
 | none => false) l
def allocE (i : Ins) (T : TA) (b : Nat) : Option (AV × Blk) := match i.grd with
 | some _ => none
 | none => (match i.what with
   | .op o => (match closedS o.slots T with
     | true => (match o.run T .e b with
       | .ok v t' nx' => (match Nat.beq nx' (Nat.succ b) with
         | true => (match isRef b v with
           | true => (match t'.get b with
             | some k => (match closedB k with | true => some (v, k) | false => none)
             | none => none)
           | false => none)
         | false => none)
       | .no _ => none)
     | false => none)
   | _ => none)
def findG (F : List (DIns × AV)) (T : TA) (b : Nat) (ops : List DIns) : Option (DIns × AV × Blk) :=
 List.rec (motive := fun _ => Option (DIns × AV × Blk)) none (fun i _ ih => match floatOK i F with
  | true => (match allocE i.ins T b with
    | some (v, k) => some (i, v, k)
    | none => ih)
  | false => ih) ops
def plusA (t : TB) (G : List GB) : TB := List.rec t (fun g _ ih => ih.put (some g.k) g.b) G
def findIn (c : List Nat) (G : List GB) : Option GB := List.rec none (fun g _ ih => Bool.rec ih (some g) (nIn g.ix c)) G
def sameF (F : List (DIns × AV)) (G : List GB) (T : TA) (t : TB) (nx : Nat) : Bool :=
 F.all (fun f => match isG G f.1.ix with
  | true => true
  | false => (match evalL f.1.ins T t nx with | some u => aeq u f.2 | none => false))
def drawA (call : FuncId → List AV → TB → Nat → V1) (ops : List DIns) : Nat → List Nat → List (DIns × AV) → List GB → TA → TB → Nat → R
 | 0, _, _, _, _, _, _ => .bad [994]
 | n + 1, L, F, G, T, t, nx => match findF L F T t nx ops with
   | some (i, v) => drawA call ops n (i.ix :: L) ((i, v) :: F) G (putD T i.ins.dst v) t nx
   | none => match ops.filter (readyD L) with
     | [] => .ok T (plusA t G) nx
     | [h] => (match findIn (closeD ops 3 h.pre) G with
       | some g => (match sameF (F.filter (fun f => Bool.not (Nat.beq f.1.ix g.ix))) (G.filter (fun x => Bool.not (Nat.beq x.ix g.ix))) T (t.put (some g.k) g.b) nx with
         | true => drawA call ops n L (F.filter (fun f => Bool.not (Nat.beq f.1.ix g.ix))) (G.filter (fun x => Bool.not (Nat.beq x.ix g.ix))) T (t.put (some g.k) g.b) nx
         | false => .bad [992])
       | none => (match F.filter (fun f => Bool.not (nIn f.1.ix (closeD ops 3 h.pre))) with
         | F' => (match F'.all (fun f => Bool.and (Bool.not (dEq f.1.ins.dst h.ins.dst)) (Bool.and (Bool.not (dIn h.ins.dst f.1.ins.rd)) (Bool.not (dIn f.1.ins.dst h.ins.rd)))) with
           | false => .bad [993]
           | true => (match (match wantA h.ins.grd T with
              | some true => h.ins.what.run call T t nx
              | some false => .ok .undef t nx
              | none => .no [998]) with
             | .no l => .bad ((match h.ins.dst with | some d => d | none => 999) :: l)
             | .ok v t' nx' => (match sameF F' G (putD T h.ins.dst v) t' nx' with
               | true => drawA call ops n (h.ix :: L) F' G (putD T h.ins.dst v) t' nx'
               | false => .bad [992])))))
     | x :: y :: rs => (match findG F T nx (x :: y :: rs) with
       | some (i, v, k) => (match sameF F G (putD T i.ins.dst v) t (Nat.succ nx) with
         | true => drawA call ops n (i.ix :: L) ((i, v) :: F) (⟨i.ix, nx, k⟩ :: G) (putD T i.ins.dst v) t (Nat.succ nx)
         | false => .bad [992])
       | none => .bad [991])
def codeA (tab : Nat → Option AFn) (run : IC → TA → TB → Nat → R) (c : IC) : TA → TB → Nat → R :=
 IC.rec (motive := fun _ => TA → TB → Nat → R)
  (fun T t nx => .ok T t nx)
  (fun l => regA (callA tab run) l)
  (fun l => drawA (callA tab run) l 200 [] [] [])
  (fun _ _ iha ihb T t nx => match iha T t nx with | .ok T t nx => ihb T t nx | r => r)
  (fun x _ _ iha ihb T t nx => match x.ev T with
    | some (.bool true) => iha T t nx
    | some (.bool false) => ihb T t nx
    | _ => .bad [997])
  (fun id _ ih T t nx => match ih T t nx with
    | .exit j T t nx => (match Nat.beq j id with | true => .ok T t nx | false => .exit j T t nx)
    | r => r)
  (fun c ih T t nx => match ih T t nx with
    | .ok T t nx => run (.loop c) T t nx
    | r => r)
  (fun id T t nx => .exit id T t nx)
  (fun T t nx => .ret T t nx)
  (fun _ _ _ => .bad [996]) c
def runA (tab : Nat → Option AFn) (n : Nat) : IC → TA → TB → Nat → R :=
 Nat.rec (motive := fun _ => IC → TA → TB → Nat → R) (fun _ _ _ _ => .bad [995]) (fun _ ih c => codeA tab ih c) n
def ofVal : Nat → Value → Option AV
 | 0, _ => none
 | n + 1, v => match v with
   | .bool b => some (.bool b)
   | .int k i => some (.int k i)
   | .string s => some (.str (s.data.toList.map UInt8.toNat))
   | .pointer none => some .nil
   | .slice none 0 0 => some .nslice
   | .map none => some .nmap
   | .nilFunc => some .nfunc
   | .nilIface => some .niface
   | .func (.func f) a b => if a.size = 0 ∧ b.size = 0 then some (.func f [] []) else none
   | .agg cs => (cs.toList.mapM (ofVal n)).map .agg
   | .tuple cs => (cs.toList.mapM (ofVal n)).map .tup
   | .iface t v => (ofVal n v).map (.iface t)
   | _ => none
def opd (x : Operand) : Opd := match x with
 | .tmp t => .t t
 | .const v => (match ofVal 3 v with | some a => .c a | none => .none_)
 | .func f => .c (.func f [] [])
 | .global _ => .none_
def opds (l : Array Operand) : List Opd := l.toList.map opd
structure Inf where
 size : Nat
 bytes : Nat
 zero : AV
def infOf (P : Program) (t : TypeId) : Option Inf := match P.info? t with
 | some i => (match i.zero with
   | some z => (match ofVal 3 z with | some a => some ⟨i.size, i.bytes, a⟩ | none => none)
   | none => none)
 | none => none
def aggOf (P : Program) (t : TypeId) : Option Bool := match P.underlying t with
 | some (.struct _) => some true
 | some (.array _ _) => some true
 | some _ => some false
 | none => none
def skOf (P : Program) (t : TypeId) : Option SK := match P.underlying t with
 | some .bool => some .bool
 | some (.int _) => some .int
 | some .string => some .str
 | _ => none
def twoOf (P : Program) (t : TypeId) : Bool := match P.underlying t with
 | some (.array 2 e) => (match P.underlying e, P.info? e with
   | some (.int _), some i => Nat.beq i.size 1
   | _, _ => false)
 | _ => false
def isConstO (x : Operand) : Bool := match x with | .const _ => true | _ => false
def eqOf (P : Program) (op : BinOp) (t : TypeId) (x y : Operand) : IOp :=
 let go (k : EK) : IOp := match op with
  | .eql => .eqv false k (opd x) (opd y)
  | .neq => .eqv true k (opd x) (opd y)
  | _ => .bad
 match P.underlying t with
 | some .bool => go (.cell .bool)
 | some (.pointer e) => (match P.info? e with | some i => if i.size ≠ 0 then go .ptr else .bad | none => .bad)
 | some (.slice _) => go .slc
 | some (.map _ _) => go .mp
 | some (.func _ _ _) => go .fn
 | some (.interface _) => if isConstO x || isConstO y then go .ifc else .bad
 | some (.struct fs) =>
   if P.eqGuardType P.depth t || P.stoodInHeld t then .bad else
   (match fs.toList.mapM (fun f => if f.name = "_" then none else (skOf P f.type).map (fun k => (f.offset, k))) with
     | some l => go (.agg l)
     | none => .bad)
 | _ => .bad
def binOf (P : Program) (op : BinOp) (t : TypeId) (x y : Operand) : IOp := match P.underlying t with
 | some (.int _) => .bin op (opd x) (opd y)
 | some .string => .bin op (opd x) (opd y)
 | _ => eqOf P op t x y
def placesOf (P : Program) (t : TypeId) (ps : List (Nat × Operand)) : Option (List (Nat × Nat × Opd)) := match P.underlying t with
 | some (.struct fs) => (match fs.toList.mapM (fun f => (P.info? f.type).map (fun i => (f.offset, i.size))) with
   | some pl => ps.mapM (fun p => (pl[p.1]?).map (fun q => (q.1, q.2, opd p.2)))
   | none => none)
 | some (.array _ e) => (match P.info? e with
   | some i => some (ps.map (fun p => (p.1 * i.size, i.size, opd p.2)))
   | none => none)
 | _ => none
def builtinOf (P : Program) (b : Builtin) (ats : Array TypeId) (args : Array Operand) : IOp := match b with
 | .len => (match ats.toList, args.toList with
   | t :: _, x :: _ => (match P.underlying t with
     | some .string => .len .str (opd x)
     | some (.slice _) => .len .slc (opd x)
     | some (.map _ _) => .len .mp (opd x)
     | _ => .bad)
   | _, _ => .bad)
 | .append => (match ats.toList, args.toList with
   | t :: u :: _, x :: y :: _ => (match P.underlying t, (match P.underlying u with | some (.slice _) => true | some .string => true | _ => false) with
     | some (.slice e), true => (match infOf P e with
       | some i => if 0 < i.size ∧ i.bytes ≤ 65536 ∧ lLen i.zero.cells = i.size then .app i.size (opd x) (opd y) else .bad
       | none => .bad)
     | some (.slice e), false => (match P.underlying u, infOf P e with
       | some (.int .i64), some i => if 0 < i.size ∧ i.bytes ≤ 65536 ∧ lLen i.zero.cells = i.size then .appz i.size i.zero.cells (opd x) (opd y) else .bad
       | _, _ => .bad)
     | _, _ => .bad)
   | _, _ => .bad)
 | .copy => (match ats.toList, args.toList with
   | t :: _, x :: y :: _ => (match P.underlying t with
     | some (.slice e) => (match P.info? e with | some i => if 0 < i.size then .copy i.size (opd x) (opd y) else .bad | none => .bad)
     | _ => .bad)
   | _, _ => .bad)
 | .cap => (match ats.toList, args.toList with
   | t :: _, x :: _ => (match P.underlying t with
     | some (.slice _) => .cap (opd x)
     | _ => .bad)
   | _, _ => .bad)
 | .clear => (match ats.toList, args.toList with
   | t :: _, x :: _ => (match P.underlying t with
     | some (.slice e) => (match infOf P e with | some i => if 0 < i.size then .clr i.size i.zero.cells (opd x) else .bad | none => .bad)
     | _ => .bad)
   | _, _ => .bad)
 | .min => (match args.toList with | [x, y] => .mm false (opd x) (opd y) | _ => .bad)
 | .max => (match args.toList with | [x, y] => .mm true (opd x) (opd y) | _ => .bad)
 | _ => .bad
def methOf (P : Program) (name : String) (t : TypeId) : Option (FuncId × Option (Nat × Bool)) := match P.info? t with
 | none => none
 | some i => match i.methods.find? (·.name == name) with
   | none => none
   | some m => if m.path.size ≠ 0 then none else match m.func with
     | none => none
     | some (f, pr) => (match P.underlying t, pr with
       | some (.pointer _), true => some (f, none)
       | some (.pointer e), false => (match P.info? e, aggOf P e with
         | some i, some ag => some (f, some (i.size, ag))
         | _, _ => none)
       | some _, false => some (f, none)
       | _, _ => none)
def methTab (P : Program) (ts : List TypeId) (name : String) : List (TypeId × FuncId × Option (Nat × Bool)) :=
 ts.filterMap (fun t => (methOf P name t).map (fun r => (t, r)))
def whatOf (P : Program) (ts : List TypeId) (o : Oper) : What := match o.op with
 | .move x => .op (.mov (opd x))
 | .assign x => .op (.mov (opd x))
 | .pick c a b => .op (.pick (opd c) (opd a) (opd b))
 | .alloc e => (match infOf P e with | some i => .op (.alloc i.zero.cells) | none => .op .bad)
 | .box _ x => .op (.box (opd x))
 | .build t ps => (match infOf P t, placesOf P t ps.toList with
   | some i, some pl => .op (.build i.zero.cells pl)
   | _, _ => .op .bad)
 | .buildSlice t n ps => (match P.underlying t with
   | some (.slice e) => (match infOf P e with
     | some i => if 0 < i.size ∧ n * i.size ≤ 65536 ∧ lLen i.zero.cells = i.size then .op (.bslice i.size n i.zero.cells (ps.toList.map (fun p => (p.1 * i.size, i.size, opd p.2)))) else .op .bad
     | none => .op .bad)
   | _ => .op .bad)
 | .load t x => (match aggOf P t, P.info? t with
   | some true, some i => .op (.loadA i.size (opd x))
   | some false, some _ => .op (.load (opd x))
   | _, _ => .op .bad)
 | .store t x v => (match P.info? t with | some i => .op (.store i.size (opd x) (opd v)) | none => .op .bad)
 | .nilCheck x => .op (.nilck (opd x))
 | .binOp op t x y _ => .op (binOf P op t x y)
 | .unOp .not _ x => .op (.not (opd x))
 | .unOp .neg _ x => .op (.neg (opd x))
 | .convert s d x => (match P.underlying s, P.underlying d with
   | some (.int _), some (.int k) => .op (.conv k (opd x))
   | some .string, some (.slice e) => (match P.underlying e, infOf P e with | some (.int .u8), some i => if i.size = 1 then .op (.s2b (opd x)) else .op .bad | _, _ => .op .bad)
   | some (.slice e), some .string => (match P.underlying e, P.info? e with | some (.int .u8), some i => if i.size = 1 then .op (.b2s (opd x)) else .op .bad | _, _ => .op .bad)
   | _, _ => .op .bad)
 | .makeInterface t x => (match P.underlying t with
   | some (.interface _) => .op .bad
   | some _ => .op (.iface t (opd x))
   | none => .op .bad)
 | .makeFunc (.func f) a b => .op (.mkfn f (opds a) (opds b))
 | .makeMap _ none => .op .mkmap
 | .makeSlice t l c => (match P.underlying t with
   | some (.slice e) => (match infOf P e with
     | some i => if 0 < i.size ∧ i.bytes ≤ 65536 then .op (.mkslice i.size i.zero.cells (opd l) (opd c)) else .op .bad
     | none => .op .bad)
   | _ => .op .bad)
 | .slice t x lo hi mx => (match P.underlying t with
   | some .string => if mx.isSome then .op .bad else .op (.sslice (opd x) (lo.map opd) (hi.map opd))
   | some (.slice e) => (match P.info? e with | some i => if 0 < i.size then .op (.cslice i.size (opd x) (lo.map opd) (hi.map opd) (mx.map opd)) else .op .bad | none => .op .bad)
   | _ => .op .bad)
 | .fieldAddr t x f => (match P.underlying t with
   | some (.struct fs) => (match fs[f]? with
     | some fl => (match P.info? fl.type with | some i => if 0 < i.size then .op (.faddr (opd x) fl.offset) else .op .bad | none => .op .bad)
     | none => .op .bad)
   | _ => .op .bad)
 | .field t x f => (match P.underlying t with
   | some (.struct fs) => (match fs[f]? with
     | some fl => (match aggOf P fl.type, P.info? fl.type with
       | some ag, some i => .op (.fld (opd x) fl.offset i.size ag)
       | _, _ => .op .bad)
     | none => .op .bad)
   | _ => .op .bad)
 | .indexAddr t x i => (match P.underlying t with
   | some (.slice e) => (match P.info? e with | some n => if 0 < n.size then .op (.iaddr n.size (opd x) (opd i)) else .op .bad | none => .op .bad)
   | some (.array ln e) => (match P.info? e with | some n => if 0 < n.size then .op (.aaddr ln n.size (opd x) (opd i)) else .op .bad | none => .op .bad)
   | _ => .op .bad)
 | .index t x i => (match P.underlying t with
   | some .string => .op (.sidx (opd x) (opd i))
   | some (.array ln e) => (match aggOf P e, P.info? e with
     | some ag, some n => .op (.aidx ln n.size ag (opd x) (opd i))
     | _, _ => .op .bad)
   | _ => .op .bad)
 | .lookup t x i ok => (match P.underlying t with
   | some (.map k e) => (match skOf P k, infOf P e with
     | some sk, some n => .op (.look sk n.zero (opd x) (opd i) ok)
     | none, some n => (match twoOf P k with | true => .op (.looke n.zero (opd x) (opd i) ok) | false => .op .bad)
     | _, _ => .op .bad)
   | _ => .op .bad)
 | .mapUpdate t x k v => (match P.underlying t with
   | some (.map kt _) => (match skOf P kt with
     | some sk => .op (.mupd sk (opd x) (opd k) (opd v))
     | _ => .op .bad)
   | _ => .op .bad)
 | .range t x => (match P.underlying t with
   | some (.map _ _) => .op (.range (opd x))
   | _ => .op .bad)
 | .next x false => .op (.next (opd x))
 | .entry x => .op (.entry (opd x))
 | .typeAssert x _ t ok => (match P.underlying t, infOf P t with
   | some (.interface _), _ => .op .bad
   | some _, some i => .op (.tassert t i.zero (opd x) ok)
   | _, _ => .op .bad)
 | .extract x i => .op (.extr (opd x) i)
 | .call c => (match c.callee with
   | .builtin b => .op (builtinOf P b c.argTypes c.args)
   | .value (.func f) => .callF f (opds c.args)
   | .value x => .callV (opd x) (opds c.args)
   | .invoke x name => .callM (methTab P ts name) (opd x) (opds c.args))
 | _ => .op .bad
def grdOf (ops : Array Oper) (o : Oper) : Option (Option (Nat × Bool)) := match o.guard with
 | none => some none
 | some (j, w) => (match (ops[j]?).bind (·.dst) with
   | some d => some (some (d, w))
   | none => none)
def insOf (P : Program) (ts : List TypeId) (nt : Nat) (ops : Array Oper) (o : Oper) : Ins := match grdOf ops o, o.dst with
 | some g, none => ⟨none, g, whatOf P ts o⟩
 | some g, some d => if d < nt then ⟨some d, g, whatOf P ts o⟩ else ⟨none, none, .op .bad⟩
 | none, _ => ⟨none, none, .op .bad⟩
def preOf (o : Oper) : List Nat := (o.after.toList.filter (Region.binds .any)).map (·.on)
def drawOf (P : Program) (ts : List TypeId) (nt : Nat) (ops : Array Oper) : List DIns := ops.toList.zipIdx.map (fun p => ⟨p.2, preOf p.1, insOf P ts nt ops p.1⟩)
def icOf (P : Program) (ts : List TypeId) (nt : Nat) : Code → IC
 | .skip => .skip
 | .label _ => .skip
 | .region _ ops false => .reg (ops.toList.map (insOf P ts nt ops))
 | .region _ ops true => if P.follows .mixedOrders && (drawOf P ts nt ops).all (fun i => i.pre.all (fun p => Nat.ble (Nat.succ p) i.ix)) then .draw (drawOf P ts nt ops) else .bad
 | .seq a b => .seq (icOf P ts nt a) (icOf P ts nt b)
 | .cond x a b => .cond (opd x) (icOf P ts nt a) (icOf P ts nt b)
 | .block id c => .block id (icOf P ts nt c)
 | .loop c => .loop (icOf P ts nt c)
 | .exit id => .exit id
 | .ret => .ret
 | _ => .bad
def resCOf (P : Program) (r : ResultVar) : Option Res := match r with
 | .tmp t => some (.tmp t)
 | .cell a t => (match aggOf P t, P.info? t with
   | some ag, some i => some (.cell a i.size ag)
   | _, _ => none)
def fnOf (P : Program) (ts : List TypeId) (f : FuncId) : Option AFn := match P.funcs[f]? with
 | none => none
 | some fn => match fn.body with
   | none => none
   | some c => if fn.name = "runtime.NumGoroutine" ∨ fn.ntmps < fn.params.size + fn.nfree then none else
     match fn.results.toList.mapM (resCOf P) with
     | none => none
     | some rs => some (.code (fn.params.size + fn.nfree) fn.ntmps (icOf P ts fn.ntmps c) rs)
end
end Go.Proofs.YtpjohgnhmjceiaaGreatDoor.AX
set_option linter.unusedVariables false
set_option linter.unusedSectionVars false
set_option linter.unusedSimpArgs false
namespace Go.Proofs.YtpjohgnhmjceiaaGreatDoor.AX
structure Pl where
 blk : Nat
 d : Nat
 ext : Nat
abbrev Rho := Nat → Option Pl
class Env where
 val : Nat → Value
variable [Env]
def Fact.holds (f : Fact) (v : Value) : Prop := match f with
 | .any => True
 | .rng lo hi => ∃ n, v = .int .i64 n ∧ lo ≤ n ∧ n ≤ hi
 | .msk m r => ∃ n, v = .int .i64 n ∧ bitsG .and .i64 n m = some r
def enc (s : List Nat) : ByteArray := ⟨(s.map UInt8.ofNat).toArray⟩
mutual
def AV.rel (ρ : Rho) : AV → Value → Prop
 | .bool b, v => v = .bool b
 | .int k n, v => v = .int k n
 | .str s, v => v = .string (enc s) ∧ ∀ x ∈ s, x < 256
 | .nil, v => v = .pointer none
 | .ptr b o, v => ∃ p, ρ b = some p ∧ v = .pointer (some ⟨p.blk, p.d + o, none⟩)
 | .nslice, v => v = .slice none 0 0
 | .slice b o n c sz ex, v => ∃ p c' off, ρ b = some p ∧ c ≤ c' ∧ n ≤ c' ∧ (ex = true → c' = c) ∧ (0 < c' → off = p.d + o ∧ p.d + o + c' * sz ≤ p.ext) ∧ v = .slice (some ⟨p.blk, off, none⟩) n c'
 | .nmap, v => v = .map none
 | .map b, v => ∃ p, ρ b = some p ∧ v = .map (some p.blk)
 | .func f a b, v => ∃ x y, v = .func (.func f) x y ∧ rels ρ a x.toList ∧ rels ρ b y.toList
 | .nfunc, v => v = .nilFunc
 | .iface t a, v => ∃ x, v = .iface t x ∧ a.rel ρ x
 | .niface, v => v = .nilIface
 | .agg cs, v => ∃ x, v = .agg x ∧ rels ρ cs x.toList
 | .tup cs, v => ∃ x, v = .tuple x ∧ rels ρ cs x.toList
 | .opq b f, v => v = Env.val b ∧ v.oneCell' = true ∧ f.holds v
def rels (ρ : Rho) : List AV → List Value → Prop
 | [], vs => vs = []
 | a :: as, vs => ∃ v vs', vs = v :: vs' ∧ a.rel ρ v ∧ rels ρ as vs'
end
def Rho.le (ρ ρ' : Rho) : Prop := ∀ b p, ρ b = some p → ρ' b = some p
theorem Rho.le_refl (ρ : Rho) : ρ.le ρ := fun _ _ h => h
theorem Rho.le_trans {a b c : Rho} (h : a.le b) (k : b.le c) : a.le c := fun _ _ x => k _ _ (h _ _ x)
mutual
theorem AV.rel_mono {ρ ρ' : Rho} (h : ρ.le ρ') : ∀ (a : AV) (v : Value), a.rel ρ v → a.rel ρ' v
 | .bool _, v, k => by simpa [AV.rel] using k
 | .int _ _, v, k => by simpa [AV.rel] using k
 | .str _, v, k => by simpa [AV.rel] using k
 | .nil, v, k => by simpa [AV.rel] using k
 | .ptr _ _, v, k => by
   simp only [AV.rel] at k ⊢
   obtain ⟨p, hp, r⟩ := k
   exact ⟨p, h _ _ hp, r⟩
 | .nslice, v, k => by simpa [AV.rel] using k
 | .slice _ _ _ _ _ _, v, k => by
   simp only [AV.rel] at k ⊢
   obtain ⟨p, c', off, hp, r⟩ := k
   exact ⟨p, c', off, h _ _ hp, r⟩
 | .nmap, v, k => by simpa [AV.rel] using k
 | .map _, v, k => by
   simp only [AV.rel] at k ⊢
   obtain ⟨p, hp, r⟩ := k
   exact ⟨p, h _ _ hp, r⟩
 | .func _ a b, v, k => by
   simp only [AV.rel] at k ⊢
   obtain ⟨x, y, e, r1, r2⟩ := k
   exact ⟨x, y, e, rels_mono h a _ r1, rels_mono h b _ r2⟩
 | .nfunc, v, k => by simpa [AV.rel] using k
 | .iface _ a, v, k => by
   simp only [AV.rel] at k ⊢
   obtain ⟨x, e, r⟩ := k
   exact ⟨x, e, AV.rel_mono h a _ r⟩
 | .niface, v, k => by simpa [AV.rel] using k
 | .agg cs, v, k => by
   simp only [AV.rel] at k ⊢
   obtain ⟨x, e, r⟩ := k
   exact ⟨x, e, rels_mono h cs _ r⟩
 | .tup cs, v, k => by
   simp only [AV.rel] at k ⊢
   obtain ⟨x, e, r⟩ := k
   exact ⟨x, e, rels_mono h cs _ r⟩
 | .opq _ _, v, k => by simp only [AV.rel] at k ⊢; exact k
theorem rels_mono {ρ ρ' : Rho} (h : ρ.le ρ') : ∀ (a : List AV) (v : List Value), rels ρ a v → rels ρ' a v
 | [], v, k => by simpa [rels] using k
 | a :: as, v, k => by
   simp only [rels] at k ⊢
   obtain ⟨x, y, e, r1, r2⟩ := k
   exact ⟨x, y, e, AV.rel_mono h a _ r1, rels_mono h as _ r2⟩
end
theorem rels_nil {ρ : Rho} {vs : List Value} : rels ρ [] vs ↔ vs = [] := by simp [rels]
theorem rels_cons {ρ : Rho} {a : AV} {as : List AV} {vs : List Value} : rels ρ (a :: as) vs ↔ ∃ v vs', vs = v :: vs' ∧ a.rel ρ v ∧ rels ρ as vs' := by simp [rels]
theorem rels_length {ρ : Rho} : ∀ {as : List AV} {vs : List Value}, rels ρ as vs → vs.length = as.length
 | [], vs, h => by rw [rels_nil.1 h]; rfl
 | a :: as, vs, h => by
   obtain ⟨v, vs', rfl, _, r⟩ := rels_cons.1 h
   simp [rels_length r]
theorem rels_get {ρ : Rho} : ∀ {as : List AV} {vs : List Value}, rels ρ as vs → ∀ (i : Nat) (a : AV), as[i]? = some a → ∃ v, vs[i]? = some v ∧ a.rel ρ v
 | [], vs, h, i, a, k => by simp at k
 | b :: as, vs, h, i, a, k => by
   obtain ⟨v, vs', rfl, hv, r⟩ := rels_cons.1 h
   cases i with
   | zero => simp at k; subst k; exact ⟨v, by simp, hv⟩
   | succ i => simpa using rels_get r i a (by simpa using k)
theorem rels_app {ρ : Rho} : ∀ {as bs : List AV} {vs us : List Value}, rels ρ as vs → rels ρ bs us → rels ρ (as ++ bs) (vs ++ us)
 | [], bs, vs, us, h, k => by rw [rels_nil.1 h]; simpa using k
 | a :: as, bs, vs, us, h, k => by
   obtain ⟨v, vs', rfl, hv, r⟩ := rels_cons.1 h
   exact rels_cons.2 ⟨v, _, rfl, hv, rels_app r k⟩
theorem rels_take {ρ : Rho} : ∀ {as : List AV} {vs : List Value} (n : Nat), rels ρ as vs → rels ρ (as.take n) (vs.take n)
 | as, vs, 0, h => by simp [rels]
 | [], vs, n + 1, h => by rw [rels_nil.1 h]; simp [rels]
 | a :: as, vs, n + 1, h => by
   obtain ⟨v, vs', rfl, hv, r⟩ := rels_cons.1 h
   exact rels_cons.2 ⟨v, _, rfl, hv, rels_take n r⟩
theorem rels_drop {ρ : Rho} : ∀ {as : List AV} {vs : List Value} (n : Nat), rels ρ as vs → rels ρ (as.drop n) (vs.drop n)
 | as, vs, 0, h => by simpa using h
 | [], vs, n + 1, h => by rw [rels_nil.1 h]; simp [rels]
 | a :: as, vs, n + 1, h => by
   obtain ⟨v, vs', rfl, hv, r⟩ := rels_cons.1 h
   simpa using rels_drop n r
theorem rels_of_get {ρ : Rho} : ∀ {as : List AV} {vs : List Value}, vs.length = as.length → (∀ (i : Nat) (a : AV) (v : Value), as[i]? = some a → vs[i]? = some v → a.rel ρ v) → rels ρ as vs
 | [], vs, h, k => by rw [List.length_nil] at h; rw [List.eq_nil_of_length_eq_zero h]; simp [rels]
 | a :: as, [], h, k => by simp at h
 | a :: as, v :: vs, h, k => rels_cons.2 ⟨v, vs, rfl, k 0 a v (by simp) (by simp), rels_of_get (by simpa using h) (fun i a v h1 h2 => k (i + 1) a v (by simpa using h1) (by simpa using h2))⟩
theorem rels_set {ρ : Rho} {as : List AV} {vs : List Value} (h : rels ρ as vs) (i : Nat) {a : AV} {v : Value} (hv : a.rel ρ v) : rels ρ (as.set i a) (vs.set i v) := by
 have hl := rels_length h
 refine rels_of_get (by simp [hl]) (fun j b u h1 h2 => ?_)
 rw [List.getElem?_set] at h1 h2
 by_cases hij : i = j
 · subst hij
   by_cases hi : i < as.length
   · rw [if_pos rfl, if_pos hi] at h1
     rw [if_pos rfl, if_pos (by omega)] at h2
     cases h1; cases h2; exact hv
   · rw [if_pos rfl, if_neg hi] at h1; cases h1
 · rw [if_neg hij] at h1 h2
   obtain ⟨x, hx, r⟩ := rels_get h j b h1
   rw [hx] at h2; cases h2; exact r
theorem lLen_eq {α : Type} (a : List α) : lLen a = a.length := by
 induction a with
 | nil => rfl
 | cons x l ih => show Nat.succ (lLen l) = _; rw [ih]; rfl
theorem lApp_eq {α β : Type} (a b : List α) (k : List α → β) : lApp a b k = k (a ++ b) := by
 induction a generalizing k with
 | nil => rfl
 | cons x l ih => show lApp l b (fun r => k (x :: r)) = _; rw [ih]; rfl
theorem lGet_eq {α : Type} (a : List α) (i : Nat) : lGet a i = a[i]? := by
 induction a generalizing i with
 | nil => rfl
 | cons x l ih =>
   show @Bool.rec (fun _ => Option α) (lGet l (Nat.pred i)) (some x) (Nat.beq i 0) = _
   rw [brec]
   cases i with
   | zero => rfl
   | succ i => rw [if_neg (by simp [Nat.beq_eq])]; simpa using ih i
theorem lDrop_eq {α : Type} (a : List α) (i : Nat) : lDrop a i = a.drop i := by
 induction a generalizing i with
 | nil => simp [lDrop]
 | cons x l ih =>
   show @Bool.rec (fun _ => List α) (lDrop l (Nat.pred i)) (x :: l) (Nat.beq i 0) = _
   rw [brec]
   cases i with
   | zero => rfl
   | succ i => rw [if_neg (by simp [Nat.beq_eq])]; simpa using ih i
theorem lTake_eq {α β : Type} (a : List α) (i : Nat) (k : List α → β) : lTake a i k = k (a.take i) := by
 induction a generalizing i k with
 | nil => simp [lTake]
 | cons x l ih =>
   show @Bool.rec (fun _ => β) (lTake l (Nat.pred i) (fun r => k (x :: r))) (k []) (Nat.beq i 0) = _
   rw [brec]
   cases i with
   | zero => rfl
   | succ i => rw [if_neg (by simp [Nat.beq_eq]), ih]; rfl
theorem sEq_eq (a b : List Nat) : sEq a b = decide (a = b) := by
 induction a generalizing b with
 | nil => cases b <;> simp [sEq]
 | cons x l ih =>
   cases b with
   | nil => simp [sEq]
   | cons y b =>
     show @Bool.rec (fun _ => Bool) false (sEq l b) (Nat.beq x y) = _
     rw [brec, ih]
     by_cases h : x = y
     · subst h; simp [Nat.beq_eq]
     · rw [if_neg (by simpa [Nat.beq_eq] using h)]; simp [h]
theorem puts_get {l : List AV} : ∀ (i : Nat) (t : TA) (j : Nat), (puts l i t).get j = if i ≤ j ∧ j < i + l.length then l[j - i]? else t.get j := by
 induction l with
 | nil => intro i t j; show t.get j = _; rw [if_neg (by simp)]
 | cons x l ih =>
   intro i t j
   show (puts l (Nat.succ i) (t.put (some x) i)).get j = _
   (first | rw [ih, Bt.get_put] | rw [ih, Bt.get_put])
   by_cases h1 : i = j
   · subst h1
     rw [if_neg (by omega), if_pos rfl, if_pos (by simp)]
     simp
   · by_cases h2 : i < j
     · by_cases h3 : j < i + (x :: l).length
       · rw [if_pos (by simp at h3; constructor <;> omega), if_pos (by constructor <;> omega)]
         rw [show j - i = (j - Nat.succ i) + 1 by omega]
         simp
       · rw [if_neg (by simp at h3; omega), if_neg (by omega), if_neg (by omega)]
     · rw [if_neg (by omega), if_neg (by omega), if_neg (by omega)]
theorem gets_eq {t : TA} : ∀ {n i : Nat} {l : List AV}, gets t n i = some l → l.length = n ∧ ∀ j a, l[j]? = some a → t.get (i + j) = some a := by
 intro n
 induction n with
 | zero => intro i l h; have h' : some [] = some l := h; cases h'; simp
 | succ n ih =>
   intro i l h
   have h' : (match t.get i with
    | some v => (match gets t n (Nat.succ i) with | some l => some (v :: l) | none => none)
    | none => none) = some l := h
   split at h'
   · rename_i v hv
     split at h'
     · rename_i r hr
       cases h'
       obtain ⟨h1, h2⟩ := ih hr
       refine ⟨by simp [h1], fun j a ha => ?_⟩
       cases j with
       | zero => simp at ha; subst ha; exact hv
       | succ j => have := h2 j a (by simpa using ha); rwa [show Nat.succ i + j = i + (j + 1) by omega] at this
     · cases h'
   · cases h'
theorem allCell_iff {l : List AV} : allCell l = true ↔ ∀ a ∈ l, isCell a = true := by
 induction l with
 | nil => simp [allCell]
 | cons x l ih =>
   show @Bool.rec (fun _ => Bool) false (allCell l) (isCell x) = true ↔ _
   rw [brec]
   by_cases h : isCell x = true
   · rw [if_pos h, ih]; simp [h]
   · rw [if_neg h]; simp [h]
theorem rel_cell {ρ : Rho} {a : AV} {v : Value} (h : a.rel ρ v) (hc : isCell a = true) : v.oneCell' = true := by
 cases a <;> simp only [AV.rel, isCell] at h hc <;> first | (cases hc) | skip
 all_goals (first | (exact h.2.1) | (subst h; rfl) | (obtain ⟨rfl, _⟩ := h; rfl) | (obtain ⟨_, _, rfl⟩ := h; rfl) | (obtain ⟨_, _, _, _, _, _, _, _, rfl⟩ := h; rfl) | (obtain ⟨_, _, rfl, _⟩ := h; rfl) | (obtain ⟨_, rfl, _⟩ := h; rfl))
theorem rels_cells {ρ : Rho} {as : List AV} {vs : List Value} (h : rels ρ as vs) (hc : allCell as = true) : ∀ v ∈ vs, v.oneCell' = true := by
 intro v hv
 obtain ⟨i, hi⟩ := List.getElem?_of_mem hv
 have hl := rels_length h
 have hlt : i < as.length := by rw [← hl]; exact (List.getElem?_eq_some_iff.1 hi).1
 obtain ⟨x, hx, r⟩ := rels_get h i _ (List.getElem?_eq_getElem hlt)
 rw [hi] at hx; cases hx
 exact rel_cell r (allCell_iff.1 hc _ (List.getElem_mem hlt))
theorem one_cells {v : Value} (h : v.oneCell' = true) : v.cells = #[v] := by cases v <;> first | rfl | cases h
theorem rel_cells {ρ : Rho} {a : AV} {v : Value} (h : a.rel ρ v) : rels ρ a.cells v.cells.toList := by
 cases a <;> simp only [AV.cells] <;> first
  | (simp only [AV.rel] at h; obtain ⟨x, rfl, r⟩ := h; exact r)
  | (rename_i cs; simp only [AV.rel] at h; obtain ⟨x, rfl, r⟩ := h; exact r)
  | (have hv : v.cells = #[v] := by
      simp only [AV.rel] at h
      first | (exact one_cells h.2.1) | (subst h; rfl) | (obtain ⟨rfl, _⟩ := h; rfl) | (obtain ⟨_, _, rfl⟩ := h; rfl) | (obtain ⟨_, _, _, _, _, _, _, _, rfl⟩ := h; rfl) | (obtain ⟨_, _, rfl, _⟩ := h; rfl) | (obtain ⟨_, rfl, _⟩ := h; rfl)
     rw [hv]
     exact rels_cons.2 ⟨v, [], rfl, h, by simp [rels]⟩)
end Go.Proofs.YtpjohgnhmjceiaaGreatDoor.AX
set_option linter.unusedVariables false
set_option linter.unusedSectionVars false
set_option linter.unusedSimpArgs false
namespace Go.Proofs.YtpjohgnhmjceiaaGreatDoor.AX
variable [Env]
def entRel (ρ : Rho) (e : AV × AV × Nat) (m : MapEntry) : Prop := e.1.rel ρ m.key ∧ e.2.1.rel ρ m.val ∧ e.2.2 = m.born
def entsRel (ρ : Rho) (es : List (AV × AV × Nat)) (ms : List MapEntry) : Prop := es.length = ms.length ∧ ∀ (i : Nat) e m, es[i]? = some e → ms[i]? = some m → entRel ρ e m
def Blk.rel (ρ : Rho) (k : Blk) (p : Pl) (w : World) : Prop := match k with
 | .cells t n _ => p.d + n ≤ p.ext ∧ (∀ (i : Nat) (v : AV), t.get i = some v → ∃ cv, w.cell? ⟨p.blk, p.d + i, none⟩ = some cv ∧ v.rel ρ cv) ∧
    (∀ j, j < p.ext → (w.cell? ⟨p.blk, j, none⟩).isSome = true) ∧ (∀ j, p.d ≤ j → j < p.ext → w.frozen? ⟨p.blk, j, none⟩ = false)
 | .map es clk => ∃ ms, w.heap[p.blk]? = some (.map ms clk) ∧ entsRel ρ es ms.toList
 | .iter none _ _ _ => p.d = 0 ∧ w.heap[p.blk]? = some (.mapIter none 0 #[] 0)
 | .iter (some m) since seen last => p.d = 0 ∧ ∃ q, ρ m = some q ∧ w.heap[p.blk]? = some (.mapIter (some q.blk) since seen.toArray last)
def Blk.mayWrite : Blk → Bool | .cells _ _ wr => wr | _ => true
structure HRel (ρ : Rho) (t : TB) (nx : Nat) (w : World) : Prop where
 blk : ∀ (b : Nat) (k : Blk), t.get b = some k → ∃ p, ρ b = some p ∧ p.blk < w.heap.size ∧ k.rel ρ p w
 inj : ∀ (b c : Nat) (k l : Blk) (p q : Pl), t.get b = some k → t.get c = some l → (k.mayWrite = true ∨ l.mayWrite = true) → ρ b = some p → ρ c = some q → p.blk = q.blk → b = c
 new : ∀ b, nx ≤ b → ρ b = none
def own (ρ : Rho) (t : TB) (k : Nat) : Prop := ∃ b x p, t.get b = some x ∧ x.mayWrite = true ∧ ρ b = some p ∧ p.blk = k
structure Fr (O : Nat → Prop) (w w' : World) : Prop where
 os : w'.os = w.os
 tape : w'.tape = w.tape
 output : w'.output = w.output
 size : w.heap.size ≤ w'.heap.size
 block : ∀ k, k < w.heap.size → ¬ O k → w'.heap[k]? = w.heap[k]?
structure Nxt (ρ : Rho) (t : TB) (nx : Nat) (w : World) (ρ' : Rho) (t' : TB) (nx' : Nat) (w' : World) : Prop where
 le : ρ.le ρ'
 heap : HRel ρ' t' nx' w'
 fr : Fr (own ρ t) w w'
 own : ∀ k, own ρ' t' k → own ρ t k ∨ w.heap.size ≤ k
 pl : ∀ b p, ρ' b = some p → ρ b = some p ∨ nx ≤ b ∧ (w.heap.size ≤ p.blk ∨ Go.Proofs.YtpjohgnhmjceiaaGreatDoor.AX.own ρ t p.blk)
 dom : ∀ b x, t'.get b = some x → (∃ y, t.get b = some y) ∨ nx ≤ b
 nxle : nx ≤ nx'
theorem Fr.refl (O : Nat → Prop) (w : World) : Fr O w w := ⟨rfl, rfl, rfl, Nat.le_refl _, fun _ _ _ => rfl⟩
theorem Nxt.refl {ρ : Rho} {t : TB} {nx : Nat} {w : World} (h : HRel ρ t nx w) : Nxt ρ t nx w ρ t nx w := ⟨Rho.le_refl _, h, Fr.refl _ _, fun _ h => .inl h, fun _ _ h => .inl h, fun _ x h => .inl ⟨x, h⟩, Nat.le_refl _⟩
theorem Nxt.trans {ρ ρ' ρ'' : Rho} {t t' t'' : TB} {n n' n'' : Nat} {w w' w'' : World} (h : Nxt ρ t n w ρ' t' n' w') (k : Nxt ρ' t' n' w' ρ'' t'' n'' w'') : Nxt ρ t n w ρ'' t'' n'' w'' := by
 refine ⟨Rho.le_trans h.le k.le, k.heap, ⟨k.fr.os.trans h.fr.os, k.fr.tape.trans h.fr.tape, k.fr.output.trans h.fr.output, Nat.le_trans h.fr.size k.fr.size, fun i hi hO => ?_⟩, fun i hi => ?_, fun b p hb => ?_, fun b x hb => ?_, Nat.le_trans h.nxle k.nxle⟩
 · rw [k.fr.block i (Nat.lt_of_lt_of_le hi h.fr.size) (fun h' => (h.own i h').elim hO (fun h1 => absurd h1 (by omega))), h.fr.block i hi hO]
 · rcases k.own i hi with h1 | h1
   · exact h.own i h1
   · exact .inr (Nat.le_trans h.fr.size h1)
 · rcases k.pl b p hb with h1 | ⟨h0, h1 | h1⟩
   · exact h.pl b p h1
   · exact .inr ⟨Nat.le_trans h.nxle h0, .inl (Nat.le_trans h.fr.size h1)⟩
   · rcases h.own _ h1 with h2 | h2
     · exact .inr ⟨Nat.le_trans h.nxle h0, .inr h2⟩
     · exact .inr ⟨Nat.le_trans h.nxle h0, .inl h2⟩
 · rcases k.dom b x hb with ⟨y, h1⟩ | h1
   · exact h.dom b y h1
   · exact .inr (Nat.le_trans h.nxle h1)
theorem Blk.rel_keep {ρ ρ' : Rho} {k : Blk} {p : Pl} {w w' : World} (hle : ρ.le ρ') (hk : k.rel ρ p w) (hb : w'.heap[p.blk]? = w.heap[p.blk]?) : k.rel ρ' p w' := by
 have hc : ∀ j, w'.cell? ⟨p.blk, j, none⟩ = w.cell? ⟨p.blk, j, none⟩ := fun j => World.cell?_of_block hb
 have hf : ∀ j, w'.frozen? ⟨p.blk, j, none⟩ = w.frozen? ⟨p.blk, j, none⟩ := fun j => World.frozen?_of_block hb
 cases k with
 | cells t n wr =>
   obtain ⟨h1, h2, h3, h4⟩ := hk
   refine ⟨h1, fun i v hv => ?_, fun j hj => by rw [hc]; exact h3 j hj, fun j hj hj' => by rw [hf]; exact h4 j hj hj'⟩
   obtain ⟨cv, h5, h6⟩ := h2 i v hv
   exact ⟨cv, by rw [hc]; exact h5, AV.rel_mono hle _ _ h6⟩
 | map es clk =>
   obtain ⟨ms, h1, h2, h3⟩ := hk
   exact ⟨ms, by rw [hb]; exact h1, h2, fun i e m he hm => let r := h3 i e m he hm; ⟨AV.rel_mono hle _ _ r.1, AV.rel_mono hle _ _ r.2.1, r.2.2⟩⟩
 | iter m since seen last =>
   cases m with
   | none => exact ⟨hk.1, by rw [hb]; exact hk.2⟩
   | some m =>
     obtain ⟨h0, q, h1, h2⟩ := hk
     exact ⟨h0, q, hle _ _ h1, by rw [hb]; exact h2⟩
def Rho.upd (ρ : Rho) (b : Nat) (p : Pl) : Rho := fun c => if c = b then some p else ρ c
theorem Rho.le_upd {ρ : Rho} {nx : Nat} {p : Pl} (h : ∀ b, nx ≤ b → ρ b = none) : ρ.le (ρ.upd nx p) := by
 intro b q hb
 unfold Rho.upd
 by_cases e : b = nx
 · subst e; rw [h b (Nat.le_refl _)] at hb; cases hb
 · rw [if_neg e]; exact hb
theorem nxt_alloc {ρ : Rho} {t : TB} {nx : Nat} {w : World} (h : HRel ρ t nx w) (o : Obj) (k : Blk) (d ext : Nat)
  (hk : k.rel (ρ.upd nx ⟨w.heap.size, d, ext⟩) ⟨w.heap.size, d, ext⟩ (w.alloc o)) :
  Nxt ρ t nx w (ρ.upd nx ⟨w.heap.size, d, ext⟩) (t.put (some k) nx) (Nat.succ nx) (w.alloc o) := by
 have hle : ρ.le (ρ.upd nx ⟨w.heap.size, d, ext⟩) := Rho.le_upd h.new
 have hsz : (w.alloc o).heap.size = w.heap.size + 1 := Array.size_push _
 refine ⟨hle, ⟨fun b x hx => ?_, fun b c x y p q hb hc hw hp hq he => ?_, fun b hb => ?_⟩, ⟨rfl, rfl, rfl, by omega, fun k hk _ => RowKit.Below.heap_alloc w o k hk⟩, fun i hi => ?_, fun b p hb => ?_, fun b x hb => ?_, Nat.le_succ _⟩
 · (first | rw [Bt.get_put] at hx | rw [Bt.get_put] at hx)
   by_cases e : b = nx
   · rw [if_pos e] at hx; cases hx
     exact ⟨_, by rw [e]; simp [Rho.upd], by simp [hsz], hk⟩
   · rw [if_neg e] at hx
     obtain ⟨p, hp, hl, hr⟩ := h.blk b x hx
     exact ⟨p, hle _ _ hp, by omega, Blk.rel_keep hle hr (RowKit.Below.heap_alloc w o _ hl)⟩
 · (first | rw [Bt.get_put] at hb hc | rw [Bt.get_put] at hb hc)
   by_cases e1 : b = nx
   · by_cases e2 : c = nx
     · omega
     · rw [if_neg e2] at hc
       obtain ⟨q', hq', hl, _⟩ := h.blk c y hc
       rw [hle _ _ hq'] at hq; cases hq
       rw [e1] at hp; simp [Rho.upd] at hp; subst hp
       simp at he; omega
   · rw [if_neg e1] at hb
     obtain ⟨p', hp', hl, _⟩ := h.blk b x hb
     rw [hle _ _ hp'] at hp; cases hp
     by_cases e2 : c = nx
     · rw [e2] at hq; simp [Rho.upd] at hq; subst hq
       simp at he; omega
     · rw [if_neg e2] at hc
       obtain ⟨q', hq', hl', _⟩ := h.blk c y hc
       rw [hle _ _ hq'] at hq; cases hq
       exact h.inj b c x y _ _ hb hc hw hp' hq' he
 · show (if b = nx then _ else ρ b) = none
   rw [if_neg (by omega)]
   exact h.new b (by omega)
 · obtain ⟨b, x, p, hx, hw, hp, rfl⟩ := hi
   (first | rw [Bt.get_put] at hx | rw [Bt.get_put] at hx)
   by_cases e : b = nx
   · rw [e] at hp; simp [Rho.upd] at hp; subst hp; exact .inr (Nat.le_refl _)
   · rw [if_neg e] at hx
     obtain ⟨p', hp', hl, _⟩ := h.blk b x hx
     rw [hle _ _ hp'] at hp; cases hp
     exact .inl ⟨b, x, _, hx, hw, hp', rfl⟩
 · unfold Rho.upd at hb
   split at hb
   · rename_i e; cases hb; exact .inr ⟨Nat.le_of_eq e.symm, .inl (Nat.le_refl _)⟩
   · exact .inl hb
 · (first | rw [Bt.get_put] at hb | rw [Bt.get_put] at hb)
   by_cases e : b = nx
   · exact .inr (by omega)
   · rw [if_neg e] at hb; exact .inl ⟨x, hb⟩
theorem HRel.drew {ρ : Rho} {t : TB} {nx : Nat} {w : World} (h : HRel ρ t nx w) : HRel ρ t nx w.drew :=
 ⟨fun b k hk => let ⟨p, hp, hl, r⟩ := h.blk b k hk; ⟨p, hp, hl, Blk.rel_keep (Rho.le_refl _) r rfl⟩, h.inj, h.new⟩
theorem nxt_drew {ρ : Rho} {t : TB} {nx : Nat} {w : World} (h : HRel ρ t nx w) : Nxt ρ t nx w ρ t nx w.drew :=
 ⟨Rho.le_refl _, h.drew, ⟨rfl, rfl, rfl, Nat.le_refl _, fun _ _ _ => rfl⟩, fun _ h => .inl h, fun _ _ h => .inl h, fun _ x h => .inl ⟨x, h⟩, Nat.le_refl _⟩
theorem rel_newRow {ρ : Rho} {w : World} {as : List AV} {vs : List Value} (h : rels ρ as vs) (more : List Value) (e : TypeId) (b : Nat) (fz : Nat × Nat) (hfz : ∀ j, j < vs.length + more.length → ¬ (fz.1 ≤ j ∧ j < fz.2)) (hb : b = w.heap.size) :
  (Blk.cells (puts as 0 .e) (lLen as) true).rel ρ ⟨b, 0, vs.length + more.length⟩ (w.alloc (.cells (vs ++ more).toArray e fz)) := by
 subst hb
 have hl := rels_length h
 refine ⟨by rw [lLen_eq]; show 0 + as.length ≤ vs.length + more.length; omega, fun i v hv => ?_, fun j hj => ?_, fun j _ hj => ?_⟩
 · rw [puts_get] at hv
   split at hv
   · rename_i hi
     obtain ⟨cv, h1, h2⟩ := rels_get h i v (by simpa using hv)
     refine ⟨cv, ?_, h2⟩
     show World.cell? _ ⟨w.heap.size, 0 + i, none⟩ = _
     rw [World.cell?_alloc_mark, Nat.zero_add]
     simp only [List.getElem?_toArray]
     rw [List.getElem?_append_left (List.getElem?_eq_some_iff.1 h1).1]
     exact h1
   · simp [Bt.get_e] at hv
 · show (World.cell? _ ⟨w.heap.size, j, none⟩).isSome = true
   rw [World.cell?_alloc_mark]
   simp only [List.getElem?_toArray]
   have hj' : j < (vs ++ more).length := by rw [List.length_append]; exact hj
   rw [List.getElem?_eq_getElem hj']; rfl
 · show World.frozen? _ ⟨w.heap.size, j, none⟩ = false
   obtain ⟨lo, hi⟩ := fz
   rw [World.frozen?_alloc_mark]
   have := hfz j hj
   by_cases h1 : lo ≤ j <;> by_cases h2 : j < hi <;> simp_all
theorem nxt_row {ρ : Rho} {t : TB} {nx : Nat} {w : World} (h : HRel ρ t nx w) {as : List AV} {vs : List Value} (hr : rels ρ as vs) (more : List Value) (e : TypeId) (fz : Nat × Nat) (hfz : ∀ j, j < vs.length + more.length → ¬ (fz.1 ≤ j ∧ j < fz.2)) :
  Nxt ρ t nx w (ρ.upd nx ⟨w.heap.size, 0, vs.length + more.length⟩) (newRow as t nx) (Nat.succ nx) (w.alloc (.cells (vs ++ more).toArray e fz)) :=
 nxt_alloc h _ _ _ _ (rel_newRow (rels_mono (Rho.le_upd h.new) _ _ hr) more e _ fz hfz rfl)
theorem nxt_row0 {ρ : Rho} {t : TB} {nx : Nat} {w : World} (h : HRel ρ t nx w) {as : List AV} {vs : Array Value} (hr : rels ρ as vs.toList) (e : TypeId) :
  Nxt ρ t nx w (ρ.upd nx ⟨w.heap.size, 0, vs.size⟩) (newRow as t nx) (Nat.succ nx) (w.alloc (.cells vs e)) := by
 have := nxt_row h hr [] e (0, 0) (fun j hj => by omega)
 simpa using this
theorem storeAt_eq {cs : List AV} {b o : Nat} {t t' : TB} (h : storeAt cs b o t = some t') :
  ∃ c n, t.get b = some (.cells c n true) ∧ o + cs.length ≤ n ∧ allCell cs = true ∧ t' = t.put (some (.cells (puts cs o c) n true)) b := by
 unfold storeAt at h
 split at h
 · rename_i c n hb
   split at h
   · rename_i hn
     split at h
     · rename_i ha
       rw [lLen_eq] at hn
       cases h
       exact ⟨c, n, hb, Nat.le_of_ble_eq_true hn, ha, rfl⟩
     · cases h
   · cases h
 · cases h
theorem heap_setCells_size (w : World) (b o : Nat) (vs : List Value) : (w.setCells b o vs).heap.size = w.heap.size := by
 induction vs generalizing o w with
 | nil => rfl
 | cons v vs ih => rw [World.setCells, ih]; simp [World.setCell]
theorem heap_setCells_other (w : World) (b o : Nat) (vs : List Value) {i : Nat} (hne : i ≠ b) : (w.setCells b o vs).heap[i]? = w.heap[i]? := by
 induction vs generalizing o w with
 | nil => rfl
 | cons v vs ih => rw [World.setCells, ih, RowKit.Below.heap_setCell _ _ _ _ hne]
theorem setCells_same (w : World) (b o : Nat) (vs : List Value) : (w.setCells b o vs).os = w.os ∧ (w.setCells b o vs).tape = w.tape ∧ (w.setCells b o vs).output = w.output := by
 induction vs generalizing o w with
 | nil => exact ⟨rfl, rfl, rfl⟩
 | cons v vs ih => rw [World.setCells]; exact ih (w.setCell ⟨b, o, none⟩ v) (o + 1)
theorem nxt_put {ρ : Rho} {t : TB} {nx : Nat} {w w' : World} (h : HRel ρ t nx w) {b : Nat} {k k' : Blk} {p : Pl} (hb : t.get b = some k) (hm : k.mayWrite = true) (hp : ρ b = some p)
  (hs : w'.heap.size = w.heap.size) (ho : w'.os = w.os ∧ w'.tape = w.tape ∧ w'.output = w.output) (hoth : ∀ i, i ≠ p.blk → w'.heap[i]? = w.heap[i]?) (hk : k'.rel ρ p w') :
  Nxt ρ t nx w ρ (t.put (some k') b) nx w' := by
 refine ⟨Rho.le_refl _, ⟨fun c x hx => ?_, fun c c' x y q q' hc hc' hw hq hq' he => ?_, h.new⟩, ⟨ho.1, ho.2.1, ho.2.2, by omega, fun i _ hO => hoth i (fun e => hO ⟨b, k, p, hb, hm, hp, e.symm⟩)⟩, fun i hi => ?_, fun _ _ h => .inl h, fun c x hx => ?_, Nat.le_refl _⟩
 · (first | rw [Bt.get_put] at hx | rw [Bt.get_put] at hx)
   by_cases e : c = b
   · rw [if_pos e] at hx; cases hx
     obtain ⟨p', hp', hl, _⟩ := h.blk b k hb
     rw [hp] at hp'; cases hp'
     exact ⟨p, by rw [e]; exact hp, by omega, hk⟩
   · rw [if_neg e] at hx
     obtain ⟨q, hq, hl, hr⟩ := h.blk c x hx
     refine ⟨q, hq, by omega, Blk.rel_keep (Rho.le_refl _) hr (hoth _ (fun e' => e (h.inj c b x k q p hx hb (.inr hm) hq hp e')))⟩
 · have hc1 : ∃ x', t.get c = some x' ∧ (x.mayWrite = true → x'.mayWrite = true) := by
    (first | rw [Bt.get_put] at hc | rw [Bt.get_put] at hc)
    by_cases e : c = b
    · exact ⟨k, by rw [e]; exact hb, fun _ => hm⟩
    · rw [if_neg e] at hc; exact ⟨_, hc, fun h => h⟩
   have hc2 : ∃ x', t.get c' = some x' ∧ (y.mayWrite = true → x'.mayWrite = true) := by
    (first | rw [Bt.get_put] at hc' | rw [Bt.get_put] at hc')
    by_cases e : c' = b
    · exact ⟨k, by rw [e]; exact hb, fun _ => hm⟩
    · rw [if_neg e] at hc'; exact ⟨_, hc', fun h => h⟩
   obtain ⟨x', hx', hxw⟩ := hc1
   obtain ⟨y', hy', hyw⟩ := hc2
   exact h.inj c c' x' y' q q' hx' hy' (hw.imp hxw hyw) hq hq' he
 · obtain ⟨c, x, q, hx, hw, hq, rfl⟩ := hi
   (first | rw [Bt.get_put] at hx | rw [Bt.get_put] at hx)
   by_cases e : c = b
   · rw [e, hp] at hq; cases hq; exact .inl ⟨b, k, p, hb, hm, hp, rfl⟩
   · rw [if_neg e] at hx; exact .inl ⟨c, x, q, hx, hw, hq, rfl⟩
 · (first | rw [Bt.get_put] at hx | rw [Bt.get_put] at hx)
   by_cases e : c = b
   · exact .inl ⟨k, by rw [e]; exact hb⟩
   · rw [if_neg e] at hx; exact .inl ⟨x, hx⟩
theorem rel_puts {ρ : Rho} {w : World} {c : TA} {n : Nat} {p : Pl} (h : (Blk.cells c n true).rel ρ p w) {as : List AV} {vs : List Value} (hr : rels ρ as vs) {o : Nat} (ho : o + as.length ≤ n) :
  (Blk.cells (puts as o c) n true).rel ρ p (w.setCells p.blk (p.d + o) vs) := by
 obtain ⟨h1, h2, h3, h4⟩ := h
 have hl := rels_length hr
 have hin : ∀ j, j < vs.length → (w.cell? ⟨p.blk, p.d + o + j, none⟩).isSome = true := fun j hj => h3 _ (by omega)
 refine ⟨h1, fun i v hv => ?_, fun j hj => ?_, fun j hj hj' => by rw [World.frozen?_setCells]; exact h4 j hj hj'⟩
 · rw [puts_get] at hv
   split at hv
   · rename_i hi
     obtain ⟨cv, k1, k2⟩ := rels_get hr (i - o) v hv
     have hlt : i - o < vs.length := (List.getElem?_eq_some_iff.1 k1).1
     refine ⟨cv, ?_, k2⟩
     have := World.cell?_setCells_in p.blk vs (p.d + o) w hin (i - o) hlt
     rw [show p.d + o + (i - o) = p.d + i by omega] at this
     rw [this, ← k1, List.getElem?_eq_getElem hlt]
   · rename_i hi
     obtain ⟨cv, k1, k2⟩ := h2 i v hv
     refine ⟨cv, ?_, k2⟩
     rw [World.cell?_setCells_out]
     · exact k1
     · intro _ _
       show p.d + i < p.d + o ∨ p.d + o + vs.length ≤ p.d + i
       omega
 · by_cases hj2 : p.d + o ≤ j ∧ j < p.d + o + vs.length
   · have := World.cell?_setCells_in p.blk vs (p.d + o) w hin (j - (p.d + o)) (by omega)
     rw [show p.d + o + (j - (p.d + o)) = j by omega] at this
     rw [this]; rfl
   · rw [World.cell?_setCells_out]
     · exact h3 j hj
     · intro _ _
       show j < p.d + o ∨ p.d + o + vs.length ≤ j
       omega
theorem nxt_store {ρ : Rho} {t t' : TB} {nx : Nat} {w : World} (h : HRel ρ t nx w) {cs : List AV} {vs : List Value} (hr : rels ρ cs vs) {b o : Nat} (hs : storeAt cs b o t = some t') :
  ∃ p, ρ b = some p ∧ (∀ j, j < vs.length → (w.cell? ⟨p.blk, p.d + o + j, none⟩).isSome = true) ∧ (∀ j, j < vs.length → w.frozen? ⟨p.blk, p.d + o + j, none⟩ = false) ∧ (∀ v ∈ vs, v.oneCell' = true) ∧
   Nxt ρ t nx w ρ t' nx (w.setCells p.blk (p.d + o) vs) := by
 obtain ⟨c, n, hb, hn, hc, rfl⟩ := storeAt_eq hs
 obtain ⟨p, hp, hl, hk⟩ := h.blk b _ hb
 obtain ⟨h1, h2, h3, h4⟩ := hk
 have hlen := rels_length hr
 exact ⟨p, hp, fun j hj => h3 _ (by omega), fun j hj => h4 _ (by omega) (by omega), rels_cells hr hc,
  nxt_put h hb rfl hp (heap_setCells_size _ _ _ _) (setCells_same _ _ _ _) (fun i hi => heap_setCells_other _ _ _ _ hi) (rel_puts ⟨h1, h2, h3, h4⟩ hr hn)⟩
theorem nxt_kill {ρ : Rho} {t : TB} {nx : Nat} {w : World} (h : HRel ρ t nx w) (b : Nat) : Nxt ρ t nx w ρ (t.put none b) nx w := by
 have hg : ∀ c k, (t.put none b).get c = some k → t.get c = some k := fun c k hc => by
  (first | rw [Bt.get_put] at hc | rw [Bt.get_put] at hc)
  by_cases e : c = b
  · rw [if_pos e] at hc; cases hc
  · rw [if_neg e] at hc; exact hc
 exact ⟨Rho.le_refl _, ⟨fun c k hc => h.blk c k (hg c k hc), fun c c' k l p q hc hc' hw => h.inj c c' k l p q (hg _ _ hc) (hg _ _ hc') hw, h.new⟩, Fr.refl _ _,
  fun i ⟨c, x, p, hx, hw, hp, e⟩ => .inl ⟨c, x, p, hg _ _ hx, hw, hp, e⟩, fun _ _ h => .inl h, fun c x hx => .inl ⟨x, hg _ _ hx⟩, Nat.le_refl _⟩
theorem nxt_again {ρ : Rho} {t : TB} {nx : Nat} {w : World} (h : HRel ρ t nx w) {p : Pl} (k : Blk) (hl : p.blk < w.heap.size) (hno : ∀ b x q, t.get b = some x → ρ b = some q → q.blk ≠ p.blk)
  (hk : k.rel (ρ.upd nx p) p w) :
  HRel (ρ.upd nx p) (t.put (some k) nx) (Nat.succ nx) w := by
 have hle : ρ.le (ρ.upd nx p) := Rho.le_upd h.new
 refine ⟨fun b x hx => ?_, fun b c x y q q' hb hc hw hq hq' he => ?_, fun b hb => ?_⟩
 · (first | rw [Bt.get_put] at hx | rw [Bt.get_put] at hx)
   by_cases e : b = nx
   · rw [if_pos e] at hx; cases hx
     exact ⟨p, by rw [e]; simp [Rho.upd], hl, hk⟩
   · rw [if_neg e] at hx
     obtain ⟨q, hq, hl', hr⟩ := h.blk b x hx
     exact ⟨q, hle _ _ hq, hl', Blk.rel_keep hle hr rfl⟩
 · (first | rw [Bt.get_put] at hb hc | rw [Bt.get_put] at hb hc)
   by_cases e1 : b = nx
   · by_cases e2 : c = nx
     · omega
     · rw [if_neg e2] at hc
       obtain ⟨r, hr, _, _⟩ := h.blk c y hc
       rw [hle _ _ hr] at hq'; cases hq'
       rw [e1] at hq; simp [Rho.upd] at hq; subst hq
       exact absurd he.symm (hno c y _ hc hr)
   · rw [if_neg e1] at hb
     obtain ⟨r, hr, _, _⟩ := h.blk b x hb
     rw [hle _ _ hr] at hq; cases hq
     by_cases e2 : c = nx
     · rw [e2] at hq'; simp [Rho.upd] at hq'; subst hq'
       exact absurd he (hno b x _ hb hr)
     · rw [if_neg e2] at hc
       obtain ⟨r', hr', _, _⟩ := h.blk c y hc
       rw [hle _ _ hr'] at hq'; cases hq'
       exact h.inj b c x y _ _ hb hc hw hr hr' he
 · show (if b = nx then _ else ρ b) = none
   rw [if_neg (by omega)]
   exact h.new b (by omega)
end Go.Proofs.YtpjohgnhmjceiaaGreatDoor.AX
set_option linter.unusedVariables false
set_option linter.unusedSectionVars false
set_option linter.unusedSimpArgs false
namespace Go.Proofs.YtpjohgnhmjceiaaGreatDoor.AX
variable [Env]
structure TRel (ρ : Rho) (N : Nat) (T : TA) (a : Act) : Prop where
 size : a.tmps.size = N
 defers : a.defers = []
 get : ∀ (i : Nat) (v : AV), T.get i = some v → ∃ cv, a.tmps[i]? = some cv ∧ v.rel ρ cv
theorem enc_of (s : ByteArray) : enc (s.data.toList.map UInt8.toNat) = s := by
 unfold enc
 have : (s.data.toList.map UInt8.toNat).map UInt8.ofNat = s.data.toList := by
  rw [List.map_map]
  conv => rhs; rw [← List.map_id s.data.toList]
  exact List.map_congr_left (fun x _ => by simp)
 rw [this]
theorem mapM_rel {ρ : Rho} {f : Value → Option AV} (hf : ∀ v a, f v = some a → a.rel ρ v) : ∀ (l : List Value) (r : List AV), l.mapM f = some r → rels ρ r l
 | [], r, h => by simp at h; subst h; simp [rels]
 | v :: l, r, h => by
   rw [List.mapM_cons] at h
   simp only [Option.bind_eq_bind, Option.pure_def] at h
   cases hv : f v with
   | none => simp [hv] at h
   | some a =>
     cases hl : l.mapM f with
     | none => simp [hv, hl] at h
     | some b =>
       simp [hv, hl] at h
       subst h
       exact rels_cons.2 ⟨v, l, rfl, hf v a hv, mapM_rel hf l b hl⟩
theorem ofVal_rel {ρ : Rho} : ∀ (n : Nat) (v : Value) (a : AV), ofVal n v = some a → a.rel ρ v
 | 0, v, a, h => by simp [ofVal] at h
 | n + 1, v, a, h => by
   have ih := fun v a => ofVal_rel (ρ := ρ) n v a
   unfold ofVal at h
   split at h
   · cases h; simp [AV.rel]
   · cases h; simp [AV.rel]
   · cases h
     simp only [AV.rel]
     refine ⟨by rw [enc_of], fun x hx => ?_⟩
     obtain ⟨y, _, rfl⟩ := List.mem_map.1 hx
     exact y.toNat_lt
   · cases h; simp [AV.rel]
   · cases h; simp [AV.rel]
   · cases h; simp [AV.rel]
   · cases h; simp [AV.rel]
   · cases h; simp [AV.rel]
   · split at h
     · rename_i f x y hs
       cases h
       simp only [AV.rel]
       exact ⟨x, y, rfl, by rw [rels_nil]; simpa using hs.1, by rw [rels_nil]; simpa using hs.2⟩
     · cases h
   · rename_i cs
     cases hl : cs.toList.mapM (ofVal n) with
     | none => rw [hl] at h; cases h
     | some r => rw [hl] at h; cases h; simp only [AV.rel]; exact ⟨cs, rfl, mapM_rel ih _ _ hl⟩
   · rename_i cs
     cases hl : cs.toList.mapM (ofVal n) with
     | none => rw [hl] at h; cases h
     | some r => rw [hl] at h; cases h; simp only [AV.rel]; exact ⟨cs, rfl, mapM_rel ih _ _ hl⟩
   · rename_i t v
     cases hl : ofVal n v with
     | none => rw [hl] at h; cases h
     | some r => rw [hl] at h; cases h; simp only [AV.rel]; exact ⟨v, rfl, ih _ _ hl⟩
   · cases h
theorem opd_rel {ρ : Rho} {N : Nat} {T : TA} {a : Act} (h : TRel ρ N T a) {x : Operand} {v : AV} (hv : (opd x).ev T = some v) : v.rel ρ (a.eval x) := by
 cases x with
 | tmp t =>
   obtain ⟨cv, h1, h2⟩ := h.get t v hv
   show v.rel ρ (a.tmps.getD t undef)
   simpa [h1] using h2
 | const c =>
   have hv' : (match ofVal 3 c with | some a => Opd.c a | none => Opd.none_).ev T = some v := hv
   cases hc : ofVal 3 c with
   | none => rw [hc] at hv'; cases hv'
   | some b =>
     rw [hc] at hv'
     have e : some b = some v := hv'
     cases e
     exact ofVal_rel 3 c _ hc
 | func f =>
   have e : some (AV.func f [] []) = some v := hv
   cases e
   show AV.rel ρ _ (.func (.func f) #[] #[])
   simp [AV.rel, rels]
 | global g => cases hv
theorem evs_rel {ρ : Rho} {N : Nat} {T : TA} {a : Act} (h : TRel ρ N T a) : ∀ {xs : List Operand} {vs : List AV}, evs (xs.map opd) T = some vs → rels ρ vs (xs.map a.eval)
 | [], vs, hv => by
   have e : some [] = some vs := hv
   cases e; simp [rels]
 | x :: xs, vs, hv => by
   have e : (match (opd x).ev T with
    | some v => (match evs (xs.map opd) T with | some r => some (v :: r) | none => none)
    | none => none) = some vs := hv
   split at e
   · rename_i v h1
     split at e
     · rename_i r h2
       cases e
       exact rels_cons.2 ⟨_, _, rfl, opd_rel h h1, evs_rel h h2⟩
     · cases e
   · cases e
def Sound (P : Program) (o : Oper) (a : Act) (w : World) (ρ : Rho) (t : TB) (nx : Nat) (v : AV) (t' : TB) (nx' : Nat) : Prop :=
 ∃ ρ' w' r cv, (execOp a.eval o).run P w = .ok r w' ∧ (r = .value cv ∨ r = .skip ∧ cv = undef) ∧ Nxt ρ t nx w ρ' t' nx' w' ∧ v.rel ρ' cv
variable {P : Program} {a : Act} {w : World} {ρ : Rho} {N : Nat} {T : TA} {t t' : TB} {nx nx' : Nat} {v : AV}
theorem sound_val {o : Oper} (hh : HRel ρ t nx w) {cv : Value} (hr : (execOp a.eval o).run P w = .ok (.value cv) w) (hv : v.rel ρ cv) : Sound P o a w ρ t nx v t nx :=
 ⟨ρ, w, _, cv, hr, .inl rfl, Nxt.refl hh, hv⟩
theorem retV_ok {x : Option AV} (h : retV x t nx = .ok v t' nx') : x = some v ∧ t' = t ∧ nx' = nx := by
 unfold retV at h
 split at h
 · rw [fInt_eq] at h; cases h; exact ⟨rfl, rfl, rfl⟩
 · rename_i b; cases b <;> (cases h; exact ⟨rfl, rfl, rfl⟩)
 · cases h; exact ⟨rfl, rfl, rfl⟩
 · cases h
theorem run_isAgg {ty : TypeId} {b : Bool} (h : aggOf P ty = some b) : (isAgg ty).run P w = .ok b w := by
 unfold aggOf at h
 cases hu : P.underlying ty with
 | none => rw [hu] at h; cases h
 | some d => cases d <;> (rw [hu] at h; cases h; simp [isAgg, run_underlying hu])
theorem run_size {ty : TypeId} {i : TypeInfo} (h : P.info? ty = some i) : (sizeOf ty).run P w = .ok i.size w := by simp [sizeOf, typeInfo, h]
theorem infOf_some {ty : TypeId} {i : Inf} (h : infOf P ty = some i) : ∃ ti z, P.info? ty = some ti ∧ ti.zero = some z ∧ ofVal 3 z = some i.zero ∧ ti.size = i.size ∧ ti.bytes = i.bytes := by
 unfold infOf at h
 split at h
 · rename_i ti hti
   split at h
   · rename_i z hz
     split at h
     · rename_i b hb; cases h; exact ⟨ti, z, hti, hz, hb, rfl, rfl⟩
     · cases h
   · cases h
 · cases h
theorem s_mov {o : Oper} {x : Operand} (ho : o.op = .move x ∨ o.op = .assign x) (hh : HRel ρ t nx w) (ht : TRel ρ N T a) (h : (IOp.mov (opd x)).run T t nx = .ok v t' nx') : Sound P o a w ρ t nx v t' nx' := by
 have h' : retV ((opd x).ev T) t nx = .ok v t' nx' := h
 obtain ⟨h1, rfl, rfl⟩ := retV_ok h'
 refine sound_val hh (cv := a.eval x) ?_ (opd_rel ht h1)
 rcases ho with ho | ho <;> simp [execOp, ho]
theorem s_pick {o : Oper} {c x y : Operand} (ho : o.op = .pick c x y) (hh : HRel ρ t nx w) (ht : TRel ρ N T a) (h : (IOp.pick (opd c) (opd x) (opd y)).run T t nx = .ok v t' nx') : Sound P o a w ρ t nx v t' nx' := by
 simp only [IOp.run] at h
 split at h
 · rename_i hc
   obtain ⟨h1, rfl, rfl⟩ := retV_ok h
   have hc' := opd_rel ht hc
   simp only [AV.rel] at hc'
   exact sound_val hh (cv := a.eval x) (by simp [execOp, ho, hc', asBool]) (opd_rel ht h1)
 · rename_i hc
   obtain ⟨h1, rfl, rfl⟩ := retV_ok h
   have hc' := opd_rel ht hc
   simp only [AV.rel] at hc'
   exact sound_val hh (cv := a.eval y) (by simp [execOp, ho, hc', asBool]) (opd_rel ht h1)
 · cases h
theorem mk_ok {cs : List AV} {f : Nat → AV} (h : mk cs t nx f = .ok v t' nx') : v = f nx ∧ t' = newRow cs t nx ∧ nx' = Nat.succ nx := by
 unfold mk at h; rw [fNat_eq] at h; cases h; exact ⟨rfl, rfl, rfl⟩
theorem s_alloc {o : Oper} {e : TypeId} {i : Inf} (ho : o.op = .alloc e) (hi : infOf P e = some i) (hh : HRel ρ t nx w) (h : (IOp.alloc i.zero.cells).run T t nx = .ok v t' nx') : Sound P o a w ρ t nx v t' nx' := by
 simp only [IOp.run] at h
 obtain ⟨rfl, rfl, rfl⟩ := mk_ok h
 obtain ⟨ti, z, h1, h2, h3, h4, h5⟩ := infOf_some hi
 refine ⟨_, w.alloc (.cells z.cells e), .value (.pointer (some ⟨w.heap.size, 0, none⟩)), _, ?_, .inl rfl, nxt_row0 hh (rel_cells (ofVal_rel 3 z _ h3)) e, ?_⟩
 · simp [execOp, ho, Instr.alloc, zeroValue, typeInfo, h1, h2, newVar, Go.newRow]
 · simp [AV.rel, Rho.upd]
theorem s_box {o : Oper} {e : TypeId} {x : Operand} (ho : o.op = .box e x) (hh : HRel ρ t nx w) (ht : TRel ρ N T a) (h : (IOp.box (opd x)).run T t nx = .ok v t' nx') : Sound P o a w ρ t nx v t' nx' := by
 simp only [IOp.run] at h
 split at h
 · rename_i u hu
   obtain ⟨rfl, rfl, rfl⟩ := mk_ok h
   refine ⟨_, w.alloc (.cells (a.eval x).cells e), .value (.pointer (some ⟨w.heap.size, 0, none⟩)), _, ?_, .inl rfl, nxt_row0 hh (rel_cells (opd_rel ht hu)) e, ?_⟩
   · simp [execOp, ho, Instr.box, newVar, Go.newRow]
   · simp [AV.rel, Rho.upd]
 · cases h
theorem add_none (b o n : Nat) : (⟨b, o, none⟩ : Addr).add n = ⟨b, o + n, none⟩ := by
 unfold Addr.add; split <;> simp_all
theorem get_cells {b : Nat} {c : TA} {n : Nat} {wr : Bool} (hh : HRel ρ t nx w) (hb : t.get b = some (.cells c n wr)) : ∃ p, ρ b = some p ∧ ∀ (i : Nat) (v : AV), c.get i = some v → ∃ cv, w.cell? ⟨p.blk, p.d + i, none⟩ = some cv ∧ v.rel ρ cv := by
 obtain ⟨p, hp, _, hk⟩ := hh.blk b _ hb
 exact ⟨p, hp, hk.2.1⟩
theorem get_many {b : Nat} {c : TA} {n m o : Nat} {wr : Bool} {l : List AV} {p : Pl} (hh : HRel ρ t nx w) (hb : t.get b = some (.cells c n wr)) (hg : gets c m o = some l) (hp : ρ b = some p) :
  ∃ vs : List Value, rels ρ l vs ∧ vs.length = m ∧ ∀ (j : Nat) u, vs[j]? = some u → w.cell? ⟨p.blk, p.d + o + j, none⟩ = some u := by
 obtain ⟨q, hq, hk⟩ := get_cells hh hb
 rw [hp] at hq; cases hq
 obtain ⟨h1, h2⟩ := gets_eq hg
 have h3 : ∀ j, j < l.length → (w.cell? ⟨p.blk, p.d + o + j, none⟩).isSome = true := fun j hj => by
  obtain ⟨cv, k1, _⟩ := hk (o + j) l[j] (h2 j _ (List.getElem?_eq_getElem hj))
  rw [show p.d + o + j = p.d + (o + j) by omega, k1]; rfl
 refine ⟨(List.range l.length).map (fun j => (w.cell? ⟨p.blk, p.d + o + j, none⟩).getD undef), rels_of_get (by simp) (fun i a u ha hu => ?_), by simp [h1], fun j u hu => ?_⟩
 · have hi : i < l.length := (List.getElem?_eq_some_iff.1 ha).1
   simp [hi] at hu
   obtain ⟨cv, k1, k2⟩ := hk (o + i) a (h2 i a ha)
   rw [show p.d + o + i = p.d + (o + i) by omega, k1] at hu
   simp at hu; subst hu; exact k2
 · have hj : j < l.length := by
    have := (List.getElem?_eq_some_iff.1 hu).1
    simpa using this
   simp [hj] at hu
   obtain ⟨x, hx⟩ := Option.isSome_iff_exists.1 (h3 j hj)
   rw [hx] at hu ⊢
   simpa using hu
theorem run_loadMany {b : Nat} {c : TA} {n m o : Nat} {wr : Bool} {l : List AV} {p : Pl} (hh : HRel ρ t nx w) (hb : t.get b = some (.cells c n wr)) (hg : gets c m o = some l) (hp : ρ b = some p) :
  ∃ vs : List Value, rels ρ l vs ∧ vs.length = m ∧ (loadCells ⟨p.blk, p.d + o, none⟩ m).run P w = .ok vs.toArray w := by
 obtain ⟨vs, h1, h2, h3⟩ := get_many hh hb hg hp
 refine ⟨vs, h1, h2, ?_⟩
 rw [← h2]
 exact run_loadCells_list w _ vs (fun j u hu => by rw [add_none]; exact h3 j u hu)
theorem rel_ptr {b o : Nat} {v : Value} (h : (AV.ptr b o).rel ρ v) : ∃ p, ρ b = some p ∧ v = .pointer (some ⟨p.blk, p.d + o, none⟩) := by simpa [AV.rel] using h
theorem rel_agg {l : List AV} {vs : List Value} (h : rels ρ l vs) : (AV.agg l).rel ρ (.agg vs.toArray) := by
 simp only [AV.rel]; exact ⟨_, rfl, by simpa using h⟩
theorem rel_tup {l : List AV} {vs : List Value} (h : rels ρ l vs) : (AV.tup l).rel ρ (.tuple vs.toArray) := by
 simp only [AV.rel]; exact ⟨_, rfl, by simpa using h⟩
theorem s_load {o : Oper} {ty : TypeId} {x : Operand} (ho : o.op = .load ty x) (hag : aggOf P ty = some false) (hh : HRel ρ t nx w) (ht : TRel ρ N T a) (h : (IOp.load (opd x)).run T t nx = .ok v t' nx') : Sound P o a w ρ t nx v t' nx' := by
 simp only [IOp.run] at h
 split at h
 · rename_i b q hx
   split at h
   · rename_i c n wr hb
     split at h
     · rename_i u hu
       cases h
       obtain ⟨p, hp, hk⟩ := get_cells hh hb
       obtain ⟨p', hp', hv⟩ := rel_ptr (opd_rel ht hx)
       rw [hp] at hp'; cases hp'
       obtain ⟨cv, k1, k2⟩ := hk _ _ hu
       exact sound_val hh (cv := cv) (by simp [execOp, ho, Instr.loadAt, hv, Instr.sureAddr, loadVar, run_isAgg hag, run_load, k1]) k2
     · cases h
   · cases h
 · cases h
theorem s_loadA {o : Oper} {ty : TypeId} {ti : TypeInfo} {x : Operand} (ho : o.op = .load ty x) (hag : aggOf P ty = some true) (hi : P.info? ty = some ti) (hh : HRel ρ t nx w) (ht : TRel ρ N T a) (h : (IOp.loadA ti.size (opd x)).run T t nx = .ok v t' nx') : Sound P o a w ρ t nx v t' nx' := by
 simp only [IOp.run] at h
 split at h
 · rename_i b q hx
   split at h
   · rename_i c n wr hb
     split at h
     · rename_i l hl
       cases h
       obtain ⟨p', hp', hv⟩ := rel_ptr (opd_rel ht hx)
       obtain ⟨vs, k1, k2, k3⟩ := run_loadMany (P := P) hh hb hl hp'
       exact sound_val hh (cv := .agg vs.toArray) (by simp [execOp, ho, Instr.loadAt, hv, Instr.sureAddr, loadVar, run_isAgg hag, run_size hi, k3]) (rel_agg k1)
     · cases h
   · cases h
 · cases h
theorem s_store {o : Oper} {ty : TypeId} {ti : TypeInfo} {x y : Operand} (ho : o.op = .store ty x y) (hi : P.info? ty = some ti) (hh : HRel ρ t nx w) (ht : TRel ρ N T a) (h : (IOp.store ti.size (opd x) (opd y)).run T t nx = .ok v t' nx') : Sound P o a w ρ t nx v t' nx' := by
 simp only [IOp.run] at h
 split at h
 · rename_i b q u hx hy
   split at h
   · rename_i hn
     split at h
     · rename_i t2 hs
       cases h
       obtain ⟨p', hp', hv⟩ := rel_ptr (opd_rel ht hx)
       have hr := rel_cells (opd_rel ht hy)
       obtain ⟨p, hp, k1, k2, k3, k4⟩ := nxt_store hh hr hs
       obtain rfl : p = p' := Option.some.inj (hp.symm.trans hp')
       have hlen : (a.eval y).cells.size = ti.size := by
        have := rels_length hr
        rw [lLen_eq, Nat.beq_eq] at hn
        simp at this
        omega
       have hst := run_storeCells_cells (P := P) p.blk (p.d + q) (a.eval y).cells.toList 0 w (by simpa using k1) (by simpa using k2) k3
       exact ⟨ρ, _, .skip, undef, by simp [execOp, ho, Instr.storeAt, hv, Instr.sureAddr, storeVar, run_size hi, hlen, hst], .inr ⟨rfl, rfl⟩, k4, by simp [AV.undef, AV.rel, undef, rels]⟩
     · cases h
   · cases h
 · cases h
theorem s_nilck {o : Oper} {x : Operand} (ho : o.op = .nilCheck x) (hh : HRel ρ t nx w) (ht : TRel ρ N T a) (h : (IOp.nilck (opd x)).run T t nx = .ok v t' nx') : Sound P o a w ρ t nx v t' nx' := by
 simp only [IOp.run] at h
 split at h
 · cases h
 · cases h
 · cases h
 · cases h
 · rename_i u n1 n2 n3 n4 hx
   cases h
   have hr := opd_rel ht hx
   refine sound_val hh (cv := a.eval x) ?_ hr
   have he : execOp a.eval o = pure (.value (a.eval x)) := by
    cases v <;> simp only [AV.rel] at hr
    all_goals first
     | (exact (n1 rfl).elim) | (exact (n2 rfl).elim) | (exact (n3 rfl).elim) | (exact (n4 _ _ rfl).elim)
     | (simp [execOp, ho, hr]; done)
     | (obtain ⟨e, _⟩ := hr; simp [execOp, ho, e]; done)
     | (obtain ⟨_, _, e⟩ := hr; simp [execOp, ho, e]; done)
     | (obtain ⟨_, _, _, _, _, _, _, _, e⟩ := hr; simp [execOp, ho, e]; done)
     | (obtain ⟨_, _, e, _⟩ := hr; simp [execOp, ho, e]; done)
     | (obtain ⟨_, e, _⟩ := hr; simp [execOp, ho, e]; done)
   rw [he]; rfl
 · cases h
end Go.Proofs.YtpjohgnhmjceiaaGreatDoor.AX
set_option linter.unusedVariables false
set_option linter.unusedSectionVars false
set_option linter.unusedSimpArgs false
namespace Go.Proofs.YtpjohgnhmjceiaaGreatDoor.AX
variable [Env]
theorem iEq_eq (a b : Int) : iEq a b = decide (a = b) := by
 cases a <;> cases b <;> rw [Bool.eq_iff_iff] <;> simp [iEq, Nat.beq_eq] <;> omega
theorem iLt_eq (a b : Int) : iLt a b = decide (a < b) := by
 cases a <;> cases b <;> simp only [iLt] <;> rw [Bool.eq_iff_iff] <;> simp [Nat.ble_eq] <;> omega
theorem kN_eq {k k' : IntKind} (h : Nat.beq (kN k) (kN k') = true) : k = k' := by
 rw [Nat.beq_eq] at h; cases k <;> cases k' <;> simp [kN] at h ⊢
theorem kMax_lt (k : IntKind) : kMax k < 2 ^ k.bits := by cases k <;> decide
theorem kMax_half {k : IntKind} (h : k.signed = true) : kMax k < 2 ^ (k.bits - 1) := by cases k <;> first | decide | cases h
theorem wrap_ofNat {k : IntKind} {m : Nat} (h : m ≤ kMax k) : k.wrap (Int.ofNat m) = Int.ofNat m := by
 have h1 : ((m : Int) % (2 ^ k.bits : Int)) = (m : Int) := by
  refine Int.emod_eq_of_lt (Int.natCast_nonneg _) ?_
  have := Nat.lt_of_le_of_lt h (kMax_lt k)
  have h2 : ((m : Nat) : Int) < ((2 ^ k.bits : Nat) : Int) := Int.ofNat_lt.2 this
  simpa using h2
 show k.wrap (m : Int) = (m : Int)
 unfold IntKind.wrap
 simp only [h1]
 rw [if_neg]
 intro hh
 simp only [Bool.and_eq_true, decide_eq_true_eq] at hh
 have := Nat.lt_of_le_of_lt h (kMax_half hh.1)
 have h2 : ((m : Nat) : Int) < ((2 ^ (k.bits - 1) : Nat) : Int) := Int.ofNat_lt.2 this
 have h3 := hh.2
 simp at h2
 omega
theorem wrap_negSucc {k : IntKind} {m : Nat} (h : m ≤ kMax k) (hs : k.signed = true) : k.wrap (Int.negSucc m) = Int.negSucc m := by
 obtain ⟨H, h1, h2, h3⟩ : ∃ H : Nat, ((2 : Int) ^ (k.bits - 1)) = (H : Int) ∧ ((2 : Int) ^ k.bits) = 2 * (H : Int) ∧ m + 1 ≤ H := by
  cases k <;> simp [IntKind.signed] at hs <;> simp only [kMax] at h
  · exact ⟨128, rfl, rfl, by omega⟩
  · exact ⟨32768, rfl, rfl, by omega⟩
  · exact ⟨2147483648, rfl, rfl, by omega⟩
  · exact ⟨9223372036854775808, rfl, rfl, by omega⟩
 have e : (Int.negSucc m) % (2 * (H : Int)) = 2 * (H : Int) - ((m : Int) + 1) := by
  have e1 : (Int.negSucc m) % (2 * (H : Int)) = (Int.negSucc m + 2 * (H : Int)) % (2 * (H : Int)) := by rw [Int.add_emod_right]
  rw [e1, Int.emod_eq_of_lt (by rw [Int.negSucc_eq]; omega) (by rw [Int.negSucc_eq]; omega), Int.negSucc_eq]
  omega
 unfold IntKind.wrap
 simp only [h1, h2, e]
 rw [if_pos (by simp only [hs, Bool.true_and, decide_eq_true_eq]; omega), Int.negSucc_eq]
 omega
theorem wrapF_eq (k : IntKind) (n : Int) : wrapF k n = k.wrap n := by
 cases n with
 | ofNat m =>
   simp only [wrapF]
   split
   · rename_i h; rw [wrap_ofNat (Nat.le_of_ble_eq_true h)]
   · rfl
 | negSucc m =>
   simp only [wrapF]
   split
   · rename_i hs
     split
     · rename_i h; rw [wrap_negSucc (Nat.le_of_ble_eq_true h) hs]
     · rfl
   · rfl
theorem and_fast {k : IntKind} {m n : Nat} (hm : m ≤ kMax k) (hn : n ≤ kMax k) : k.wrap ((BitVec.ofInt k.bits (m : Int) &&& BitVec.ofInt k.bits (n : Int)).toNat : Int) = ((m &&& n : Nat) : Int) := by
 have h1 : (BitVec.ofInt k.bits (m : Int)).toNat = m := by
  rw [BitVec.ofInt_natCast, BitVec.toNat_ofNat, Nat.mod_eq_of_lt (Nat.lt_of_le_of_lt hm (kMax_lt k))]
 have h2 : (BitVec.ofInt k.bits (n : Int)).toNat = n := by
  rw [BitVec.ofInt_natCast, BitVec.toNat_ofNat, Nat.mod_eq_of_lt (Nat.lt_of_le_of_lt hn (kMax_lt k))]
 rw [BitVec.toNat_and, h1, h2]
 exact wrap_ofNat (Nat.le_trans Nat.and_le_left hm)
theorem kMax_pow (k : IntKind) : ∃ e, kMax k + 1 = 2 ^ e := by
 cases k
 · exact ⟨7, rfl⟩
 · exact ⟨15, rfl⟩
 · exact ⟨31, rfl⟩
 · exact ⟨63, rfl⟩
 · exact ⟨8, rfl⟩
 · exact ⟨16, rfl⟩
 · exact ⟨32, rfl⟩
 · exact ⟨64, rfl⟩
theorem or_fast {k : IntKind} {m n : Nat} (hm : m ≤ kMax k) (hn : n ≤ kMax k) : k.wrap ((BitVec.ofInt k.bits (m : Int) ||| BitVec.ofInt k.bits (n : Int)).toNat : Int) = ((m ||| n : Nat) : Int) := by
 have h1 : (BitVec.ofInt k.bits (m : Int)).toNat = m := by
  rw [BitVec.ofInt_natCast, BitVec.toNat_ofNat, Nat.mod_eq_of_lt (Nat.lt_of_le_of_lt hm (kMax_lt k))]
 have h2 : (BitVec.ofInt k.bits (n : Int)).toNat = n := by
  rw [BitVec.ofInt_natCast, BitVec.toNat_ofNat, Nat.mod_eq_of_lt (Nat.lt_of_le_of_lt hn (kMax_lt k))]
 rw [BitVec.toNat_or, h1, h2]
 obtain ⟨e, he⟩ := kMax_pow k
 have := Nat.or_lt_two_pow (x := m) (y := n) (n := e) (by omega) (by omega)
 exact wrap_ofNat (by omega)
theorem bitsG_run {op : BinOp} {k : IntKind} {x y r : Int} (h : bitsG op k x y = some r) (w : World) (P : Program) : (Op.intBits op k x y).run P w = .ok (.int k r) w := by
 cases op <;> simp [bitsG] at h <;> subst h <;> simp [Op.intBits]
theorem bitsF_run {op : BinOp} {k : IntKind} {x y r : Int} (h : bitsF op k x y = some r) (w : World) (P : Program) : (Op.intBits op k x y).run P w = .ok (.int k r) w := by
 unfold bitsF at h
 split at h
 · rename_i m n
   split at h
   · rename_i hm hn
     have hm' := Nat.le_of_ble_eq_true hm
     have hn' := Nat.le_of_ble_eq_true hn
     split at h
     · cases h
       have := and_fast hm' hn'
       simp only [Op.intBits]
       show (Sem.pure _ : Sem Value).run P w = _
       simp only [Sem.run]
       congr 2
     · cases h
       have := or_fast hm' hn'
       simp only [Op.intBits]
       show (Sem.pure _ : Sem Value).run P w = _
       simp only [Sem.run]
       congr 2
     · exact bitsG_run h w P
   · exact bitsG_run h w P
 · exact bitsG_run h w P
theorem shl_run {k k' : IntKind} {x y r : Int} (h : shlF k x y = some r) (w : World) (P : Program) : (Op.shift .shl k x k' y).run P w = .ok (.int k r) w := by
 unfold shlF at h
 split at h
 · rename_i m n
   cases h
   rw [wrapF_eq]
   have h0 : ¬ (Int.ofNat n : Int) < 0 := by simp
   simp only [Op.shift, if_neg h0]
   show Result.ok _ _ = _
   congr 3
 · rename_i n _
   cases h
   have h0 : ¬ (Int.ofNat n : Int) < 0 := by simp
   simp only [Op.shift, if_neg h0]
   show Result.ok _ _ = _
   congr 3
 · cases h
theorem shr_run {k k' : IntKind} {x y r : Int} (h : shrF k x y = some r) (w : World) (P : Program) : (Op.shift .shr k x k' y).run P w = .ok (.int k r) w := by
 unfold shrF at h
 split at h
 · rename_i m n
   cases h
   have h0 : ¬ (Int.ofNat n : Int) < 0 := by simp
   simp only [Op.shift, if_neg h0]
   show Result.ok _ _ = _
   congr 2
   show (Int.ofNat m).fdiv (2 ^ min n k.bits) = Int.ofNat (m / 2 ^ (min n k.bits))
   rw [show ((2 : Int) ^ min n k.bits) = ((2 ^ min n k.bits : Nat) : Int) by simp]
   rw [Int.fdiv_eq_ediv_of_nonneg _ (Int.natCast_nonneg _)]
   rfl
 · rename_i n _
   cases h
   have h0 : ¬ (Int.ofNat n : Int) < 0 := by simp
   simp only [Op.shift, if_neg h0]
   show Result.ok _ _ = _
   congr 2
 · cases h
theorem intOp_run {op : BinOp} {k : IntKind} {x y : Int} {r : AV} {ty : TypeId} (h : intOp op k x y = some r) (hl : op ≠ .shl) (hr : op ≠ .shr) (w : World) (P : Program) (ρ : Rho) :
  ∃ cv, (binOp op ty (.int k x) (.int k y)).run P w = .ok cv w ∧ r.rel ρ cv := by
 cases op <;> simp only [intOp, Option.map_eq_some_iff] at h <;> (try (exact absurd rfl hl)) <;> (try (exact absurd rfl hr))
 case add => cases h; exact ⟨_, by simp [binOp, Op.intArith]; rfl, by simp [AV.rel, wrapF_eq]⟩
 case sub => cases h; exact ⟨_, by simp [binOp, Op.intArith]; rfl, by simp [AV.rel, wrapF_eq]; rfl⟩
 case mul => cases h; exact ⟨_, by simp [binOp, Op.intArith]; rfl, by simp [AV.rel, wrapF_eq]⟩
 case quo =>
  split at h
  · cases h
  · rename_i h0
    cases h
    rw [iEq_eq] at h0
    have h0' : ¬ y = 0 := by simpa using h0
    exact ⟨_, by simp [binOp, Op.intDiv, h0']; rfl, by simp [AV.rel, wrapF_eq]⟩
 case rem =>
  split at h
  · cases h
  · rename_i h0
    cases h
    rw [iEq_eq] at h0
    have h0' : ¬ y = 0 := by simpa using h0
    exact ⟨_, by simp [binOp, Op.intDiv, h0']; rfl, by simp [AV.rel]⟩
 case and => obtain ⟨n, hn, rfl⟩ := h; exact ⟨_, by simp [binOp, bitsF_run hn w P]; rfl, by simp [AV.rel]⟩
 case or => obtain ⟨n, hn, rfl⟩ := h; exact ⟨_, by simp [binOp, bitsF_run hn w P]; rfl, by simp [AV.rel]⟩
 case xor => obtain ⟨n, hn, rfl⟩ := h; exact ⟨_, by simp [binOp, bitsF_run hn w P]; rfl, by simp [AV.rel]⟩
 case andNot => obtain ⟨n, hn, rfl⟩ := h; exact ⟨_, by simp [binOp, bitsF_run hn w P]; rfl, by simp [AV.rel]⟩
 case eql => cases h; exact ⟨_, by simp [binOp, Op.intCmp]; rfl, by simp [AV.rel, iEq_eq]; rw [Bool.eq_iff_iff]; simp⟩
 case neq => cases h; exact ⟨_, by simp [binOp, Op.intCmp]; rfl, by simp [AV.rel, iEq_eq]; rw [Bool.eq_iff_iff]; simp⟩
 case lss => cases h; exact ⟨_, by simp [binOp, Op.intCmp]; rfl, by simp [AV.rel, iLt_eq]⟩
 case leq => cases h; exact ⟨_, by simp [binOp, Op.intCmp]; rfl, by simp [AV.rel, iLt_eq]; rw [Bool.eq_iff_iff]; simp⟩
 case gtr => cases h; exact ⟨_, by simp [binOp, Op.intCmp]; rfl, by simp [AV.rel, iLt_eq]⟩
 case geq => cases h; exact ⟨_, by simp [binOp, Op.intCmp]; rfl, by simp [AV.rel, iLt_eq]; rw [Bool.eq_iff_iff]; simp⟩
theorem opqOp_run {op : BinOp} {x y : AV} {u z : Value} {r : AV} {ty : TypeId} {ρ : Rho} (hx : x.rel ρ u) (hy : y.rel ρ z) (h : opqOp op x y = some r) (w : World) (P : Program) :
  ∃ n c, u = .int .i64 n ∧ z = .int .i64 c ∧ ∃ cv, (binOp op ty (.int .i64 n) (.int .i64 c)).run P w = .ok cv w ∧ r.rel ρ cv := by
 unfold opqOp at h
 split at h
 · rename_i b lo hi c
   simp only [AV.rel, Fact.holds] at hx hy
   obtain ⟨_, _, n, rfl, h1, h2⟩ := hx
   subst hy
   refine ⟨n, c, rfl, rfl, ?_⟩
   split at h
   all_goals first
    | (cases h; done)
    | (split at h
       all_goals first
        | (cases h; done)
        | (rename_i e1
           rw [iLt_eq] at e1
           simp at e1
           cases h
           refine ⟨_, by simp [binOp, Op.intCmp]; rfl, ?_⟩
           simp only [AV.rel]
           congr 1
           simp
           omega)
        | (rename_i e1 e2
           rw [iLt_eq] at e1 e2
           simp at e1 e2
           cases h
           refine ⟨_, by simp [binOp, Op.intCmp]; rfl, ?_⟩
           simp only [AV.rel]
           congr 1
           simp
           omega)
        | (rename_i e1
           simp only [iLt_eq] at e1
           simp at e1
           cases h
           refine ⟨_, by simp [binOp, Op.intCmp]; rfl, ?_⟩
           simp only [AV.rel]
           congr 1
           simp
           omega))
 · rename_i b m q c
   simp only [AV.rel, Fact.holds] at hx hy
   obtain ⟨_, _, n, rfl, h1⟩ := hx
   subst hy
   refine ⟨n, c, rfl, rfl, ?_⟩
   split at h
   · split at h
     · rename_i hm
       rw [iEq_eq] at hm
       simp at hm
       subst hm
       cases h
       exact ⟨.int .i64 q, by simp [binOp, bitsG_run h1 w P], by simp [AV.rel]⟩
     · cases h
   · cases h
 · cases h
theorem enc_data (s : List Nat) : (enc s).data.toList = s.map UInt8.ofNat := rfl
theorem enc_size (s : List Nat) : (enc s).size = s.length := by show (s.map UInt8.ofNat).toArray.size = _; simp
theorem ofNat_inj {x y : Nat} (hx : x < 256) (hy : y < 256) (h : UInt8.ofNat x = UInt8.ofNat y) : x = y := by
 have := congrArg UInt8.toNat h
 simp at this; omega
theorem enc_inj : ∀ {a b : List Nat}, (∀ x ∈ a, x < 256) → (∀ x ∈ b, x < 256) → a.map UInt8.ofNat = b.map UInt8.ofNat → a = b
 | [], [], _, _, _ => rfl
 | [], _ :: _, _, _, h => by simp at h
 | _ :: _, [], _, _, h => by simp at h
 | x :: a, y :: b, ha, hb, h => by
   simp only [List.map_cons, List.cons.injEq] at h
   rw [ofNat_inj (ha x (by simp)) (hb y (by simp)) h.1, enc_inj (fun z hz => ha z (by simp [hz])) (fun z hz => hb z (by simp [hz])) h.2]
theorem u8_lt {x y : Nat} (hx : x < 256) (hy : y < 256) : (UInt8.ofNat x < UInt8.ofNat y) ↔ x < y := by
 rw [UInt8.lt_iff_toNat_lt]; simp; omega
theorem sLt_eq : ∀ {a b : List Nat}, (∀ x ∈ a, x < 256) → (∀ x ∈ b, x < 256) → sLt a b = Op.bytesLess (a.map UInt8.ofNat) (b.map UInt8.ofNat)
 | [], [], _, _ => rfl
 | [], _ :: _, _, _ => rfl
 | _ :: _, [], _, _ => rfl
 | x :: a, y :: b, ha, hb => by
   have hx := ha x (by simp)
   have hy := hb y (by simp)
   have ih := sLt_eq (fun z hz => ha z (List.mem_cons_of_mem _ hz)) (fun z hz => hb z (List.mem_cons_of_mem _ hz))
   show @Bool.rec (fun _ => Bool) (@Bool.rec (fun _ => Bool) false (sLt a b) (Nat.beq x y)) true (Nat.ble (Nat.succ x) y) = (decide (UInt8.ofNat x < UInt8.ofNat y) || (UInt8.ofNat x == UInt8.ofNat y && Op.bytesLess (a.map UInt8.ofNat) (b.map UInt8.ofNat)))
   rw [brec, brec, ih]
   by_cases h1 : x < y
   · rw [if_pos (by rw [Nat.ble_eq]; exact h1)]
     simp [(u8_lt hx hy).2 h1]
   · rw [if_neg (fun h => h1 (by rw [Nat.ble_eq] at h; exact h))]
     have h2 : ¬ UInt8.ofNat x < UInt8.ofNat y := fun h => h1 ((u8_lt hx hy).1 h)
     by_cases h3 : x = y
     · subst h3; simp [Nat.beq_eq]
     · rw [if_neg (by simpa [Nat.beq_eq] using h3)]
       have h4 : ¬ UInt8.ofNat x = UInt8.ofNat y := fun h => h3 (ofNat_inj hx hy h)
       simp [h2, h4]
theorem enc_app (a b : List Nat) : enc a ++ enc b = enc (a ++ b) := by
 have h : (enc a ++ enc b).data = (enc (a ++ b)).data := by
  rw [ByteArray.data_append]
  show (a.map UInt8.ofNat).toArray ++ (b.map UInt8.ofNat).toArray = ((a ++ b).map UInt8.ofNat).toArray
  simp
 exact congrArg ByteArray.mk h
theorem binOp_str (op : BinOp) (ty : TypeId) (x y : ByteArray) : binOp op ty (.string x) (.string y) = Op.stringOp op x y := by cases op <;> rfl
theorem strOp_run {op : BinOp} {x y : List Nat} {r : AV} {ty : TypeId} (hx : ∀ z ∈ x, z < 256) (hy : ∀ z ∈ y, z < 256) (h : strOp op x y = some r) (w : World) (P : Program) (ρ : Rho) :
  ∃ cv, (binOp op ty (.string (enc x)) (.string (enc y))).run P w = .ok cv w ∧ r.rel ρ cv := by
 have heq : ((enc x).toList == (enc y).toList) = sEq x y := by
  rw [ByteArray.toList_eq, ByteArray.toList_eq, enc_data, enc_data, sEq_eq, Bool.eq_iff_iff]
  simp only [beq_iff_eq, decide_eq_true_eq]
  exact ⟨fun h => enc_inj hx hy h, fun h => by rw [h]⟩
 have hlt : Op.bytesLess (enc x).toList (enc y).toList = sLt x y := by
  rw [ByteArray.toList_eq, ByteArray.toList_eq, enc_data, enc_data, sLt_eq hx hy]
 cases op <;> simp only [strOp] at h <;> (try (cases h; done))
 case add =>
  split at h
  · rename_i hl
    rw [lApp_eq] at h; cases h
    have hl' := Nat.le_of_ble_eq_true hl
    rw [lLen_eq, lLen_eq] at hl'
    have hl2 : x.length + y.length ≤ 1073741824 := hl'
    have hm : ¬ (((enc x).size + (enc y).size : Nat) : Int) > IntKind.i64.max := by
     rw [enc_size, enc_size]; simp [IntKind.max, IntKind.signed, IntKind.bits]; omega
    have hrel : (AV.str (x ++ y)).rel ρ (.string (enc (x ++ y))) := by
     rw [AV.rel]
     exact And.intro rfl (fun z hz => (List.mem_append.1 hz).elim (hx z) (hy z))
    refine ⟨.string (enc (x ++ y)), ?_, hrel⟩
    rw [binOp_str]
    simp only [Op.stringOp, if_neg hm, enc_app]
    rfl
  · cases h
 all_goals
  cases h
  refine ⟨_, ?_, by simp only [AV.rel]; rfl⟩
  rw [binOp_str]
  simp only [Op.stringOp, heq, hlt]
  rfl
end Go.Proofs.YtpjohgnhmjceiaaGreatDoor.AX
set_option linter.unusedVariables false
set_option linter.unusedSectionVars false
set_option linter.unusedSimpArgs false
namespace Go.Proofs.YtpjohgnhmjceiaaGreatDoor.AX
variable [Env]
variable {P : Program} {a : Act} {w : World} {ρ : Rho} {N : Nat} {T : TA} {t t' : TB} {nx nx' : Nat} {v : AV}
theorem rel_int {k : IntKind} {n : Int} {v : Value} (h : (AV.int k n).rel ρ v) : v = .int k n := by simpa [AV.rel] using h
theorem rel_bool {b : Bool} {v : Value} (h : (AV.bool b).rel ρ v) : v = .bool b := by simpa [AV.rel] using h
theorem rel_str {s : List Nat} {v : Value} (h : (AV.str s).rel ρ v) : v = .string (enc s) ∧ ∀ x ∈ s, x < 256 := by simpa [AV.rel] using h
theorem rel_slice {b o n c sz : Nat} {ex : Bool} {v : Value} (h : (AV.slice b o n c sz ex).rel ρ v) : ∃ p c' off, ρ b = some p ∧ c ≤ c' ∧ n ≤ c' ∧ (ex = true → c' = c) ∧ (0 < c' → off = p.d + o ∧ p.d + o + c' * sz ≤ p.ext) ∧ v = .slice (some ⟨p.blk, off, none⟩) n c' := by simpa [AV.rel] using h
theorem rel_nslice {v : Value} (h : AV.nslice.rel ρ v) : v = .slice none 0 0 := by simpa [AV.rel] using h
theorem rel_map {b : Nat} {v : Value} (h : (AV.map b).rel ρ v) : ∃ p, ρ b = some p ∧ v = .map (some p.blk) := by simpa [AV.rel] using h
theorem rel_nmap {v : Value} (h : AV.nmap.rel ρ v) : v = .map none := by simpa [AV.rel] using h
theorem eqGuard_int {op : BinOp} {ty : TypeId} {x y : Operand} {k k' : IntKind} {m n : Int} : (eqGuard op ty x y (.int k m) (.int k' n)).run P w = .ok () w := by
 cases op <;> simp [eqGuard]
theorem eqGuard_str {op : BinOp} {ty : TypeId} {x y : Operand} {m n : ByteArray} : (eqGuard op ty x y (.string m) (.string n)).run P w = .ok () w := by
 cases op <;> simp [eqGuard]
theorem s_bin {o : Oper} {op : BinOp} {ty tz : TypeId} {x y : Operand} (ho : o.op = .binOp op ty x y tz) (hh : HRel ρ t nx w) (ht : TRel ρ N T a) (h : (IOp.bin op (opd x) (opd y)).run T t nx = .ok v t' nx') : Sound P o a w ρ t nx v t' nx' := by
 simp only [IOp.run] at h
 split at h
 · rename_i k m k' n hx hy
   have ex := rel_int (opd_rel ht hx)
   have ey := rel_int (opd_rel ht hy)
   split at h
   · split at h
     · rename_i r hr
       rw [fInt_eq] at h; cases h
       refine sound_val hh (cv := .int k r) ?_ (by simp [AV.rel])
       simp only [execOp, ho, ex, ey, Sem.run_bind, eqGuard_int, Result.andThen_ok]
       show ((Op.shift .shl k m k' n).run P w).andThen _ = _
       rw [shl_run hr]; rfl
     · cases h
   · split at h
     · rename_i r hr
       rw [fInt_eq] at h; cases h
       refine sound_val hh (cv := .int k r) ?_ (by simp [AV.rel])
       simp only [execOp, ho, ex, ey, Sem.run_bind, eqGuard_int, Result.andThen_ok]
       show ((Op.shift .shr k m k' n).run P w).andThen _ = _
       rw [shr_run hr]; rfl
     · cases h
   · rename_i n1 n2
     split at h
     · rename_i hk
       obtain rfl := kN_eq hk
       obtain ⟨h1, rfl, rfl⟩ := retV_ok h
       obtain ⟨cv, h2, h3⟩ := intOp_run (ty := ty) h1 n1 n2 w P ρ
       refine sound_val hh (cv := cv) ?_ h3
       simp only [execOp, ho, ex, ey, Sem.run_bind, eqGuard_int, Result.andThen_ok, h2]
       rfl
     · cases h
 · rename_i s u hx hy
   obtain ⟨ex, bx⟩ := rel_str (opd_rel ht hx)
   obtain ⟨ey, bY⟩ := rel_str (opd_rel ht hy)
   obtain ⟨h1, rfl, rfl⟩ := retV_ok h
   obtain ⟨cv, h2, h3⟩ := strOp_run (ty := ty) bx bY h1 w P ρ
   refine sound_val hh (cv := cv) ?_ h3
   simp only [execOp, ho, ex, ey, Sem.run_bind, eqGuard_str, Result.andThen_ok, h2]
   rfl
 · rename_i X Y _ _ hx hy
   obtain ⟨h1, rfl, rfl⟩ := retV_ok h
   obtain ⟨n, c, ex, ey, cv, h2, h3⟩ := opqOp_run (ty := ty) (opd_rel ht hx) (opd_rel ht hy) h1 w P
   refine sound_val hh (cv := cv) ?_ h3
   simp only [execOp, ho, ex, ey, Sem.run_bind, eqGuard_int, Result.andThen_ok, h2]
   rfl
 · cases h
theorem s_not {o : Oper} {ty : TypeId} {x : Operand} (ho : o.op = .unOp .not ty x) (hh : HRel ρ t nx w) (ht : TRel ρ N T a) (h : (IOp.not (opd x)).run T t nx = .ok v t' nx') : Sound P o a w ρ t nx v t' nx' := by
 simp only [IOp.run] at h
 split at h
 · rename_i hx
   cases h
   exact sound_val hh (cv := .bool false) (by simp [execOp, ho, rel_bool (opd_rel ht hx), Op.unary]) (by simp [AV.rel])
 · rename_i hx
   cases h
   exact sound_val hh (cv := .bool true) (by simp [execOp, ho, rel_bool (opd_rel ht hx), Op.unary]) (by simp [AV.rel])
 · cases h
theorem s_neg {o : Oper} {ty : TypeId} {x : Operand} (ho : o.op = .unOp .neg ty x) (hh : HRel ρ t nx w) (ht : TRel ρ N T a) (h : (IOp.neg (opd x)).run T t nx = .ok v t' nx') : Sound P o a w ρ t nx v t' nx' := by
 simp only [IOp.run] at h
 split at h
 · rename_i k n hx
   obtain ⟨h1, rfl, rfl⟩ := retV_ok h
   cases h1
   exact sound_val hh (cv := .int k (k.wrap (0 - n))) (by simp [execOp, ho, rel_int (opd_rel ht hx), Op.unary, Op.intArith]) (by simp only [AV.rel, wrapF_eq]; rfl)
 · cases h
theorem s_conv {o : Oper} {s d : TypeId} {k : IntKind} {x : Operand} {ds : TypeDesc} (ho : o.op = .convert s d x) (h1 : P.underlying s = some ds) (h2 : P.underlying d = some (.int k)) (hh : HRel ρ t nx w) (ht : TRel ρ N T a) (h : (IOp.conv k (opd x)).run T t nx = .ok v t' nx') : Sound P o a w ρ t nx v t' nx' := by
 simp only [IOp.run] at h
 split at h
 · rename_i k' n hx
   obtain ⟨h3, rfl, rfl⟩ := retV_ok h
   cases h3
   exact sound_val hh (cv := .int k (k.wrap n)) (by simp [execOp, ho, rel_int (opd_rel ht hx), convert, run_underlying h1, run_underlying h2, Conv.intToInt]) (by simp only [AV.rel, wrapF_eq])
 · cases h
theorem s_iface {o : Oper} {ty : TypeId} {x : Operand} {d : TypeDesc} (ho : o.op = .makeInterface ty x) (hd : P.underlying ty = some d) (hn : ∀ ms, d ≠ .interface ms) (hh : HRel ρ t nx w) (ht : TRel ρ N T a) (h : (IOp.iface ty (opd x)).run T t nx = .ok v t' nx') : Sound P o a w ρ t nx v t' nx' := by
 simp only [IOp.run] at h
 split at h
 · rename_i u hx
   cases h
   refine sound_val hh (cv := .iface ty (a.eval x)) ?_ (by simp only [AV.rel]; exact ⟨_, rfl, opd_rel ht hx⟩)
   simp only [execOp, ho, Instr.makeInterface, Sem.run_bind, run_underlying hd, Result.andThen_ok]
   cases d <;> first | rfl | exact absurd rfl (hn _)
 · cases h
theorem s_mkfn {o : Oper} {f : FuncId} {x y : Array Operand} (ho : o.op = .makeFunc (.func f) x y) (hh : HRel ρ t nx w) (ht : TRel ρ N T a) (h : (IOp.mkfn f (opds x) (opds y)).run T t nx = .ok v t' nx') : Sound P o a w ρ t nx v t' nx' := by
 simp only [IOp.run] at h
 split at h
 · rename_i l m hx hy
   cases h
   refine sound_val hh (cv := .func (.func f) (x.map a.eval) (y.map a.eval)) (by simp [execOp, ho, Instr.makeFunc]) ?_
   simp only [AV.rel]
   exact ⟨_, _, rfl, by simpa using evs_rel ht hx, by simpa using evs_rel ht hy⟩
 · cases h
theorem heap_new (w : World) (o : Obj) : (w.alloc o).heap[w.heap.size]? = some o := by
 show (w.heap.push o)[w.heap.size]? = _
 simp
theorem s_mkmap {o : Oper} {ty : TypeId} (ho : o.op = .makeMap ty none) (hh : HRel ρ t nx w) (h : IOp.mkmap.run T t nx = .ok v t' nx') : Sound P o a w ρ t nx v t' nx' := by
 simp only [IOp.run] at h
 rw [fNat_eq] at h; cases h
 refine ⟨_, _, _, .map (some w.heap.size), by simp [execOp, ho, Instr.makeMap]; done, .inl rfl, nxt_alloc hh (.map #[] 0) (.map [] 0) 0 0 ⟨#[], heap_new w _, rfl, fun i e m he => by simp at he⟩, ?_⟩
 simp [AV.rel, Rho.upd]
theorem s_faddr {o : Oper} {ty : TypeId} {x : Operand} {fs : Array Field} {f : Nat} {fl : Field} {ti : TypeInfo} (ho : o.op = .fieldAddr ty x f) (h1 : P.underlying ty = some (.struct fs)) (h2 : fs[f]? = some fl) (h3 : P.info? fl.type = some ti) (h4 : 0 < ti.size)
  (hh : HRel ρ t nx w) (ht : TRel ρ N T a) (h : (IOp.faddr (opd x) fl.offset).run T t nx = .ok v t' nx') : Sound P o a w ρ t nx v t' nx' := by
 simp only [IOp.run] at h
 split at h
 · rename_i b q hx
   rw [fNat_eq] at h; cases h
   obtain ⟨p, hp, hv⟩ := rel_ptr (opd_rel ht hx)
   have h0 : ¬ ti.size = 0 := by omega
   refine sound_val hh (cv := .pointer (some ⟨p.blk, p.d + q + fl.offset, none⟩)) ?_ (by simp only [AV.rel]; exact ⟨p, hp, by rw [Nat.add_assoc]; rfl⟩)
   simp [execOp, ho, Instr.fieldAt, run_underlying h1, h2, hv, Instr.sureAddr, fieldPlace, run_size h3, h0, add_none]
 · cases h
theorem idx_some {u : AV} {n : Nat} (h : idx u = some n) : ∃ k, u = .int k (n : Int) := by
 unfold idx at h
 split at h
 · cases h; exact ⟨_, rfl⟩
 · cases h
theorem ble_succ {i n : Nat} (h : Nat.ble (Nat.succ i) n = true) : i < n := Nat.le_of_ble_eq_true h
theorem s_iaddr {o : Oper} {ty e : TypeId} {x i : Operand} {ti : TypeInfo} (ho : o.op = .indexAddr ty x i) (h1 : P.underlying ty = some (.slice e)) (h2 : P.info? e = some ti)
  (hh : HRel ρ t nx w) (ht : TRel ρ N T a) (h : (IOp.iaddr ti.size (opd x) (opd i)).run T t nx = .ok v t' nx') : Sound P o a w ρ t nx v t' nx' := by
 simp only [IOp.run] at h
 split at h
 · rename_i b q n c sz ex u hx hi
   split at h
   · cases h
   · rename_i hs
     split at h
     · rename_i j hj
       split at h
       · rename_i hlt
         rw [fNat_eq] at h; cases h
         obtain ⟨p, c', off, hp, _, hn, _, hoff, hv⟩ := rel_slice (opd_rel ht hx)
         obtain ⟨k, rfl⟩ := idx_some hj
         have hi' := rel_int (opd_rel ht hi)
         have hlt' := ble_succ hlt
         obtain ⟨rfl, _⟩ := hoff (by omega)
         refine sound_val hh (cv := .pointer (some ⟨p.blk, p.d + q + j * ti.size, none⟩)) ?_ (by simp only [AV.rel]; exact ⟨p, hp, by rw [Nat.add_assoc]; rfl⟩)
         simp [execOp, ho, Instr.indexAt, run_underlying h1, hv, hi', asIntOf, run_size h2, add_none, hlt']
       · cases h
     · cases h
 · cases h
theorem s_aaddr {o : Oper} {ty e : TypeId} {ln : Nat} {x i : Operand} {ti : TypeInfo} (ho : o.op = .indexAddr ty x i) (h1 : P.underlying ty = some (.array ln e)) (h2 : P.info? e = some ti)
  (hh : HRel ρ t nx w) (ht : TRel ρ N T a) (h : (IOp.aaddr ln ti.size (opd x) (opd i)).run T t nx = .ok v t' nx') : Sound P o a w ρ t nx v t' nx' := by
 simp only [IOp.run] at h
 split at h
 · rename_i b q u hx hi
   split at h
   · rename_i j hj
     split at h
     · rename_i hlt
       rw [fNat_eq] at h; cases h
       obtain ⟨p, hp, hv⟩ := rel_ptr (opd_rel ht hx)
       obtain ⟨k, rfl⟩ := idx_some hj
       have hi' := rel_int (opd_rel ht hi)
       have hlt' := ble_succ hlt
       refine sound_val hh (cv := .pointer (some ⟨p.blk, p.d + q + j * ti.size, none⟩)) ?_ (by simp only [AV.rel]; exact ⟨p, hp, by rw [Nat.add_assoc]; rfl⟩)
       simp [execOp, ho, Instr.indexAt, run_underlying h1, hv, hi', asIntOf, Instr.sureAddr, run_size h2, add_none, hlt']
     · cases h
   · cases h
 · cases h
theorem s_extr {o : Oper} {x : Operand} {i : Nat} (ho : o.op = .extract x i) (hh : HRel ρ t nx w) (ht : TRel ρ N T a) (h : (IOp.extr (opd x) i).run T t nx = .ok v t' nx') : Sound P o a w ρ t nx v t' nx' := by
 simp only [IOp.run] at h
 split at h
 · rename_i vs hx
   split at h
   · rename_i u hu
     cases h
     have hr := opd_rel ht hx
     simp only [AV.rel] at hr
     obtain ⟨y, hy, r⟩ := hr
     rw [lGet_eq] at hu
     obtain ⟨cv, h1, h2⟩ := rels_get r i _ hu
     have h1' : y[i]? = some cv := by simpa using h1
     exact sound_val hh (cv := cv) (by simp [execOp, ho, Instr.extract, hy, h1']) h2
   · cases h
 · cases h
theorem run_part_cell {ty : TypeId} {cs : Array Value} {off : Nat} {cv : Value} (hag : aggOf P ty = some false) (h : cs[off]? = some cv) : (part ty cs off).run P w = .ok cv w := by
 simp [part, run_isAgg hag, h]
theorem run_part_agg {ty : TypeId} {cs : Array Value} {off : Nat} {ti : TypeInfo} (hag : aggOf P ty = some true) (h : P.info? ty = some ti) : (part ty cs off).run P w = .ok (.agg (cs.extract off (off + ti.size))) w := by
 simp [part, run_isAgg hag, run_size h]
theorem rel_extract {l : List AV} {y : Array Value} (h : rels ρ l y.toList) (off n : Nat) : (AV.agg ((l.drop off).take n)).rel ρ (.agg (y.extract off (off + n))) := by
 simp only [AV.rel]
 refine ⟨_, rfl, ?_⟩
 rw [Array.toList_extract, List.extract_eq_take_drop, Nat.add_sub_cancel_left]
 exact rels_take _ (rels_drop _ h)
theorem s_fld {o : Oper} {ty : TypeId} {x : Operand} {fs : Array Field} {f : Nat} {fl : Field} {ti : TypeInfo} {ag : Bool} (ho : o.op = .field ty x f) (h1 : P.underlying ty = some (.struct fs)) (h2 : fs[f]? = some fl) (h3 : P.info? fl.type = some ti) (h4 : aggOf P fl.type = some ag)
  (hh : HRel ρ t nx w) (ht : TRel ρ N T a) (h : (IOp.fld (opd x) fl.offset ti.size ag).run T t nx = .ok v t' nx') : Sound P o a w ρ t nx v t' nx' := by
 simp only [IOp.run] at h
 split at h
 · rename_i cs hx
   have hr := opd_rel ht hx
   simp only [AV.rel] at hr
   obtain ⟨y, hy, r⟩ := hr
   split at h
   · split at h
     · rw [lTake_eq, lDrop_eq] at h
       cases h
       exact sound_val hh (cv := .agg (y.extract fl.offset (fl.offset + ti.size))) (by simp [execOp, ho, Instr.field, run_underlying h1, h2, hy, asAgg, run_part_agg h4 h3]) (rel_extract r _ _)
     · cases h
   · split at h
     · rename_i u hu
       cases h
       rw [lGet_eq] at hu
       obtain ⟨cv, k1, k2⟩ := rels_get r _ _ hu
       exact sound_val hh (cv := cv) (by simp [execOp, ho, Instr.field, run_underlying h1, h2, hy, asAgg, run_part_cell h4 (by simpa using k1)]) k2
     · cases h
 · cases h
theorem s_sidx {o : Oper} {ty : TypeId} {x i : Operand} (ho : o.op = .index ty x i) (h1 : P.underlying ty = some .string)
  (hh : HRel ρ t nx w) (ht : TRel ρ N T a) (h : (IOp.sidx (opd x) (opd i)).run T t nx = .ok v t' nx') : Sound P o a w ρ t nx v t' nx' := by
 simp only [IOp.run] at h
 split at h
 · rename_i s u hx hi
   split at h
   · rename_i j hj
     split at h
     · rename_i n hn
       rw [fNat_eq] at h; cases h
       obtain ⟨hv, hb⟩ := rel_str (opd_rel ht hx)
       obtain ⟨k, rfl⟩ := idx_some hj
       have hi' := rel_int (opd_rel ht hi)
       rw [lGet_eq] at hn
       have hg : (enc s)[j]? = some (UInt8.ofNat n) := by
        have e : (enc s)[j]? = (enc s).data[j]? := (Option.map_inj_right fun x y a => a).mp rfl
        rw [e]
        show ((s.map UInt8.ofNat).toArray)[j]? = _
        simp [hn]
       have hlt := hb n (List.mem_of_getElem? hn)
       refine sound_val hh (cv := .int .u8 (n : Int)) ?_ (by simp [AV.rel])
       simp [execOp, ho, Instr.index, run_underlying h1, hv, hi', asIntOf, hg]
       omega
     · cases h
   · cases h
 · cases h
theorem s_aidx {o : Oper} {ty e : TypeId} {ln : Nat} {x i : Operand} {ti : TypeInfo} {ag : Bool} (ho : o.op = .index ty x i) (h1 : P.underlying ty = some (.array ln e)) (h2 : P.info? e = some ti) (h4 : aggOf P e = some ag)
  (hh : HRel ρ t nx w) (ht : TRel ρ N T a) (h : (IOp.aidx ln ti.size ag (opd x) (opd i)).run T t nx = .ok v t' nx') : Sound P o a w ρ t nx v t' nx' := by
 simp only [IOp.run] at h
 split at h
 · rename_i cs u hx hi
   have hr := opd_rel ht hx
   simp only [AV.rel] at hr
   obtain ⟨y, hy, r⟩ := hr
   split at h
   · rename_i j hj
     obtain ⟨k, rfl⟩ := idx_some hj
     have hi' := rel_int (opd_rel ht hi)
     split at h
     · rename_i hlt
       have hlt' := ble_succ hlt
       split at h
       · split at h
         · rw [lTake_eq, lDrop_eq] at h
           cases h
           exact sound_val hh (cv := .agg (y.extract (j * ti.size) (j * ti.size + ti.size))) (by simp [execOp, ho, Instr.index, run_underlying h1, hy, hi', asIntOf, hlt', run_size h2, run_part_agg h4 h2]) (rel_extract r _ _)
         · cases h
       · split at h
         · rename_i z hz
           cases h
           rw [lGet_eq] at hz
           obtain ⟨cv, k1, k2⟩ := rels_get r _ _ hz
           have k1' : y[j * ti.size]? = some cv := by simpa using k1
           exact sound_val hh (cv := cv) (by simp [execOp, ho, Instr.index, run_underlying h1, hy, hi', asIntOf, hlt', run_size h2, run_part_cell h4 k1']) k2
         · cases h
     · cases h
   · cases h
 · cases h
end Go.Proofs.YtpjohgnhmjceiaaGreatDoor.AX
