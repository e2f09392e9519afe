/- THE DEN MACHINE: a program's functions run on abstract values (numbers, tests, rows by content, objects by number). What it answers is shown elsewhere to be what the program answers. -/
import Derived.RowKit
import Derived.Control
import Derived.Calls
import Derived.Still
import Derived.Test.YtnlnjcgoodgmbaaWLast
set_option linter.unusedVariables false
namespace Go.Proofs.YtnlnjcgoodgmbaaM
open Go.Proofs.YtnlnjcgoodgmbaaW.PrintLast (takeB readyB anyB)
/-- What a seat's element types are. -/
class Tys where
  El : Nat → Type
  z : (t : Nat) → El t
open Tys
variable [Tys]
inductive AV : Type where
  | int (k : IntKind) (n : Int)
  | bl (p : Prop) (d : Decidable p)
  | bo (b : Bool)
  | str (s : ByteArray)
  | nili
  | nils
  | nilp
  | agg (l : List AV)
  | tup (l : List AV)
  | ro (t : Nat) (xs : List (El t))
  | own (i : Nat)
  | cut (i : Nat) (lo n : Nat)
  | ptr (i off : Nat)
  | elp (i t : Nat) (j off : Nat)
  | ela (i t e j off : Nat)
  | rop (cs : List AV)
  | fn (f : Nat) (caps : List AV)
  | ifc (t : Nat) (v : AV)
  | bm (f : Nat) (first : List AV)
  | vro (t : Nat) (vs : List AV)
  | mp (i : Nat)
  | nilf
  | nilm
  | lost
inductive Ob : Type where
  | box (t : Nat) (cs : List AV)
  | row (t : Nat) (xs : List (El t))
  | fro (t : Nat) (xs : List (El t))
  | arr (t e : Nat) (xs : List (El e))
  | map (t k e : Nat) (es : List (El k × El e))
  | dead
/-- Slots, objects; n: how many slots there are, nx: the next object's number. -/
structure St where
  n : Nat
  sl : List (Nat × AV)
  hp : List (Nat × Ob)
  nx : Nat
  md : Nat
/-- Cells that can be compared. -/
inductive SK where
  | int (k : IntKind) | bool | str
inductive TD where
  | int (k : IntKind) | bool | str
  | struct (l : List (Nat × Nat × Bool))     -- fields: offset, cells, is it a struct or an array
  | slice (e : Nat)
  | ptr (e : Nat)
  | array (n e : Nat)
  | map (k e : Nat)
  | func
  | other
/-- What a seat tells of its types. -/
class Tab where
  td : Nat → TD
  zero : Nat → List AV          -- the cells of a type's zero value; a nil slice is told as an empty row
  enc : (t : Nat) → El t → List AV
  dec : (t : Nat) → List AV → Option (El t)
  lim : Nat → Nat               -- how long a row of such elements may be
  flat : Nat → Bool             -- such elements lead to no rows
  meth : Nat → String → Option (Nat × Option Nat)   -- a type's method: the function; the type that is loaded through the receiver
  eqT : Nat → Option (List SK)  -- what records' cells are, if records of the type can be compared by them
  keq : (t : Nat) → El t → El t → Bool   -- a map's keys
variable [Tab]
open Tab
def get {α : Type} : List (Nat × α) → Nat → Option α
  | [], _ => none
  | (j, x) :: l, i => match Nat.beq i j with
    | true => some x
    | false => get l i
def St.put (s : St) (d : Option Nat) (v : AV) : St := match d with
  | some d => match Nat.blt d s.n with
    | true => { s with sl := (d, v) :: s.sl }
    | false => s
  | none => s
def St.obj (s : St) (i : Nat) (o : Ob) : St := { s with hp := (i, o) :: s.hp }
/-- How a function is told: 1: what is cut is frozen; 2: nil stays nil; 4: also where it is handed over. -/
def St.bit (s : St) (k : Nat) : Bool := Nat.beq (s.md / k % 2) 1
/-- A new object. -/
def St.new (s : St) (o : Ob) : St := { s with hp := (s.nx, o) :: s.hp, nx := s.nx + 1 }
def St.look (s : St) (i : Nat) : Ob := match get s.hp i with
  | some o => o
  | none => .dead
def strAt (b : ByteArray) (j : Nat) : Int := ((b.data.toList.getD j 0).toNat : Int)
def bytesOf (b : ByteArray) : List Int := b.data.toList.map fun x => (x.toNat : Int)
def mapFind {κ α : Type} (eq : κ → κ → Bool) : List (κ × α) → κ → Option α
  | [], _ => none
  | (k', x) :: l, k => match eq k k' with
    | true => some x
    | false => mapFind eq l k
def mapGetE {κ α : Type} (eq : κ → κ → Bool) (l : List (κ × α)) (k : κ) (z : α) : α := match mapFind eq l k with
  | some x => x
  | none => z
def mapSetE {κ α : Type} (eq : κ → κ → Bool) : List (κ × α) → κ → α → List (κ × α)
  | [], k, x => [(k, x)]
  | (k', y) :: l, k, x => match eq k k' with
    | true => (k, x) :: l
    | false => (k', y) :: mapSetE eq l k x
def mapGet {κ α : Type} [BEq κ] (l : List (κ × α)) (k : κ) (z : α) : α := mapGetE (fun a b => a == b) l k z
def mapSet {κ α : Type} [BEq κ] (l : List (κ × α)) (k : κ) (x : α) : List (κ × α) := mapSetE (fun a b => a == b) l k x
def tt : AV := .bl True instDecidableTrue
def ff : AV := .bl False instDecidableFalse
def ofVal : Value → Option AV
  | .int k n => some (.int k n)
  | .bool b => some (match b with | true => tt | false => ff)
  | .string s => some (.str s)
  | .slice none 0 0 => some .nils
  | .pointer none => some .nilp
  | .nilIface => some .nili
  | .nilFunc => some .nilf
  | .map none => some .nilm
  | _ => none
def St.ev (s : St) : Operand → Option AV
  | .tmp t => get s.sl t
  | .const v => ofVal v
  | .func f => some (.fn f [])
  | _ => none
/-- Is a type one of records. -/
def aggT (t : Nat) : Bool := match td t with
  | .struct _ => true
  | .array _ _ => true
  | _ => false
def arrOf (t : Nat) : Option (Nat × Nat) := match td t with
  | .array n e => some (n, e)
  | .int _ => none
  | .bool => none
  | .str => none
  | .struct _ => none
  | .slice _ => none
  | .ptr _ => none
  | .map _ _ => none
  | .func => none
  | .other => none
theorem arrOf_some {t n e : Nat} (h : arrOf t = some (n, e)) : td t = .array n e := by
  unfold arrOf at h
  cases hd : td t <;> rw [hd] at h <;> first
    | (injection h with h; injection h with h1 h2; rw [h1, h2])
    | cases h
def szOf (t : Nat) : Nat := (zero t).length
section
variable {ρ : Type}
def onB (v : Option AV) (K : (p : Prop) → Decidable p → Option ρ) : Option ρ := match v with
  | some (.bl p d) => K p d
  | some (.bo b) => K (b = true) (instDecidableEqBool b true)
  | _ => none
/-- A value's cells, if it can be stored. -/
def onC (v : Option AV) (K : List AV → Option ρ) : Option ρ := match v with
  | some v => match v with
    | .agg l => K l
    | .lost => none
    | .tup _ => none
    | .nils => none
    | .cut _ _ _ => none
    | v => K [v]
  | none => none
def onI (v : Option AV) (K : IntKind → Int → Option ρ) : Option ρ := match v with
  | some (.int k n) => K k n
  | _ => none
def onV (v : Option AV) (K : AV → Option ρ) : Option ρ := match v with
  | some v => K v
  | none => none
/-- A row's content, as it may be read now. -/
def onR (s : St) (v : AV) (K : (t : Nat) → List (El t) → Option ρ) : Option ρ := match v with
  | .ro t xs => K t xs
  | .own i => match s.look i with
    | .row t xs => K t xs
    | .fro t xs => K t xs
    | _ => none
  | .cut i lo n => match s.look i with
    | .row t xs => K t ((xs.drop lo).take n)
    | .fro t xs => K t ((xs.drop lo).take n)
    | _ => none
  | _ => none
/-- Cells of a type's value, as a value. -/
def ofCells (t : Nat) (l : List AV) (K : AV → Option ρ) : Option ρ := match aggT t with
  | true => match l with
    | [] => none
    | _ => match Nat.beq l.length (szOf t) with
      | true => K (.agg l)
      | false => none
  | false => match l with
    | [v] => K v
    | _ => none
/-- Rows that are stored into elements are frozen. -/
def freeze : List AV → St → (List AV → St → Option ρ) → Option ρ
  | [], s, K => K [] s
  | v :: l, s, K => match v with
    | .own i => match s.look i with
      | .row t xs => freeze l (s.obj i (.fro t xs)) fun l' s' => K (.ro t xs :: l') s'
      | .fro t xs => freeze l s fun l' s' => K (.ro t xs :: l') s'
      | _ => none
    | v => freeze l s fun l' s' => K (v :: l') s'
/-- One element out of its cells. -/
def onEl (t : Nat) (cs : List AV) (s : St) (K : El t → St → Option ρ) : Option ρ := freeze cs s fun l s' => match dec t l with
  | some x => K x s'
  | none => none
/-- A zero value's empty rows become rows of their own. -/
def thaw : List AV → St → (List AV → St → Option ρ) → Option ρ
  | [], s, K => K [] s
  | v :: l, s, K => match v with
    | .ro t [] => thaw l (s.new (.row t [])) fun l' s' => K (.own s.nx :: l') s'
    | v => thaw l s fun l' s' => K (v :: l') s'
def castR (t t' : Nat) (xs : List (El t)) (K : List (El t') → Option ρ) : Option ρ := match Nat.decEq t t' with
  | isTrue h => K (h ▸ xs)
  | isFalse _ => none
def cmpI (op : BinOp) (x y : Int) (K : AV → Option ρ) : Option ρ := match op with
  | .eql => K (.bl (x = y) (Int.instDecidableEq x y))
  | .neq => K (.bl (¬ x = y) (@instDecidableNot _ (Int.instDecidableEq x y)))
  | .lss => K (.bl (x < y) (Int.decLt x y))
  | .leq => K (.bl (x ≤ y) (Int.decLe x y))
  | .gtr => K (.bl (x > y) (Int.decLt y x))
  | .geq => K (.bl (x ≥ y) (Int.decLe y x))
  | _ => none
def binI (op : BinOp) (k : IntKind) (x y : Int) (K : AV → Option ρ) : Option ρ := match op with
  | .add => K (.int k (k.wrap (x + y)))
  | .sub => K (.int k (k.wrap (x - y)))
  | .mul => K (.int k (k.wrap (x * y)))
  | .quo => @ite _ (y = 0) (Int.instDecidableEq y 0) none (K (.int k (k.wrap (x.tdiv y))))
  | .rem => @ite _ (y = 0) (Int.instDecidableEq y 0) none (K (.int k (x.tmod y)))
  | .shl => @ite _ (0 ≤ y) (Int.decLe 0 y) (K (.int k (k.wrap (x * 2 ^ (min y.toNat k.bits))))) none
  | .shr => @ite _ (0 ≤ y) (Int.decLe 0 y) (K (.int k (x.fdiv (2 ^ (min y.toNat k.bits))))) none
  | .and => K (.int k (k.wrap ((BitVec.ofInt k.bits x &&& BitVec.ofInt k.bits y).toNat : Int)))
  | .or => K (.int k (k.wrap ((BitVec.ofInt k.bits x ||| BitVec.ofInt k.bits y).toNat : Int)))
  | .xor => K (.int k (k.wrap ((BitVec.ofInt k.bits x ^^^ BitVec.ofInt k.bits y).toNat : Int)))
  | .andNot => K (.int k (k.wrap ((BitVec.ofInt k.bits x &&& ~~~ BitVec.ofInt k.bits y).toNat : Int)))
  | op => cmpI op x y K
def binS (op : BinOp) (x y : ByteArray) (K : AV → Option ρ) : Option ρ := match op with
  | .add => @ite _ (x.size + y.size ≤ 9223372036854775807) (Nat.decLe _ _) (K (.str (x ++ y))) none
  | .eql => K (.bo (x.toList == y.toList))
  | .neq => K (.bo (!(x.toList == y.toList)))
  | .lss => K (.bo (Op.bytesLess x.toList y.toList))
  | .geq => K (.bo (!(Op.bytesLess x.toList y.toList)))
  | .leq => K (.bo (Op.bytesLess x.toList y.toList || x.toList == y.toList))
  | .gtr => K (.bo (!(Op.bytesLess x.toList y.toList || x.toList == y.toList)))
  | _ => none
/-- i within the bounds of a row. -/
def inB (i : Int) (n : Nat) (K : Option ρ) : Option ρ := @ite _ (0 ≤ i) (Int.decLe 0 i) (@ite _ (i < (n : Int)) (Int.decLt i n) K none) none
def upd (l : List AV) (off : Nat) (seg : List AV) : List AV := l.take off ++ seg ++ l.drop (off + seg.length)
def fieldOf (t i : Nat) (K : Nat → Nat → Bool → Option ρ) : Option ρ := match td t with
  | .struct l => match l[i]? with
    | some (off, n, b) => K off n b
    | none => none
  | _ => none
def elemOf (t : Nat) (K : Nat → Option ρ) : Option ρ := match td t with
  | .slice e => K e
  | _ => none
/-- Parts laid into a record's cells. -/
def fill (t : Nat) (s : St) : List (Nat × Operand) → List AV → (List AV → Option ρ) → Option ρ
  | [], cs, K => K cs
  | (i, x) :: l, cs, K => onC (s.ev x) fun v => fieldOf t i fun off n b => match Nat.beq v.length n && Nat.ble (off + n) cs.length with
    | true => fill t s l (upd cs off v) K
    | false => none
/-- A literal's elements, in order. -/
def elems (e : Nat) : List (Nat × Operand) → Nat → St → (List (El e) → St → Option ρ) → Option ρ
  | [], _, s, K => K [] s
  | (i, x) :: l, j, s, K => match Nat.beq i j with
    | true => onC (s.ev x) fun v => onEl e v s fun y s' => elems e l (j + 1) s' fun ys s'' => K (y :: ys) s''
    | false => none
def appK (e : Nat) (i : Nat) (xs : List (El e)) (o : Oper) (s : St) (K : St → Option ρ) (ys : List (El e)) : Option ρ :=
  @ite _ (xs.length + ys.length ≤ lim e) (Nat.decLe _ _) (K (((s.obj i .dead).new (.row e (xs ++ ys))).put o.dst (.own s.nx))) none
def lenK (t : Nat) (o : Oper) (s : St) (K : St → Option ρ) (v : AV) : Option ρ := match td t with
  | .str => match v with
    | .str b => K (s.put o.dst (.int .i64 b.size))
    | _ => none
  | .slice _ => match v with
    | .nils => K (s.put o.dst (.int .i64 0))
    | v => onR s v fun _ xs => K (s.put o.dst (.int .i64 xs.length))
  | _ => none
def appendK (e : Nat) (o : Oper) (s : St) (K : St → Option ρ) (v u : AV) : Option ρ := match v with
  | .own i => match s.look i with
    | .row t1 xs => castR t1 e xs fun xs => match u with
      | .ro t2 ys => castR t2 e ys (appK e i xs o s K)
      | .own j => match Nat.beq i j with
        | true => none
        | false => match s.look j with
          | .row t2 ys => castR t2 e ys (appK e i xs o s K)
          | .fro t2 ys => castR t2 e ys (appK e i xs o s K)
          | _ => none
      | _ => none
    | _ => none
  | _ => none
/-- Pointers and tests, compared. -/
def cmpV (op : BinOp) (b : Bool) (put : AV → Option ρ) : Option ρ := match op with
  | .eql => put (.bo b)
  | .neq => put (.bo (!b))
  | _ => none
def boolOf : AV → Option Bool
  | .bo b => some b
  | .bl p d => some (@decide p d)
  | _ => none
def eqA1 : SK → AV → AV → Option Bool
  | .int k, a, b => match a, b with
    | .int k1 n, .int k2 m => match instDecidableEqIntKind k1 k with
      | .isTrue _ => match instDecidableEqIntKind k2 k with
        | .isTrue _ => some (n == m)
        | .isFalse _ => none
      | .isFalse _ => none
    | _, _ => none
  | .bool, a, b => match boolOf a with
    | some x => match boolOf b with
      | some y => some (x == y)
      | none => none
    | none => none
  | .str, a, b => match a, b with
    | .str x, .str y => some (x == y)
    | _, _ => none
def eqAs : List SK → List AV → List AV → Option Bool
  | [], [], [] => some true
  | k :: ks, a :: l, b :: l' => match eqA1 k a b with
    | some x => match eqAs ks l l' with
      | some y => some (x && y)
      | none => none
    | none => none
  | _, _, _ => none
def eqV (op : BinOp) (t : Nat) (a b : AV) (put : AV → Option ρ) : Option ρ := match td t with
  | .ptr _ => match a, b with
    | .nilp, .nilp => cmpV op true put
    | .nilp, .ptr _ _ => cmpV op false put
    | .ptr _ _, .nilp => cmpV op false put
    | _, _ => none
  | .bool => match boolOf a with
    | some x => match boolOf b with
      | some y => cmpV op (x == y) put
      | none => none
    | none => none
  | .struct _ => match a, b with
    | .agg l, .agg l' => match eqT t with
      | some ks => match eqAs ks l l' with
        | some x => cmpV op x put
        | none => none
      | none => none
    | _, _ => none
  | _ => none
def evL (s : St) : List Operand → Option (List AV)
  | [] => some []
  | x :: l => match s.ev x, evL s l with
    | some v, some vs => some (v :: vs)
    | _, _ => none
def zerosK (e i : Nat) (xs : List (El e)) (n : Int) (o : Oper) (s : St) (K : St → Option ρ) : Option ρ :=
  @ite _ (0 ≤ n) (Int.decLe 0 n) (@ite _ ((xs.length : Int) + n ≤ (lim e : Int)) (Int.decLe _ _) (K (((s.obj i .dead).new (.row e (xs ++ List.replicate n.toNat (z e)))).put o.dst (.own s.nx))) none) none
/-- A text, or noughts, behind a row. -/
def appendS (t' e : Nat) (o : Oper) (s : St) (K : St → Option ρ) (v u : AV) : Option ρ := match td t' with
  | .int k => match instDecidableEqIntKind k .i64 with
    | .isFalse _ => none
    | .isTrue _ => match v, u with
      | .nils, .int _ n => zerosK e s.nx [] n o (s.new (.row e [])) K
      | .own i, .int _ n => match s.look i with
        | .row t1 xs => castR t1 e xs fun xs => zerosK e i xs n o s K
        | _ => none
      | _, _ => none
  | _ => none
def bltK (b : Builtin) (args : List Operand) (ts : List TypeId) (o : Oper) (s : St) (K : St → Option ρ) : Option ρ := match b with
  | .len => match args, ts with
    | [x], [t] => onV (s.ev x) (lenK t o s K)
    | _, _ => none
  | .max => match args with
    | [x, y] => onI (s.ev x) fun k a => onI (s.ev y) fun _ b => K (s.put o.dst (.int k (@ite _ (a < b) (Int.decLt a b) b a)))
    | _ => none
  | .min => match args with
    | [x, y] => onI (s.ev x) fun k a => onI (s.ev y) fun _ b => K (s.put o.dst (.int k (@ite _ (b < a) (Int.decLt b a) b a)))
    | _ => none
  | .append => match args, ts with
    | [x, y], [t, t'] => match Nat.beq t t' with
      | true => elemOf t fun e => onV (s.ev x) fun v => onV (s.ev y) fun u => appendK e o s K v u
      | false => elemOf t fun e => onV (s.ev x) fun v => onV (s.ev y) fun u => appendS t' e o s K v u
    | _, _ => none
  | .cap => match args, ts with
    | [x], [t] => elemOf t fun _ => match s.ev x with
      | some .nils => K (s.put o.dst (.int .i64 0))
      | _ => none
    | _, _ => none
  | _ => none
/-- A cut of what is read. -/
def lowK {α : Type} (ys : List α) (r : Int) (l : Option Int) (K : List α → Option ρ) : Option ρ := match l with
  | none => K ys
  | some l => @ite _ (0 ≤ l) (Int.decLe 0 l) (@ite _ (l ≤ r) (Int.decLe l r) (K (ys.drop l.toNat)) none) none
def viewK {α : Type} (xs : List α) (l h : Option Int) (K : List α → Option ρ) : Option ρ := match h with
  | none => lowK xs xs.length l K
  | some h => @ite _ (0 ≤ h) (Int.decLe 0 h) (@ite _ (h ≤ (xs.length : Int)) (Int.decLe _ _) (lowK (xs.take h.toNat) h l K) none) none
def takeK (e i : Nat) (xs : List (El e)) (h : Int) (o : Oper) (s : St) (K : St → Option ρ) : Option ρ :=
  @ite _ (0 ≤ h) (Int.decLe 0 h) (@ite _ (h ≤ (xs.length : Int)) (Int.decLe _ _) (K (((s.obj i .dead).new (.row e (xs.take h.toNat))).put o.dst (.own s.nx))) none) none
def ownCutK (e i : Nat) (xs : List (El e)) (l h m : Option Int) (o : Oper) (s : St) (K : St → Option ρ) : Option ρ := match m with
  | some _ => none
  | none => match l, h, s.bit 1 with
    | none, some h, false => takeK e i xs h o s K
    | l, h, _ => viewK xs l h fun ys => K ((s.obj i (.fro e xs)).put o.dst (.ro e ys))
def froCutK (e : Nat) (xs : List (El e)) (l h m : Option Int) (o : Oper) (s : St) (K : St → Option ρ) : Option ρ := match m with
  | some _ => none
  | none => viewK xs l h fun ys => K (s.put o.dst (.ro e ys))
def sliceK (t : Nat) (v : AV) (l h m : Option Int) (o : Oper) (s : St) (K : St → Option ρ) : Option ρ := match td t with
  | .str => match v, m with
    | .str b, none =>
      let l : Int := match l with
        | none => 0
        | some l => l
      let h : Int := match h with
        | none => b.size
        | some h => h
      @ite _ (0 ≤ l) (Int.decLe 0 l) (@ite _ (l ≤ h) (Int.decLe l h) (@ite _ (h ≤ (b.size : Int)) (Int.decLe _ _) (K (s.put o.dst (.str (b.extract l.toNat h.toNat)))) none) none) none
    | _, _ => none
  | .slice e => match v with
    | .nils => match l, h, m with
      | none, some h, none => @ite _ (h = 0) (Int.instDecidableEq h 0) (K (s.put o.dst .nils)) none
      | _, _, _ => none
    | .ro t1 xs => castR t1 e xs fun xs => froCutK e xs l h m o s K
    | .own i => match s.look i with
      | .row t1 xs => castR t1 e xs fun xs => ownCutK e i xs l h m o s K
      | .fro t1 xs => castR t1 e xs fun xs => froCutK e xs l h m o s K
      | _ => none
    | _ => none
  | _ => none
def optI (s : St) (x : Option Operand) (K : Option Int → Option ρ) : Option ρ := match x with
  | none => K none
  | some x => onI (s.ev x) fun _ n => K (some n)
def aggV : AV → Bool
  | .agg _ => true
  | _ => false
def keyL : AV → Option (List AV)
  | .int k n => some [.int k n]
  | .str b => some [.str b]
  | _ => none
def keyK (t : Nat) (v : AV) (K : El t → Option ρ) : Option ρ := match keyL v with
  | some l => match dec t l with
    | some x => K x
    | none => none
  | none => none
def decK (t : Nat) (cs : List AV) (K : El t → Option ρ) : Option ρ := match dec t cs with
  | some x => K x
  | none => none
def mapUpd (t : Nat) (v : AV) (k : AV) (u : AV) (s : St) (K : St → Option ρ) : Option ρ := match v with
  | .mp i => match s.look i with
    | .map t1 k1 e1 es => match Nat.beq t1 t && !Bool.xor (aggV u) (aggT e1) with
      | true => keyK k1 k fun y => onC (some u) fun u => decK e1 u fun x => K (s.obj i (.map t1 k1 e1 (mapSetE (keq k1) es y x)))
      | false => none
    | _ => none
  | _ => none
def mapLook (t : Nat) (v : AV) (k : AV) (s : St) (K : AV → Option ρ) : Option ρ := match v with
  | .mp i => match s.look i with
    | .map t1 k1 e1 es => match Nat.beq t1 t with
      | true => keyK k1 k fun y => ofCells e1 (enc e1 (mapGetE (keq k1) es y (z e1))) K
      | false => none
    | _ => none
  | _ => none
/-- A store of a value. -/
def storeK (t : Nat) (x y : Option AV) (o : Oper) (s : St) (K : St → Option ρ) : Option ρ := onV x fun v => onC y fun u => match zero t, Nat.beq u.length (szOf t), o.dst with
  | [], _, _ => none
  | _, false, _ => none
  | _, _, some _ => none
  | _ :: _, true, none => match v with
  | .ptr i o => match s.look i with
    | .box t cs => match Nat.ble (o + u.length) cs.length with
      | true => K (s.obj i (.box t (upd cs o u)))
      | false => none
    | _ => none
  | .elp i t' j o => match s.look i with
    | .row t'' xs => castR t'' t' xs fun xs => match Nat.ble (o + u.length) (szOf t') with
      | true => onEl t' (upd (enc t' (xs.getD j (z t'))) o u) s fun e s' => match s'.look i with
        | .row _ _ => K (s'.obj i (.row t' (xs.set j e)))
        | _ => none
      | false => none
    | _ => none
  | .ela i t1 e j o => match s.look i with
    | .arr t2 e2 xs => match Nat.beq t2 t1 with
      | true => castR e2 e xs fun xs => match Nat.ble (o + u.length) (szOf e) with
        | true => onEl e (upd (enc e (xs.getD j (z e))) o u) s fun y s' => match s'.look i with
          | .arr _ _ _ => K (s'.obj i (.arr t1 e (xs.set j y)))
          | _ => none
        | false => none
      | false => none
    | _ => none
  | _ => none
def opK (o : Oper) (s : St) (K : St → Option ρ) : Option ρ :=
  let put (v : AV) : Option ρ := K (s.put o.dst v)
  match o.op with
  | .move x | .assign x => onV (s.ev x) fun v => match v with
    | .nils => match s.bit 2 with
      | true => put .nils
      | false => elemOf o.type fun e => K ((s.new (.row e [])).put o.dst (.own s.nx))
    | v => put v
  | .pick c a b => onB (s.ev c) fun p d => @ite _ p d (onV (s.ev a) put) (onV (s.ev b) put)
  | .binOp op t x y _ => onV (s.ev x) fun a => onV (s.ev y) fun b => match a, b with
    | .int k a, .int k' b => match op with
      | .shl => binI .shl k a b put
      | .shr => binI .shr k a b put
      | op => @ite _ (k = k') (instDecidableEqIntKind k k') (binI op k a b put) none
    | .str a, .str b => binS op a b put
    | a, b => eqV op t a b put
  | .unOp op _ x => onV (s.ev x) fun v => match op, v with
    | .not, .bl p d => put (.bl (¬ p) (@instDecidableNot p d))
    | .not, .bo b => put (.bo (!b))
    | .neg, .int k n => put (.int k (k.wrap (0 - n)))
    | .xor, .int k n => binI .xor k (if k.signed then -1 else k.max) n put
    | _, _ => none
  | .convert t' t x => onV (s.ev x) fun v => match v, td t', td t with
    | .int _ n, .int _, .int k => put (.int k (k.wrap n))
    | .str b, .str, .str => put (.str b)
    | _, _, _ => none
  | .index t x i => onV (s.ev x) fun v => onI (s.ev i) fun _ j => match td t, v with
    | .str, .str b => inB j b.size (put (.int .u8 (strAt b j.toNat)))
    | _, _ => none
  | .extract x i => onV (s.ev x) fun v => match v with
    | .tup l => match l[i]? with
      | some v => put v
      | none => none
    | _ => none
  | .nilCheck x => onV (s.ev x) fun v => match v with
    | .ptr i off => put (.ptr i off)
    | .rop cs => put (.rop cs)
    | .elp i t j off => put (.elp i t j off)
    | _ => none
  | .indexAddr t x i => onV (s.ev x) fun v => onI (s.ev i) fun _ j => match arrOf t with
    | some (n, e) => match v with
      | .ptr i off => match off with
        | 0 => match s.look i with
          | .arr t1 e1 _ => match Nat.beq t1 t && Nat.beq e1 e with
            | true => inB j n (put (.ela i t e j.toNat 0))
            | false => none
          | _ => none
        | _ + 1 => none
      | _ => none
    | none => elemOf t fun e => match v with
    | .ro t xs => castR t e xs fun xs => inB j xs.length (put (.rop (enc e (xs.getD j.toNat (z e)))))
    | .own i => match s.look i with
      | .row t xs => castR t e xs fun xs => inB j xs.length (put (.elp i e j.toNat 0))
      | .fro t xs => castR t e xs fun xs => inB j xs.length (put (.rop (enc e (xs.getD j.toNat (z e)))))
      | _ => none
    | _ => none
  | .fieldAddr t x i => onV (s.ev x) fun v => fieldOf t i fun off _ _ => match v with
    | .ptr i o => put (.ptr i (o + off))
    | .rop cs => put (.rop (cs.drop off))
    | .elp i t j o => put (.elp i t j (o + off))
    | .ela i t e j o => put (.ela i t e j (o + off))
    | _ => none
  | .field t x i => onV (s.ev x) fun v => fieldOf t i fun off n b => match v with
    | .agg l => match b with
      | true => put (.agg ((l.drop off).take n))
      | false => match l[off]? with
        | some v => put v
        | none => none
    | _ => none
  | .load t x => onV (s.ev x) fun v => match v with
    | .rop cs => ofCells t (cs.take (szOf t)) put
    | .ptr i o => match s.look i with
      | .box _ cs => ofCells t ((cs.drop o).take (szOf t)) put
      | _ => none
    | .elp i t' j o => match s.look i with
      | .row t'' xs => castR t'' t' xs fun xs => ofCells t (((enc t' (xs.getD j (z t'))).drop o).take (szOf t)) put
      | _ => none
    | .ela i t1 e j o => match s.look i with
      | .arr t2 e2 xs => match Nat.beq t2 t1 with
        | true => castR e2 e xs fun xs => ofCells t (((enc e (xs.getD j (z e))).drop o).take (szOf t)) put
        | false => none
      | _ => none
    | _ => none
  | .store t x y => match s.ev y with
    | some .nils => elemOf t fun e => storeK t (s.ev x) (some (.own s.nx)) o (s.new (.row e [])) K
    | y => storeK t (s.ev x) y o s K
  | .alloc t => match zero t with
    | [] => none
    | c :: l => match arrOf t with
      | some (n, e) => K ((s.new (.arr t e (List.replicate n (z e)))).put o.dst (.ptr s.nx 0))
      | none => thaw (c :: l) s fun cs s' => K ((s'.new (.box t cs)).put o.dst (.ptr s'.nx 0))
  | .box t x => onC (s.ev x) fun v => K ((s.new (.box t v)).put o.dst (.ptr s.nx 0))
  | .build t ps => match td t, zero t with
    | .struct _, c :: l => thaw (c :: l) s fun cs s' => fill t s ps.toList cs fun cs => K (s'.put o.dst (.agg cs))
    | _, _ => none
  | .buildSlice t n ps => elemOf t fun e => match Nat.beq ps.toList.length n && Nat.ble (n * szOf e) 16777216 && o.dst.isSome with
    | true => elems e ps.toList 0 s fun xs s' => K ((s'.new (.row e xs)).put o.dst (.own s'.nx))
    | false => none
  | .makeSlice t n c => onI (s.ev n) fun k a => onI (s.ev c) fun k' b => match k, k', o.dst with
    | .i64, .i64, some _ => elemOf t fun e => @ite _ (a = b) (Int.instDecidableEq a b) (@ite _ (0 ≤ a) (Int.decLe 0 a) (@ite _ (a ≤ (lim e : Int)) (Int.decLe _ _) (K ((s.new (.row e (List.replicate a.toNat (z e)))).put o.dst (.own s.nx))) none) none) none
    | _, _, _ => none
  | .slice t x lo hi mx => onV (s.ev x) fun v => optI s lo fun l => optI s hi fun h => optI s mx fun m => sliceK t v l h m o s K
  | .makeInterface t x => match td t with
    | .other => none
    | _ => onV (s.ev x) fun v => put (.ifc t v)
  | .typeAssert x _ t ok => match td t with
    | .other => none
    | _ => match ok with
      | true => none
      | false => onV (s.ev x) fun v => match v with
        | .ifc t' v => match Nat.beq t' t with
          | true => put v
          | false => none
        | _ => none
  | .makeFunc f first caps => match f, first.toList with
    | .func g, [] => match evL s caps.toList with
      | some vs => put (.fn g vs)
      | none => none
    | .func g, x :: l => match caps.toList with
      | [] => match evL s (x :: l) with
        | some vs => put (.bm g vs)
        | none => none
      | _ :: _ => none
    | _, _ => none
  | .makeMap t r => match r, td t with
    | none, .map k e => K ((s.new (.map t k e [])).put o.dst (.mp s.nx))
    | _, _ => none
  | .insert t m k x => match o.dst with
    | none => onV (s.ev m) fun v => onV (s.ev k) fun k => onV (s.ev x) fun u => mapUpd t v k u s K
    | some _ => none
  | .mapUpdate t m k x => match o.dst with
    | none => onV (s.ev m) fun v => onV (s.ev k) fun k => onV (s.ev x) fun u => mapUpd t v k u s K
    | some _ => none
  | .lookup t m k ok => match ok with
    | true => none
    | false => onV (s.ev m) fun v => onV (s.ev k) fun k => mapLook t v k s put
  | .call c => match c.callee with
    | .builtin b => bltK b c.args.toList c.argTypes.toList o s K
    | _ => none
  | _ => none
inductive It where
  | code (c : Code)
  | blk (id : Nat)
  | lp (c : Code)
  | reg (id : Nat) (ops : Array Oper) (draw : Bool)
def popTo (id : Nat) : List It → Option (List It)
  | [] => none
  | .blk j :: T => match Nat.beq id j with
    | true => some T
    | false => popTo id T
  | _ :: T => popTo id T
/-- What calls of functions answer: the function's number, the arguments, the state; how it goes on. -/
abbrev Orc (ρ : Type) := Nat → List AV → St → (AV → St → Option ρ) → Option ρ
def evs (s : St) : List Operand → Option (List AV)
  | [] => some []
  | x :: l => match s.ev x, evs s l with
    | some v, some vs => some (v :: vs)
    | _, _ => none
/-- nil, handed over: an empty row. -/
def denil : List TypeId → List AV → List AV
  | t :: ts, v :: vs => (match v with
    | .nils => match td t with
      | .slice e => .ro e []
      | _ => .nils
    | v => v) :: denil ts vs
  | _, vs => vs
def argsK (s : St) (ts : List TypeId) (vs : List AV) : List AV := match s.bit 4 with
  | true => vs
  | false => denil ts vs
def dstOf (ops : List Oper) (g : Nat) : Option Nat := match ops[g]? with
  | some o => o.dst
  | none => none
/-- What a call answers in a region whose order is drawn: a number, a test, a string, whatever came before. -/
structure QAns where
  R : Type
  x : Option R
  enc : R → AV
abbrev QOrc := Nat → List AV → St → Option QAns
def scalarB : AV → Bool
  | .int _ _ => true
  | .bo _ => true
  | .str _ => true
  | _ => false
def ansQ (o : Oper) (s : St) (K : St → Option ρ) (v : AV) : Option ρ := match scalarB v with
  | true => K (s.put o.dst v)
  | false => none
def noRoB : List AV → Bool
  | [] => true
  | v :: l => match v with
    | .ro _ _ => false
    | _ => noRoB l
def pureB (o : Oper) : Bool := match o.op with
  | .build t _ => noRoB (zero t)
  | .move _ | .assign _ | .pick _ _ _ | .binOp _ _ _ _ _ | .unOp _ _ _ | .convert _ _ _ | .extract _ _ | .nilCheck _ | .indexAddr _ _ _ | .fieldAddr _ _ _ | .field _ _ _ | .load _ _ | .makeFunc _ _ _ | .makeInterface _ _ | .typeAssert _ _ _ _ => true
  | .call c => match c.callee with
    | .builtin b => match b with
      | .len => true
      | .max => true
      | .min => true
      | _ => false
    | _ => false
  | _ => false
/-- Operations that only yield. -/
def opQ (OQ : QOrc) (o : Oper) (s : St) (K : St → Option ρ) : Option ρ := match o.op with
  | .call c => match c.callee with
    | .value f => match s.ev f, evs s c.args.toList with
      | some (.fn f caps), some vs => match OQ f (argsK s c.argTypes.toList vs ++ caps) s with
        | some q => q.x.bind fun r => ansQ o s K (q.enc r)
        | none => none
      | _, _ => none
    | .builtin b => match b with
      | .len => opK o s K
      | .max => opK o s K
      | .min => opK o s K
      | _ => none
    | _ => none
  | .makeFunc _ _ _ => opK o s K
  | .makeInterface _ _ => opK o s K
  | .typeAssert _ _ _ _ => opK o s K
  | .move x => match s.ev x with
    | some .nils => none
    | _ => opK o s K
  | .assign x => match s.ev x with
    | some .nils => none
    | _ => opK o s K
  | .pick _ _ _ => opK o s K
  | .binOp _ _ _ _ _ => opK o s K
  | .unOp _ _ _ => opK o s K
  | .convert _ _ _ => opK o s K
  | .extract _ _ => opK o s K
  | .nilCheck _ => opK o s K
  | .indexAddr _ _ _ => opK o s K
  | .fieldAddr _ _ _ => opK o s K
  | .field _ _ _ => opK o s K
  | .load _ _ => opK o s K
  | .build _ _ => match pureB o with
    | true => opK o s K
    | false => none
  | _ => none
/-- An operation that was not wanted has yielded nothing. -/
def isUndef : Option AV → Bool
  | some (.tup []) => true
  | _ => false
def runOpsQ (OQ : QOrc) (all : List Oper) : List Oper → St → (St → Option ρ) → Option ρ
  | [], s, K => K s
  | o :: l, s, K => match o.guard with
    | none => opQ OQ o s fun s => runOpsQ OQ all l s K
    | some (g, b) => match dstOf all g with
      | none => none
      | some d => match isUndef (get s.sl d) with
        | true => runOpsQ OQ all l (s.put o.dst (.tup [])) K
        | false => onB (get s.sl d) fun p i =>
        let on (s : St) := opQ OQ o s fun s => runOpsQ OQ all l s K
        let off (s : St) := runOpsQ OQ all l (s.put o.dst (.tup [])) K
        match b with
        | true => @ite _ p i (on (s.put (some d) tt)) (off (s.put (some d) ff))
        | false => @ite _ p i (off (s.put (some d) tt)) (on (s.put (some d) ff))
variable (O ON : Orc ρ) (OQ : QOrc)
def opC (o : Oper) (s : St) (K : St → Option ρ) : Option ρ := match o.op with
  | .call c => match c.callee with
    | .value f => match s.ev f, evs s c.args.toList with
      | some (.fn f caps), some vs => O f (argsK s c.argTypes.toList vs ++ caps) s fun v s' => K (s'.put o.dst v)
      | some (.bm f first), some vs => O f (first ++ argsK s c.argTypes.toList vs) s fun v s' => K (s'.put o.dst v)
      | _, _ => none
    | .invoke recv name => match s.ev recv, evs s c.args.toList with
      | some (.ifc t v), some vs => match meth t name with
        | some (f, none) => O f (v :: vs) s fun u s' => K (s'.put o.dst u)
        | some (f, some et) => match v with
          | .ptr i off => match s.look i with
            | .box _ cs => ofCells et ((cs.drop off).take (szOf et)) fun u => O f (u :: vs) s fun z s' => K (s'.put o.dst z)
            | _ => none
          | _ => none
        | none => none
      | _, _ => none
    | _ => opK o s K
  | _ => opK o s K
def runOps (all : List Oper) : List Oper → St → (St → Option ρ) → Option ρ
  | [], s, K => K s
  | o :: l, s, K => match o.guard with
    | none => opC O o s fun s => runOps all l s K
    | some (g, b) => match dstOf all g with
      | none => none
      | some d => match isUndef (get s.sl d) with
        | true => runOps all l (s.put o.dst (.tup [])) K
        | false => onB (get s.sl d) fun p i =>
        let on (s : St) := opC O o s fun s => runOps all l s K
        let off (s : St) := runOps all l (s.put o.dst (.tup [])) K
        match b with
        | true => @ite _ p i (on (s.put (some d) tt)) (off (s.put (some d) ff))
        | false => @ite _ p i (off (s.put (some d) tt)) (on (s.put (some d) ff))
def idx (i : Nat) : List Nat → Option Nat
  | [] => none
  | j :: l => match Nat.beq i j with
    | true => some 0
    | false => match idx i l with
      | some k => some (k + 1)
      | none => none
def memB (i : Nat) (l : List Nat) : Bool := match idx i l with
  | some _ => true
  | none => false
def noQ : QOrc := fun _ _ _ => none
/-- An operation under its guard. -/
def guardK (all : List Oper) (o : Oper) (s : St) (on off : St → Option ρ) : Option ρ := match o.guard with
  | none => on s
  | some (g, b) => match dstOf all g with
    | none => none
    | some d => match isUndef (get s.sl d) with
      | true => off s
      | false => onB (get s.sl d) fun p i => match b with
        | true => @ite _ p i (on (s.put (some d) tt)) (off (s.put (some d) ff))
        | false => @ite _ p i (off (s.put (some d) tt)) (on (s.put (some d) ff))
def preIdx : List Oper → Nat → List Nat → List Nat
  | [], _, acc => acc
  | o :: l, i, acc => match pureB o && o.after.toList.all (fun e => !Region.binds .any e || memB e.on acc) with
    | true => preIdx l (i + 1) (acc ++ [i])
    | false => preIdx l (i + 1) acc
def restIdx (pre : List Nat) : Nat → List Nat
  | 0 => []
  | n + 1 => match memB n pre with
    | true => restIdx pre n
    | false => restIdx pre n ++ [n]
def loadB (o : Oper) : Bool := match o.op with
  | .load _ _ => true
  | _ => false
def runPre (all : Array Oper) (ds : List Nat) : List Nat → Array Bool → St → (Array Bool → St → Option ρ) → Option ρ
  | [], l, s, K => K l s
  | i :: is, l, s, K => match all[i]? with
    | none => none
    | some o => match takeB .any all ds l (l.setIfInBounds i true) i || (!loadB o && anyB .any all l (l.setIfInBounds i true) i) with
      | false => none
      | true => guardK all.toList o s (fun s => opQ noQ o s fun s => runPre all ds is (l.setIfInBounds i true) s K) (fun s => runPre all ds is (l.setIfInBounds i true) (s.put o.dst (.tup [])) K)
def runPost (all : Array Oper) : List Nat → Array Bool → St → (St → Option ρ) → Option ρ
  | [], l, s, K => match Region.ready .any all l == [] with
    | true => K s
    | false => none
  | i :: is, l, s, K => match all[i]? with
    | none => none
    | some o => match pureB o && !loadB o && anyB .any all l (l.setIfInBounds i true) i with
      | true => guardK all.toList o s (fun s => opQ noQ o s fun s => runPost all is (l.setIfInBounds i true) s K) (fun s => runPost all is (l.setIfInBounds i true) (s.put o.dst (.tup [])) K)
      | false => match readyB .any all l (l.setIfInBounds i true) i with
        | false => none
        | true => guardK all.toList o s (fun s => opC O o s fun s => runPost all is (l.setIfInBounds i true) s K) (fun s => runPost all is (l.setIfInBounds i true) (s.put o.dst (.tup [])) K)
/-- Operations that only make what is new. -/
def mkB (o : Oper) : Bool := match pureB o with
  | true => true
  | false => match o.op with
    | .alloc _ => true
    | .box _ _ => true
    | .build _ _ => true
    | .buildSlice _ _ _ => true
    | .makeSlice _ _ _ => true
    | _ => false
def runMid (all : Array Oper) : List Nat → Array Bool → St → (Array Bool → St → Option ρ) → Option ρ
  | [], l, s, K => K l s
  | i :: is, l, s, K => match all[i]? with
    | none => none
    | some o => match readyB .any all l (l.setIfInBounds i true) i && mkB o with
      | false => none
      | true => guardK all.toList o s (fun s => opK o s fun s => runMid all is (l.setIfInBounds i true) s K) (fun s => runMid all is (l.setIfInBounds i true) (s.put o.dst (.tup [])) K)
def midIdx (all : Array Oper) : List Nat → List Nat
  | [] => []
  | i :: l => match all[i]? with
    | some o => match mkB o with
      | true => i :: midIdx all l
      | false => []
    | none => []
def runE (all : Array Oper) (pre mid ds : List Nat) (s : St) (K : St → Option ρ) : Option ρ := match Nat.beq (pre.length + (mid.length + ds.length)) all.size with
  | true => runPre all ds pre (Array.replicate all.size false) s fun l s => runMid all mid l s fun l s => runPost O all ds l s K
  | false => none
def runEM (all : Array Oper) (s : St) (K : St → Option ρ) (pre rest mid : List Nat) : Option ρ := runE O all pre mid (rest.drop mid.length) s K
def runER (all : Array Oper) (s : St) (K : St → Option ρ) (pre rest : List Nat) : Option ρ := runEM O all s K pre rest (midIdx all rest)
def runEW (all : Array Oper) (s : St) (K : St → Option ρ) (pre : List Nat) : Option ρ := runER O all s K pre (restIdx pre all.size)
def quietB (qs : Nat → Bool) (o : Oper) : Bool := match pureB o with
  | true => true
  | false => match o.op with
    | .call c => match c.callee with
      | .value f => match f with
        | .func f => qs f
        | _ => false
      | _ => false
    | _ => false
/-- What a run is told: which functions only yield, which only make what is new, which regions are run in each order. -/
structure Cfg where
  qs : Nat → Bool
  ms : Nat → Bool
  xs : Nat → Bool
def makerB (ms : Nat → Bool) (o : Oper) : Bool := match o.op with
  | .call c => match c.callee with
    | .value f => match f with
      | .func f => ms f
      | _ => false
    | _ => false
  | _ => false
/-- All of them answer the same. -/
noncomputable def ambL : List (Option ρ) → Option ρ
  | [] => none
  | [x] => x
  | x :: l => @ite _ (x = ambL l) (Classical.propDecidable _) x none
def effIdx (ms : Nat → Bool) : List Oper → Nat → List Nat
  | [], _ => []
  | o :: l, i => match mkB o with
    | true => effIdx ms l (i + 1)
    | false => match makerB ms o with
      | true => effIdx ms l (i + 1)
      | false => i :: effIdx ms l (i + 1)
def canNext (all : Array Oper) (ds : List Nat) (fresh : Bool) (l : Array Bool) (i : Nat) : Bool := match l.getD i true with
  | true => false
  | false => match all[i]? with
    | none => false
    | some o => match pureB o with
      | false => false
      | true => match fresh && takeB .any all ds l (l.setIfInBounds i true) i with
        | true => true
        | false => !loadB o && anyB .any all l (l.setIfInBounds i true) i
def nextI (all : Array Oper) (ds : List Nat) (fresh : Bool) (l : Array Bool) : List Nat → Option Nat
  | [] => none
  | i :: is => match canNext all ds fresh l i with
    | true => some i
    | false => nextI all ds fresh l is
def indices : Nat → List Nat
  | 0 => []
  | n + 1 => indices n ++ [n]
noncomputable def runAll (ms : Nat → Bool) (all : Array Oper) (ds : List Nat) : Nat → Bool → Array Bool → St → (St → Option ρ) → Option ρ
  | 0, _, l, s, K => match Region.ready .any all l with
    | [] => K s
    | _ :: _ => none
  | n + 1, fresh, l, s, K => match nextI all ds fresh l (indices all.size) with
    | some i => match all[i]? with
      | none => none
      | some o => guardK all.toList o s (fun s => opQ noQ o s fun s => runAll ms all ds n fresh (l.setIfInBounds i true) s K) (fun s => runAll ms all ds n fresh (l.setIfInBounds i true) (s.put o.dst (.tup [])) K)
    | none => match Region.ready .any all l with
      | [] => none
      | r => ambL (r.map fun i => match all[i]? with
        | none => none
        | some o => match pureB o with
          | true => guardK all.toList o s (fun s => opQ noQ o s fun s => runAll ms all ds n fresh (l.setIfInBounds i true) s K) (fun s => runAll ms all ds n fresh (l.setIfInBounds i true) (s.put o.dst (.tup [])) K)
          | false => match mkB o with
            | true => guardK all.toList o s (fun s => opK o s fun s => runAll ms all ds n false (l.setIfInBounds i true) s K) (fun s => runAll ms all ds n false (l.setIfInBounds i true) (s.put o.dst (.tup [])) K)
            | false => match makerB ms o with
              | true => guardK all.toList o s (fun s => opC ON o s fun s => runAll ms all ds n false (l.setIfInBounds i true) s K) (fun s => runAll ms all ds n false (l.setIfInBounds i true) (s.put o.dst (.tup [])) K)
              | false => guardK all.toList o s (fun s => opC O o s fun s => runAll ms all ds n false (l.setIfInBounds i true) s K) (fun s => runAll ms all ds n false (l.setIfInBounds i true) (s.put o.dst (.tup [])) K))
noncomputable def exec (cf : Cfg) (stop : Nat → St → Option (Option ρ)) (ret : St → Option ρ) : Nat → List It → St → Option ρ
  | 0, _, _ => none
  | n + 1, T, s => match T with
    | [] => ret s
    | .blk _ :: T => exec cf stop ret n T s
    | .lp c :: T => exec cf stop ret n (.code c :: .lp c :: T) s
    | .reg id ops draw :: T => match draw with
      | false => runOps O ops.toList ops.toList s (exec cf stop ret n T)
      | true => match ops.toList.all (quietB cf.qs) with
        | true => match Region.lexB .any ops with
          | true => runOpsQ OQ ops.toList ops.toList s (exec cf stop ret n T)
          | false => none
        | false => match cf.xs id with
          | true => runAll O ON cf.ms ops (effIdx cf.ms ops.toList 0) ops.size true (Array.replicate ops.size false) s (exec cf stop ret n T)
          | false => runEW O ops s (exec cf stop ret n T) (preIdx ops.toList 0 [])
    | .code c :: T => match c with
      | .skip => exec cf stop ret n T s
      | .seq a b => exec cf stop ret n (.code a :: .code b :: T) s
      | .cond o a b => match o with
        | .tmp t => onB (get s.sl t) fun p d => @ite _ p d (exec cf stop ret n (.code a :: T) (s.put (some t) tt)) (exec cf stop ret n (.code b :: T) (s.put (some t) ff))
        | o => onB (s.ev o) fun p d => @ite _ p d (exec cf stop ret n (.code a :: T) s) (exec cf stop ret n (.code b :: T) s)
      | .block id c => exec cf stop ret n (.code c :: .blk id :: T) s
      | .loop c => exec cf stop ret n (.code c :: .lp c :: T) s
      | .exit id => match popTo id T with
        | some T => exec cf stop ret n T s
        | none => none
      | .ret => ret s
      | .region id ops draw => match stop id s with
        | some r => r
        | none => exec cf stop ret n (.reg id ops draw :: T) s
      | _ => none
/-- Where each region stands: with all that follows it. -/
def stacks : Code → List It → List (Nat × List It)
  | .seq a b, T => stacks a (.code b :: T) ++ stacks b T
  | .cond _ a b, T => stacks a T ++ stacks b T
  | .block id c, T => stacks c (.blk id :: T)
  | .loop c, T => stacks c (.lp c :: T)
  | .region id ops draw, T => [(id, .reg id ops draw :: T)]
  | _, _ => []
def stackAt (c : Code) (id : Nat) : List It := match get (stacks c []) id with
  | some T => T
  | none => []
mutual
/-- A value, the objects of m by their places there. -/
def rn (s : St) (m : List Nat) : AV → AV
  | .bl p d => .bo (@decide p d)
  | .agg l => .agg (rnL s m l)
  | .tup l => .tup (rnL s m l)
  | .own i => match s.look i with
    | .row _ _ => match idx i m with
      | some j => .own j
      | none => .lost
    | .fro t xs => .ro t xs
    | _ => .lost
  | .ptr i off => match idx i m with
    | some j => .ptr j off
    | none => .lost
  | .elp i t j off => match s.look i with
    | .row _ _ => match idx i m with
      | some q => .elp q t j off
      | none => .lost
    | _ => .lost
  | .ela _ _ _ _ _ => .lost
  | .cut _ _ _ => .lost
  | .mp i => match idx i m with
    | some j => .mp j
    | none => .lost
  | .bm f first => .bm f (rnL s m first)
  | .vro t vs => .vro t (rnL s m vs)
  | .nilf => .nilf
  | .nilm => .nilm
  | .rop cs => .rop (rnL s m cs)
  | .fn f caps => .fn f (rnL s m caps)
  | .ifc t v => .ifc t (rn s m v)
  | .int k n => .int k n
  | .bo b => .bo b
  | .str b => .str b
  | .nili => .nili
  | .nils => .nils
  | .nilp => .nilp
  | .ro t xs => .ro t xs
  | .lost => .lost
def rnL (s : St) (m : List Nat) : List AV → List AV
  | [] => []
  | v :: l => rn s m v :: rnL s m l
end
def rnO (s : St) (m : List Nat) : Ob → Ob
  | .box t cs => .box t (rnL s m cs)
  | o => o
def obsOf (s : St) (m : List Nat) : List Nat → List Ob
  | [] => []
  | i :: l => rnO s m (s.look i) :: obsOf s m l
mutual
/-- The objects that a value leads to at once. -/
def ids : AV → List Nat
  | .agg l => idsL l
  | .tup l => idsL l
  | .own i => [i]
  | .ptr i _ => [i]
  | .rop cs => idsL cs
  | .fn _ caps => idsL caps
  | .ifc _ v => ids v
  | .elp i _ _ _ => [i]
  | .mp i => [i]
  | .bm _ first => idsL first
  | .vro _ vs => idsL vs
  | _ => []
def idsL : List AV → List Nat
  | [] => []
  | v :: l => ids v ++ idsL l
end
def ord (s : St) : Nat → List Nat → List Nat → List Nat
  | 0, _, acc => acc
  | _ + 1, [], acc => acc
  | n + 1, i :: l, acc => match memB i acc with
    | true => ord s n l acc
    | false => match s.look i with
      | .box _ cs => ord s n (idsL cs ++ l) (acc ++ [i])
      | .row _ _ => ord s n l (acc ++ [i])
      | .arr _ _ _ => ord s n l (acc ++ [i])
      | .map _ _ _ _ => ord s n l (acc ++ [i])
      | _ => ord s n l acc
def nodupB : List Nat → Bool
  | [] => true
  | i :: l => match memB i l with
    | true => false
    | false => nodupB l
def hpFrom : Nat → List Ob → List (Nat × Ob)
  | _, [] => []
  | k, o :: l => (k, o) :: hpFrom (k + 1) l
def upto : Nat → List Nat
  | 0 => []
  | n + 1 => upto n ++ [n]
/-- The first np objects' contents lead to these. -/
def inner (s : St) : List Nat → List Nat
  | [] => []
  | i :: l => match s.look i with
    | .box _ cs => idsL cs ++ inner s l
    | _ => inner s l
def pick (s : St) : List Nat → (List AV → Option ρ) → Option ρ
  | [], K => K []
  | i :: l, K => match get s.sl i with
    | some v => pick s l fun vs => K (v :: vs)
    | none => none
/-- Values and objects, by numbers of their own: the first np objects keep theirs. -/
def canonM (s : St) (vs : List AV) (J : List AV → List Ob → Option ρ) (m : List Nat) : Option ρ := match nodupB m with
  | true => J (rnL s m vs) (obsOf s m m)
  | false => none
def canonK (np : Nat) (s : St) (vs : List AV) (J : List AV → List Ob → Option ρ) : Option ρ := canonM s vs J (ord s 1000 (inner s (upto np) ++ idsL vs) (upto np))
def zipS : List Nat → List AV → List (Nat × AV)
  | i :: l, v :: vs => (i, v) :: zipS l vs
  | _, _ => []
/-- A state told by its slots' values and its objects. -/
def mkS (md n : Nat) (live : List Nat) (vs : List AV) (obs : List Ob) : St := ⟨n, zipS live vs, hpFrom 0 obs, obs.length, md⟩
mutual
def subV (i j : Nat) : AV → AV
  | .own k => match Nat.beq k i with
    | true => .own j
    | false => .own k
  | .elp k t q off => match Nat.beq k i with
    | true => .elp j t q off
    | false => .elp k t q off
  | .agg l => .agg (subL i j l)
  | .tup l => .tup (subL i j l)
  | .rop l => .rop (subL i j l)
  | .fn f l => .fn f (subL i j l)
  | .bm f l => .bm f (subL i j l)
  | .vro t l => .vro t (subL i j l)
  | .ifc t v => .ifc t (subV i j v)
  | .int k n => .int k n
  | .bl p d => .bl p d
  | .bo b => .bo b
  | .str b => .str b
  | .nili => .nili
  | .nils => .nils
  | .nilp => .nilp
  | .nilf => .nilf
  | .nilm => .nilm
  | .ro t xs => .ro t xs
  | .cut i lo n => .cut i lo n
  | .ptr i off => .ptr i off
  | .ela i t e j off => .ela i t e j off
  | .mp i => .mp i
  | .lost => .lost
def subL (i j : Nat) : List AV → List AV
  | [] => []
  | v :: l => subV i j v :: subL i j l
end
def subO (i j : Nat) : Ob → Ob
  | .box t cs => .box t (subL i j cs)
  | o => o
def subSl (i j : Nat) : List (Nat × AV) → List (Nat × AV)
  | [] => []
  | (k, v) :: l => (k, subV i j v) :: subSl i j l
def subHp (i j : Nat) : List (Nat × Ob) → List (Nat × Ob)
  | [] => []
  | (k, o) :: l => (k, subO i j o) :: subHp i j l
def St.sub (s : St) (i j : Nat) : St := { s with sl := subSl i j s.sl, hp := subHp i j s.hp }
def ren1 (i : Nat) (s : St) : St := match s.look i with
  | .row t xs => ((s.obj i .dead).new (.row t xs)).sub i s.nx
  | _ => s
def renAll : List Nat → St → St
  | [], s => s
  | i :: l, s => renAll l (ren1 i s)
/-- Results: slots, or variables in memory. -/
def resL (s : St) : List ResultVar → (List AV → Option ρ) → Option ρ
  | [], K => K []
  | .tmp t :: l, K => match get s.sl t with
    | some v => resL s l fun vs => K (v :: vs)
    | none => none
  | .cell d t :: l, K => match get s.sl d with
    | some (.ptr i o) => match s.look i with
      | .box _ cs => ofCells t ((cs.drop o).take (szOf t)) fun v => resL s l fun vs => K (v :: vs)
      | _ => none
    | _ => none
def resV (vs : List AV) (K : AV → Option ρ) : Option ρ := match vs with
  | [v] => K v
  | vs => K (.tup vs)
def retS (rs : List ResultVar) (np : Nat) (Kf : AV → List Ob → Option ρ) (s : St) : Option ρ := resL s rs fun vs => resV vs fun v => canonK np s [v] fun us obs => match us with
  | [u] => Kf u obs
  | _ => none
def retK (rs : List ResultVar) (np : Nat) (ren : List Nat) (Kf : AV → List Ob → Option ρ) (s : St) : Option ρ := retS rs np Kf (renAll ren s)
/-- The places where a run stops, and what goes on from there. -/
def stopS (np : Nat) (L : List Nat) (J : List AV → List Ob → Option ρ) (s : St) : Option ρ := pick s L fun vs => canonK np s vs J
def stopK (live : Nat → Option (List Nat)) (np : Nat) (ren : List Nat) (J : Nat → List AV → List Ob → Option ρ) (id : Nat) (s : St) : Option (Option ρ) := match live id with
  | some L => some (stopS np L (J id) (renAll ren s))
  | none => none
/-- A function's run: from its beginning, or from a stop. -/
noncomputable def runF (ren : List Nat) (cf : Cfg) (O ON : Orc ρ) (OQ : QOrc) (fn : Func) (live : Nat → Option (List Nat)) (np : Nat) (J : Nat → List AV → List Ob → Option ρ) (Kf : AV → List Ob → Option ρ) (T : List It) (s : St) : Option ρ := exec O ON OQ cf (stopK live np ren J) (retK fn.results.toList np ren Kf) 100000 T s
def bodyOf (fn : Func) : Code := match fn.body with
  | some c => c
  | none => .skip
/-- What a function answers: arguments, objects; how it goes on with its result and the objects behind. -/
def Cps : Type 1 := (ρ : Type) → List AV → List Ob → (AV → List Ob → Option ρ) → Option ρ
mutual
def rowIds : AV → List Nat
  | .own i => [i]
  | .agg l => rowIdsL l
  | _ => []
def rowIdsL : List AV → List Nat
  | [] => []
  | v :: l => rowIds v ++ rowIdsL l
end
/-- md: which arguments the function may write; the rows in the others are lent. -/
def lentIds : List Bool → List AV → List Nat
  | _, [] => []
  | true :: md, _ :: l => lentIds md l
  | false :: md, v :: l => rowIds v ++ lentIds md l
  | [], v :: l => rowIds v ++ lentIds [] l
/-- Rows frozen. -/
def frzS : List Nat → St → St
  | [], s => s
  | i :: l, s => match s.look i with
    | .row t xs => frzS l (s.obj i (.fro t xs))
    | _ => frzS l s
def allLt : List Nat → Nat → Bool
  | [], _ => true
  | i :: l, n => match Nat.blt i n with
    | true => allLt l n
    | false => false
mutual
def flatV : AV → Bool
  | .ro _ _ => false
  | .rop _ => false
  | .vro _ _ => false
  | .bm _ l => flatL l
  | .agg l => flatL l
  | .tup l => flatL l
  | .fn _ l => flatL l
  | .ifc _ v => flatV v
  | _ => true
def flatL : List AV → Bool
  | [] => true
  | v :: l => match flatV v with
    | true => flatL l
    | false => false
end
def flatO : Ob → Bool
  | .box _ cs => flatL cs
  | .row t _ => flat t
  | .arr _ _ _ => false
  | .map _ _ _ _ => false
  | .fro _ _ => false
  | .dead => true
def flatOs : List Ob → Bool
  | [] => true
  | o :: l => match flatO o with
    | true => flatOs l
    | false => false
def bkI (m : List Nat) (nx q : Nat) : Nat := match m[q]? with
  | some i => i
  | none => nx + (q - m.length)
mutual
/-- A call's answer, by the caller's numbers. -/
def bkV (m : List Nat) (nx : Nat) : AV → AV
  | .agg l => .agg (bkL m nx l)
  | .tup l => .tup (bkL m nx l)
  | .own i => .own (bkI m nx i)
  | .ptr i off => .ptr (bkI m nx i) off
  | .rop cs => .rop (bkL m nx cs)
  | .fn f caps => .fn f (bkL m nx caps)
  | .ifc t v => .ifc t (bkV m nx v)
  | .int k n => .int k n
  | .bl p d => .bl p d
  | .bo b => .bo b
  | .str b => .str b
  | .nili => .nili
  | .nils => .nils
  | .nilp => .nilp
  | .nilf => .nilf
  | .nilm => .nilm
  | .ro t xs => .ro t xs
  | .elp i t j off => .elp (bkI m nx i) t j off
  | .mp i => .mp (bkI m nx i)
  | .bm f l => .bm f (bkL m nx l)
  | .vro t l => .vro t (bkL m nx l)
  | _ => .lost
def bkL (m : List Nat) (nx : Nat) : List AV → List AV
  | [] => []
  | v :: l => bkV m nx v :: bkL m nx l
end
def bkO (m : List Nat) (nx : Nat) : Ob → Ob
  | .box t cs => .box t (bkL m nx cs)
  | o => o
def bkH (m : List Nat) (nx : Nat) : Nat → List Ob → List (Nat × Ob) → List (Nat × Ob)
  | _, [], hp => hp
  | q, o :: l, hp => (bkI m nx q, bkO m nx o) :: bkH m nx (q + 1) l hp
def callM (cps : Cps) (s s1 : St) (vs : List AV) (K : AV → St → Option ρ) (m : List Nat) : Option ρ :=
  match nodupB m with
  | false => none
  | true => match allLt m s.nx with
    | false => none
    | true => cps ρ (rnL s1 m vs) (obsOf s1 m m) fun res obs => match Nat.ble m.length obs.length with
      | false => none
      | true => match flatV res with
        | true => match flatOs obs with
          | true => K (bkV m s.nx res) { s with hp := bkH m s.nx 0 obs s.hp, nx := s.nx + (obs.length - m.length) }
          | false => K (bkV m s.nx res) { s1 with hp := bkH m s.nx 0 obs s1.hp, nx := s.nx + (obs.length - m.length) }
        | false => K (bkV m s.nx res) { s1 with hp := bkH m s.nx 0 obs s1.hp, nx := s.nx + (obs.length - m.length) }
def callF (cps : Cps) (s : St) (vs : List AV) (K : AV → St → Option ρ) (s1 : St) : Option ρ := callM cps s s1 vs K (ord s1 1000 (idsL vs) [])
/-- A call: the rows that are lent are frozen; if nothing that is left leads to them, they are the caller's own again. -/
def callK (cps : Cps) (md : List Bool) (vs : List AV) (s : St) (K : AV → St → Option ρ) : Option ρ := callF cps s vs K (frzS (lentIds md vs) s)
/-- A call that is handed no object. -/
def callN1 (cps : Cps) (md : List Bool) (vs : List AV) (s : St) (K : AV → St → Option ρ) : List Nat → Option ρ
  | [] => callK cps md vs s K
  | _ :: _ => none
def callN (cps : Cps) (md : List Bool) (vs : List AV) (s : St) (K : AV → St → Option ρ) : Option ρ := callN1 cps md vs s K (ord (frzS (lentIds md vs) s) 1000 (idsL vs) [])
end
end Go.Proofs.YtnlnjcgoodgmbaaM
