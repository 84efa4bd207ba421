/- The evaluator: an abstract run of the code of the program, in plain functions. -/
import GoSem.Step
import GoSem.Claims
/-! Abstract values, memory, results of the evaluator. -/
namespace Ev
open Go

inductive Pos where | z | d0 (p : Pos) | d1 (p : Pos) | d2 (p : Pos) | d3 (p : Pos) | d4 (p : Pos) | d5 (p : Pos) | d6 (p : Pos) | d7 (p : Pos) deriving Inhabited, DecidableEq
inductive FnV where | func (f : Nat) | yield (l : Pos)
inductive NK where | p | s | m | f | i deriving Inhabited, DecidableEq
/-- a value of one cell. 'i n': the int n; 'u n': the byte n; 'nat', 'neg': other integers (neg k n: -(n+1)); 'sl': a slice whose capacity is known; 'slu': one that reaches to its row's end -/
inductive Cell where
  | i (n : Nat) | u (n : Nat) | nat (k : IntKind) (n : Nat) | neg (k : IntKind) (n : Nat)
  | bool (b : Bool)
  | ptr (p : Pos) (off : Nat)
  | str (n x : Nat)
  | sl (p : Pos) (off len cap : Nat)
  | slu (p : Pos) (off len esz : Nat)
  | nil (k : NK)
  | map (p : Pos)
  | fn (f : FnV) (nf : Nat) (env : Cell)
  | cns (h t : Cell)
  | iface (t : Nat) (c : Cell)
  | undef
inductive PK where | u8 | b
inductive Rope where
  | nil
  | l (n : Nat) (cs : List Cell)
  | p (k : PK) (n x : Nat)
  | cat (n : Nat) (a b : Rope)
inductive El where | c (c : Cell) | a (r : Rope)
inductive RV where | c (c : Cell) | a (r : Rope) | t (l : List El)
structure MEnt where
  key : Cell
  val : El
  born : Nat
inductive ADef where
  | call (f : FnV) (args : List El)
  | mark (p : Pos)
structure Q where
  a : RV
  b : RV
  c : RV
  d : RV
structure Fr where
  q0 : Q
  q1 : Q
  q2 : Q
  q3 : Q
  more : List RV
  defs : List ADef
structure ALoop where
  state : LoopState
  pending : Option Code
  fn : Nat
  fr : Fr
  params : List Nat
  assign : Code
  body : Code
  defers : Pos
inductive Blk where
  | cells (r : Rope) (exact ro : Bool) (elem : Nat)
  | map (es : List MEnt) (clock : Nat)
  | strIter (n x pos : Nat)
  | mapIter (m : Option Pos) (since : Nat) (seen : List Nat) (stepped : Nat)
  | loop (l : ALoop)
  | deferred (ds : Option (List ADef))
inductive HT where | e | n (v : Option Blk) (c0 c1 c2 c3 c4 c5 c6 c7 : HT)
structure St where
  next : Pos
  heap : HT
  old : List HT
inductive R where | ok | bad (n : Nat) | out (v : RV) (s : St) | more (f : Unit → R)
instance : Inhabited R := ⟨.bad 0⟩
end Ev
/-! Eliminators, as the kernel likes them: closed recursors. -/
namespace Ev
open Go
set_option linter.unusedVariables false
noncomputable section
/-- force a number -/
def fz : Nat → (Nat → R) → R := @Nat.rec (fun _ => (Nat → R) → R) (fun k => k 0) (fun m _ k => k (Nat.succ m))
def rvC : RV → (Cell → R) → R := @RV.rec (fun _ => (Cell → R) → R) (fun y k => k y) (fun _ _ => .bad 901) (fun _ _ => .bad 901)
def rvRope : RV → (Rope → R) → R := @RV.rec (fun _ => (Rope → R) → R) (fun y k => k (.l 1 [y])) (fun r k => k r) (fun _ _ => .bad 902)
def rvEl : RV → (El → R) → R := @RV.rec (fun _ => (El → R) → R) (fun y k => k (.c y)) (fun r k => k (.a r)) (fun _ _ => .bad 903)
def cI : Cell → (Nat → R) → (Unit → R) → R := @Cell.rec (fun _ => (Nat → R) → (Unit → R) → R) (fun n a s => a n) (fun _ _ _ => .bad 904) (fun k n a s => s ()) (fun k n a s => s ()) (fun _ _ _ => .bad 904) (fun _ _ _ _ => .bad 904) (fun _ _ _ _ => .bad 904) (fun _ _ _ _ _ _ => .bad 904) (fun _ _ _ _ _ _ => .bad 904) (fun _ _ _ => .bad 904) (fun _ _ _ => .bad 904) (fun _ _ _ _ _ _ => .bad 904) (fun _ _ _ _ _ _ => .bad 904) (fun _ _ _ _ _ => .bad 904) (fun  _ _ => .bad 904)
def cU : Cell → (Nat → R) → (Unit → R) → R := @Cell.rec (fun _ => (Nat → R) → (Unit → R) → R) (fun _ _ _ => .bad 905) (fun n a s => a n) (fun k n a s => s ()) (fun k n a s => s ()) (fun _ _ _ => .bad 905) (fun _ _ _ _ => .bad 905) (fun _ _ _ _ => .bad 905) (fun _ _ _ _ _ _ => .bad 905) (fun _ _ _ _ _ _ => .bad 905) (fun _ _ _ => .bad 905) (fun _ _ _ => .bad 905) (fun _ _ _ _ _ _ => .bad 905) (fun _ _ _ _ _ _ => .bad 905) (fun _ _ _ _ _ => .bad 905) (fun  _ _ => .bad 905)
def cBool : Cell → (Bool → R) → R := @Cell.rec (fun _ => (Bool → R) → R) (fun _ _ => .bad 906) (fun _ _ => .bad 906) (fun _ _ _ => .bad 906) (fun _ _ _ => .bad 906) (fun b a => a b) (fun _ _ _ => .bad 906) (fun _ _ _ => .bad 906) (fun _ _ _ _ _ => .bad 906) (fun _ _ _ _ _ => .bad 906) (fun _ _ => .bad 906) (fun _ _ => .bad 906) (fun _ _ _ _ _ => .bad 906) (fun _ _ _ _ _ => .bad 906) (fun _ _ _ _ => .bad 906) (fun  _ => .bad 906)
def cPtr : Cell → (Pos → Nat → R) → R := @Cell.rec (fun _ => (Pos → Nat → R) → R) (fun _ _ => .bad 907) (fun _ _ => .bad 907) (fun _ _ _ => .bad 907) (fun _ _ _ => .bad 907) (fun _ _ => .bad 907) (fun p o a => a p o) (fun _ _ _ => .bad 907) (fun _ _ _ _ _ => .bad 907) (fun _ _ _ _ _ => .bad 907) (fun _ _ => .bad 907) (fun _ _ => .bad 907) (fun _ _ _ _ _ => .bad 907) (fun _ _ _ _ _ => .bad 907) (fun _ _ _ _ => .bad 907) (fun  _ => .bad 907)
def cN : Cell → (Nat → R) → R := @Cell.rec (fun _ => (Nat → R) → R) (fun n a => a n) (fun n a => a n) (fun k n a => a n) (fun _ _ _ => .bad 908) (fun _ _ => .bad 908) (fun _ _ _ => .bad 908) (fun _ _ _ => .bad 908) (fun _ _ _ _ _ => .bad 908) (fun _ _ _ _ _ => .bad 908) (fun _ _ => .bad 908) (fun _ _ => .bad 908) (fun _ _ _ _ _ => .bad 908) (fun _ _ _ _ _ => .bad 908) (fun _ _ _ _ => .bad 908) (fun  _ => .bad 908)
def vI : RV → (Nat → R) → (Unit → R) → R := @RV.rec (fun _ => (Nat → R) → (Unit → R) → R) cI (fun _ _ _ => .bad 910) (fun _ _ _ => .bad 910)
def vU : RV → (Nat → R) → (Unit → R) → R := @RV.rec (fun _ => (Nat → R) → (Unit → R) → R) cU (fun _ _ _ => .bad 910) (fun _ _ _ => .bad 910)
def vBool : RV → (Bool → R) → R := @RV.rec (fun _ => (Bool → R) → R) cBool (fun _ _ => .bad 910) (fun _ _ => .bad 910)
def vPtr : RV → (Pos → Nat → R) → R := @RV.rec (fun _ => (Pos → Nat → R) → R) cPtr (fun _ _ => .bad 910) (fun _ _ => .bad 910)
def vN : RV → (Nat → R) → R := @RV.rec (fun _ => (Nat → R) → R) cN (fun _ _ => .bad 910) (fun _ _ => .bad 910)
def sel0 : List RV → (RV → R) → R := @List.rec RV (fun _ => (RV → R) → R) (fun _ => .bad 911) (fun v _ _ k => k v)
def selS (g : List RV → (RV → R) → R) : List RV → (RV → R) → R := @List.rec RV (fun _ => (RV → R) → R) (fun _ => .bad 911) (fun _ l _ k => g l k)
def setS0 : List RV → RV → (List RV → R) → R := @List.rec RV (fun _ => RV → (List RV → R) → R) (fun _ _ => .bad 912) (fun _ l _ x k => k (x :: l))
def setSS (g : List RV → RV → (List RV → R) → R) : List RV → RV → (List RV → R) → R := @List.rec RV (fun _ => RV → (List RV → R) → R) (fun _ _ => .bad 912) (fun v l _ x k => g l x (fun l => k (v :: l)))
def qg0 : Q → (RV → R) → R := @Q.rec (fun _ => (RV → R) → R) (fun a b c d k => k a)
def qs0 : Q → RV → (Q → R) → R := @Q.rec (fun _ => RV → (Q → R) → R) (fun a b c d x k => k ⟨x, b, c, d⟩)
def qg1 : Q → (RV → R) → R := @Q.rec (fun _ => (RV → R) → R) (fun a b c d k => k b)
def qs1 : Q → RV → (Q → R) → R := @Q.rec (fun _ => RV → (Q → R) → R) (fun a b c d x k => k ⟨a, x, c, d⟩)
def qg2 : Q → (RV → R) → R := @Q.rec (fun _ => (RV → R) → R) (fun a b c d k => k c)
def qs2 : Q → RV → (Q → R) → R := @Q.rec (fun _ => RV → (Q → R) → R) (fun a b c d x k => k ⟨a, b, x, d⟩)
def qg3 : Q → (RV → R) → R := @Q.rec (fun _ => (RV → R) → R) (fun a b c d k => k d)
def qs3 : Q → RV → (Q → R) → R := @Q.rec (fun _ => RV → (Q → R) → R) (fun a b c d x k => k ⟨a, b, c, x⟩)
def fg0 (g : Q → (RV → R) → R) : Fr → (RV → R) → R := @Fr.rec (fun _ => (RV → R) → R) (fun q0 q1 q2 q3 _ _ k => g q0 k)
def fs0 (g : Q → RV → (Q → R) → R) : Fr → RV → (Fr → R) → R := @Fr.rec (fun _ => RV → (Fr → R) → R) (fun q0 q1 q2 q3 more defs x k => g q0 x (fun q => k ⟨q, q1, q2, q3, more, defs⟩))
def fg1 (g : Q → (RV → R) → R) : Fr → (RV → R) → R := @Fr.rec (fun _ => (RV → R) → R) (fun q0 q1 q2 q3 _ _ k => g q1 k)
def fs1 (g : Q → RV → (Q → R) → R) : Fr → RV → (Fr → R) → R := @Fr.rec (fun _ => RV → (Fr → R) → R) (fun q0 q1 q2 q3 more defs x k => g q1 x (fun q => k ⟨q0, q, q2, q3, more, defs⟩))
def fg2 (g : Q → (RV → R) → R) : Fr → (RV → R) → R := @Fr.rec (fun _ => (RV → R) → R) (fun q0 q1 q2 q3 _ _ k => g q2 k)
def fs2 (g : Q → RV → (Q → R) → R) : Fr → RV → (Fr → R) → R := @Fr.rec (fun _ => RV → (Fr → R) → R) (fun q0 q1 q2 q3 more defs x k => g q2 x (fun q => k ⟨q0, q1, q, q3, more, defs⟩))
def fg3 (g : Q → (RV → R) → R) : Fr → (RV → R) → R := @Fr.rec (fun _ => (RV → R) → R) (fun q0 q1 q2 q3 _ _ k => g q3 k)
def fs3 (g : Q → RV → (Q → R) → R) : Fr → RV → (Fr → R) → R := @Fr.rec (fun _ => RV → (Fr → R) → R) (fun q0 q1 q2 q3 more defs x k => g q3 x (fun q => k ⟨q0, q1, q2, q, more, defs⟩))
def fgM (g : List RV → (RV → R) → R) : Fr → (RV → R) → R := @Fr.rec (fun _ => (RV → R) → R) (fun _ _ _ _ m _ k => g m k)
def fsM (g : List RV → RV → (List RV → R) → R) : Fr → RV → (Fr → R) → R := @Fr.rec (fun _ => RV → (Fr → R) → R) (fun q0 q1 q2 q3 m ds x k => g m x (fun m => k ⟨q0, q1, q2, q3, m, ds⟩))
def oGet : Option Blk → (Blk → R) → R := @Option.rec Blk (fun _ => (Blk → R) → R) (fun _ => .bad 920) (fun b k => k b)
def hGet : Pos → HT → (Blk → R) → R := @Pos.rec (fun _ => HT → (Blk → R) → R)
  (@HT.rec (fun _ => (Blk → R) → R) (fun _ => .bad 920) (fun v _ _ _ _ _ _ _ _ _ _ _ _ _ _ _ _ k => oGet v k))
  (fun _ g => @HT.rec (fun _ => (Blk → R) → R) (fun _ => .bad 920) (fun _ c0 c1 c2 c3 c4 c5 c6 c7 _ _ _ _ _ _ _ _ k => g c0 k))
  (fun _ g => @HT.rec (fun _ => (Blk → R) → R) (fun _ => .bad 920) (fun _ c0 c1 c2 c3 c4 c5 c6 c7 _ _ _ _ _ _ _ _ k => g c1 k))
  (fun _ g => @HT.rec (fun _ => (Blk → R) → R) (fun _ => .bad 920) (fun _ c0 c1 c2 c3 c4 c5 c6 c7 _ _ _ _ _ _ _ _ k => g c2 k))
  (fun _ g => @HT.rec (fun _ => (Blk → R) → R) (fun _ => .bad 920) (fun _ c0 c1 c2 c3 c4 c5 c6 c7 _ _ _ _ _ _ _ _ k => g c3 k))
  (fun _ g => @HT.rec (fun _ => (Blk → R) → R) (fun _ => .bad 920) (fun _ c0 c1 c2 c3 c4 c5 c6 c7 _ _ _ _ _ _ _ _ k => g c4 k))
  (fun _ g => @HT.rec (fun _ => (Blk → R) → R) (fun _ => .bad 920) (fun _ c0 c1 c2 c3 c4 c5 c6 c7 _ _ _ _ _ _ _ _ k => g c5 k))
  (fun _ g => @HT.rec (fun _ => (Blk → R) → R) (fun _ => .bad 920) (fun _ c0 c1 c2 c3 c4 c5 c6 c7 _ _ _ _ _ _ _ _ k => g c6 k))
  (fun _ g => @HT.rec (fun _ => (Blk → R) → R) (fun _ => .bad 920) (fun _ c0 c1 c2 c3 c4 c5 c6 c7 _ _ _ _ _ _ _ _ k => g c7 k))
def hSet : Pos → HT → Option Blk → (HT → R) → R := @Pos.rec (fun _ => HT → Option Blk → (HT → R) → R)
  (@HT.rec (fun _ => Option Blk → (HT → R) → R) (fun x k => k (.n x .e .e .e .e .e .e .e .e)) (fun _ c0 c1 c2 c3 c4 c5 c6 c7 _ _ _ _ _ _ _ _ x k => k (.n x c0 c1 c2 c3 c4 c5 c6 c7)))
  (fun _ g => @HT.rec (fun _ => Option Blk → (HT → R) → R) (fun x k => g .e x (fun t => k (.n none t .e .e .e .e .e .e .e))) (fun v c0 c1 c2 c3 c4 c5 c6 c7 _ _ _ _ _ _ _ _ x k => g c0 x (fun t => k (.n v t c1 c2 c3 c4 c5 c6 c7))))
  (fun _ g => @HT.rec (fun _ => Option Blk → (HT → R) → R) (fun x k => g .e x (fun t => k (.n none .e t .e .e .e .e .e .e))) (fun v c0 c1 c2 c3 c4 c5 c6 c7 _ _ _ _ _ _ _ _ x k => g c1 x (fun t => k (.n v c0 t c2 c3 c4 c5 c6 c7))))
  (fun _ g => @HT.rec (fun _ => Option Blk → (HT → R) → R) (fun x k => g .e x (fun t => k (.n none .e .e t .e .e .e .e .e))) (fun v c0 c1 c2 c3 c4 c5 c6 c7 _ _ _ _ _ _ _ _ x k => g c2 x (fun t => k (.n v c0 c1 t c3 c4 c5 c6 c7))))
  (fun _ g => @HT.rec (fun _ => Option Blk → (HT → R) → R) (fun x k => g .e x (fun t => k (.n none .e .e .e t .e .e .e .e))) (fun v c0 c1 c2 c3 c4 c5 c6 c7 _ _ _ _ _ _ _ _ x k => g c3 x (fun t => k (.n v c0 c1 c2 t c4 c5 c6 c7))))
  (fun _ g => @HT.rec (fun _ => Option Blk → (HT → R) → R) (fun x k => g .e x (fun t => k (.n none .e .e .e .e t .e .e .e))) (fun v c0 c1 c2 c3 c4 c5 c6 c7 _ _ _ _ _ _ _ _ x k => g c4 x (fun t => k (.n v c0 c1 c2 c3 t c5 c6 c7))))
  (fun _ g => @HT.rec (fun _ => Option Blk → (HT → R) → R) (fun x k => g .e x (fun t => k (.n none .e .e .e .e .e t .e .e))) (fun v c0 c1 c2 c3 c4 c5 c6 c7 _ _ _ _ _ _ _ _ x k => g c5 x (fun t => k (.n v c0 c1 c2 c3 c4 t c6 c7))))
  (fun _ g => @HT.rec (fun _ => Option Blk → (HT → R) → R) (fun x k => g .e x (fun t => k (.n none .e .e .e .e .e .e t .e))) (fun v c0 c1 c2 c3 c4 c5 c6 c7 _ _ _ _ _ _ _ _ x k => g c6 x (fun t => k (.n v c0 c1 c2 c3 c4 c5 t c7))))
  (fun _ g => @HT.rec (fun _ => Option Blk → (HT → R) → R) (fun x k => g .e x (fun t => k (.n none .e .e .e .e .e .e .e t))) (fun v c0 c1 c2 c3 c4 c5 c6 c7 _ _ _ _ _ _ _ _ x k => g c7 x (fun t => k (.n v c0 c1 c2 c3 c4 c5 c6 t))))
def dropE : Nat → List RV → (List RV → R) → R := @Nat.rec (fun _ => List RV → (List RV → R) → R) (fun e k => k e) (fun _ g => @List.rec RV (fun _ => (List RV → R) → R) (fun _ => .bad 924) (fun _ e _ k => g e k))
def fzPos : Pos → (Pos → R) → R := @Pos.rec (fun _ => (Pos → R) → R) (fun k => k .z) (fun _ g k => g (fun q => k (.d0 q))) (fun _ g k => g (fun q => k (.d1 q))) (fun _ g k => g (fun q => k (.d2 q))) (fun _ g k => g (fun q => k (.d3 q))) (fun _ g k => g (fun q => k (.d4 q))) (fun _ g k => g (fun q => k (.d5 q))) (fun _ g k => g (fun q => k (.d6 q))) (fun _ g k => g (fun q => k (.d7 q)))
def oGetE : Option Blk → (Blk → R) → (Unit → R) → R := @Option.rec Blk (fun _ => (Blk → R) → (Unit → R) → R) (fun _ m => m ()) (fun b k _ => k b)
def hGetE : Pos → HT → (Blk → R) → (Unit → R) → R := @Pos.rec (fun _ => HT → (Blk → R) → (Unit → R) → R)
  (@HT.rec (fun _ => (Blk → R) → (Unit → R) → R) (fun _ m => m ()) (fun v _ _ _ _ _ _ _ _ _ _ _ _ _ _ _ _ k m => oGetE v k m))
  (fun _ g => @HT.rec (fun _ => (Blk → R) → (Unit → R) → R) (fun _ m => m ()) (fun _ c0 c1 c2 c3 c4 c5 c6 c7 _ _ _ _ _ _ _ _ k m => g c0 k m))
  (fun _ g => @HT.rec (fun _ => (Blk → R) → (Unit → R) → R) (fun _ m => m ()) (fun _ c0 c1 c2 c3 c4 c5 c6 c7 _ _ _ _ _ _ _ _ k m => g c1 k m))
  (fun _ g => @HT.rec (fun _ => (Blk → R) → (Unit → R) → R) (fun _ m => m ()) (fun _ c0 c1 c2 c3 c4 c5 c6 c7 _ _ _ _ _ _ _ _ k m => g c2 k m))
  (fun _ g => @HT.rec (fun _ => (Blk → R) → (Unit → R) → R) (fun _ m => m ()) (fun _ c0 c1 c2 c3 c4 c5 c6 c7 _ _ _ _ _ _ _ _ k m => g c3 k m))
  (fun _ g => @HT.rec (fun _ => (Blk → R) → (Unit → R) → R) (fun _ m => m ()) (fun _ c0 c1 c2 c3 c4 c5 c6 c7 _ _ _ _ _ _ _ _ k m => g c4 k m))
  (fun _ g => @HT.rec (fun _ => (Blk → R) → (Unit → R) → R) (fun _ m => m ()) (fun _ c0 c1 c2 c3 c4 c5 c6 c7 _ _ _ _ _ _ _ _ k m => g c5 k m))
  (fun _ g => @HT.rec (fun _ => (Blk → R) → (Unit → R) → R) (fun _ m => m ()) (fun _ c0 c1 c2 c3 c4 c5 c6 c7 _ _ _ _ _ _ _ _ k m => g c6 k m))
  (fun _ g => @HT.rec (fun _ => (Blk → R) → (Unit → R) → R) (fun _ m => m ()) (fun _ c0 c1 c2 c3 c4 c5 c6 c7 _ _ _ _ _ _ _ _ k m => g c7 k m))
def oldGet : List HT → Pos → (Blk → R) → R := @List.rec HT (fun _ => Pos → (Blk → R) → R) (fun _ _ => .bad 920) (fun h _ g p k => hGetE p h k (fun _ => g p k))
def forceR (r : R) : R := r
def psucc : Pos → (Pos → R) → R := @Pos.rec (fun _ => (Pos → R) → R) (fun k => k (.d1 .z))
  (fun p _ k => k (.d1 p))
  (fun p _ k => k (.d2 p))
  (fun p _ k => k (.d3 p))
  (fun p _ k => k (.d4 p))
  (fun p _ k => k (.d5 p))
  (fun p _ k => k (.d6 p))
  (fun p _ k => k (.d7 p))
  (fun _ g k => g (fun q => k (.d0 q)))
def bCells : Blk → (Rope → Bool → Bool → Nat → R) → R := @Blk.rec (fun _ => (Rope → Bool → Bool → Nat → R) → R) (fun r e ro t k => k r e ro t) (fun _ _ _ => .bad 921) (fun _ _ _ _ => .bad 921) (fun _ _ _ _ _ => .bad 921) (fun _ _ => .bad 921) (fun _ _ => .bad 921)
def nth : List Cell → Nat → (Cell → R) → R := @List.rec Cell (fun _ => Nat → (Cell → R) → R) (fun _ _ => .bad 922) (fun x _ g i k => @Nat.rec (fun _ => R) (k x) (fun j _ => g j k) i)
def setNth : List Cell → Nat → Cell → (List Cell → R) → R := @List.rec Cell (fun _ => Nat → Cell → (List Cell → R) → R) (fun _ _ _ => .bad 923) (fun x xs g i v k => @Nat.rec (fun _ => R) (k (v :: xs)) (fun j _ => g j v (fun l => k (x :: l))) i)
def takeL : List Cell → Nat → (List Cell → R) → R := @List.rec Cell (fun _ => Nat → (List Cell → R) → R) (fun _ k => k []) (fun x _ g i k => @Nat.rec (fun _ => R) (k []) (fun j _ => g j (fun l => k (x :: l))) i)
def dropL : List Cell → Nat → (List Cell → R) → R := @List.rec Cell (fun _ => Nat → (List Cell → R) → R) (fun _ k => k []) (fun x xs g i k => @Nat.rec (fun _ => R) (k (x :: xs)) (fun j _ => g j k) i)
abbrev ropeR1 {A : Type} (zn : A → R) (zl : Nat → List Cell → A → R) (zp : PK → Nat → Nat → A → R) (zc : Nat → Rope → Rope → (A → R) → (A → R) → A → R) : Rope → A → R := @Rope.rec (fun _ => A → R) zn zl zp zc
abbrev ropeR2 {A B : Type} (zn : A → B → R) (zl : Nat → List Cell → A → B → R) (zp : PK → Nat → Nat → A → B → R) (zc : Nat → Rope → Rope → (A → B → R) → (A → B → R) → A → B → R) : Rope → A → B → R := @Rope.rec (fun _ => A → B → R) zn zl zp zc
abbrev ropeR3 {A B C : Type} (zn : A → B → C → R) (zl : Nat → List Cell → A → B → C → R) (zp : PK → Nat → Nat → A → B → C → R) (zc : Nat → Rope → Rope → (A → B → C → R) → (A → B → C → R) → A → B → C → R) : Rope → A → B → C → R := @Rope.rec (fun _ => A → B → C → R) zn zl zp zc
def natR2 {A B : Type} (z : A → B → R) (s : (A → B → R) → A → B → R) : Nat → A → B → R := @Nat.rec (fun _ => A → B → R) z (fun _ g => s g)
def natR4 {A B C D : Type} (z : A → B → C → D → R) (s : (A → B → C → D → R) → A → B → C → D → R) : Nat → A → B → C → D → R := @Nat.rec (fun _ => A → B → C → D → R) z (fun _ g => s g)
def lget {α : Type} : List α → Nat → Option α := @List.rec α (fun _ => Nat → Option α) (fun _ => none) (fun x _ g i => @Nat.rec (fun _ => Option α) (some x) (fun j _ => g j) i)
def idx (t : Nat) : List Nat → Nat → Option Nat := @List.rec Nat (fun _ => Nat → Option Nat) (fun _ => none) (fun x _ g i => @Bool.rec (fun _ => Option Nat) (g (Nat.succ i)) (some i) (Nat.beq x t))
def lfold {α : Type} (f : α → Nat → Nat) : List α → Nat → Nat := @List.rec α (fun _ => Nat → Nat) (fun m => m) (fun x _ g m => g (f x m))
def selN : Nat → (List RV → (RV → R) → R) := @Nat.rec (fun _ => List RV → (RV → R) → R) sel0 (fun _ g => selS g)
def updN : Nat → (List RV → RV → (List RV → R) → R) := @Nat.rec (fun _ => List RV → RV → (List RV → R) → R) setS0 (fun _ g => setSS g)
end
end Ev
/-! The evaluator: in continuation-passing style; the code of the program is turned to closures first. -/
namespace Ev
open Go
set_option linter.unusedVariables false
noncomputable section
/-! ### places -/
def Pos.bits : Nat → Nat → Pos
  | 0, _ => .z
  | f + 1, n => if Nat.beq n 0 then .z else
    let r := Pos.bits f (Nat.div n 8)
    match Nat.mod n 8 with | 0 => .d0 r | 1 => .d1 r | 2 => .d2 r | 3 => .d3 r | 4 => .d4 r | 5 => .d5 r | 6 => .d6 r | _ => .d7 r
def Pos.ofNat (n : Nat) : Pos := Pos.bits 30 n
def Pos.num : Pos → Nat | .z => 0 | .d0 p => 8 * p.num | .d1 p => 8 * p.num + 1 | .d2 p => 8 * p.num + 2 | .d3 p => 8 * p.num + 3 | .d4 p => 8 * p.num + 4 | .d5 p => 8 * p.num + 5 | .d6 p => 8 * p.num + 6 | .d7 p => 8 * p.num + 7
def Pos.beq : Pos → Pos → Bool
  | .z, .z => true | .d0 p, .d0 q => p.beq q | .d1 p, .d1 q => p.beq q | .d2 p, .d2 q => p.beq q | .d3 p, .d3 q => p.beq q | .d4 p, .d4 q => p.beq q | .d5 p, .d5 q => p.beq q | .d6 p, .d6 q => p.beq q | .d7 p, .d7 q => p.beq q | _, _ => false
/-- the block that an abstract address has -/
def HT.atGo : Pos → HT → Option Blk
  | .z, .n v _ _ _ _ _ _ _ _ => v
  | .d0 p, .n _ c _ _ _ _ _ _ _ => HT.atGo p c
  | .d1 p, .n _ _ c _ _ _ _ _ _ => HT.atGo p c
  | .d2 p, .n _ _ _ c _ _ _ _ _ => HT.atGo p c
  | .d3 p, .n _ _ _ _ c _ _ _ _ => HT.atGo p c
  | .d4 p, .n _ _ _ _ _ c _ _ _ => HT.atGo p c
  | .d5 p, .n _ _ _ _ _ _ c _ _ => HT.atGo p c
  | .d6 p, .n _ _ _ _ _ _ _ c _ => HT.atGo p c
  | .d7 p, .n _ _ _ _ _ _ _ _ c => HT.atGo p c
  | _, .e => none
def HT.at (t : HT) (p : Pos) : Option Blk := HT.atGo p t
/-! ### ropes -/
def PK.w : PK → Nat | .u8 => 8 | .b => 1
def PK.dec : PK → Nat → Cell | .u8, x => .u x | .b, x => .bool (Nat.beq x 1)
def PK.eq : PK → PK → Bool | .u8, .u8 => true | .b, .b => true | _, _ => false
/-- the lane that a cell is, of a kind -/
def laneOf (pk : PK) (c : Cell) : Option Nat :=
  match pk, c with
  | .u8, .u n => Bool.casesOn (Nat.ble n 255) none (some n)
  | .b, .bool b => Bool.casesOn b (some 0) (some 1)
  | _, _ => none
def lane (w x i : Nat) : Nat := Nat.mod (Nat.shiftRight x (Nat.mul w i)) (Nat.pow 2 w)
def lanes (w x off n : Nat) : Nat := Nat.mod (Nat.shiftRight x (Nat.mul w off)) (Nat.pow 2 (Nat.mul w n))
def setLane (w x i v : Nat) : Nat := Nat.add (Nat.add (lanes w x 0 i) (Nat.shiftLeft v (Nat.mul w i))) (Nat.shiftLeft (Nat.shiftRight x (Nat.mul w (Nat.succ i))) (Nat.mul w (Nat.succ i)))
/-- a list of lanes as cells -/
def spill (pk : PK) (n x : Nat) : List Cell := (List.range n).map fun i => pk.dec (lane pk.w x i)
/-- the size -/
def Rope.sz : Rope → (Nat → R) → R :=
  ropeR1 (A := Nat → R) (fun k => k 0) (fun n _ k => k n) (fun _ n _ k => k n) (fun n _ _ _ ihb k => ihb (fun m => fz (Nat.add n m) k))
def Rope.get : Rope → Nat → (Cell → R) → R :=
  ropeR2 (A := Nat) (B := Cell → R) (fun _ _ => .bad 2) (fun _ cs i k => nth cs i k)
    (fun pk n x i k => Bool.casesOn (Nat.blt i n) (.bad 2) (fz (lane pk.w x i) (fun v => k (pk.dec v))))
    (fun n _ _ iha ihb i k => Bool.casesOn (Nat.blt i n) (fz (Nat.sub i n) (fun j => ihb j k)) (iha i k))
def Rope.set : Rope → Nat → Cell → (Rope → R) → R :=
  ropeR3 (A := Nat) (B := Cell) (C := Rope → R) (fun _ _ _ => .bad 5) (fun n cs i v k => setNth cs i v (fun cs => k (.l n cs)))
    (fun pk n x i v k => Bool.casesOn (Nat.blt i n) (.bad 5) (match laneOf pk v with | none => setNth (spill pk n x) i v (fun cs => k (.l n cs)) | some w => fz (setLane pk.w x i w) (fun y => k (.p pk n y))))
    (fun n a b iha ihb i v k => Bool.casesOn (Nat.blt i n) (fz (Nat.sub i n) (fun j => ihb j v (fun b => k (.cat n a b)))) (iha i v (fun a => k (.cat n a b))))
/-- one behind the other -/
def Rope.app (a b : Rope) (k : Rope → R) : R :=
  match a, b with
  | .nil, b => k b
  | .l _ [], b => k b
  | a, .nil => k a
  | a, .l _ [] => k a
  | .p j n x, .p j' m y => if j.eq j' then fz (Nat.add x (Nat.shiftLeft y (Nat.mul j.w n))) (fun z => fz (Nat.add n m) (fun t => k (.p j t z))) else k (.cat n (.p j n x) (.p j' m y))
  | .cat n a (.p j nb x), .p j' m y => if j.eq j' then fz (Nat.add x (Nat.shiftLeft y (Nat.mul j.w nb))) (fun z => fz (Nat.add nb m) (fun t => k (.cat n a (.p j t z)))) else (Rope.cat n a (.p j nb x)).sz fun s => k (.cat s (.cat n a (.p j nb x)) (.p j' m y))
  | a, b => a.sz fun n => k (.cat n a b)
/-- the first n (n at most the size) -/
def Rope.take : Rope → Nat → (Rope → R) → R :=
  ropeR2 (A := Nat) (B := Rope → R) (fun _ k => k .nil)
    (fun m cs n k => Bool.casesOn (Nat.blt n m) (k (.l m cs)) (takeL cs n (fun cs => k (.l n cs))))
    (fun pk m x n k => Bool.casesOn (Nat.blt n m) (k (.p pk m x)) (fz (lanes pk.w x 0 n) (fun y => k (.p pk n y))))
    (fun m a _ iha ihb n k => Bool.casesOn (Nat.ble n m) (fz (Nat.sub n m) (fun j => ihb j (fun b => Rope.app a b k))) (iha n k))
def Rope.drop : Rope → Nat → (Rope → R) → R :=
  ropeR2 (A := Nat) (B := Rope → R) (fun _ k => k .nil)
    (fun m cs n k => dropL cs n (fun cs => fz (Nat.sub m n) (fun t => k (.l t cs))))
    (fun pk m x n k => fz (Nat.sub m n) (fun t => fz (Nat.shiftRight x (Nat.mul pk.w n)) (fun y => k (.p pk t y))))
    (fun m a b iha ihb n k => Bool.casesOn (Nat.beq n 0) (Bool.casesOn (Nat.ble m n) (iha n (fun a => Rope.app a b k)) (fz (Nat.sub n m) (fun j => ihb j k))) (k (.cat m a b)))
/-- n from off on -/
def Rope.ext (r : Rope) (off n : Nat) (k : Rope → R) : R :=
  r.sz fun s => Bool.casesOn (Nat.ble (Nat.add off n) s) (.bad 3) (r.drop off (fun d => d.take n k))
def Rope.splice (r : Rope) (off : Nat) (x : Rope) (n : Nat) (k : Rope → R) : R :=
  r.sz fun s => Bool.casesOn (Nat.ble (Nat.add off n) s) (.bad 7) (r.take off (fun a => fz (Nat.add off n) (fun e => r.drop e (fun b => Rope.app a x (fun ax => Rope.app ax b k)))))

/-! ### the static part: types, constants -/
/-- a run of cells as nested pairs -/
def consAll : List Cell → Cell | [] => .undef | c :: cs => .cns c (consAll cs)
def cellOfV : Value → Option Cell
  | .bool b => some (.bool b)
  | .int .i64 (.ofNat n) => some (.i n)
  | .int .u8 (.ofNat n) => some (.u n)
  | .int k (.ofNat n) => some (.nat k n)
  | .int k (.negSucc n) => some (.neg k n)
  | .string s => some (.str s.size (s.data.toList.foldr (fun b acc => b.toNat + 256 * acc) 0))
  | .pointer none => some (.nil .p)
  | .slice none 0 0 => some (.nil .s)
  | .map none => some (.nil .m)
  | .nilFunc => some (.nil .f)
  | .nilIface => some (.nil .i)
  | .func (.func f) a b => if a.size = 0 ∧ b.size = 0 then some (.fn (.func f) 0 .undef) else none
  | _ => none
def isU8 : Cell → Bool | .u n => Nat.blt n 256 | _ => false
def isB : Cell → Bool | .bool _ => true | _ => false
def laneN : Cell → Nat | .u n => n | .bool true => 1 | _ => 0
/-- the first ones that fit, and the rest -/
def spanL (f : Cell → Bool) : List Cell → List Cell × List Cell
  | [] => ([], [])
  | c :: cs => if f c then ((spanL f cs).1.cons c, (spanL f cs).2) else ([], c :: cs)
def packR (pk : PK) (a : List Cell) : Rope := if a.length < 4 then .l a.length a else .p pk a.length (a.foldr (fun c acc => laneN c + 2 ^ pk.w * acc) 0)
def isO (c : Cell) : Bool := !isU8 c && !isB c
/-- the cells as runs: bytes and booleans of 4 and more together are packed -/
def runs : Nat → List Cell → List Rope
  | 0, cs => [.l cs.length cs]
  | fuel + 1, cs =>
    match cs with
    | [] => []
    | c :: cs =>
      if isU8 c then packR .u8 (spanL isU8 (c :: cs)).1 :: runs fuel (spanL isU8 (c :: cs)).2
      else if isB c then packR .b (spanL isB (c :: cs)).1 :: runs fuel (spanL isB (c :: cs)).2
      else .l (spanL isO (c :: cs)).1.length (spanL isO (c :: cs)).1 :: runs fuel (spanL isO (c :: cs)).2
def Rope.size : Rope → Nat | .nil => 0 | .l n _ => n | .p _ n _ => n | .cat n _ b => n + b.size
def joinL : List Rope → List Rope
  | a :: b :: rest => (match a, b with
      | .l n x, .l m y => if n + m ≤ 8 then .l (n + m) (x ++ y) else .cat n a b
      | a, b => .cat a.size a b) :: joinL rest
  | l => l
def joinAll : Nat → List Rope → Rope
  | _, [] => .nil
  | _, [a] => a
  | 0, l => l.foldr (fun a b => .cat a.size a b) .nil
  | f + 1, l => joinAll f (joinL l)
/-- leaves of at most 8 -/
def cutL : Nat → List Rope → List Rope
  | 0, l => l
  | f + 1, l => match l with
    | .l n cs :: rest => if n ≤ 8 then .l n cs :: cutL f rest else .l 8 (cs.take 8) :: cutL f (.l (n - 8) (cs.drop 8) :: rest)
    | x :: rest => x :: cutL f rest
    | [] => []
def ropeOfCells (cs : List Cell) : Rope := joinAll 40 (cutL (2 * cs.length) (runs (cs.length + 1) cs))
def ropeOfV (v : Value) : Option Rope := (v.cells.toList.mapM cellOfV).map ropeOfCells
def rvOf (v : Value) : Option RV :=
  match v with
  | .agg _ => (ropeOfV v).map .a
  | .tuple vs => if vs.size = 0 then some (.t []) else none
  | v => (cellOfV v).map .c
structure TI where
  agg : Bool
  size : Nat
  bytes : Nat
  zero : Rope
  und : TypeDesc
def chunks {α : Type} : Nat → List α → List (List α)
  | 0, _ => []
  | f + 1, l => match l with | [] => [] | x :: xs => (x :: xs).take 32 :: chunks f ((x :: xs).drop 32)
def tyTab (P : Program) : List (List TypeInfo) := chunks 200 P.types.toList
def fnTab (P : Program) : List (List Func) := chunks 200 P.funcs.toList
def tabI {α : Type} (tab : List (List α)) (n : Nat) : Option α := match lget tab (Nat.div n 32) with | some l => lget l (Nat.mod n 32) | none => none
def tyI (P : Program) (t : Nat) : Option TypeInfo := tabI (tyTab P) t
def fnI (P : Program) (n : Nat) : Option Func := tabI (fnTab P) n
def und (P : Program) (t : Nat) : Option TypeDesc :=
  match tyI P t with
  | some i => (match i.desc with | .named _ u => (match tyI P u with | some i => some i.desc | none => none) | d => some d)
  | none => none
def tinfo (P : Program) (t : Nat) : Option TI :=
  match tyI P t, und P t with
  | some i, some u =>
    match i.zero.bind ropeOfV with
    | some z => if Nat.beq z.size i.size then some ⟨match u with | .struct _ | .array _ _ => true | _ => false, i.size, i.bytes, z, u⟩ else none
    | none => none
  | _, _ => none
/-- n copies of a rope -/
def rep (z : Rope) : Nat → List Rope
  | 0 => []
  | f + 1 => z :: rep z f
def repR (z : Rope) (n : Nat) (k : Rope → R) : R :=
  match z with
  | .nil => k .nil
  | .p pk m 0 => fz (Nat.mul m n) fun t => k (.p pk t 0)
  | .l 1 [.u 0] => k (.p .u8 n 0)
  | .l 1 [.bool false] => k (.p .b n 0)
  | z => k (joinAll 40 (rep z n))

/-! ### values -/
def El.rv : El → RV | .c y => .c y | .a r => .a r
def elRope : El → (Rope → R) → R | .c y, k => k (.l 1 [y]) | .a r, k => k r

/-! ### integers -/
def mxOf (k : IntKind) : Nat := match k with | .i8 => 127 | .i16 => 32767 | .i32 => 2147483647 | .i64 => 9223372036854775807 | .u8 => 255 | .u16 => 65535 | .u32 => 4294967295 | .u64 => 18446744073709551615
/-- an integer as a cell -/
def mkI (k : IntKind) (n : Int) (f : RV → R) : R :=
  match n with
  | .ofNat n => fz n fun n => (match k with | .i64 => f (.c (.i n)) | .u8 => f (.c (.u n)) | k => f (.c (.nat k n)))
  | .negSucc n => fz n fun n => f (.c (.neg k n))
def mkN (k : IntKind) (n : Nat) (f : RV → R) : R := match k with | .i64 => f (.c (.i n)) | .u8 => f (.c (.u n)) | k => f (.c (.nat k n))
def mkB (b : Bool) (f : RV → R) : R := Bool.casesOn b (f (.c (.bool false))) (f (.c (.bool true)))
def cellInt : Cell → Option (IntKind × Int)
  | .i n => some (.i64, .ofNat n) | .u n => some (.u8, .ofNat n) | .nat k n => some (k, .ofNat n) | .neg k n => some (k, .negSucc n) | _ => none
/-- an operation on two integers of a kind, as the model has it -/
def intGen (op : BinOp) (k : IntKind) (a b : Int) (f : RV → R) : R :=
  match op with
  | .add => mkI k (k.wrap (a + b)) f
  | .sub => mkI k (k.wrap (a - b)) f
  | .mul => mkI k (k.wrap (a * b)) f
  | .quo => if b = 0 then .bad 102 else mkI k (k.wrap (a.tdiv b)) f
  | .rem => if b = 0 then .bad 103 else mkI k (a.tmod b) f
  | .eql => mkB (a == b) f | .neq => mkB (a != b) f
  | .lss => mkB (a < b) f | .leq => mkB (a ≤ b) f | .gtr => mkB (a > b) f | .geq => mkB (a ≥ b) f
  | .and => mkI k (k.wrap (BitVec.ofInt k.bits a &&& BitVec.ofInt k.bits b).toNat) f
  | .or => mkI k (k.wrap (BitVec.ofInt k.bits a ||| BitVec.ofInt k.bits b).toNat) f
  | .xor => mkI k (k.wrap (BitVec.ofInt k.bits a ^^^ BitVec.ofInt k.bits b).toNat) f
  | .andNot => mkI k (k.wrap (BitVec.ofInt k.bits a &&& ~~~ BitVec.ofInt k.bits b).toNat) f
  | .shl => if b < 0 then .bad 104 else mkI k (k.wrap (a * 2 ^ (min b.toNat k.bits))) f
  | .shr => if b < 0 then .bad 104 else mkI k (a.fdiv (2 ^ (min b.toNat k.bits))) f
/-- the number found, if it fits -/
def fit (op : BinOp) (k : IntKind) (mx a b c : Nat) (f : RV → R) : R := Bool.casesOn (Nat.ble c mx) (intGen op k (.ofNat a) (.ofNat b) f) (mkN k c f)
/-- two naturals of a kind: quick ways -/
def natQ (op : BinOp) (k : IntKind) (mx a b : Nat) (f : RV → R) : R :=
  match op with
  | .add => fz (Nat.add a b) fun c => fit op k mx a b c f
  | .sub => Bool.casesOn (Nat.ble b a) (intGen op k (.ofNat a) (.ofNat b) f) (fz (Nat.sub a b) fun c => fit op k mx a b c f)
  | .mul => fz (Nat.mul a b) fun c => fit op k mx a b c f
  | .quo => Bool.casesOn (Nat.beq b 0) (fz (Nat.div a b) fun c => fit op k mx a b c f) (.bad 102)
  | .rem => Bool.casesOn (Nat.beq b 0) (fz (Nat.mod a b) fun c => mkN k c f) (.bad 103)
  | .eql => mkB (Nat.beq a b) f
  | .neq => Bool.casesOn (Nat.beq a b) (f (.c (.bool true))) (f (.c (.bool false)))
  | .lss => mkB (Nat.blt a b) f
  | .leq => mkB (Nat.ble a b) f
  | .gtr => mkB (Nat.blt b a) f
  | .geq => mkB (Nat.ble b a) f
  | .and => fz (Nat.land a b) fun c => fit op k mx a b c f
  | .or => fz (Nat.lor a b) fun c => fit op k mx a b c f
  | .xor => fz (Nat.xor a b) fun c => fit op k mx a b c f
  | .shl => Bool.casesOn (Nat.ble b 64) (intGen op k (.ofNat a) (.ofNat b) f) (fz (Nat.shiftLeft a b) fun c => fit op k mx a b c f)
  | .shr => Bool.casesOn (Nat.ble b 64) (intGen op k (.ofNat a) (.ofNat b) f) (fz (Nat.shiftRight a (min b k.bits)) fun c => mkN k c f)
  | .andNot => intGen op k (.ofNat a) (.ofNat b) f

/-! ### strings: the number of bytes, and the bytes as a number, the first lowest -/
def strLt : Nat → Nat → Nat → Nat → Nat → Bool
  | 0, _, _, _, _ => false
  | f + 1, n, x, m, y => match n, m with
    | _, 0 => false
    | 0, _ + 1 => true
    | n + 1, m + 1 => let a := x % 256; let b := y % 256; if a < b then true else if a = b then strLt f n (x / 256) m (y / 256) else false
def strOp (op : BinOp) (n x m y : Nat) (k : RV → R) : R :=
  match op with
  | .add => fz (Nat.add x (Nat.shiftLeft y (Nat.mul 8 n))) fun z => fz (Nat.add n m) fun t => Bool.casesOn (Nat.ble t 1000000000) (.bad 106) (k (.c (.str t z)))
  | .eql => mkB (Nat.beq n m && Nat.beq x y) k
  | .neq => mkB (!(Nat.beq n m && Nat.beq x y)) k
  | .lss => mkB (strLt (n + 1) n x m y) k
  | .leq => mkB (strLt (n + 1) n x m y || (Nat.beq n m && Nat.beq x y)) k
  | .gtr => mkB (!(strLt (n + 1) n x m y || (Nat.beq n m && Nat.beq x y))) k
  | .geq => mkB (!strLt (n + 1) n x m y) k
  | _ => .bad 107

/-! ### equality -/
/-- keys, and the cells of structs: numbers, strings, booleans -/
def cellEq : Cell → Cell → Option Bool
  | .bool a, .bool b => some (a == b)
  | .str n x, .str m y => some (Nat.beq n m && Nat.beq x y)
  | a, b => match cellInt a, cellInt b with | some (j, x), some (k, y) => if j = k then some (x == y) else none | _, _ => none
def Rope.toL : Rope → List Cell | .nil => [] | .l _ cs => cs | .p k n x => spill k n x | .cat _ a b => a.toL ++ b.toL
def sizeO (P : Program) (t : Nat) : Option Nat := match tyI P t with | some i => some i.size | none => none
/-- the keys that are had: numbers, strings, booleans -/
inductive KK where | int | str | bool
def keyOk (k : KK) (c : Cell) : Bool :=
  match k with
  | .int => (match c with | .i _ | .u _ | .nat .. | .neg .. => true | _ => false)
  | .str => (match c with | .str .. => true | _ => false)
  | .bool => (match c with | .bool _ => true | _ => false)
def tileF (P : Program) (g : Nat → Option (List KK)) : List Field → Nat → Option (List KK)
  | [], _ => some []
  | f :: fs, off => if f.name ≠ "_" ∧ f.offset = off then (match g f.type with | some s => (match tileF P g fs (off + s.length) with | some r => some (s ++ r) | none => none) | none => none) else none
/-- is a type compared cell by cell? what are its cells? -/
def plainK (P : Program) : Nat → Nat → Option (List KK)
  | 0, _ => none
  | d + 1, t => match und P t with
    | some .bool => some [.bool]
    | some (.int _) => some [.int]
    | some .string => some [.str]
    | some (.array n e) => (match plainK P d e with | some s => if sizeO P e = some s.length ∧ sizeO P t = some (n * s.length) then some (List.replicate n s).flatten else none | none => none)
    | some (.struct fs) => if P.stoodInHeld t then none else (match tileF P (plainK P d) fs.toList 0 with | some s => if sizeO P t = some s.length then some s else none | none => none)
    | _ => none
def listEqK : List KK → List Cell → List Cell → Option Bool
  | [], [], [] => some true
  | k :: ks, a :: x, b :: y => if keyOk k a then (match cellEq a b with | some true => listEqK ks x y | some false => some false | none => none) else none
  | _, _, _ => none
def isKI : KK → Bool | .int => true | _ => false
def ropeEq (ks : List KK) (len : Nat) (allI : Bool) (a b : Rope) : Option Bool :=
  match a, b with
  | .p .u8 n x, .p .u8 m y => if allI && Nat.beq n len && Nat.beq m len then some (Nat.beq x y) else listEqK ks (spill .u8 n x) (spill .u8 m y)
  | a, b => listEqK ks a.toL b.toL
/-! ### memory -/
def putBlk (st : St) (p : Pos) (b : Blk) (k : St → R) : R := hSet p st.heap (some b) fun h => k ⟨st.next, h, st.old⟩
def newBlk (st : St) (b : Blk) (k : Pos → St → R) : R := hSet st.next st.heap (some b) fun h => psucc st.next fun n => k st.next ⟨n, h, st.old⟩
/-- a block to be read; a block that is the heap's own (to be turned) -/
def gGet (st : St) (p : Pos) (k : Blk → R) : R := hGetE p st.heap k (fun _ => oldGet st.old p k)
def ownBlk (st : St) (p : Pos) (k : Blk → R) : R := hGet p st.heap k
def rowOf (st : St) (p : Pos) (k : Rope → Bool → Bool → Nat → R) : R := gGet st p fun b => bCells b k
def rowOwn (st : St) (p : Pos) (k : Rope → Bool → Bool → Nat → R) : R := hGet p st.heap fun b => bCells b k
def load1 (st : St) (p : Pos) (off : Nat) (k : RV → R) : R := gGet st p fun b => bCells b fun r _ _ _ => r.get off fun c => k (.c c)
def loadA (sz : Nat) (st : St) (p : Pos) (off : Nat) (k : RV → R) : R := gGet st p fun b => bCells b fun r _ _ _ => r.ext off sz fun r => k (.a r)
def store1 (st : St) (p : Pos) (off : Nat) (c : Cell) (k : St → R) : R := hGet p st.heap fun b => bCells b fun r e ro t => Bool.casesOn ro (r.set off c fun r => putBlk st p (.cells r e false t) k) (.bad 10)
def storeA (sz : Nat) (st : St) (p : Pos) (off : Nat) (x : Rope) (k : St → R) : R :=
  hGet p st.heap fun b => bCells b fun r e ro t => Bool.casesOn ro (x.sz fun n => Bool.casesOn (Nat.beq n sz) (.bad 8) (r.splice off x n fun r => putBlk st p (.cells r e false t) k)) (.bad 10)
def putPure (t : HT) (p : Pos) (b : Blk) : HT :=
  let e8 (i : Nat) (x : HT) : HT := .n none (if i = 0 then x else .e) (if i = 1 then x else .e) (if i = 2 then x else .e) (if i = 3 then x else .e) (if i = 4 then x else .e) (if i = 5 then x else .e) (if i = 6 then x else .e) (if i = 7 then x else .e)
  match p with
  | .z => (match t with | .e => .n (some b) .e .e .e .e .e .e .e .e | .n _ a0 a1 a2 a3 a4 a5 a6 a7 => .n (some b) a0 a1 a2 a3 a4 a5 a6 a7)
  | .d0 p => (match t with | .e => e8 0 (putPure .e p b) | .n v a0 a1 a2 a3 a4 a5 a6 a7 => .n v (putPure a0 p b) a1 a2 a3 a4 a5 a6 a7)
  | .d1 p => (match t with | .e => e8 1 (putPure .e p b) | .n v a0 a1 a2 a3 a4 a5 a6 a7 => .n v a0 (putPure a1 p b) a2 a3 a4 a5 a6 a7)
  | .d2 p => (match t with | .e => e8 2 (putPure .e p b) | .n v a0 a1 a2 a3 a4 a5 a6 a7 => .n v a0 a1 (putPure a2 p b) a3 a4 a5 a6 a7)
  | .d3 p => (match t with | .e => e8 3 (putPure .e p b) | .n v a0 a1 a2 a3 a4 a5 a6 a7 => .n v a0 a1 a2 (putPure a3 p b) a4 a5 a6 a7)
  | .d4 p => (match t with | .e => e8 4 (putPure .e p b) | .n v a0 a1 a2 a3 a4 a5 a6 a7 => .n v a0 a1 a2 a3 (putPure a4 p b) a5 a6 a7)
  | .d5 p => (match t with | .e => e8 5 (putPure .e p b) | .n v a0 a1 a2 a3 a4 a5 a6 a7 => .n v a0 a1 a2 a3 a4 (putPure a5 p b) a6 a7)
  | .d6 p => (match t with | .e => e8 6 (putPure .e p b) | .n v a0 a1 a2 a3 a4 a5 a6 a7 => .n v a0 a1 a2 a3 a4 a5 (putPure a6 p b) a7)
  | .d7 p => (match t with | .e => e8 7 (putPure .e p b) | .n v a0 a1 a2 a3 a4 a5 a6 a7 => .n v a0 a1 a2 a3 a4 a5 a6 (putPure a7 p b))
def mkHeap : List (Nat × Blk) → HT | [] => .e | (n, b) :: rest => putPure (mkHeap rest) (Pos.ofNat n) b

/-! ### operands -/
abbrev Env := List RV
inductive Callee where | f (n : Nat) | y (l : Pos)
abbrev Caller := Callee → List El → St → (RV → St → R) → R
structure SG where run : Env → Fr → (RV → R) → R
structure OC where run : Caller → Env → Fr → St → (RV → St → R) → R
structure FGet where run : Fr → (RV → R) → R
structure FSet where run : Fr → RV → (Fr → R) → R
def qGet : Nat → (Q → (RV → R) → R) | 0 => qg0 | 1 => qg1 | 2 => qg2 | _ => qg3
def qSet : Nat → (Q → RV → (Q → R) → R) | 0 => qs0 | 1 => qs1 | 2 => qs2 | _ => qs3
def frGet (r : Nat) : FGet :=
  match r / 4 with
  | 0 => (match r % 4 with | 0 => ⟨fg0 qg0⟩ | 1 => ⟨fg0 qg1⟩ | 2 => ⟨fg0 qg2⟩ | _ => ⟨fg0 qg3⟩)
  | 1 => (match r % 4 with | 0 => ⟨fg1 qg0⟩ | 1 => ⟨fg1 qg1⟩ | 2 => ⟨fg1 qg2⟩ | _ => ⟨fg1 qg3⟩)
  | 2 => (match r % 4 with | 0 => ⟨fg2 qg0⟩ | 1 => ⟨fg2 qg1⟩ | 2 => ⟨fg2 qg2⟩ | _ => ⟨fg2 qg3⟩)
  | 3 => (match r % 4 with | 0 => ⟨fg3 qg0⟩ | 1 => ⟨fg3 qg1⟩ | 2 => ⟨fg3 qg2⟩ | _ => ⟨fg3 qg3⟩)
  | _ => ⟨fgM (selN (r - 16))⟩
def frSet (r : Nat) : FSet :=
  match r / 4 with
  | 0 => (match r % 4 with | 0 => ⟨fs0 qs0⟩ | 1 => ⟨fs0 qs1⟩ | 2 => ⟨fs0 qs2⟩ | _ => ⟨fs0 qs3⟩)
  | 1 => (match r % 4 with | 0 => ⟨fs1 qs0⟩ | 1 => ⟨fs1 qs1⟩ | 2 => ⟨fs1 qs2⟩ | _ => ⟨fs1 qs3⟩)
  | 2 => (match r % 4 with | 0 => ⟨fs2 qs0⟩ | 1 => ⟨fs2 qs1⟩ | 2 => ⟨fs2 qs2⟩ | _ => ⟨fs2 qs3⟩)
  | 3 => (match r % 4 with | 0 => ⟨fs3 qs0⟩ | 1 => ⟨fs3 qs1⟩ | 2 => ⟨fs3 qs2⟩ | _ => ⟨fs3 qs3⟩)
  | _ => ⟨fsM (updN (r - 16))⟩
/-- 'ds': the slots (plus one; 0: none) of the operations done, the nearest first; 'gl': the slots that the frame keeps -/
def src (P : Program) (gl ds : List Nat) (x : Operand) : SG :=
  match x with
  | .tmp t => match idx (t + 1) ds 0 with
    | some d => ⟨fun e _ k => selN d e k⟩
    | none => match idx t gl 0 with
      | some r => (match frGet r with | ⟨g⟩ => ⟨fun _ fr k => g fr k⟩)
      | none => ⟨fun _ _ _ => .bad 12⟩
  | .const v => match rvOf v with | some v => ⟨fun _ _ k => k v⟩ | none => ⟨fun _ _ _ => .bad 13⟩
  | .global g => if Nat.blt g P.globals.size then (let p := Pos.ofNat g; ⟨fun _ _ k => k (.c (.ptr p 0))⟩) else ⟨fun _ _ _ => .bad 16⟩
  | .func f => ⟨fun _ _ k => k (.c (.fn (.func f) 0 .undef))⟩
structure SGs where run : Env → Fr → (List El → R) → R
def srcs (P : Program) (gl ds : List Nat) (l : List Operand) : SGs :=
  match l with
  | [] => ⟨fun _ _ k => k []⟩
  | x :: xs => match src P gl ds x, srcs P gl ds xs with | ⟨f⟩, ⟨g⟩ => ⟨fun e fr k => f e fr fun v => rvEl v fun v => g e fr fun vs => k (v :: vs)⟩
/-! ### the operations -/
/-- pieces laid into a rope -/
def fillR (places : List (Nat × Nat)) (vs : List El) (z : Rope) (k : Rope → R) : R :=
  match places, vs with
  | [], [] => k z
  | (off, size) :: ps, .c c :: vs => if size = 1 then z.set off c fun z => fillR ps vs z k else .bad 18
  | (off, size) :: ps, .a x :: vs => x.sz fun n => if n = size then z.splice off x n fun z => fillR ps vs z k else .bad 18
  | _, _ => .bad 19
def badO (n : Nat) : OC := ⟨fun _ _ _ _ _ => .bad n⟩
def keyKind (P : Program) (t : Nat) : Option KK := match und P t with | some (.int _) => some .int | some .string => some .str | some .bool => some .bool | _ => none
/-- a map's type: the keys' kind, and what it holds -/
def mapT (P : Program) (t : Nat) : Option (KK × Nat) := match und P t with | some (.map kt el) => (match keyKind P kt with | some kk => some (kk, el) | none => none) | _ => none
def findKey (c : Cell) : List MEnt → Nat → Option (Option (Nat × MEnt))
  | [], _ => some none
  | e :: es, i => match cellEq c e.key with | some true => some (some (i, e)) | some false => findKey c es (i + 1) | none => none
def setEnt (es : List MEnt) (i : Nat) (f : MEnt → MEnt) : List MEnt := es.modify i f
def sliceB (v : Option RV) (d : Nat) (k : Nat → R) : R := match v with | none => k d | some v => vN v k
structure OSG where run : Env → Fr → (Option RV → R) → R
def osrc (P : Program) (gl ds : List Nat) (x : Option Operand) : OSG := match x with | none => ⟨fun _ _ k => k none⟩ | some x => match src P gl ds x with | ⟨f⟩ => ⟨fun e fr k => f e fr fun v => k (some v)⟩
def noVal : RV := .t []
def fieldPl (P : Program) : List Field → Option (List (Nat × Nat))
  | [] => some []
  | f :: fs => match sizeO P f.type, fieldPl P fs with | some s, some l => some ((f.offset, s) :: l) | _, _ => none
def pickPl (l : List (Nat × Nat)) : List Nat → Option (List (Nat × Nat))
  | [] => some []
  | i :: is => match lget l i, pickPl l is with | some x, some r => some (x :: r) | _, _ => none
/-- where the parts of a struct or an array go -/
def placesT (P : Program) (u : TypeDesc) (is : List Nat) : Option (List (Nat × Nat)) :=
  match u with
  | .struct fs => (match fieldPl P fs.toList with | some l => pickPl l is | none => none)
  | .array _ el => (match sizeO P el with | some s => some (is.map fun i => (i * s, s)) | none => none)
  | _ => none
def cut3 (p : Pos) (off len cap esz l h m : Nat) (k : RV → R) : R :=
  if m ≤ cap ∧ h ≤ m ∧ l ≤ h then fz (if m = l then off else off + l * esz) fun o => fz (h - l) fun n => fz (m - l) fun c => k (.c (.sl p o n c)) else .bad 22
def slicing (st : St) (isArr : Bool) (esz : Nat) (v : RV) (arrLen : Nat) (lo hi mx : Option RV) (k : RV → R) : R :=
  match isArr, v with
  | true, .c (.ptr p off) => sliceB mx arrLen fun m => sliceB hi arrLen fun h => sliceB lo 0 fun l => cut3 p off arrLen arrLen esz l h m k
  | false, .c (.sl p off len cap) => sliceB mx cap fun m => sliceB hi len fun h => sliceB lo 0 fun l => cut3 p off len cap esz l h m k
  | false, .c (.slu p off len e) => match mx with
    | some _ => sliceB mx 0 fun m => sliceB hi len fun h => sliceB lo 0 fun l => if (l < m ∨ l = 0) ∧ 0 < len then cut3 p off len len esz l h m k else .bad 23
    | none => sliceB hi len fun h => sliceB lo 0 fun l => if e = esz ∧ l ≤ h then
      (if h ≤ len then fz (off + l * esz) fun o => fz (h - l) fun n => k (.c (.slu p o n e)) else
       rowOf st p fun r _ _ _ => r.sz fun kn => if 0 < esz ∧ off + h * esz ≤ kn then fz (off + l * esz) fun o => fz (h - l) fun n => k (.c (.slu p o n e)) else .bad 26) else .bad 25
  | false, .c (.nil .s) => sliceB mx 0 fun m => sliceB hi 0 fun h => sliceB lo 0 fun l => if m = 0 ∧ h = 0 ∧ l = 0 then k (.c (.nil .s)) else .bad 27
  | _, _ => .bad 28
def strSlice (n x : Nat) (lo hi : Option RV) (k : RV → R) : R :=
  sliceB hi n fun h => sliceB lo 0 fun l => if l ≤ h ∧ h ≤ n then fz (h - l) fun t => fz (lanes 8 x l t) fun y => k (.c (.str t y)) else .bad 29
/-- what append adds, as a rope -/
def addedR (esz : Nat) (st : St) (x : El) (k : Nat → Rope → R) : R :=
  match x with
  | .c (.nil .s) => k 0 .nil
  | .c (.sl p off len _) => rowOf st p fun r _ _ _ => r.ext off (len * esz) fun r => k len r
  | .c (.slu p off len _) => if len = 0 then k 0 .nil else rowOf st p fun r _ _ _ => r.ext off (len * esz) fun r => k len r
  | .c (.str n x) => if esz = 1 then k n (.p .u8 n x) else .bad 32
  | _ => .bad 32
def grown (elem : Nat) (esz bytes : Nat) (st : St) (content : Rope) (need : Nat) (k : RV → St → R) : R :=
  if esz = 0 ∨ need * bytes > 1000000000 ∨ need > 1000000000 then .bad 33 else
  newBlk st (.cells content false false elem) fun p st => k (.c (.slu p 0 need esz)) st
def doAppend (elem esz bytes : Nat) (st : St) (s : Cell) (n : Nat) (new : Rope) (k : RV → St → R) : R :=
  match s with
  | .nil .s => if n = 0 then k (.c (.nil .s)) st else grown elem esz bytes st new n k
  | .sl p off len cap => fz (len + n) fun need =>
    if need ≤ cap then (if n = 0 then k (.c (.sl p off need cap)) st else rowOwn st p fun r e ro t => Bool.casesOn ro (r.splice (off + len * esz) new (n * esz) fun r => putBlk st p (.cells r e false t) fun st => k (.c (.sl p off need cap)) st) (.bad 36))
    else if len = 0 then grown elem esz bytes st new need k else rowOf st p fun r e ro t => r.ext off (len * esz) fun old => Rope.app old new fun c => grown elem esz bytes st c need k
  | .slu p off len e' => fz (len + n) fun need => if e' ≠ esz ∨ esz = 0 then .bad 38 else
    if n = 0 then k (.c (.slu p off need esz)) st else
    rowOwn st p fun r e ro t => Bool.casesOn ro (r.sz fun known =>
      if off + need * esz ≤ known then r.splice (off + len * esz) new (n * esz) fun r => putBlk st p (.cells r e false t) fun st => k (.c (.slu p off need esz)) st
      else r.ext off (len * esz) fun old => Rope.app old new fun c =>
        if t ≠ elem ∨ need * bytes > 1000000000 ∨ need > 1000000000 then .bad 33 else
        hSet p st.heap none fun h => newBlk ⟨st.next, h, st.old⟩ (.cells c false false elem) fun q st => k (.c (.slu q 0 need esz)) st) (.bad 42)
  | _ => .bad 43
def mm (isMax : Bool) (a : RV) (l : List El) (k : RV → R) : R :=
  match l with
  | [] => k a
  | .c y :: rest => match a with
    | .c x => (match cellInt x, cellInt y with
      | some (j, u), some (j', v) => if j = j' then (if isMax then (if v > u then mm isMax (.c y) rest k else mm isMax a rest k) else (if v < u then mm isMax (.c y) rest k else mm isMax a rest k)) else .bad 44
      | _, _ => .bad 44)
    | _ => .bad 44
  | _ => .bad 44
inductive LK where | str | sl | map | arr (n : Nat)
def lenKind (P : Program) (t : Option Nat) : Option LK :=
  match t.bind (und P) with
  | some .string => some .str
  | some (.slice _) => some .sl
  | some (.map _ _) => some .map
  | some (.array n _) => some (.arr n)
  | some (.pointer a) => (match und P a with | some (.array n _) => some (.arr n) | _ => none)
  | _ => none
def lenOf (d : LK) (st : St) (vs : List El) (k : RV → R) : R :=
  match d with
  | .arr n => (match vs with | [_] => k (.c (.i n)) | _ => .bad 46)
  | .str => (match vs with | [.c (.str n _)] => k (.c (.i n)) | _ => .bad 46)
  | .sl => (match vs with | [.c (.sl _ _ n _)] => k (.c (.i n)) | [.c (.slu _ _ n _)] => k (.c (.i n)) | [.c (.nil .s)] => k (.c (.i 0)) | _ => .bad 46)
  | .map => (match vs with
    | [.c (.nil .m)] => k (.c (.i 0))
    | [.c (.map p)] => gGet st p fun b => (match b with | .map es _ => fz es.length fun n => k (.c (.i n)) | _ => .bad 45)
    | _ => .bad 46)
def copyTo (esz : Nat) (st : St) (vs : List El) (k : RV → St → R) : R :=
  match vs with
  | [.c d, x] => addedR esz st x fun m new => match d with
    | .nil .s => k (.c (.i 0)) st
    | .sl p off len _ | .slu p off len _ => fz (min m len) fun n => if n = 0 then k (.c (.i 0)) st else new.take (n * esz) fun new =>
      rowOwn st p fun r e ro t => Bool.casesOn ro (r.splice off new (n * esz) fun r => putBlk st p (.cells r e false t) fun st => k (.c (.i n)) st) (.bad 53)
    | _ => .bad 54
  | _ => .bad 54
/-- bytes as a string -/
def strL (cs : List Cell) (k : RV → R) : R := if cs.all isU8 then fz (cs.foldr (fun c acc => laneN c + 256 * acc) 0) fun x => fz cs.length fun n => k (.c (.str n x)) else .bad 84
def strR (r : Rope) (k : RV → R) : R := match r with | .p .u8 n x => k (.c (.str n x)) | r => strL r.toL k
/-- a string that shares a row's bytes: the row is frozen -/
def freezeS (P : Program) (el : Nat) (st : St) (q : Cell) (n : Nat) (k : RV → St → R) : R :=
  match q with
  | .nil .p => if n = 0 then k (.c (.str 0 0)) st else .bad 213
  | .ptr p off => if n = 0 then k (.c (.str 0 0)) st else if n > 1000000000 then .bad 213 else
    rowOwn st p fun r ex ro t => Bool.casesOn (!ro && Nat.beq (P.cellsOf t) 1 && sameLayout P P.depth t el && Nat.blt 0 P.depth) (.bad 213)
      (r.ext off n fun x => strR x fun v => putBlk st p (.cells r ex true t) fun st => k v st)
  | _ => .bad 213
def builtinO (P : Program) (b : Builtin) (tys : List Nat) (args : SGs) : OC :=
  match args with
  | ⟨g⟩ =>
  match b with
  | .len => match lenKind P tys.head? with
    | some d => ⟨fun _ e fr st k => g e fr fun vs => lenOf d st vs fun v => k v st⟩
    | none => badO 46
  | .cap => match lenKind P tys.head? with
    | some .sl => ⟨fun _ e fr st k => g e fr fun vs => match vs with
      | [.c (.sl _ _ _ n)] => k (.c (.i n)) st
      | [.c (.nil .s)] => k (.c (.i 0)) st
      | _ => .bad 47⟩
    | _ => badO 47
  | .append => match tys.head?.bind (und P) with
    | some (.slice elem) => match tinfo P elem with
      | some ti => let esz := ti.size; let by_ := ti.bytes; let z := ti.zero; match (lget tys 1).bind (und P) with
        | some (.int _) => ⟨fun _ e fr st k => g e fr fun vs => match vs with
            | [.c s, .c m] => cN m fun n => if n * by_ > 1000000000 ∨ n > 1000000000 then .bad 48 else repR z n fun new => doAppend elem esz by_ st s n new k
            | _ => .bad 48⟩
        | some _ => ⟨fun _ e fr st k => g e fr fun vs => match vs with
            | [.c s, x] => addedR esz st x fun n new => doAppend elem esz by_ st s n new k
            | _ => .bad 49⟩
        | none => badO 50
      | none => badO 50
    | _ => badO 50
  | .copy => match tys.head?.bind (und P) with
    | some (.slice elem) => match sizeO P elem with | some esz => ⟨fun _ e fr st k => g e fr fun vs => copyTo esz st vs k⟩ | none => badO 54
    | _ => badO 54
  | .min => ⟨fun _ e fr st k => g e fr fun vs => match vs with | x :: rest => mm false x.rv rest fun v => k v st | _ => .bad 55⟩
  | .max => ⟨fun _ e fr st k => g e fr fun vs => match vs with | x :: rest => mm true x.rv rest fun v => k v st | _ => .bad 55⟩
  | .clear => match tys.head?.bind (und P) with
    | some (.map _ _) => ⟨fun _ e fr st k => g e fr fun vs => match vs with
        | [.c (.nil .m)] => k noVal st
        | [.c (.map p)] => ownBlk st p fun b => match b with | .map _ c => putBlk st p (.map [] c) fun st => k noVal st | _ => .bad 56
        | _ => .bad 56⟩
    | some (.slice elem) => match tinfo P elem with
      | some ti => let esz := ti.size; let z := ti.zero; ⟨fun _ e fr st k => g e fr fun vs => match vs with
        | [.c (.nil .s)] => k noVal st
        | [.c (.sl p off len _)] | [.c (.slu p off len _)] => if len = 0 then k noVal st else repR z len fun z => rowOwn st p fun r e ro t => Bool.casesOn ro (r.splice off z (len * esz) fun r => putBlk st p (.cells r e false t) fun st => k noVal st) (.bad 57)
        | _ => .bad 57⟩
      | none => badO 57
    | _ => badO 57
  | .delete => match tys.head?.bind (mapT P) with
    | some (kk, _) => ⟨fun _ e fr st k => g e fr fun vs => match vs with
      | [.c (.nil .m), _] => k noVal st
      | [.c (.map p), .c key] => ownBlk st p fun b => match b with
        | .map es c => if keyOk kk key then (match findKey key es 0 with
          | some (some (i, _)) => putBlk st p (.map (es.eraseIdx i) c) fun st => k noVal st
          | some none => k noVal st
          | none => .bad 58) else .bad 58
        | _ => .bad 58
      | _ => .bad 58⟩
    | none => badO 58
  | .unsafeSliceData => ⟨fun _ e fr st k => g e fr fun vs => match vs with
      | [.c (.nil .s)] => k (.c (.nil .p)) st
      | [.c (.sl p off _ cap)] => if cap = 0 then .bad 212 else k (.c (.ptr p off)) st
      | [.c (.slu p off len _)] => if len = 0 then .bad 212 else k (.c (.ptr p off)) st
      | _ => .bad 212⟩
  | .unsafeString => match tys.head?.bind (und P) with
    | some (.pointer el) => ⟨fun _ e fr st k => g e fr fun vs => match vs with
      | [.c q, .c m] => cN m fun n => freezeS P el st q n k
      | _ => .bad 213⟩
    | _ => badO 213
  | _ => badO 59
/-- the first n of nested pairs, and the rest, as arguments around others -/
def unEnv : Cell → List El | .cns h t => .c h :: unEnv t | _ => []
/-- functions without a body that are had -/
inductive ExtK where | same | noZero | idxByte | cmp | nop1 | nop2 | nop3 | nop4 | ldU | stU | casI | addI
def extName : ExtK → String
  | .same => "internal/abi.NoEscape"
  | .noZero => "internal/bytealg.MakeNoZero"
  | .idxByte => "internal/bytealg.IndexByteString"
  | .cmp => "internal/bytealg.abigen_runtime_cmpstring"
  | .nop1 => "internal/race.Disable"
  | .nop2 => "internal/race.Enable"
  | .nop3 => "internal/race.Acquire"
  | .nop4 => "internal/race.ReleaseMerge"
  | .ldU => "sync/atomic.LoadUint32"
  | .stU => "sync/atomic.StoreUint32"
  | .casI => "sync/atomic.CompareAndSwapInt32"
  | .addI => "sync/atomic.AddInt32"
def extAll : List ExtK := [.same, .noZero, .idxByte, .cmp, .nop1, .nop2, .nop3, .nop4, .ldU, .stU, .casI, .addI]
def extOf (P : Program) (n : Nat) : Option ExtK :=
  match fnI P n with
  | some fn => if fn.body.isNone && (fn.origin == fn.name || fn.origin == "") then extAll.find? (fun x => fn.name == extName x) else none
  | none => none
def extO (P : Program) (n : Nat) (x : ExtK) (args : SGs) : OC :=
  match x, args with
  | .same, ⟨g⟩ => ⟨fun _ e fr st k => g e fr fun vs => match vs with | [v] => k v.rv st | _ => .bad 210⟩
  | .noZero, ⟨g⟩ => (match (fnI P n).bind fun fn => (fn.resultTypes[0]?).bind (und P) with
    | some (.slice el) => ⟨fun _ e fr st k => g e fr fun vs => match vs with
      | [.c (.i n)] => if n > 1000000000 then .bad 211 else newBlk st (.cells .nil false false el) fun p st => k (.c (.slu p 0 n 1)) st
      | _ => .bad 211⟩
    | _ => badO 211)
  | .idxByte, ⟨g⟩ => ⟨fun _ e fr st k => g e fr fun vs => match vs with
    | [.c (.str n x), .c (.u b)] => if Nat.ble b 255 then (match (List.range n).find? fun i => Nat.beq (lane 8 x i) b with
      | some i => fz i fun i => k (.c (.i i)) st
      | none => k (.c (.neg .i64 0)) st) else .bad 214
    | _ => .bad 214⟩
  | .cmp, ⟨g⟩ => ⟨fun _ e fr st k => g e fr fun vs => match vs with
    | [.c (.str n x), .c (.str m y)] => (match (List.range (min n m)).find? fun i => !Nat.beq (lane 8 x i) (lane 8 y i) with
      | some i => Bool.casesOn (Nat.blt (lane 8 x i) (lane 8 y i)) (k (.c (.i 1)) st) (k (.c (.neg .i64 0)) st)
      | none => Bool.casesOn (Nat.blt n m) (Bool.casesOn (Nat.blt m n) (k (.c (.i 0)) st) (k (.c (.i 1)) st)) (k (.c (.neg .i64 0)) st))
    | _ => .bad 215⟩
  | .nop1, ⟨g⟩ => ⟨fun _ e fr st k => g e fr fun vs => k noVal st⟩
  | .nop2, ⟨g⟩ => ⟨fun _ e fr st k => g e fr fun vs => k noVal st⟩
  | .nop3, ⟨g⟩ => ⟨fun _ e fr st k => g e fr fun vs => match vs with | [.c (.ptr _ _)] => k noVal st | _ => .bad 220⟩
  | .nop4, ⟨g⟩ => ⟨fun _ e fr st k => g e fr fun vs => match vs with | [.c (.ptr _ _)] => k noVal st | _ => .bad 220⟩
  | .ldU, ⟨g⟩ => ⟨fun _ e fr st k => g e fr fun vs => match vs with
    | [.c (.ptr p off)] => load1 st p off fun v => (match v with | .c (.nat .u32 n) => k (.c (.nat .u32 n)) st | _ => .bad 216)
    | _ => .bad 216⟩
  | .stU, ⟨g⟩ => ⟨fun _ e fr st k => g e fr fun vs => match vs with
    | [.c (.ptr p off), .c c] => store1 st p off c fun st => k noVal st
    | _ => .bad 217⟩
  | .casI, ⟨g⟩ => ⟨fun _ e fr st k => g e fr fun vs => match vs with
    | [.c (.ptr p off), .c (.nat .i32 a), .c c] => load1 st p off fun v => (match v with | .c (.nat .i32 n) => if n = a then store1 st p off c fun st => k (.c (.bool true)) st else .bad 218 | _ => .bad 218)
    | _ => .bad 218⟩
  | .addI, ⟨g⟩ => ⟨fun _ e fr st k => g e fr fun vs => match vs with
    | [.c (.ptr p off), .c y] => load1 st p off fun v => (match v with
      | .c (.nat .i32 n) => (match cellInt y with
        | some (.i32, m) => mkI .i32 (IntKind.wrap .i32 (Int.ofNat n + m)) fun v => rvC v fun c => store1 st p off c fun st => k v st
        | _ => .bad 219)
      | _ => .bad 219)
    | _ => .bad 219⟩
/-- a call of a value -/
def callV (caller : Caller) (f : Cell) (args : List El) (st : St) (k : RV → St → R) : R :=
  match f with
  | .fn (.func n) _ .undef => caller (.f n) args st k
  | .fn (.func n) nf env => let l := unEnv env; caller (.f n) (l.take nf ++ args ++ l.drop nf) st k
  | .fn (.yield l) _ _ => caller (.y l) args st k
  | _ => .bad 60
def mapCands (es : List MEnt) (since : Nat) (seen : List Nat) : List (Option MEnt) :=
  let left := es.filter fun e => !seen.contains e.born
  let old := left.filter fun e => Nat.blt e.born since
  let new := left.filter fun e => Nat.ble since e.born
  (if old.isEmpty then [none] else []) ++ (old ++ new).map some
/-- what holds for each candidate -/
def allR (l : List (Option MEnt)) (f : Option MEnt → R) : R := match l with | [] => .ok | e :: es => match forceR (f e) with | .ok => allR es f | x => x
def nextO (st : St) (p : Pos) (isStr : Bool) (k : RV → St → R) : R :=
  ownBlk st p fun b => match b, isStr with
  | .strIter n x pos, true => if pos < n then
      fz (lane 8 x pos) fun c => if c < 128 then fz (pos + 1) fun q => putBlk st p (.strIter n x q) fun st => k (.t [.c (.bool true), .c (.i pos), .c (.nat .i32 c)]) st else .bad 62
      else k (.t [.c (.bool false)]) st
  | .mapIter none _ _ _, false => k (.t [.c (.bool false)]) st
  | .mapIter (some m) since seen last, false => gGet st m fun b => match b with
    | .map es clock =>
      if !seen.isEmpty && !es.isEmpty && es.all (fun e => Nat.ble last e.born) then .bad 64 else
      let f (x : Option MEnt) : R := (match x with
        | none => k (.t [.c (.bool false)]) st
        | some e => putBlk st p (.mapIter (some m) since (seen ++ [e.born]) clock) fun st => k (.t [.c (.bool true), .c e.key, e.val]) st)
      match mapCands es since seen with
      | [] => .bad 65
      | [x] => f x
      | l => allR l f
    | _ => .bad 63
  | _, _ => .bad 66
def structF (P : Program) (t f : Nat) : Option (Nat × Nat × Bool) :=
  match und P t with
  | some (.struct fs) => match fs[f]? with
    | some fd => (tinfo P fd.type).map fun ti => (fd.offset, ti.size, ti.agg)
    | none => none
  | _ => none
/-- two numbers and an operation: the general way -/
def intsGen (op : BinOp) (a b : RV) (k : RV → R) : R :=
  match a, b with
  | .c a, .c b => (match cellInt a, cellInt b with
    | some (j, x), some (j', y) => if j = j' ∨ op = .shl ∨ op = .shr then intGen op j x y k else .bad 76
    | _, _ => .bad 78)
  | _, _ => .bad 81
/-- ints: the commonest operations by themselves -/
structure BC where run : RV → RV → (RV → R) → R
def binI (op : BinOp) : BC :=
  match op with
  | .add => ⟨fun a b k => vI a (fun x => vI b (fun y => fz (Nat.add x y) fun s => Bool.casesOn (Nat.ble s 9223372036854775807) (.bad 83) (k (.c (.i s)))) (fun _ => intsGen .add a b k)) (fun _ => intsGen .add a b k)⟩
  | .sub => ⟨fun a b k => vI a (fun x => vI b (fun y => Bool.casesOn (Nat.ble y x) (intsGen .sub a b k) (fz (Nat.sub x y) fun s => Bool.casesOn (Nat.ble s 9223372036854775807) (.bad 83) (k (.c (.i s))))) (fun _ => intsGen .sub a b k)) (fun _ => intsGen .sub a b k)⟩
  | .lss => ⟨fun a b k => vI a (fun x => vI b (fun y => Bool.casesOn (Nat.blt x y) (k (.c (.bool false))) (k (.c (.bool true)))) (fun _ => intsGen .lss a b k)) (fun _ => intsGen .lss a b k)⟩
  | .geq => ⟨fun a b k => vI a (fun x => vI b (fun y => Bool.casesOn (Nat.ble y x) (k (.c (.bool false))) (k (.c (.bool true)))) (fun _ => intsGen .geq a b k)) (fun _ => intsGen .geq a b k)⟩
  | .gtr => ⟨fun a b k => vI a (fun x => vI b (fun y => Bool.casesOn (Nat.blt y x) (k (.c (.bool false))) (k (.c (.bool true)))) (fun _ => intsGen .gtr a b k)) (fun _ => intsGen .gtr a b k)⟩
  | .leq => ⟨fun a b k => vI a (fun x => vI b (fun y => Bool.casesOn (Nat.ble x y) (k (.c (.bool false))) (k (.c (.bool true)))) (fun _ => intsGen .leq a b k)) (fun _ => intsGen .leq a b k)⟩
  | .eql => ⟨fun a b k => vI a (fun x => vI b (fun y => Bool.casesOn (Nat.beq x y) (k (.c (.bool false))) (k (.c (.bool true)))) (fun _ => intsGen .eql a b k)) (fun _ => intsGen .eql a b k)⟩
  | .neq => ⟨fun a b k => vI a (fun x => vI b (fun y => Bool.casesOn (Nat.beq x y) (k (.c (.bool true))) (k (.c (.bool false)))) (fun _ => intsGen .neq a b k)) (fun _ => intsGen .neq a b k)⟩
  | .mul => ⟨fun a b k => vI a (fun x => vI b (fun y => natQ .mul .i64 9223372036854775807 x y k) (fun _ => intsGen .mul a b k)) (fun _ => intsGen .mul a b k)⟩
  | .quo => ⟨fun a b k => vI a (fun x => vI b (fun y => Bool.casesOn (Nat.beq y 0) (fz (Nat.div x y) fun c => Bool.casesOn (Nat.ble c 9223372036854775807) (.bad 83) (k (.c (.i c)))) (.bad 102)) (fun _ => intsGen .quo a b k)) (fun _ => intsGen .quo a b k)⟩
  | .rem => ⟨fun a b k => vI a (fun x => vI b (fun y => Bool.casesOn (Nat.beq y 0) (fz (Nat.mod x y) fun c => k (.c (.i c))) (.bad 102)) (fun _ => intsGen .rem a b k)) (fun _ => intsGen .rem a b k)⟩
  | op => ⟨fun a b k => intsGen op a b k⟩
def binN (op : BinOp) (j : IntKind) : BC :=
  let mx := mxOf j
  let u8 := match j with | .u8 => true | _ => false
  if u8 then
    match op with
    | .eql => ⟨fun a b k => vU a (fun x => vU b (fun y => Bool.casesOn (Nat.beq x y) (k (.c (.bool false))) (k (.c (.bool true)))) (fun _ => intsGen .eql a b k)) (fun _ => intsGen .eql a b k)⟩
    | .neq => ⟨fun a b k => vU a (fun x => vU b (fun y => Bool.casesOn (Nat.beq x y) (k (.c (.bool true))) (k (.c (.bool false)))) (fun _ => intsGen .neq a b k)) (fun _ => intsGen .neq a b k)⟩
    | .and => ⟨fun a b k => vU a (fun x => vU b (fun y => fz (Nat.land x y) fun c => Bool.casesOn (Nat.ble c 255) (.bad 83) (k (.c (.u c)))) (fun _ => intsGen .and a b k)) (fun _ => intsGen .and a b k)⟩
    | .shr => ⟨fun a b k => vU a (fun x => vN b fun y => Bool.casesOn (Nat.ble y 8) (intsGen .shr a b k) (fz (Nat.shiftRight x y) fun c => k (.c (.u c)))) (fun _ => intsGen .shr a b k)⟩
    | op => ⟨fun a b k => intsGen op a b k⟩
  else ⟨fun a b k => match a, b with
    | .c (.nat j1 x), .c (.nat j2 y) => if j1 = j ∧ j2 = j then natQ op j mx x y k else intsGen op a b k
    | .c (.nat j1 x), .c (.i y) => if j1 = j ∧ (op = .shl ∨ op = .shr) then natQ op j mx x y k else intsGen op a b k
    | a, b => intsGen op a b k⟩
/-- is it equal? is it not? -/
def eqBC (op : BinOp) (f : Cell → Cell → Option Bool) : BC :=
  match op with
  | .eql => ⟨fun a b k => match a, b with | .c x, .c y => (match f x y with | some r => mkB r k | none => .bad 77) | _, _ => .bad 77⟩
  | .neq => ⟨fun a b k => match a, b with | .c x, .c y => (match f x y with | some r => mkB (!r) k | none => .bad 77) | _, _ => .bad 77⟩
  | _ => ⟨fun _ _ _ => .bad 78⟩
def boolEq : Cell → Cell → Option Bool | .bool a, .bool b => some (a == b) | _, _ => none
/-- pointers: one place and the same, or nil -/
def ptrEq (sized : Bool) : Cell → Cell → Option Bool
  | .nil .p, .nil .p => some true
  | .nil .p, .ptr _ _ => some false
  | .ptr _ _, .nil .p => some false
  | .ptr p a, .ptr q b => if sized && p.beq q then some (Nat.beq a b) else none
  | _, _ => none
def slEq : Cell → Cell → Option Bool
  | .nil .s, .nil .s => some true
  | .nil .s, .sl .. => some false | .nil .s, .slu .. => some false | .sl .., .nil .s => some false | .slu .., .nil .s => some false
  | _, _ => none
def mapEq : Cell → Cell → Option Bool | .nil .m, .nil .m => some true | .nil .m, .map _ => some false | .map _, .nil .m => some false | _, _ => none
def fnEq : Cell → Cell → Option Bool | .nil .f, .nil .f => some true | .nil .f, .fn .. => some false | .fn .., .nil .f => some false | _, _ => none
def ptrTo (P : Program) (t : Nat) : Bool := match tyI P t, und P t with | some i, some (.pointer el) => i.comparable && (match sizeO P el with | some (_ + 1) => true | _ => false) | _, _ => false
def ifaceEq (P : Program) (both : Bool) : Cell → Cell → Option Bool
  | .nil .i, .nil .i => if both then some true else none
  | .nil .i, .iface _ _ => some false
  | .iface _ _, .nil .i => some false
  | .iface t c, .iface u d => if t = u then (if ptrTo P t then ptrEq true c d else none) else some false
  | _, _ => none
def isConstO : Operand → Bool | .const _ => true | _ => false
def ropeBC (ks : List KK) (len : Nat) (allI : Bool) (op : BinOp) : BC :=
  match op with
  | .eql => ⟨fun a b k => match a, b with | .a x, .a y => (match ropeEq ks len allI x y with | some r => mkB r k | none => .bad 79) | _, _ => .bad 80⟩
  | .neq => ⟨fun a b k => match a, b with | .a x, .a y => (match ropeEq ks len allI x y with | some r => mkB (!r) k | none => .bad 79) | _, _ => .bad 80⟩
  | _ => ⟨fun _ _ _ => .bad 78⟩
def binOf (P : Program) (op : BinOp) (t : Nat) (cst : Bool) : BC :=
  match und P t with
  | some (.int .i64) => binI op
  | some (.int j) => binN op j
  | some .string => ⟨fun a b k => match a, b with | .c (.str n x), .c (.str m y) => strOp op n x m y k | _, _ => .bad 76⟩
  | some .bool => eqBC op boolEq
  | some (.pointer el) => eqBC op (ptrEq (match sizeO P el with | some (_ + 1) => true | _ => false))
  | some (.slice _) => eqBC op slEq
  | some (.map _ _) => eqBC op mapEq
  | some (.func _ _ _) => eqBC op fnEq
  | some (.interface ms) => eqBC op (ifaceEq P (ms.isEmpty || cst))
  | some (.struct _) | some (.array _ _) => (match plainK P 12 t with | some ks => let len := ks.length; let allI := ks.all isKI; ropeBC ks len allI op | none => ⟨fun _ _ _ => .bad 80⟩)
  | _ => ⟨fun _ _ _ => .bad 80⟩
def convI (j : IntKind) : SG → SG := fun s => match s with
  | ⟨f⟩ => match j with
    | .i64 => ⟨fun e fr k => f e fr fun v => match v with
        | .c (.i n) => Bool.casesOn (Nat.ble n 9223372036854775807) (.bad 84) (k (.c (.i n)))
        | .c (.u n) => Bool.casesOn (Nat.ble n 9223372036854775807) (.bad 84) (k (.c (.i n)))
        | .c c => (match cellInt c with | some (_, n) => mkI .i64 (IntKind.wrap .i64 n) k | none => .bad 84)
        | _ => .bad 84⟩
    | j => let mx := mxOf j; ⟨fun e fr k => f e fr fun v => match v with
        | .c (.i n) => Bool.casesOn (Nat.ble n mx) (mkI j (j.wrap (.ofNat n)) k) (mkN j n k)
        | .c (.u n) => Bool.casesOn (Nat.ble n mx) (mkI j (j.wrap (.ofNat n)) k) (mkN j n k)
        | .c c => (match cellInt c with | some (_, n) => mkI j (j.wrap n) k | none => .bad 84)
        | _ => .bad 84⟩
def toStr (st : St) (v : RV) (k : RV → R) : R :=
  match v with
  | .c (.nil .s) => k (.c (.str 0 0))
  | .c (.sl p off len _) => if len = 0 then k (.c (.str 0 0)) else rowOf st p fun r _ _ _ => r.ext off len fun r => strR r k
  | .c (.slu p off len _) => if len = 0 then k (.c (.str 0 0)) else rowOf st p fun r _ _ _ => r.ext off len fun r => strR r k
  | _ => .bad 85
def elOfV (v : Value) : Option El :=
  match v with
  | .agg _ => (ropeOfV v).map .a
  | .tuple _ => none
  | v => (cellOfV v).map .c
def zeroOf (P : Program) (t : Nat) : Option El := match tyI P t with | some i => i.zero.bind elOfV | none => none
def giveOk (ok : Bool) (v : El) (b : Bool) (k : RV → R) : R := if ok then k (.t [v, .c (.bool b)]) else k v.rv
def doLookup (kk : KK) (ok : Bool) (zero : El) (st : St) (m : RV) (key : Cell) (k : RV → R) : R :=
  if keyOk kk key then (match m with
    | .c (.nil .m) => giveOk ok zero false k
    | .c (.map p) => gGet st p fun b => (match b with
      | .map es _ => (match findKey key es 0 with
        | some (some (_, en)) => giveOk ok en.val true k
        | some none => giveOk ok zero false k
        | none => .bad 125)
      | _ => .bad 124)
    | _ => .bad 124) else .bad 126
def doUpdate (kk : KK) (st : St) (m : RV) (key : Cell) (v : El) (k : St → R) : R :=
  if keyOk kk key then (match m with
    | .c (.map p) => ownBlk st p fun b => (match b with
      | .map es c => (match findKey key es 0 with
        | some (some (i, _)) => putBlk st p (.map (setEnt es i fun e => { e with key, val := v }) c) k
        | some none => fz (c + 1) fun c' => putBlk st p (.map (es ++ [⟨key, v, c⟩]) c') k
        | none => .bad 130)
      | _ => .bad 129)
    | _ => .bad 129) else .bad 131
def doEntry (kk : KK) (zero : El) (st : St) (m : RV) (key : Cell) (k : RV → St → R) : R :=
  if keyOk kk key then (match m with
    | .c (.map p) => ownBlk st p fun b => (match b with
      | .map es c => (match findKey key es 0 with
        | some (some (i, en)) => putBlk st p (.map (setEnt es i fun e => { e with key }) c) fun st => k (.t [en.val, .c (.i en.born)]) st
        | some none => fz (c + 1) fun c' => putBlk st p (.map (es ++ [⟨key, zero, c⟩]) c') fun st => k (.t [zero, .c (.i c)]) st
        | none => .bad 134)
      | _ => .bad 133)
    | _ => .bad 133) else .bad 135
/-- a pointer into a whole row of which something is asked: the cells, whole?, read-only?, the type, the place -/
def ptrIn (st : St) (v : RV) (ok : Nat → Bool → Bool → Nat → Nat → Bool) (k : RV → R) : R :=
  match v with
  | .c (.nil .p) => k (.c (.nil .p))
  | .c (.ptr p off) => rowOf st p fun r ex ro t => r.sz fun n => Bool.casesOn (ok n ex ro t off) (.bad 87) (k (.c (.ptr p off)))
  | _ => .bad 87
/-- bytes? -/
def isU8T (P : Program) (t : Nat) : Bool := match und P t with | some (.int .u8) => true | _ => false
/-- is it an interface's type, or none that is known? -/
def isIface (P : Program) (t : Nat) : Bool := match und P t with | some (.interface _) | none => true | _ => false
def compOp (P : Program) (gl ds : List Nat) (o : Oper) : OC :=
  match o.op with
  | .move x | .assign x => match src P gl ds x with | ⟨f⟩ => ⟨fun _ e fr st k => f e fr fun v => k v st⟩
  | .pick c a b => match src P gl ds c, src P gl ds a, src P gl ds b with | ⟨f⟩, ⟨g⟩, ⟨h⟩ => ⟨fun _ e fr st k => f e fr fun v => vBool v fun b => Bool.casesOn b (h e fr fun v => k v st) (g e fr fun v => k v st)⟩
  | .alloc t => match tinfo P t with | some ti => let z := ti.zero; ⟨fun _ _ _ st k => newBlk st (.cells z true false t) fun p st => k (.c (.ptr p 0)) st⟩ | none => badO 68
  | .box t x => match src P gl ds x with | ⟨f⟩ => ⟨fun _ e fr st k => f e fr fun v => rvRope v fun r => newBlk st (.cells r true false t) fun p st => k (.c (.ptr p 0)) st⟩
  | .build t ps => match tinfo P t, srcs P gl ds (ps.toList.map (·.2)) with
    | some ti, ⟨g⟩ => match placesT P ti.und (ps.toList.map (·.1)) with
      | some places => let z := ti.zero; ⟨fun _ e fr st k => g e fr fun vs => fillR places vs z fun r => k (.a r) st⟩
      | none => badO 70
    | _, _ => badO 70
  | .buildSlice t n ps => match und P t, srcs P gl ds (ps.toList.map (·.2)) with
    | some (.slice el), ⟨g⟩ => match tinfo P el with
      | some ti =>
        let places := ps.toList.map fun p => (p.1 * ti.size, ti.size)
        let z := ti.zero
        if n * ti.size > 16777216 then badO 71 else ⟨fun _ e fr st k => g e fr fun vs => repR z n fun z => fillR places vs z fun r => newBlk st (.cells r true false el) fun p st => k (.c (.sl p 0 n n)) st⟩
      | none => badO 71
    | _, _ => badO 71
  | .load t a => match tinfo P t, src P gl ds a with
    | some ti, ⟨f⟩ => let sz := ti.size; if ti.agg then ⟨fun _ e fr st k => f e fr fun v => vPtr v fun p off => loadA sz st p off fun v => k v st⟩ else ⟨fun _ e fr st k => f e fr fun v => vPtr v fun p off => load1 st p off fun v => k v st⟩
    | _, _ => badO 73
  | .store t a x => match tinfo P t, src P gl ds a, src P gl ds x with
    | some ti, ⟨f⟩, ⟨g⟩ => let sz := ti.size; if ti.agg then ⟨fun _ e fr st k => f e fr fun v => vPtr v fun p off => g e fr fun v => rvRope v fun r => storeA sz st p off r fun st => k noVal st⟩
      else if sz = 1 then ⟨fun _ e fr st k => f e fr fun v => vPtr v fun p off => g e fr fun v => rvC v fun c => store1 st p off c fun st => k noVal st⟩ else badO 74
    | _, _, _ => badO 74
  | .nilCheck x => match src P gl ds x with | ⟨f⟩ => ⟨fun _ e fr st k => f e fr fun v => match v with | .c (.nil .p) | .c (.nil .i) | .c (.nil .f) => .bad 75 | v => k v st⟩
  | .binOp op t x y _ => match src P gl ds x, src P gl ds y, binOf P op t (isConstO x || isConstO y) with
    | ⟨f⟩, ⟨g⟩, ⟨h⟩ => ⟨fun _ e fr st k => f e fr fun a => g e fr fun b => h a b fun v => k v st⟩
  | .unOp op _ x => match src P gl ds x with
    | ⟨f⟩ => match op with
      | .not => ⟨fun _ e fr st k => f e fr fun v => vBool v fun b => Bool.casesOn b (k (.c (.bool true)) st) (k (.c (.bool false)) st)⟩
      | .neg => ⟨fun _ e fr st k => f e fr fun v => rvC v fun c => match cellInt c with | some (j, n) => intGen .sub j 0 n fun v => k v st | none => .bad 82⟩
      | .xor => ⟨fun _ e fr st k => f e fr fun v => rvC v fun c => match cellInt c with | some (j, n) => intGen .xor j (if j.signed then -1 else j.max) n fun v => k v st | none => .bad 82⟩
      | _ => badO 82
  | .convert s d x => match und P s, und P d with
      | some _, some (.int j) => (match convI j (src P gl ds x) with | ⟨f⟩ => ⟨fun _ e fr st k => f e fr fun v => k v st⟩)
      | some .string, some .string => (match src P gl ds x with | ⟨f⟩ => ⟨fun _ e fr st k => f e fr fun v => match v with | .c (.str n x) => k (.c (.str n x)) st | _ => .bad 85⟩)
      | some (.slice el), some .string => if isU8T P el then (match src P gl ds x with | ⟨f⟩ => ⟨fun _ e fr st k => f e fr fun v => toStr st v fun v => k v st⟩) else badO 87
      | some .string, some (.slice el) => if isU8T P el then (match src P gl ds x with | ⟨f⟩ => ⟨fun _ e fr st k => f e fr fun v => match v with
          | .c (.str n x) => if n > 1000000000 then .bad 86 else newBlk st (.cells (.p .u8 n x) false false el) fun p st => k (.c (.slu p 0 n 1)) st
          | _ => .bad 86⟩) else badO 87
      | some (.pointer el), some .unsafePointer => (match sizeO P el, src P gl ds x with
        | some (_ + 1), ⟨f⟩ => ⟨fun _ e fr st k => f e fr fun v => ptrIn st v (fun n ex _ _ off => ex && Nat.blt off n) fun v => k v st⟩
        | _, _ => badO 87)
      | some .unsafePointer, some (.pointer u) => (match sizeO P u, src P gl ds x with
        | some _, ⟨f⟩ => ⟨fun _ e fr st k => f e fr fun v => ptrIn st v (fun n ex ro t off => ex && !ro && liesAt P P.depth t (Nat.div n (P.cellsOf t)) off u 1) fun v => k v st⟩
        | _, _ => badO 87)
      | _, _ => badO 87
  | .makeInterface t x => if isIface P t then badO 88 else match src P gl ds x with | ⟨f⟩ => ⟨fun _ e fr st k => f e fr fun v => rvC v fun c => k (.c (.iface t c)) st⟩
  | .makeFunc (.func n) fs cs => match srcs P gl ds (fs.toList ++ cs.toList) with
    | ⟨f⟩ => let nf := fs.size; ⟨fun _ e fr st k => f e fr fun a => envOf a fun env => k (.c (.fn (.func n) nf env)) st⟩
  | .makeMap t x => match x with
    | none => ⟨fun _ _ _ st k => newBlk st (.map [] 0) fun p st => k (.c (.map p)) st⟩
    | some x => match und P t, src P gl ds x with
      | some (.map _ _), ⟨f⟩ => ⟨fun _ e fr st k => f e fr fun v => vN v fun _ => newBlk st (.map [] 0) fun p st => k (.c (.map p)) st⟩
      | _, _ => badO 69
  | .makeSlice t l c => match und P t, src P gl ds l, src P gl ds c with
    | some (.slice el), ⟨f⟩, ⟨g⟩ => match tinfo P el with
      | some ti => let by_ := ti.bytes; let z := ti.zero; ⟨fun _ e fr st k => f e fr fun l => vN l fun l => g e fr fun c => vN c fun c =>
          if l ≤ c ∧ c * by_ ≤ 1000000000 ∧ c ≤ 1000000000 then repR z c fun z => newBlk st (.cells z true false el) fun p st => k (.c (.sl p 0 l c)) st else .bad 90⟩
      | none => badO 91
    | _, _, _ => badO 91
  | .slice t x lo hi mx => if mx.isSome && hi.isNone then badO 93 else match src P gl ds x, osrc P gl ds lo, osrc P gl ds hi, osrc P gl ds mx with
    | ⟨f⟩, ⟨g⟩, ⟨h⟩, ⟨i⟩ =>
      let go (isArr : Bool) (len esz : Nat) : OC := ⟨fun _ e fr st k => f e fr fun v => g e fr fun lo => h e fr fun hi => i e fr fun mx => slicing st isArr esz v len lo hi mx fun v => k v st⟩
      match und P t with
      | some (.array n el) => (match sizeO P el with | some esz => go true n esz | none => badO 92)
      | some (.slice el) => (match sizeO P el with | some esz => go false 0 esz | none => badO 92)
      | some .string => if mx.isSome then badO 93 else ⟨fun _ e fr st k => f e fr fun v => g e fr fun lo => h e fr fun hi => match v with | .c (.str n x) => strSlice n x lo hi fun v => k v st | _ => .bad 93⟩
      | _ => badO 94
  | .fieldAddr s x fi => match structF P s fi, src P gl ds x with
    | some (off, sz, _), ⟨f⟩ => if sz = 0 then badO 95 else ⟨fun _ e fr st k => f e fr fun v => vPtr v fun p o => fz (Nat.add o off) fun o => k (.c (.ptr p o)) st⟩
    | _, _ => badO 97
  | .field t x fi => match structF P t fi, src P gl ds x with
    | some (off, sz, agg), ⟨f⟩ => ⟨fun _ e fr st k => f e fr fun v => match v with
        | .a r => Bool.casesOn agg (r.get off fun c => k (.c c) st) (r.ext off sz fun r => k (.a r) st)
        | _ => .bad 98⟩
    | _, _ => badO 99
  | .indexAddr t x ix => match src P gl ds x, src P gl ds ix with
    | ⟨f⟩, ⟨g⟩ => match und P t with
      | some (.array n el) => (match sizeO P el with
        | some esz => ⟨fun _ e fr st k => f e fr fun v => vPtr v fun p o => g e fr fun i => vN i fun i => Bool.casesOn (Nat.blt i n) (.bad 112) (fz (Nat.add o (Nat.mul i esz)) fun o => k (.c (.ptr p o)) st)⟩
        | none => badO 116)
      | some (.slice el) => (match sizeO P el with
        | some esz => ⟨fun _ e fr st k => f e fr fun v => g e fr fun i => vN i fun i => match v with
          | .c (.sl p o n _) => Bool.casesOn (Nat.blt i n) (.bad 114) (fz (Nat.add o (Nat.mul i esz)) fun o => k (.c (.ptr p o)) st)
          | .c (.slu p o n _) => Bool.casesOn (Nat.blt i n) (.bad 114) (fz (Nat.add o (Nat.mul i esz)) fun o => k (.c (.ptr p o)) st)
          | _ => .bad 115⟩
        | none => badO 116)
      | _ => badO 116
  | .index t x ix => match src P gl ds x, src P gl ds ix with
    | ⟨f⟩, ⟨g⟩ => match und P t with
      | some (.array n el) => (match tinfo P el with
        | some ti => let esz := ti.size; let agg := ti.agg; ⟨fun _ e fr st k => f e fr fun v => g e fr fun i => vN i fun i => match v with
            | .a r => Bool.casesOn (Nat.blt i n) (.bad 118) (Bool.casesOn agg (r.get (i * esz) fun c => k (.c c) st) (r.ext (i * esz) esz fun r => k (.a r) st))
            | _ => .bad 119⟩
        | none => badO 119)
      | some .string => ⟨fun _ e fr st k => f e fr fun v => g e fr fun i => vN i fun i => match v with
          | .c (.str n x) => Bool.casesOn (Nat.blt i n) (.bad 121) (fz (lane 8 x i) fun c => k (.c (.u c)) st)
          | _ => .bad 121⟩
      | _ => badO 122
  | .lookup t x ix ok => match src P gl ds x, src P gl ds ix, mapT P t with
    | ⟨f⟩, ⟨g⟩, some (kk, el) => (match zeroOf P el with
      | some zero => ⟨fun _ e fr st k => f e fr fun m => g e fr fun key => rvC key fun key => doLookup kk ok zero st m key fun v => k v st⟩
      | none => badO 127)
    | _, _, _ => badO 127
  | .mapUpdate t m x v | .insert t m x v => match src P gl ds m, src P gl ds x, src P gl ds v, mapT P t with
    | ⟨f⟩, ⟨g⟩, ⟨h⟩, some (kk, _) => ⟨fun _ e fr st k => f e fr fun m => g e fr fun key => rvC key fun key => h e fr fun v => rvEl v fun v => doUpdate kk st m key v fun st => k noVal st⟩
    | _, _, _, _ => badO 131
  | .mapEntry t m x => match src P gl ds m, src P gl ds x, mapT P t with
    | ⟨f⟩, ⟨g⟩, some (kk, el) => (match zeroOf P el with
      | some zero => ⟨fun _ e fr st k => f e fr fun m => g e fr fun key => rvC key fun key => doEntry kk zero st m key k⟩
      | none => badO 136)
    | _, _, _ => badO 136
  | .entryStore _ m s x => match src P gl ds m, src P gl ds s, src P gl ds x with
    | ⟨f⟩, ⟨g⟩, ⟨h⟩ => ⟨fun _ e fr st k => f e fr fun m => g e fr fun s => vN s fun s => h e fr fun v => rvEl v fun v => match m with
        | .c (.map p) => ownBlk st p fun b => (match b with
          | .map es c => (match es.findIdx? fun e => Nat.beq e.born s with
            | some i => putBlk st p (.map (setEnt es i fun e => { e with val := v }) c) fun st => k noVal st
            | none => .bad 139)
          | _ => .bad 138)
        | _ => .bad 138⟩
  | .range t x => match src P gl ds x, und P t with
    | ⟨f⟩, some .string => ⟨fun _ e fr st k => f e fr fun v => match v with
      | .c (.str n x) => newBlk st (.strIter n x 0) fun p st => k (.c (.ptr p 0)) st
      | _ => .bad 140⟩
    | ⟨f⟩, some (.map _ _) => ⟨fun _ e fr st k => f e fr fun v => match v with
      | .c (.nil .m) => newBlk st (.mapIter none 0 [] 0) fun p st => k (.c (.ptr p 0)) st
      | .c (.map m) => gGet st m fun b => (match b with | .map _ c => newBlk st (.mapIter (some m) c [] c) fun p st => k (.c (.ptr p 0)) st | _ => .bad 140)
      | _ => .bad 140⟩
    | _, _ => badO 140
  | .next it isStr => match src P gl ds it with | ⟨f⟩ => ⟨fun _ e fr st k => f e fr fun v => vPtr v fun p o => if o = 0 then nextO st p isStr k else .bad 141⟩
  | .entry it => match src P gl ds it with
    | ⟨f⟩ => ⟨fun _ e fr st k => f e fr fun v => vPtr v fun p o => if o ≠ 0 then .bad 141 else gGet st p fun b => match b with
      | .mapIter (some m) _ seen stepped => gGet st m fun b => (match b with
        | .map es c => if c = stepped then (match seen.getLast?.bind fun s => es.find? fun e => Nat.beq e.born s with | some e => k (.t [.c e.key, e.val]) st | none => .bad 143) else .bad 143
        | _ => .bad 142)
      | _ => .bad 142⟩
  | .typeAssert x _ t ok => if isIface P t then badO 144 else match src P gl ds x with
    | ⟨f⟩ => ⟨fun _ e fr st k => f e fr fun v => match v with
      | .c (.iface u c) => if u = t then (if ok then k (.t [.c c, .c (.bool true)]) st else k (.c c) st) else .bad 144
      | _ => .bad 144⟩
  | .extract x i => match src P gl ds x with
    | ⟨f⟩ => ⟨fun _ e fr st k => f e fr fun v => match v with | .t l => (match l[i]? with | some v => k v.rv st | none => .bad 145) | _ => .bad 145⟩
  | .call c => match c.callee with
    | .builtin b => builtinO P b c.argTypes.toList (srcs P gl ds c.args.toList)
    | .value (.func n) => (match extOf P n with
      | some x => extO P n x (srcs P gl ds c.args.toList)
      | none => (match srcs P gl ds c.args.toList with | ⟨g⟩ => ⟨fun caller e fr st k => g e fr fun vs => caller (.f n) vs st k⟩))
    | .value fv => (match src P gl ds fv, srcs P gl ds c.args.toList with
      | ⟨f⟩, ⟨g⟩ => ⟨fun caller e fr st k => f e fr fun v => rvC v fun fn => g e fr fun vs => callV caller fn vs st k⟩)
    | .invoke .. => badO 147
  | .ready _ => badO 148
  | .panic _ => badO 149
  | _ => badO 150
  where envOf (l : List El) (k : Cell → R) : R :=
  match l with
  | [] => k .undef
  | .c c :: rest => envOf rest fun env => k (.cns c env)
  | .a _ :: _ => .bad 15

/-! ### regions -/
structure RC where run : Caller → Env → Fr → St → (Env → Fr → St → R) → R
/-- a guarded operation: the guard's slot (plus one) stands in 'ds' -/
def guardC (P : Program) (gl ds : List Nat) (g : Option (Nat × Bool)) (n : Nat) (f : Caller → Env → Fr → St → (RV → St → R) → R) : OC :=
  match g with
  | none => ⟨f⟩
  | some (j, want) => if Nat.blt j n = false then badO 155 else match lget ds (n - 1 - j) with
    | some (t + 1) => (match src P gl ds (.tmp t) with
      | ⟨s⟩ => ⟨fun c e fr st k => s e fr fun v => match v with
        | .c (.bool b) => Bool.casesOn b (bif want then k noVal st else f c e fr st k) (bif want then f c e fr st k else k noVal st)
        | .t [] => k noVal st
        | _ => .bad 154⟩)
    | _ => badO 155
/-- the deferring operation is taken apart: it turns the frame -/
def compOps (P : Program) (round : Bool) (gl ds : List Nat) (n : Nat) : List Oper → RC
  | [] => ⟨fun _ e fr st k => k e fr st⟩
  | o :: os =>
    match compOps P round gl ((match o.dst with | some t => t + 1 | none => 0) :: ds) (n + 1) os with
    | ⟨rest⟩ =>
      match o.op with
      | .defer c => (match c.callee with
        | .value fv => (match src P gl ds fv, srcs P gl ds c.args.toList with
          | ⟨f⟩, ⟨g⟩ => if o.guard.isSome || round || o.dst.isSome then ⟨fun _ _ _ _ _ => .bad 151⟩ else ⟨fun c e fr st k => f e fr fun v => g e fr fun vs => match v with
            | .c (.fn (.func fn) nf env) => let l := unEnv env; Fr.casesOn fr fun q0 q1 q2 q3 more defs => rest c (noVal :: e) ⟨q0, q1, q2, q3, more, .call (.func fn) (l.take nf ++ vs ++ l.drop nf) :: defs⟩ st k
            | _ => .bad 152⟩)
        | _ => ⟨fun _ _ _ _ _ => .bad 153⟩)
      | _ =>
      match compOp P gl ds o with
      | ⟨f0⟩ =>
        match guardC P gl ds o.guard n f0 with
        | ⟨f⟩ =>
          match o.dst with
          | some t => (match idx t gl 0 with
            | some r => (match frSet r with | ⟨s⟩ => ⟨fun c e fr st k => f c e fr st fun v st => s fr v fun fr => rest c (v :: e) fr st k⟩)
            | none => ⟨fun c e fr st k => f c e fr st fun v st => rest c (v :: e) fr st k⟩)
          | none => ⟨fun c e fr st k => f c e fr st fun v st => rest c (v :: e) fr st k⟩

/-! ### what is the same; what is read -/
def FnV.same : FnV → FnV → Bool | .func f, .func g => Nat.beq f g | .yield p, .yield q => p.beq q | _, _ => false
def Cell.same : Cell → Cell → Bool
  | .i n, .i m => Nat.beq n m
  | .u n, .u m => Nat.beq n m
  | .nat j n, .nat k m => decide (j = k) && Nat.beq n m
  | .neg j n, .neg k m => decide (j = k) && Nat.beq n m
  | .bool a, .bool b => a == b
  | .ptr p o, .ptr q o' => p.beq q && Nat.beq o o'
  | .str n x, .str m y => Nat.beq n m && Nat.beq x y
  | .sl p o l k, .sl q o' l' k' => p.beq q && Nat.beq o o' && Nat.beq l l' && Nat.beq k k'
  | .slu p o l k, .slu q o' l' k' => p.beq q && Nat.beq o o' && Nat.beq l l' && Nat.beq k k'
  | .nil j, .nil k => decide (j = k)
  | .map p, .map q => p.beq q
  | .fn f n e, .fn f' n' e' => f.same f' && Nat.beq n n' && e.same e'
  | .cns h t, .cns h' t' => h.same h' && t.same t'
  | .iface t x, .iface t' x' => Nat.beq t t' && x.same x'
  | .undef, .undef => true
  | _, _ => false
def sameL : List Cell → List Cell → Bool | [], [] => true | a :: x, b :: y => a.same b && sameL x y | _, _ => false
def Rope.same : Rope → Rope → Bool
  | .nil, .nil => true
  | .l n cs, .l m ds => Nat.beq n m && sameL cs ds
  | .p j n x, .p k m y => j.eq k && Nat.beq n m && Nat.beq x y
  | .cat n a b, .cat m a' b' => Nat.beq n m && a.same a' && b.same b'
  | _, _ => false
def Rope.wfB : Rope → Bool
  | .nil => true | .l n cs => Nat.beq n cs.length | .p k n x => Nat.blt x (Nat.pow 2 (Nat.mul k.w n)) | .cat n a b => Nat.beq n a.size && a.wfB && b.wfB
/-- the same cells -/
def Rope.sameC (x y : Rope) : Bool := x.same y || (x.wfB && sameL x.toL y.toL)
def El.same : El → El → Bool | .c x, .c y => x.same y | .a x, .a y => x.sameC y | _, _ => false
def sameE : List El → List El → Bool | [], [] => true | a :: x, b :: y => a.same b && sameE x y | _, _ => false
def RV.same : RV → RV → Bool | .c x, .c y => x.same y | .a x, .a y => x.sameC y | .t x, .t y => sameE x y | _, _ => false
def orBit (t m : Nat) : Nat := Nat.lor m (Nat.shiftLeft 1 t)
def xm (x : Operand) (m : Nat) : Nat := match x with | .tmp t => Nat.lor m (Nat.shiftLeft 1 t) | _ => m
def oxm (x : Option Operand) (m : Nat) : Nat := match x with | some x => xm x m | none => m
def opMask (o : Op) (m : Nat) : Nat :=
  match o with
  | .alloc _ | .ready _ | .waits _ => m
  | .move x | .assign x | .box _ x | .load _ x | .nilCheck x | .unOp _ _ x | .convert _ _ x | .sliceToArrayPointer _ x | .makeInterface _ x
  | .makeChan _ x | .fieldAddr _ x _ | .field _ x _ | .range _ x | .next x _ | .entry x | .typeAssert x _ _ _ | .extract x _ | .panic x | .recv _ x _ => xm x m
  | .pick c a b => xm c (xm a (xm b m))
  | .build _ ps | .buildSlice _ _ ps => lfold (fun p m => xm p.2 m) ps.toList m
  | .store _ a v | .binOp _ _ a v _ | .makeSlice _ a v | .indexAddr _ a v | .index _ a v | .lookup _ a v _ | .mapEntry _ a v | .send a v => xm a (xm v m)
  | .makeFunc _ first captured => lfold xm first.toList (lfold xm captured.toList m)
  | .makeMap _ r => oxm r m
  | .slice _ x l h mx => xm x (oxm l (oxm h (oxm mx m)))
  | .mapUpdate _ a k v | .entryStore _ a k v | .insert _ a k v => xm a (xm k (xm v m))
  | .call c | .go c | .defer c => lfold xm c.args.toList (match c.callee with | .value f => xm f m | .invoke r _ => xm r m | .builtin _ => m)
  | .select _ _ => m
/-! ### regions that draw their order -/
inductive OK3 | n | a | l
/-- what an operation does: nothing to the memory; something; it makes a block -/
def opKind (P : Program) (o : Oper) : Option OK3 :=
  match o.op with
  | .move _ | .pick .. | .build .. | .load .. | .nilCheck _ | .binOp .. | .unOp .. | .makeInterface .. | .makeFunc .. | .slice .. | .fieldAddr .. | .field .. | .indexAddr .. | .index .. | .lookup .. | .typeAssert .. | .extract .. | .entry _ => some .n
  | .convert s d _ => (match und P s, und P d with | some .string, some (.slice _) => some .l | _, _ => some .n)
  | .alloc _ | .box .. | .buildSlice .. | .makeMap .. | .makeSlice .. => some .l
  | .assign _ | .store .. | .mapUpdate .. | .insert .. | .mapEntry .. | .entryStore .. | .range .. | .next .. => some .a
  | .call c => (match c.callee with | .builtin .len | .builtin .cap | .builtin .min | .builtin .max => some .n | _ => some .a)
  | _ => none
/-- an operation where it stands: its number, what is ahead of it (all that is, as bits), the slots that those write, the slots that it reads, what it is -/
structure DOp where
  i : Nat
  anc : Nat
  rd : Nat
  rm : Nat
  kind : OK3
  op : Oper
def bit (m i : Nat) : Bool := Nat.beq (Nat.land (Nat.shiftRight m i) 1) 1
def subMask (a b : Nat) : Bool := Nat.beq (Nat.land a b) a
def dstBit (o : Oper) (m : Nat) : Nat := match o.dst with | some t => orBit t m | none => m
/-- the operations that are ahead of one, as bits; the slots that they write -/
def ancOf (done : List DOp) (es : List Edge) : Nat := lfold (fun e m => bif Region.binds .any e then (match lget done e.on with | some x => Nat.lor m (orBit e.on x.anc) | none => m) else m) es 0
def rdOf (done : List DOp) (es : List Edge) : Nat := lfold (fun e m => bif Region.binds .any e then (match lget done e.on with | some x => Nat.lor m (dstBit x.op x.rd) | none => m) else m) es 0
/-- what an operation reads: its operands, its guard -/
def rmOf (done : List DOp) (o : Oper) : Option Nat := match o.guard with | none => some (opMask o.op 0) | some (j, _) => (match lget done j with | some x => (match x.op.dst with | some t => some (orBit t (opMask o.op 0)) | none => none) | none => none)
def dops (P : Program) (done : List DOp) (i : Nat) : List Oper → Option (List DOp)
  | [] => some []
  | o :: os =>
    match opKind P o, rmOf done o with
    | some k, some rm => if o.after.toList.all (fun e => !Region.binds .any e || Nat.blt e.on i) then
      (let x : DOp := ⟨i, ancOf done o.after.toList, rdOf done o.after.toList, rm, k, o⟩
       match dops P (done ++ [x]) (i + 1) os with | some l => some (x :: l) | none => none) else none
    | _, _ => none
/-- a step of the schedule: run an operation (of the memory, or not); make sure that a block can be made; make it; a string made of a slice that nothing else sees -/
inductive DEv | n (d : DOp) | a (d : DOp) | p (d : DOp) | l (d : DOp) | c (b d : DOp)
/-- is it a string made of the slice that t holds? -/
def pairOf (P : Program) (gl : List Nat) (ds : List DOp) (d : DOp) : Option DOp :=
  match d.op.op with
  | .convert _ _ (.tmp t) => (match ds.find? fun b => (match b.op.dst with | some u => Nat.beq u t | none => false) && (match b.op.op with | .buildSlice .. => b.op.guard.isNone | _ => false) with
    | some b => (match idx t gl 0 with | some _ => none | none => if (ds.filter fun x => bit x.rm t).length = 1 && d.op.guard.isNone then some b else none)
    | none => none)
  | _ => none
/-- the schedule: what does nothing to the memory at once; blocks as late as may be -/
def plan (P : Program) (gl : List Nat) (all : List DOp) (dead : Nat) : Nat → Nat → Nat → List DEv
  | 0, _, _ => []
  | f + 1, d, pr =>
    match all.find? fun x => (match x.kind with
      | .n => !bit d x.i && subMask x.anc (Nat.lor d (Nat.land pr dead))
      | .l => !bit pr x.i && subMask x.anc (Nat.lor d (Nat.land pr dead))
      | .a => false) with
    | some x => (match x.kind with
      | .l => .p x :: plan P gl all dead f d (orBit x.i pr)
      | _ => (match pairOf P gl all x with | some b => .c b x | none => .n x) :: plan P gl all dead f (orBit x.i d) pr)
    | none =>
      let lat (need : Nat) := all.find? fun x => (match x.kind with | .l => !bit d x.i && !bit dead x.i && bit need x.i && bit pr x.i | _ => false)
      match all.find? fun x => (match x.kind with | .a => !bit d x.i | _ => false) with
      | some x => (match lat x.anc with
        | some y => .l y :: plan P gl all dead f (orBit y.i d) pr
        | none => if subMask x.anc (Nat.lor d (Nat.land pr dead)) then .a x :: plan P gl all dead f (orBit x.i d) pr else [])
      | none => (match all.find? fun x => (match x.kind with | .l => !bit d x.i && !bit dead x.i && bit pr x.i | _ => false) with
        | some y => .l y :: plan P gl all dead f (orBit y.i d) pr
        | none => [])
def deadOf (P : Program) (gl : List Nat) (all : List DOp) : Nat := lfold (fun d m => match d.kind with | .n => (match pairOf P gl all d with | some b => orBit b.i m | none => m) | _ => m) all 0
def slotO (o : Oper) : Nat := match o.dst with | some t => t + 1 | none => 0
def isKN (d : DOp) : Bool := match d.kind with | .n => true | _ => false
def isKA (d : DOp) : Bool := match d.kind with | .a => true | _ => false
def isKL (d : DOp) : Bool := match d.kind with | .l => true | _ => false
/-- does the schedule hold every operation, each behind what is ahead of it, and behind no turning of the memory but those that are ahead of it? is a dead slice (ddm: their slots) read by its string alone? -/
def evOk (all : List DOp) (dead ddm : Nat) : List DEv → Nat → Nat → Nat → Bool
  | [], d, pr, _ => all.all fun x => bif isKL x then bit pr x.i && (bit d x.i || bit dead x.i) else bit d x.i
  | .n x :: r, d, pr, sm => isKN x && !bit d x.i && subMask x.anc (Nat.lor d (Nat.land pr dead)) && subMask sm x.anc && Nat.beq (Nat.land x.rm ddm) 0 && evOk all dead ddm r (orBit x.i d) pr sm
  | .a x :: r, d, pr, sm => isKA x && !bit d x.i && subMask x.anc (Nat.lor d (Nat.land pr dead)) && subMask sm x.anc && Nat.beq (Nat.land x.rm ddm) 0 && evOk all dead ddm r (orBit x.i d) pr (orBit x.i sm)
  | .p x :: r, d, pr, sm => isKL x && !bit pr x.i && subMask x.anc (Nat.lor d (Nat.land pr dead)) && subMask sm x.anc && Nat.beq (Nat.land x.rm ddm) 0 && evOk all dead ddm r d (orBit x.i pr) sm
  | .l x :: r, d, pr, sm => isKL x && !bit d x.i && bit pr x.i && !bit dead x.i && evOk all dead ddm r (orBit x.i d) pr (orBit x.i sm)
  | .c b x :: r, d, pr, sm => isKN x && isKL b && !bit d x.i && subMask x.anc (Nat.lor d (Nat.land pr dead)) && subMask sm x.anc && bit dead b.i && bit pr b.i && bit x.anc b.i && b.op.guard.isNone && x.op.guard.isNone && Nat.beq (Nat.land x.rm ddm) (dstBit b.op 0) && evOk all dead ddm r (orBit x.i d) pr sm
/-- every slot is written once -/
def dstsOk : List DOp → Nat → Bool
  | [], _ => true
  | x :: r, m => match x.op.dst with | none => dstsOk r m | some t => !bit m t && dstsOk r (orBit t m)
def dstMask (all : List DOp) : Nat := lfold (fun x m => dstBit x.op m) all 0
def deadMask (all : List DOp) (dead : Nat) : Nat := lfold (fun x m => bif bit dead x.i then dstBit x.op m else m) all 0
/-- what is read has been written ahead, or will be written behind (by an assignment, a call); a dead slice is not kept -/
def readOk (dead : Nat) (all : List DOp) (x : DOp) (bad : Nat) : Bool :=
  bif Nat.beq bad 0 then true else !bit dead x.i && all.all fun j => match j.op.dst with | none => true | some t => !bit bad t || (isKA j && bit j.anc x.i)
def readsOk (gl : List Nat) (dead ddm : Nat) (all : List DOp) : Bool :=
  dstsOk all 0 && (let dm := dstMask all; all.all fun x => let m := Nat.land x.rm dm; readOk dead all x (Nat.xor m (Nat.land m x.rd))) && gl.all fun t => !bit ddm t
def deadOfEv (π : List DEv) : Nat := lfold (fun e m => match e with | .c b _ => orBit b.i m | _ => m) π 0
def guardD (P : Program) (gl ds : List Nat) (all : List DOp) (g : Option (Nat × Bool)) (f : OC) : OC :=
  match g with
  | none => f
  | some (j, want) => match (lget all j).bind (fun x => x.op.dst), f with
    | some t, ⟨f⟩ => (match src P gl ds (.tmp t) with
      | ⟨s⟩ => ⟨fun c e fr st k => s e fr fun v => match v with
        | .c (.bool b) => Bool.casesOn b (bif want then k noVal st else f c e fr st k) (bif want then f c e fr st k else k noVal st)
        | .t [] => k noVal st
        | _ => .bad 154⟩)
    | none, _ => badO 155
/-- an operation that is looked at again: its number, how many values there were ahead of it, what it does -/
structure NChk where
  i : Nat
  cnt : Nat
  f : OC
def isStrV : RV → Bool | .c (.str _ _) => true | _ => false
structure EvC where run : Caller → Env → Fr → St → (Env → St → R) → R
structure ChkC where run : Caller → Env → Fr → St → R → R
def chkAll (now : Nat) : List NChk → ChkC
  | [] => ⟨fun _ _ _ _ k => k⟩
  | x :: xs => match chkAll now xs, x with
    | ⟨g⟩, ⟨_, cnt, ⟨f⟩⟩ => let m := now - cnt; ⟨fun c e fr st k => selN (m - 1) e fun v => dropE m e fun ei => f c ei fr st fun v' _ => bif v.same v' then g c e fr st k else .bad 157⟩
/-- a string made of a slice that nothing else sees -/
def pairC (P : Program) (gl ds : List Nat) (b d : DOp) : OC :=
  match compOp P gl ds b.op, compOp P gl (slotO b.op :: ds) d.op with
  | ⟨fb⟩, ⟨fd⟩ => ⟨fun c e fr st k => fb c e fr st fun v st' => fd c (v :: e) fr st' fun x _ => bif isStrV x then k x st else .bad 160⟩
def compEvs (P : Program) (gl : List Nat) (all : List DOp) (ds : List Nat) (ns : List NChk) : List DEv → EvC
  | [] => ⟨fun _ e _ st k => k e st⟩
  | .n d :: rest => (match guardD P gl ds all d.op.guard (compOp P gl ds d.op) with
    | ⟨f⟩ => match compEvs P gl all (slotO d.op :: ds) (⟨d.i, ds.length, ⟨f⟩⟩ :: ns) rest with
      | ⟨g⟩ => ⟨fun c e fr st k => f c e fr st fun v _ => f c e fr st fun v' _ => bif v.same v' then g c (v :: e) fr st k else .bad 156⟩)
  | .c b d :: rest => (match pairC P gl ds b d with
    | ⟨f⟩ => match compEvs P gl all (slotO d.op :: ds) (⟨d.i, ds.length, ⟨f⟩⟩ :: ns) rest with
      | ⟨g⟩ => ⟨fun c e fr st k => f c e fr st fun v _ => f c e fr st fun v' _ => bif v.same v' then g c (v :: e) fr st k else .bad 156⟩)
  | .p d :: rest => (match guardD P gl ds all d.op.guard (compOp P gl ds d.op), compEvs P gl all ds ns rest with
    | ⟨f⟩, ⟨g⟩ => ⟨fun c e fr st k => f c e fr st fun _ _ => g c e fr st k⟩)
  | .l d :: rest | .a d :: rest => (match guardD P gl ds all d.op.guard (compOp P gl ds d.op) with
    | ⟨f⟩ => let ns := ns.filter fun x => !bit d.anc x.i
      match chkAll (ds.length + 1) ns, compEvs P gl all (slotO d.op :: ds) ns rest with
      | ⟨h⟩, ⟨g⟩ => ⟨fun c e fr st k => f c e fr st fun v st => h c (v :: e) fr st (g c (v :: e) fr st k)⟩)
/-- the kept slots, at the end -/
structure SetC where run : Env → Fr → (Fr → R) → R
def setAll (gl : List Nat) : List Nat → Nat → SetC
  | [], _ => ⟨fun _ fr k => k fr⟩
  | s :: ds, d => match setAll gl ds (d + 1) with
    | ⟨g⟩ => (match s with
      | 0 => ⟨g⟩
      | t + 1 => match idx t gl 0 with
        | some r => (match frSet r with | ⟨h⟩ => ⟨fun e fr k => selN d e fun v => h fr v fun fr => g e fr k⟩)
        | none => ⟨g⟩)
def slotsEv : List DEv → List Nat → List Nat
  | [], ds => ds
  | .p _ :: r, ds => slotsEv r ds
  | .n d :: r, ds | .a d :: r, ds | .l d :: r, ds | .c _ d :: r, ds => slotsEv r (slotO d.op :: ds)
structure RD where
  ds : List Nat
  rc : RC
def badR (n : Nat) : RD := ⟨[], ⟨fun _ _ _ _ _ => .bad n⟩⟩
def compDraw (P : Program) (gl : List Nat) (ops : List Oper) : RD :=
  match dops P [] 0 ops with
  | none => badR 158
  | some all =>
    let π := plan P gl all (deadOf P gl all) (3 * ops.length) 0 0
    let dead := deadOfEv π
    let ddm := deadMask all dead
    bif evOk all dead ddm π 0 0 0 && readsOk gl dead ddm all then
      let ds := slotsEv π []
      (match compEvs P gl all [] [] π, setAll gl ds 0 with
      | ⟨g⟩, ⟨s⟩ => ⟨ds, ⟨fun c _ fr st k => g c [] fr st fun e st => s e fr fun fr => k e fr st⟩⟩)
    else badR 159
/-! ### code -/
inductive Ex where | exit (id : Nat) | goto (l : Nat) | ret
structure CC where run : Caller → Env → Fr → St → (Env → Fr → St → R) → (Ex → Fr → St → R) → R
def fuelL : Nat := 1000000
/-- a region's operations: (what is defined in it, what is read in it before it is defined) -/
def scanOps : List Oper → Nat → Nat → Nat × Nat
  | [], d, m => (d, m)
  | o :: os, d, m => scanOps os (match o.dst with | some t => orBit t d | none => d) (Nat.lor m (Nat.xor (Nat.lor (opMask o.op 0) d) d))
/-- (kept slots, what the region just ahead defines) -/
def scan : Code → Nat × Nat → Nat × Nat
  | .region _ ops _, (m, _) => let (d, m) := scanOps ops.toList 0 m; (m, d)
  | .seq a b, x => scan b (scan a x)
  | .cond c a b, (m, d) =>
    let c := xm c 0
    let m := Nat.lor m (Nat.xor (Nat.lor c d) d)
    ((scan b ((scan a (m, 0)).1, 0)).1, 0)
  | .block _ c, x => ((scan c x).1, 0)
  | .loop c, (m, _) => ((scan c (m, 0)).1, 0)
  | .scope c, (m, _) => ((scan c (m, 0)).1, 0)
  | .rangeFunc f ps a b, (m, _) => ((scan b ((scan a (lfold orBit ps.toList (xm f m), 0)).1, 0)).1, 0)
  | _, (m, _) => (m, 0)
def bitsOf : Nat → Nat → Nat → List Nat
  | 0, _, _ => []
  | f + 1, i, m => Bool.casesOn (Nat.beq (Nat.land (Nat.shiftRight m i) 1) 1) (bitsOf f (i + 1) m) (i :: bitsOf f (i + 1) m)
def slotsOf (fn : Func) (c : Code) : List Nat :=
  let m := (scan c (0, 0)).1
  let m := lfold (fun r m => match r with | .tmp t => orBit t m | .cell a _ => orBit a m) fn.results.toList m
  let m := Nat.lor m (Nat.sub (Nat.shiftLeft 1 (fn.params.size + fn.nfree)) 1)
  bitsOf fn.ntmps 0 m
/-- are the places that are written places of the activation? -/
def opsOk (nt : Nat) : List Oper → Bool
  | [] => true
  | o :: os => (match o.dst with | some t => Nat.blt t nt | none => true) && opsOk nt os
def dstOk (nt : Nat) : Code → Bool
  | .region _ ops _ => opsOk nt ops.toList
  | .seq a b => dstOk nt a && dstOk nt b
  | .cond _ a b => dstOk nt a && dstOk nt b
  | .block _ c => dstOk nt c
  | .loop c => dstOk nt c
  | .scope c => dstOk nt c
  | .rangeFunc _ ps a b => ps.toList.all (fun t => Nat.blt t nt) && dstOk nt a && dstOk nt b
  | _ => true
/-- the closure, and the slots defined by its last region -/
structure CD where
  ds : List Nat
  cc : CC
/-- behind a range over a function -/
def afterF (r : Pos) (pending : Option Code) (fr : Fr) (st : St) (kn : Env → Fr → St → R) (ke : Ex → Fr → St → R) : R :=
  Fr.casesOn fr fun q0 q1 q2 q3 more defs =>
  match pending with
  | none => kn [] ⟨q0, q1, q2, q3, more, .mark r :: defs⟩ st
  | some (.exit id) => ke (.exit id) ⟨q0, q1, q2, q3, more, .mark r :: defs⟩ st
  | some .ret => ke .ret ⟨q0, q1, q2, q3, more, .mark r :: defs⟩ st
  | some (.goto t) => ke (.goto t) ⟨q0, q1, q2, q3, more, .mark r :: defs⟩ st
  | some _ => .bad 167
def endF (r l : Pos) (fr : Fr) (st : St) (kn : Env → Fr → St → R) (ke : Ex → Fr → St → R) : R :=
  ownBlk st l fun blk => match blk with
  | .loop ⟨state, pending, fn, fr0, params, assign, body, defers⟩ => (match state with
    | .busy => .bad 166
    | _ => putBlk st l (.loop ⟨.exhausted, pending, fn, fr0, params, assign, body, defers⟩) fun st => afterF r pending fr st kn ke)
  | _ => .bad 165
def isFnC : Cell → Bool | .fn (.func _) _ _ => true | _ => false
def compCode (P : Program) (gl : List Nat) (fnum : Nat) (round : Bool) (ds : List Nat) : Code → CD
  | .skip | .label _ => ⟨[], ⟨fun _ _ fr st kn _ => kn [] fr st⟩⟩
  | .region _ ops true => (match compDraw P gl ops.toList with | ⟨ds, ⟨f⟩⟩ => ⟨ds, ⟨fun c _ fr st kn _ => f c [] fr st kn⟩⟩)
  | .region _ ops false => match compOps P round gl [] 0 ops.toList with | ⟨f⟩ => ⟨(ops.toList.map fun o => match o.dst with | some t => t + 1 | none => 0).reverse, ⟨fun c _ fr st kn _ => f c [] fr st kn⟩⟩
  | .seq a b => match compCode P gl fnum round ds a with
    | ⟨ds, ⟨f⟩⟩ => match compCode P gl fnum round ds b with
      | ⟨ds, ⟨g⟩⟩ => ⟨ds, ⟨fun c e fr st kn ke => f c e fr st (fun e fr st => g c e fr st kn ke) ke⟩⟩
  | .cond c a b => match src P gl ds c, compCode P gl fnum round [] a, compCode P gl fnum round [] b with
    | ⟨s⟩, ⟨_, ⟨f⟩⟩, ⟨_, ⟨g⟩⟩ => ⟨[], ⟨fun c e fr st kn ke => s e fr fun v => vBool v fun b => Bool.casesOn b (g c [] fr st (fun _ => kn []) ke) (f c [] fr st (fun _ => kn []) ke)⟩⟩
  | .block id b => match compCode P gl fnum round ds b with
    | ⟨_, ⟨f⟩⟩ => ⟨[], ⟨fun c e fr st kn ke => f c e fr st (fun _ => kn []) fun x fr st => match x with | .exit j => Bool.casesOn (Nat.beq j id) (ke x fr st) (kn [] fr st) | x => ke x fr st⟩⟩
  | .loop b => match compCode P gl fnum round [] b with
    | ⟨_, ⟨f⟩⟩ => ⟨[], ⟨fun c _ fr st _ ke => natR2 (A := Fr) (B := St) (fun _ _ => .bad 161) (fun ih fr st => f c [] fr st (fun _ => ih) ke) fuelL fr st⟩⟩
  | .exit id => ⟨[], ⟨fun _ _ fr st _ ke => ke (.exit id) fr st⟩⟩
  | .goto l => ⟨[], ⟨fun _ _ fr st _ ke => ke (.goto l) fr st⟩⟩
  | .ret => ⟨[], ⟨fun _ _ fr st _ ke => ke .ret fr st⟩⟩
  | .scope b => match compCode P gl fnum round [] b with
    | ⟨_, ⟨f⟩⟩ => ⟨[], ⟨fun c _ fr st kn ke => f c [] fr st (fun _ => kn []) fun x fr st => match x with | .goto _ => .bad 162 | x => ke x fr st⟩⟩
  | .rangeFunc g ps a b =>
    if round then ⟨[], ⟨fun _ _ _ _ _ _ => .bad 163⟩⟩ else
    match src P gl ds g with
    | ⟨s⟩ => ⟨[], ⟨fun c e fr st kn ke => s e fr fun v => rvC v fun fv => Bool.casesOn (isFnC fv) (.bad 164)
      (newBlk st (.deferred (some [])) fun r st =>
      newBlk st (.loop { state := .ready, pending := none, fn := fnum, fr, params := ps.toList, assign := a, body := b, defers := r }) fun l st =>
      callV c fv [.c (.fn (.yield l) 0 .undef)] st fun _ st =>
      endF r l fr st kn ke)⟩⟩
  | .refuse _ => ⟨[], ⟨fun _ _ _ _ _ _ => .bad 168⟩⟩

/-! ### functions -/
structure FC where run : Caller → List El → St → (RV → St → R) → R
structure ResC where run : Fr → St → (List El → R) → R
def resultsOf (P : Program) (gl : List Nat) (rs : List ResultVar) : ResC :=
  match rs with
  | [] => ⟨fun _ _ k => k []⟩
  | .tmp t :: rest => (match src P gl [] (.tmp t), resultsOf P gl rest with
    | ⟨f⟩, ⟨g⟩ => ⟨fun fr st k => f [] fr fun v => rvEl v fun v => g fr st fun vs => k (v :: vs)⟩)
  | .cell a t :: rest => (match src P gl [] (.tmp a), tinfo P t, resultsOf P gl rest with
    | ⟨f⟩, some ti, ⟨g⟩ => let sz := ti.size; if ti.agg then ⟨fun fr st k => f [] fr fun v => vPtr v fun p off => loadA sz st p off fun v => rvEl v fun v => g fr st fun vs => k (v :: vs)⟩
        else ⟨fun fr st k => f [] fr fun v => vPtr v fun p off => load1 st p off fun v => rvEl v fun v => g fr st fun vs => k (v :: vs)⟩
    | _, _, _ => ⟨fun _ _ _ => .bad 175⟩)
/-- no deferred call, no range over a function -/
def plainOps : List Oper → Bool | [] => true | o :: os => (match o.op with | .defer _ => false | _ => true) && plainOps os
def plainC : Code → Bool
  | .region _ ops _ => plainOps ops.toList
  | .seq a b => plainC a && plainC b
  | .cond _ a b => plainC a && plainC b
  | .block _ c => plainC c
  | .loop c => plainC c
  | .scope c => plainC c
  | .rangeFunc _ _ _ _ => false
  | _ => true
def plainF (P : Program) (n : Nat) : Bool := match fnI P n with | some fn => (match fn.body with | some c => plainC c | none => false) | none => false
def runDefs (P : Program) (c : Caller) (ds : List ADef) (st : St) (k : St → R) : R :=
  match ds with
  | [] => k st
  | .mark r :: rest => ownBlk st r fun b => (match b with
    | .deferred (some []) => putBlk st r (.deferred none) fun st => runDefs P c rest st k
    | _ => .bad 176)
  | .call (.func f) args :: rest => if plainF P f then c (.f f) args st fun _ st => runDefs P c rest st k else .bad 177
  | _ => .bad 177
structure EntC where run : List El → Fr → (Fr → R) → R
/-- the arguments into slots n, n + 1 .. -/
def enter (gl : List Nat) (n : Nat) : Nat → EntC
  | 0 => ⟨fun args fr k => match args with | [] => k fr | _ => .bad 178⟩
  | m + 1 => match idx n gl 0 with
    | some r => (match frSet r, enter gl (n + 1) m with | ⟨s⟩, ⟨g⟩ => ⟨fun args fr k => match args with | a :: rest => s fr a.rv fun fr => g rest fr k | [] => .bad 178⟩)
    | none => ⟨fun _ _ _ => .bad 179⟩
def u0 : RV := .t []
def emptyFr (n : Nat) : Fr := ⟨⟨u0, u0, u0, u0⟩, ⟨u0, u0, u0, u0⟩, ⟨u0, u0, u0, u0⟩, ⟨u0, u0, u0, u0⟩, List.replicate n u0, []⟩
def one (vs : List El) (k : RV → R) : R := match vs with | [v] => k v.rv | vs => k (.t vs)
def compF (P : Program) (n : Nat) : FC :=
  match fnI P n with
  | some fn => match fn.body with
    | some code =>
      if !dstOk fn.ntmps code || fn.name == "runtime.NumGoroutine" then ⟨fun _ _ _ _ => .bad 183⟩ else
      let gl := slotsOf fn code
      match compCode P gl n false [] code, resultsOf P gl fn.results.toList, enter gl 0 (fn.params.size + fn.nfree) with
      | ⟨_, ⟨f⟩⟩, ⟨rs⟩, ⟨en⟩ =>
        let fr0 := emptyFr (gl.length - 16)
        ⟨fun c args st k => en args fr0 fun fr => f c [] fr st
          (fun _ fr st => runDefs P c fr.defs st fun st => rs fr st fun vs => one vs fun v => k v st)
          (fun x fr st => match x with | .ret => runDefs P c fr.defs st fun st => rs fr st fun vs => one vs fun v => k v st | _ => .bad 180)⟩
    | none => ⟨fun _ _ _ _ => .bad 181⟩
  | none => ⟨fun _ _ _ _ => .bad 182⟩
def slotsOfF (P : Program) (n : Nat) : List Nat := match fnI P n with | some fn => (match fn.body with | some c => slotsOf fn c | none => []) | none => []
structure ParC where run : List El → Fr → (Fr → R) → R
def setParams (gl : List Nat) : List Nat → ParC
  | [] => ⟨fun args fr k => match args with | [] => k fr | _ => .bad 183⟩
  | p :: ps => match idx p gl 0 with
    | some r => (match frSet r, setParams gl ps with | ⟨s⟩, ⟨g⟩ => ⟨fun args fr k => match args with | a :: rest => s fr a.rv fun fr => g rest fr k | [] => .bad 183⟩)
    | none => ⟨fun _ _ _ => .bad 183⟩
def ntOfF (P : Program) (n : Nat) : Nat := match fnI P n with | some fn => fn.ntmps | none => 0
def codeEx : Ex → Code | .exit i => .exit i | .goto l => .goto l | .ret => .ret
def endR (st : St) (l : Pos) (state : LoopState) (pending : Option Code) (k : St → R) : R :=
  ownBlk st l fun b => match b with
  | .loop ⟨_, _, fn, fr0, params, assign, body, defers⟩ => putBlk st l (.loop ⟨state, pending, fn, fr0, params, assign, body, defers⟩) k
  | _ => .bad 186
def beginR (st : St) (l : Pos) (k : St → R) : R :=
  ownBlk st l fun b => match b with
  | .loop ⟨.ready, pending, fn, fr0, params, assign, body, defers⟩ => putBlk st l (.loop ⟨.busy, pending, fn, fr0, params, assign, body, defers⟩) k
  | _ => .bad 185
structure RoC where run : Caller → Pos → List El → Fr → St → (RV → St → R) → R
/-- a round of a range over a function: turned once for each statement -/
def compRound (P : Program) (fn : Nat) (params : List Nat) (assign body : Code) : RoC :=
  if !(params.all (fun t => Nat.blt t (ntOfF P fn)) && dstOk (ntOfF P fn) assign && dstOk (ntOfF P fn) body) then ⟨fun _ _ _ _ _ _ => .bad 187⟩ else
  match setParams (slotsOfF P fn) params, compCode P (slotsOfF P fn) fn true [] assign, compCode P (slotsOfF P fn) fn true [] body with
  | ⟨sp⟩, ⟨_, ⟨fa⟩⟩, ⟨_, ⟨fb⟩⟩ => ⟨fun c l args fr st k => sp args fr fun fr =>
      fa c [] fr st (fun _ fr st => beginR st l fun st =>
        fb c [] fr st (fun _ _ st => endR st l .ready none fun st => k (.c (.bool true)) st) (fun x _ st => endR st l .done (some (codeEx x)) fun st => k (.c (.bool false)) st)) (fun _ _ _ => .bad 189)⟩
def doRound (P : Program) (c : Caller) (l : Pos) (args : List El) (st : St) (k : RV → St → R) : R :=
  ownBlk st l fun b => match b with
  | .loop ⟨_, _, fn, fr, params, assign, body, _⟩ => (match compRound P fn params assign body with
    | ⟨g⟩ => Fr.casesOn fr fun q0 q1 q2 q3 more _ => g c l args ⟨q0, q1, q2, q3, more, []⟩ st k)
  | _ => .bad 184
/-! ### joined calls: every order is run, over a heap that can't be turned; all must give the same -/
def posC : Cell → List Pos → List Pos | .ptr p _, l => p :: l | .sl p _ _ _, l => p :: l | .slu p _ _ _, l => p :: l | .map p, l => p :: l | _, l => l
def posE : El → List Pos → List Pos | .c x, l => posC x l | .a _, l => l
def posV : RV → List Pos | .c x => posC x [] | .a _ => [] | .t l => l.foldr posE []
def sameBlk (lo : Nat) (s s' : HT) (p : Pos) : Bool :=
  match s.at p, s'.at p with
  | some (.cells r e ro t), some (.cells r' e' ro' t') => r.sameC r' && e == e' && ro == ro' && Nat.beq t t' && Nat.ble lo p.num
  | none, none => true
  | _, _ => false
def expo (s : HT) : List Pos → HT → (HT → R) → R
  | [], h, k => k h
  | p :: ps, h, k => match s.at p with | some b => hSet p h (some b) fun h => expo s ps h k | none => expo s ps h k
/-- a place from which on nothing lies, in any order -/
def nextOf (a b : Pos) : Pos := Pos.ofNat (Nat.add (Nat.sub (Nat.mul 2 b.num) a.num) 1000)
def joined (g : FC) (c : Caller) (args : List El) (st : St) (k : RV → St → R) : R :=
  match forceR (g.run c args ⟨st.next, .e, st.heap :: st.old⟩ fun v s => .out v s) with
  | .out v s => fzPos (nextOf st.next s.next) fun n =>
    match forceR (g.run c args ⟨st.next, .e, st.heap :: st.old⟩ fun v' s' => bif v.same v' && Nat.ble s'.next.num n.num && (posV v).all (sameBlk st.next.num s.heap s'.heap) then .ok else .bad 195) with
    | .ok => expo s.heap (posV v) st.heap fun h => k v ⟨n, h, st.old⟩
    | x => x
  | .ok => .bad 196
  | x => x
def callN (P : Program) (J : Nat → Bool) : Nat → Caller :=
  natR4 (A := Callee) (B := List El) (C := St) (D := RV → St → R) (fun _ _ _ _ => .bad 190)
    (fun ih f args st k => match f with
      | .f n => (match compF P n with | ⟨g⟩ => bif J n then joined ⟨g⟩ ih args st k else g ih args st k)
      | .y l => doRound P ih l args st k)
/-! ### known calls: a call that was run by itself, over as much of the heap as it can reach -/
structure Known where
  args : List El
  next : Pos
  pre : List (Pos × Blk)
  res : RV
  post : List (Pos × Blk)
  gone : List Pos
  next' : Pos
def El.eqv : El → El → Bool | .c x, .c y => x.same y | .a x, .a y => x.same y | _, _ => false
def sameM : List MEnt → List MEnt → Bool | [], [] => true | a :: x, b :: y => a.key.same b.key && a.val.eqv b.val && Nat.beq a.born b.born && sameM x y | _, _ => false
def Blk.same : Blk → Blk → Bool
  | .cells r e ro t, .cells r' e' ro' t' => r.same r' && e == e' && ro == ro' && Nat.beq t t'
  | .map es c, .map es' c' => sameM es es' && Nat.beq c c'
  | _, _ => false
def atSame (h : HT) (p : Pos) (b : Blk) : Bool := match h.at p with | some b' => b.same b' | none => false
def isAt (h : HT) (p : Pos) : Bool := match h.at p with | some _ => true | none => false
def preOk (h : HT) : List (Pos × Blk) → Bool | [] => true | x :: l => atSame h x.1 x.2 && preOk h l
def layB : List (Pos × Blk) → HT → (HT → R) → R | [], h, k => k h | x :: l, h, k => hSet x.1 h (some x.2) fun h => layB l h k
def layN : List Pos → HT → (HT → R) → R | [], h, k => k h | p :: l, h, k => hSet p h none fun h => layN l h k
def inPs (p : Pos) : List Pos → Bool | [] => false | q :: l => q.beq p || inPs p l
/-- what is asked of the state behind: 'h', 'ph': what lies before, what is to be laid -/
def postIn (h : HT) (next : Pos) (s : HT) : List (Pos × Blk) → Bool | [] => true | x :: l => atSame s x.1 x.2 && (isAt h x.1 || Nat.ble next.num x.1.num) && postIn h next s l
def preIn (ph : HT) (gone : List Pos) (s : HT) : List (Pos × Blk) → Bool | [] => true | x :: l => (isAt ph x.1 || inPs x.1 gone || atSame s x.1 x.2) && preIn ph gone s l
def knownEnd (e : Known) (h ph : HT) (v : RV) (s : St) : R := bif e.res.same v && postIn h e.next s.heap e.post && preIn ph e.gone s.heap e.pre && Nat.ble s.next.num e.next'.num then .ok else .bad 200
/-- the run by itself -/
def knownRun (c : Caller) (n : Nat) (e : Known) : R := layB e.pre .e fun h => layB e.post .e fun ph => c (.f n) e.args ⟨e.next, h, []⟩ (knownEnd e h ph)
def findK (p : Pos) : List Known → Option Known | [] => none | e :: l => bif e.next.beq p then some e else findK p l
/-- ... used -/
def useK (es : List Known) (args : List El) (st : St) (k : RV → St → R) (d : R) : R :=
  match es with
  | [] => d
  | es => match st.old with
    | [] => (match findK st.next es with
      | some e => bif sameE e.args args && preOk st.heap e.pre then layN e.gone st.heap fun h => layB e.post h fun h => k e.res ⟨e.next', h, []⟩ else .bad 201
      | none => d)
    | _ => d
def callK (P : Program) (J : Nat → Bool) (T : Nat → List Known) : Nat → Caller :=
  natR4 (A := Callee) (B := List El) (C := St) (D := RV → St → R) (fun _ _ _ _ => .bad 190)
    (fun ih f args st k => match f with
      | .f n => useK (T n) args st k (match compF P n with | ⟨g⟩ => bif J n then joined ⟨g⟩ ih args st k else g ih args st k)
      | .y l => doRound P ih l args st k)
end
end Ev
