/- A part of the proof of BaseDrivers. No condition. -/
import Derived.Test.YtibajhihfaggfaaGreatDoorQAA
set_option linter.all false
set_option maxRecDepth 100000
set_option maxHeartbeats 8000000
namespace Go.Proofs.Gm
structure aF where
 k:Nat
 t:List Nat
deriving DecidableEq,Repr
abbrev Zi:=List aF
inductive T where
 |int (n:Int)
 |str (s:Yz)
 |bool (b:TG)
 |sl (l:List (List T))
deriving Repr
abbrev Row:=List T
abbrev Zg:=List Row
instance:Coe Int T:=⟨.int⟩
instance:Coe (List Nat) T:=⟨.str⟩
instance:Coe Bool T:=⟨.bool⟩
instance:Coe (List Row) T:=⟨.sl⟩
def tx(s:TC):List Nat:=s.toList.map Char.toNat
instance:Coe String (List Nat):=⟨tx⟩
def aO(s:Yz):List aF->Bool
 |t::_=>(t.k==3||t.k==5)&&t.t==s
 |[]=>false
def dv:List aF->Nat
 |t::_=>t.k
 |[]=>0
def cK(s:Yz)(l:Zi):Option (List aF):=if aO s l then some l.tail else none
def word(k:Nat):List aF->Option (List Nat×List aF)
 |t::r=>if t.k==k then some (t.t,r) else none
 |[]=>none
def ex(k:Int)(nm:Yz)(n:Int)(kids:Zg):Row:=[.int k,.str nm,.int n,.sl kids]
def bin(op:Yz)(a b:Row):Row:=ex 7 op 0 [a,b]
def num(s:Yz):Int:=s.foldl (fun(n:Int) (d:Nat)=>10*n+((d:Int) - 48)) 0
def Bq(s:Yz):Option Nat:=
 if s==tx "implies" then some 0 else if s==tx "or" then some 1 else if s==tx "and" then some 2
 else if s==tx "="||s==tx "/="||s==tx "<"||s==tx "<="||s==tx ">"||s==tx ">=" then some 3
 else if s==tx "+"||s==tx "-" then some 4 else if s==tx "*"||s==tx "//"||s==tx "%" then some 5 else none
def PM(n:Nat):List aF->Option (List Nat)
 |t::_=>if(t.k==3||t.k==5)&&Bq t.t==some n then some t.t else none
 |[]=>none
def Jf(one:List aF->Option (Row×List aF)):Nat->List aF->Option (List Row×List aF)
 |0,_=>none
 |f+1,l=>do
  let(x,r) <-one l
  if aO (tx ",") r then
   let(xs,r') <-Jf one f r.tail
   some (x::xs,r')
  else some ([x],r)
def mj(fs:Y9):Nat->List aF->Option (Row×List aF)
 |0,_=>none
 |f+1,l=>do
  let v:=aO (tx "detachable") l
  let l:=if v then l.tail else l
  let s:=aO (tx "separate") l
  let l:=if s then l.tail else l
  let(nm,r) <-word 2 l
  if nm==tx "NONE" then none else
  let Xx:=fs.contains nm
  let plain:=!Xx&&(nm==tx "INTEGER"||nm==tx "BOOLEAN")
  if plain&&(v||s)||Xx&&s then none else
  if Xx then(if aO (tx "[") r then none else some ([.int 4,.str nm,.sl [],.bool v,.bool s],r)) else
  if plain then(if aO (tx "[") r then none else some ([.int (if nm==tx "INTEGER" then 1 else 2),.str [],.sl [],.bool false,.bool false],r)) else
  if aO (tx "[") r then do
   let(xs,r) <-Jf (mj fs f) f r.tail
   let r <-cK (tx "]") r
   some ([.int 3,.str nm,.sl xs,.bool v,.bool s],r)
  else some ([.int 3,.str nm,.sl [],.bool v,.bool s],r)
mutual
def cj:Nat->Nat->List aF->Option (Row×List aF)
 |0,_,_=>none
 |f+1,n,l=>
  if n==6 then jK f l else do
  let(x,r) <-cj f (n+1) l
  rM f n x r
def rM:Nat->Nat->Row->List aF->Option (Row×List aF)
 |0,_,_,_=>none
 |f+1,n,x,r=>
  match PM n r with
  |none=>some (x,r)
  |some op=>do
   let(y,r') <-cj f (if n==0 then 0 else n+1) r.tail
   if n==0||n==3 then some (bin op x y,r') else rM f n (bin op x y) r'
def jK:Nat->List aF->Option (Row×List aF)
 |0,_=>none
 |f+1,l=>
  if aO (tx "-") l then do let(x,r) <-jK f l.tail;some (ex 8 (tx "-") 0 [x],r)
  else if aO (tx "not") l then do let(x,r) <-jK f l.tail;some (ex 8 (tx "not") 0 [x],r)
  else if aO (tx "old") l then do let(x,r) <-jK f l.tail;some (ex 9 [] 0 [x],r)
  else do let(x,r) <-fF f l;xj f x r
def xj:Nat->Row->List aF->Option (Row×List aF)
 |0,_,_=>none
 |f+1,x,r=>
  if aO (tx ".") r then do
   let(nm,r) <-word 1 r.tail
   let(UH,r) <-o5 f r
   xj f (ex 6 nm 1 (x::UH)) r
  else some (x,r)
def o5:Nat->List aF->Option (List Row×List aF)
 |0,_=>none
 |f+1,l=>
  if aO (tx "(") l then do
   let(xs,r) <-yO f l.tail
   let r <-cK (tx ")") r
   some (xs,r)
  else some ([],l)
def yO:Nat->List aF->Option (List Row×List aF)
 |0,_=>none
 |f+1,l=>do
  let(x,r) <-cj f 0 l
  if aO (tx ",") r then do
   let(xs,r) <-yO f r.tail
   some (x::xs,r)
  else some ([x],r)
def fF:Nat->List aF->Option (Row×List aF)
 |0,_=>none
 |f+1,l=>
  match l with
  |[]=>none
  |t::r=>
   if t.k==4 then some (ex 1 [] (num t.t) [],r)
   else if t.k==1 then do let(UH,r) <-o5 f r;some (ex 6 t.t 0 UH,r)
   else if aO (tx "True") l then some (ex 2 [] 1 [],r)
   else if aO (tx "False") l then some (ex 2 [] 0 [],r)
   else if aO (tx "Void") l then some (ex 3 [] 0 [],r)
   else if aO (tx "Current") l then some (ex 4 [] 0 [],r)
   else if aO (tx "Result") l then some (ex 5 [] 0 [],r)
   else if aO (tx "(") l then do
    let(x,r) <-cj f 0 r
    let r <-cK (tx ")") r
    some (x,r)
   else if aO (tx "attached") l then do
    let(x,r) <-fF f r
    let(x,r) <-xj f x r
    let r <-cK (tx "as") r
    let(nm,r) <-word 1 r
    some (ex 10 nm 0 [x],r)
   else none
end
def abt(fs:Y9)(f:Nat)(l:Zi):Option (Row×List aF):=do
 let(nm,r) <-word 1 l
 let r <-cK (tx ":") r
 let(t,r) <-mj fs f r
 some (.str nm::t,r)
def ml(fs:Y9):Nat->List aF->Option (List Row×List aF)
 |0,_=>none
 |f+1,l=>do
  let(x,r) <-abt fs f l
  if aO (tx ";") r then do
   let(xs,r) <-ml fs f r.tail
   some (x::xs,r)
  else some ([x],r)
def cI:Nat->List aF->Option (List Row×List aF)
 |0,_=>none
 |f+1,l=>
  if dv l==1 then do
   let(nm,r) <-word 1 l
   let r <-cK (tx ":") r
   let(x,r) <-cj f 0 r
   let r <-cK (tx ";") r
   let(xs,r) <-cI f r
   some ((.str nm::x)::xs,r)
  else some ([],l)
def il(l:Zi):Bool:=
 dv l==1||dv l==4||[tx "True",tx "False",tx "Void",tx "Current",tx "Result",tx "attached",tx "not",tx "old",tx "create",tx "if",tx "from",tx "check",tx "separate",tx "retry",tx "raise",tx "put",tx "(",tx "-"].any (aO · l)
def st(k:Int)(nm:Yz)(n:Int)(es tags i b e:Zg):Row:=[.int k,.str nm,.int n,.sl es,.sl tags,.sl i,.sl b,.sl e]
def target(l:Zi):Option (List Nat×List aF):=if aO (tx "Result") l then some (tx "Result",l.tail) else word 1 l
def Jg:Row->Int
 |.int k::_=>k
 |_=>0
def jM(l:Zi):Bool:=match l.tail with|t::_=>t.k==5&&t.t==tx ":="|[]=>false
mutual
def dy:Nat->List aF->Option (List Row×List aF)
 |0,_=>none
 |f+1,l=>
  if il l then do
   let(x,r) <-sZ f l
   let r <-cK (tx ";") r
   let(xs,r) <-dy f r
   some (x::xs,r)
  else some ([],l)
def sZ:Nat->List aF->Option (Row×List aF)
 |0,_=>none
 |f+1,l=>
  if jM l then
   if !(dv l==1||aO (tx "Result") l) then none else do
   let(nm,r) <-target l
   let r <-cK (tx ":=") r
   let(x,r) <-cj f 0 r
   some (st 1 nm 0 [x] [] [] [] [],r)
  else if aO (tx "create") l then do
   let(nm,r) <-target l.tail
   let r <-cK (tx ".") r
   let(m,r) <-word 1 r
   let(UH,r) <-o5 f r
   some (st 3 nm 0 [ex 6 m 0 UH] [] [] [] [],r)
  else if aO (tx "if") l then do
   let(x,r) <-cj f 0 l.tail
   let r <-cK (tx "then") r
   let(b,r) <-dy f r
   if aO (tx "else") r then do
    let(e,r) <-dy f r.tail
    let r <-cK (tx "end") r
    some (st 4 [] 0 [x] [] [] b e,r)
   else do
    let r <-cK (tx "end") r
    some (st 4 [] 0 [x] [] [] b [],r)
  else if aO (tx "from") l then do
   let(i,r) <-dy f l.tail
   let(tags,r) <-(if aO (tx "invariant") r then cI f r.tail else some ([],r))
   let r <-cK (tx "until") r
   let(x,r) <-cj f 0 r
   let(es,r) <-(if aO (tx "variant") r then do let(y,r) <-cj f 0 r.tail;some ([x,y],r) else some ([x],r))
   let r <-cK (tx "loop") r
   let(b,r) <-dy f r
   let r <-cK (tx "end") r
   some (st 5 [] 0 es tags i b [],r)
  else if aO (tx "put") l then do
   let(x,r) <-cj f 0 l.tail
   some (st 10 [] 0 [x] [] [] [] [],r)
  else if aO (tx "retry") l then some (st 8 [] 0 [] [] [] [] [],l.tail)
  else if aO (tx "raise") l then do
   let(t,r) <-word 4 l.tail
   if num t > 99 then none else some (st 9 [] (num t) [] [] [] [] [],r)
  else if aO (tx "check") l||aO (tx "separate") l then none
  else do
   let(x,r) <-cj f 0 l
   if Jg x==6 then some (st 2 [] 0 [x] [] [] [] [],r) else none
end
def strs(l:Y9):List Row:=l.map λs=>[.str s]
def fB(k:Nat):Nat->List aF->Option (List (List Nat)×List aF)
 |0,_=>none
 |f+1,l=>do
  let(x,r) <-word k l
  if aO (tx ",") r then do
   let(xs,r) <-fB k f r.tail
   some (x::xs,r)
  else some ([x],r)
def Br:Row:=[.int 0,.str [],.sl [],.bool false,.bool false]
def UI(w:TC)(f:Nat)(l:Zi):Option (List Row×List aF):=if aO (tx w) l then cI f l.tail else some ([],l)
def oE(fs:Y9)(cl:Y9)(f:Nat)(l:Zi):Option (Row×List aF):=do
 let(nm,r) <-word 1 l
 let(UH,r) <-(if aO (tx "(") r then do let(UH,r) <-ml fs f r.tail;let r <-cK (tx ")") r;some (UH,r) else some ([],r))
 let(ty,r) <-(if aO (tx ":") r then mj fs f r.tail else some (Br,r))
 if aO (tx ";") r then
  if Jg ty==0||UH.length > 0 then none else
  some ([.int 1,.str nm,.sl (strs cl),.sl UH]++ty++[.sl [],.sl [],.sl [],.sl [],.sl [],.bool false],r.tail)
 else if aO (tx "deferred") r then none else do
 let(rq,r) <-UI "require" f r
 let(lo,r) <-(if aO (tx "local") r then ml fs f r.tail else some ([],r))
 let r <-cK (tx "do") r
 let(b,r) <-dy f r
 let(en,r) <-UI "ensure" f r
 let(rs,rb,r) <-(if aO (tx "rescue") r then do let(x,r) <-dy f r.tail;some (true,x,r) else some (false,[],r))
 let r <-cK (tx "end") r
 some ([.int 2,.str nm,.sl (strs cl),.sl UH]++ty++[.sl lo,.sl rq,.sl en,.sl b,.sl rb,.bool rs],r)
def nM(fs:Y9)(cl:Y9):Nat->List aF->Option (List Row×List aF)
 |0,_=>none
 |f+1,l=>do
  let(x,r) <-oE fs cl f l
  if dv r==1 then do
   let(xs,r) <-nM fs cl f r
   some (x::xs,r)
  else some ([x],r)
def qm(fs:Y9):Nat->List aF->Option (List Row×List aF)
 |0,_=>none
 |f+1,l=>
  if aO (tx "feature") l then do
   let r <-cK (tx "\x7b") l.tail
   let(cl,r) <-fB 2 f r
   let r <-cK (tx "\x7d") r
   let(xs,r) <-nM fs cl f r
   let(ys,r) <-qm fs f r
   some (xs++ys,r)
  else some ([],l)
def nc(f:Nat)(l:Zi):Option (Row×List aF):=do
 let(nm,r) <-word 2 l
 if aO (tx "[") r||aO (tx "rename") r||aO (tx "undefine") r then none else do
 let(re,r) <-(if aO (tx "redefine") r then do let(xs,r) <-fB 1 f r.tail;some (strs xs,r) else some ([],r))
 let r <-cK (tx ";") r
 some ([.str nm,.sl [],.sl [],.sl [],.sl re,.sl []],r)
def iw(f:Nat)(l:Zi):Option (Row×List aF):=do
 let r <-cK (tx "class") l
 let(nm,r) <-word 2 r
 let(fo,r) <-(if aO (tx "[") r then do
  let(x,r) <-word 2 r.tail
  let r <-cK (tx ":") r
  let(b,r) <-word 2 r
  let r <-cK (tx "]") r
  some ([(x,b)],r) else some ([],r))
 let fs:=fo.map (·.1)
 let(pa,r) <-(if aO (tx "inherit") r then do let(x,r) <-nc f r.tail;if dv r==2 then none else some ([x],r) else some ([],r))
 let(cr,r) <-(if aO (tx "create") r then fB 1 f r.tail else some ([],r))
 let(fe,r) <-qm fs f r
 let(iv,r) <-UI "invariant" f r
 let r <-cK (tx "end") r
 some ([.str nm,.bool false,.sl (fo.map λp=>[.str p.1,.str p.2]),.sl pa,.sl (strs cr),.sl fe,.sl iv],r)
def tb:Nat->Nat->List Nat
 |0,_=>[]
 |f+1,n=>if n < 10 then[48+n] else tb f (n / 10)++[48+n % 10]
def aS(k:Int)(nm:Yz):Nat:=
 if k==8||k==9 then 7 else if k !=7 then 8 else match Bq nm with|some n=>n+1|none=>1
def du:List (List (List Nat))->List (List Nat)
 |[]=>[]
 |[x]=>x
 |x::r=>x++tx ","::du r
def bE:Nat->Row->Nat->List (List Nat)
 |f+1,e@([.int k,.str nm,.int n,.sl kids]),lv=>
  let own:=aS k nm
  if own < lv then tx "("::bE f e 1++[tx ")"] else
  if k==1 then[tb 20 n.toNat]
  else if k==2 then[if n==1 then tx "True" else tx "False"]
  else if k==3 then[tx "Void"]
  else if k==4 then[tx "Current"]
  else if k==5 then[tx "Result"]
  else if k==6 then
   let args:=if n==1 then kids.tail else kids
   (if n==1 then(match kids with|x::_=>bE f x 8++[tx "."]|[]=>[]) else[])++[nm]++
    (if args.isEmpty then[] else tx "("::du (args.map λx=>bE f x 1)++[tx ")"])
  else if k==7 then match kids with
   |[a,b]=>bE f a (if own==1 then 2 else if own==4 then 5 else own)++[nm]++bE f b (if own==1 then 1 else own+1)
   |_=>[[]]
  else match kids with
   |[x]=>if k==8 then nm::bE f x 7 else if k==9 then tx "old"::bE f x 7 else tx "attached"::bE f x 8++[tx "as",nm]
   |_=>[[]]
 |_,_,_=>[[]]
def ka:Nat->Row->List (List Nat)
 |f+1,[.int k,.str nm,.sl args,.bool v,.bool s]=>
  (if v then[tx "detachable"] else[])++(if s then[tx "separate"] else[])++[if k==1 then tx "INTEGER" else if k==2 then tx "BOOLEAN" else nm]++
   (if args.isEmpty then[] else tx "["::du (args.map (ka f))++[tx "]"])
 |_,_=>[[]]
def adP(f:Nat)(l:Zg):List (List Nat):=l.flatMap fun
 |.str t::x=>[t,tx ":"]++bE f x 1++[tx ";"]
 |_=>[[]]
def dX(w:TC)(f:Nat)(l:Zg):List (List Nat):=if l.isEmpty then[] else tx w::adP f l
def mm(f:Nat):List Row->List (List Nat)
 |[]=>[]
 |[.str n::t]=>[n,tx ":"]++ka f t
 |(.str n::t)::r=>[n,tx ":"]++ka f t++tx ";"::mm f r
 |_=>[[]]
def e0(es:Zg):Row:=match es with|x::_=>x|[]=>ex 0 [] 0 []
def oX:Nat->Row->List (List Nat)
 |f+1,[.int k,.str nm,.int n,.sl es,.sl tags,.sl i,.sl b,.sl e]=>
  let body (l:Zg):=l.flatMap λs=>oX f s++[tx ";"]
  if k==1 then[nm,tx ":="]++bE f (e0 es) 1
  else if k==2 then bE f (e0 es) 1
  else if k==3 then[tx "create",nm,tx "."]++bE f (e0 es) 8
  else if k==4 then tx "if"::bE f (e0 es) 1++tx "then"::body b++(if e.isEmpty then[] else tx "else"::body e)++[tx "end"]
  else if k==5 then tx "from"::body i++dX "invariant" f tags++tx "until"::bE f (e0 es) 1++(match es with|_::y::_=>tx "variant"::bE f y 1|_=>[])++tx "loop"::body b++[tx "end"]
  else if k==8 then[tx "retry"]
  else if k==9 then[tx "raise",tb 20 n.toNat]
  else if k==10 then tx "put"::bE f (e0 es) 1
  else[[]]
 |_,_=>[[]]
def adQ(f:Nat)(l:Zg):List (List Nat):=l.flatMap λs=>oX f s++[tx ";"]
def strsOf(l:Zg):List (List Nat):=l.map fun|[.str s]=>s|_=>[]
def nf(f:Nat):Row->List (List Nat)
 |[.int k,.str nm,.sl _,.sl UH,.int tk,.str tn,.sl ta,.bool tv,.bool ts,.sl lo,.sl rq,.sl en,.sl b,.sl rb,.bool rs]=>
  [nm]++(if UH.isEmpty then[] else tx "("::mm f UH++[tx ")"])++(if tk==0 then[] else tx ":"::ka f [.int tk,.str tn,.sl ta,.bool tv,.bool ts])++
  (if k==1 then[tx ";"] else dX "require" f rq++(if lo.isEmpty then[] else tx "local"::mm f lo)++[tx "do"]++adQ f b++dX "ensure" f en++(if rs then tx "rescue"::adQ f rb else[])++[tx "end"])
 |_=>[[]]
def lS:Row->List (List Nat)
 |_::_::.sl c::_=>strsOf c
 |_=>[]
def iy(f:Nat):Option (List (List Nat))->List Row->List (List Nat)
 |_,[]=>[]
 |prev,x::r=>(if prev==some (lS x) then[] else[tx "feature",tx "\x7b"]++du ((lS x).map λs=>[s])++[tx "\x7d"])++nf f x++iy f (some (lS x)) r
def ib(w:TC)(l:Zg):List (List Nat):=if l.isEmpty then[] else tx w::du ((strsOf l).map λs=>[s])
def yP(f:Nat):Row->List (List Nat)
 |[.str nm,.bool d,.sl fo,.sl pa,.sl cr,.sl fe,.sl iv]=>
  (if d then[tx "deferred"] else[])++[tx "class",nm]++
  (if fo.isEmpty then[] else tx "["::du (fo.map fun|[.str a,.str b]=>[a,tx ":",b]|_=>[[]])++[tx "]"])++
  (if pa.isEmpty then[] else tx "inherit"::pa.flatMap fun|[.str a,.sl _,.sl _,.sl _,.sl re,.sl _]=>[a]++ib "redefine" re++[tx ";"]|_=>[[]])++
  ib "create" cr++iy f none fe++dX "invariant" f iv++[tx "end"]
 |_=>[[]]
end Go.Proofs.Gm
namespace Go.Proofs.Bm
open Go
variable {W:YC}{P:T1}{args:Zt}{v:YE}{α:Type}{j:Nat}
section
variable {P:T1}{ops:Ws}{Q:Exit -> Act -> World -> Prop}{md:TV}{S:World -> Prop}{k:Nat}
def eA(P:T1)(md:TV)(ops:Ws)(Q:VN)(S:T2)(k:Nat):Nat->Array Bool->Act->World->Prop
 |0,aA,a,w=>Region.ready md ops aA=[]/\Q .normal a w
 |fuel+1,aA,a,w=>
  (Region.ready md ops aA=[]->Q .normal a w)/\
  ∀i∈Region.ready md ops aA,wpOp P ops Q i (λa' w'=>((aA.setIfInBounds i true).getD k false=false->S w')/\eA P md ops Q S k fuel (aA.setIfInBounds i true) a' w') a w
def N9:∀(fuel:Nat) (aA:VL) (a:Act) (w:YC),eA P md ops Q S k fuel aA a w->wpAny P md ops Q fuel aA a w
 |0,_,_,_,h=>h
 |fuel+1,_,_,_,h=>⟨h.1,λi hi=>wpOp_mono (λa' w' h'=>N9 fuel _ a' w' h'.2) (h.2 i hi)⟩
def yQ(md:TV)(ops:Ws)(aA:VL):Prop:=
 ∀j oj,ops[j]?=some oj->aA.getD j false=true->∀e∈oj.after,Region.binds md e=true->aA.getD e.on false=true
def Sd(md:TV)(ops:Ws)(aA:VL):Bool:=
 (List.range ops.size).all λj=>match ops[j]? with
  |some oj=>!aA.getD j false||oj.after.all λe=>!Region.binds md e||aA.getD e.on false
  |none=>true
def abu{aA:VL}(h:Sd md ops aA=true):yQ md ops aA:=by intro j oj hj hl e he hb;have h1:=dV.1 h j (BZ.2 (aQ.1 hj).1);simp only[hj,hl,Bool.not_true,MR] at h1;have h2:=Array.all_eq_true'.1 h1 e he;simpa[hb] using h2
def getD_some{aA:VL}{i:Nat}(h:aA.getD i true=false):aA.getD i false=false:=by
 rcases Nat.lt_or_ge i aA.size with h'|h'
 .simp[h'] at h|-;exact h
 .simp[Array.getElem?_eq_none h'] at h
def yQ.set{aA:VL}(c:yQ md ops aA){i:Nat}(hi:i∈Region.ready md ops aA):yQ md ops (aA.setIfInBounds i true):=by
 obtain⟨_,oi,hoi,mu⟩:=xM.1 hi;intro j oj hj hl e he hb;by_cases hij:i=j
 .subst hij;have:oj=oi:=j6 (hj.symm.trans hoi);subst this;exact getD_set_true (mu e he hb)
 .rw[MT false hij] at hl;exact getD_set_true (c j oj hj hl e he hb)
def xo(md:TV)(ops:Ws):Nat->Nat->Nat->Bool
 |0,_,_=>false
 |n+1,k,i=>match ops[k]? with
  |some ok=>ok.after.any λe=>Region.binds md e&&(e.on==i||xo md ops n e.on i)
  |none=>false
def qO{aA:VL}(c:yQ md ops aA){i:Nat}(hi:aA.getD i false=false):
  ∀(n k:Nat),xo md ops n k i=true->k∉Region.ready md ops aA/\aA.getD k false=false
 |0,_,h=>by cases h
 |n+1,k,h=>by
  unfold xo at h;split at h
  .rename_i ok hk;obtain⟨e,he,hx⟩:=Array.any_eq_true'.1 h;simp only[dD,j5,dU] at hx;have hon:aA.getD e.on false=false:=by
    rcases hx.2 with h2|h2
    .rw[h2];exact hi
    .exact(qO c hi n e.on h2).2
   refine⟨λhr=>?_,?_⟩
   .obtain⟨_,ok',A8,mu⟩:=xM.1 hr;have:ok'=ok:=j6 (A8.symm.trans hk);subst this;have:=mu e he hx.1;rw[hon] at this
    cases this
   .cases hl:aA.getD k false with
    |false=>rfl
    |true=>
     have:=c k ok hk hl e he hx.1;rw[hon] at this
     cases this
  .cases h
def HY{i:Nat}{oi:RZ}{v:YE}(hi:ops[i]?=some oi)(UJ:∀(j:Nat) (o:RZ) cs b,ops[j]?=some o->o.op≠ .select cs b)(hQ:∀c a w,Q (.panic c) (a.put oi.dst v) w->Q (.panic c) a w){n:Nat}(hk:xo md ops n k i=true):∀(fuel:Nat) (aA:VL) (a:Act) (w:YC),yQ md ops aA->(∀j oj,ops[j]?=some oj->j≠i->aA.getD j true=false->(∀e∈oj.after,Region.binds md e=true->e.on≠i)->oi.apart ops oj=true)->i∈Region.ready md ops aA->YieldsIf P ops S oi v a->S w->eA P md ops Q S k fuel (aA.setIfInBounds i true) (a.put oi.dst v) w->eA P md ops Q S k (fuel+1) aA a w:=by
 intro fuel;induction fuel with
 |zero=>
  intro aA a w _ _ hr hy hS H;refine⟨λh=>(by rw[h] at hr;cases hr),λj hj=>?_⟩;by_cases hji:j=i
  .subst hji;exact hy.wpOp hi hS ⟨λ_=>hS,H⟩
  .have:=ready_mono hj hji;rw[H.1] at this
   cases this
 |succ fuel ih=>
  intro aA a w hc QK hr hy hS H;refine⟨λh=>(by rw[h] at hr;cases hr),λj hj=>?_⟩;by_cases hji:j=i
  .subst hji;exact hy.wpOp hi hS ⟨λ_=>hS,H⟩
  .have h1:=H.2 j (ready_mono hj hji);obtain⟨amT,oj,hoj,mu⟩:=xM.1 hj;have amU:=getD_some (xM.1 hr).1;obtain⟨k1,k2⟩:=qO hc amU n k hk;have hki:i≠k:=λe=>k1 (e▸hr);have hkj:j≠k:=λe=>k1 (e▸hj);have apy:∀e∈oj.after,Region.binds md e=true->e.on≠i:=λe he hb heq=>by
    have h1:=mu e he hb;rw[heq,amU] at h1
    cases h1
   have h2:=wpOp_putIf hoj (QK j oj hoj hji amT apy) (λcs b=>UJ i oi cs b hi) (λcs b=>UJ j oj cs b hoj) hQ hy h1;have akv:∀k ok,ops[k]?=some ok->k≠i->(aA.setIfInBounds j true).getD k true=false->
     (∀e∈ok.after,Region.binds md e=true->e.on≠i)->oi.apart ops ok=true:=λk ok hk hki RR eK=>by
    refine QK k ok hk hki ?_ eK;by_cases hjk:j=k
    .subst hjk;exact amT
    .rw[MT true hjk] at RR;exact RR
   refine wpOp_mono (λa' w' h3=>?_) h2;have hS':S w':=h3.2.1 (by rw[MT false hkj,MT false hki];exact k2);refine⟨λ_=>hS',ih (aA.setIfInBounds j true) a' w' (hc.set hj) akv (ready_mono hr (Pr hji)) h3.1 hS' ?_⟩;rw[Array.setIfInBounds_comm _ _ hji];exact h3.2.2
def wpAnyT_take{i:Nat}{oi:RZ}{v:YE}{fuel:Nat}{aA:VL}{a:Act}{w:YC}(hi:ops[i]?=some oi)
  (hs:Region.noSelect ops=true) (hf:Region.free md ops aA i=true) (hr:(Region.ready md ops aA).contains i=true) (hc:Sd md ops aA=true) (hk:xo md ops ops.size k i=true)
  (hQ:∀c a w,Q (.panic c) (a.put oi.dst v) w->Q (.panic c) a w) (hy:YieldsIf P ops S oi v a) (hS:S w)
  (h:eA P md ops Q S k fuel (aA.setIfInBounds i true) (a.put oi.dst v) w):eA P md ops Q S k (fuel+1) aA a w:=
 HY hi (Region.noSelect_spec hs) hQ hk fuel aA a w (abu hc) (Region.free_spec hi hf) (by simpa using hr) hy hS h
def AllReadyT(P:T1)(md:TV)(ops:Ws)(Q:VN)(S:T2)(k fuel:Nat)(aA:VL)(a:Act)(w:YC)(rs:Yz):Prop:=
 ∀i∈rs,wpOp P ops Q i (λa' w'=>((aA.setIfInBounds i true).getD k false=false->S w')/\eA P md ops Q S k fuel (aA.setIfInBounds i true) a' w') a w
def AllReadyT.nil{fuel:Nat}{aA:VL}{a:Act}{w:YC}:AllReadyT P md ops Q S k fuel aA a w []:=λ_ h=>by cases h
def AllReadyT.live{fuel:Nat}{aA:VL}{a:Act}{w:YC}{i:Nat}{o:RZ}{rs:Yz}(ho:ops[i]?=some o)
  (h:∀K':Act->World->Prop,Shut (∀a w,S w->(S w->eA P md ops Q S k fuel (aA.setIfInBounds i true) a w)->K' a w)->if Region.wanted o (yielded ops a.tmps)=true then Oper.wp P o a w K' Q else K' (a.put o.dst undef) w)
  (hs:AllReadyT P md ops Q S k fuel aA a w rs):AllReadyT P md ops Q S k fuel aA a w (i::rs):=λj hj=>by
 rcases cZ.1 hj with rfl|hj
 .exact wpOp_step ho (λK' hK=>h K' (λa w hS hW=>hK a w ⟨λ_=>hS,hW hS⟩))
 .exact hs j hj
def AllReadyT.dead{fuel:Nat}{aA:VL}{a:Act}{w:YC}{i:Nat}{o:RZ}{rs:Yz}(ho:ops[i]?=some o)(hd:(aA.setIfInBounds i true).getD k false=true)
  (h:∀K':Act->World->Prop,Shut (∀a w,eA P md ops Q S k fuel (aA.setIfInBounds i true) a w->K' a w)->if Region.wanted o (yielded ops a.tmps)=true then Oper.wp P o a w K' Q else K' (a.put o.dst undef) w)
  (hs:AllReadyT P md ops Q S k fuel aA a w rs):AllReadyT P md ops Q S k fuel aA a w (i::rs):=λj hj=>by
 rcases cZ.1 hj with rfl|hj
 .exact wpOp_step ho (λK' hK=>h K' (λa w hW=>hK a w ⟨λe=>(by rw[hd] at e;cases e),hW⟩))
 .exact hs j hj
def wpAnyT_ready{rs:Yz}{fuel:Nat}{aA:VL}{a:Act}{w:YC}(hr:Region.ready md ops aA=rs)(cR:rs≠[])
  (h:AllReadyT P md ops Q S k fuel aA a w rs):eA P md ops Q S k (fuel+1) aA a w:=
 ⟨λh0=>absurd (hr▸h0) cR,hr▸h⟩
def wpAnyT_done{aA:VL}{a:Act}{w:YC}(hr:Region.ready md ops aA=[])(h:Q .normal a w):
  ∀fuel,eA P md ops Q S k fuel aA a w
 |0=>⟨hr,h⟩
 |_+1=>⟨λ_=>h,by rw[hr];simp⟩
def wp_region_live(k:Nat)(S:T2){id:Nat}{a:Act}{w:YC}(hm:P.follows .mixedOrders=true)(hS:S w.drew)
  (h:S w.drew->eA P .any ops Q S k ops.size (Array.replicate ops.size false) a w.drew):(Code.region id ops true).wp P Q a w:=
 wp_region_any hm (N9 _ _ _ _ (h hS))
end
open Go Go.RowKit
inductive ZO|oZ
inductive ZE|eS
inductive ZN|nS
def oZ:ZO:=.oZ
def eS:ZE:=.eS
def nS:ZN:=.nS
instance:Coe ZO Value:=⟨λ_=>.int .i64 0⟩
instance:Coe ZE Value:=⟨λ_=>.string ⟨#[]⟩⟩
instance:Coe ZN Value:=⟨λ_=>.slice none 0 0⟩
instance:Coe Int Value:=⟨λn=>.int .i64 n⟩
instance:Coe Nat Value:=⟨λn=>.int .i64 n⟩
instance:Coe ByteArray Value:=⟨λs=>.string s⟩
instance:Coe Bool Value:=⟨λb=>.bool b⟩
instance:Coe Nat (Option Addr):=⟨λb=>some ⟨b,0,none⟩⟩
instance:Coe World Nat:=⟨λw=>w.heap.size⟩
instance:Coe World (Nat->Prop):=⟨λw b=>w.heap.size<=b⟩
structure ZV (v:YE) where
instance {v:YE}:CoeOut (ZV v) Value:=⟨λ_=>v⟩
structure ZC (o:Obj) where
instance {o:Obj}:CoeOut (ZC o) Obj:=⟨λ_=>o⟩
def iV(n:Int):ZV (.int .i64 n):={}
def sV(a:YS)(n c:Nat):ZV (.slice a n c):={}
def cO(c:Zt)(T:UB):ZC (.cells c T):={}
def sp{P Q:Prop}(k:Q)(h:Q->P:=by intro q;(try simp only[Act.put,ma,mb,lj]);exact q):P:=h k
def bD{f:RB}{w:YC}{A:T2}{R:VW}(h:Calls P f args w λe w'=>e=.returned v/\A w')(k:∀w',A w'->R (.returned v) w'):Calls P f args w R:=
 h.mono λ_ w' h=>h.1▸k w' h.2
def bY{f:RB}{w:YC}{A B:T2}{R:VW}(h:Calls P f args w λe w'=>e=.returned v/\A w'/\B w')(k:∀w',A w'->B w'->R (.returned v) w'):Calls P f args w R:=
 h.mono λ_ w' h=>h.1▸k w' h.2.1 h.2.2
inductive rp {α:Type}:List α->Nat->α->List α->Prop
 |z {a v:α} {l:List α}:rp (a::l) 0 v (v::l)
 |s {a v:α} {j:Nat} {l l':List α} (h:rp l j v l'):rp (a::l) (j+1) v (a::l')
def rp.eq{l l':List α}{v:α}(h:rp l j v l'):l.set j v=l':=by
 induction h with
 |z=>rfl
 |s h ih=>rw[lj,ih]
def rp.arr{c:Array α}{l':List α}{v:α}(h:rp c.toList j v l'):c.setIfInBounds j v=l'.toArray:=by rw[<-h.eq];apply Array.ext';simp
def nth{α:Type}:List α->Nat->Option α
 |[],_=>none
 |a::_,0=>some a
 |_::l,j+1=>nth l j
def adR{α:Type}:∀(l:List α) (j:Nat),nth l j=l[j]?
 |[],_=>rfl
 |_::_,0=>rfl
 |_::l,j+1=>adR l j
def bc{bx:Nat}{c:Zt}{T:UB}{fr:RG}(h:W.heap[bx]?=some (.cells c T fr))(j:Nat){v:YE}(e:nth c.toList j=some v:=by exact rfl):W.cell? ⟨bx,j,none⟩=some v:=by unfold World.cell?;rw[h];rw[adR] at e;simpa using e
def ccP(W:YC)(b:Nat):List Value->List Nat->Prop
 |a::r,j::s=>W.cell? ⟨b,j,none⟩=some a/\ccP W b r s
 |_,_=>True
def hcP(W:YC)(b o:Nat):List Value->List Nat->Prop
 |a::r,j::s=>W.cell? ⟨b,o+j,none⟩=some a/\hcP W b o r s
 |_,_=>True
def hcQ{W:YC}{b o:Nat}:∀(l:YT) (s:Yz) (n:Nat),(∀k j,s[k]?=some j->j=n+k)->(∀k a,l[k]?=some a->W.cell? ⟨b,o+(n+k),none⟩=some a)->hcP W b o l s
 |[],_,_,_,_=>bw
 |_::_,[],_,_,_=>bw
 |a::r,j::s,n,h1,h2=>⟨by rw[h1 0 j rfl];exact h2 0 a rfl,hcQ r s (n+1) (λk i e=>by have:=h1 (k+1) i e;omega) λk a e=>by rw[show n+1+k=n+(k+1) by omega];exact h2 (k+1) a e⟩
def hcC{W:YC}{b:Nat}:∀(l:YT) (s:Yz),hcP W b 0 l s->ccP W b l s
 |[],_,_=>bw
 |_::_,[],_=>bw
 |_::r,_::s,h=>⟨by have:=h.1;rwa[fi] at this,hcC r s h.2⟩
def cc{b:Nat}{T:UB}{g:RG}{c:Zt}(h:W.heap[b]?=some (.cells c T g)):ccP W b c.toList [0,1,2,3,4,5,6,7,8,9,10,11,12,13,14]:=
 hcC _ _ (hcQ _ _ 0 (λk j e=>by
  have h1:∀k,k < 15->[0,1,2,3,4,5,6,7,8,9,10,11,12,13,14][k]?=some k:=by decide
  rw[h1 k (List.getElem?_eq_some_iff.1 e).1] at e;cases e;omega) λk a e=>by unfold World.cell?;rw[h,Nat.zero_add,Nat.zero_add];simpa using e)
def hc{g o:Nat}{a:YE}{r:YT}(h:∀k u,(a::r)[k]?=some u->W.cell? ⟨g,o+k,none⟩=some u):W.cell? ⟨g,o,none⟩=some a/\hcP W g o r [1,2,3,4,5,6,7,8,9,10,11,12,13,14]:=
 ⟨h 0 a rfl,hcQ _ _ 1 (λk j e=>by
  have h1:∀k,k < 14->[1,2,3,4,5,6,7,8,9,10,11,12,13,14][k]?=some (1+k):=by decide
  rw[h1 k (dk.1 e).1] at e;cases e;rfl) λk a e=>h (1+k) a (by rw[Nat.add_comm];exact e)⟩
section
variable {P:T1}{ops:Ws}{Q:Exit -> Act -> World -> Prop}{md:TV}{S:World -> Prop}{k:Nat}
def wpLive(k:Nat)(S:T2){F:T2}(hF:∀V,S V->F V){id:Nat}{a:Act}{w:YC}(hS:S w.drew)
  (h:Hid (∀V,S V->F V)->S w.drew->eA P .any ops Q S k ops.size (Array.replicate ops.size false) a w.drew) (hm:P.follows .mixedOrders=true:=by kernel_rfl):(Code.region id ops true).wp P Q a w:=
 wp_region_live k S hm hS (h hF)
def tkT(i:Nat){oi:RZ}{v:YE}{fuel:Nat}{aA:VL}{a:Act}{w:YC}{Q':Prop}(q:Q')
  (hi:ops[i]?=some oi:=by exact rfl)
  (hs:Region.noSelect ops=true:=by kernel_rfl) (hf:Region.free md ops aA i=true:=by kernel_rfl) (hr:(Region.ready md ops aA).contains i=true:=by kernel_rfl) (hc:Sd md ops aA=true:=by kernel_rfl) (hk:xo md ops ops.size k i=true:=by kernel_rfl)
  (hQ:∀c a w,Q (.panic c) (a.put oi.dst v) w->Q (.panic c) a w:=by exact λ_ _ _ h=>h)
  (hy:YieldsIf P ops S oi v a:=by exact Or.inl ⟨by rfl,by intro V hS;have FF:=FF.out V hS;go_simp;with_reducible rfl⟩) (hS:S w:=by with_reducible assumption)
  (h:Q'->eA P md ops Q S k fuel (aA.setIfInBounds i true) (a.put oi.dst v) w:=by intro q;(try simp only[Act.put,ma,mb,lj]);exact q):eA P md ops Q S k (fuel+1) aA a w:=
 wpAnyT_take hi hs hf hr hc hk hQ hy hS (h q)
def df(i:Nat){oi:RZ}{v:YE}{fuel:Nat}{aA:VL}{a:Act}{w:YC}{Q':Prop}(q:Q')
  (hi:ops[i]?=some oi:=by exact rfl)
  (hs:Region.noSelect ops=true:=by kernel_rfl) (hf:Region.free md ops aA i=true:=by kernel_rfl) (hr:(Region.ready md ops aA).contains i=true:=by kernel_rfl)
  (hQ:∀c a w,Q (.panic c) (a.put oi.dst v) w->Q (.panic c) a w:=by exact λ_ _ _ h=>h)
  (hy:YieldsIf P ops S oi v a:=by exact Or.inl ⟨by rfl,by intro V hS;(try dsimp only at hS);go_simp;with_reducible rfl⟩) (hS:S w:=by with_reducible first|assumption|trivial)
  (h:Q'->wpAnyH P md ops Q S fuel (aA.setIfInBounds i true) (a.put oi.dst v) w:=by intro q;(try simp only[Act.put,ma,mb,lj]);exact q):wpAnyH P md ops Q S (fuel+1) aA a w:=
 wpAnyH_take hi hs hf hr hQ hy hS (h q)
def rdT(i:Nat){o:RZ}{fuel:Nat}{aA:VL}{a:Act}{w:YC}
  (h:∀K':Act->World->Prop,Shut (∀a w,S w->(S w->eA P md ops Q S k fuel (aA.setIfInBounds i true) a w)->K' a w)->if Region.wanted o (yielded ops a.tmps)=true then Oper.wp P o a w K' Q else K' (a.put o.dst undef) w)
  (hr:Region.ready md ops aA=[i]:=by kernel_rfl) (ho:ops[i]?=some o:=by exact rfl):eA P md ops Q S k (fuel+1) aA a w:=
 wpAnyT_ready hr (by simp) (AllReadyT.live ho h AllReadyT.nil)
def ddT(i:Nat){o:RZ}{fuel:Nat}{aA:VL}{a:Act}{w:YC}
  (h:∀K':Act->World->Prop,Shut (∀a w,eA P md ops Q S k fuel (aA.setIfInBounds i true) a w->K' a w)->if Region.wanted o (yielded ops a.tmps)=true then Oper.wp P o a w K' Q else K' (a.put o.dst undef) w)
  (hr:Region.ready md ops aA=[i]:=by kernel_rfl) (ho:ops[i]?=some o:=by exact rfl) (hd:(aA.setIfInBounds i true).getD k false=true:=by kernel_rfl):eA P md ops Q S k (fuel+1) aA a w:=
 wpAnyT_ready hr (by simp) (AllReadyT.dead ho hd h AllReadyT.nil)
def rT2(i j:Nat){o p:RZ}{fuel:Nat}{aA:VL}{a:Act}{w:YC}
  (h:∀K':Act->World->Prop,Shut (∀a w,S w->(S w->eA P md ops Q S k fuel (aA.setIfInBounds i true) a w)->K' a w)->if Region.wanted o (yielded ops a.tmps)=true then Oper.wp P o a w K' Q else K' (a.put o.dst undef) w)
  (h2:∀K':Act->World->Prop,Shut (∀a w,S w->(S w->eA P md ops Q S k fuel (aA.setIfInBounds j true) a w)->K' a w)->if Region.wanted p (yielded ops a.tmps)=true then Oper.wp P p a w K' Q else K' (a.put p.dst undef) w)
  (hr:Region.ready md ops aA=[i,j]:=by kernel_rfl) (ho:ops[i]?=some o:=by exact rfl) (hp:ops[j]?=some p:=by exact rfl):eA P md ops Q S k (fuel+1) aA a w:=
 wpAnyT_ready hr (by simp) (AllReadyT.live ho h (AllReadyT.live hp h2 AllReadyT.nil))
def rT3(i j m:Nat){o p q:RZ}{fuel:Nat}{aA:VL}{a:Act}{w:YC}
  (h:∀K':Act->World->Prop,Shut (∀a w,S w->(S w->eA P md ops Q S k fuel (aA.setIfInBounds i true) a w)->K' a w)->if Region.wanted o (yielded ops a.tmps)=true then Oper.wp P o a w K' Q else K' (a.put o.dst undef) w)
  (h2:∀K':Act->World->Prop,Shut (∀a w,S w->(S w->eA P md ops Q S k fuel (aA.setIfInBounds j true) a w)->K' a w)->if Region.wanted p (yielded ops a.tmps)=true then Oper.wp P p a w K' Q else K' (a.put p.dst undef) w)
  (h3:∀K':Act->World->Prop,Shut (∀a w,S w->(S w->eA P md ops Q S k fuel (aA.setIfInBounds m true) a w)->K' a w)->if Region.wanted q (yielded ops a.tmps)=true then Oper.wp P q a w K' Q else K' (a.put q.dst undef) w)
  (hr:Region.ready md ops aA=[i,j,m]:=by kernel_rfl) (ho:ops[i]?=some o:=by exact rfl) (hp:ops[j]?=some p:=by exact rfl) (hq:ops[m]?=some q:=by exact rfl):eA P md ops Q S k (fuel+1) aA a w:=
 wpAnyT_ready hr (by simp) (AllReadyT.live ho h (AllReadyT.live hp h2 (AllReadyT.live hq h3 AllReadyT.nil)))
def jR(i:Nat){o:RZ}{fuel:Nat}{aA:VL}{a:Act}{w:YC}
  (h:∀K':Act->World->Prop,Shut (∀a w,S w->(S w->wpAnyH P md ops Q S fuel (aA.setIfInBounds i true) a w)->K' a w)->if Region.wanted o (yielded ops a.tmps)=true then Oper.wp P o a w K' Q else K' (a.put o.dst undef) w)
  (hr:Region.ready md ops aA=[i]:=by kernel_rfl) (ho:ops[i]?=some o:=by exact rfl):wpAnyH P md ops Q S (fuel+1) aA a w:=
 MU hr (by simp) (tB ho h MV)
def dnT{aA:VL}{a:Act}{w:YC}{fuel:Nat}(h:Q .normal a w)(hr:Region.ready md ops aA=[]:=by kernel_rfl):eA P md ops Q S k fuel aA a w:=wpAnyT_done hr h fuel
def dnH{aA:VL}{a:Act}{w:YC}{fuel:Nat}(h:Q .normal a w)(hr:Region.ready md ops aA=[]:=by kernel_rfl):wpAnyH P md ops Q S fuel aA a w:=wpAnyH_done hr h fuel
end
def asc{p:Prop}(h:p:=by first|rfl|(congr 1;omega)|(push_cast;first|rfl|(congr 1;omega))):p:=h
open Go.RowKit
structure Kept (F:Wq) (w w':YC):Prop where
 os:w'.os=w.os
 tape:w'.tape=w.tape
 output:w'.output=w.output
 size:w.heap.size<=w'.heap.size
 block:∀k,k < w.heap.size->¬F k->w'.heap[k]?=w.heap[k]?
namespace Kept
variable {F G:Nat -> Prop}{a b c w w':YC}
def refl(F:Wq)(w:YC):Kept F w w:=⟨rfl,rfl,rfl,aM _,λ_ _ _=>rfl⟩
def trans(h:Kept F a b)(k:Kept G b c)(hG:∀i,i < a.heap.size->G i->F i):Kept F a c:=
 ⟨k.os.trans h.os,k.tape.trans h.tape,k.output.trans h.output,cn h.size k.size,
  λi hi hn=>(k.block i (qD hi h.size) (λe=>hn (hG i hi e))).trans (h.block i hi hn)⟩
def trans'(h:Kept F a b)(k:Kept F b c):Kept F a c:=h.trans k λ_ _ e=>e
def mono(h:Kept F a b)(hG:∀i,F i->G i):Kept G a b:=⟨h.os,h.tape,h.output,h.size,λi hi hn=>h.block i hi (λe=>hn (hG i e))⟩
def drew(h:Kept F a w):Kept F a w.drew:=⟨h.os,h.tape,h.output,h.size,h.block⟩
def alloc(h:Kept F a w)(o:Obj):Kept F a (w.alloc o):=
 h.trans (G:=λ_=>False) ⟨rfl,rfl,rfl,by simp,λk hk _=>jm _ _ _ hk⟩ (λ_ _ e=>e.elim)
def setCell(h:Kept F a w){p:Addr}(hp:p.block < a.heap.size->F p.block)(u:YE):Kept F a (w.setCell p u):=
 h.trans (G:=λk=>k=p.block) ⟨rfl,rfl,rfl,by simp[World.setCell],λk hk hn=>ll _ _ _ _ ab⟩ (λi hi e=>by subst e;exact hp hi)
def grown(h:Kept F a w){row:Wr}(hg:w.grownBy w' row)(hr:∀k,row=some k->k < a.heap.size->F k):Kept F a w':=
 h.trans (G:=λk=>some k=row) ⟨hg.os,hg.tape,hg.output,hg.size,λk hk hn=>hg.block k hk hn⟩ (λi hi e=>hr i e.symm hi)
def qP{B:Nat}(h:Below B w w')(hB:∀k,k < w.heap.size->¬F k->k < B):Kept F w w':=
 ⟨h.os,h.tape,h.output,h.size,λk hk hn=>h.block k (hB k hk hn)⟩
def QL(h:Below w.heap.size w w'):Kept F w w':=qP h λ_ hk _=>hk
def below{B:Nat}(h:Kept F w w')(hB:B<=w.heap.size)(hF:∀k,F k->B<=k):Below B w w':=
 ⟨h.os,h.tape,h.output,h.size,λk hk=>h.block k ab (λe=>by have:=hF k e;omega)⟩
def cell(h:Kept F w w'){p:Addr}(hp:p.block < w.heap.size)(hn:¬F p.block):w'.cell? p=w.cell? p:=WX (w:=w) (h.block p.block hp hn)
def aq(h:Kept F w w'){p:Addr}{v:YE}(hv:w.cell? p=some v)(hn:¬F p.block):w'.cell? p=some v:=
 (h.cell (cA w p hv) hn).trans hv
def frozen(h:Kept F w w'){p:Addr}(hp:p.block < w.heap.size)(hn:¬F p.block):w'.frozen? p=w.frozen? p:=World.frozen?_of_block (w:=w) (h.block p.block hp hn)
end Kept
def heap_alloc(w:YC)(o:Obj)(k:Nat):(w.alloc o).heap[k]?=if k=w.heap.size then some o else w.heap[k]?:=by show(w.heap.push o)[k]?=_;rw[Array.getElem?_push]
def iW(w:YC)(x:Obj)(b o:Nat)(h:b < w.heap.size):(w.alloc x).cell? ⟨b,o,none⟩=w.cell? ⟨b,o,none⟩:=
 WX (w:=w) (jm _ _ _ h)
def size_setCell(w:YC)(a:Addr)(v:YE):(w.setCell a v).heap.size=w.heap.size:=by simp[World.setCell]
def oF(w:YC)(b o:Nat)(v:YE)(h:(w.cell? ⟨b,o,none⟩).isSome=true):(w.setCell ⟨b,o,none⟩ v).cell? ⟨b,o,none⟩=some v:=World.cell?_setCell_same' _ _ _ h
def cS(w:YC)(b o b' o':Nat)(v:YE)(h:b≠b'):(w.setCell ⟨b,o,none⟩ v).cell? ⟨b',o',none⟩=w.cell? ⟨b',o',none⟩:=World.cell?_setCell_other _ _ _ _ (by simp[h])
def jd(w:YC)(b o b' o':Nat)(v:YE)(h:o≠o'):(w.setCell ⟨b,o,none⟩ v).cell? ⟨b',o',none⟩=w.cell? ⟨b',o',none⟩:=World.cell?_setCell_other _ _ _ _ (by simp[h])
def OwnI(w:YC)(v:YE)(k:Wr)(xs:WV):Prop:=
 (v=.slice none 0 0/\k=none/\xs=[])∨
 ∃b off cap cur,v=.slice (some ⟨b,off,none⟩) xs.length cap/\k=some b/\w.heap[b]?=some (.cells cur 3 (0,0))/\xs.length<=cap/\cap<=maxLen/\off+cap<=cur.size/\
  (cur.toList.drop off).take xs.length=xs.map (Value.int .i64)
namespace OwnI
variable {w w':YC}{v:YE}{k:Wr}{xs:WV}
def nil(w:YC):OwnI w (.slice none 0 0) none []:=.inl ⟨rfl,rfl,rfl⟩
def lt(h:OwnI w v k xs):∀b,k=some b->b < w.heap.size:=by
 rintro b rfl;rcases h with⟨_,h,_⟩|⟨b',off,cap,cur,_,h,hb,_⟩
 .cases h
 .cases h;exact(aQ.1 hb).1
def keep(h:OwnI w v k xs)(hb:∀b,k=some b->w'.heap[b]?=w.heap[b]?):OwnI w' v k xs:=by
 rcases h with h|⟨b',off,cap,cur,h1,h2,h3,h4⟩
 .exact .inl h
 .exact .inr ⟨b',off,cap,cur,h1,h2,(hb b' h2).trans h3,h4⟩
def kept(h:OwnI w v k xs){F:Wq}(hk:Kept F w w')(hn:∀b,k=some b->¬F b):OwnI w' v k xs:=
 h.keep λb e=>hk.block b (h.lt b e) (hn b e)
def alloc(h:OwnI w v k xs)(o:Obj):OwnI (w.alloc o) v k xs:=h.keep λb e=>jm _ _ _ (h.lt b e)
def drew(h:OwnI w v k xs):OwnI w.drew v k xs:=h
def setCell(h:OwnI w v k xs){p:Addr}(hn:k≠some p.block)(u:YE):OwnI (w.setCell p u) v k xs:=
 h.keep λb e=>ll _ _ _ _ (λe'=>hn (by rw[e,e']))
def form(h:OwnI w v k xs):∃a cap,v=.slice a xs.length cap/\xs.length<=cap/\cap<=maxLen/\(a=none->xs=[])/\(∀x,a=some x->k=some x.block/\x.spot=none):=by
 rcases h with⟨rfl,rfl,rfl⟩|⟨b',off,cap,cur,rfl,rfl,h3,h4,h5,h6,h7⟩
 .exact⟨none,0,rfl,aM _,dE _,λ_=>rfl,by simp⟩
 .exact⟨_,cap,rfl,h4,h5,by simp,λx hx=>by cases hx;exact⟨rfl,rfl⟩⟩
end OwnI
end Go.Proofs.Bm
namespace Go.Proofs.Gm
open Go.RowKit
open Go.Proofs.Bm (Kept)
variable {wd bytes B:Nat}{E t0:UB}{l:Zi}{α β:Type}{P:T1}{z:YE}{a b s:Yz}
def bs(s:Yz):ByteArray:=⟨(s.map λn=>UInt8.ofNat n).toArray⟩
instance:Coe (List Nat) Value:=⟨λs=>.string (bs s)⟩
def bW(s:Yz):Prop:=∀c∈s,c < 256
def Jh(ha:bW a)(hb:bW b)(h:bs a=bs b):a=b:=by
 have h1:a.map UInt8.ofNat=b.map UInt8.ofNat:=by have:=gq (λx=>x.data.toList) h;simpa[bs] using this
 have h2:∀l:List Nat,bW l->(l.map UInt8.ofNat).map UInt8.toNat=l:=by
  intro l hl;rw[AY];conv=>rhs;rw[<-AZ l]
  apply Rl
  intro c hc;simp[Nat.mod_eq_of_lt (hl c hc)]
 rw[<-h2 a ha,<-h2 b hb,h1]
def cH(ha:bW a)(hb:bW b):((bs a).toList==(bs b).toList)=(a==b):=by
 rw[sM];simp only[dU];constructor
 .intro h;apply Jh ha hb
  rw[dW,dW] at h;have:(bs a).data=(bs b).data:=by rw[<-Array.toList_inj];exact h
  cases ha':bs a;cases avH:bs b;simp[ha',avH] at this;rw[this]
 .intro h;rw[h]
inductive an (S:Wq) (w:YC):T->Value->Prop
 |int (n:Int):an S w (.int n) (.int .i64 n)
 |str (s:Yz):an S w (.str s) (.string (bs s))
 |bool (b:TG):an S w (.bool b) (.bool b)
 |nil:an S w (.sl []) (.slice none 0 0)
 |sl (rows:Zg) (g off cap wd:Nat) (c:Nat->Nat->Value) (hS:S g) (hg:g < w.heap.size) (oG:rows.length<=cap) (hm:cap<=maxLen) (hw:∀row∈rows,row.length=wd)
   (hc:∀(k j:Nat) (row:Row) (t:T),rows[k]?=some row->row[j]?=some t->w.cell? ⟨g,off+(k*wd+j),none⟩=some (c k j))
   (hv:∀(k j:Nat) (row:Row) (t:T),rows[k]?=some row->row[j]?=some t->an S w t (c k j)):an S w (.sl rows) (.slice (some ⟨g,off,none⟩) rows.length cap)
variable {S S' F:Nat -> Prop}{w w':YC}{t:T}{v:YE}{row:Row}{rows:Zg}{cs:YT}
def an.keep(hSS:∀b,S b->b < w.heap.size->S' b)(hz:w.heap.size<=w'.heap.size)(hk:∀b,S b->b < w.heap.size->w'.heap[b]?=w.heap[b]?)(h:an S w t v):an S' w' t v:=by
 induction h with
 |int n=>exact .int n
 |str s=>exact .str s
 |bool b=>exact .bool b
 |nil=>exact .nil
 |sl rows g off cap wd c hS hg oG hm hw hc hv ih=>exact .sl rows g off cap wd c (hSS g hS hg) ab oG hm hw (λk j row t h1 h2=>(WX (w:=w) (hk g hS hg)).trans (hc k j row t h1 h2)) (λk j row t h1 h2=>ih k j row t h1 h2)
def an.kept(h:an S w t v)(hk:Kept F w w')(hF:∀b,S b->b < w.heap.size->¬F b):an S w' t v:=
 h.keep (λ_ h _=>h) hk.size λb hb hl=>hk.block b hl (hF b hb hl)
def an.mono(h:an S w t v)(hS:∀b,S b->b < w.heap.size->S' b):an S' w t v:=h.keep hS (aM _) λ_ _ _=>rfl
def an.one(h:an S w t v):v.oneCell'=true:=by cases h<;>rfl
def aP(S:Wq)(w:YC)(row:Row)(cs:YT):Prop:=row.length=cs.length/\∀(j:Nat) (t:T) (c:YE),row[j]?=some t->cs[j]?=some c->an S w t c
def aP.keep(hSS:∀b,S b->b < w.heap.size->S' b)(hz:w.heap.size<=w'.heap.size)(hk:∀b,S b->b < w.heap.size->w'.heap[b]?=w.heap[b]?)(h:aP S w row cs):aP S' w' row cs:=
 ⟨h.1,λj t c h1 h2=>(h.2 j t c h1 h2).keep hSS hz hk⟩
def aP.kept(h:aP S w row cs)(hk:Kept F w w')(hF:∀b,S b->b < w.heap.size->¬F b):aP S w' row cs:=
 h.keep (λ_ h _=>h) hk.size λb hb hl=>hk.block b hl (hF b hb hl)
def aP.mono(h:aP S w row cs)(hS:∀b,S b->b < w.heap.size->S' b):aP S' w row cs:=h.keep hS (aM _) λ_ _ _=>rfl
def aP.nil:aP S w [] []:=⟨rfl,by simp⟩
def aP.cons{t:T}{c:YE}(h:an S w t c)(hr:aP S w row cs):aP S w (t::row) (c::cs):=
 ⟨by simp[hr.1],λj t' c' h1 h2=>by cases j with|zero=>simp at h1 h2;subst h1;subst h2;exact h|succ j=>exact hr.2 j t' c' kW jb⟩
def aP.head{t:T}{c:YE}(h:aP S w (t::row) (c::cs)):an S w t c:=h.2 0 t c rfl rfl
def aP.tail{t:T}{c:YE}(h:aP S w (t::row) (c::cs)):aP S w row cs:=
 ⟨by simpa using h.1,λj t' c' h1 h2=>h.2 (j+1) t' c' kW jb⟩
def aP.append{amV:Row}{T3:YT}(h:aP S w row cs)(h2:aP S w amV T3):aP S w (row++amV) (cs++T3):=by
 induction row generalizing cs with
 |nil=>cases cs with
  |nil=>simpa using h2
  |cons c cs=>exact absurd h.1 ai
 |cons t row ih=>cases cs with
  |nil=>exact absurd h.1 ai
  |cons c cs=>exact .cons h.head (ih h.tail)
def aP.one(h:aP S w row cs):∀u∈cs,u.oneCell'=true:=by
 induction row generalizing cs with
 |nil=>cases cs with
  |nil=>simp
  |cons c cs=>exact absurd h.1 ai
 |cons t row ih=>cases cs with
  |nil=>simp
  |cons c cs=>
   intro u hu;rcases cZ.1 hu with rfl|hu
   .exact h.head.one
   .exact ih h.tail u hu
inductive F2 {α β:Type} (R:α->β->Prop):List α->List β->Prop
 |nil:F2 R [] []
 |cons {a b l m} (h:R a b) (hr:F2 R l m):F2 R (a::l) (b::m)
def F2.imp{R R':α->β->Prop}{l:List α}{m:List β}(h:F2 R l m)(hi:∀a b,R a b->R' a b):F2 R' l m:=by
 induction h with
 |nil=>exact .nil
 |cons h _ ih=>exact .cons (hi _ _ h) ih
def F2.append{R:α->β->Prop}{l l2:List α}{m m2:List β}(h:F2 R l m)(h2:F2 R l2 m2):F2 R (l++l2) (m++m2):=by
 induction h with
 |nil=>exact h2
 |cons h _ ih=>exact .cons h ih
def OwnR(B:Nat)(S:Wq)(w:YC)(E:UB)(wd:Nat)(v:YE)(rows:Zg):Prop:=
 ∃css:List (List Value),F2 (λrow cs=>cs.length=wd/\aP (λb=>S b/\v.ownBlock≠some b) w row cs) rows css/\w.ownsRow B E wd v rows.length css.flatten
namespace OwnR
variable {B:Nat}{E:UB}{wd:Nat}
def nil:OwnR B S w E wd (.slice none 0 0) []:=⟨[],.nil,Rm w B E wd⟩
def lt(h:OwnR B S w E wd v rows):∀b,v.ownBlock=some b->B<=b/\b < w.heap.size:=by obtain⟨css,_,h2⟩:=h;exact h2.lt
def keep(h:OwnR B S w E wd v rows)(hz:w.heap.size<=w'.heap.size)(hk:∀b,S b->b < w.heap.size->w'.heap[b]?=w.heap[b]?)(ho:∀b,v.ownBlock=some b->w'.heap[b]?=w.heap[b]?):OwnR B S w' E wd v rows:=by
 obtain⟨css,h1,h2⟩:=h;refine⟨css,?_,h2.1,?_⟩
 .refine h1.imp λrow cs Po=>⟨Po.1,Po.2.keep (λ_ h _=>h) hz λb hb hl=>hk b hb.1 hl⟩
 .rcases h2.2 with hn|⟨g,cap,cur,rfl,hb,WC,rest⟩
  .exact .inl hn
  .exact .inr ⟨g,cap,cur,rfl,hb,(ho g rfl).trans WC,rest⟩
def kept(h:OwnR B S w E wd v rows)(hk:Kept F w w')(hF:∀b,S b->b < w.heap.size->¬F b)(ho:∀b,v.ownBlock=some b->¬F b):OwnR B S w' E wd v rows:=
 h.keep hk.size (λb hb hl=>hk.block b hl (hF b hb hl)) λb hb=>hk.block b (h.lt b hb).2 (ho b hb)
def mono(h:OwnR B S w E wd v rows)(hS:∀b,S b->b < w.heap.size->S' b):OwnR B S' w E wd v rows:=by obtain⟨css,h1,h2⟩:=h;exact⟨css,h1.imp λrow cs Po=>⟨Po.1,Po.2.mono λb hb hl=>⟨hS b hb.1 hl,hb.2⟩⟩,h2⟩
def form(h:OwnR B S w E wd v rows):∃a cap,v=.slice a rows.length cap:=by
 obtain⟨css,_,_,h2⟩:=h;rcases h2 with⟨rfl,h0⟩|⟨g,cap,cur,rfl,_⟩
 .rw[h0];exact⟨_,_,rfl⟩
 .exact⟨_,_,rfl⟩
end OwnR
def qH{css:List (List Value)}(h:∀cs∈css,cs.length=wd)(k j:Nat)(hj:j < wd):css.flatten[k*wd+j]?=(css[k]?).bind (·[j]?):=by
 induction css generalizing k with
 |nil=>simp
 |cons cs css ih=>
  have fY:=h cs ai
  cases k with
  |zero=>simp only[xL,fi,IW,List.getElem?_cons_zero,Ae];rw[rU ab]
  |succ k=>
   have:(k+1)*wd+j=cs.length+(k*wd+j):=by rw[fY,Ud];omega
   rw[this,IW,A0 ab,Nat.add_sub_cancel_left,List.getElem?_cons_succ];exact ih (λc hc=>h c (by simp[hc])) k
def ot{R:α->β->Prop}{l:List α}{m:List β}(h:F2 R l m)(k:Nat)(a:α)(ha:l[k]?=some a):∃b,m[k]?=some b/\R a b:=by
 induction h generalizing k with
 |nil=>simp at ha
 |cons hr _ ih=>cases k with
  |zero=>simp at ha;subst ha;exact⟨_,rfl,hr⟩
  |succ k=>simpa using ih k (by simpa using ha)
def ee{R:α->β->Prop}{l:List α}{m:List β}(h:F2 R l m):l.length=m.length:=by
 induction h with
 |nil=>rfl
 |cons _ _ ih=>simp[ih]
def jA{R:α->β->Prop}{Q:β->Prop}{l:List α}{m:List β}(h:F2 R l m)(hq:∀a b,R a b->Q b):∀b∈m,Q b:=by
 induction h with
 |nil=>simp
 |cons hr _ ih=>
  intro b hb
  (rcases cZ.1 hb with rfl|hb)
  .exact hq _ _ hr
  .exact ih b hb
def Ca{R:α->β->Prop}{l:List α}{m:List β}{a:α}{b:β}(h:F2 R l m)(hr:R a b):F2 R (l++[a]) (m++[b]):=by
 induction h with
 |nil=>exact .cons hr .nil
 |cons h1 _ ih=>exact .cons h1 ih
def OwnR.rC(h:OwnR B S w E wd v rows)(hS:∀b,S b->b < w.heap.size->S' b)(hB:∀b,B<=b->b < w.heap.size->S' b):an S' w (.sl rows) v:=by
 obtain⟨css,h1,h2,h3⟩:=h;have hlen:=ee h1;have mu:=jA (Q:=λcs=>cs.length=wd) h1 λ_ _ h=>h.1;rcases h3 with⟨rfl,h0⟩|⟨g,cap,cur,rfl,hb,WC,h4,h5,h6,h7⟩
 .exact Ee
 .refine GG ?_;intro bQ aL;refine .sl rows g 0 cap wd (λk j=>css.flatten.getD (k*wd+j) undef) (hB g hb bQ) bQ h4 h5 ?_ ?_ ?_
  .exact uf
  .exact JT
  exact tS
def OwnR.lens(h:OwnR B S w E wd v rows):∀row∈rows,row.length=wd:=by obtain⟨css,h1,h2,h3⟩:=h;intro row hr;obtain⟨k,hk⟩:=JI hr;obtain⟨cs,_,e2⟩:=ot h1 k row hk;exact e2.2.1.trans e2.1
def an.src{a:YS}{m c:Nat}(h:an S w (.sl rows) (.slice a m c))(hl:∀row∈rows,row.length=wd):(a=none/\rows=[]/\m=0/\c=0)∨∃(ad:Addr) (css:List (List Value)),a=some ad/\m=rows.length/\F2 (λrow cs=>cs.length=wd/\aP S w row cs) rows css/\∀j u,css.flatten[j]?=some u->w.cell? (ad.add j)=some u:=by
 cases h with
 |nil=>exact .inl ⟨rfl,rfl,rfl,rfl⟩
 |sl _ g off _ wd' cc hS hg oG hm hw hc hv=>
  refine .inr ⟨⟨g,off,none⟩,(List.range rows.length).map λk=>(List.range wd).map (cc k),rfl,rfl,?_,?_⟩
  .have gen:∀(l:Zg) (n:Nat),(∀k row,l[k]?=some row->rows[n+k]?=some row)->F2 (λrow cs=>cs.length=wd/\aP S w row cs) l ((List.range l.length).map λk=>(List.range wd).map (cc (n+k))):=by
    intro l;induction l with
    |nil=>intro n _;exact .nil
    |cons row l ih=>
     intro n hn;rw[dC,List.range_succ_eq_map,lp,AY];have aL:=hn 0 row rfl;have UA:=hl row (cm aL);refine .cons ⟨by simp,by simp[UA],λj t c' h1 h2=>?_⟩ ?_
     .have hj:j < wd:=by have:=(dk.1 h1).1;omega
      simp[hj] at h2;subst h2;exact hv _ _ _ _ aL h1
     .have:=ih (n+1) (λk apz hk=>by have:=hn (k+1) apz jc;rwa[show n+(k+1)=n+1+k by omega] at this);have e:((λk=>(List.range wd).map (cc (n+k))) ∘ Nat.succ)=λk=>(List.range wd).map (cc (n+1+k)):=by funext k;simp[show n+(k+1)=n+1+k by omega,Function.comp,Nat.succ_eq_add_one]
      rw[e];exact this
   have:=gen rows 0 (λk row hk=>by simpa using hk);simpa using this
  .intro j u hj;by_cases hwd:wd=0
   .subst hwd;have:((List.range rows.length).map λk=>(List.range 0).map (cc k)).flatten=[]:=ai;rw[this] at hj;simp at hj
   .have mu:∀cs∈(List.range rows.length).map λk=>(List.range wd).map (cc k),cs.length=wd:=by intro cs fY;simp at fY;obtain⟨k,_,rfl⟩:=fY;simp
    obtain⟨q,r,amW,rfl⟩:∃q r,r < wd/\j=q*wd+r:=⟨j / wd,j % wd,Nat.mod_lt _ ab,by rw[Nat.mul_comm];exact(Nat.div_add_mod j wd).symm⟩
    rw[qH mu _ _ amW] at hj;by_cases hk:q < rows.length
    .simp[hk,amW] at hj;subst hj;have aL:=ck hk;have UA:=hl _ (Ug hk);have sQ:(rows[q])[r]?=some ((rows[q])[r]'(by omega)):=ck _;have:=hc q r _ _ aL sQ;have hww:wd'=wd:=(hw _ (Ug hk)).symm.trans UA;rw[MP];rw[hww] at this;exact this
    .simp[hk] at hj
def HZ{T:UB}{i:TypeInfo}(ht:P.underlying T=some (.slice E))(hi:P.info? E=some i)(hz:i.zero=some z)(mn:i.size=wd)(dY:i.bytes=bytes)(Me:z.cells.size=wd)(dM:0 < wd)(Oa:bytes<=1000){B:Nat}(h:OwnR B S w E wd v rows)(hB:B<=w.heap.size)(hn:rows.length<=1000000)(a:Addr)(c:Nat)(hl:cs.length=wd)(hc:∀j u,cs[j]?=some u->w.cell? (a.add j)=some u)(hr:aP (λb=>S b/\v.ownBlock≠some b) w row cs):∃v' w',(Builtin.append_ #[T,T] t0 #[v,.slice (some a) 1 c]).run P w=.ok v' w'/\OwnR B S w' E wd v' (rows++[row])/\Kept (λj=>v.ownBlock=some j) w w'/\(v'.ownBlock=v.ownBlock∨∀b,v'.ownBlock=some b->w.heap.size<=b):=by
 obtain⟨css,h1,h2⟩:=h;have h9:(rows.length+1)*bytes<=140737488355328:=cn (Nat.mul_le_mul (Nat.add_le_add_right hn 1) Oa) ab;have hm9:rows.length+1<=maxLen:=iZ;have fin:∀(v':YE) (w':YC),w'.ownsRow B E wd v' (rows.length+1) (css.flatten++cs)->w.grownBy w' v.ownBlock->
   (v'.ownBlock=v.ownBlock∨∀b,v'.ownBlock=some b->w.heap.size<=b)->OwnR B S w' E wd v' (rows++[row])/\Kept (λj=>v.ownBlock=some j) w w':=by
  intro v' w' g1 g2 g3;have conv:∀b,(S b/\v.ownBlock≠some b)->b < w.heap.size->(S b/\v'.ownBlock≠some b):=by exact J7
  have blk:∀b,(S b/\v.ownBlock≠some b)->b < w.heap.size->w'.heap[b]?=w.heap[b]?:=λb hb bQ=>g2.block b bQ (λe=>hb.2 e.symm);refine⟨⟨css++[cs],Ca (h1.imp λr c Po=>⟨Po.1,Po.2.keep conv g2.size blk⟩) ⟨hl,hr.keep conv g2.size blk⟩,by simpa using g1⟩,?_⟩;exact(Kept.refl _ w).grown g2 (λk hk _=>hk)
 rcases h2.2 with⟨rfl,h0⟩|⟨g,cap,cur,rfl,zU,hg,hnc,hcm,fY,QM⟩
 .have:rows=[]:=JK h0;subst this
  cases h1;obtain⟨v',w',gV,r1,r2,_⟩:=MW (P:=P) w w.heap.size T t0 E i z wd bytes ht hi hz mn dY Me dM (.slice none 0 0) 0 [] (Rm w _ E wd) a 1 c cs na hc hr.one cP ab (aM _);have r3:v'.ownBlock=Value.ownBlock (.slice none 0 0)∨∀b,v'.ownBlock=some b->w.heap.size<=b:=.inr λb hb=>(r1.lt b hb).1;have r1':w'.ownsRow B E wd v' (0+1) ([]++cs):=⟨r1.1,r1.2.imp id fun⟨g,cap,cur,e1,e2,e3⟩=>⟨g,cap,cur,e1,by omega,e3⟩⟩
  exact DY
 .by_cases yR:rows.length+1<=cap
  .obtain⟨v',w',gV,r1,r2,_⟩:=MW (P:=P) w B T t0 E i z wd bytes ht hi hz mn dY Me dM _ _ _ h2 a 1 c cs na hc hr.one hm9 h9 hB;have akw:rows.length*i.size+cs.length<=cur.size:=by rw[hl,fY,mn];have:(rows.length+1)*wd<=cap*wd:=Zk _ yR;rw[Ud] at this;omega
   have Qx:=run_append_room (P:=P) w T t0 E i ht hi g rows.length cap cur hg a 1 c cs (by simpa[mn] using hl) hc hr.one yR akw;have hv:v'=.slice (some ⟨g,0,none⟩) (rows.length+1) cap:=by have:=gV.symm.trans Qx;injection this
   exact Ds
  .have holds:∀j u,css.flatten[j]?=some u->w.cell? ((⟨g,0,none⟩:Addr).add j)=some u:=h2.cells (g:=g) rfl;obtain⟨v',w',gV,r1,r2⟩:=WY (P:=P) w T t0 E i z wd bytes ht hi hz mn dY Me dM ⟨g,0,none⟩ rows.length cap css.flatten h2.1 holds a 1 c cs na hc ab hm9 h9;refine GL ?_;intro r3;have r1':w'.ownsRow B E wd v' (rows.length+1) (css.flatten++cs):=⟨r1.1,r1.2.imp id fun⟨g,cap,cur,e1,e2,e3⟩=>⟨g,cap,cur,e1,by omega,e3⟩⟩
   exact Ka
def AS{T:UB}{i:TypeInfo}(ht:P.underlying T=some (.slice E))(hi:P.info? E=some i)(hz:i.zero=some z)(mn:i.size=wd)(dY:i.bytes=bytes)(Me:z.cells.size=wd)(dM:0 < wd)(Oa:bytes<=1000){B:Nat}(h:OwnR B S w E wd v rows)(hB:B<=w.heap.size){rows2:Zg}{a:YS}{m c:Nat}(hn:rows.length+rows2.length<=1000000)(hl:∀row∈rows2,row.length=wd)(hr:an (λb=>S b/\v.ownBlock≠some b) w (.sl rows2) (.slice a m c)):∃v' w',(Builtin.append_ #[T,T] t0 #[v,.slice a m c]).run P w=.ok v' w'/\OwnR B S w' E wd v' (rows++rows2)/\Kept (λj=>v.ownBlock=some j) w w'/\(v'.ownBlock=v.ownBlock∨∀b,v'.ownBlock=some b->w.heap.size<=b):=by
 rcases hr.src hl with⟨rfl,rfl,rfl,rfl⟩|⟨ad,Ji,rfl,rfl,hF,xp⟩
 .obtain⟨css,h1,h2⟩:=h;refine⟨v,w,run_append_owned_none (P:=P) (w:=w) B T t0 E i wd ht hi v _ _ h2,by simpa using⟨css,h1,h2⟩,Kept.refl _ _,.inl rfl⟩
 have Zq:=ee hF;have ajE:=jA (Q:=λcs=>cs.length=wd) hF λ_ _ h=>h.1;have oL:Ji.flatten.length=rows2.length*wd:=by
  rw[Zq];clear hF xp Zq;induction Ji with
  |nil=>simp
  |cons cs Ji ih=>rw[IW,j0,ih (λc hc=>ajE c (by simp[hc])),ajE cs ai,dC,Ud];omega
 have abk:∀u∈Ji.flatten,u.oneCell'=true:=by intro u hu;obtain⟨cs,fY,hu⟩:=List.mem_flatten.1 hu;exact jA (Q:=λcs=>∀u∈cs,u.oneCell'=true) hF (λ_ _ h=>h.2.one) cs fY u hu
 obtain⟨css,h1,h2⟩:=h;have h9:(rows.length+rows2.length)*bytes<=140737488355328:=cn (Nat.mul_le_mul hn Oa) ab;have hm9:rows.length+rows2.length<=maxLen:=iZ;have fin:∀(v':YE) (w':YC),w'.ownsRow B E wd v' (rows.length+rows2.length) (css.flatten++Ji.flatten)->w.grownBy w' v.ownBlock->
   (v'.ownBlock=v.ownBlock∨∀b,v'.ownBlock=some b->w.heap.size<=b)->OwnR B S w' E wd v' (rows++rows2)/\Kept (λj=>v.ownBlock=some j) w w':=by
  intro v' w' g1 g2 g3;have conv:∀b,(S b/\v.ownBlock≠some b)->b < w.heap.size->(S b/\v'.ownBlock≠some b):=by exact J7
  have blk:∀b,(S b/\v.ownBlock≠some b)->b < w.heap.size->w'.heap[b]?=w.heap[b]?:=λb hb bQ=>g2.block b bQ (λe=>hb.2 e.symm);refine⟨⟨css++Ji,F2.append (h1.imp λr c Po=>⟨Po.1,Po.2.keep conv g2.size blk⟩) (hF.imp λr c Po=>⟨Po.1,Po.2.keep conv g2.size blk⟩),by simpa using g1⟩,?_⟩;exact(Kept.refl _ w).grown g2 (λk hk _=>hk)
 rcases h2.2 with⟨rfl,h0⟩|⟨g,cap,cur,rfl,zU,hg,hnc,hcm,fY,QM⟩
 .have:rows=[]:=JK h0;subst this
  cases h1;obtain⟨v',w',gV,r1,r2,_⟩:=MW (P:=P) w w.heap.size T t0 E i z wd bytes ht hi hz mn dY Me dM (.slice none 0 0) 0 [] (Rm w _ E wd) ad rows2.length c Ji.flatten oL xp abk (by simpa using hm9) (by simpa using h9) (aM _);have r3:v'.ownBlock=Value.ownBlock (.slice none 0 0)∨∀b,v'.ownBlock=some b->w.heap.size<=b:=.inr λb hb=>(r1.lt b hb).1;have r1':w'.ownsRow B E wd v' (0+rows2.length) ([]++Ji.flatten):=⟨r1.1,r1.2.imp id fun⟨g,cap,cur,e1,e2,e3⟩=>⟨g,cap,cur,e1,by omega,e3⟩⟩
  exact DY
 .by_cases yR:rows.length+rows2.length<=cap
  .obtain⟨v',w',gV,r1,r2,_⟩:=MW (P:=P) w B T t0 E i z wd bytes ht hi hz mn dY Me dM _ _ _ h2 ad rows2.length c Ji.flatten oL xp abk hm9 h9 hB;have akw:rows.length*i.size+Ji.flatten.length<=cur.size:=by rw[oL,fY,mn];have:(rows.length+rows2.length)*wd<=cap*wd:=Zk _ yR;rw[Ud] at this;omega
   have Qx:=run_append_room (P:=P) w T t0 E i ht hi g rows.length cap cur hg ad rows2.length c Ji.flatten (by rw[oL,mn]) xp abk yR akw;have hv:v'=.slice (some ⟨g,0,none⟩) (rows.length+rows2.length) cap:=by have:=gV.symm.trans Qx;injection this
   exact Ds
  .have holds:∀j u,css.flatten[j]?=some u->w.cell? ((⟨g,0,none⟩:Addr).add j)=some u:=h2.cells (g:=g) rfl;obtain⟨v',w',gV,r1,r2⟩:=WY (P:=P) w T t0 E i z wd bytes ht hi hz mn dY Me dM ⟨g,0,none⟩ rows.length cap css.flatten h2.1 holds ad rows2.length c Ji.flatten oL xp ab hm9 h9;refine GL ?_;intro r3;have r1':w'.ownsRow B E wd v' (rows.length+rows2.length) (css.flatten++Ji.flatten):=⟨r1.1,r1.2.imp id fun⟨g,cap,cur,e1,e2,e3⟩=>⟨g,cap,cur,e1,by omega,e3⟩⟩
   exact Ka
def bu{T:UB}{i:TypeInfo}(ht:P.underlying T=some (.slice E))(hi:P.info? E=some i)(hz:i.zero=some z)
  (mn:i.size=wd) (dY:i.bytes=bytes) (Me:z.cells.size=wd) (dM:0 < wd) (Oa:bytes<=1000)
  {ops:Ws} {rest:RM} {o:RZ} {a:Act} {Q:VN} (hg:o.guard=none) (s x:Rj) (o7:o.op=Op.call {callee:=Callee.builtin Builtin.append,args:=#[s,x],argTypes:=#[T,T]})
  (hs:a.eval s=v) (ad:Addr) (c:Nat) (hx:a.eval x=.slice (some ad) 1 c) (cs:YT) (row:Row)
  {B:Nat} (h:OwnR B S w E wd v rows) (hB:B<=w.heap.size) (hn:rows.length<=1000000) (hl:cs.length=wd)
  (hc:∀j u,cs[j]?=some u->w.cell? (ad.add j)=some u) (hr:aP (λb=>S b/\v.ownBlock≠some b) w row cs)
  (hK:∀v' w',OwnR B S w' E wd v' (rows++[row])->Kept (λj=>v.ownBlock=some j) w w'->(v'.ownBlock=v.ownBlock∨∀b,v'.ownBlock=some b->w.heap.size<=b)->wpList P ops Q rest (a.put o.dst v') w'):
  wpList P ops Q (o::rest) a w:=by
 refine MX hg λK H0=>?_;obtain⟨v',w',gV,r1,r2,r3⟩:=HZ (t0:=o.type) ht hi hz mn dY Me dM Oa h hB hn ad c hl hc hr;unfold Oper.wp;simp[execOp,o7,resolve,invoke,builtin,hs,hx,gV,Result.andThen];exact H0 _ _ (hK v' w' r1 r2 r3)
def wK(w:YC)(g off:Nat)(l:Zi):Prop:=∀(k:Nat) (t:aF),l[k]?=some t->
 w.cell? ⟨g,off+k*4,none⟩=some (.int .i64 t.k)/\w.cell? ⟨g,off+k*4+1,none⟩=some (.string (bs t.t))/\∃a b:Int,w.cell? ⟨g,off+k*4+2,none⟩=some (.int .i64 a)/\w.cell? ⟨g,off+k*4+3,none⟩=some (.int .i64 b)
def Gt{T:UB}{i:TypeInfo}(ht:P.underlying T=some (.slice E))(hi:P.info? E=some i)(hz:i.zero=some z)
  (mn:i.size=wd) (dY:i.bytes=bytes) (Me:z.cells.size=wd) (dM:0 < wd) (Oa:bytes<=1000)
  {o:RZ} {a:Act} {K:R0} {Q:VN} (s x:Rj) (o7:o.op=Op.call {callee:=Callee.builtin Builtin.append,args:=#[s,x],argTypes:=#[T,T]})
  (hs:a.eval s=v) {rows2:Zg} {ad:YS} {m c:Nat} (hx:a.eval x=.slice ad m c)
  {B:Nat} (h:OwnR B S w E wd v rows) (hB:B<=w.heap.size) (hn:rows.length+rows2.length<=1000000) (hl:∀row∈rows2,row.length=wd)
  (hr:an (λb=>S b/\v.ownBlock≠some b) w (.sl rows2) (.slice ad m c))
  (hK:∀v' w',OwnR B S w' E wd v' (rows++rows2)->Kept (λj=>v.ownBlock=some j) w w'->(v'.ownBlock=v.ownBlock∨∀b,v'.ownBlock=some b->w.heap.size<=b)->K (a.put o.dst v') w'):
  o.wp P a w K Q:=by
 obtain⟨v',w',gV,r1,r2,r3⟩:=AS (t0:=o.type) ht hi hz mn dY Me dM Oa h hB hn hl hr;unfold Oper.wp;simp[execOp,o7,resolve,invoke,builtin,hs,hx,gV,Result.andThen];exact hK v' w' r1 r2 r3
def kZ{T:UB}{i:TypeInfo}(ht:P.underlying T=some (.slice E))(hi:P.info? E=some i)(hz:i.zero=some z)
  (mn:i.size=wd) (dY:i.bytes=bytes) (Me:z.cells.size=wd) (dM:0 < wd) (Oa:bytes<=1000)
  {ops:Ws} {rest:RM} {o:RZ} {a:Act} {Q:VN} (hg:o.guard=none) (s x:Rj) (o7:o.op=Op.call {callee:=Callee.builtin Builtin.append,args:=#[s,x],argTypes:=#[T,T]})
  (hs:a.eval s=v) {rows2:Zg} {ad:YS} {m c:Nat} (hx:a.eval x=.slice ad m c)
  {B:Nat} (h:OwnR B S w E wd v rows) (hB:B<=w.heap.size) (hn:rows.length+rows2.length<=1000000) (hl:∀row∈rows2,row.length=wd)
  (hr:an (λb=>S b/\v.ownBlock≠some b) w (.sl rows2) (.slice ad m c))
  (hK:∀v' w',OwnR B S w' E wd v' (rows++rows2)->Kept (λj=>v.ownBlock=some j) w w'->(v'.ownBlock=v.ownBlock∨∀b,v'.ownBlock=some b->w.heap.size<=b)->wpList P ops Q rest (a.put o.dst v') w'):
  wpList P ops Q (o::rest) a w:=
 MX hg λ_ H0=>Gt ht hi hz mn dY Me dM Oa s x o7 hs hx h hB hn hl hr λv' w' h1 h2 h3=>H0 _ _ (hK v' w' h1 h2 h3)
def kb{T:UB}{i:TypeInfo}(ht:P.underlying T=some (.slice E))(hi:P.info? E=some i)(hz:i.zero=some z)
  (mn:i.size=wd) (dY:i.bytes=bytes) (Me:z.cells.size=wd) (dM:0 < wd) (Oa:bytes<=1000)
  {o:RZ} {a:Act} {K:R0} {Q:VN} (s x:Rj) (o7:o.op=Op.call {callee:=Callee.builtin Builtin.append,args:=#[s,x],argTypes:=#[T,T]})
  (hs:a.eval s=v) (ad:Addr) (c:Nat) (hx:a.eval x=.slice (some ad) 1 c) (cs:YT) (row:Row)
  {B:Nat} (h:OwnR B S w E wd v rows) (hB:B<=w.heap.size) (hn:rows.length<=1000000) (hl:cs.length=wd)
  (hc:∀j u,cs[j]?=some u->w.cell? (ad.add j)=some u) (hr:aP (λb=>S b/\v.ownBlock≠some b) w row cs)
  (hK:∀v' w',OwnR B S w' E wd v' (rows++[row])->Kept (λj=>v.ownBlock=some j) w w'->(v'.ownBlock=v.ownBlock∨∀b,v'.ownBlock=some b->w.heap.size<=b)->K (a.put o.dst v') w'):
  o.wp P a w K Q:=by
 obtain⟨v',w',gV,r1,r2,r3⟩:=HZ (t0:=o.type) ht hi hz mn dY Me dM Oa h hB hn ad c hl hc hr;unfold Oper.wp;simp[execOp,o7,resolve,invoke,builtin,hs,hx,gV,Result.andThen];exact hK v' w' r1 r2 r3
def cV(c:Nat):Bool:=97<=c&&c<=122
def jT(c:Nat):Bool:=65<=c&&c<=90
def iD(c:Nat):Bool:=48<=c&&c<=57
def cB(c:Nat):Bool:=cV c||jT c||iD c||c==95
def yG:List (List Nat):=[tx "and",tx "as",tx "attached",tx "check",tx "class",tx "create",tx "deferred",tx "detachable",tx "do",tx "else",tx "end",tx "ensure",tx "feature",tx "from",tx "if",tx "implies",tx "inherit",tx "invariant",tx "local",tx "loop",tx "not",tx "old",tx "or",tx "put",tx "raise",tx "redefine",tx "rename",tx "require",tx "rescue",tx "retry",tx "select",tx "separate",tx "then",tx "undefine",tx "until",tx "variant",tx "when",tx "True",tx "False",tx "Void",tx "Current",tx "Result"]
def cJ:List (List Nat):=[tx ":=",tx "/=",tx "<=",tx ">=",tx "//",tx "=",tx "<",tx ">",tx "+",tx "-",tx "*",tx "%",tx "(",tx ")",tx "[",tx "]",tx "\x7b",tx "\x7d",tx ",",tx ";",tx ":",tx "."]
def shape(s:Yz):Option Nat:=
 if cJ.contains s then some 5 else
 match s with
 |[]=>none
 |c::r=>
  if !s.all cB||c==95 then none else
  if iD c then(if s.all iD&&!(c==48&&!r.isEmpty)&&num s<=1099511627776 then some 4 else none) else
  if yG.contains s then some 3 else
  if[tx "true",tx "false",tx "void",tx "current",tx "result"].contains s then none else
  if s.any cV&&s.any jT then none else
  if s.length > 20 then none else
  if s.any cV then some 1 else some 2
def fD:List Nat->List Nat
 |c::r=>if cB c then c::fD r else[]
 |[]=>[]
def fE(s:Yz):List Nat:=(cJ.find? λx=>x.isPrefixOf s).getD []
def qQ:Nat->List Nat->Option (List aF)
 |_,[]=>some []
 |0,_=>none
 |f+1,c::r=>
  if c==10||c==32 then qQ f r
  else if c==45&&(match r with|d::_=>d==45|[]=>false) then none
  else
   let t:=if cB c then fD (c::r) else fE (c::r)
   match shape t with
   |none=>none
   |some k=>(qQ f ((c::r).drop t.length)).map (⟨k,t⟩:: ·)
open Go.Proofs.Tryz
open Go.RowKit
open Go.Proofs.Bm (Kept wp_region_live wpAnyT_take wpAnyT_ready AllReadyT.dead AllReadyT.live AllReadyT.nil wpAnyT_done)
open Go.Proofs.Bm (wpLive tkT rdT ddT rT2 rT3 sp dnT bc)
open Go.Proofs.Bm
structure Ctx where
 p:Nat
 g:Nat
 L:List aF
 fs:List (List Nat)
 fv:Value
 Bd:Nat
 x5:Option Value
 ga:Option Addr
structure PS (C:Ctx) (w:YC) (l:Zi):Prop where
 hL:∀t∈C.L,bW t.t/\shape t.t=some t.k
 len:C.L.length<=6000
 c0:∃cap,w.cell? ⟨C.p,0,none⟩=some (.slice C.ga C.L.length cap)/\(C.L.length≠0->C.ga=some ⟨C.g,0,none⟩)
 c1:∃n:Nat,n+l.length=C.L.length/\C.L.drop n=l/\w.cell? ⟨C.p,1,none⟩=some (.int .i64 n)
 cE:∃x y:Int,w.cell? ⟨C.p,2,none⟩=some (.int .i64 x)/\w.cell? ⟨C.p,3,none⟩=some (.int .i64 y)
 c4:w.cell? ⟨C.p,4,none⟩=some C.fv
 c5:∀v,C.x5=some v->w.cell? ⟨C.p,5,none⟩=some v
 fr:∀j,w.frozen? ⟨C.p,j,none⟩=false
 ne:C.g≠C.p
 pb:C.p < C.Bd
 gb:C.g < C.Bd
 bd:C.Bd<=w.heap.size
 abv:wK w C.g 0 C.L
 fm:an (λb=>b < C.Bd/\b≠C.p) w (.sl (strs C.fs)) C.fv
namespace PS
open Go.Proofs.Tryz
variable {C:Ctx}{w w':YC}{l r:Zi}{t:aF}{F:Nat -> Prop}
def kept(h:PS C w l)(hk:Kept F w w')(hF:∀b,F b->C.Bd<=b):PS C w' l:=by
 have hp:∀j,w'.cell? ⟨C.p,j,none⟩=w.cell? ⟨C.p,j,none⟩:=λj=>hk.cell qb AK;have hg:∀j,w'.cell? ⟨C.g,j,none⟩=w.cell? ⟨C.g,j,none⟩:=λj=>hk.cell Hw (λe=>by have:=hF _ e;have:=h.gb;simp at*;omega);refine⟨h.hL,h.len,?_,?_,?_,?_,?_,?_,h.ne,h.pb,h.gb,cn h.bd hk.size,?_,h.fm.kept hk ?_⟩
 .simp only[hp];exact h.c0
 .simp only[hp];exact h.c1
 .simp only[hp];exact h.cE
 .simp only[hp];exact h.c4
 .simp only[hp];exact h.c5
 .intro j;have:=hk.frozen (p:=⟨C.p,j,none⟩) qb AK;rw[this];exact h.fr j
 .intro k t A8;simp only[hg];exact h.abv k t A8
 .intro b hb _ e;have:=hF b e;omega
def c0n(h:PS C w l)(hn:C.L.length≠0):∃cap,w.cell? ⟨C.p,0,none⟩=some (.slice C.g C.L.length cap):=by obtain⟨cap,c0,h⟩:=h.c0;exact⟨cap,by rw[c0,h hn]⟩
def c0t(h:PS C w (t::r)):∃cap,w.cell? ⟨C.p,0,none⟩=some (.slice C.g C.L.length cap):=by obtain⟨n,e,-⟩:=h.c1;exact h.c0n (by simp at e;omega)
def alloc(h:PS C w l)(o:Obj):PS C (w.alloc o) l:=h.kept ((Kept.refl (λ_=>False) w).alloc o) (λ_ e=>e.elim)
def drew(h:PS C w l):PS C w.drew l:=h.kept (Kept.refl (λ_=>False) w).drew (λ_ e=>e.elim)
def TT(h:PS C w (t::r)){n:Int}(hn:n=((C.L.length - r.length:Nat):Int)):PS C (w.setCell ⟨C.p,1,none⟩ (.int .i64 n)) r:=by
 have rG:∀j,j≠1->(w.setCell ⟨C.p,1,none⟩ (.int .i64 n)).cell? ⟨C.p,j,none⟩=w.cell? ⟨C.p,j,none⟩:=λj hj=>Bm.jd _ _ _ _ _ _ (Pr hj);have hg:∀b j,b≠C.p->(w.setCell ⟨C.p,1,none⟩ (.int .i64 n)).cell? ⟨b,j,none⟩=w.cell? ⟨b,j,none⟩:=λb j hb=>Bm.cS _ _ _ _ _ _ (Pr hb);obtain⟨m,e1,e2,e3⟩:=h.c1;have bQ:m < C.L.length:=oD;have e4:C.L.length - r.length=m+1:=oD;refine⟨h.hL,h.len,?_,?_,?_,?_,?_,?_,h.ne,h.pb,h.gb,?_,?_,?_⟩
 .rw[rG 0 ab];exact h.c0
 .refine⟨m+1,by simp at e1;omega,?_,?_⟩
  .rw[MN bQ] at e2;injection e2
  .rw[Bm.oF _ _ _ _ (by rw[e3];rfl),hn,e4]
 .rw[rG 2 ab,rG 3 ab];exact h.cE
 .rw[rG 4 ab];exact h.c4
 .rw[rG 5 ab];exact h.c5
 .intro j;rw[MY];exact h.fr j
 .rw[Bm.size_setCell];exact h.bd
 .intro k t A8;simp only[hg _ _ h.ne];exact h.abv k t A8
 .refine h.fm.keep (λ_ h _=>h) Hs λb hb _=>ll _ _ _ _ (by simpa using hb.2)
def tok(h:PS C w l){k:Nat}(ht:l[k]?=some t):∃(n:Nat) (a b:Int),n+l.length=C.L.length/\w.cell? ⟨C.p,1,none⟩=some (.int .i64 n)/\n+k < C.L.length/\bW t.t/\w.cell? ⟨C.g,(n+k)*4,none⟩=some (.int .i64 t.k)/\w.cell? ⟨C.g,(n+k)*4+1,none⟩=some (.string (bs t.t))/\w.cell? ⟨C.g,(n+k)*4+2,none⟩=some (.int .i64 a)/\w.cell? ⟨C.g,(n+k)*4+3,none⟩=some (.int .i64 b):=by
 obtain⟨n,e1,e2,e3⟩:=h.c1;have ht2:C.L[n+k]?=some t:=by rw[<-e2,Qv] at ht;exact ht
 obtain⟨q1,q2,a,b,q3,q4⟩:=h.abv (n+k) t ht2;simp only[fi] at q1 q2 q3 q4;exact⟨n,a,b,e1,e3,(dk.1 ht2).1,(h.hL t (cm ht2)).1,q1,q2,q3,q4⟩
def shp(h:PS C w (t::r)):shape t.t=some t.k:=by obtain⟨n,e1,e2,e3⟩:=h.c1;exact(h.hL t (A1 (i:=n) (by rw[e2];simp))).2
end PS
def aK:Nat->Prop:=λ_=>False
def Kept.drewN{F:Wq}{a w:YC}(h:Kept F a w){n:Nat}:Kept F a (w.drewN n):=⟨h.os,h.tape,h.output,h.size,h.block⟩
abbrev UK:Obj:=.cells #[oZ,eS,oZ,oZ] 187
def cD{w:YC}{b o:Nat}{v:YE}(x:Obj)(h:w.cell? ⟨b,o,none⟩=some v):(w.alloc x).cell? ⟨b,o,none⟩=some v:=(A2 _ _ _ (cA w _ h)).trans h
def zy{C:Ctx}{w:YC}(h:PS C w l)(k:Nat)(t:aF)(hk:l[k]?=some t)(xi:k<=1):Calls prog 168 #[.pointer C.p,k] w λe w'=>∃a b,e=.returned (.agg #[t.k,t.t,.int .i64 a,.int .i64 b])/\Kept aK w w':=by
 obtain⟨n,a,b,e1,c1,bQ,_,q1,q2,q3,q4⟩:=h.tok hk;obtain⟨cap,c0⟩:=h.c0n ab;have hlen:=h.len;have nz:(0:Int)<=(n:Int):=ab;have lL:((n:Int)+(k:Int)) < (C.L.length:Int):=ab;have jy:(0:Int)<=(n:Int)+(k:Int):=ab;replace c0:=cD UK c0;replace c1:=cD UK c1;replace q1:=cD UK q1;replace q2:=cD UK q2;replace q3:=cD UK q3;replace q4:=cD UK q4;clear h hk e1;go_enter func168,ntmps168;go_wp2_with fail;go_quiet (fail)
 go_wp2_with fail;have hi:((n:Int)+(k:Int)).toNat=n+k:=ab;have hw:IntKind.i64.wrap ((n:Int)+(k:Int))=(n:Int)+(k:Int):=lF _ ab;refine wp_region_live 12 (λV=>V.cell? ⟨C.p,0,none⟩=some (.slice C.g C.L.length cap)/\V.cell? ⟨C.p,1,none⟩=some (.int .i64 n)/\V.cell? ⟨C.g,(n+k)*4,none⟩=some (.int .i64 t.k)/\V.cell? ⟨C.g,(n+k)*4+1,none⟩=some (.string (bs t.t))/\V.cell? ⟨C.g,(n+k)*4+2,none⟩=some (.int .i64 a)/\V.cell? ⟨C.g,(n+k)*4+3,none⟩=some (.int .i64 b)) af ⟨c0,c1,q1,q2,q3,q4⟩ (λak=>?_);refine wpAnyT_take (i:=0) (oi:=_) (v:=?_) rfl af af af af af (λ_ _ _ h=>h) (Or.inl ⟨by rfl,?_⟩) dL ?_;rotate_left
 .exact dI
 refine et ?_;refine wpAnyT_take (i:=1) (oi:=_) (v:=?_) rfl af af af af af (λ_ _ _ h=>h) (Or.inl ⟨by rfl,?_⟩) dL ?_;rotate_left
 .exact dI
 refine et ?_;refine wpAnyT_take (i:=2) (oi:=_) (v:=?_) rfl af af af af af (λ_ _ _ h=>h) (Or.inl ⟨by rfl,?_⟩) dL ?_;rotate_left
 .exact dI
 refine et ?_;refine wpAnyT_take (i:=3) (oi:=_) (v:=?_) rfl af af af af af (λ_ _ _ h=>h) (Or.inl ⟨by rfl,?_⟩) dL ?_;rotate_left
 .exact dI
 refine et ?_;refine wpAnyT_take (i:=4) (oi:=_) (v:=?_) rfl af af af af af (λ_ _ _ h=>h) (Or.inl ⟨by rfl,?_⟩) dL ?_;rotate_left
 .exact dI
 refine et ?_;refine wpAnyT_take (i:=5) (oi:=_) (v:=?_) rfl af af af af af (λ_ _ _ h=>h) (Or.inl ⟨by rfl,?_⟩) dL ?_;rotate_left
 .exact dI
 refine et ?_;refine wpAnyT_take (i:=6) (oi:=_) (v:=?_) rfl af af af af af (λ_ _ _ h=>h) (Or.inl ⟨by rfl,?_⟩) dL ?_;rotate_left
 .exact dI
 refine et ?_;refine wpAnyT_take (i:=7) (oi:=_) (v:=?_) rfl af af af af af (λ_ _ _ h=>h) (Or.inl ⟨by rfl,?_⟩) dL ?_;rotate_left
 .exact dI
 refine et ?_;refine wpAnyT_take (i:=8) (oi:=_) (v:=?_) rfl af af af af af (λ_ _ _ h=>h) (Or.inl ⟨by rfl,?_⟩) dL ?_;rotate_left
 .exact dI
 refine et ?_;refine wpAnyT_take (i:=9) (oi:=_) (v:=?_) rfl af af af af af (λ_ _ _ h=>h) (Or.inl ⟨by rfl,?_⟩) dL ?_;rotate_left
 .exact dI
 refine et ?_;refine wpAnyT_take (i:=10) (oi:=_) (v:=?_) rfl af af af af af (λ_ _ _ h=>h) (Or.inl ⟨by rfl,?_⟩) dL ?_;rotate_left
 .exact dI
 refine et ?_;refine wpAnyT_take (i:=11) (oi:=_) (v:=?_) rfl af af af af af (λ_ _ _ h=>h) (Or.inl ⟨by rfl,?_⟩) dL ?_;rotate_left
 .exact dI
 refine et ?_;refine ddT 12 λK hK=>?_;go_simp;refine hK _ _ ?_;clear hK K;try simp only[Act.put,ma,mb,lj,hi]
 refine dnT ?_;go_wp2;clear ak c0 c1 q1 q2 q3 q4;refine bG (v:=.agg #[t.k,t.t,.int .i64 a,.int .i64 b]) Hu rfl ?_;refine⟨a,b,rfl,?_⟩;exact((((Kept.drewN ((Kept.refl aK w).alloc _)).setCell ai _).setCell ai _).setCell ai _).setCell ai _
def zz{C:Ctx}{w:YC}(h:PS C w l)(k:Nat)(hk:l[k]?=none)(xi:k<=1):Calls prog 168 #[.pointer C.p,k] w λe w'=>e=.returned (.agg #[oZ,eS,oZ,oZ])/\Kept aK w w':=by
 obtain⟨n,e1,e2,c1⟩:=h.c1;obtain⟨cap,c0,-⟩:=h.c0;have hlen:=h.len;have hl:l.length<=k:=jc;have nz:(0:Int)<=(n:Int):=ab;have lL:¬((n:Int)+(k:Int)) < (C.L.length:Int):=ab;have jy:(C.L.length:Int)<=(n:Int)+(k:Int):=ab;have gJ:(n:Int)+(k:Int)<=10000:=ab;replace c0:=cD UK c0;replace c1:=cD UK c1;clear h hk e1;go_enter func168,ntmps168;go_wp2_with fail;go_quiet (fail)
 go_wp2;refine bG (v:=.agg #[oZ,eS,oZ,oZ]) Hu rfl ?_;refine⟨rfl,?_⟩
 first|exact((((Kept.drewN ((Kept.refl aK w).alloc _)).setCell ai _).setCell ai _).setCell ai _).setCell ai _|exact Kept.drewN ((Kept.refl aK w).alloc _)
open Go.Proofs.Tryz
open Go.RowKit
open Go.Proofs.Bm
def H6(a b c d:YE)(w:YC):(Instr.field 187 (.agg #[a,b,c,d]) 0).run prog w=.ok a w:=by kernel_rfl
def H7(a b c d:YE)(w:YC):(Instr.field 187 (.agg #[a,b,c,d]) 1).run prog w=.ok b w:=by kernel_rfl
def ahI{C:Ctx}{w:YC}{t:aF}{r:Zi}(h:PS C w (t::r))(s:Yz)(b:YR)(hb:b=bs s)(hs:bW s):Calls prog 94 #[.pointer C.p,b] w λe w'=>e=.returned (.bool (aO s (t::r)))/\Kept aK w w':=by
 subst hb;have ht:bW t.t:=(h.tok (k:=0) rfl).choose_spec.choose_spec.choose_spec.2.2.2.1;have hq:=cH ht hs;have hp:=zy h 0 t rfl ab;have k3:((t.k:Int)==3)=(t.k==3):=br;have k5:((t.k:Int)==5)=(t.k==5):=br;have hr:aO s (t::r)=((t.k==3||t.k==5)&&t.t==s):=rfl;rw[hr]
 cases e1:(t.t==s)<;>cases e2:(t.k==3)<;>cases e3:(t.k==5)<;>rw[e1] at hq<;>rw[e2] at k3<;>rw[e3] at k5<;>clear e1 e2 e3 hr<;>
 .replace hp:=ah hp;go_enter func94,ntmps94;go_wp2_with fail;refine hp.mono ?_;rintro e w1 ⟨x,y,rfl,hK⟩;replace hK:=ah hK;go_wp2;go_ret;exact⟨rfl,hK.alloc _⟩
def akx{C:Ctx}{w:YC}(h:PS C w [])(s:Yz)(b:YR)(hb:b=bs s):Calls prog 94 #[.pointer C.p,b] w λe w'=>e=.returned (.bool (aO s []))/\Kept aK w w':=by
 have hp:=zz h 0 rfl ab;have hr:aO s []=false:=rfl;rw[hr]
 cases e:((⟨#[]⟩:ByteArray).toList==b.toList)<;>
 .replace hp:=ah hp;go_enter func94,ntmps94;go_wp2_with fail;refine hp.mono ?_;rintro e w1 ⟨rfl,hK⟩;replace hK:=ah hK;go_wp2;all_goals (go_ret;exact⟨rfl,hK.alloc _⟩)
def Xy{C:Ctx}{w:YC}(h:PS C w l)(s:Yz)(b:YR)(hb:b=bs s)(hs:bW s):Calls prog 94 #[.pointer C.p,b] w λe w'=>e=.returned (.bool (aO s l))/\Kept aK w w':=by
 cases l with
 |nil=>exact akx h s b hb
 |cons t r=>exact ahI h s b hb hs
def Ob(h:aO s l=true):∃t r,l=t::r:=by
 cases l with
 |nil=>cases h
 |cons t r=>exact⟨t,r,rfl⟩
def ch(C:Ctx):Nat->Prop:=λb=>b=C.p
def aK.to{w w':YC}{F:Wq}(h:Kept aK w w'):Kept F w w':=h.mono λ_ e=>e.elim
def Xz{C:Ctx}{w w1:YC}{t:aF}{r:Zi}(h:PS C w (t::r))(hk:Kept aK w w1){n:Nat}{v:Int}(hn:n+(t::r).length=C.L.length)(hv:v=(n:Int)+1):
  PS C (w1.setCell ⟨C.p,1,none⟩ (iV v)) r/\Kept (ch C) w (w1.setCell ⟨C.p,1,none⟩ (iV v)):=
 ⟨(h.kept hk (λ_ e=>e.elim)).TT wy,(aK.to (F:=ch C) hk).setCell (p:=⟨C.p,1,none⟩) (λ_=>show ch C C.p from rfl) _⟩
def ZX{C:Ctx}{w:YC}(h:PS C w l)(s:Yz)(b:YR)(hb:b=bs s)(hs:bW s)(hi:aO s l=true):Calls prog 169 #[.pointer C.p,b] w λe w'=>e=.returned (.bool true)/\PS C w' l.tail/\Kept (ch C) w w':=by obtain⟨t,r,rfl⟩:=Ob hi;have hp:=Xy h s b hb hs;rw[hi] at hp;obtain⟨n,e1,e2,c1⟩:=h.c1;have f1:=h.fr 1;have hlen:=h.len;have hn:(n:Int)<=10000:=oD;have nz:(0:Int)<=n:=ab;have Ax:C.p < w.heap.size:=Lt;revert h hi hp e1;refine jU ?_;intro h hi hp e1;clear e2 hb;go_enter func169,ntmps169;go_wp2_with fail;refine hp.mono ?_;rintro e w1 ⟨rfl,hK⟩;replace c1:=hK.aq c1 (λe=>e);replace f1:=(hK.frozen (p:=⟨C.p,1,none⟩) Ax (λe=>e)).trans f1;replace hK:=ah hK;go_wp2;go_ret;exact⟨rfl,Xz h hK e1 rfl⟩
def aky{C:Ctx}{w:YC}(h:PS C w l)(s:Yz)(b:YR)(hb:b=bs s)(hs:bW s)(hi:aO s l=false):Calls prog 169 #[.pointer C.p,b] w λe w'=>e=.returned (.bool false)/\Kept aK w w':=by have hp:=Xy h s b hb hs;rw[hi] at hp;replace hp:=ah hp;clear hb hi h;go_enter func169,ntmps169;exact Kb
def adS{C:Ctx}{w:YC}{r:Zi}(h:PS C w l)(s:Yz)(b:YR)(hb:b=bs s)(hs:bW s)(hi:cK s l=some r):Calls prog 170 #[.pointer C.p,b] w λe w'=>e=.returned (.tuple #[])/\PS C w' r/\Kept (ch C) w w':=by
 have h1:aO s l=true/\l.tail=r:=by
  unfold cK at hi
  cases e:aO s l<;>simp[e] at hi
  exact⟨rfl,hi⟩
 obtain⟨h1,rfl⟩:=h1;have hp:=ZX h s b hb hs h1;replace hp:=ah hp;clear hb hi h h1;go_enter func170,ntmps170;go_wp2_with fail;refine hp.mono ?_;rintro e w1 ⟨rfl,hK⟩;replace hK:=ah hK;go_wp2;go_end0;exact⟨rfl,hK⟩
def Oc{C:Ctx}{w:YC}{t:aF}{r:Zi}(h:PS C w (t::r))(k:Int)(hk:k=t.k):Calls prog 226 #[.pointer C.p,k] w λe w'=>e=.returned (.string (bs t.t))/\PS C w' r/\Kept (ch C) w w':=by
 subst hk;have hp:=zy h 0 t rfl ab;obtain⟨n,a,b,e1,c1,bQ,_,q1,q2,q3,q4⟩:=h.tok (k:=0) rfl;obtain⟨cap,c0⟩:=h.c0t;have f1:=h.fr 1;have hlen:=h.len;have hn:(n:Int)<=10000:=oD;have nz:(0:Int)<=n:=ab;have hnl:(n:Int) < (C.L.length:Int):=ab;have Ax:C.p < w.heap.size:=Lt;have cR:=h.ne;have amX:C.p≠C.g:=Pr cR;simp only[fS] at q2;revert h hp e1;refine jk ?_;intro h hp e1;clear q1 q3 q4 bQ cR;have Pj:=H6;go_enter func226,ntmps226;go_wp2_with fail;refine hp.mono ?_;rintro e w1 ⟨x,y,rfl,hK⟩;replace c0:=hK.aq c0 (λe=>e);replace c1:=hK.aq c1 (λe=>e);replace q2:=hK.aq q2 (λe=>e);replace f1:=(hK.frozen (p:=⟨C.p,1,none⟩) Ax (λe=>e)).trans f1;replace hK:=ah hK;have c1':(w1.setCell ⟨C.p,1,none⟩ (iV ((n:Int)+1))).cell? ⟨C.p,1,none⟩=some (iV ((n:Int)+1)):=oF _ _ _ _ (by rw[c1];rfl);have c0':(w1.setCell ⟨C.p,1,none⟩ (iV ((n:Int)+1))).cell? ⟨C.p,0,none⟩=some (sV C.g C.L.length cap):=(jd _ _ _ _ _ _ ab).trans c0;have q2':(w1.setCell ⟨C.p,1,none⟩ (iV ((n:Int)+1))).cell? ⟨C.g,n*4+1,none⟩=some (.string (bs t.t)):=(cS _ _ _ _ _ _ amX).trans q2;go_wp2_with fail;have hw:IntKind.i64.wrap (n:Int)=(n:Int):=lF _ ab;refine wpLive 12 (λV=>V.cell? ⟨C.p,0,none⟩=some (sV C.g C.L.length cap)/\V.cell? ⟨C.p,1,none⟩=some (iV ((n:Int)+1))/\V.cell? ⟨C.g,n*4+1,none⟩=some (.string (bs t.t))) (λV s=>s) ?_ λFF ak=>?_
 .exact⟨c0',c1',q2'⟩
 refine tkT 0 ?_;try simp only[hw,nI]
 refine tkT 1 ?_;try simp only[hw,nI]
 refine tkT 2 ?_;try simp only[hw,nI]
 refine tkT 3 ?_;try simp only[hw,nI]
 refine tkT 4 ?_;try simp only[hw,nI]
 refine tkT 5 ?_;try simp only[hw,nI]
 refine tkT 6 ?_;try simp only[hw,nI]
 refine tkT 7 ?_;try simp only[hw,nI]
 refine tkT 8 ?_;try simp only[hw,nI]
 refine tkT 9 ?_;try simp only[hw,nI]
 refine tkT 10 ?_;try simp only[hw,nI]
 refine tkT 11 ?_;try simp only[hw,nI]
 refine ddT 12 λK hK=>?_;go_simp;refine hK _ _ ?_;clear hK K;try simp only[Act.put,ma,mb,lj,hw,nI]
 refine dnT ?_;go_wp2;go_ret;have:=Xz h hK e1 rfl;exact⟨rfl,this.1.drew,this.2.drew⟩
def qG{C:Ctx}{w:YC}{r:Zi}(h:PS C w l)(hi:word 1 l=some (s,r)):Calls prog 236 #[.pointer C.p] w λe w'=>e=.returned (.string (bs s))/\PS C w' r/\Kept (ch C) w w':=by
 cases l with
 |nil=>cases hi
 |cons t r'=>
  have h1:t.k=1/\t.t=s/\r'=r:=by
   simp only[word] at hi;split at hi
   .rename_i hk;simp at hi hk;exact⟨hk,hi⟩
   .cases hi
  obtain⟨hk,rfl,rfl⟩:=h1;have hp:=Oc h 1 ab;replace hp:=ah hp;go_enter func236,ntmps236;exact Kb
end Go.Proofs.Gm
namespace Go.Proofs.Bm
open Go.RowKit Go.ChangeMaps
instance amM:ReflBEq ByteArray:=⟨(Go.MapKept.bytes_beq _ _).2 rfl⟩
instance ajF:LawfulBEq ByteArray:=⟨λh=>(Go.MapKept.bytes_beq _ _).1 h⟩
def nh:List (ByteArray×Value)->Nat->List MapEntry
 |[],_=>[]
 |p::r,i=>{key:=.string p.1,val:=p.2,born:=i}::nh r (i+1)
def dG(w:YC)(b:Nat)(L:List (ByteArray×Value)):Prop:=w.heap[b]?=some (.map (nh L 0).toArray L.length)
def yS:∀(L:List (ByteArray×Value)) (k:YR) (v:YE) (i:Nat),nh (L++[(k,v)]) i=nh L i++[{key:=.string k,val:=v,born:=i+L.length}]
 |[],k,v,i=>by simp[nh]
 |p::r,k,v,i=>by simp[nh,yS r k v (i+1)];omega
def lT(k:YR):List (ByteArray×Value)->Nat->Option (Nat×Value)
 |[],_=>none
 |p::r,i=>if k==p.1 then some (i,p.2) else lT k r (i+1)
def H8(k:YR):∀(L:List (ByteArray×Value)) (i j:Nat),Instr.findNow .string (.string k) (nh L j) i=some (lT k L i)
 |[],i,j=>rfl
 |p::r,i,j=>by
  simp only[nh,Instr.findNow,Instr.sameNow,lT];by_cases h:(k==p.1)=true
  .simp[h]
  .simp only[gI] at h;simp[h,H8 k r (i+1) (j+1)]
variable {P:T1}{w:YC}{T kT eT:UB}{b:Nat}{L:List (ByteArray×Value)}
def run_findKey(hk:P.underlying kT=some .string)(k:YR):(Instr.findKey kT (.string k) (nh L 0)).run P w=.ok (lT k L 0) w:=by simp[Instr.findKey,B7 hk,H8]
def run_checkKey(hk:P.underlying kT=some .string)(e:TG)(n:Nat)(k:YR):(Instr.checkKey e (n+1) kT (.string k)).run P w=.ok () w:=by simp[Instr.checkKey,B7 hk]
def Od(hT:P.underlying T=some (.map kT eT))(hk:P.underlying kT=some .string)(hD:dG w b L){k:YR}{i:Nat}{v:YE}(dq:lT k L 0=some (i,v)):(Instr.lookup T (.map (some b)) (.string k) false).run P w=.ok v w:=by exact Kf
def Lx(w:YC)(b:Nat)(o:Obj):({heap:=w.heap.setIfInBounds b o,tape:=w.tape,drawn:=w.drawn,os:=w.os,output:=w.output}:World)=setBlock w b o:=rfl
def nN{w:YC}{b:Nat}{es:Array MapEntry}{c:Nat}(h:w.heap[b]?=some (.map es c))(o':Obj):w.grownBy (setBlock w b o') (some b):=
 ⟨rfl,rfl,rfl,by simp[setBlock],λi _ hi=>heap_setBlock_other h _ (λe=>hi (by rw[e]))⟩
def rN(hT:P.underlying T=some (.map kT eT))(hk:P.underlying kT=some .string)(hD:dG w b L){k:YR}(dq:lT k L 0=none)(v:YE):∃w',(Instr.mapUpdate T (.map (some b)) (.string k) v).run P w=.ok () w'/\dG w' b (L++[(k,v)])/\w.grownBy w' (some b)/\w'.heap.size=w.heap.size:=by
 have sT:=hD;unfold dG at sT;refine⟨setBlock w b (.map (nh (L++[(k,v)]) 0).toArray (L.length+1)),?_,?_,nN sT _,by simp[setBlock]⟩
 .simp[Instr.mapUpdate,B7 hT,JJ sT,run_checkKey hk,run_findKey hk,dq,MZ _ sT,setBlock,yS]
 exact Ey
def Jj(hT:P.underlying T=some (.map kT eT))(hk:P.underlying kT=some .string){z:YE}(hz:∀w,(zeroValue eT).run P w=.ok z w)(hD:dG w b L){k:YR}(dq:lT k L 0=none):∃w',(Instr.mapEntry T (.map (some b)) (.string k)).run P w=.ok (.tuple #[z,.int .i64 L.length]) w'/\dG w' b (L++[(k,z)])/\w.grownBy w' (some b)/\w'.heap.size=w.heap.size:=by
 have sT:=hD;unfold dG at sT;refine⟨setBlock w b (.map (nh (L++[(k,z)]) 0).toArray (L.length+1)),?_,?_,nN sT _,by simp[setBlock]⟩
 .simp[Instr.mapEntry,B7 hT,JJ sT,run_checkKey hk,run_findKey hk,dq,hz,MZ _ sT,setBlock,yS,goInt]
 exact Ey
def wL:∀(L:List (ByteArray×Value)) (i j:Nat) (p:ByteArray×Value),L[i]?=some p->(nh L j)[i]?=some {key:=.string p.1,val:=p.2,born:=j+i}
 |[],i,j,p,h=>by simp at h
 |q::r,0,j,p,h=>by simp at h;subst h;simp[nh]
 |q::r,i+1,j,p,h=>by
  simp at h;simp[nh,wL r i (j+1) p h];omega
def yT{k:YR}:∀{L:List (ByteArray×Value)} {j i:Nat} {v:YE},lT k L j=some (i,v)->j<=i/\∃q,L[i - j]?=some q/\q.1=k/\q.2=v
 |[],j,i,v,h=>by simp[lT] at h
 |p::r,j,i,v,h=>by
  simp only[lT] at h;split at h
  .rename_i he;simp at h;obtain⟨rfl,rfl⟩:=h;exact⟨aM _,p,by simp,(by simpa using he:k=p.1).symm,rfl⟩
  .obtain⟨h1,q,h2,h3⟩:=yT h;refine⟨by omega,q,?_,h3⟩;rw[show i - j=(i - (j+1))+1 by omega];simpa using h2
def Uo{α:Type}(l:Array α)(i:Nat)(f:α->α)(h:∀x,l[i]?=some x->f x=x):l.modify i f=l:=by
 apply Rn
 intro j;rw[Zn];split
 .rename_i e;rw[<-e]
  cases hx:l[i]? with
  |none=>rfl
  |some x=>simp[h x hx]
 .rfl
def Jk(hT:P.underlying T=some (.map kT eT))(hk:P.underlying kT=some .string)(hD:dG w b L){k:YR}{i:Nat}{v:YE}(dq:lT k L 0=some (i,v)):(Instr.mapEntry T (.map (some b)) (.string k)).run P w=.ok (.tuple #[v,.int .i64 i]) w:=by
 have sT:=hD;unfold dG at sT;obtain⟨_,q,h2,rfl,rfl⟩:=yT dq;have he:=wL L i 0 q jb;simp only[fi] at he;have hm:((nh L 0).toArray.modify i λe=>{key:=.string q.1,val:=e.val,born:=e.born})=(nh L 0).toArray:=by exact Ec
 have hs:setBlock w b (.map (nh L 0).toArray L.length)=w:=by
  have bQ:=(aQ.1 sT).1;have hg:=(aQ.1 sT).2;unfold setBlock;congr 1
  apply Rn
  intro j;rw[IX];split
  .rename_i e;rw[<-e];exact sT.symm
  .rfl
 have hsb:Instr.sameBits 10000 (.string q.1) (.string q.1)=true:=by simp[Instr.sameBits]
 simp[Instr.mapEntry,B7 hT,JJ sT,run_checkKey hk,run_findKey hk,dq,MZ _ sT,Instr.keyThatStays,he,hsb,goInt];have PN:=hm;simp at PN;rw[PN,Lx,hs]
def setAt(L:List (ByteArray×Value))(i:Nat)(v:YE):List (ByteArray×Value):=L.modify i λp=>(p.1,v)
def Oe:∀(L:List (ByteArray×Value)) (i j:Nat) (v:YE),nh (setAt L i v) j=(nh L j).modify i λe=>{e with val:=v}
 |[],i,j,v=>by cases i<;>simp[setAt,nh]
 |p::r,0,j,v=>by simp[setAt,nh]
 |p::r,i+1,j,v=>by
  have:=Oe r i (j+1) v;simp only[setAt] at this;simp[setAt,nh,this]
def H9:∀(L:List (ByteArray×Value)) (i j:Nat),i < L.length->(nh L j).findIdx? (λe=>(e.born:Int)==((j+i:Nat):Int))=some i
 |[],i,j,h=>by simp at h
 |p::r,0,j,h=>by simp[nh,List.findIdx?_cons]
 |p::r,i+1,j,h=>by
  have h':i < r.length:=wJ;have ih:=H9 r i (j+1) h';have cR:(((j:Nat):Int)==((j+(i+1):Nat):Int))=false:=aH;rw[nh,List.findIdx?_cons,cR];rw[show j+(i+1)=j+1+i by omega,ih];rfl
def yU(hD:dG w b L){i:Nat}(hi:i < L.length)(v:YE):∃w',(Instr.entryStore T (.map (some b)) (.int .i64 i) v).run P w=.ok () w'/\dG w' b (setAt L i v)/\w.grownBy w' (some b)/\w'.heap.size=w.heap.size:=by
 have sT:=hD;unfold dG at sT;refine⟨setBlock w b (.map (nh (setAt L i v) 0).toArray L.length),?_,?_,nN sT _,by simp[setBlock]⟩
 .have hf:=H9 L i 0 hi;simp only[fi] at hf;simp[Instr.entryStore,JJ sT,asInt,asIntOf,hf,MZ _ sT,setBlock,Oe]
 .unfold dG;rw[heap_setBlock_same sT];simp[setAt]
section
variable {ops:Ws}{o:RZ}{a:Act}{K:Act -> World -> Prop}{Q:Exit -> Act -> World -> Prop}{E:Prop}{rest:RM}{m k v:Rj}{s:YR}{x:YE}
def PO(ho:o.op=.insert T m k v)(hm:a.eval m=.map (some b))(hkv:a.eval k=.string s)(hv:a.eval v=x)(hT:P.underlying T=some (.map kT eT))(hk:P.underlying kT=some .string)(hD:dG w b L)(dq:lT s L 0=none)(h:∀w',dG w' b (L++[(s,x)])->w.grownBy w' (some b)->w'.heap.size=w.heap.size->K (a.put o.dst undef) w'):o.wp P a w K Q:=by obtain⟨w',hr,h1,h2,h3⟩:=rN (P:=P) hT hk hD dq x;unfold Oper.wp execOp;simp[ho,hm,hkv,hv,hr];exact h w' h1 h2 h3
def aR(hg:o.guard=none)(ho:o.op=.insert T m k v)(hm:a.eval m=.map (some b))(hkv:a.eval k=.string s)(hv:a.eval v=x)(hT:P.underlying T=some (.map kT eT))(hk:P.underlying kT=some .string)(hD:dG w b L)(dq:lT s L 0=none)
  (h:∀w',dG w' b (L++[(s,x)])->w.grownBy w' (some b)->w'.heap.size=w.heap.size->wpList P ops Q rest (a.put o.dst undef) w'):wpList P ops Q (o::rest) a w:=
 MX hg λ_ hK=>PO ho hm hkv hv hT hk hD dq λw' h1 h2 h3=>hK _ _ (h w' h1 h2 h3)
def eh(hgd:o.guard=none)(h:o.wp P a w K Q):if Region.wanted o (yielded ops a.tmps)=true then Oper.wp P o a w K Q else E:=by rw[aI (by simp[Region.wanted,hgd])];exact h
end
end Go.Proofs.Bm
namespace Go.Proofs.Gm
open Go.Proofs.Tryz
open Go.RowKit Go.Maps
open Go.Proofs.Bm
variable {s:Yz}
def ajG{a b:Yz}(ha:bW a)(hb:bW b)(h:(a==b)=false):(bs a==bs b)=false:=by rw[gH] at h|-;exact λe=>h (Jh ha hb e)
def lvL:List (ByteArray×Value):=[(bs "implies",iV 0),(bs "or",iV 1),(bs "and",iV 2),(bs "=",iV 3),(bs "/=",iV 3),(bs "<",iV 3),(bs "<=",iV 3),(bs ">",iV 3),(bs ">=",iV 3),(bs "+",iV 4),(bs "-",iV 4),(bs "*",iV 5),(bs "//",iV 5),(bs "%",iV 5)]
def adT(w:YC):Calls prog 334 #[] w λe w'=>e=.returned (.map (some w.heap.size))/\dG w' w.heap.size lvL/\Kept aK w w':=by refine Gx ?_;intro Cj z0 x0;go_enter func334,ntmps334;go_wp2_with (refine aR (s:=bs "implies") (x:=.int .i64 0) rfl rfl rfl rfl rfl underlying330 underlying9 HO af ?_);intro w1 hD1 PE rG;have x1:Hid (dG w1 w.heap.size [(bs "implies",iV 0)]/\Kept aK w w1):=ah ⟨hD1,x0.out.2.grown PE cw⟩;go_wp2_with (refine aR (s:=bs "or") (x:=.int .i64 1) rfl rfl rfl rfl rfl underlying330 underlying9 HN af ?_);intro w2 hD2 Of xB;have x2:Hid (dG w2 w.heap.size [(bs "implies",iV 0),(bs "or",iV 1)]/\Kept aK w w2):=ah ⟨hD2,x1.out.2.grown Of cw⟩;go_wp2_with (refine aR (s:=bs "and") (x:=.int .i64 2) rfl rfl rfl rfl rfl underlying330 underlying9 HM af ?_);intro w3 hD3 Bk Xw;have x3:Hid (dG w3 w.heap.size [(bs "implies",iV 0),(bs "or",iV 1),(bs "and",iV 2)]/\Kept aK w w3):=ah ⟨hD3,x2.out.2.grown Bk cw⟩;go_wp2_with (refine aR (s:=bs "=") (x:=.int .i64 3) rfl rfl rfl rfl rfl underlying330 underlying9 HL af ?_);intro w4 hD4 jG Zo;have x4:Hid (dG w4 w.heap.size [(bs "implies",iV 0),(bs "or",iV 1),(bs "and",iV 2),(bs "=",iV 3)]/\Kept aK w w4):=ah ⟨hD4,x3.out.2.grown jG cw⟩;go_wp2_with (refine aR (s:=bs "/=") (x:=.int .i64 3) rfl rfl rfl rfl rfl underlying330 underlying9 HK af ?_);intro w5 hD5 ik hs5;have x5:Hid (dG w5 w.heap.size [(bs "implies",iV 0),(bs "or",iV 1),(bs "and",iV 2),(bs "=",iV 3),(bs "/=",iV 3)]/\Kept aK w w5):=ah ⟨hD5,x4.out.2.grown ik cw⟩;go_wp2_with (refine aR (s:=bs "<") (x:=.int .i64 3) rfl rfl rfl rfl rfl underlying330 underlying9 (by with_reducible exact x5.out.1) af ?_);intro w6 hD6 jQ hs6;have x6:Hid (dG w6 w.heap.size [(bs "implies",iV 0),(bs "or",iV 1),(bs "and",iV 2),(bs "=",iV 3),(bs "/=",iV 3),(bs "<",iV 3)]/\Kept aK w w6):=ah ⟨hD6,x5.out.2.grown jQ cw⟩;go_wp2_with (refine aR (s:=bs "<=") (x:=.int .i64 3) rfl rfl rfl rfl rfl underlying330 underlying9 (by with_reducible exact x6.out.1) af ?_);intro w7 hD7 hg7 hs7;have x7:Hid (dG w7 w.heap.size [(bs "implies",iV 0),(bs "or",iV 1),(bs "and",iV 2),(bs "=",iV 3),(bs "/=",iV 3),(bs "<",iV 3),(bs "<=",iV 3)]/\Kept aK w w7):=ah ⟨hD7,x6.out.2.grown hg7 cw⟩;go_wp2_with (refine aR (s:=bs ">") (x:=.int .i64 3) rfl rfl rfl rfl rfl underlying330 underlying9 (by with_reducible exact x7.out.1) af ?_);intro w8 hD8 hg8 hs8;have x8:Hid (dG w8 w.heap.size [(bs "implies",iV 0),(bs "or",iV 1),(bs "and",iV 2),(bs "=",iV 3),(bs "/=",iV 3),(bs "<",iV 3),(bs "<=",iV 3),(bs ">",iV 3)]/\Kept aK w w8):=ah ⟨hD8,x7.out.2.grown hg8 cw⟩;go_wp2_with (refine aR (s:=bs ">=") (x:=.int .i64 3) rfl rfl rfl rfl rfl underlying330 underlying9 (by with_reducible exact x8.out.1) af ?_);intro w9 hD9 hg9 hs9;have x9:Hid (dG w9 w.heap.size [(bs "implies",iV 0),(bs "or",iV 1),(bs "and",iV 2),(bs "=",iV 3),(bs "/=",iV 3),(bs "<",iV 3),(bs "<=",iV 3),(bs ">",iV 3),(bs ">=",iV 3)]/\Kept aK w w9):=ah ⟨hD9,x8.out.2.grown hg9 cw⟩;go_wp2_with (refine aR (s:=bs "+") (x:=.int .i64 4) rfl rfl rfl rfl rfl underlying330 underlying9 (by with_reducible exact x9.out.1) af ?_);intro AT apA apB akz;have xC:Hid (dG AT w.heap.size [(bs "implies",iV 0),(bs "or",iV 1),(bs "and",iV 2),(bs "=",iV 3),(bs "/=",iV 3),(bs "<",iV 3),(bs "<=",iV 3),(bs ">",iV 3),(bs ">=",iV 3),(bs "+",iV 4)]/\Kept aK w AT):=ah ⟨apA,x9.out.2.grown apB cw⟩;go_wp2_with (refine aR (s:=bs "-") (x:=.int .i64 4) rfl rfl rfl rfl rfl underlying330 underlying9 (by with_reducible exact xC.out.1) af ?_);intro xS apC apD L7;have zw:Hid (dG xS w.heap.size [(bs "implies",iV 0),(bs "or",iV 1),(bs "and",iV 2),(bs "=",iV 3),(bs "/=",iV 3),(bs "<",iV 3),(bs "<=",iV 3),(bs ">",iV 3),(bs ">=",iV 3),(bs "+",iV 4),(bs "-",iV 4)]/\Kept aK w xS):=ah ⟨apC,xC.out.2.grown apD cw⟩;go_wp2_with (refine aR (s:=bs "*") (x:=.int .i64 5) rfl rfl rfl rfl rfl underlying330 underlying9 (by with_reducible exact zw.out.1) af ?_);intro vl apE apF adn;have As:Hid (dG vl w.heap.size [(bs "implies",iV 0),(bs "or",iV 1),(bs "and",iV 2),(bs "=",iV 3),(bs "/=",iV 3),(bs "<",iV 3),(bs "<=",iV 3),(bs ">",iV 3),(bs ">=",iV 3),(bs "+",iV 4),(bs "-",iV 4),(bs "*",iV 5)]/\Kept aK w vl):=ah ⟨apE,zw.out.2.grown apF cw⟩;go_wp2_with (refine aR (s:=bs "//") (x:=.int .i64 5) rfl rfl rfl rfl rfl underlying330 underlying9 (by with_reducible exact As.out.1) af ?_);intro ND apG apH ahp;have xw:Hid (dG ND w.heap.size [(bs "implies",iV 0),(bs "or",iV 1),(bs "and",iV 2),(bs "=",iV 3),(bs "/=",iV 3),(bs "<",iV 3),(bs "<=",iV 3),(bs ">",iV 3),(bs ">=",iV 3),(bs "+",iV 4),(bs "-",iV 4),(bs "*",iV 5),(bs "//",iV 5)]/\Kept aK w ND):=ah ⟨apG,As.out.2.grown apH cw⟩;go_wp2_with (refine aR (s:=bs "%") (x:=.int .i64 5) rfl rfl rfl rfl rfl underlying330 underlying9 (by with_reducible exact xw.out.1) af ?_);intro ZY apI apJ arw;have x14:Hid (dG ZY w.heap.size [(bs "implies",iV 0),(bs "or",iV 1),(bs "and",iV 2),(bs "=",iV 3),(bs "/=",iV 3),(bs "<",iV 3),(bs "<=",iV 3),(bs ">",iV 3),(bs ">=",iV 3),(bs "+",iV 4),(bs "-",iV 4),(bs "*",iV 5),(bs "//",iV 5),(bs "%",iV 5)]/\Kept aK w ZY):=ah ⟨apI,xw.out.2.grown apJ cw⟩;go_wp2;go_ret;exact⟨rfl,x14.1,x14.2⟩
def wvL:List (ByteArray×Value):=[(bs "True",.agg #[iV 2,eS,iV 1,nS]),(bs "False",.agg #[iV 2,eS,oZ,nS]),(bs "Void",.agg #[iV 3,eS,oZ,nS]),(bs "Current",.agg #[iV 4,eS,oZ,nS]),(bs "Result",.agg #[iV 5,eS,oZ,nS])]
def akA(w:YC):Calls prog 304 #[] w λe w'=>e=.returned (.map (some w.heap.size))/\dG w' w.heap.size wvL/\Kept aK w w':=by refine Gx ?_;intro Cj z0 x0;go_enter func304,ntmps304;go_wp2_with (refine aR (s:=bs "True") (x:=.agg #[.int .i64 2,eS,.int .i64 1,nS]) rfl rfl rfl rfl rfl underlying319 underlying9 HO af ?_);intro w1 hD1 PE rG;have x1:Hid (dG w1 w.heap.size [(bs "True",.agg #[iV 2,eS,iV 1,nS])]/\Kept aK w w1):=ah ⟨hD1,x0.out.2.grown PE cw⟩;go_wp2_with (refine aR (s:=bs "False") (x:=.agg #[.int .i64 2,eS,oZ,nS]) rfl rfl rfl rfl rfl underlying319 underlying9 HN af ?_);intro w2 hD2 Of xB;have x2:Hid (dG w2 w.heap.size [(bs "True",.agg #[iV 2,eS,iV 1,nS]),(bs "False",.agg #[iV 2,eS,oZ,nS])]/\Kept aK w w2):=ah ⟨hD2,x1.out.2.grown Of cw⟩;go_wp2_with (refine aR (s:=bs "Void") (x:=.agg #[.int .i64 3,eS,oZ,nS]) rfl rfl rfl rfl rfl underlying319 underlying9 HM af ?_);intro w3 hD3 Bk Xw;have x3:Hid (dG w3 w.heap.size [(bs "True",.agg #[iV 2,eS,iV 1,nS]),(bs "False",.agg #[iV 2,eS,oZ,nS]),(bs "Void",.agg #[iV 3,eS,oZ,nS])]/\Kept aK w w3):=ah ⟨hD3,x2.out.2.grown Bk cw⟩;go_wp2_with (refine aR (s:=bs "Current") (x:=.agg #[.int .i64 4,eS,oZ,nS]) rfl rfl rfl rfl rfl underlying319 underlying9 HL af ?_);intro w4 hD4 jG Zo;have x4:Hid (dG w4 w.heap.size [(bs "True",.agg #[iV 2,eS,iV 1,nS]),(bs "False",.agg #[iV 2,eS,oZ,nS]),(bs "Void",.agg #[iV 3,eS,oZ,nS]),(bs "Current",.agg #[iV 4,eS,oZ,nS])]/\Kept aK w w4):=ah ⟨hD4,x3.out.2.grown jG cw⟩;go_wp2_with (refine aR (s:=bs "Result") (x:=.agg #[.int .i64 5,eS,oZ,nS]) rfl rfl rfl rfl rfl underlying319 underlying9 HK af ?_);intro w5 hD5 ik hs5;have x5:Hid (dG w5 w.heap.size [(bs "True",.agg #[iV 2,eS,iV 1,nS]),(bs "False",.agg #[iV 2,eS,oZ,nS]),(bs "Void",.agg #[iV 3,eS,oZ,nS]),(bs "Current",.agg #[iV 4,eS,oZ,nS]),(bs "Result",.agg #[iV 5,eS,oZ,nS])]/\Kept aK w w5):=ah ⟨hD5,x4.out.2.grown ik cw⟩;go_wp2;go_ret;exact⟨rfl,x5.1,x5.2⟩
section
variable {P:T1}{w:YC}{T kT eT:UB}{b:Nat}{L:List (ByteArray×Value)}
def gY(hT:P.underlying T=some (.map kT eT))(hk:P.underlying kT=some .string)(hD:dG w b L){k:YR}{i:Nat}{v:YE}(dq:lT k L 0=some (i,v)):(Instr.lookup T (.map (some b)) (.string k) true).run P w=.ok (.tuple #[v,true]) w:=by exact Kf
def gE(hT:P.underlying T=some (.map kT eT))(hk:P.underlying kT=some .string)(hD:dG w b L){z:YE}(hz:∀w,(zeroValue eT).run P w=.ok z w){k:YR}(dq:lT k L 0=none):(Instr.lookup T (.map (some b)) (.string k) true).run P w=.ok (.tuple #[z,false]) w:=by unfold dG at hD;simp[Instr.lookup,B7 hT,JJ hD,run_checkKey hk,run_findKey hk,dq,hz]
end
def aV(h:(s.all λc=>decide (c < 256))=true):bW s:=λc hc=>by simpa using dV.1 h c hc
def ahJ(hs:bW s){n:Nat}(h:Bq s=some n):∃i,lT (bs s) lvL 0=some (i,.int .i64 n):=by
 unfold Bq at h;split at h
 .exact ug
 split at h
 .exact ug
 split at h
 .exact ug
 split at h
 .rename_i e
  cases h;simp only[j5,dU] at e;rcases e with((((e|e)|e)|e)|e)|e;all_goals (subst e;exact⟨_,rfl⟩)
 split at h
 .rename_i e
  cases h;simp only[j5,dU] at e;rcases e with e|e;all_goals (subst e;exact⟨_,rfl⟩)
 split at h
 .rename_i e
  cases h;simp only[j5,dU] at e;rcases e with(e|e)|e;all_goals (subst e;exact⟨_,rfl⟩)
 cases h
def ahK(hs:bW s)(h:Bq s=none):lT (bs s) lvL 0=none:=by
 unfold Bq at h;repeat (first|(split at h; · cases h))
 rename_i h1 h2 h3 h4 h5 h6;simp only[j5,dU,rV,gI] at h1 h2 h3 h4 h5 h6;have ne:∀k:List Nat,bW k->s≠k->(bs s==bs k)=false:=λk hk e=>ajG hs hk (gH.2 e);unfold lvL;simp only[lT];simp only[ne "implies" (aV aj) h1,ne "or" (aV aj) h2,ne "and" (aV aj) h3,ne "=" (aV aj) h4.1.1.1.1.1,ne "/=" (aV aj) h4.1.1.1.1.2,ne "<" (aV aj) h4.1.1.1.2,ne "<=" (aV aj) h4.1.1.2,ne ">" (aV aj) h4.1.2,ne ">=" (aV aj) h4.2,ne "+" (aV aj) h5.1,ne "-" (aV aj) h5.2,ne "*" (aV aj) h6.1.1,ne "//" (aV aj) h6.1.2,ne "%" (aV aj) h6.2,rW,qE]
def adU(w:YC):(zeroValue 3).run prog w=.ok (iV 0) w:=by kernel_rfl
def F0(w:YC):(zeroValue 181).run prog w=.ok (.agg #[oZ,eS,oZ,nS]) w:=by kernel_rfl
end Go.Proofs.Gm
namespace Go.Proofs
open Go.Proofs.Tryz
open Go.Shelf
def Tryz.LG:Go.Shelf.Ren:=⟨fun|156=>84|165=>124|166=>125|169=>126|240=>208|241=>209|276=>267|277=>268|n=>n,fun|31=>22|9=>9|3=>3|4=>4|0=>0|20=>20|72=>210|76=>214|70=>208|37=>152|75=>213|127=>258|164=>292|5=>5|80=>216|n=>n,fun|n=>n⟩
def Tryz.ahO:Go.Proofs.Lays.n156 prog Tryz.LG:=by repeat' first|(intros;kernel_rfl)|decide|constructor
def Tryz.Ib:Builder.Extra prog Tryz.LG:=by repeat' first|(intros;kernel_rfl)|decide|constructor
open Go.RowKit in
def Tryz.strings_Join(bk o c:Nat)(xs:List ByteArray)(sep:YR)(w:YC)(akB:∀(j:Nat) x,xs[j]?=some x->w.cell? ⟨bk,o+j,none⟩=some (.string x))(M6:bk < w.heap.size)(hN:xs.length<=140737488355328)(oG:xs.length<=c)(hlen:(Lib.join (xs.map (·.data.toList)) sep.data.toList).length<=140737488355328):
  Calls prog 84 #[.slice (some ⟨bk,o,none⟩) xs.length c,.string sep] w λe w'=>e=.returned (.string ⟨(Lib.join (xs.map (·.data.toList)) sep.data.toList).toArray⟩)/\Below w.heap.size w w':=Any.strings_Join Tryz.ahO Tryz.Ib bk o c xs sep w akB M6 hN oG hlen
def Tryz.Sl:Go.Shelf.Ren:=⟨fun|171=>83|243=>123|246=>207|283=>263|284=>264|285=>265|286=>266|129=>290|317=>289|318=>291|319=>292|320=>293|337=>316|338=>317|n=>n,fun|3=>3|9=>9|2=>2|4=>4|171=>286|0=>0|53=>287|37=>152|5=>5|173=>290|212=>306|51=>307|20=>20|213=>308|46=>309|232=>332|233=>333|n=>n,fun|17=>0|18=>2|19=>3|n=>n⟩
def Tryz.ad4:Go.Proofs.LaysM.n171 prog Tryz.Sl:=by repeat' first|(intros;kernel_rfl)|decide|constructor
open Go.RowKit Go.Sort Go.Lib in
def Tryz.US:Go.Shelf.Ren:=⟨fun|138=>224|195=>273|218=>274|143=>275|219=>303|217=>326|225=>327|224=>328|267=>329|266=>343|314=>344|n=>n,fun|9=>9|3=>3|4=>4|5=>5|0=>0|46=>309|146=>335|51=>307|n=>n,fun|1=>1|n=>n⟩
def Tryz.ahP:Go.Proofs.Lays.n138 prog Tryz.US:=by repeat' first|(intros;kernel_rfl)|decide|constructor
open Go.RowKit Go.Lib in
def Tryz.strings_Count_one(s:YR)(c:UInt8)(w:YC):
  Calls prog 224 #[.string s,.string ⟨#[c]⟩] w λe w'=>e=.returned (.int .i64 (Lib.countByte s.data.toList c))/\w'=w:=Any.strings_Count_one Tryz.ahP s c w
def Tryz.UT:Go.Shelf.Ren:=⟨fun|149=>225|222=>276|n=>n,fun|9=>9|5=>5|3=>3|4=>4|n=>n,fun|n=>n⟩
def Tryz.ahQ:Go.Proofs.Lays.n149 prog Tryz.UT:=by repeat' first|(intros;kernel_rfl)|decide|constructor
open Go.RowKit Go.Lib in
def Tryz.strings_LastIndexByte(s:YR)(c:Int)(hs:s.size < 4611686018427387904)(w:YC):
  Calls prog 225 #[.string s,.int .u8 c] w λe w'=>e=.returned (.int .i64 (Lib.lastIndexByte s c))/\w'=w:=Any.strings_LastIndexByte Tryz.ahQ s c hs w
def Tryz.XI:Go.Shelf.Ren:=⟨fun|99=>297|206=>319|n=>n,fun|9=>9|4=>4|3=>3|n=>n,fun|n=>n⟩
def Tryz.akC:Go.Proofs.Lays.n99 prog Tryz.XI:=by repeat' first|(intros;kernel_rfl)|decide|constructor
open Go.RowKit Go.Lib in
def Tryz.strings_HasPrefix(s p:YR)(w:YC):
  Calls prog 297 #[.string s,.string p] w λe w'=>e=.returned (.bool (Lib.hasPrefix s.data.toList p.data.toList))/\w'=w:=Any.strings_HasPrefix Tryz.akC s p w
def Tryz.UU:Go.Shelf.Ren:=⟨fun|146=>222|221=>272|268=>302|138=>224|143=>275|195=>273|197=>325|218=>274|219=>303|260=>342|217=>326|225=>327|224=>328|267=>329|266=>343|314=>344|n=>n,fun|9=>9|31=>22|3=>3|4=>4|0=>0|105=>327|21=>21|5=>5|46=>309|119=>337|139=>340|138=>339|146=>335|51=>307|n=>n,fun|1=>1|3=>4|4=>5|n=>n⟩
def Tryz.ahR:Go.Proofs.Lays.n146 prog Tryz.UU:=by repeat' first|(intros;kernel_rfl)|decide|constructor
open Go.RowKit Go.Lib in
def Tryz.strings_Split(s sep:YR)(m:Int)(w:YC)(hs:s.size < 4294967281)(hm:w.cell? ⟨1,0,none⟩=some (.int .i64 m))(h1:1<=sep.size):
  Calls prog 222 #[.string s,.string sep] w λe w'=>e=.returned (.slice (some ⟨w,0,none⟩) (Lib.countB s sep+1) (Lib.countB s sep+1))/\w'=w.alloc (.cells ((Lib.splitB sep 0 (Lib.countB s sep) s).map Value.string).toArray 9):=Any.strings_Split Tryz.ahR af s sep m w hs hm h1
def Tryz.UW:Go.Shelf.Ren:=⟨fun|157=>346|229=>347|199=>348|261=>349|311=>350|312=>351|n=>n,fun|9=>9|31=>22|3=>3|5=>5|4=>4|119=>337|0=>0|40=>314|152=>342|21=>21|154=>344|51=>307|141=>346|196=>350|193=>347|198=>353|49=>351|194=>348|201=>356|226=>358|46=>309|227=>359|n=>n,fun|0=>6|6=>7|n=>n⟩
def Tryz.ahS:Go.Proofs.Lays.n157 prog Tryz.UW:=by repeat' first|(intros;kernel_rfl)|decide|constructor
open Go.RowKit Go.Lib in
def Tryz.strings_Fields(s:YR)(w:YC)(hs:s.size < 4294967281)(akD:∀(j:Nat) b,s.data.toList[j]?=some b->b.toNat < 128)(apN:Lib.TabIs prog w "strings.asciiSpace" .u8 Lib.asciiSpaceTab):
  Calls prog 346 #[.string s] w λe w'=>e=.returned (.slice (some ⟨w,0,none⟩) (Lib.fields s.data.toList).length (Lib.fields s.data.toList).length)/\w'=w.alloc (.cells ((Lib.fields s.data.toList).map λl=>Value.string ⟨l.toArray⟩).toArray 9):=Any.strings_Fields Tryz.ahS af af s w hs akD apN
def Tryz.UX:Go.Shelf.Ren:=⟨fun|110=>62|109=>89|n=>n,fun|31=>22|9=>9|4=>4|3=>3|0=>0|n=>n,fun|n=>n⟩
def Tryz.ZZ:Go.Proofs.Lays.n110 prog Tryz.UX:=by repeat' first|(intros;kernel_rfl)|decide|constructor
open Go.Lib in
def Tryz.slices_Contains_string(b off n c:Nat)(zs:List ByteArray)(x:YR)(w:YC)(hz:n<=zs.length)(Py:n<=9223372036854775807)(hc:∀j,j < zs.length->w.cell? ⟨b,off+j,none⟩=some (.string (zs.getD j ByteArray.empty))):
  Calls prog 62 #[.slice (some ⟨b,off,none⟩) n c,.string x] w λe w'=>e=.returned (.bool (Lib.containsS (zs.take n) x))/\w'=w:=Any.slices_Contains_string Tryz.ZZ b off n c zs x w hz Py hc
open Go.Lib in
def Tryz.slices_Contains_string_empty(a:YS)(c:Nat)(x:YR)(w:YC):
  Calls prog 62 #[.slice a 0 c,.string x] w λe w'=>e=.returned (.bool false)/\w'=w:=Any.slices_Contains_string_empty Tryz.ZZ a c x w
def Tryz.PT:Go.Shelf.Ren:=⟨fun|16=>237|n=>n,fun|24=>22|9=>9|4=>4|n=>n,fun|n=>n⟩
def Tryz.abB:Go.Proofs.Lays2.n16 prog Tryz.PT:=by repeat' first|(intros;kernel_rfl)|decide|constructor
open Go.RowKit Go.Lib in
def Tryz.slices_Clone_string(b off n c:Nat)(zs:List ByteArray)(w:YC)(hz:n<=zs.length)(Py:n*16<=140737488355328)(hc:∀j,j < zs.length->w.cell? ⟨b,off+j,none⟩=some (.string (zs.getD j ByteArray.empty))):
  Calls prog 237 #[.slice (some ⟨b,off,none⟩) n c] w λe w'=>∃v',e=.returned v'/\w'.ownsRow w.heap.size 9 1 v' n ((zs.take n).map (Value.string))/\v'≠ .slice none 0 0/\Below w.heap.size w w':=Any.slices_Clone_string Tryz.abB b off n c zs w hz Py hc
end Go.Proofs
namespace Go.Proofs.Gm
variable {S:Wq}{cs:YT}{k m:Int}{nm t:Yz}{v:YE}{d n:Nat}{rows kids args:Zg}{s:TG}
def fG(g:Row->Option Nat):Nat->List Row->Option Nat
 |n,[]=>some n
 |n,x::xs=>(g x).bind λd=>fG g (max n d) xs
def By:Nat->Row->Option Nat
 |0,_=>none
 |f+1,[.int _,.str _,.sl args,.bool _,.bool _]=>(fG (By f) 0 args).bind λn=>some (n+1)
 |_+1,_=>none
def Bz:Nat->Row->Option Nat
 |0,_=>none
 |f+1,[.int _,.str _,.int _,.sl kids]=>(fG (Bz f) 0 kids).bind λn=>some (n+1)
 |_+1,_=>none
def Pq(f:Nat):Row->Option Nat
 |.str _::x=>Bz f x
 |_=>none
def BO:Nat->Row->Option Nat
 |0,_=>none
 |f+1,[.int _,.str _,.int _,.sl es,.sl tags,.sl i,.sl b,.sl e]=>
  (fG (Pq f) 0 tags).bind λd1=>(fG (BO f) 0 i).bind λd2=>(fG (BO f) 0 b).bind λd3=>(fG (BO f) 0 e).bind λd4=>
  (fG (Bz f) (max (max (max d1 d2) d3) d4) es).bind λn=>some (n+1)
 |_+1,_=>none
def avf(f:Nat):Row->Option Nat
 |.str _::t=>By f t
 |_=>none
def dPa(n:Nat):List Row->Option Nat
 |[]=>some n
 |[.str _,.sl [],.sl _,.sl _,.sl _,.sl _]::xs=>dPa n xs
 |_::_=>none
def aia(f:Nat)(n:Nat):Row->Option Nat
 |[.int _,.str _,.sl _,.sl UH,tk,tn,ta,tv,ts,.sl lo,.sl rq,.sl en,.sl b,.sl rb,.bool _]=>
  (By f [tk,tn,ta,tv,ts]).bind λd1=>(fG (Pq f) 0 rq).bind λd2=>(fG (Pq f) 0 en).bind λd3=>(fG (BO f) 0 b).bind λd4=>(fG (BO f) 0 rb).bind λd5=>
  if UH.length+lo.length<=1000 then fG (avf f) (max (max (max (max (max n d1) d2) d3) d4) d5) (UH++lo) else none
 |_=>none
def dFe(f:Nat)(n:Nat):List Row->Option Nat
 |[]=>some n
 |x::xs=>(aia f n x).bind λm=>dFe f m xs
def Ou(f:Nat):Row->Option Nat
 |[.str _,.bool _,.sl _,.sl pa,.sl _,.sl fe,.sl iv]=>(fG (Pq f) 0 iv).bind λn=>(dPa n pa).bind λn=>dFe f n fe
 |_=>none
open Go.Proofs.Tryz
open Go.RowKit Go.Maps
open Go.Proofs.Bm
def aP.aG{w:YC}{t:T}{row:Row}(h:aP S w (t::row) cs):∃c NY,cs=c::NY/\an S w t c/\aP S w row NY:=by
 cases cs with
 |nil=>exact absurd h.1 ai
 |cons c cs=>exact⟨c,cs,rfl,h.head,h.tail⟩
def aP.jO{w:YC}(h:aP S w [] cs):cs=[]:=by
 cases cs with
 |nil=>rfl
 |cons c cs=>exact absurd h.1 ai
def an.fu{w:YC}{n:Int}(h:an S w (.int n) v):v=iV n:=by cases h;rfl
def an.bq{w:YC}{s:Yz}(h:an S w (.str s) v):v=.string (bs s):=by cases h;rfl
def an.iA{w:YC}{b:TG}(h:an S w (.bool b) v):v=.bool b:=by cases h;rfl
def an.aU{w:YC}(h:an S w (.sl rows) v):∃a c,v=sV a rows.length c/\rows.length<=maxLen:=by
 cases h with
 |nil=>exact⟨none,0,rfl,by simp⟩
 |sl _ g off cap wd c hS hg oG hm hw hc hv=>exact⟨_,_,rfl,cn oG hm⟩
def an.elem{w:YC}{a:YS}{m c:Nat}(h:an S w (.sl rows) (sV a m c)){k:Nat}{row:Row}(hk:rows[k]?=some row):∃g off,a=some ⟨g,off,none⟩/\S g/\∃cs,aP S w row cs/\∀j u,cs[j]?=some u->w.cell? ⟨g,off+k*row.length+j,none⟩=some u:=by
 cases h with
 |nil=>simp at hk
 |sl _ g off _ wd cc hS hg oG hm hw hc hv=>
  have hl:=hw row (cm hk);refine⟨g,off,rfl,hS,(List.range row.length).map (cc k),⟨by simp,λj t u h1 h2=>?_⟩,λj u hj=>?_⟩
  .have hj:=(dk.1 h1).1;simp[hj] at h2;subst h2;exact hv k j row t hk h1
  .have WA:j < row.length:=by have:=(dk.1 hj).1;simpa using this
   simp[WA] at hj;subst hj;have:=hc k j row _ hk (ck WA);rwa[<-hl,<-xP] at this
def Mw{g:Row->Option Nat}{B:Nat}(hg:∀r n,g r=some n->n<=B):∀{n:Nat} {l:Zg} {N:Nat},n<=B->fG g n l=some N->N<=B
 |n,[],N,hn,h=>by cases h;exact hn
 |n,x::xs,N,hn,h=>by
  obtain⟨d,hd,h2⟩:=aw.1 h;exact Mw hg (by have:=hg x d hd;omega) h2
def yW:∀{f:Nat} {row:Row} {n:Nat},Bz f row=some n->n<=f
 |0,_,_,h=>by cases h
 |f+1,row,n,h=>by
  unfold Bz at h;split at h
  .cases h
  .rename_i e;cases e;obtain⟨d,hd,h2⟩:=aw.1 h
   cases h2;have:=Mw (B:=f) (λr n=>yW) (dE _) hd;omega
  .cases h
def Bn:∀{f:Nat} {row:Row} {n:Nat},By f row=some n->n<=f
 |0,_,_,h=>by cases h
 |f+1,row,n,h=>by
  unfold By at h;split at h
  .cases h
  .rename_i e;cases e;obtain⟨d,hd,h2⟩:=aw.1 h
   cases h2;have:=Mw (B:=f) (λr n=>Bn) (dE _) hd;omega
  .cases h
def aP.Ov{w:YC}(h:aP S w [k,nm,m,kids] cs):∃a c,cs=[.int .i64 k,.string (bs nm),.int .i64 m,.slice a kids.length c]/\an S w (.sl kids) (.slice a kids.length c)/\kids.length<=maxLen:=by obtain⟨c0,Ap,rfl,v0,h0⟩:=h.aG;obtain⟨c1,U6,rfl,v1,h1⟩:=h0.aG;obtain⟨c2,T3,rfl,v2,h2⟩:=h1.aG;obtain⟨c3,Sx,rfl,v3,h3⟩:=h2.aG;obtain⟨a,cap,rfl,hl⟩:=v3.aU;exact⟨a,cap,by rw[v0.fu,v1.bq,v2.fu,h3.jO],v3,hl⟩
def aP.Ow{w:YC}{v:TG}(h:aP S w [k,nm,args,v,s] cs):∃a c,cs=[.int .i64 k,.string (bs nm),.slice a args.length c,.bool v,.bool s]/\an S w (.sl args) (.slice a args.length c)/\args.length<=maxLen:=by obtain⟨c0,Ap,rfl,v0,h0⟩:=h.aG;obtain⟨c1,U6,rfl,v1,h1⟩:=h0.aG;obtain⟨c2,T3,rfl,v2,h2⟩:=h1.aG;obtain⟨c3,Sx,rfl,v3,h3⟩:=h2.aG;obtain⟨c4,cs4,rfl,v4,h4⟩:=h3.aG;obtain⟨a,cap,rfl,hl⟩:=v2.aU;exact⟨a,cap,by rw[v0.fu,v1.bq,v3.iA,v4.iA,h4.jO],v2,hl⟩
def qS(w:YC)(g:Row->Option Nat)(rows:Zg)(N B gg:Nat)(s3 s9:YE)(wr:YC):Prop:=
 ∃k n:Nat,s9=iV k/\s3=iV n/\k+gg=rows.length/\fG g n (rows.drop k)=some N/\Kept aK w wr/\n<=B
def iB{g:Row->Option Nat}{k N:Nat}(h:fG g n (rows.drop k)=some N)(hk:k < rows.length):∃row d,rows[k]?=some row/\g row=some d/\fG g (max n d) (rows.drop (k+1))=some N:=by exact DK
abbrev zY(fn:Nat)(g:Row->Option Nat):Prop:=∀{S:Wq} {w:YC} {rows:Zg} {N:Nat} {v:YE},fG g 0 rows=some N->an S w (.sl rows) v->Calls prog fn #[v] w λe w'=>e=.returned (iV N)/\Kept aK w w'
abbrev zZ(fn:Nat)(g:Row->Option Nat):Prop:=∀{S:Wq} {w:YC} {row:Row} {n:Nat} {cs:YT},g row=some n->aP S w row cs->Calls prog fn #[.agg cs.toArray] w λe w'=>e=.returned (iV n)/\Kept aK w w'
def mo{f:Nat}{row:Row}(h:Bz f row=some d):∃k nm m kids,row=[.int k,.str nm,.int m,.sl kids]:=by
 cases f with
 |zero=>cases h
 |succ f=>
  unfold Bz at h;split at h
  .cases h
  .exact⟨_,_,_,_,rfl⟩
  .cases h
def lf{f:Nat}{row:Row}(h:By f row=some d):∃k nm args v s,row=[.int k,.str nm,.sl args,.bool v,.bool s]:=by
 cases f with
 |zero=>cases h
 |succ f=>
  unfold By at h;split at h
  .cases h
  .exact⟨_,_,_,_,_,rfl⟩
  .cases h
def Jq{f:Nat}{row:Row}(h:Pq f row=some d):∃t k nm m kids,row=[.str t,.int k,.str nm,.int m,.sl kids]:=by
 unfold Pq at h;split at h
 .obtain⟨k,nm,m,kids,rfl⟩:=mo h;exact⟨_,_,_,_,_,rfl⟩
 .cases h
def zA{f:Nat}{row:Row}(h:avf f row=some d):∃t k nm args v s,row=[.str t,.int k,.str nm,.sl args,.bool v,.bool s]:=by
 unfold avf at h;split at h
 .obtain⟨k,nm,m,kids,x,rfl⟩:=lf h;exact⟨_,_,_,_,_,_,rfl⟩
 .cases h
def yF{f:Nat}{row:Row}(h:Pq f row=some n):n<=f:=by
 unfold Pq at h;split at h
 .exact yW h
 .cases h
def Sy{f:Nat}{row:Row}(h:avf f row=some n):n<=f:=by
 unfold avf at h;split at h
 .exact Bn h
 .cases h
def aP.zB{w:YC}(h:aP S w [k,nm,m,kids] cs):∃a n c,cs=[.int .i64 k,.string (bs nm),.int .i64 m,.slice a n c]:=by obtain⟨a,c,rfl,_,_⟩:=h.Ov;exact⟨_,_,_,rfl⟩
def aP.Ih{w:YC}{v:TG}(h:aP S w [k,nm,args,v,s] cs):∃a n c,cs=[.int .i64 k,.string (bs nm),.slice a n c,.bool v,.bool s]:=by obtain⟨a,c,rfl,_,_⟩:=h.Ow;exact⟨_,_,_,rfl⟩
def aP.Mx{w:YC}(h:aP S w [t,k,nm,m,kids] cs):∃a n c,cs=[.string (bs t),.int .i64 k,.string (bs nm),.int .i64 m,.slice a n c]:=by obtain⟨c0,Ap,rfl,v0,h0⟩:=h.aG;obtain⟨a,n,c,rfl⟩:=h0.zB;exact⟨a,n,c,by rw[v0.bq]⟩
def aP.My{w:YC}{v:TG}(h:aP S w [t,k,nm,args,v,s] cs):∃a n c,cs=[.string (bs t),.int .i64 k,.string (bs nm),.slice a n c,.bool v,.bool s]:=by obtain⟨c0,Ap,rfl,v0,h0⟩:=h.aG;obtain⟨a,n,c,rfl⟩:=h0.Ih;exact⟨a,n,c,by rw[v0.bq]⟩
def aeO{f:Nat}(hf:f < 6000)(ih:zZ 280 (Bz f)):zZ 280 (Bz (f+1)):=by
 intro S w row N1 cs hd hR;have hle:∀r n,Bz f r=some n->n<=6000:=λr n h=>cn (yW h) (by omega);have hN:=yW hd;obtain⟨k0,n0,m0,rows,rfl⟩:=mo hd;obtain⟨N,hm,h2⟩:=aw.1 (show(fG (Bz f) 0 rows).bind (λn=>some (n+1))=some N1 from hd)
 cases h2;obtain⟨a,cap,rfl,v3,gF⟩:=hR.Ov;revert hm v3;refine ct ?_;intro hm v3;go_enter func280,ntmps280;go_wp2_with fail;go_loopg [3,9] rows.length (λgg s3 s9 wr=>qS w (Bz f) rows N 6000 gg s3 s9 wr)
 case atStart=>exact⟨0,0,rfl,rfl,by omega,by simpa using hm.out,((Kept.refl aK w).alloc _),dE _⟩
 case round=>
  obtain⟨j,n,rfl,rfl,zC,cg,hK,hn⟩:=hrel;have lC:rows.length<=9223372036854775807:=gF;by_cases hj:j < rows.length
  .obtain⟨row,d,aL,lG,fy⟩:=iB cg hj;obtain⟨g,off,rfl,-,NY,hR,fY⟩:=v3.out.elem aL;have SH:=hle _ _ lG;obtain⟨kk,kn,km,kd,rfl⟩:=mo lG;obtain⟨a',m',c',rfl⟩:=hR.zB;have de:∀{i u},w.cell? ⟨g,i,none⟩=some u->wr.cell? ⟨g,i,none⟩=some u:=λh=>(hK.cell (cA w _ h) (λe=>e)).trans h;obtain⟨q0,q1,q2,q3,-⟩:=hc (o:=off+j*4) λk _ e=>de (fY k _ e);have jS:(j:Int) < (rows.length:Int):=by omega
   have sQ:(0:Int)<=(j:Int):=by omega
   revert hK fy aL lG hR;refine nx ?_;intro hK fy aL lG hR;go_wp2_with fail;have gu:=hK.alloc (cO #[kk,kn,km,sV a' m' c'] 181);refine bD (ih lG (hR.kept gu (λ_ _ _ e=>e))) λw1 K1=>?_;have xq:=ah (gu.trans' K1);by_cases Ij:n < d
   .have BA:max n d=d:=by omega
    rw[BA] at fy;go_wp2_with fail;go_roundg (gk - 1)
    case measure=>omega
    case rel=>exact⟨j+1,d,asc,asc,by omega,fy,xq,by omega⟩
   .have BA:max n d=n:=by omega
    rw[BA] at fy;go_wp2_with fail;go_roundg (gk - 1)
    case measure=>omega
    case rel=>exact⟨j+1,n,asc,asc,by omega,fy,xq,by omega⟩
  .have QB:j=rows.length:=by omega
   rw[sL (by omega)] at cg
   cases cg;have jS:¬((j:Int) < (rows.length:Int)):=by omega
   replace hK:=ah hK;go_wp2_with fail
   first|go_ret|(refine A4 (rB rfl _ _ _) rfl ?_)
   exact⟨rfl,hK⟩
def aeP{f:Nat}(hf:f < 6000)(ih:zZ 248 (By f)):zZ 248 (By (f+1)):=by
 intro S w row N1 cs hd hR;have hle:∀r n,By f r=some n->n<=6000:=λr n h=>cn (Bn h) (by omega);have hN:=Bn hd;obtain⟨k0,n0,rows,v0,s0,rfl⟩:=lf hd;obtain⟨N,hm,h2⟩:=aw.1 (show(fG (By f) 0 rows).bind (λn=>some (n+1))=some N1 from hd)
 cases h2;obtain⟨a,cap,rfl,v3,gF⟩:=hR.Ow;revert hm v3;refine ct ?_;intro hm v3;go_enter func248,ntmps248;go_wp2_with fail;go_loopg [3,9] rows.length (λgg s3 s9 wr=>qS w (By f) rows N 6000 gg s3 s9 wr)
 case atStart=>exact⟨0,0,rfl,rfl,by omega,by simpa using hm.out,((Kept.refl aK w).alloc _),dE _⟩
 case round=>
  obtain⟨j,n,rfl,rfl,zC,cg,hK,hn⟩:=hrel;have lC:rows.length<=9223372036854775807:=gF;by_cases hj:j < rows.length
  .obtain⟨row,d,aL,lG,fy⟩:=iB cg hj;obtain⟨g,off,rfl,-,NY,hR,fY⟩:=v3.out.elem aL;have SH:=hle _ _ lG;obtain⟨kk,kn,kd,kv,ks,rfl⟩:=lf lG;obtain⟨a',m',c',rfl⟩:=hR.Ih;have de:∀{i u},w.cell? ⟨g,i,none⟩=some u->wr.cell? ⟨g,i,none⟩=some u:=λh=>(hK.cell (cA w _ h) (λe=>e)).trans h;obtain⟨q0,q1,q2,q3,q4,-⟩:=hc (o:=off+j*5) λk _ e=>de (fY k _ e);have jS:(j:Int) < (rows.length:Int):=by omega
   have sQ:(0:Int)<=(j:Int):=by omega
   revert hK fy aL lG hR;refine nx ?_;intro hK fy aL lG hR;go_wp2_with fail;have gu:=hK.alloc (cO #[kk,kn,sV a' m' c',kv,ks] 146);refine bD (ih lG (hR.kept gu (λ_ _ _ e=>e))) λw1 K1=>?_;have xq:=ah (gu.trans' K1);by_cases Ij:n < d
   .have BA:max n d=d:=by omega
    rw[BA] at fy;go_wp2_with fail;go_roundg (gk - 1)
    case measure=>omega
    case rel=>exact⟨j+1,d,asc,asc,by omega,fy,xq,by omega⟩
   .have BA:max n d=n:=by omega
    rw[BA] at fy;go_wp2_with fail;go_roundg (gk - 1)
    case measure=>omega
    case rel=>exact⟨j+1,n,asc,asc,by omega,fy,xq,by omega⟩
  .have QB:j=rows.length:=by omega
   rw[sL (by omega)] at cg
   cases cg;have jS:¬((j:Int) < (rows.length:Int)):=by omega
   replace hK:=ah hK;go_wp2_with fail
   first|go_ret|(refine A4 (rB rfl _ _ _) rfl ?_)
   exact⟨rfl,hK⟩
def zD:∀f≤6000,zZ 280 (Bz f)
 |0,_=>λh _=>by cases h
 |f+1,hf=>aeO (by omega) (zD f (by omega))
def SJ:∀f≤6000,zZ 248 (By f)
 |0,_=>λh _=>by cases h
 |f+1,hf=>aeP (by omega) (SJ f (by omega))
def SK{f:Nat}(hf:f<=6000)(ih:zZ 280 (Bz f)):zY 247 (Pq f):=by
 intro S w rows N v hm v3;have hle:∀r n,Pq f r=some n->n<=6000:=λr n h=>cn (yF h) hf;obtain⟨a,cap,rfl,gF⟩:=v3.aU;revert hm v3;refine ct ?_;intro hm v3;go_enter func247,ntmps247;go_wp2_with fail;go_loopg [3,8] rows.length (λgg s3 s8 wr=>qS w (Pq f) rows N 6000 gg s3 s8 wr)
 case atStart=>exact⟨0,0,rfl,rfl,by omega,by simpa using hm.out,(Kept.refl aK w),dE _⟩
 case round=>
  obtain⟨j,n,rfl,rfl,zC,cg,hK,hn⟩:=hrel;have lC:rows.length<=9223372036854775807:=gF;by_cases hj:j < rows.length
  .obtain⟨row,d,aL,lG,fy⟩:=iB cg hj;obtain⟨g,off,rfl,-,NY,hR,fY⟩:=v3.out.elem aL;have SH:=hle _ _ lG;obtain⟨kt,kk,kn,km,kd,rfl⟩:=Jq lG;obtain⟨a',m',c',rfl⟩:=hR.Mx;have de:∀{i u},w.cell? ⟨g,i,none⟩=some u->wr.cell? ⟨g,i,none⟩=some u:=λh=>(hK.cell (cA w _ h) (λe=>e)).trans h;obtain⟨q0,q1,q2,q3,q4,-⟩:=hc (o:=off+j*5) λk _ e=>de (fY k _ e);have jS:(j:Int) < (rows.length:Int):=by omega
   have sQ:(0:Int)<=(j:Int):=by omega
   revert hK fy aL lG hR;refine nx ?_;intro hK fy aL lG hR;go_wp2_with fail;have gu:=hK.alloc (cO #[kt,kk,kn,km,sV a' m' c'] 183);refine bD (ih lG (hR.kept gu (λ_ _ _ e=>e)).tail) λw1 K1=>?_;have xq:=ah (gu.trans' K1);by_cases Ij:n < d
   .have BA:max n d=d:=by omega
    rw[BA] at fy;go_wp2_with fail;go_roundg (gk - 1)
    case measure=>omega
    case rel=>exact⟨j+1,d,asc,asc,by omega,fy,xq,by omega⟩
   .have BA:max n d=n:=by omega
    rw[BA] at fy;go_wp2_with fail;go_roundg (gk - 1)
    case measure=>omega
    case rel=>exact⟨j+1,n,asc,asc,by omega,fy,xq,by omega⟩
  .have QB:j=rows.length:=by omega
   rw[sL (by omega)] at cg
   cases cg;have jS:¬((j:Int) < (rows.length:Int)):=by omega
   replace hK:=ah hK;go_wp2_with fail
   first|go_ret|(refine A4 (rB rfl _ _ _) rfl ?_)
   exact⟨rfl,hK⟩
def Iq(n:Nat)(w:YC):Calls prog 321 #[.int .u8 n] w λe w'=>e=.returned (.bool (iD n))/\w'=w:=by
 have hd:iD n=(decide (48<=n)&&decide (n<=57)):=rfl;by_cases h1:48<=n
 .have g1:(48:Int)<=(n:Int):=by omega
  by_cases h2:n<=57
  .have g2:(n:Int)<=57:=by omega
   have hr:iD n=true:=mh;exact uM
  .have g2:¬(n:Int)<=57:=by omega
   have hr:iD n=false:=kR;exact uM
 .have g1:¬(48:Int)<=(n:Int):=by omega
  have hr:iD n=false:=kU;exact uM
def Ve(n:Nat)(w:YC):Calls prog 336 #[.int .u8 n] w λe w'=>e=.returned (.bool (cV n))/\w'=w:=by
 have hd:cV n=(decide (97<=n)&&decide (n<=122)):=rfl;by_cases h1:97<=n
 .have g1:(97:Int)<=(n:Int):=by omega
  by_cases h2:n<=122
  .have g2:(n:Int)<=122:=by omega
   have hr:cV n=true:=mh;exact uL
  .have g2:¬(n:Int)<=122:=by omega
   have hr:cV n=false:=kR;exact uL
 .have g1:¬(97:Int)<=(n:Int):=by omega
  have hr:cV n=false:=kU;exact uL
def ae0(n:Nat)(w:YC):Calls prog 337 #[.int .u8 n] w λe w'=>e=.returned (.bool (jT n))/\w'=w:=by
 have hd:jT n=(decide (65<=n)&&decide (n<=90)):=rfl;by_cases h1:65<=n
 .have g1:(65:Int)<=(n:Int):=by omega
  by_cases h2:n<=90
  .have g2:(n:Int)<=90:=by omega
   have hr:jT n=true:=mh;exact uK
  .have g2:¬(n:Int)<=90:=by omega
   have hr:jT n=false:=kR;exact uK
 .have g1:¬(65:Int)<=(n:Int):=by omega
  have hr:jT n=false:=kU;exact uK
def Ju(n:Nat)(w:YC):Calls prog 318 #[.int .u8 n] w λe w'=>e=.returned (.bool (cB n))/\w'=w:=by
 have hd:cB n=(cV n||jT n||iD n||n==95):=rfl;go_enter func318,ntmps318;go_wp2_with fail;refine(Ve n _).mono ?_;rintro e w1 ⟨rfl,rfl⟩
 cases h1:cV n
 .go_wp2_with fail;refine(ae0 n _).mono ?_;rintro e w2 ⟨rfl,rfl⟩
  cases h2:jT n
  .go_wp2_with fail;refine(Iq n _).mono ?_;exact Dg
  exact Ku
 exact EX
def ae1(n:Nat)(w:YC):Calls prog 339 #[.int .u8 n] w λe w'=>e=.returned (.bool (cB n&&!(jT n)))/\w'=w:=by
 go_enter func339,ntmps339;go_wp2_with fail;refine(Ju n _).mono ?_;rintro e w1 ⟨rfl,rfl⟩
 cases h1:cB n
 .exact Ez
 .go_wp2_with fail;refine(ae0 n _).mono ?_;rintro e w2 ⟨rfl,rfl⟩
  cases h2:jT n
  .exact pA
  .exact pA
def aii(n:Nat)(w:YC):Calls prog 340 #[.int .u8 n] w λe w'=>e=.returned (.bool (cB n&&!(cV n)))/\w'=w:=by
 go_enter func340,ntmps340;go_wp2_with fail;refine(Ju n _).mono ?_;rintro e w1 ⟨rfl,rfl⟩
 cases h1:cB n
 .exact Ez
 .go_wp2_with fail;refine(Ve n _).mono ?_;rintro e w2 ⟨rfl,rfl⟩
  cases h2:cV n
  .exact pA
  .exact pA
def dp(s:Yz):(bs s).size=s.length:=by simp[bs,ByteArray.size]
def kY(s:Yz):(bs s).data.toList=s.map UInt8.ofNat:=by simp[bs]
def oR(s:Yz)(hs:bW s)(k:Nat)(h:k < (bs s).size)(c:Nat)(hc:s[k]?=some c):(bs s)[k].toNat=c:=by
 have h1:(bs s).data.toList[k]?=some (UInt8.ofNat c):=by rw[kY,qC,hc];rfl
 have h2:(bs s).data[k]?=some (UInt8.ofNat c):=by rw[<-Qu];exact h1
 have h3:(bs s)[k]=UInt8.ofNat c:=(aQ.1 h2).2;have:=hs c (cm hc);rw[h3];simp;omega
def alx(w:YC)(s:Yz)(gg:Nat)(s3:YE)(wr:YC):Prop:=∃k:Nat,s3=iV k/\k+gg=s.length/\wr=w/\∀c∈s.take k,cB c=true
def qq:∀(s:Yz) (k:Nat),(∀c∈s.take k,cB c=true)->(∀c,s[k]?=some c->cB c=false)->k<=s.length->fD s=s.take k
 |[],k,_,_,_=>by simp[fD]
 |c::r,0,_,h2,_=>by
  have:=h2 c rfl;simp[fD,this]
 |c::r,k+1,h1,h2,h3=>by
  have hc:=h1 c ai;simp only[fD,hc,xN,W7];rw[qq r k (λd hd=>h1 d (by simp[hd])) (λd hd=>h2 d (by simpa using hd)) wG]
def SY(s:Yz)(hs:bW s)(hl:s.length<=1000000)(w:YC):Calls prog 296 #[s] w λe w'=>e=.returned (iV (fD s).length)/\w'=w:=by
 have hz:=dp s;go_enter func296,ntmps296;go_wp2_with fail;go_loopg [3] s.length (λgg s3 wr=>alx w s gg s3 wr)
 case atStart=>exact⟨0,rfl,by omega,rfl,by simp⟩
 case round=>
  obtain⟨k,rfl,hkg,rfl,tR⟩:=hrel;by_cases hk:k < s.length
  .have h1:(k:Int) < (s.length:Int):=by omega
   have h2:(0:Int)<=(k:Int):=ab;go_wp2_with fail;obtain⟨c,hc⟩:∃c,s[k]?=some c:=⟨_,ck hk⟩
   refine(Ju _ _).mono ?_;rintro e w1 ⟨rfl,rfl⟩;rw[oR s hs k _ c hc]
   cases hp:cB c
   .have hru:=qq s k tR (λd hd=>by rw[hc] at hd;cases hd;exact hp) ab;exact Ke
   .exact CZ
  .refine rJ ?_;intro Am h1;have hru:=qq s k tR (λd hd=>by rw[Am] at hd;simp at hd) ab;exact Ke
end Go.Proofs.Gm
namespace Go.Proofs.Bm
open Go
variable {v:YE}{a:Act}{i j:Nat}
def upB(l:Ri)(i:Nat):Nat->Bool:=λj=>if j=i then true else l j
def upV(u:TY)(i:Nat)(v:YE):Nat->Value:=λj=>if j=i then v else u j
def ady(l:Ri)(i:Nat):upB l i i=true:=aI rfl
def VA(u:TY)(i:Nat)(v:YE):upV u i v i=v:=aI rfl
def jJ{l:Ri}(h:j≠i):upB l i j=l j:=aE h
def Yt{u:TY}(h:j≠i):upV u i v j=u j:=aE h
def zS:List (Option Tmp)->Nat->(Nat->Value)->Act->Act
 |[],_,_,a=>a
 |d::ds,n,u,a=>zS ds (n+1) u (a.put d (u n))
def put_comm{d e:Option Tmp}{w:YE}(h:d≠e∨d=none):(a.put d v).put e w=(a.put e w).put d v:=by
 cases d<;>cases e<;>try rfl
 rename_i d e;have:d≠e:=by simpa using h
 simp only[Act.put,Array.setIfInBounds_comm _ _ this]
def ait{d:Option Tmp}{w:YE}:(a.put d v).put d w=a.put d w:=by cases d<;>simp[Act.put]
def afo{d:Option Tmp}(h:∀t,d=some t->v=a.tmps.getD t undef):a.put d v=a:=by
 cases d with
 |none=>rfl
 |some t=>
  have:=h t rfl;subst this;have h1:a.tmps.setIfInBounds t (a.tmps.getD t undef)=a.tmps:=by
   apply Rn
   intro i;rw[IX];by_cases e:t=i
   .subst e;by_cases bQ:t < a.tmps.size
    .simp[bQ]
    .simp[bQ]
   .simp[e]
  simp only[Act.put,h1]
def OL:∀(ds:List (Option Tmp)) (n:Nat) (u u':TY) (a:Act),(∀j,n<=j->u j=u' j)->zS ds n u a=zS ds n u' a
 |[],_,_,_,_,_=>rfl
 |d::ds,n,u,u',a,h=>by
  unfold zS;rw[h n (aM _)];exact OL ds (n+1) u u' _ λj hj=>h j (by omega)
def VB:∀(ds:List (Option Tmp)) (n:Nat) (u:TY) (a:Act) (d:Option Tmp) (v:YE),(∀e∈ds,e≠d∨d=none)->(zS ds n u a).put d v=zS ds n u (a.put d v)
 |[],_,_,_,_,_,_=>rfl
 |e::ds,n,u,a,d,v,h=>by
  unfold zS;rw[VB ds (n+1) u _ d v λx hx=>h x (by simp[hx]),put_comm];rcases h e (by simp) with h|h
  .exact .inl h
  .subst h
   cases e with
   |none=>exact .inr rfl
   |some e=>exact .inl (by simp)
def OM:List (Option Tmp)->Bool
 |[]=>true
 |d::ds=>(d.isNone||!ds.contains d)&&OM ds
def VC:∀(ds:List (Option Tmp)) (n:Nat) (u:TY) (a:Act) (i:Nat) (d:Option Tmp) (v:YE),OM ds=true->ds[i]?=some d->
  (zS ds n u a).put d v=zS ds n (upV u (n+i) v) a
 |[],_,_,_,_,_,_,_,h=>by cases h
 |e::ds,n,u,a,i,d,v,hn,h=>by
  simp only[OM,dD,j5,Option.isNone_iff_eq_none,xQ,List.contains_eq_mem,decide_eq_false_iff_not] at hn;unfold zS
  cases i with
  |zero=>
   have:e=d:=by simpa using h
   subst this;rw[VB ds (n+1) u _ e v (λx hx=>hn.1.elim .inr λh1=>.inl λe'=>h1 (e'▸hx)),ait];simp only[fS,VA];exact OL ds _ _ _ _ λj hj=>(Yt (by omega)).symm
  |succ i=>rw[VC ds (n+1) u _ i d v hn.2 (by simpa using h)];rw[show n+1+i=n+(i+1) by omega,Yt (show n≠n+(i+1) by omega)]
def Jw:∀(ds:List (Option Tmp)) (n:Nat) (u:TY) (a:Act),(∀j d,ds[j]?=some (some d)->u (n+j)=a.tmps.getD d undef)->zS ds n u a=a
 |[],_,_,_,_=>rfl
 |d::ds,n,u,a,h=>by
  unfold zS;rw[afo (d:=d) (v:=u n) (λt e=>by have:=h 0 t (by simp[e]);simpa using this)];exact Jw ds (n+1) u a λj d' hj=>by
   have:=h (j+1) d' (by simpa using hj);rw[show n+1+j=n+(j+1) by omega];exact this
def VD(ops:Ws):List (Option Tmp):=ops.toList.map (·.dst)
def ajX(ops:Ws):Bool:=(List.range ops.size).all λi=>match ops[i]? with|some o=>o.after.all λe=>e.on < i|none=>true
def zb:∀(l:List Bool) (i:Nat),l[i]?=some false->(l.set i true).count false+1=l.count false
 |[],_,h=>by cases h
 |b::l,0,h=>by
  have:b=false:=by simpa using h
  subst this;simp
 |b::l,i+1,h=>by
  have:=zb l i (by simpa using h);simp only[lj,List.count_cons];omega
section
variable {P:T1}{ops:Ws}{Q:Exit -> Act -> World -> Prop}{A:(Nat -> Value) -> Act}{I:(Nat -> Bool) -> (Nat -> Value) -> World -> Prop}
def MD(P:T1)(ops:Ws)(Q:VN)(A:(Nat->Value)->Act)(I:(Nat->Bool)->(Nat->Value)->World->Prop)(i:Nat)(o:RZ):Prop:=
 ∀(l:Ri) (u:TY) (w:YC) (K:R0),l i=false->(∀j,xo .any ops ops.size i j=true->l j=true)->(∀j,xo .any ops ops.size j i=true->l j=false)->I l u w->
  Shut (∀v w' a',I (upB l i) (upV u i v) w'->a'=(A u).put o.dst v->K a' w')->if Region.wanted o (yielded ops (A u).tmps)=true then Oper.wp P o (A u) w K Q else K ((A u).put o.dst undef) w
inductive be (P:T1) (ops:Ws) (Q:VN) (A:(Nat->Value)->Act) (I:(Nat->Bool)->(Nat->Value)->World->Prop):List Nat->List Oper->Prop
 |nil:be P ops Q A I [] []
 |cons {i:Nat} {is:Yz} {o:RZ} {os:RM} (h:∀(l:Ri) (u:TY) (w:YC) (K:R0),l i=false->(∀j,xo .any ops ops.size i j=true->l j=true)->(∀j,xo .any ops ops.size j i=true->l j=false)->I l u w->
   Shut (∀v w' a',I (upB l i) (upV u i v) w'->a'=(A u).put o.dst v->K a' w')->if Region.wanted o (yielded ops (A u).tmps)=true then Oper.wp P o (A u) w K Q else K ((A u).put o.dst undef) w)
  (hs:be P ops Q A I is os):be P ops Q A I (i::is) (o::os)
def be.spec{is:Yz}{os:RM}(h:be P ops Q A I is os):∀(k:Nat),is=List.range' k os.length->∀j o,os[j]?=some o->MD P ops Q A I (k+j) o:=by
 induction h with
 |nil=>intro k _ j o h;cases h
 |@cons i is o os h hs ih=>
  intro k e j o' ho;simp only[dC,List.range'_succ,IZ] at e
  cases j with
  |zero=>
   have:o=o':=by simpa using ho
   subst this;have:=e.1;subst this;exact h
  |succ j=>have:=ih (k+1) e.2 j o' (by simpa using ho);rwa[show k+1+j=k+(j+1) by omega] at this
def VE(hd:OM (VD ops)=true)(hf:ajX ops=true)(a0:Act)(hA:∀u,zS (VD ops) 0 u a0=A u)(hs:∀i o,ops[i]?=some o->MD P ops Q A I i o)(sU:∀l u w,(∀j,j < ops.size->l j=true)->I l u w->Q .normal (A u) w):∀(fuel:Nat) (aA:VL) (u:TY) (w:YC),aA.size=ops.size->aA.toList.count false<=fuel->yQ .any ops aA->I (λj=>aA.getD j true) u w->wpAny P .any ops Q fuel aA (A u) w:=by
 have mu:∀aA:Array Bool,aA.size=ops.size->Region.ready .any ops aA=[]->∀n j,j < n->j < ops.size->aA.getD j true=true:=by
  intro aA dM hr n;induction n with
  |zero=>intro j h;omega
  |succ n ih=>
   intro j hj bQ;by_cases hjn:j < n
   .exact ih j hjn bQ
   .cases hg:aA.getD j true with
    |true=>rfl
    |false=>
     exfalso
     obtain⟨oj,hoj⟩:∃oj,ops[j]?=some oj:=⟨ops[j],by simp[bQ]⟩
     have:j∈Region.ready .any ops aA:=by
      refine xM.2 ⟨hg,oj,hoj,λe he _=>?_⟩;have h1:=dV.1 hf j (BZ.2 bQ);simp only[hoj] at h1;have h2:=Array.all_eq_true'.1 h1 e he;have h3:e.on < j:=by simpa using h2
      have h4:=ih e.on (by omega) (by omega);have h5:e.on < aA.size:=by omega
      simpa[h5] using h4
     rw[hr] at this
     cases this
 intro fuel;induction fuel with
 |zero=>
  intro aA u w dM hc kc hI;have h1:∀j,j < ops.size->aA.getD j true=true:=by
   intro j hj;have WA:j < aA.size:=by omega
   cases hg:aA[j] with
   |true=>simp[WA,hg]
   |false=>
    have:false∈aA.toList:=by rw[<-hg];simp
    have:=List.count_pos_iff.2 this;omega
  refine⟨?_,sU _ u w h1 hI⟩;refine List.eq_nil_iff_forall_not_mem.2 λj hj=>?_;obtain⟨h2,oj,hoj,_⟩:=xM.1 hj;rw[h1 j (aQ.1 hoj).1] at h2
  cases h2
 |succ fuel ih=>
  intro aA u w dM hc kc hI;refine⟨λhr=>sU _ u w (λj hj=>mu aA dM hr ops.size j hj hj) hI,λi hi=>?_⟩;obtain⟨RR,oi,hoi,arL⟩:=xM.1 hi;have bQ:i < ops.size:=(aQ.1 hoi).1;have aiu:i < aA.size:=by omega
  have hli:aA[i]?=some false:=by have:=RR;simp[aiu] at this;simp[aiu,this]
  refine wpOp_step hoi λK' hK=>?_;refine hs i oi hoi (λj=>aA.getD j true) u w K' RR (λj hj=>?_) (λj hj=>?_) hI (λv w' a' hI' ha'=>?_)
  .show aA.getD j true=true
   cases hg:aA.getD j true with
   |true=>rfl
   |false=>exact absurd hi (qO kc (getD_some hg) _ _ hj).1
  .show aA.getD j true=false;have h1:=(qO kc (getD_some RR) _ _ hj).2;have hlj:j < ops.size:=by
    cases hn:ops.size with
    |zero=>omega
    |succ n=>
     rw[hn] at hj;unfold xo at hj
     cases ho:ops[j]? with
     |none=>rw[ho] at hj;cases hj
     |some o=>have:=(aQ.1 ho).1;omega
   have:j < aA.size:=by omega
   simpa[this] using h1
  .subst ha';refine hK _ _ ?_;have e1:(A u).put oi.dst v=A (upV u i v):=by rw[<-hA,<-hA,VC (VD ops) 0 u a0 i oi.dst v hd (by simp[VD,hoi]),fi]
   rw[e1];refine ih _ _ _ (by simpa using dM) ?_ (kc.set hi) ?_
   .have:=zb aA.toList i (by simpa using hli);simp only[Array.toList_setIfInBounds] at this|-;omega
   .have e2:(λj=>(aA.setIfInBounds i true).getD j true)=upB (λj=>aA.getD j true) i:=by
     funext j
     by_cases h:j=i
     .subst h;simp[upB,aiu]
     .rw[jJ h,MT true (Pr h)]
    rw[e2];exact hI'
def VT(wS:List (Option Value))(l:Ri)(u:TY):Prop:=∀j v,wS[j]?=some (some v)->l j=true->u j=v
def VT.up{wS:List (Option Value)}{l:Ri}{u:TY}{i:Nat}{v:YE}(h:VT wS l u)(hv:∀v',wS[i]?=some (some v')->v=v'):VT wS (upB l i) (upV u i v):=by
 intro j v' hj hl;by_cases e:j=i
 .subst e;rw[VA];exact hv v' hj
 .rw[Yt e];rw[jJ e] at hl;exact h j v' hj hl
def VT.yes{wS:List (Option Value)}{l:Ri}{u:TY}(h:VT wS l u)(i:Nat){v:YE}(hv:wS[i]?=some (some v):=by rfl):VT wS (upB l i) (upV u i v):=
 h.up λv' e=>by rw[hv] at e;cases e;rfl
def VT.no{wS:List (Option Value)}{l:Ri}{u:TY}(h:VT wS l u)(i:Nat){v:YE}(hv:wS[i]?=some none:=by rfl):VT wS (upB l i) (upV u i v):=
 h.up λv' e=>by rw[hv] at e;cases e
def VT.none{wS:List (Option Value)}{l:Ri}{u:TY}{n:Nat}(hn:wS.length=n)(h:∀j,j < n->l j=false):VT wS l u:=by
 intro j v hj hl;rw[h j (by have:=(dk.1 hj).1;omega)] at hl
 cases hl
def aaD(ops:Ws)(ds:List (Option Tmp))(is:Yz):Bool:=(VD ops==ds)&&OM ds&&ajX ops&&(List.range ops.size==is)
def aY(ds:List (Option Tmp))(is:Yz){A:(Nat->Value)->Act}(I:(Nat->Bool)->(Nat->Value)->World->Prop){id:Nat}{a:Act}{w:YC}(hm:P.follows .mixedOrders=true)(hd:aaD ops ds is=true)(hA:∀u,zS ds 0 u a=A u)(h0:∀l u,(∀j,j < is.length->l j=false)->I l u w.drew)(hs:be P ops Q A I is ops.toList)(sU:∀l u w,(∀j,j < is.length->l j=true)->I l u w->Q .normal (A u) w):(Code.region id ops true).wp P Q a w:=by
 simp only[aaD,dD,dU] at hd;obtain⟨⟨⟨LY,ct⟩,jk⟩,jU⟩:=hd;subst LY;subst jU;simp only[List.length_range] at h0 sU;refine wp_region_any hm ?_;have e:a=A (λj=>match (VD ops)[j]? with|some (some d)=>a.tmps.getD d undef|_=>undef):=by rw[<-hA,Jw];intro j d hj;simp only[fi,hj]
 rw[e];have hs':∀i o,ops[i]?=some o->MD P ops Q A I i o:=λi o ho=>by
  have:=hs.spec 0 (by rw[List.range_eq_range'];simp) i o (by simpa using ho);rwa[fi] at this
 refine VE ct jk a hA hs' sU ops.size _ _ _ (by simp) ?_ ?_ ?_
 .simp
 .intro j oj hj hl;have bQ:j < ops.size:=(aQ.1 hj).1;simp[bQ] at hl
 .refine h0 _ _ λj hj=>?_;simp[hj]
end
section
variable {P:T1}{ops:Ws}{Q:Exit -> Act -> World -> Prop}{md:TV}{S:World -> Prop}{k:Nat}
def seqB(md:TV)(ops:Ws)(k:Nat):List (Nat×Nat)->Array Bool->Bool
 |[],aA=>(Region.ready md ops aA).isEmpty
 |(i,0)::r,aA=>Region.free md ops aA i&&(Region.ready md ops aA).contains i&&xo md ops ops.size k i&&!aA.getD k false&&seqB md ops k r (aA.setIfInBounds i true)
 |(i,1)::r,aA=>(Region.ready md ops aA==[i])&&seqB md ops k r (aA.setIfInBounds i true)
 |(i,_)::r,aA=>(Region.ready md ops aA==[i])&&(aA.setIfInBounds i true).getD k false&&seqB md ops k r (aA.setIfInBounds i true)
def nu(P:T1)(ops:Ws)(Q:VN)(S:T2):List (Nat×Nat)->Act->World->Prop
 |[],a,w=>Q .normal a w
 |(i,0)::r,a,w=>∃oi v,ops[i]?=some oi/\YieldsIf P ops S oi v a/\nu P ops Q S r (a.put oi.dst v) w
 |(i,1)::r,a,w=>∃oi,ops[i]?=some oi/\∀K:Act->World->Prop,Shut (∀a w,S w->nu P ops Q S r a w->K a w)->if Region.wanted oi (yielded ops a.tmps)=true then Oper.wp P oi a w K Q else K (a.put oi.dst undef) w
 |(i,_)::r,a,w=>∃oi,ops[i]?=some oi/\∀K:Act->World->Prop,Shut (∀a w,nu P ops Q S r a w->K a w)->if Region.wanted oi (yielded ops a.tmps)=true then Oper.wp P oi a w K Q else K (a.put oi.dst undef) w
def wT(hs:Region.noSelect ops=true)(hQ:∀(c:List PanicEntry) (a:Act) (d:Option Tmp) (v:YE) (w:YC),Q (.panic c) (a.put d v) w->Q (.panic c) a w):
  ∀(pl:List (Nat×Nat)) (m:Nat) (aA:VL) (a:Act) (w:YC),yQ md ops aA->seqB md ops k pl aA=true->(aA.getD k false=false->S w)->nu P ops Q S pl a w->eA P md ops Q S k (pl.length+m) aA a w
 |[],m,aA,a,w,_,hB,_,h=>by
  simp only[seqB,List.isEmpty_iff] at hB;exact wpAnyT_done hB h _
 |(i,0)::r,m,aA,a,w,hc,hB,hS,h=>by
  simp only[seqB,dD,xQ] at hB;obtain⟨⟨⟨⟨h1,h2⟩,h3⟩,h4⟩,h5⟩:=hB;obtain⟨oi,v,ho,hy,h⟩:=h;rw[dC,Nat.add_right_comm];have h2':i∈Region.ready md ops aA:=jb;refine HY ho (Region.noSelect_spec hs) (λc a w=>hQ c a _ _ w) h3 _ aA a w hc (Region.free_spec ho h1) h2' hy (hS h4) ?_;have hki:i≠k:=λe=>by
   have:=(qO hc (getD_some (xM.1 h2').1) ops.size k h3).1;exact this (e▸h2')
  exact wT hs hQ r m _ _ _ (hc.set h2') h5 (λ_=>hS h4) h
 |(i,n+1)::r,m,aA,a,w,hc,hB,hS,h=>by
  have hr:Region.ready md ops aA=[i]/\seqB md ops k r (aA.setIfInBounds i true)=true/\(n≠0->(aA.setIfInBounds i true).getD k false=true):=by
   cases n with
   |zero=>have hB:((Region.ready md ops aA==[i])&&seqB md ops k r (aA.setIfInBounds i true))=true:=hB;simp only[dD,dU] at hB;exact⟨hB.1,hB.2,λe=>absurd rfl e⟩
   |succ n=>have hB:((Region.ready md ops aA==[i])&&(aA.setIfInBounds i true).getD k false&&seqB md ops k r (aA.setIfInBounds i true))=true:=hB;simp only[dD,dU] at hB;exact⟨hB.1.1,hB.2,λ_=>hB.1.2⟩
  obtain⟨hr,h5,hd⟩:=hr;rw[dC,Nat.add_right_comm];refine wpAnyT_ready hr ai λj hj=>?_;obtain rfl:=JH.1 hj;have Yu:j∈Region.ready md ops aA:=by rw[hr];simp
  cases n with
  |zero=>obtain⟨oi,ho,h⟩:=h;refine wpOp_step ho λK hK=>h K λa' w' hS' h'=>hK a' w' ⟨λ_=>hS',wT hs hQ r m _ _ _ (hc.set Yu) h5 (λ_=>hS') h'⟩
  |succ n=>obtain⟨oi,ho,h⟩:=h;refine wpOp_step ho λK hK=>h K λa' w' h'=>hK a' w' ⟨λe=>HH,wT hs hQ r m _ _ _ (hc.set Yu) h5 (λe=>HH) h'⟩
def jB(k:Nat)(pl:List (Nat×Nat))(S:T2){id:Nat}{a:Act}{w:YC}(hm:P.follows .mixedOrders=true)(hB:(Region.noSelect ops&&seqB .any ops k pl (Array.replicate ops.size false)&&(pl.length==ops.size))=true)(hQ:∀(c:List PanicEntry) (a:Act) (t:Tmp) (v:YE) (w:YC),Q (.panic c) (a.put (some t) v) w->Q (.panic c) a w)(hS:S w.drew)(h:nu P ops Q S pl a w.drew):(Code.region id ops true).wp P Q a w:=by
 simp only[dD,dU] at hB;refine wp_region_live k S hm hS λ_=>?_;have:=wT (md:=.any) hB.1.1 (λc a d v w h=>by cases d with
  |none=>exact h
  |some t=>exact hQ c a t v w h) pl 0 (Array.replicate ops.size false) a w.drew (λj oj hj hl=>?_) hB.1.2 (λ_=>hS) h
 .rwa[fS,hB.2] at this
 .exfalso
  by_cases bQ:j < ops.size<;>simp[bQ] at hl
variable {i:Nat}{oi:RZ}{v:YE}{r:List (Nat×Nat)}{a:Act}{w:YC}
def Tp{α:Type}:List α->Nat->Option α
 |[],_=>none
 |x::_,0=>some x
 |_::l,n+1=>Tp l n
def aaQ{α:Type}:∀(l:List α) (j:Nat),Tp l j=l[j]?
 |[],_=>by simp[Tp]
 |x::_,0=>rfl
 |_::l,n+1=>by simpa[Tp] using aaQ l n
def Iz(h:Tp ops.toList i=some oi):ops[i]?=some oi:=by rw[aaQ,Qu] at h;exact h
def Q7(h:nu P ops Q S r (a.put oi.dst v) w)(hy:∀V,S V->(execOp a.eval oi).run P V=.ok (.value v) V)(ho:Tp ops.toList i=some oi:=by rfl)(hw:Region.wanted oi (yielded ops a.tmps)=true:=by rfl):nu P ops Q S ((i,0)::r) a w:=⟨oi,v,Iz ho,.inl ⟨hw,hy⟩,h⟩
def Q8(h:nu P ops Q S r (a.put oi.dst undef) w)(ho:Tp ops.toList i=some oi:=by rfl)(hw:Region.wanted oi (yielded ops a.tmps)=false:=by rfl):nu P ops Q S ((i,0)::r) a w:=⟨oi,undef,Iz ho,.inr ⟨hw,rfl⟩,h⟩
def afI(h:∀K:Act->World->Prop,Shut (∀a w,S w->nu P ops Q S r a w->K a w)->if Region.wanted oi (yielded ops a.tmps)=true then Oper.wp P oi a w K Q else K (a.put oi.dst undef) w)(ho:Tp ops.toList i=some oi:=by rfl):nu P ops Q S ((i,1)::r) a w:=⟨oi,Iz ho,h⟩
def qM(h:∀K:Act->World->Prop,Shut (∀a w,nu P ops Q S r a w->K a w)->if Region.wanted oi (yielded ops a.tmps)=true then Oper.wp P oi a w K Q else K (a.put oi.dst undef) w)(ho:Tp ops.toList i=some oi:=by rfl):nu P ops Q S ((i,2)::r) a w:=⟨oi,Iz ho,h⟩
def NT(h:Q .normal a w):nu P ops Q S [] a w:=h
end
def xr{P:T1}{ops:Ws}{Q:VN}(ds:List (Option Tmp))(is:Yz){A:(Nat->Value)->Act}(I:(Nat->Bool)->(Nat->Value)->World->Prop){id:Nat}{a:Act}{w:YC}(hm:P.follows .mixedOrders=true)(hd:aaD ops ds is=true)(hA:∀u,zS ds 0 u a=A u)(h0:∀l u,(∀j,j < is.length->l j=false)->A u=a->I l u w.drew)(hs:be P ops Q A I is ops.toList)(sU:∀l u w,(∀j,j < is.length->l j=true)->I l u w->Q .normal (A u) w):(Code.region id ops true).wp P Q a w:=by
 simp only[aaD,dD,dU] at hd;obtain⟨⟨⟨LY,ct⟩,jk⟩,jU⟩:=hd;subst LY;subst jU;simp only[List.length_range] at h0 sU;refine wp_region_any hm ?_;have e:a=A (λj=>match (VD ops)[j]? with|some (some d)=>a.tmps.getD d undef|_=>undef):=by rw[<-hA,Jw];intro j d hj;simp only[fi,hj]
 have hs':∀i o,ops[i]?=some o->MD P ops Q A I i o:=λi o ho=>by
  have:=hs.spec 0 (by rw[List.range_eq_range'];simp) i o (by simpa using ho);rwa[fi] at this
 have key:=VE ct jk a hA hs' sU ops.size (Array.replicate ops.size false) (λj=>match (VD ops)[j]? with|some (some d)=>a.tmps.getD d undef|_=>undef) {w with drawn:=w.drawn+1} (by simp) (by simp) ?_ ?_
 .rw[<-e] at key;exact key
 .intro j oj hj hl;have bQ:j < ops.size:=(aQ.1 hj).1;simp[bQ] at hl
 .refine h0 _ _ (λj hj=>?_) e.symm;simp[hj]
open Go.Proofs.Tryz
open Go.RowKit
abbrev agE(f e:Int):Value:=.iface 160 (.agg #[.int .i64 f,.int .i64 e])
abbrev aa5(f e:Int):List PanicEntry:=[{v:=agE f e,recovered:=false}]
def kD(f:Int)(w:YC):Calls prog 153 #[.bool true,.int .i64 f] w λe w'=>e=.returned (.tuple #[])/\w=w':=by go_enter func153,ntmps153;go_wp2;go_end0;exact⟨rfl,rfl⟩
def BH(f:Int)(w:YC):Calls prog 153 #[.bool false,.int .i64 f] w λe w'=>e=.panicked (aa5 f 0)/\w=w':=by go_enter func153,ntmps153;go_wp2;exact⟨rfl,rfl,rfl⟩
def O6(n:Int)(w:YC)(h0:-9223372036854775808<=n)(h1:n<=9223372036854775807):Calls prog 55 #[.int .i64 n] w λe w'=>e=.returned (.bool (decide (-1099511627776<=n/\n<=1099511627776)))/\w=w':=by
 by_cases h2:-1099511627776<=n<;>by_cases h3:n<=1099511627776
 all_goals
  go_enter func55,ntmps55;go_wp2;go_ret;exact⟨by simp[h2,h3],rfl⟩
abbrev dw(b:Nat):Value:=.func (.func 213) #[] #[.pointer (some ⟨b,0,none⟩)]
def kE(fv:YE)(w:YC)(h1:∃fn first cap,fv=.func fn first cap):Calls prog 130 #[fv] w λe w'=>e=.returned (dw w.heap.size)/\w'=w.alloc (cO #[fv] 223):=by obtain⟨fn,first,cap,rfl⟩:=h1;refine fg ?_;intro sE;go_enter func130,ntmps130;exact cQ
def ajd(f e:Int)(w:YC):(Instr.typeAssert (.iface 160 (.agg #[f,e])) 20 160 true).run prog w=.ok (.tuple #[.agg #[iV f,iV e],true]) w:=by kernel_rfl
def YU(b c:Nat)(f e0 x y z:Int)(aj9:List PanicEntry)(w:YC)(hb:w.cell? ⟨b,0,none⟩=some (iV x))(hc0:w.cell? ⟨c,0,none⟩=some (iV y))(hc1:w.cell? ⟨c,1,none⟩=some (iV z))
  (hfb:w.frozen? ⟨b,0,none⟩=false) (Pj:w.frozen? ⟨c,0,none⟩=false) (hf1:w.frozen? ⟨c,1,none⟩=false) (cR:b≠c):
  CallsD prog 163 #[.pointer b,.pointer c] (.panicking ({v:=agE f e0,recovered:=false}::aj9)) w λe u' w'=>
   e=.returned (.tuple #[])/\u'=.panicking ({v:=agE f e0,recovered:=true}::aj9)/\Kept (λk=>k=b∨k=c) w w'/\
    w'.cell? ⟨b,0,none⟩=some (iV 0)/\w'.cell? ⟨c,0,none⟩=some (iV f)/\w'.cell? ⟨c,1,none⟩=some (iV e0):=by
 have asi:=ajd f e0;refine callsD_of_wpS func163 rfl λc₀ cs hu=>?_;apply wpS_seq
 apply wpS_region
 simp[wpOpsS,go_sem,recoverD,hu,ntmps163,Exit.thenS];refine wpS_of_wp ?_;simp only[JG,dC,mc,Nat.reduceAdd,Nat.reduceSub,I1,I2,I3,I4,xR,qF,ma,mb,lj];have hlb:=cA w _ hb;have hlc:=cA w _ hc0;go_wp2;go_region
 all_goals
  refine⟨rfl,_,rfl,.tuple #[],by simp[results,results163],rfl,rfl,?_,?_,?_,?_⟩
  .exact((((Kept.refl _ w).setCell (λ_=>.inl rfl) _).setCell (λ_=>.inr rfl) _).setCell (λ_=>.inr rfl) _).alloc _ |>.drew
  all_goals simp(disch:=first|omega|(simp only[size_setCell];omega)|simp[jd,hb,hc0,hc1]) only[World.cell?_drew,iW,size_setCell,oF,cS,jd]
  all_goals exact oF _ _ _ _ (by rw[cS _ _ _ _ _ _ cR];simp[hc0])
def BC(b c:Nat)(w:YC):CallsD prog 163 #[.pointer b,.pointer c] .returning w λe u' w'=>e=.returned (.tuple #[])/\u'=.returning/\w=w':=by
 refine callsD_of_wpS func163 rfl λc₀ cs hu=>?_;apply wpS_seq
 apply wpS_region
 simp[wpOpsS,go_sem,recoverD,hu,ntmps163,Exit.thenS];refine wpS_of_wp ?_;simp only[JG,dC,mc,Nat.reduceAdd,Nat.reduceSub,I1,I2,I3,I4,xR,qF,ma,mb,lj];go_wp2
 cases c₀;refine⟨rfl,_,by simp_all,.tuple #[],by simp[results,results163],rfl,rfl,rfl⟩
def wV{P:T1}{fn:Func}{t1 t2:Zt}{R:VW}(h:results fn t1=results fn t2):∀(ds:List Deferred) (u:FrameMode) (w:YC),Leaves P fn t1 R ds u w->Leaves P fn t2 R ds u w
 |[],u,w,hl=>by
  cases u with
  |returning=>obtain⟨v,h1,h2⟩:=hl;exact⟨v,h▸h1,h2⟩
  |panicking c=>exact hl
  |run=>exact hl
 |d::ds,u,w,hl=>by
  obtain⟨hu,fv,cap,f,args,hd,hi,hc⟩:=hl;refine⟨hu,fv,cap,f,args,hd,hi,hc.mono ?_⟩;intro e u' w' he
  cases e with
  |returned v=>exact wV h ds _ _ he
  |panicked c=>exact wV h ds _ _ he
  |outgrown=>exact he
def aje{R:VW}{d:Nat}(hd:d≠4/\d≠5)(v:YE)(c:List PanicEntry)(a:Act)(w:YC)(h:bodyPostD prog f88 R (.panic c) (a.put (some d) v) w):bodyPostD prog f88 R (.panic c) a w:=by refine wV ?_ _ _ _ h;unfold results;simp only[results88,Act.put];simp[Array.getD_eq_getD_getElem?,IX,hd.1,hd.2]
def DH(bm bd:Nat)(nm:YR)(A B:Int)(L:List (ByteArray×Value))(b:Nat)(V:YC):Prop:=V.cell? ⟨bm,4,none⟩=some (.map (some bd))/\V.cell? ⟨b,0,none⟩=some (.string nm)/\V.cell? ⟨b,1,none⟩=some (iV A)/\V.cell? ⟨b,2,none⟩=some (iV B)/\dG V bd L
def tkD(i:Nat){md:TV}{ops:Ws}{oi:RZ}{v:YE}{fuel:Nat}{aA:VL}{a:Act}{w:YC}{bm bd b n:Nat}{nm:YR}{A B:Int}{L:List (ByteArray×Value)}{x:YE}{f:VN}{Q':Prop}(dq:lT nm L 0=some (n,x))(hS:DH bm bd nm A B L b w)(q:Q')(hi:ops[i]?=some oi:=by exact rfl)
  (hs:Region.noSelect ops=true:=by kernel_rfl) (hf:Region.free md ops aA i=true:=by kernel_rfl) (hr:(Region.ready md ops aA).contains i=true:=by kernel_rfl) (hQ:∀c a w,f (.panic c) (a.put oi.dst v) w->f (.panic c) a w:=by exact λc a w h=>aje ⟨by decide,by decide⟩ _ c a w h)
  (hy:YieldsIf prog ops (DH bm bd nm A B L b) oi v a:=by exact Or.inl ⟨by rfl,by intro V hS;obtain⟨s1,s2,s3,s4,s5⟩:=hS;have s6:=Od (P:=prog) underlying218 underlying9 s5 dq;clear s5;go_simp;with_reducible rfl⟩)
  (h:Q'->wpAnyH prog md ops f (DH bm bd nm A B L b) fuel (aA.setIfInBounds i true) (a.put oi.dst v) w:=by intro q;(try simp only[Act.put,ma,mb,lj]);exact q):wpAnyH prog md ops f (DH bm bd nm A B L b) (fuel+1) aA a w:=wpAnyH_take hi hs hf hr hQ hy hS (h q)
def dIn(J:T2)(bm bd:Nat)(e:TP)(w':YC):Int ⊕ Int×Int->Prop
 |.inl r=>e=.returned (.int .i64 r)/\J w'/\w'.cell? ⟨bm,4,none⟩=some (.map (some bd))
 |.inr x=>e=.panicked (aa5 x.1 x.2)
def aq3(J:T2)(e:TP)(w':YC):Int ⊕ Int×Int->Prop
 |.inl r=>e=.returned (.tuple #[.int .i64 r,.agg #[.int .i64 0,.int .i64 0]])/\J w'
 |.inr x=>e=.returned (.tuple #[oZ,.agg #[.int .i64 x.1,.int .i64 x.2]])
def Wg(bm bd i g:Nat)(L:List (ByteArray×Value))(nm:YR)(A B:Int)(o:Int ⊕ Int×Int)(first cap:Zt)(F:Wq)(J:T2)(w:YC)(hc4:w.cell? ⟨bm,4,none⟩=some (.map (some bd)))(hD:dG w bd L)(dq:lT nm L 0=some (i,.func (.func g) first cap))(hF:∀k,F k->k < w.heap.size)(hFd:¬F bd)(Mj:∀(args:Zt) (w:YC),(callFunc g args).run prog w=.ok (.enter g args) w)(O7:∀W,Kept (λ_=>False) w W->w.heap.size+3<=W.heap.size->Calls prog g (first++(#[.int .i64 A,.int .i64 B]++cap)) W λe w'=>Kept F W w'/\dIn J bm bd e w' o):Calls prog 88 #[.pointer bm,.agg #[.string nm,iV A,iV B]] w λe w'=>∃w1,Kept F w w1/\Kept (λk=>k=w.heap.size+1∨k=w.heap.size+1+1) w1 w'/\aq3 J e w1 o:=by
 refine fg ?_;intro sE;have hlb:=cA w _ hc4;have hlD:=(aQ.1 hD).1;have amy:=ah O7;have sT:=ah hD;go_enter_defers func88,ntmps88
 go_wp2;obtain⟨W,hW⟩:∃W,W=(((w.alloc (cO #[nm,A,B] 59)).alloc (cO #[oZ] 3)).alloc (cO #[oZ,oZ] 160)):=⟨_,rfl⟩
 rw[<-hW];have dZ:Kept (λ_=>False) w W:=by rw[hW];exact(((Kept.refl _ w).alloc _).alloc _).alloc _
 have dM:W.heap.size=w.heap.size+3:=iS;have nB:W.heap[w.heap.size]?=some (.cells #[nm,A,B] 59 (0,0)):=by exact um
 have lL:W.heap[w.heap.size+1]?=some (.cells #[oZ] 3 (0,0)):=by exact um
 have jy:W.heap[w.heap.size+1+1]?=some (.cells #[oZ,oZ] 160 (0,0)):=by exact um
 have sW:(DH bm bd nm A B L w.heap.size) W:=by refine⟨dZ.aq hc4 ai,by simp[World.cell?,nB],by simp[World.cell?,nB],by simp[World.cell?,nB],?_⟩;exact(dZ.block _ hlD ai).trans sT
 revert hW dM nB lL jy;refine nx ?_;intro hW dM nB lL jy;refine Ag (S:=(DH bm bd nm A B L w.heap.size)) af sW (λak=>?_);refine tkD 0 dq ak ?_;refine tkD 1 dq ak ?_;refine tkD 2 dq ak ?_;refine tkD 3 dq ak ?_;refine tkD 4 dq ak ?_;refine tkD 5 dq ak ?_;refine tkD 6 dq ak ?_;refine tkD 7 dq ak ?_;refine tkD 8 dq ak ?_;refine tkD 9 dq ak ?_;refine tkD 10 dq ak ?_;refine tkD 12 dq ak ?_;refine jR 11 λK hK=>?_;go_simp;refine(amy W.drew dZ.drew (by show _<=W.heap.size;rw[dM.out];exact aM _)).mono ?_;rintro e w1 ⟨xi,ho⟩;have Pm:¬F (w.heap.size+1):=λh=>by have:=hF _ h;omega
 have Pt:¬F (w.heap.size+1+1):=λh=>by have:=hF _ h;omega
 have k1:=(xi.block _ pY Pm).trans lL;have k2:=(xi.block _ pY Pt).trans jy;have k9:=(dZ.drew.mono (λ_ h=>h.elim)).trans' xi
 cases o with
 |inl r=>
  obtain⟨rfl,hJ1,hc1⟩:=ho;have nz:¬F w.heap.size:=λh=>by have:=hF _ h;omega
  have k0:=(xi.block _ pY nz).trans nB;have kd:=(xi.block _ pY hFd).trans ak.2.2.2.2;have s1:(DH bm bd nm A B L w.heap.size) w1:=⟨hc1,by simp[World.cell?,k0],by simp[World.cell?,k0],by simp[World.cell?,k0],kd⟩
  dsimp only;refine hK _ _ s1 (λaq4=>?_);refine sp ?_;have d1:w1.cell? ⟨w.heap.size+1,0,none⟩=some (iV 0):=by simp[World.cell?,k1]
  have f1:w1.frozen? ⟨w.heap.size+1,0,none⟩=false:=by simp[World.frozen?,k1]
  have d2:w1.cell? ⟨w.heap.size+1+1,0,none⟩=some (iV 0):=qk;have d3:w1.cell? ⟨w.heap.size+1+1,1,none⟩=some (iV 0):=qk;have f2:w1.frozen? ⟨w.heap.size+1+1,0,none⟩=false:=qi;have f3:w1.frozen? ⟨w.heap.size+1+1,1,none⟩=false:=qi;revert k1 k2 k0 kd;refine jU ?_;intro k1 k2 k0 kd;refine jR 13 λK hK=>?_;go_simp;have e1:Kept (λk=>k=w.heap.size+1∨k=w.heap.size+1+1) w1 (w1.setCell ⟨w.heap.size+1,0,none⟩ (iV r)):=(Kept.refl _ _).setCell (λ_=>.inl rfl) _;have hbm:bm < w.heap.size:=hlb;have rk:bd < w.heap.size:=hlD;obtain⟨w2,TS⟩:∃w2,w2=w1.setCell ⟨w.heap.size+1,0,none⟩ (iV r):=⟨_,rfl⟩
  rw[<-TS] at e1|-;have s2:(DH bm bd nm A B L w.heap.size) w2:=⟨e1.aq s1.1 aH,e1.aq s1.2.1 aH,e1.aq s1.2.2.1 aH,e1.aq s1.2.2.2.1 aH,(e1.block _ Ha aH).trans s1.2.2.2.2⟩
  have g2:w2.cell? ⟨w.heap.size+1+1,0,none⟩=some (iV 0):=by rw[TS];rw[cS _ _ _ _ _ _ ab];exact d2
  have g3:w2.cell? ⟨w.heap.size+1+1,1,none⟩=some (iV 0):=by rw[TS];rw[cS _ _ _ _ _ _ ab];exact d3
  have gf2:w2.frozen? ⟨w.heap.size+1+1,0,none⟩=false:=by rw[TS];rw[MY];exact f2
  have gf3:w2.frozen? ⟨w.heap.size+1+1,1,none⟩=false:=by rw[TS];rw[MY];exact f3
  have gr:w2.cell? ⟨w.heap.size+1,0,none⟩=some (iV r):=by rw[TS];exact oF _ _ _ _ (by simp[d1])
  replace TS:=ah TS;refine hK _ _ s2 (λaq5=>?_);refine sp ?_;refine jR 14 λK hK=>?_;go_simp;obtain⟨w3,hw3⟩:∃w3,w3=(w2.setCell ⟨w.heap.size+1+1,0,none⟩ (iV 0)).setCell ⟨w.heap.size+1+1,1,none⟩ (iV 0):=⟨_,rfl⟩
  have e2:Kept (λk=>k=w.heap.size+1∨k=w.heap.size+1+1) w1 w3:=by rw[hw3];exact(e1.setCell (λ_=>.inr rfl) _).setCell (λ_=>.inr rfl) _
  rw[<-hw3];have s3:(DH bm bd nm A B L w.heap.size) w3:=⟨e2.aq s1.1 aH,e2.aq s1.2.1 aH,e2.aq s1.2.2.1 aH,e2.aq s1.2.2.2.1 aH,(e2.block _ Ha aH).trans s1.2.2.2.2⟩
  have q1:w3.cell? ⟨w.heap.size+1,0,none⟩=some (iV r):=by rw[hw3,cS _ _ _ _ _ _ ab,cS _ _ _ _ _ _ ab];exact gr
  have q2:w3.cell? ⟨w.heap.size+1+1,0,none⟩=some (iV 0):=by rw[hw3,jd _ _ _ _ _ _ ab];exact oF _ _ _ _ (by simp[g2])
  have q3:w3.cell? ⟨w.heap.size+1+1,1,none⟩=some (iV 0):=by rw[hw3];exact oF _ _ _ _ (by rw[jd _ _ _ _ _ _ ab];simp[g3])
  replace hw3:=ah hw3;refine hK _ _ s3 (λaq6=>?_);refine sp ?_;refine dnH ?_;go_wp2;refine GM ?_;refine(BC _ _ _).mono ?_;rintro e u' w'' ⟨rfl,rfl,rfl⟩;simp[Leaves,settle,results,results88,go_sem,q1,q2,q3];exact⟨w1,k9,e2,rfl,hJ1⟩
 |inr x=>obtain rfl:=ho;dsimp only;refine GM ?_;refine(YU (w.heap.size+1) (w.heap.size+1+1) x.1 x.2 0 0 0 [] w1 (by simp[World.cell?,k1]) qk qk (by simp[World.frozen?,k1]) qi qi ab).mono ?_;rintro e u' w'' ⟨rfl,rfl,jF,q1,q2,q3⟩;simp[Leaves,settle,results,results88,go_sem,q1,q2,q3];exact⟨w1,k9,jF,rfl⟩
end Go.Proofs.Bm
namespace Go.Proofs
open Go.Proofs.Tryz
open Go.Shelf
def Tryz.Mk:Go.Shelf.Ren:=⟨fun|112=>215|n=>n,fun|28=>62|3=>3|4=>4|0=>0|n=>n,fun|n=>n⟩
def Tryz.LU:Go.Proofs.Lays.n112 prog Tryz.Mk:=by repeat' first|(intros;kernel_rfl)|decide|constructor
def Tryz.nv:Go.Shelf.Ren:=⟨fun|21=>214|27=>269|28=>270|35=>294|39=>215|n=>n,fun|22=>62|3=>3|4=>4|0=>0|n=>n,fun|n=>n⟩
def Tryz.qX:Go.Proofs.Lays2.n21 prog Tryz.nv:=by repeat' first|(intros;kernel_rfl)|decide|constructor
end Go.Proofs
namespace Go.Proofs.Bm
open Go.Proofs.Tryz
open Go.RowKit Go.Sort
variable {n i q q' g:Nat}{Q:YT}{W:YC}{d v x:YE}{α:Type}{rest:RM}{o:RZ}{a:Act}{m A B:Int}{nm:YR}{first cap:Zt}
namespace OwnI
open Go.Proofs.Tryz
variable {w w':YC}{v:YE}{k:Wr}{xs:WV}
def BI{b off cap:Nat}{cur:Zt}(h1:w.heap[b]?=some (.cells cur 3 (0,0)))(h2:xs.length<=cap)(h3:cap<=maxLen)(h4:off+cap<=cur.size)(h5:∀j x,xs[j]?=some x->cur[off+j]?=some (iV x)):OwnI w (sV (some ⟨b,off,none⟩) xs.length cap) (some b) xs:=by
 refine .inr ⟨b,off,cap,cur,rfl,rfl,h1,h2,h3,h4,?_⟩;apply List.ext_getElem?
 intro j;rw[B3];split
 .rename_i hj;rw[Qv,qC,ck hj];have:=h5 j _ (ck hj);simpa using this
 .rename_i hj;rw[W6 bO]
def row{b off:Nat}{n cap:Nat}(h:OwnI w (sV (some ⟨b,off,none⟩) n cap) k xs):n=xs.length/\k=some b/\xs.length<=cap/\cap<=maxLen/\∃cur,w.heap[b]?=some (.cells cur 3 (0,0))/\off+cap<=cur.size/\∀j x,xs[j]?=some x->cur[off+j]?=some (iV x):=by
 rcases h with⟨h,_⟩|⟨b',VP,xV,cur,h1,rfl,h3,h4,h5,h6,h7⟩
 .cases h
 .cases h1;refine⟨rfl,rfl,h4,h5,cur,h3,h6,λj x hj=>?_⟩;have hl:=(dk.1 hj).1;have:=gq (λl=>l[j]?) h7;simp only[B3,hl,xN,Qv,qC,hj] at this;simpa using this
def cases(h:OwnI w v k xs):(v=sV none 0 0/\k=none/\xs=[])∨∃b off cap,v=sV (some ⟨b,off,none⟩) xs.length cap/\k=some b:=by
 rcases h with h|⟨b',VP,xV,cur,h1,h2,_⟩
 .exact .inl h
 .exact .inr ⟨_,_,_,h1,h2⟩
def aa7{base:Nat}{n:Nat}{vs:YT}(h:w.ownsRow base 3 1 v n vs)(hn:n=xs.length)(hv:vs=xs.map (Value.int .i64)):OwnI w v v.ownBlock xs:=by
 obtain⟨h1,h2|⟨g,cap,cur,h3,h4,h5,h6,h7,h8,h9⟩⟩:=h
 .obtain⟨rfl,h0⟩:=h2;rw[hn] at h0;exact .inl ⟨rfl,rfl,JK h0⟩
 .subst h3;subst hn;refine .inr ⟨g,0,cap,cur,rfl,rfl,h5,h6,h7,by rw[h8];omega,?_⟩;simpa[hv] using h9
def cell{b off:Nat}{n cap:Nat}(h:OwnI w (sV (some ⟨b,off,none⟩) n cap) k xs){j:Nat}{x:Int}(hj:xs[j]?=some x):w.cell? ⟨b,off+j,none⟩=some (iV x):=by obtain⟨_,_,_,_,cur,h1,_,h2⟩:=h.row;simp[World.cell?,h1,h2 j x hj]
def JA{b off:Nat}{n cap:Nat}(h:OwnI w (sV (some ⟨b,off,none⟩) n cap) k xs){j:Nat}(hj:j < cap):(w.cell? ⟨b,off+j,none⟩).isSome=true:=by obtain⟨_,_,_,_,cur,h1,h3,h2⟩:=h.row;have:off+j < cur.size:=ab;simp[World.cell?,h1,this]
def frozen{b off:Nat}{n cap:Nat}(h:OwnI w (sV (some ⟨b,off,none⟩) n cap) k xs)(o:Nat):w.frozen? ⟨b,o,none⟩=false:=by obtain⟨_,_,_,_,cur,h1,h3,h2⟩:=h.row;simp[World.frozen?,h1]
end OwnI
def jg(b:Nat)(e:UB)(fr:RG):∀(vs:YT) (o:Nat) (w:YC) (cur:Zt),w.heap[b]?=some (.cells cur e fr)->
  ∃Qj,(w.setCells b o vs).heap[b]?=some (.cells Qj e fr)/\Qj.size=cur.size/\(∀i,(i < o∨o+vs.length<=i)->Qj[i]?=cur[i]?)/\(∀j v,vs[j]?=some v->o+j < cur.size->Qj[o+j]?=some v)
 |[],o,w,cur,h=>⟨cur,h,rfl,λ_ _=>rfl,λj v hj=>by simp at hj⟩
 |v::r,o,w,cur,h=>by
  have h1:(w.setCell ⟨b,o,none⟩ v).heap[b]?=some (.cells (cur.setIfInBounds o v) e fr):=by exact uw
  obtain⟨Qj,g1,g2,g3,g4⟩:=jg b e fr r (o+1) _ _ h1;refine⟨Qj,g1,by simpa using g2,λi hi=>?_,λj x hj bQ=>?_⟩
  .simp only[dC] at hi;rw[g3 i ab,IX,aE ab]
  .cases j with
   |zero=>simp at hj;subst hj;rw[fS,g3 o ab,IX,aI rfl,aI ab]
   |succ j=>have:=g4 j x bO (by simpa using(by omega:o+1+j < cur.size));rwa[show o+(j+1)=o+1+j by omega]
def jC(b:Nat):∀(vs:YT) (o:Nat) (w:YC),Kept (λj=>j=b) w (w.setCells b o vs)
 |[],_,w=>Kept.refl _ w
 |v::r,o,w=>(Kept.setCell (F:=λj=>j=b) (Kept.refl _ w) (p:=⟨b,o,none⟩) (λ_=>rfl) v).trans' (jC b r (o+1) _)
def Wh[Inhabited α](wP:α->Value)(w:YC)(q b off:Nat)(d:Array α):Kept (λj=>j=b) w (putRow wP (Sort.ahead w q) b off d):=by refine⟨rfl,rfl,rfl,by simp[Sort.ahead],λj hj hn=>?_⟩;show((Sort.ahead w q).heap.modify b _)[j]?=_;rw[Zn,aE (λe=>hn e.symm)];rfl
def YV[Inhabited α](wP:α->Value)(w:YC)(q b off:Nat)(d:Array α){cur:Zt}{e:UB}{fr:RG}(h:w.heap[b]?=some (.cells cur e fr)):(putRow wP (Sort.ahead w q) b off d).heap[b]?=some (.cells (putCells wP off d cur) e fr):=by show((Sort.ahead w q).heap.modify b _)[b]?=_;rw[Zn,aI rfl];show Option.map _ w.heap[b]?=_;rw[h];rfl
def TD[Inhabited α](wP:α->Value)(off:Nat)(d:Array α)(cur:Zt)(j:Nat)(hj:j < d.size)(hc:off+j < cur.size):(putCells wP off d cur)[off+j]?=some (wP d[j]!):=by unfold putCells;rw[Array.getElem?_mapIdx,Array.getElem?_eq_getElem hc];simp[hj]
def Row(w:YC)(k k':Wr):Prop:=k'=k∨∀b,k'=some b->w.heap.size<=b
variable {w:YC}{v:YE}{k:Wr}{xs:WV}
def Wi(h:OwnI w v k xs):Calls prog 215 #[v] w λe w'=>e=.returned (.tuple #[])/\OwnI w' v k xs.reverse/\Kept (λj=>k=some j) w w':=by
 rcases h.cases with⟨rfl,rfl,rfl⟩|⟨b,off,cap,rfl,rfl⟩
 .refine(Any.slices_Reverse_int_empty Tryz.LU none 0 w).mono ?_;rintro e w' ⟨rfl,rfl⟩;exact⟨rfl,h,Kept.refl _ _⟩
 .obtain⟨_,_,h1,h2,cur,h3,h4,h5⟩:=h.row;refine(Any.slices_Reverse_int Tryz.LU b off cap xs w ?_ (by simp only[maxLen] at h2;omega)).mono ?_
  .intro j hj;have WA:j < xs.length:=bO;have:=h.cell (ck WA);exact⟨by rw[this];simp[WA],h.frozen _⟩
  rintro e w' ⟨rfl,q,rfl⟩;refine⟨rfl,?_,(Wh _ _ _ _ _ _).mono nX⟩;have:=OwnI.BI (xs:=xs.reverse) (off:=off) (cap:=cap) (YV (Value.int .i64) w q b off xs.reverse.toArray h3) kW h2 (by simpa[putCells] using h4) ?_
  .simpa using this
  .intro j x hj;have hl:=(dk.1 hj).1;have hl':j < xs.length:=na;rw[TD _ _ _ _ _ (by simpa using hl') ab];simp only[dk] at hj;obtain⟨_,hj⟩:=hj;simp[hl',<-hj]
def O8(h:OwnI w v k xs)(i:Nat)(hi:i<=xs.length)(hn:xs.length<=1000000)(x:Int)(vb c:Nat)(cv:Zt)(hv:w.heap[vb]?=some (.cells cv 3 (0,0)))(hx:cv[0]?=some (.int .i64 x))(cR:k≠some vb):Calls prog 214 #[v,iV i,sV (some ⟨vb,0,none⟩) 1 c] w λe w'=>∃v' k',e=.returned v'/\OwnI w' v' k' (xs.take i++x::xs.drop i)/\Kept (λj=>k=some j) w w'/\Row w k k':=by
 have hvs:∀j u,[Value.int .i64 x][j]?=some u->w.cell? ⟨vb,0+j,none⟩=some u:=by
  intro j u hj
  cases j with
  |zero=>simp at hj;subst hj;simp[World.cell?,hv,hx]
  |succ j=>simp at hj
 have abk:(Value.int .i64 0).cells.size=1:=rfl;have oc:∀u∈[Value.int .i64 x],u.oneCell'=true:=by intro u hu;simp at hu;subst hu;rfl
 have ocs:∀u∈xs.map (Value.int .i64),u.oneCell'=true:=by intro u hu;simp at hu;obtain⟨y,_,rfl⟩:=hu;rfl
 have hlen:(xs.take i++x::xs.drop i).length=xs.length+1:=aH;have LZ:∀j y,(xs.take i++x::xs.drop i)[j]?=some y->(j < i/\xs[j]?=some y)∨(j=i/\y=x)∨(i < j/\xs[j - 1]?=some y):=by
  intro j y hj;rcases Nat.lt_trichotomy j i with bQ|heq|hgt
  .rw[rU aH,B3,aI bQ] at hj;exact .inl ⟨bQ,hj⟩
  .subst heq;rw[A0 aH] at hj;simp[MO hi] at hj;exact .inr (.inl ⟨rfl,hj.symm⟩)
  .rw[A0 aH,sK,MO hi] at hj;rw[show j - i=(j - 1 - i)+1 by omega,List.getElem?_cons_succ,Qv,show i+(j - 1 - i)=j - 1 by omega] at hj;exact .inr (.inr ⟨hgt,hj⟩)
 rcases h.cases with⟨rfl,rfl,rfl⟩|⟨b,off,cap,rfl,rfl⟩
 .obtain rfl:i=0:=by simpa using hi
  refine(Any2.slices_Insert_int_end_grow Tryz.qX none 0 0 vb 0 1 c [] [iV x] w ab ab ab ab rfl rfl (λ_=>rfl) (λa ha=>by cases ha) hvs oc).mono ?_;rintro e w' ⟨rfl,rfl⟩;rw[show Tryz.nv.t 3=3 from rfl];have hg:=grownCap_ge w (0+1) 0 3;have hm:=Rp w (0+1) 0 3 cP;refine⟨_,some w.heap.size,rfl,?_,((Kept.refl _ w).drew).alloc _,.inr sv⟩;refine OwnI.BI (w:=w.drew.alloc (cO (([]++[Value.int .i64 x]).toArray++Builtin.zeroCells (Value.int .i64 0).cells (grownCap w (0+1) 0 3 - (0+1))) 3)) (b:=w) (off:=0) (cap:=grownCap w (0+1) 0 3) (xs:=[x]) we (by simpa using hg) hm ?_ ?_
  .exact tZ
  .intro j y hj
   cases j with
   |zero=>simp at hj;subst hj;rw[M4 ai];rfl
   |succ j=>simp at hj
 .obtain⟨_,_,h1,h2,cur,h3,h4,h5⟩:=h.row;have fY:∀j u,(xs.map (Value.int .i64))[j]?=some u->w.cell? ⟨b,off+j,none⟩=some u:=by
   intro j u hj;rw[qC] at hj
   cases asJ:xs[j]? with
   |none=>simp[asJ] at hj
   |some y=>simp[asJ] at hj;subst hj;exact h.cell asJ
  have h63:cap<=9223372036854775807:=by simpa only[maxLen] using h2
  have hb:b≠vb:=λe=>cR (by rw[e]);have mn:w.heap.size≠b:=by have:=(aQ.1 h3).1;omega
  by_cases yR:xs.length+1<=cap
  .by_cases sU:i=xs.length
   .subst sU;refine(Any2.slices_Insert_int_end_room Tryz.qX b off xs.length cap vb 0 1 c [iV x] w ab yR h63 rfl (λj hj=>?_) (λj hj=>h.frozen _) hvs oc).mono ?_
    .rw[xP];exact h.JA ab
    rintro e w' ⟨rfl,rfl⟩;obtain⟨Qj,g1,g2,g3,g4⟩:=jg b 3 (0,0) [iV x] (off+xs.length) w cur h3;refine⟨_,some b,rfl,?_,(jC b _ _ w).mono nX,.inl rfl⟩;have:=OwnI.BI (off:=off) (cap:=cap) (xs:=xs.take xs.length++x::xs.drop xs.length) g1 ab h2 ab ?_
    .rwa[hlen] at this
    .intro j y hj;rcases LZ j y hj with⟨bQ,hj⟩|⟨rfl,rfl⟩|⟨hgt,hj⟩
     .rw[g3 _ ab];exact h5 j y hj
     .exact Ek
     .exact ko
   .refine(Any2.slices_Insert_int_shift Tryz.qX b off xs.length cap i vb 0 1 c (xs.map (Value.int .i64)) [iV x] w ab ab yR h63 (λe=>hb e.symm) ai rfl fY (λj hj=>h.JA ab) (λj hj=>h.frozen _) hvs ocs oc
     3 3 cv.size cur.size (by simp[World.shape?,hv]) (by simp[World.shape?,h3]) ab HW HW).mono ?_
    rintro e w' ⟨rfl,rfl⟩;obtain⟨amz,g1,g2,g3,g4⟩:=jg b 3 (0,0) ((xs.map (Value.int .i64)).drop i) (off+(i+1)) w.drew cur h3;obtain⟨Qj,e1,e2,e3,e4⟩:=jg b 3 (0,0) [iV x] (off+i) _ amz g1;refine⟨_,some b,rfl,?_,(((Kept.refl _ w).drew).trans' ((jC b _ _ _).trans' (jC b _ _ _))).mono nX,.inl rfl⟩;have:=OwnI.BI (off:=off) (cap:=cap) (xs:=xs.take i++x::xs.drop i) e1 ab h2 ab ?_
    .rwa[hlen] at this
    .intro j y hj;rcases LZ j y hj with⟨bQ,hj⟩|⟨rfl,rfl⟩|⟨hgt,hj⟩
     .rw[e3 _ ab,g3 _ ab];exact h5 j y hj
     .have:=e4 0 (iV y) rfl ab;simpa using this
     .have hl:=(dk.1 hj).1;rw[e3 _ aH];have:=g4 (j - 1 - i) (iV y) Hd ab;rwa[show off+(i+1)+(j - 1 - i)=off+j by omega] at this
  .have hg:=grownCap_ge w (xs.length+1) cap 3;have hm:=Rp w (xs.length+1) cap 3 wj;by_cases sU:i=xs.length
   .subst sU;refine(Any2.slices_Insert_int_end_grow Tryz.qX (some ⟨b,off,none⟩) xs.length cap vb 0 1 c (xs.map (Value.int .i64)) [iV x] w ab h1 ab ab ai rfl (λe=>by cases e) (λa ha j u hj=>by cases ha;rw[MP];exact fY j u hj) hvs oc).mono ?_;rintro e w' ⟨rfl,rfl⟩;rw[show Tryz.nv.t 3=3 from rfl];refine⟨_,some w.heap.size,rfl,?_,((Kept.refl _ w).drew).alloc _,.inr sv⟩;have:=OwnI.BI (w:=w.drew.alloc (cO ((xs.map (Value.int .i64)++[Value.int .i64 x]).toArray++Builtin.zeroCells (Value.int .i64 0).cells (grownCap w (xs.length+1) cap 3 - (xs.length+1))) 3)) (b:=w) (off:=0) (cap:=grownCap w (xs.length+1) cap 3) (xs:=xs.take xs.length++x::xs.drop xs.length) we ab hm ?_ ?_
    .rwa[hlen] at this
    .exact tZ
    .intro j y hj;rcases LZ j y hj with⟨bQ,hj⟩|⟨rfl,rfl⟩|⟨hgt,hj⟩
     .rw[fi,M4 aH,Xe,rU (by simpa using bQ),qC,hj];rfl
     .rw[fi,M4 ai,Xe,A0 ai];simp
     .exact ko
   .refine(Any2.slices_Insert_int_grow Tryz.qX b off xs.length cap i vb 0 1 c (xs.map (Value.int .i64)) [iV x] w ab ab h1 ab ab ai rfl fY hvs ocs oc).mono ?_;rintro e w' ⟨rfl,rfl⟩;rw[show Tryz.nv.t 3=3 from rfl];obtain⟨W,hW⟩:∃W,W=(w.alloc (cO (((xs.map (Value.int .i64)).take i).toArray++Builtin.zeroCells (Value.int .i64 0).cells (xs.length+1 - i)++Builtin.zeroCells (Value.int .i64 0).cells (grownCap w (xs.length+1) cap 3 - (xs.length+1))) 3)).drew:=⟨_,rfl⟩
    have hr:W.heap[w.heap.size]?=some (.cells (((xs.map (Value.int .i64)).take i).toArray++Builtin.zeroCells (Value.int .i64 0).cells (xs.length+1 - i)++Builtin.zeroCells (Value.int .i64 0).cells (grownCap w (xs.length+1) cap 3 - (xs.length+1))) 3 (0,0)):=by rw[hW];show(w.alloc _).heap[_]?=_;rw[heap_alloc];exact aI rfl
    have dM:((((xs.map (Value.int .i64)).take i).toArray++Builtin.zeroCells (Value.int .i64 0).cells (xs.length+1 - i)++Builtin.zeroCells (Value.int .i64 0).cells (grownCap w (xs.length+1) cap 3 - (xs.length+1)))).size=grownCap w (xs.length+1) cap 3:=by exact tZ
    obtain⟨amz,g1,g2,g3,g4⟩:=jg w.heap.size 3 (0,0) [iV x] i W _ hr;obtain⟨Qj,e1,e2,e3,e4⟩:=jg w.heap.size 3 (0,0) ((xs.map (Value.int .i64)).drop i) (i+1) (W.setCells w.heap.size i [iV x]).drew amz g1;have dZ:Kept (λj=>some b=some j) w W:=by rw[hW];exact((Kept.refl _ w).alloc _).drew
    have ao6:∀vs o (V:YC),Kept (λj=>some b=some j) w V->Kept (λj=>some b=some j) w (V.setCells w.heap.size o vs):=by intro vs o V hV;exact hV.trans (jC w.heap.size vs o V) nV
    refine⟨_,some w.heap.size,rfl,?_,?_,.inr sv⟩
    .rw[<-hW];have:=OwnI.BI (off:=0) (cap:=grownCap w (xs.length+1) cap 3) (xs:=xs.take i++x::xs.drop i) e1 ab hm ab ?_
     .rwa[hlen] at this
     .intro j y hj;rw[fi];rcases LZ j y hj with⟨bQ,hj⟩|⟨rfl,rfl⟩|⟨hgt,hj⟩
      .rw[e3 _ ab,g3 _ ab,M4 (by simp only[Zl,JG,Zm,abk,j0,Af,sK,dC,mc];omega),M4 aH];simp[B3,bQ,hj]
      .rw[e3 _ ab];exact Ek
      .have hl:=(dk.1 hj).1;have:=e4 (j - 1 - i) (iV y) Hd ab;rwa[show i+1+(j - 1 - i)=j by omega] at this
    .rw[<-hW];exact ao6 _ _ _ (ao6 _ _ _ dZ).drew
open Go.Proofs.Tryz
open Go.RowKit Go.Sort
variable {w:YC}{v:YE}{k:Wr}{xs:WV}
def ao7:(prog.info? 3).map (λi=>(i.zero,i.size,i.bytes))=some (some (.int .i64 0),1,8):=by kernel_rfl
def JB(w:YC)(v:YE)(t:UB):(w.alloc (cO #[v] t)).cell? ⟨w,0,none⟩=some v:=by unfold World.cell?;rw[heap_alloc,aI rfl];rfl
def TE(t0:UB)(h:OwnI w v k xs)(hn:xs.length<=1000000)(x:Int)(vb c:Nat)(hx:w.cell? ⟨vb,0,none⟩=some (iV x)):∃v' k' w',(Builtin.append_ #[62,62] t0 #[v,sV (some ⟨vb,0,none⟩) 1 c]).run prog w=.ok v' w'/\OwnI w' v' k' (xs++[x])/\Kept (λj=>k=some j) w w'/\Row w k k':=by
 obtain⟨i,hi,hz,dM,dY⟩:=dN ao7;have agH:∀j u,[Value.int .i64 x][j]?=some u->w.cell? ((⟨vb,0,none⟩:Addr).add j)=some u:=by
  intro j u hj
  cases j with
  |zero=>simp at hj;subst hj;simpa[Addr.add] using hx
  |succ j=>simp at hj
 have oc:∀u∈[Value.int .i64 x],u.oneCell'=true:=by intro u hu;simp at hu;subst hu;rfl
 rcases h.cases with⟨rfl,rfl,rfl⟩|⟨b,off,cap,rfl,rfl⟩
 .obtain⟨v',w',gV,r1,r2,_⟩:=MW (P:=prog) w w.heap.size 62 t0 3 i _ 1 8 underlying62 hi hz dM dY rfl ab (sV none 0 0) 0 [] (Rm w _ 3 1) ⟨vb,0,none⟩ 1 c [iV x] rfl agH oc cP ab (aM _);refine⟨v',v'.ownBlock,w',gV,OwnI.aa7 r1 rfl rfl,?_,?_⟩
  .exact(Kept.refl _ w).grown r2 sy
  .exact .inr (λb hb=>(r1.lt b hb).1)
 .obtain⟨_,_,h1,h2,cur,h3,h4,h5⟩:=h.row;by_cases yR:xs.length+1<=cap
  .have gV:=run_append_room_cells (P:=prog) w 62 t0 3 i underlying62 hi b off xs.length cap ⟨vb,0,none⟩ 1 c [iV x] (by simp[dM]) agH oc yR (λj hj=>by rw[dM,B6,xP];exact h.JA (by simp at hj;omega)) (λj hj=>h.frozen _);rw[dM,B6] at gV;obtain⟨Qj,g1,g2,g3,g4⟩:=jg b 3 (0,0) [iV x] (off+xs.length) w cur h3;refine⟨_,some b,_,gV,?_,(jC b _ _ w).mono nX,.inl rfl⟩;have:=OwnI.BI (off:=off) (cap:=cap) (xs:=xs++[x]) g1 (by simpa using yR) h2 ab ?_
   .simpa using this
   .intro j y hj;by_cases bQ:j < xs.length
    .rw[rU bQ] at hj;rw[g3 _ ab];exact h5 j y hj
    .have hl:=(dk.1 hj).1;have:j=xs.length:=by simp at hl;omega
     subst this;simp at hj;subst hj;have:=g4 0 (iV x) rfl ab;simpa using this
  .obtain⟨v',w',gV,r1,r2⟩:=WY (P:=prog) w 62 t0 3 i _ 1 8 underlying62 hi hz dM dY rfl ab ⟨b,off,none⟩ xs.length cap (xs.map (Value.int .i64)) ai (λj u hj=>by
    rw[MP];rw[qC] at hj
    cases asJ:xs[j]? with
    |none=>simp[asJ] at hj
    |some y=>simp[asJ] at hj;subst hj;exact h.cell asJ) ⟨vb,0,none⟩ 1 c [.int .i64 x] rfl agH ab iZ ab
   refine⟨v',v'.ownBlock,w',gV,OwnI.aa7 r1 ai ai,?_,?_⟩
   .exact(Kept.refl _ w).grown r2 sy
   .exact .inr (λb hb=>(r1.lt b hb).1)
def xt{ops:Ws}{Q:VN}(hg:o.guard=none)(s x:Rj)(o7:o.op=Op.call {callee:=Callee.builtin Builtin.append,args:=#[s,x],argTypes:=#[62,62]})
  (hs:a.eval s=v) (y:Int) (vb c:Nat) (hx:a.eval x=sV (some ⟨vb,0,none⟩) 1 c) (h:OwnI w v k xs) (hn:xs.length<=1000000) (hy:w.cell? ⟨vb,0,none⟩=some (iV y))
  (hK:∀v' k' w',OwnI w' v' k' (xs++[y])->Kept (λj=>k=some j) w w'->Row w k k'->wpList prog ops Q rest (a.put o.dst v') w'):
  wpList prog ops Q (o::rest) a w:=by
 refine MX hg λK H0=>?_;obtain⟨v',k',w',gV,r1,r2,r3⟩:=TE o.type h hn y vb c hy;unfold Oper.wp;simp[execOp,o7,resolve,invoke,builtin,hs,hx,gV,Result.andThen];exact H0 _ _ (hK v' k' w' r1 r2 r3)
def aa8(c:Nat)(a x:Int)(w:YC)(hc:w.cell? ⟨c,0,none⟩=some (iV a)):Calls prog 219 #[iV x,.pointer (some ⟨c,0,none⟩)] w λe w'=>e=.returned (.bool (decide (a<=x)))/\w=w':=by go_enter func219,ntmps219;go_wp2;go_ret;exact⟨by simp,rfl⟩
open Go.RowKit Go.Maps
structure Lay (w:YC) (n:Nat) (W:YC) (L:List (ByteArray×Value)) (Q:YT):Prop where
 D:dG W (n+1+1+1) L
 K:W.ownsMap prog 3 (plainElem (H:=Unit) prog 3) n 0 (.map [])
 box:W.heap[n+1+1]?=some (.cells #[Value.pointer (some ⟨n+1,0,none⟩)] 157 (0,0))
 qs:∀j v,Q[j]?=some v->W.heap[n+4+j]?=some (.cells #[v] 223 (0,0))
 below:Below n w W
 size:W.heap.size=n+4+Q.length
def Mod(n:Nat)(W:YC)(d:YE):Prop:=W.heap[n+1]?=some (.cells #[Value.slice none 0 0,Value.map (some n),Value.int IntKind.i64 0,Value.int IntKind.i64 (-1),d] 220 (0,0))
section
variable {w W w':YC}{n:Nat}{L L':List (ByteArray×Value)}{Q:YT}{d u:YE}
def Lay.gX(h:Lay w n W L Q):W.cell? ⟨n+1+1,0,none⟩=some (.pointer (some ⟨n+1,0,none⟩)):=by simp[World.cell?,h.box]
def Mod.c4(h:Mod n W d):W.cell? ⟨n+1,4,none⟩=some d:=by unfold Mod at h;simp[World.cell?,h]
def Mod.f4(h:Mod n W d):W.frozen? ⟨n+1,4,none⟩=false:=by unfold Mod at h;simp[World.frozen?,h]
def Lay.grow(h:Lay w n W L Q)(hD:dG w' (n+1+1+1) L')(hg:W.grownBy w' (some (n+1+1+1)))(hs:w'.heap.size=W.heap.size):Lay w n w' L' Q:=
 ⟨hD,h.K.kept hg aH,(hg.block _ (by have:=h.size;omega) ai).trans h.box,
  λj v hj=>(hg.block _ (aQ.1 (h.qs j v hj)).1 aH).trans (h.qs j v hj),
  h.below.grown hg (by have:=h.size;omega) (by rintro k ⟨⟩;omega),hs.trans h.size⟩
def Mod.grow(h:Mod n W d)(hg:W.grownBy w' (some (n+1+1+1))):Mod n w' d:=
 (hg.block _ (aQ.1 h).1 ai).trans h
def heap_setCell(w:YC)(a:Addr)(u:YE)(k:Nat)(h:k≠a.block):(w.setCell a u).heap[k]?=w.heap[k]?:=ll _ _ _ _ h
def heap_setCell_same(w:YC)(b o:Nat)(u:YE){c:Zt}{e:UB}{fr:RG}(h:w.heap[b]?=some (.cells c e fr)):(w.setCell ⟨b,o,none⟩ u).heap[b]?=some (.cells (c.setIfInBounds o u) e fr):=by exact uw
def Lay.adi{o:Nat}(h:Lay w n W L Q)(e:w'=W.setCell ⟨n+1,o,none⟩ u):Lay w n w' L Q:=by
 subst e;refine⟨?_,h.K.setCell (show n≠n+1 by omega) _,?_,?_,h.below.setCell ai _,?_⟩
 .unfold dG;rw[heap_setCell _ _ _ _ (show n+1+1+1≠n+1 by omega)];exact h.D
 .rw[heap_setCell _ _ _ _ (show n+1+1≠n+1 by omega)];exact h.box
 .intro j v hj;rw[heap_setCell _ _ _ _ (show n+4+j≠n+1 by omega)];exact h.qs j v hj
 .simpa[World.setCell] using h.size
def Mod.adi(h:Mod n W d)(e:w'=W.setCell ⟨n+1,4,none⟩ u):Mod n w' u:=by subst e;unfold Mod;rw[heap_setCell_same _ _ _ _ h];rfl
def Lay.drew(h:Lay w n W L Q):Lay w n W.drew L Q:=⟨h.D,h.K,h.box,h.qs,h.below.drew,h.size⟩
def Mod.drew(h:Mod n W d):Mod n W.drew d:=h
def Lay.alloc(h:Lay w n W L Q)(v:YE):Lay w n (W.alloc (cO #[v] 223)) L (Q++[v]):=by
 have hs:=h.size;refine⟨?_,h.K.alloc _,?_,?_,h.below.alloc ab _,by simp;omega⟩
 .unfold dG;rw[heap_alloc,if_neg ab];exact h.D
 .rw[heap_alloc,aE ab];exact h.box
 .intro j x hj;rw[heap_alloc];by_cases e:j=Q.length
  .subst e;simp at hj;subst hj;rw[aI hs.symm]
  .have bQ:j < Q.length:=by have:=(dk.1 hj).1;simp at this;omega
   rw[aE ab];exact h.qs j x (by rwa[rU bQ] at hj)
def Mod.alloc(h:Mod n W d)(o:Obj):Mod n (W.alloc o) d:=by unfold Mod;have bQ:=(aQ.1 h).1;rw[heap_alloc,aE ab];exact h
end
def Z76(w:YC):(zeroValue 221).run prog w=.ok .nilFunc w:=by kernel_rfl
abbrev W4(w:YC):World:=((((w.alloc (Obj.map #[] 0)).alloc (Obj.cells #[Value.slice none 0 0,Value.map (some w.heap.size),Value.int IntKind.i64 0,Value.int IntKind.i64 (-1),Value.map none] 220)).alloc
        (Obj.cells #[Value.pointer (some {block:=w.heap.size+1,off:=0})] 157)).alloc (Obj.map #[] 0))
def adg(w:YC):Lay w w.heap.size (W4 w) [] []:=by
 unfold W4;refine⟨?_,(((World.ownsMap_made w _ _ _).alloc _).alloc _).alloc _,?_,?_,?_,?_⟩
 .unfold dG;simp only[heap_alloc,dB];split
  .rfl
  .simp_all
 .exact Ei
 .intro j v hj;simp at hj
 .exact((((iG _ w).alloc ai _).alloc ai _).alloc aH _).alloc aH _
 .simp
def adh(w:YC):Mod w.heap.size (W4 w) (.map none):=by unfold Mod W4;exact Ei
def acE{w:YC}{L:List (ByteArray×Value)}(h:Lay w n W L Q)(hm:Mod n W d)(k:YR)(v:YE)(dq:lT k L 0=none):∃w1 w2,(Instr.mapEntry 218 (.map (some (n+1+1+1))) (.string k)).run prog W=.ok (.tuple #[.nilFunc,iV L.length]) w1/\(Instr.entryStore 218 (.map (some (n+1+1+1))) (iV L.length) v).run prog w1=.ok () w2/\(w1.cell? ⟨n+1+1,0,none⟩=some (.pointer (some ⟨n+1,0,none⟩))/\w1.cell? ⟨n+1,4,none⟩=some d)/\Lay w n w2 (L++[(k,v)]) Q/\Mod n w2 d:=by
 obtain⟨w1,hr1,hD1,PE,rG⟩:=Jj (P:=prog) underlying218 underlying9 Z76 h.D dq;have x1:=h.grow hD1 PE rG;have y1:=hm.grow PE;obtain⟨w2,Qx,hD2,Of,xB⟩:=yU (P:=prog) (T:=218) hD1 (i:=L.length) ai v;have e:setAt (L++[(k,.nilFunc)]) L.length v=L++[(k,v)]:=by
  have:∀(l:List (ByteArray×Value)) (p:ByteArray×Value),setAt (l++[p]) l.length v=l++[(p.1,v)]:=by
   intro l p;induction l with
   |nil=>rfl
   |cons a r ih=>simpa[setAt] using ih
  exact this _ _
 rw[e] at hD2;exact⟨w1,w2,hr1,Qx,⟨x1.gX,y1.c4⟩,x1.grow hD2 Of xB,y1.grow Of⟩
def Qk{w:YC}{L:List (ByteArray×Value)}(h:Lay w n W L Q)(hm:Mod n W d)(k:YR)(v x:YE)(dq:lT k L 0=some (i,x))(hi:i < L.length):∃w2,(Instr.mapEntry 218 (.map (some (n+1+1+1))) (.string k)).run prog W=.ok (.tuple #[x,i]) W/\(Instr.entryStore 218 (.map (some (n+1+1+1))) (iV i) v).run prog W=.ok () w2/\Lay w n w2 (setAt L i v) Q/\Mod n w2 d:=by have hr1:=Jk (P:=prog) underlying218 underlying9 h.D dq;obtain⟨w2,Qx,hD2,Of,xB⟩:=yU (P:=prog) (T:=218) h.D hi v;exact⟨w2,hr1,Qx,h.grow hD2 Of xB,hm.grow Of⟩
inductive rT {α:Type}:List α->α->List α->Prop
 |nil {x:α}:rT [] x [x]
 |cons {a x:α} {l l':List α} (h:rT l x l'):rT (a::l) x (a::l')
def rT.eq{l l':List α}{x:α}(h:rT l x l'):l++[x]=l':=by
 induction h with
 |nil=>rfl
 |cons h ih=>rw[qF,ih]
inductive Wj:Nat->List (ByteArray×Value)->Value->List (ByteArray×Value)->Prop
 |z {k:YR} {u v:YE} {l:List (ByteArray×Value)}:Wj 0 ((k,u)::l) v ((k,v)::l)
 |s {a:ByteArray×Value} {i:Nat} {v:YE} {l l':List (ByteArray×Value)} (h:Wj i l v l'):Wj (i+1) (a::l) v (a::l')
def Wj.eq{l l':List (ByteArray×Value)}(h:Wj i l v l'):setAt l i v=l'/\i < l.length:=by
 induction h with
 |z=>exact⟨rfl,by simp⟩
 |s h ih=>exact⟨by rw[<-ih.1];rfl,by simpa using ih.2⟩
abbrev mv(g n:Nat):Value:=.func (.func g) #[.pointer (some ⟨n+1,0,none⟩)] #[]
def Us{ops:Ws}{R:VN}{m k v:Rj}{s:YR}{w:YC}{L L':List (ByteArray×Value)}(h:Hid (Lay w n W L Q/\Mod n W d))
  (K:∀w',Hid (Lay w n w' L' Q/\Mod n w' d)->w'.cell? ⟨n+1+1,0,none⟩=some (.pointer (some ⟨n+1,0,none⟩))->w'.cell? ⟨n+1,4,none⟩=some d->wpList prog ops R rest (a.put o.dst undef) w')
  (hg:o.guard=none:=by exact rfl) (ho:o.op=.insert 218 m k v:=by exact rfl) (hm:a.eval m=.map (some (n+1+1+1)):=by exact rfl) (hk:a.eval k=.string s:=by exact rfl) (hv:a.eval v=x:=by exact rfl) (dq:lT s L 0=none:=by exact rfl)
  (hs:rT L (s,x) L':=by repeat (first|exact rT.nil|apply rT.cons)):wpList prog ops R (o::rest) a W:=
 aR hg ho hm hk hv underlying218 underlying9 h.1.D dq λw' h1 h2 h3=>by
  have x1:=h.1.grow h1 h2 h3;have x2:=h.2.grow h2;rw[hs.eq] at x1;exact K w' ⟨x1,x2⟩ x1.gX x2.c4
def NB{w:YC}{L:List (ByteArray×Value)}{Q':YT}(h:Hid (Lay w n W L Q/\Mod n W d))(v:YE)(hs:rT Q v Q':=by repeat (first|exact rT.nil|apply rT.cons)):Hid (Lay w n (W.alloc (cO #[v] 223)) L Q'/\Mod n (W.alloc (cO #[v] 223)) d):=hs.eq▸⟨h.1.alloc v,h.2.alloc _⟩
def abo{w:YC}{L:List (ByteArray×Value)}(h:Hid (Lay w n W L Q/\Mod n W d)):Hid (Lay w n W.drew L Q/\Mod n W.drew d):=⟨h.1.drew,h.2.drew⟩
def yB{w:YC}{L L':List (ByteArray×Value)}(h:Hid (Lay w n W L Q/\Mod n W d))(k:YR)(v:YE)(dq:lT k L 0=none:=by exact rfl)
  (hs:rT L (k,v) L':=by repeat (first|exact rT.nil|apply rT.cons)) (hm:(L.length:Int)=m:=by simp only[dC,mc,fi,Nat.reduceAdd,Int.cast_ofNat_Int];try rfl):
  ∃w1 w2,(Instr.mapEntry 218 (.map (some (n+1+1+1))) (.string k)).run prog W=.ok (.tuple #[.nilFunc,iV m]) w1/\
   (Instr.entryStore 218 (.map (some (n+1+1+1))) (iV m) v).run prog w1=.ok () w2/\
   Hid (w1.cell? ⟨n+1+1,0,none⟩=some (.pointer (some ⟨n+1,0,none⟩))/\w1.cell? ⟨n+1,4,none⟩=some d)/\Hid (Lay w n w2 L' Q/\Mod n w2 d):=by
 obtain⟨w1,w2,h1,h2,h3,h4,h5⟩:=acE h.out.1 h.out.2 k v dq;rw[hm] at h1 h2;rw[hs.eq] at h4;exact⟨w1,w2,h1,h2,h3,h4,h5⟩
def YW{w:YC}{L L':List (ByteArray×Value)}(h:Hid (Lay w n W L Q/\Mod n W d))(k:YR)(v:YE)(dq:lT k L 0=some (i,x):=by exact rfl)
  (hs:Wj i L v L':=by repeat (first|exact Wj.z|apply Wj.s)) (hm:(i:Int)=m:=by simp only[fi,Nat.reduceAdd,Int.cast_ofNat_Int];try rfl):
  ∃w2,(Instr.mapEntry 218 (.map (some (n+1+1+1))) (.string k)).run prog W=.ok (.tuple #[x,m]) W/\
   (Instr.entryStore 218 (.map (some (n+1+1+1))) (iV m) v).run prog W=.ok () w2/\Hid (Lay w n w2 L' Q/\Mod n w2 d):=by
 obtain⟨w2,h1,h2,h3,h4⟩:=Qk h.out.1 h.out.2 k v x dq hs.eq.2;rw[hs.eq.1] at h3;subst hm;exact⟨w2,h1,h2,h3,h4⟩
structure St where
 l:List Int
 D:DataW Unit
 low:Int
 high:Int
structure MS (n:Nat) (L:List (ByteArray×Value)) (Q:YT) (s:St) (q:Nat) (lk:Wr) (W:YC):Prop where
 m:∃lv,W.heap[n+1]?=some (.cells #[lv,.map (some n),s.low,s.high,.map (some (n+1+1+1))] 220 (0,0))/\OwnI W lv lk s.l
 Zv:∀b,lk=some b->n+4+Q.length<=b
 D:dG W (n+1+1+1) L
 K:W.ownsMap prog 3 (plainElem (H:=Unit) prog 3) n q s.D
 box:W.heap[n+1+1]?=some (.cells #[Value.pointer (some ⟨n+1,0,none⟩)] 157 (0,0))
 qs:∀j v,Q[j]?=some v->W.heap[n+4+j]?=some (.cells #[v] 223 (0,0))
 size:n+4+Q.length<=W.heap.size
def F(n:Nat)(lk:Wr)(k:Nat):Prop:=k=n∨k=n+1∨lk=some k
section
variable {n q:Nat}{L:List (ByteArray×Value)}{Q:YT}{s:St}{lk BJ:Wr}{W w':YC}{v u:YE}
def MS.O9{w:YC}(h:Lay w n W L Q)(hm:Mod n W (.map (some (n+1+1+1)))):MS n L Q ⟨[],.map [],0,-1⟩ 0 none W:=
 ⟨⟨_,hm,OwnI.nil W⟩,(λ_ e=>nomatch e),h.D,h.K,h.box,h.qs,by rw[h.size];exact aM _⟩
def MS.kept{G:Wq}(h:MS n L Q s q lk W)(hk:Kept G W w')(h1:∀j,j < n+4+Q.length->n<=j->¬G j)(h2:∀b,lk=some b->¬G b):MS n L Q s q lk w':=by
 have hs:=h.size;have hb:∀j,j < n+4+Q.length->n<=j->w'.heap[j]?=W.heap[j]?:=λj hj hn=>hk.block j ab (h1 j hj hn);obtain⟨lv,hm,ho⟩:=h.m;refine⟨⟨lv,(hb _ ab ab).trans hm,ho.kept hk h2⟩,h.Zv,?_,?_,(hb _ ab ab).trans h.box,λj v hj=>(hb _ ?_ ab).trans (h.qs j v hj),cn h.size hk.size⟩
 .unfold dG;rw[hb _ ab ab];exact h.D
 .have:=h.K;obtain⟨es,c,hh,r⟩:=this;exact⟨es,c,(hb n ab (aM _)).trans hh,r⟩
 .exact ko
def MS.alloc(h:MS n L Q s q lk W)(o:Obj):MS n L Q s q lk (W.alloc o):=h.kept (G:=λ_=>False) ((Kept.refl _ W).alloc o) (λ_ _ _ e=>e) (λ_ _ e=>e)
def MS.drew(h:MS n L Q s q lk W):MS n L Q s q lk W.drew:=h.kept (G:=λ_=>False) (Kept.refl _ W).drew (λ_ _ _ e=>e) (λ_ _ e=>e)
def MS.lt(h:MS n L Q s q lk W):∀b,lk=some b->b < W.heap.size:=by obtain⟨lv,hm,ho⟩:=h.m;exact ho.lt
def MS.c1(h:MS n L Q s q lk W):W.cell? ⟨n+1,1,none⟩=some (.map (some n)):=by obtain⟨lv,hm,ho⟩:=h.m;simp[World.cell?,hm]
def MS.c2(h:MS n L Q s q lk W):W.cell? ⟨n+1,2,none⟩=some (iV s.low):=by obtain⟨lv,hm,ho⟩:=h.m;simp[World.cell?,hm]
def MS.c3(h:MS n L Q s q lk W):W.cell? ⟨n+1,3,none⟩=some (iV s.high):=by obtain⟨lv,hm,ho⟩:=h.m;simp[World.cell?,hm]
def MS.c4(h:MS n L Q s q lk W):W.cell? ⟨n+1,4,none⟩=some (.map (some (n+1+1+1))):=by obtain⟨lv,hm,ho⟩:=h.m;simp[World.cell?,hm]
def MS.f(h:MS n L Q s q lk W)(o:Nat):W.frozen? ⟨n+1,o,none⟩=false:=by obtain⟨lv,hm,ho⟩:=h.m;simp[World.frozen?,hm]
def MS.c0(h:MS n L Q s q lk W):∃lv,W.cell? ⟨n+1,0,none⟩=some lv/\OwnI W lv lk s.l:=by obtain⟨lv,hm,ho⟩:=h.m;exact⟨lv,by simp[World.cell?,hm],ho⟩
def MS.gX(h:MS n L Q s q lk W):W.cell? ⟨n+1+1,0,none⟩=some (.pointer (some ⟨n+1,0,none⟩)):=by simp[World.cell?,h.box]
def MS.cq(h:MS n L Q s q lk W){j:Nat}(hj:Q[j]?=some v):W.cell? ⟨n+4+j,0,none⟩=some v:=by simp[World.cell?,h.qs j v hj]
def Row.alloc{o:Obj}(h:Row (W.alloc o) lk BJ):Row W lk BJ:=by
 rcases h with h|h
 .exact .inl h
 .exact .inr λb e=>by have:=h b e;simp at this;omega
def Row.of_le{W':YC}(h:Row W' lk BJ)(hs:W.heap.size<=W'.heap.size):Row W lk BJ:=by
 rcases h with h|h
 .exact .inl h
 .exact .inr λb e=>by have:=h b e;omega
def MS.Lr{l':WV}(h:MS n L Q s q lk W)(hk:Kept (λj=>lk=some j) W w')(ho:OwnI w' v BJ l')(hr:Row W lk BJ):MS n L Q {s with l:=l'} q BJ (w'.setCell ⟨n+1,0,none⟩ v):=by
 have hs:=h.size;have aka:∀b,BJ=some b->n+4+Q.length<=b:=by
  intro b hb;rcases hr with rfl|hr
  .exact h.Zv b hb
  .have:=hr b hb;omega
 have hb:∀j,j < n+4+Q.length->w'.heap[j]?=W.heap[j]?:=λj hj=>hk.block j ab (λe=>by have:=h.Zv j e;omega);obtain⟨lv,hm,_⟩:=h.m;have PN:=(hb (n+1) ab).trans hm;have WB:OwnI (w'.setCell ⟨n+1,0,none⟩ v) v BJ l':=ho.setCell (λe=>by have:=aka _ e;simp at this;omega) v;have QD:∀j,j < n+4+Q.length->j≠n+1->(w'.setCell ⟨n+1,0,none⟩ v).heap[j]?=W.heap[j]?:=λj hj cR=>(heap_setCell _ _ _ _ cR).trans (hb j hj);refine⟨⟨v,?_,WB⟩,aka,?_,?_,(QD _ ab ab).trans h.box,λj v hj=>(QD _ ?_ ab).trans (h.qs j v hj),?_⟩
 .rw[heap_setCell_same _ _ _ _ PN];rfl
 .unfold dG;rw[QD _ ab ab];exact h.D
 .obtain⟨es,c,hh,r⟩:=h.K;exact⟨es,c,(QD n ab ab).trans hh,r⟩
 .exact ko
 .have:=hk.size;simp[World.setCell];omega
def MS.Bp(h:MS n L Q s q lk W)(hk:Kept (λj=>lk=some j) W w'):Kept (F n lk) W (w'.setCell ⟨n+1,0,none⟩ v):=
 (hk.mono (λj e=>.inr (.inr e))).setCell (λ_=>.inr (.inl rfl)) v
def MS.keep(h:MS n L Q s q lk W)(hk:Kept (λj=>lk=some j) W w'):Kept (F n lk) W w':=hk.mono (λj e=>.inr (.inr e))
def MS.amA{l':WV}(h:MS n L Q s q lk W)(hc:W.cell? ⟨n+1,0,none⟩=some v)(hk:Kept (λj=>lk=some j) W w')(ho:OwnI w' v lk l'):MS n L Q {s with l:=l'} q lk w':=by
 have hs:=h.size;have hb:∀j,j < n+4+Q.length->w'.heap[j]?=W.heap[j]?:=λj hj=>hk.block j ab (λe=>by have:=h.Zv j e;omega);obtain⟨lv,hm,_⟩:=h.m;have e:lv=v:=by simp[World.cell?,hm] at hc;exact hc
 subst e;refine⟨⟨lv,(hb _ ab).trans hm,ho⟩,h.Zv,?_,?_,(hb _ ab).trans h.box,λj v hj=>(hb _ ?_).trans (h.qs j v hj),?_⟩
 .unfold dG;rw[hb _ ab];exact h.D
 .obtain⟨es,c,hh,r⟩:=h.K;exact⟨es,c,(hb n ab).trans hh,r⟩
 .exact ko
 .have:=hk.size;omega
def MS.ajf(h:MS n L Q s q lk W)(x:Int):MS n L Q {s with low:=x} q lk (W.setCell ⟨n+1,2,none⟩ (iV x)):=by have hs:=h.size;obtain⟨lv,hm,ho⟩:=h.m;have QD:∀j,j≠n+1->(W.setCell ⟨n+1,2,none⟩ (iV x)).heap[j]?=W.heap[j]?:=λj cR=>heap_setCell _ _ _ _ cR;exact JZ
def MS.agI(h:MS n L Q s q lk W)(x:Int):MS n L Q {s with high:=x} q lk (W.setCell ⟨n+1,3,none⟩ (iV x)):=by have hs:=h.size;obtain⟨lv,hm,ho⟩:=h.m;have QD:∀j,j≠n+1->(W.setCell ⟨n+1,3,none⟩ (iV x)).heap[j]?=W.heap[j]?:=λj cR=>heap_setCell _ _ _ _ cR;exact JZ
def MS.ao8{D':DataW Unit}{q':Nat}(h:MS n L Q s q lk W)(hk:Kept (λj=>j=n) W w')(hK:w'.ownsMap prog 3 (plainElem (H:=Unit) prog 3) n q' D'):MS n L Q {s with D:=D'} q' lk w':=by
 have hs:=h.size;have hb:∀j,j < n+4+Q.length->j≠n->w'.heap[j]?=W.heap[j]?:=λj hj hn=>hk.block j ab hn;obtain⟨lv,hm,ho⟩:=h.m;refine⟨⟨lv,(hb _ ab ab).trans hm,ho.kept hk (λb e e'=>by have:=h.Zv b e;omega)⟩,h.Zv,?_,hK,(hb _ ab ab).trans h.box,λj v hj=>(hb _ ?_ ab).trans (h.qs j v hj),cn hs hk.size⟩
 .unfold dG;rw[hb _ ab ab];exact h.D
 .exact ko
def MS.more{q':Nat}(h:MS n L Q s q lk W)(hq:q<=q'):MS n L Q s q' lk W:=⟨h.m,h.Zv,h.D,h.K.mono hq,h.box,h.qs,h.size⟩
end
def Row.trans{lk lk1 lk2:Wr}{w1:YC}(hr:Row W lk lk1)(hs:W.heap.size<=w1.heap.size)(Qx:Row w1 lk1 lk2):Row W lk lk2:=by
 rcases Qx with rfl|h
 .exact hr
 .exact .inr λb e=>by have:=h b e;omega
def F.trans{n:Nat}{lk lk1:Wr}{W w1 w2:YC}(h:Kept (F n lk) W w1)(hr:Row W lk lk1)(h2:Kept (F n lk1) w1 w2):Kept (F n lk) W w2:=by
 refine h.trans h2 λi hi e=>?_;rcases e with e|e|e
 .exact .inl e
 .exact .inr (.inl e)
 .rcases hr with rfl|hr
  .exact .inr (.inr e)
  .have:=hr i e;omega
inductive Out where
 |ret (r:Int)
 |stop (f e:Int)
def Ends(n:Nat)(L:List (ByteArray×Value))(Q:YT)(s':St)(q':Nat)(lk:Wr)(W:YC)(o:Out)(val:Int->Value)(e:TP)(w':YC):Prop:=
 Kept (F n lk) W w'/\match o with
  |.ret r=>e=.returned (val r)/\∃BJ,MS n L Q s' q' BJ w'/\Row W lk BJ
  |.stop f e0=>e=.panicked (aa5 f e0)
abbrev P1(n:Nat):Value:=.pointer (some ⟨n+1,0,none⟩)
variable {n q:Nat}{L:List (ByteArray×Value)}{Q:YT}{s:St}{lk:Wr}{W:YC}
abbrev I(r:Int):Value:=iV r
abbrev N0(_:Int):Value:=.tuple #[]
def Ends.same(hM:MS n L Q s q lk W)(val:Int->Value)(r:Int):Ends n L Q s q lk W (.ret r) val (.returned (val r)) W:=⟨Kept.refl _ _,rfl,lk,hM,.inl rfl⟩
def Ends.halt(val:Int->Value)(f e:Int)(s:St):Ends n L Q s q lk W (.stop f e) val (.panicked (aa5 f e)) W:=⟨Kept.refl _ _,rfl⟩
def amB(hM:MS n L Q s q lk W)(hn:s.l.length<=1000)(x y:Int):Calls prog 131 #[P1 n,I x,I y] W λe w'=>Ends n L Q {s with l:=x::s.l} q lk W (.ret 0) N0 e w':=by
 obtain⟨lv,hc,ho⟩:=hM.c0;have bQ:=cA W _ hc;have eG:lk≠some W.heap.size:=λe=>by have:=hM.lt _ e;omega
 have ht:=O8 (ho.alloc (cO #[I x] 3)) 0 (dE _) ab x W.heap.size 1 #[I x] we rfl eG;have hf:=hM.f 0;go_enter func131,ntmps131;go_wp2_with (first
  |(go_at_call 214;refine ht.mono ?_;rintro e w' ⟨v',k',rfl,WB,A8,hr⟩;obtain⟨a',xV,rfl,_⟩:=WB.form;have jF:=(Kept.refl (λj=>lk=some j) W).alloc (.cells #[I x] 3) |>.trans' A8;have PN:=(jF.aq hc nT);have hf2:=(jF.frozen (by exact bQ) nT).trans hf))
 go_end0;exact⟨hM.Bp jF,rfl,k',by simpa using hM.Lr jF WB hr.alloc,hr.alloc⟩
variable {n q:Nat}{L:List (ByteArray×Value)}{Q:YT}{s:St}{lk:Wr}{W:YC}
def agJ(hM:MS n L Q s q lk W)(hn:s.l.length<=1000)(x y:Int):Calls prog 132 #[P1 n,I x,I y] W λe w'=>Ends n L Q {s with l:=s.l++[x]} q lk W (.ret 0) N0 e w':=by
 obtain⟨lv,hc,ho⟩:=hM.c0;have bQ:=cA W _ hc;have hf:=hM.f 0;go_enter func132,ntmps132;go_wp2_with (first
  |(at_builtin;refine xt rfl _ _ rfl rfl x W.heap.size 1 rfl (ho.alloc (.cells #[I x] 3)) ab (JB _ _ _) ?_;intro v' k' w' WB A8 hr;obtain⟨a',xV,rfl,_⟩:=WB.form;have jF:=(Kept.refl (λj=>lk=some j) W).alloc (.cells #[I x] 3) |>.trans' A8;have PN:=(jF.aq hc nT);have hf2:=(jF.frozen (by exact bQ) nT).trans hf))
 go_end0;exact⟨hM.Bp jF,rfl,k',hM.Lr jF (by simpa using WB) hr.alloc,hr.alloc⟩
def acF(hM:MS n L Q s q lk W)(x y:Int):Calls prog 133 #[P1 n,I x,I y] W λe w'=>Ends n L Q {s with l:=s.l.reverse} q lk W (.ret 0) N0 e w':=by obtain⟨lv,hc,ho⟩:=hM.c0;go_enter func133,ntmps133;go_wp2_with (go_at_call 215;refine(Wi ho).mono ?_;rintro e w' ⟨rfl,WB,A8⟩);go_end0;exact⟨hM.keep A8,rfl,lk,hM.amA hc A8 WB,.inl rfl⟩
def acG(hM:MS n L Q s q lk W)(j:Nat)(z y:Int)(hz:s.l[j]?=some z):Calls prog 134 #[P1 n,I (j+1),I y] W λe w'=>Ends n L Q s q lk W (.ret z) I e w':=by
 obtain⟨lv,hc,ho⟩:=hM.c0;have hl:=(dk.1 hz).1;rcases ho.cases with⟨_,_,h0⟩|⟨b,off,cap,rfl,rfl⟩
 .rw[h0] at hl;simp at hl
 have hz':=ho.cell hz;obtain⟨_,_,h1,h2,_⟩:=ho.row;simp only[maxLen] at h2;have t:=kD 1;have a1:(1:Int)<=(j:Int)+1:=ab;have a2:(j:Int)+1<=(s.l.length:Int):=ab;go_enter func134,ntmps134;exact EV
def YX(hM:MS n L Q s q lk W)(x y:Int)(h1:1<=x)(hz:(s.l.length:Int) < x):Calls prog 134 #[P1 n,I x,I y] W λe w'=>Ends n L Q s q lk W (.stop 1 0) I e w':=by obtain⟨lv,hc,ho⟩:=hM.c0;obtain⟨a0,cap,rfl,_⟩:=ho.form;have h2:¬x<=(s.l.length:Int):=ab;go_enter func134,ntmps134;go_wp2_with (go_at_call 153;refine(BH _ _).mono ?_;rintro e w' ⟨rfl,rfl⟩);exact⟨rfl,.halt I _ _ _⟩
variable {n q:Nat}{L:List (ByteArray×Value)}{Q:YT}{s:St}{lk:Wr}{W:YC}
def iu(x:Int):Prop:=-1099511627776<=x/\x<=1099511627776
instance (x:Int):Decidable (iu x):=inferInstanceAs (Decidable (_/\_))
def zx(x:Int)(w:YC)(hx:iu x):Calls prog 212 #[I x] w λe w'=>e=.returned (I x)/\w=w':=by
 have hw:=O6 x w (by unfold iu at hx;omega) (by unfold iu at hx;omega);rw[show decide (-1099511627776<=x/\x<=1099511627776)=true by simpa[iu] using hx] at hw;go_enter func212,ntmps212;go_wp2_with (first
  |(go_at_call 55;refine hw.mono ?_;rintro e w' ⟨rfl,rfl⟩)
  |(go_at_call 153;refine(kD _ _).mono ?_;rintro e w' ⟨rfl,rfl⟩))
 go_ret;exact⟨rfl,rfl⟩
def II(a b:Int)(w:YC)(h:a=0∨b=0):Calls prog 220 #[I a,I b] w λe w'=>e=.returned (I 0)/\w=w':=by
 rcases h with rfl|rfl
 .exact yq
 .by_cases ha:a=0
  .subst ha;exact yq
  .exact yq
def ajg(a b:Int):max a (-a)*max b (-b)=max (a*b) (-(a*b)):=by
 rcases Int.le_total 0 a with ha|ha<;>rcases Int.le_total 0 b with hb|hb
 .have:=Ru ha hb;rw[show max a (-a)=a by omega,show max b (-b)=b by omega,show max (a*b) (-(a*b))=a*b by omega]
 .have:=Ru ha (show 0<=-b by omega);rw[Int.mul_neg] at this;rw[show max a (-a)=a by omega,show max b (-b)=-b by omega,show max (a*b) (-(a*b))=-(a*b) by omega,Int.mul_neg]
 .have:=Ru (show 0<=-a by omega) hb;rw[Int.neg_mul] at this;rw[show max a (-a)=-a by omega,show max b (-b)=b by omega,show max (a*b) (-(a*b))=-(a*b) by omega,Int.neg_mul]
 .have:=Ru (show 0<=-a by omega) (show 0<=-b by omega);rw[Int.neg_mul_neg] at this;rw[show max a (-a)=-a by omega,show max b (-b)=-b by omega,show max (a*b) (-(a*b))=a*b by omega,Int.neg_mul_neg]
def agK(a b:Int)(b0:b≠0):max a (-a)<=1099511627776 / max b (-b)↔iu (a*b):=by rw[Int.le_ediv_iff_mul_le ab,ajg];unfold iu;omega
def YY(a b:Int)(w:YC)(ha:iu a)(hb:iu b)(a0:a≠0)(b0:b≠0)(h:iu (a*b)):Calls prog 220 #[I a,I b] w λe w'=>e=.returned (I (a*b))/\w=w':=by
 have hd:decide (max a (-a)<=1099511627776 / max b (-b))=true:=by rw[oM,agK a b b0];exact h
 have ea:(a !=0)=true:=by simpa using a0
 have eb:(b !=0)=true:=by simpa using b0
 obtain⟨ha1,ha2⟩:=ha;obtain⟨lL,jy⟩:=hb;obtain⟨h1,h2⟩:=h;go_enter func220,ntmps220;go_wp2_with (first
  |(go_at_call 153;(try rw[hd]);refine(kD _ _).mono ?_;rintro e w' ⟨rfl,rfl⟩))
 go_ret;refine⟨?_,rfl⟩;have:wrap64 (a*b)=a*b:=by unfold wrap64;omega
 simp[I,this]
def Pb(a b:Int)(w:YC)(ha:iu a)(hb:iu b)(h:iu (a*b)):Calls prog 220 #[I a,I b] w λe w'=>e=.returned (I (a*b))/\w=w':=by
 by_cases a0:a=0
 .subst a0;rw[Int.zero_mul];exact II 0 b w (.inl rfl)
 .by_cases b0:b=0
  .subst b0;rw[Int.mul_zero];exact II a 0 w (.inr rfl)
  .exact YY a b w ha hb a0 b0 h
variable {n q:Nat}{L:List (ByteArray×Value)}{Q:YT}{s:St}{lk:Wr}{W:YC}
def agL:Int->List Int->Option Int
 |m,[]=>some m
 |m,x::r=>if iu (m+x) then agL (m+x) r else none
def YZ(hM:MS n L Q s q lk W)(x y:Int)(hx:x<=20):Calls prog 162 #[I x,I y] W λe w'=>Ends n L Q s q lk W (.ret (max 0 x)) I e w':=by go_enter func162,ntmps162;exact EV
def Wk(hM:MS n L Q s q lk W)(x y:Int)(hx:¬x<=20):Calls prog 162 #[I x,I y] W λe w'=>Ends n L Q s q lk W (.stop 107 0) I e w':=by go_enter func162,ntmps162;go_wp2_with (go_at_call 153;refine(BH _ _).mono ?_;rintro e w' ⟨rfl,rfl⟩);exact⟨rfl,.halt I _ _ s⟩
def acH(hM:MS n L Q s q lk W)(x y:Int)(hy:iu y)(h1:iu (y+1))(h2:x<=y+1):Calls prog 155 #[P1 n,I x,I y] W λe w'=>Ends n L Q {s with low:=x,high:=y} q lk W (.ret 0) N0 e w':=by
 have L9:=hM.c2;have NF:=hM.c3;have hf2:=hM.f 2;have hf3:=hM.f 3;have⟨b1,b2⟩:=hy;go_enter func155,ntmps155;go_wp2_with (first
  |(go_at_call 212;refine(zx _ _ h1).mono ?_;rintro e w' ⟨rfl,rfl⟩)
  |(go_at_call 153;refine(kD _ _).mono ?_;rintro e w' ⟨rfl,rfl⟩))
 go_end0;exact⟨((Kept.refl _ W).setCell (λ_=>.inr (.inl rfl)) _).setCell (λ_=>.inr (.inl rfl)) _,rfl,lk,(hM.ajf x).agI y,.inl rfl⟩
def Y0(hM:MS n L Q s q lk W)(x y:Int)(hy:iu y)(h1:iu (y+1))(h2:¬x<=y+1)(s':St):Calls prog 155 #[P1 n,I x,I y] W λe w'=>Ends n L Q s' q lk W (.stop 1 0) N0 e w':=by
 have⟨b1,b2⟩:=hy;have e2:decide (x<=y+1)=false:=jb;go_enter func155,ntmps155;go_wp2_with (first
  |(go_at_call 212;refine(zx _ _ h1).mono ?_;rintro e w' ⟨rfl,rfl⟩)
  |(go_at_call 153;(try rw[e2]);refine(BH _ _).mono ?_;rintro e w' ⟨rfl,rfl⟩))
 exact⟨rfl,.halt N0 _ _ _⟩
def ao9(hM:MS n L Q s q lk W)(lQ:∀z∈s.l,iu z)(x y r:Int)(hr:agL 0 s.l=some r):Calls prog 129 #[P1 n,I x,I y] W λe w'=>Ends n L Q s q lk W (.ret r) I e w':=by
 obtain⟨lv,hc,ho⟩:=hM.c0;rcases ho.cases with⟨rfl,rfl,h0⟩|⟨b,off,cap,rfl,rfl⟩
 .rw[h0] at hr
  cases hr;go_enter func129,ntmps129;go_wp2;go_loopg [7,9,15] 0 (λ_ s7 s9 s15 wr=>s7=I 0/\s15=I 0/\wr=W)
  case atStart=>exact⟨rfl,rfl,rfl⟩
  case round=>obtain⟨rfl,rfl,rfl⟩:=hrel;go_wp2;exact ku
 .have h2:=ho.row.2.2.1;have h3:=ho.row.2.2.2.1;simp only[maxLen] at h3;have hE:=ah (And.intro hM lQ);have hC:=ah (fun(j:Nat) (z:Int) (hj:s.l[j]?=some z)=>ho.cell hj);go_enter func129,ntmps129;go_wp2;go_loopg [7,9,15] s.l.length (λgg s7 _ s15 wr=>∃(kk:Nat) (m:Int),kk<=s.l.length/\s.l.length - kk<=gg/\s7=I m/\s15=I kk/\wr=W/\iu m/\Hid (agL m (s.l.drop kk)=some r))
  case atStart=>exact⟨0,0,dE _,aM _,rfl,rfl,rfl,by simp[iu],ah hr⟩
  case round=>
   obtain⟨kk,m,xe,hg,rfl,rfl,rfl,hm,hs⟩:=hrel;by_cases bQ:kk < s.l.length
   .have hz:=ck bQ;generalize s.l[kk]=z at hz;have xp:=hC kk z hz;have aq7:=hE.2 z (cm hz);have apa:s.l.drop kk=z::s.l.drop (kk+1):=by rw[MN bQ];rw[ck bQ] at hz;simp at hz;rw[hz]
    have⟨b1,b2⟩:=hm;have⟨b3,b4⟩:=aq7;have rj:(kk:Int) < (s.l.length:Int):=ab;have xB:=hs.out;rw[apa,agL] at xB;have Xw:=ah xB;by_cases Mg:iu (m+z)
    .go_wp2_with (go_at_call 212;refine(zx _ _ Mg).mono ?_;rintro e w' ⟨rfl,rfl⟩);go_roundg (s.l.length - (kk+1))
     case measure=>omega
     case rel=>exact⟨kk+1,m+z,by omega,by omega,rfl,by go_num,rfl,Mg,ah (by have:=Xw.out;rwa[aI Mg] at this)⟩
    .have:=Xw.out;rw[aE Mg] at this
     cases this
   .have:kk=s.l.length:=by omega
    subst this;have rj:¬(s.l.length:Int) < (s.l.length:Int):=ab;go_wp2;go_ret;have:=hs.out;rw[List.drop_length] at this
    cases this;exact .same hE.1 I _
variable {n q:Nat}{L:List (ByteArray×Value)}{Q:YT}{s:St}{lk:Wr}{W:YC}
def Ends.drew(h:MS n L Q s q lk W)(val:Int->Value)(r:Int):Ends n L Q s q lk W (.ret r) val (.returned (val r)) W.drew:=⟨(Kept.refl _ _).drew,rfl,lk,h.drew,.inl rfl⟩
def MS.drewN(h:MS n L Q s q lk W)(r:Nat):MS n L Q s q lk (W.drewN r):=h.kept (G:=λ_=>False) ⟨rfl,rfl,rfl,aM _,λ_ _ _=>rfl⟩ (λ_ _ _ e=>e) (λ_ _ e=>e)
def Ends.drewN(h:MS n L Q s q lk W)(val:Int->Value)(r:Int)(k:Nat):Ends n L Q s q lk W (.ret r) val (.returned (val r)) (W.drewN k):=⟨⟨rfl,rfl,rfl,aM _,λ_ _ _=>rfl⟩,rfl,lk,h.drewN k,.inl rfl⟩
def agM(hM:MS n L Q s q lk W)(x y:Nat)(hx:iu x)(hy:iu y):Calls prog 159 #[I x,I y] W λe w'=>Ends n L Q s q lk W (.ret (Nat.gcd x y)) I e w':=by
 have h1:(0:Int)<=x:=ab;have h2:(0:Int)<=y:=ab;have⟨b1,b2⟩:=hx;have⟨b3,b4⟩:=hy;go_enter func159,ntmps159;go_wp2_with (go_at_call 153;refine(kD _ _).mono ?_;rintro e w' ⟨rfl,rfl⟩);go_loopg [0,1] y (λgg s0 s1 wr=>∃(a b r:Nat),b<=gg/\s0=I a/\s1=I b/\wr=W.drewN r/\a<=1099511627776/\b<=1099511627776/\Hid (Nat.gcd a b=Nat.gcd x y))
 case atStart=>exact⟨x,y,0,aM _,rfl,rfl,rfl,by omega,by omega,ah rfl⟩
 case round=>
  obtain⟨a,b,r,hb,rfl,rfl,rfl,ha1,lL,hs⟩:=hrel;by_cases nB:b=0
  .subst nB;go_wp2;go_ret;have:=hs.out;rw[Nat.gcd_zero_right] at this;rw[<-this];exact .drewN hM I _ _
  .have IQ:(b:Int)≠0:=by omega
   have IS:((b:Int)!=0)=true:=by simpa using IQ
   go_wp2;go_quiet (fail)
   go_wp2;go_roundg (a % b)
   case measure=>have:=Nat.mod_lt a (show b > 0 by omega);omega
   case rel=>exact⟨b,a % b,r+nq,aM _,rfl,by go_num,by simp only[World.drewN,xP],lL,by have:=Nat.mod_lt a (show b > 0 by omega);omega,ah (by rw[<-hs.out,Nat.gcd_comm a b,Nat.gcd_rec b a,Nat.gcd_comm])⟩
def acI(a b:Int):Nat->Int->Int->Option Int
 |0,_,n=>some n
 |f+1,k,n=>if k < b then(if k < 100000/\iu (n*a) then acI a b f (k+1) (n*a) else none) else some n
def Y1(hM:MS n L Q s q lk W)(x:Int)(y:Nat)(hx:iu x)(hy:iu y)(r:Int)(hR:acI x y (y+1) 0 1=some r):Calls prog 160 #[I x,I y] W λe w'=>Ends n L Q s q lk W (.ret r) I e w':=by
 have h2:(0:Int)<=y:=ab;have⟨b3,b4⟩:=hy;replace hR:=ah hR;go_enter func160,ntmps160;go_wp2_with (go_at_call 153;refine(kD _ _).mono ?_;rintro e w' ⟨rfl,rfl⟩);go_loopg [5,6,11] y (λgg s5 _ s11 wr=>∃(k:Nat) (m:Int),k<=y/\y - k<=gg/\s5=I m/\s11=I k/\wr=W/\iu m/\Hid (acI x y (y - k+1) k m=some r))
 case atStart=>exact⟨0,1,dE _,aM _,rfl,rfl,rfl,by simp[iu],ah hR.out⟩
 case round=>
  obtain⟨k,m,hk,hg,rfl,rfl,rfl,hm,hs⟩:=hrel;by_cases bQ:k < y
  .have rj:(k:Int) < (y:Int):=by omega
   have xB:=hs.out;rw[acI,aI rj] at xB;by_cases Py:(k:Int) < 100000/\iu (m*x)
   .rw[aI Py] at xB;replace xB:=ah xB;obtain⟨hb,hp⟩:=Py;have gU:¬(100000:Int)<=(k:Int):=ab;go_wp2_with (go_at_call 220;refine(Pb _ _ _ hm hx hp).mono ?_;rintro e w' ⟨rfl,rfl⟩);go_roundg (y - (k+1))
    case measure=>omega
    case rel=>exact⟨k+1,m*x,by omega,by omega,rfl,by go_num,rfl,hp,ah (by rw[<-xB.out,show y - k=y - (k+1)+1 by omega];rfl)⟩
   exact Kj
  .have rj:¬(k:Int) < (y:Int):=by omega
   have:=hs.out;rw[acI,aE rj] at this
   cases this;go_wp2;exact ku
def Y2(a:Int):Nat->Int->Int->Option Int
 |0,_,n=>some n
 |f+1,k,n=>if k<=a then(if iu (n*k) then Y2 a f (k+1) (n*k) else none) else some n
def acJ(hM:MS n L Q s q lk W)(x:Nat)(y:Int)(hx:x < 64)(r:Int)(hR:Y2 x 64 2 1=some r):Calls prog 161 #[I x,I y] W λe w'=>Ends n L Q s q lk W (.ret r) I e w':=by
 have h2:(0:Int)<=x:=ab;have h3:(x:Int) < 64:=ab;replace hR:=ah hR;go_enter func161,ntmps161;go_wp2_with (first
  |(go_at_call 153;with_reducible refine(kD 1 _).mono ?_;rintro e w' ⟨rfl,rfl⟩)
  |(go_at_call 153;with_reducible refine(kD 9 _).mono ?_;rintro e w' ⟨rfl,rfl⟩))
 go_loopg [5,6] 64 (λgg s5 s6 wr=>∃(k:Nat) (m:Int),k<=64/\64 - k<=gg/\s5=I m/\s6=I (k+2)/\wr=W/\iu m/\Hid (Y2 x (64 - k) (k+2) m=some r))
 case atStart=>exact⟨0,1,dE _,aM _,rfl,rfl,rfl,by simp[iu],ah hR.out⟩
 case round=>
  obtain⟨k,m,hk,hg,rfl,rfl,rfl,hm,hs⟩:=hrel;by_cases bQ:k+2<=x
  .have rj:(k:Int)+2<=(x:Int):=by omega
   have xB:=hs.out;rw[show 64 - k=(64 - (k+1))+1 by omega,Y2,aI rj] at xB;replace xB:=ah xB;have hkr:iu ((k:Int)+2):=by unfold iu;omega
   by_cases hp:iu (m*((k:Int)+2))
   .go_wp2_with (go_at_call 220;refine(Pb _ _ _ hm hkr hp).mono ?_;rintro e w' ⟨rfl,rfl⟩);go_roundg (64 - (k+1))
    case measure=>omega
    case rel=>exact⟨k+1,m*((k:Int)+2),by omega,by omega,rfl,by go_num,rfl,hp,ah (by have:=xB.out;rw[aI hp] at this;rw[<-this];congr 1)⟩
   .have:=xB.out;rw[aE hp] at this
    cases this
  .have rj:¬(k:Int)+2<=(x:Int):=by omega
   have:=hs.out;rw[show(Y2 x (64 - k) (k+2) m)=some m by cases hh:64 - k with|zero=>rfl|succ j=>rw[Y2,aE rj]] at this
   cases this;go_wp2;exact ku
variable {n q q':Nat}{L:List (ByteArray×Value)}{Q:YT}{s s':St}{lk:Wr}{W:YC}
def acK(hM:MS n L Q s q lk W)(j g:Nat)(first cap:Zt)(hj:Q[j]?=some (.func (.func g) first cap))(Mj:∀(args:Zt) (w:YC),(callFunc g args).run prog w=.ok (.enter g args) w)(x y:Int)(hd:Calls prog g (first++(#[I x,I y]++cap)) W λe w'=>Ends n L Q s' q' lk W (.ret 0) N0 e w'):Calls prog 213 #[I x,I y,.pointer (n+4+j)] W λe w'=>Ends n L Q s' q' lk W (.ret 0) I e w':=by have hc:=hM.cq hj;go_enter func213,ntmps213;go_wp2_with (refine hd.mono ?_;rintro e w' ⟨hk,rfl,BJ,hM',hr⟩);go_ret;exact⟨hk,rfl,BJ,hM',hr⟩
def Y3(hM:MS n L Q s q lk W)(j g:Nat)(first cap:Zt)(hj:Q[j]?=some (.func (.func g) first cap))(Mj:∀(args:Zt) (w:YC),(callFunc g args).run prog w=.ok (.enter g args) w)(x y f e0:Int)(hd:Calls prog g (first++(#[I x,I y]++cap)) W λe w'=>Ends n L Q s' q' lk W (.stop f e0) N0 e w'):Calls prog 213 #[I x,I y,.pointer (n+4+j)] W λe w'=>Ends n L Q s' q' lk W (.stop f e0) I e w':=by have hc:=hM.cq hj;go_enter func213,ntmps213;go_wp2_with (refine hd.mono ?_;rintro e w' ⟨hk,rfl⟩);exact⟨rfl,hk,rfl⟩
def amC(n:Nat)(L:List (ByteArray×Value))(Q:YT)(s':St)(q':Nat)(lk:Wr)(W:YC)(o:Out)(e:TP)(w':YC):Prop:=
 Kept (F n lk) W w'/\match o with
  |.ret r=>e=.returned (.tuple #[I r,.agg #[I 0,I 0]])/\∃BJ,MS n L Q s' q' BJ w'/\Row W lk BJ
  |.stop f e0=>e=.returned (.tuple #[I 0,.agg #[I f,I e0]])
def Re{L:List (ByteArray×Value)}{s s':St}{lk:Wr}{w:YC}{o:Out}(hM:MS n L Q s q lk w)(dq:lT nm L 0=some (i,.func (.func g) first cap))(Mj:∀(args:Zt) (w:YC),(callFunc g args).run prog w=.ok (.enter g args) w)(O7:∀W,MS n L Q s q lk W->Calls prog g (first++(#[I A,I B]++cap)) W λe w'=>Ends n L Q s' q' lk W o I e w'):Calls prog 88 #[P1 n,.agg #[.string nm,I A,I B]] w λe w'=>amC n L Q s' q' lk w o e w':=by
 have dM:=hM.size;have hF:∀k,F n lk k->k < w.heap.size:=by
  intro k hk;rcases hk with rfl|rfl|hk
  .omega
  .omega
  .exact hM.lt k hk
 have hFd:¬F n lk (n+1+1+1):=by
  intro hk;rcases hk with hk|hk|hk
  .omega
  .omega
  .have:=hM.Zv _ hk;omega
 have hMW:∀W,Kept (λ_=>False) w W->MS n L Q s q lk W:=λW hk=>hM.kept hk (λ_ _ _ e=>e) (λ_ _ e=>e);have hKD:∀w1 w',Kept (F n lk) w w1->Kept (λk=>k=w.heap.size+1∨k=w.heap.size+1+1) w1 w'->Kept (F n lk) w w':=λw1 w' h1 h2=>h1.trans h2 λi hi e=>by rcases e with e|e<;>omega
 cases o with
 |ret r=>
  refine(Wg (n+1) (n+1+1+1) i g L nm A B (.inl r) first cap (F n lk) (λw1=>∃BJ,MS n L Q s' q' BJ w1/\(BJ=lk∨∀b,BJ=some b->w.heap.size+3<=b)) w hM.c4 hM.D dq hF hFd Mj ?_).mono ?_
  .intro W hk hs;refine(O7 W (hMW W hk)).mono ?_;rintro e w' ⟨A8,rfl,BJ,hM',hr⟩;exact⟨A8,rfl,⟨BJ,hM',hr.imp id λh b e=>cn hs (h b e)⟩,hM'.c4⟩
  .rintro e w' ⟨w1,h1,h2,rfl,BJ,hM',hr⟩;refine⟨hKD w1 w' h1 h2,rfl,BJ,hM'.kept h2 (λj hj _ e=>?_) (λb hb e=>?_),hr.imp id λh b e=>by have:=h b e;omega⟩
   .rcases e with e|e<;>omega
   .rcases hr with rfl|hr
    .have:=hM.lt b hb;rcases e with e|e<;>omega
    .have:=hr b hb;rcases e with e|e<;>omega
 |stop f e0=>
  refine(Wg (n+1) (n+1+1+1) i g L nm A B (.inr (f,e0)) first cap (F n lk) (λ_=>True) w hM.c4 hM.D dq hF hFd Mj ?_).mono ?_
  .intro W hk hs;exact(O7 W (hMW W hk)).mono λe w' h=>h
  .rintro e w' ⟨w1,h1,h2,rfl⟩;exact⟨hKD w1 w' h1 h2,rfl⟩
def Y4{j:Nat}{L:List (ByteArray×Value)}{s s':St}{lk:Wr}{w:YC}{o:Out}(hM:MS n L Q s q lk w)(dq:lT nm L 0=some (i,dw (n+4+j)))(hj:Q[j]?=some (.func (.func g) first cap))(Mj:∀(args:Zt) (w:YC),(callFunc g args).run prog w=.ok (.enter g args) w)(ho:match o with|.ret r=>r=0|.stop _ _=>True)(O7:∀W,MS n L Q s q lk W->Calls prog g (first++(#[I A,I B]++cap)) W λe w'=>Ends n L Q s' q' lk W o N0 e w'):Calls prog 88 #[P1 n,.agg #[.string nm,I A,I B]] w λe w'=>amC n L Q s' q' lk w o e w':=by
 refine Re hM dq Tryz.call213 λW hMW=>?_
 cases o with
 |ret r=>obtain rfl:r=0:=ho;exact acK hMW j g first cap hj Mj A B (O7 W hMW)
 |stop f e0=>exact Y3 hMW j g first cap hj Mj A B f e0 (O7 W hMW)
variable {n q:Nat}{L:List (ByteArray×Value)}{Q:YT}{s:St}{lk:Wr}{W:YC}
def Y5(hM:MS n L Q s q lk W)(x y:Int)(hl:iu s.low)(hh:iu s.high)(h1:iu (s.high - s.low))(h2:iu (s.high - s.low+1)):Calls prog 157 #[P1 n,I x,I y] W λe w'=>Ends n L Q s q lk W (.ret (s.high - s.low+1)) I e w':=by
 refine Ge ?_;intro L9 NF c1 c2 e1 e2;go_enter func157,ntmps157;refine Fk ?_;intro bC bX cU dz fZ iI yz K hK ak;refine jR 12 λK hK=>?_;go_simp;refine hK _ _ ak (λak=>?_);try simp only[Act.put,ma,mb,lj,e1,e2]
 refine dnH ?_;go_wp2;go_ret;exact .drew hM I _
variable {n q:Nat}{L:List (ByteArray×Value)}{Q:YT}{s:St}{lk:Wr}{W:YC}
def Y6(low high:Int):Nat->Int->Int->Option Int
 |0,_,n=>some n
 |f+1,k,n=>if k<=high then(if k - low < 100000/\iu (n+k) then Y6 low high f (k+1) (n+k) else none) else some n
def Y7(hM:MS n L Q s q lk W)(x y:Int)(hl:iu s.low)(hh:iu s.high)(h1:iu (s.high - s.low))(h2:iu (s.high - s.low+1))(r:Int)(hR:Y6 s.low s.high ((s.high - s.low).toNat+2) s.low 0=some r):Calls prog 158 #[P1 n,I x,I y] W λe w'=>Ends n L Q s q lk W (.ret r) I e w':=by
 refine Ge ?_;intro L9 NF c1 c2 e1 e2;replace hR:=ah hR;go_enter func158,ntmps158;refine Fk ?_;intro bC bX cU dz fZ iI yz K hK ak;refine dnH ?_;have ct:W.drew.cell? ⟨n+1,2,none⟩=some (I s.low):=L9;have jk:W.drew.cell? ⟨n+1,3,none⟩=some (I s.high):=NF;have hM':=ah hM.drew;have hE:=ah hM;obtain⟨V,hV⟩:∃V,V=W.drew:=⟨_,rfl⟩
 rw[<-hV] at ct jk|-;replace hV:=ah hV;have⟨b1,b2⟩:=hl;have⟨b3,b4⟩:=hh;have⟨b5,b6⟩:=h1;go_wp2_with fail;go_loopg [7,8] ((s.high - s.low).toNat+1) (λgg s7 s8 wr=>∃(j:Nat) (m:Int),j<=(s.high - s.low+1).toNat/\(s.high - s.low).toNat+1 - j<=gg/\s7=I m/\s8=I (s.low+j)/\wr=V/\iu m/\Hid (Y6 s.low s.high ((s.high - s.low).toNat+2 - j) (s.low+j) m=some r))
 case atStart=>exact⟨0,0,dE _,by omega,rfl,by simp,rfl,by simp[iu],ah (by rw[<-hR.out];simp)⟩
 case round=>
  obtain⟨j,m,hj,hg,rfl,rfl,rfl,hm,hs⟩:=hrel;have⟨m1,m2⟩:=hm;by_cases bQ:s.low+(j:Int)<=s.high
  .have xB:=hs.out;rw[show(s.high - s.low).toNat+2 - j=((s.high - s.low).toNat+2 - (j+1))+1 by omega,Y6,aI bQ] at xB;by_cases Py:s.low+(j:Int) - s.low < 100000/\iu (m+(s.low+(j:Int)))
   .rw[aI Py] at xB;replace xB:=ah xB;obtain⟨hb,hp⟩:=Py;have hbj:¬100000<=j:=ab;go_wp2_with (go_at_call 212;refine(zx _ _ hp).mono ?_;rintro e w' ⟨rfl,rfl⟩);go_roundg ((s.high - s.low).toNat+1 - (j+1))
    case measure=>omega
    case rel=>exact⟨j+1,m+(s.low+(j:Int)),by omega,by omega,rfl,by go_num,rfl,hp,ah (by rw[<-xB.out];congr 1;push_cast;omega)⟩
   exact Kj
  .have xB:=hs.out;have e0:Y6 s.low s.high ((s.high - s.low).toNat+2 - j) (s.low+j) m=some m:=by
    cases hh:(s.high - s.low).toNat+2 - j with
    |zero=>rfl
    |succ i=>rw[Y6,aE bQ]
   rw[e0] at xB
   cases xB;go_wp2;go_ret;rw[hV.out];exact .drew hE I _
variable {n q:Nat}{L:List (ByteArray×Value)}{Q:YT}{s:St}{lk:Wr}{W:YC}
abbrev K1(x:Int):Lit:=.int .i64 x
def agN:Keyed prog 3:=int_keyed underlying3
def akb{x:Int}(h:iu x):(Lit.int .i64 x).wf=true:=WalkArith.wf_i64 (by unfold iu at h;omega)
def agO{x:Int}(h:iu x):keyOf prog 3 (I x)=some (K1 x):=keyOf_int_mk underlying3 (akb h)
def adU(w:YC):(zeroValue 3).run prog w=.ok (iV 0) w:=by kernel_rfl
def ajh(hM:MS n L Q s q lk W)(x y c:Int)(hx:iu x)(dq:s.D.atKey (K1 x) (.lit (K1 0))=.lit (K1 c)):Calls prog 145 #[P1 n,I x,I y] W λe w'=>Ends n L Q s q lk W (.ret c) I e w':=by
 have hc:=hM.c1;have hK:=hM.K;have amD:=agO hx;go_enter func145,ntmps145;go_wp2_with (first
  |(at_lookup;refine wpList_lookup_own_int _ rfl _ _ 217 rfl 3 3 .i64 agN underlying217 underlying3 (adU _) n q _ rfl hK _ _ rfl amD ?_;intro c' apb Pw;obtain rfl:c'=c:=(by rw[dq] at apb;simpa using apb.symm)))
 exact ku
def amE(hM:MS n L Q s q lk W)(x y:Int):Calls prog 147 #[P1 n,I x,I y] W λe w'=>Ends n L Q s q lk W (.ret (size s.D)) I e w':=by
 have hc:=hM.c1;have hK:=hM.K;go_enter func147,ntmps147;go_wp2_with (first
  |(at_len;refine wpList_len_own _ rfl _ 217 rfl 3 3 underlying217 _ n q _ rfl hK ?_))
 exact ku
def aji(hM:MS n L Q s q lk W)(x y:Int)(hx:iu x)(hy:iu y)(hq:q<=1000):Calls prog 143 #[P1 n,I x,I y] W λe w'=>Ends n L Q {s with D:=s.D.put (K1 x) (.lit (K1 y))} (q+1) lk W (.ret 0) N0 e w':=by
 have hc:=hM.c1;have hK:=hM.K;have amD:=agO hx;have yZ:plainElem (H:=Unit) prog 3 (I y)=some (.lit (K1 y),[]):=plainElem_int underlying3 (akb hy);go_enter func143,ntmps143;go_wp2_with (first
  |(at_mapUpdate;refine wpList_mapUpdate_own _ rfl _ _ _ 217 rfl 3 3 agN underlying217 _ n q _ rfl hK (by unfold maxLen;omega) _ _ _ rfl rfl amD _ [] yZ ?_;intro w1 apc amF))
 go_end0;have hk:Kept (λj=>j=n) W w1:=(Kept.refl _ W).grown amF (λk e _=>(j6 e).symm);exact⟨hk.mono (λj e=>.inl e),rfl,lk,hM.ao8 hk apc,.inl rfl⟩
variable {n q:Nat}{L:List (ByteArray×Value)}{Q:YT}{s:St}{lk:Wr}{W:YC}
def Ml(a:Int):List Int->Option Nat
 |[]=>none
 |y::r=>if a<=y then some 0 else(Ml a r).map (· +1)
def TF(a:Int)(xs:WV):Int:=match Ml a xs with|some i=>i|none=>-1
def Wl{a:Int}:∀{xs:WV} {k:Nat},(∀j,j < k->∃y,xs[j]?=some y/\y < a)->(∃y,xs[k]?=some y/\a<=y)->Ml a xs=some k
 |[],k,_,⟨y,h,_⟩=>by simp at h
 |y::r,0,_,⟨z,h,hz⟩=>by simp at h;subst h;simp[Ml,hz]
 |y::r,k+1,hm,⟨z,h,hz⟩=>by
  obtain⟨y',hy,hny⟩:=hm 0 ab;simp at hy;subst hy;rw[Ml,aE ab,Wl (k:=k) (λj hj=>by simpa using hm (j+1) ab) ⟨z,by simpa using h,hz⟩];rfl
def Rf{a:Int}:∀{xs:WV},(∀(j:Nat) (y:Int),xs[j]?=some y->¬a<=y)->Ml a xs=none
 |[],_=>rfl
 |y::r,hm=>by
  rw[Ml,aE (hm 0 y rfl),Rf (xs:=r) (λj z hj=>hm (j+1) z bO)];rfl
def aa9{a:Int}:∀{xs:WV} {k:Nat},Ml a xs=some k->k < xs.length
 |y::r,k,h=>by
  rw[Ml] at h;split at h
  .simp at h;subst h;simp
  .cases hr:Ml a r with
   |none=>simp[hr] at h
   |some j=>simp[hr] at h;subst h;have:=aa9 hr;simp;omega
def Ql{w:YC}{k:Wr}{xs:WV}(h:OwnI w v k xs)(c:Nat)(a:Int)(Mc:w.cell? ⟨c,0,none⟩=some (I a)):Calls prog 218 #[v,.func (.func 219) #[] #[.pointer (some ⟨c,0,none⟩)]] w λe w'=>e=.returned (I (TF a xs))/\w'=w:=by
 rcases h.cases with⟨rfl,rfl,rfl⟩|⟨b,off,cap,rfl,rfl⟩
 .go_enter func218,ntmps218;go_wp2;go_loopg [5,8] 0 (λ_ _ s8 wr=>s8=I 0/\wr=w)
  case atStart=>exact⟨rfl,rfl⟩
  case round=>obtain⟨rfl,rfl⟩:=hrel;exact cQ
 .have h2:=h.row.2.2.1;have h3:=h.row.2.2.2.1;simp only[maxLen] at h3;have hC:=ah (fun(j:Nat) (z:Int) (hj:xs[j]?=some z)=>h.cell hj);go_enter func218,ntmps218;go_wp2;go_loopg [5,8] xs.length (λgg _ s8 wr=>∃kk:Nat,kk<=xs.length/\xs.length - kk<=gg/\s8=I kk/\wr=w/\Hid (∀j,j < kk->∃y,xs[j]?=some y/\y < a))
  case atStart=>exact⟨0,dE _,aM _,rfl,rfl,ah λj hj=>absurd hj (Nat.not_lt_zero _)⟩
  case round=>
   obtain⟨kk,xe,hg,rfl,rfl,A⟩:=hrel;by_cases bQ:kk < xs.length
   .have rj:(kk:Int) < (xs.length:Int):=by omega
    have hz:=ck bQ;generalize xs[kk]=z at hz;have xp:=hC kk z hz;have hz':=ah hz;by_cases hq:a<=z
    .go_wp2_with (go_at_call 219;refine(aa8 c a z _ Mc).mono ?_;rintro e w' ⟨rfl,rfl⟩);go_ret;refine⟨?_,rfl⟩;rw[TF,Wl A.out ⟨z,hz'.out,hq⟩];rfl
    .go_wp2_with (go_at_call 219;refine(aa8 c a z _ Mc).mono ?_;rintro e w' ⟨rfl,rfl⟩);go_roundg (xs.length - (kk+1))
     case measure=>omega
     case rel=>
      refine⟨kk+1,by omega,by omega,by go_num,rfl,ah λj hj=>?_⟩;by_cases e:j=kk
      .subst e;exact⟨z,hz'.out,by omega⟩
      .exact A j ab
   .have rj:¬(kk:Int) < (xs.length:Int):=by omega
    have e:kk=xs.length:=ab;have Xj:TF a xs=-1:=by rw[TF,Rf];intro j y hj;obtain⟨y',h1,h2⟩:=A.out j (by have:=(dk.1 hj).1;omega);rw[h1] at hj;cases hj;omega
    replace Xj:=ah Xj;go_wp2;go_ret;rw[Xj.out];exact⟨rfl,rfl⟩
abbrev TM(n:Nat):List (ByteArray×Value):=[(cM,mv 127 n),(tu,mv 128 n),(o9,mv 127 n),(nG,mv 129 n),(MJ,.func (.func 159) #[] #[]),(xI,.func (.func 160) #[] #[]),(BW,.func (.func 161) #[] #[]),(sI,.func (.func 162) #[] #[])]
abbrev TN(n:Nat):List Value:=[]
def Qp(w:YC):Calls prog 87 #[.string og] w λe w'=>e=.returned (Value.pointer (some ⟨w.heap.size+1,0,none⟩))/\Lay w w.heap.size w' (TM w.heap.size) (TN w.heap.size)/\Mod w.heap.size w' (Value.map (some (w.heap.size+1+1+1))):=by refine vw ?_;intro sE Cj bC w1 w2 w3 w4 bX cU w5 x5 b5 m5;have x6:=abo x5;obtain⟨v7,w7,hr7,hs7,TZ,x7⟩:=yB x6 MJ (.func (.func 159) #[] #[]);obtain⟨v8,w8,hr8,hs8,hc8,x8⟩:=yB x7 xI (.func (.func 160) #[] #[]);obtain⟨v9,w9,hr9,hs9,ZD,x9⟩:=yB x8 BW (.func (.func 161) #[] #[]);obtain⟨v10,AT,apd,akz,UG,xC⟩:=yB x9 sI (.func (.func 162) #[] #[]);refine Ag (S:=(λW=>W.cell? ⟨w.heap.size+1+1,0,none⟩=some (Value.pointer (some ⟨w.heap.size+1,0,none⟩))/\W.cell? ⟨w.heap.size+1,4,none⟩=some (Value.map (some (w.heap.size+1+1+1))))) af N3 (λak=>?_);refine FP ?_;refine df 14 ?_;refine df 15 ?_;refine jR 16 λK hK=>?_;go_simp;refine hK _ _ N3 (λak=>?_);clear hK K;refine sp ?_;refine df 17 ?_;refine jR 18 λK hK=>?_;go_simp;refine hK _ _ N3 (λak=>?_);clear hK K;refine sp ?_;refine jR 19 λK hK=>?_;go_simp;refine hK _ _ N3 (λak=>?_);clear hK K;refine sp ?_;refine df 20 ?_;refine jR 21 λK hK=>?_;go_simp;refine hK _ _ N3 (λak=>?_);clear hK K;refine sp ?_;refine jR 22 λK hK=>?_;go_simp;refine hK _ _ N3 (λak=>?_);clear hK K;refine sp ?_;refine df 23 ?_;refine jR 24 λK hK=>?_;go_simp;refine hK _ _ N3 (λak=>?_);clear hK K;refine sp ?_;refine jR 25 λK hK=>?_;go_simp;refine hK _ _ N3 (λak=>?_);clear hK K;refine sp ?_;refine df 26 ?_;refine jR 27 λK hK=>?_;go_simp;refine hK _ _ N3 (λak=>?_);clear hK K;refine sp ?_;refine dnH ?_;have Pn:=xC.1.gX;go_wp2;go_ret;exact⟨rfl,xC.1,xC.2⟩
end Go.Proofs.Bm
