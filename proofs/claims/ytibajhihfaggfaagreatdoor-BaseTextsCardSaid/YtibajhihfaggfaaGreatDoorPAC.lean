/- A part of the proof of BaseTexts. No condition. -/
import Derived.Test.YtibajhihfaggfaaGreatDoorPAB
set_option linter.all false
set_option maxRecDepth 100000
set_option maxHeartbeats 8000000
namespace Go.Proofs.Bm
open Go.Proofs.Tryz
open Go.RowKit Go.Maps
variable {s:St}{w' W:World}{n q N g B:Nat}{v:Value}{xs:List Int}{first cap:Array Value}{Q:List Value}
variable {n q:Nat}{L:List (ByteArray×Value)}{Q:List Value}{s:St}{lk:Option Nat}{W:World}
def agP(a:Int)(xs:List Int):List Int:=match Ml a xs with|some i=>xs.take i++a::xs.drop i|none=>xs++[a]
def JC(a:Int)(xs:List Int):(∃i:Nat,i<=xs.length/\((TF a xs=(i:Int))∨(TF a xs=-1/\i=xs.length))/\agP a xs=xs.take i++a::xs.drop i):=by
 unfold TF agP
 cases h:Ml a xs with
 |some i=>exact⟨i,tC (aa9 h),.inl rfl,rfl⟩
 |none=>exact⟨xs.length,aM _,.inr ⟨rfl,rfl⟩,by simp⟩
def Wm(hM:MS n L Q s q lk W)(hn:s.l.length<=1000)(x y:Int)(i:Nat)(hi:i<=s.l.length)(hp:(TF x s.l=(i:Int))∨(TF x s.l=-1/\i=s.l.length)):Calls prog 137 #[P1 n,I x,I y] W fun e w'=>Ends n L Q {s with l:=s.l.take i++x::s.l.drop i} q lk W (.ret 0) N0 e w':=by
 obtain⟨lv,hc,ho⟩:=hM.c0;have bQ:n+1 < W.heap.size:=cA W _ hc;have hf:=hM.f 0;have dM:=hM.size;refine fg ?_;intro sE;obtain⟨V,hV⟩:∃V,V=W.alloc (cO #[I x] 3):=⟨_,rfl⟩
 have jl:Kept (fun _=>False) W V:=by rw[hV];exact(Kept.refl _ W).alloc _
 have lD:V.heap.size=W.heap.size+1:=by rw[hV];simp
 have gx:V.cell? ⟨W,0,none⟩=some (I x):=by rw[hV];exact JB _ _ _
 have gc:=jl.aq hc (fun e=>e);have gf:=(jl.frozen (p:=⟨n+1,0,none⟩) bQ (fun e=>e)).trans hf;have hoV:OwnI V lv lk s.l:=ho.kept jl (fun _ _ e=>e);have ix:=Ql hoV W.heap.size x gx;have eG:lk≠some (W.heap.size+1):=fun e=>by have:=hM.lt _ e;omega
 have ht:=O8 (w:=(V.alloc (cO #[I x] 3)).drew) (hoV.alloc (cO #[I x] 3)) i hi ab x (W.heap.size+1) 1 #[I x] (by show(V.alloc _).heap[_]?=_;rw[heap_alloc];exact aI lD.symm) rfl eG;obtain⟨a0,akt,rfl,_⟩:=ho.form;replace hV:=ah hV;have hlen:(s.l.take i++x::s.l.drop i).length=i+(s.l.length - i+1):=by simp[MO hi]
 rcases hp with h|⟨h1,h2⟩
 ·rw[h] at ix;have arW:(0:Int)<=(i:Int):=ab;have arX:¬(i:Int) < 0:=ab;go_enter func137,ntmps137;go_wp2_with (go_at_call 218;rw[<-hV.out];refine ix.mono ?_;rintro e w' ⟨rfl,hw'⟩;rw[hw'];clear hw' w');refine Ag (S:=fun _=>True) af bw (fun _=>?_);have gc1:V.drew.cell? ⟨n+1,0,none⟩=some (sV a0 s.l.length akt):=gc;have gx1:V.drew.cell? ⟨W,0,none⟩=some (I x):=gx;refine df 0 ?_;refine df 1 ?_;refine df 2 ?_;refine df 3 ?_;refine df 5 ?_;refine MU (rs:=[4,6]) af ai ?_;refine tB (o:=_) rfl (fun K hK=>?_) (tB (o:=_) rfl (fun K hK=>?_) MV)
  ·go_simp;refine hK _ _ bw (fun _=>?_);refine sp ?_;refine jR 6 fun K hK=>?_;exact Kr
  ·go_simp;refine hK _ _ bw (fun _=>?_);refine sp ?_;refine MU (rs:=[4,7]) af ai ?_;refine tB (o:=_) rfl (fun K hK=>?_) (tB (o:=_) rfl (fun K hK=>?_) MV)
   ·exact Kr
   ·refine Lb ?_;intro gc2 bC K hK;exact CG
 ·rw[h1] at ix;subst h2;have Zq:(s.l.take s.l.length++x::s.l.drop s.l.length).length=s.l.length+1:=ai;go_enter func137,ntmps137;go_wp2_with (go_at_call 218;rw[<-hV.out];refine ix.mono ?_;rintro e w' ⟨rfl,hw'⟩;rw[hw'];clear hw' w');refine Ag (S:=fun _=>True) af bw (fun _=>?_);have gc1:V.drew.cell? ⟨n+1,0,none⟩=some (sV a0 s.l.length akt):=gc;have gx1:V.drew.cell? ⟨W,0,none⟩=some (I x):=gx;refine df 0 ?_;refine df 1 ?_;refine df 2 ?_;refine df 3 ?_;refine df 5 ?_;refine MU (rs:=[4,6]) af ai ?_;refine tB (o:=_) rfl (fun K hK=>?_) (tB (o:=_) rfl (fun K hK=>?_) MV)
  ·go_simp;refine hK _ _ bw (fun _=>?_);refine sp ?_;refine jR 6 fun K hK=>?_;exact Kq
  ·go_simp;refine hK _ _ bw (fun _=>?_);refine sp ?_;refine MU (rs:=[4,7]) af ai ?_;refine tB (o:=_) rfl (fun K hK=>?_) (tB (o:=_) rfl (fun K hK=>?_) MV)
   ·exact Kq
   ·refine Lb ?_;intro gc2 bC K hK;exact Cz
inductive Op where
 |sum|push|extend|reverse|item|ins|Rh|value|many|span|width|total|gcd|aba|fact|tries
def amG(D:DataW Unit)(x:Int):Int:=match D.atKey (K1 x) (.lit (K1 0)) with
 |.lit (.int _ c)=>c
 |_=>0
def nxt:Op->St->Int->Int->St
 |.push,s,a,_=>{s with l:=a::s.l}
 |.extend,s,a,_=>{s with l:=s.l++[a]}
 |.reverse,s,_,_=>{s with l:=s.l.reverse}
 |.ins,s,a,_=>{s with l:=agP a s.l}
 |.Rh,s,a,b=>{s with D:=s.D.put (K1 a) (.lit (K1 b))}
 |.span,s,a,b=>{s with low:=a,high:=b}
 |_,s,_,_=>s
def res:Op->St->Int->Int->Option Out
 |.sum,s,_,_=>(agL 0 s.l).map .ret
 |.item,s,a,_=>if 1<=a then some (match s.l[(a - 1).toNat]? with|some z=>.ret z|none=>.stop 1 0) else none
 |.value,s,a,_=>some (.ret (amG s.D a))
 |.many,s,_,_=>some (.ret (Maps.size s.D))
 |.span,_,a,b=>if iu (b+1) then some (if a<=b+1 then .ret 0 else .stop 1 0) else none
 |.width,s,_,_=>if iu (s.high - s.low)/\iu (s.high - s.low+1) then some (.ret (s.high - s.low+1)) else none
 |.total,s,_,_=>if iu (s.high - s.low)/\iu (s.high - s.low+1) then(Y6 s.low s.high ((s.high - s.low).toNat+2) s.low 0).map .ret else none
 |.gcd,_,a,b=>if 0<=a/\0<=b then some (.ret (Nat.gcd a.toNat b.toNat)) else none
 |.aba,_,a,b=>if 0<=b then(acI a b (b.toNat+1) 0 1).map .ret else none
 |.fact,_,a,_=>if 0<=a/\a < 64 then(Y2 a 64 2 1).map .ret else none
 |.tries,_,a,_=>some (if a<=20 then .ret (max 0 a) else .stop 107 0)
 |_,_,_,_=>some (.ret 0)
structure Good (s:St) (q:Nat):Prop where
 cap:q<=100
 len:s.l.length<=q
 l:∀z∈s.l,iu z
 low:iu s.low
 high:iu s.high
 map:IsMap s.D
 D:∀x,∃c,iu c/\s.D.atKey (K1 x) (.lit (K1 0))=.lit (K1 c)
def ajj{D:DataW Unit}{x c:Int}(h:D.atKey (K1 x) (.lit (K1 0))=.lit (K1 c)):amG D x=c:=by unfold amG;rw[h]
def jP(n:Nat)(L:List (ByteArray×Value))(Q:List Value)(nm:ByteArray)(op:Op):Prop:=
 ∀(s:St) (q:Nat) (lk:Option Nat) (w:World) (A B:Int) (o:Out),MS n L Q s q lk w->Good s q->iu A->iu B->res op s A B=some o->
  Calls prog 88 #[P1 n,.agg #[.string nm,I A,I B]] w fun e w'=>amC n L Q (nxt op s A B) (q+1) lk w o e w'
def Ends.more{n q:Nat}{L:List (ByteArray×Value)}{Q:List Value}{s:St}{lk:Option Nat}{W:World}{o:Out}{val:Int->Value}{e:Ending}{w':World}(h:Ends n L Q s q lk W o val e w'):Ends n L Q s (q+1) lk W o val e w':=by
 obtain⟨h1,h2⟩:=h;refine⟨h1,?_⟩
 cases o with
 |ret r=>obtain⟨h2,BJ,h3,h4⟩:=h2;exact⟨h2,BJ,h3.more (Nat.le_succ _),h4⟩
 |stop f e0=>exact h2
variable {n i j:Nat}{L:List (ByteArray×Value)}{Q:List Value}{nm:ByteArray}
def Zero:Out->Prop
 |.ret r=>r=0
 |.stop _ _=>True
def sD{op:Op}(dq:lT nm L 0=some (i,.func (.func g) first cap))(Mj:∀(args:Array Value) (w:World),(callFunc g args).run prog w=.ok (.enter g args) w)
  (h:∀(s:St) (q:Nat) (lk:Option Nat) (W:World) (A B:Int) (o:Out),MS n L Q s q lk W->Good s q->iu A->iu B->res op s A B=some o->Calls prog g (first++(#[I A,I B]++cap)) W fun e w'=>Ends n L Q (nxt op s A B) q lk W o I e w'):jP n L Q nm op:=
 fun s q lk w A B o hM hG hA hB hr=>Re hM dq Mj fun W hMW=>(h s q lk W A B o hMW hG hA hB hr).mono fun _ _ he=>he.more
def qt{op:Op}(dq:lT nm L 0=some (i,dw (n+4+j)))(hj:Q[j]?=some (.func (.func g) first cap))(Mj:∀(args:Array Value) (w:World),(callFunc g args).run prog w=.ok (.enter g args) w)
  (h:∀(s:St) (q:Nat) (lk:Option Nat) (W:World) (A B:Int) (o:Out),MS n L Q s q lk W->Good s q->iu A->iu B->res op s A B=some o->Zero o/\Calls prog g (first++(#[I A,I B]++cap)) W fun e w'=>Ends n L Q (nxt op s A B) (q+1) lk W o N0 e w'):jP n L Q nm op:=
 fun s q lk w A B o hM hG hA hB hr=>Y4 hM dq hj Mj (by have:=(h s q lk w A B o hM hG hA hB hr).1;revert this;cases o<;>exact id) fun W hMW=>(h s q lk W A B o hMW hG hA hB hr).2
def ajk(dq:lT nm L 0=some (i,mv 129 n)):jP n L Q nm .sum:=sD dq Tryz.call129 fun s q lk W A B o hM hG hA hB hr=>by
 obtain⟨r,hx,rfl⟩:=Ue.1 hr;exact ao9 hM hG.l A B r hx
def agQ(dq:lT nm L 0=some (i,dw (n+4+j)))(hj:Q[j]?=some (mv 131 n)):jP n L Q nm .push:=qt dq hj Tryz.call131 fun s q lk W A B o hM hG hA hB hr=>by
 cases hr;exact⟨rfl,(amB hM yK A B).mono fun _ _ he=>he.more⟩
def Y8(dq:lT nm L 0=some (i,dw (n+4+j)))(hj:Q[j]?=some (mv 132 n)):jP n L Q nm .extend:=qt dq hj Tryz.call132 fun s q lk W A B o hM hG hA hB hr=>by
 cases hr;exact⟨rfl,(agJ hM yK A B).mono fun _ _ he=>he.more⟩
def Wn(dq:lT nm L 0=some (i,dw (n+4+j)))(hj:Q[j]?=some (mv 133 n)):jP n L Q nm .reverse:=qt dq hj Tryz.call133 fun s q lk W A B o hM hG hA hB hr=>by
 cases hr;exact⟨rfl,(acF hM A B).mono fun _ _ he=>he.more⟩
def Wo(dq:lT nm L 0=some (i,mv 134 n)):jP n L Q nm .item:=sD dq Tryz.call134 fun s q lk W A B o hM hG hA hB hr=>by
 simp only[res,Uf,wY] at hr;obtain⟨h1,hr⟩:=hr;obtain⟨k,rfl⟩:∃k:Nat,A=(k:Int)+1:=⟨(A - 1).toNat,by omega⟩
 rw[show((k:Int)+1 - 1).toNat=k by omega] at hr
 cases hz:s.l[k]? with
 |some z=>
  rw[hz] at hr
  cases hr;exact acG hM k z B hz
 |none=>
  rw[hz] at hr
  cases hr;exact YX hM _ B h1 (by have:=List.getElem?_eq_none_iff.1 hz;omega)
def abb(dq:lT nm L 0=some (i,dw (n+4+j)))(hj:Q[j]?=some (mv 137 n)):jP n L Q nm .ins:=qt dq hj Tryz.call137 fun s q lk W A B o hM hG hA hB hr=>by
 cases hr;obtain⟨k,h1,h2,h3⟩:=JC A s.l;have:=Wm hM yK A B k h1 h2;rw[<-h3] at this;exact⟨rfl,this.mono fun _ _ he=>he.more⟩
def acL(dq:lT nm L 0=some (i,dw (n+4+j)))(hj:Q[j]?=some (mv 143 n)):jP n L Q nm .Rh:=qt dq hj Tryz.call143 fun s q lk W A B o hM hG hA hB hr=>by
 cases hr;exact⟨rfl,aji hM A B hA hB (by have:=hG.cap;omega)⟩
def acM(dq:lT nm L 0=some (i,mv 145 n)):jP n L Q nm .value:=sD dq Tryz.call145 fun s q lk W A B o hM hG hA hB hr=>by
 cases hr;obtain⟨c,_,h⟩:=hG.D A;have:=ajh hM A B c hA h;rwa[<-ajj h] at this
def agR(dq:lT nm L 0=some (i,mv 147 n)):jP n L Q nm .many:=sD dq Tryz.call147 fun s q lk W A B o hM hG hA hB hr=>by
 cases hr;exact amE hM A B
def agS(dq:lT nm L 0=some (i,dw (n+4+j)))(hj:Q[j]?=some (mv 155 n)):jP n L Q nm .span:=qt dq hj Tryz.call155 fun s q lk W A B o hM hG hA hB hr=>by
 simp only[res,Uf,wY] at hr;obtain⟨h1,hr⟩:=hr;by_cases h2:A<=B+1
 ·rw[aI h2] at hr
  cases hr;exact⟨rfl,(acH hM A B hB h1 h2).mono fun _ _ he=>he.more⟩
 ·rw[aE h2] at hr
  cases hr;exact⟨bw,(Y0 hM A B hB h1 h2 _).mono fun _ _ he=>he.more⟩
def acN(dq:lT nm L 0=some (i,mv 157 n)):jP n L Q nm .width:=sD dq Tryz.call157 fun s q lk W A B o hM hG hA hB hr=>by
 simp only[res,Uf,wY] at hr;obtain⟨h1,rfl⟩:=hr;exact Y5 hM A B hG.low hG.high h1.1 h1.2
def acO(dq:lT nm L 0=some (i,mv 158 n)):jP n L Q nm .total:=sD dq Tryz.call158 fun s q lk W A B o hM hG hA hB hr=>by
 revert o hr;refine vN ?_;intro h1 r hx hr;exact Y7 hM A B hG.low hG.high h1.1 h1.2 r hx
abbrev fv(g:Nat):Value:=.func (.func g) #[] #[]
def ajl(dq:lT nm L 0=some (i,fv 159)):jP n L Q nm .gcd:=sD dq Tryz.call159 fun s q lk W A B o hM hG hA hB hr=>by
 simp only[res,Uf,wY] at hr;obtain⟨h1,rfl⟩:=hr;obtain⟨a,rfl⟩:=Rv h1.1;obtain⟨b,rfl⟩:=Rv h1.2;exact agM hM a b hA hB
def acP(dq:lT nm L 0=some (i,fv 160)):jP n L Q nm .aba:=sD dq Tryz.call160 fun s q lk W A B o hM hG hA hB hr=>by
 revert o hr;refine vN ?_;intro h1 r hx hr;obtain⟨b,rfl⟩:=Rv h1;exact Y1 hM A b hA hB r hx
def agT(dq:lT nm L 0=some (i,fv 161)):jP n L Q nm .fact:=sD dq Tryz.call161 fun s q lk W A B o hM hG hA hB hr=>by
 revert o hr;refine vN ?_;intro h1 r hx hr;obtain⟨a,rfl⟩:=Rv h1.1;exact acJ hM a B ab r hx
def acQ(dq:lT nm L 0=some (i,fv 162)):jP n L Q nm .tries:=sD dq Tryz.call162 fun s q lk W A B o hM hG hA hB hr=>by
 cases hr;by_cases h:A<=20
 ·rw[aI h];exact YZ hM A B h
 ·rw[aE h];exact Wk hM A B h
def Good.start:Good ⟨[],.map [],0,-1⟩ 0:=
 ⟨by omega,by simp,by simp,by simp[iu],by simp[iu],isMap_empty,fun x=>⟨0,by simp[iu],rfl⟩⟩
def Good.Lr(h:Good s q)(hq:q < 100)(l':List Int)(h1:l'.length<=q+1)(h2:∀z∈l',iu z):Good {s with l:=l'} (q+1):=
 ⟨by omega,h1,h2,h.low,h.high,h.map,h.D⟩
def Good.up(h:Good s q)(hq:q < 100):Good s (q+1):=⟨by omega,by have:=h.len;omega,h.l,h.low,h.high,h.map,h.D⟩
def Wp(a:Int)(xs:List Int):(agP a xs).length=xs.length+1:=by obtain⟨i,h1,_,h3⟩:=JC a xs;rw[h3];simp;omega
def agU{a:Int}{z:Int}(h:z∈agP a xs):z=a∨z∈xs:=by
 obtain⟨i,h1,_,h3⟩:=JC a xs;rw[h3] at h;simp only[oU,cZ] at h;rcases h with h|h|h
 ·exact .inr (Uh h)
 ·exact .inl h
 ·exact .inr (A1 h)
def aq8(x:Int):WideAt.IsKeyLit (K1 x):=bw
def agV(op:Op)(s:St)(q:Nat)(a b:Int)(h:Good s q)(hq:q < 100)(ha:iu a)(hb:iu b):Good (nxt op s a b) (q+1):=by
 have hl:=h.len
 cases op
 case push=>exact h.Lr hq _ aH (by simpa using⟨ha,h.l⟩)
 case extend=>exact h.Lr hq _ aH (by intro z hz;simp at hz;rcases hz with hz|rfl;exact h.l z hz;exact ha)
 case reverse=>exact h.Lr hq _ aH (by intro z hz;simp at hz;exact h.l z hz)
 case ins=>exact h.Lr hq _ (by rw[Wp];omega) (fun z hz=>by rcases agU hz with rfl|hz;exact ha;exact h.l z hz)
 case Rh=>
  refine⟨by omega,by show s.l.length<=q+1;omega,h.l,h.low,h.high,h.map.put _ _,fun x=>?_⟩;by_cases e:x=a
  ·subst e;exact⟨b,hb,atKey_put_same h.map (aq8 x) _ _⟩
  ·obtain⟨c,h1,h2⟩:=h.D x;exact⟨c,h1,by simp only[nxt];rw[atKey_put_other (fun e'=>e (by cases e';rfl))];exact h2⟩
 case span=>exact⟨by omega,by show s.l.length<=q+1;omega,h.l,ha,hb,h.map,h.D⟩
 all_goals exact h.up hq
inductive JD where
 |ints|sorted|table|counter|range|arith
def clsName:JD->ByteArray
 |.ints=>gG
 |.sorted=>l8
 |.table=>od
 |.counter=>aX
 |.range=>oe
 |.arith=>og
def oT:JD->List (ByteArray×Nat×Bool)
 |.ints=>[(cM,0,true),(lP,1,false),(jt,1,false),(tu,1,true),(nP,1,true),(nG,0,true),(l7,1,false),(jW,0,false),(BT,0,false)]
 |.sorted=>[(cM,0,true),(lP,1,false),(jt,1,false),(tu,1,true),(nP,1,true),(nG,0,true),(l7,1,false),(jW,0,false),(BT,0,false)]
 |.table=>[(cM,0,true),(sH,2,false),(tu,1,true),(ju,1,true),(l7,1,false)]
 |.counter=>[(cM,0,true),(⟨#[117,112]⟩,0,false),(lV,1,false)]
 |.range=>[(⟨#[108,111,119]⟩,0,true),(⟨#[104,105,103,104]⟩,0,true),(zo,2,false),(xJ,1,true),(o9,0,true),(nG,0,true)]
 |.arith=>[(MJ,2,true),(xI,2,true),(BW,1,true),(sI,1,true)]
def agW(c:JD)(k:Nat):Value:=match (oT c)[k]? with|some p=>I p.2.1|none=>undef
def agX(c:JD)(k:Nat):Value:=match (oT c)[k]? with|some p=>.bool p.2.2|none=>undef
def jh(c:JD):List ByteArray:=(oT c).map (·.1)
def mr(c:JD)(w:World)(e:Ending)(w':World):Prop:=∃g:Nat,e=.returned (.slice g (jh c).length (jh c).length)/\Below w.heap.size w w'/\
 ∀k nm,(jh c)[k]?=some nm->w'.cell? ⟨g,k*3,none⟩=some (.string nm)/\w'.cell? ⟨g,k*3+1,none⟩=some (agW c k)/\w'.cell? ⟨g,k*3+2,none⟩=some (agX c k)
def nO(c:JD)(w:World)(cs:Array Value)(T:TypeId)(h:∀k nm,(jh c)[k]?=some nm->cs[k*3]?=some (.string nm)/\cs[k*3+1]?=some (agW c k)/\cs[k*3+2]?=some (agX c k)):mr c w (.returned (.slice w (jh c).length (jh c).length)) (w.alloc (cO cs T)):=by
 refine⟨_,rfl,(iG _ w).alloc (aM _) _,fun k nm hk=>?_⟩;have hc:∀j,(w.alloc (cO cs T)).cell? ⟨w,j,none⟩=cs[j]?:=by intro j;exact yr
 rw[hc,hc,hc];exact h k nm hk
def Y9(w:World):Calls prog 46 #[.string gG] w (mr .ints w):=by go_enter func46,ntmps46;go_wp2;go_ret;refine nO .ints w _ _ fun k nm hk=>?_;exact Dc
def TG(w:World):Calls prog 46 #[.string l8] w (mr .sorted w):=by go_enter func46,ntmps46;go_wp2;go_ret;refine nO .sorted w _ _ fun k nm hk=>?_;exact Dc
def Wq(w:World):Calls prog 46 #[.string od] w (mr .table w):=by
 go_enter func46,ntmps46;go_wp2;go_ret;refine nO .table w _ _ fun k nm hk=>?_;have bQ:k < 5:=(dk.1 hk).1
 match k,bQ,hk with
 |0,_,hk=>cases hk;exact⟨rfl,rfl,rfl⟩
 |1,_,hk=>cases hk;exact⟨rfl,rfl,rfl⟩
 |2,_,hk=>cases hk;exact⟨rfl,rfl,rfl⟩
 |3,_,hk=>cases hk;exact⟨rfl,rfl,rfl⟩
 |4,_,hk=>cases hk;exact⟨rfl,rfl,rfl⟩
def Qm(w:World):Calls prog 46 #[.string aX] w (mr .counter w):=by
 go_enter func46,ntmps46;go_wp2;go_ret;refine nO .counter w _ _ fun k nm hk=>?_;have bQ:k < 3:=(dk.1 hk).1
 match k,bQ,hk with
 |0,_,hk=>cases hk;exact⟨rfl,rfl,rfl⟩
 |1,_,hk=>cases hk;exact⟨rfl,rfl,rfl⟩
 |2,_,hk=>cases hk;exact⟨rfl,rfl,rfl⟩
def Wr(w:World):Calls prog 46 #[.string oe] w (mr .range w):=by
 go_enter func46,ntmps46;go_wp2;go_ret;refine nO .range w _ _ fun k nm hk=>?_;have bQ:k < 6:=(dk.1 hk).1
 match k,bQ,hk with
 |0,_,hk=>cases hk;exact⟨rfl,rfl,rfl⟩
 |1,_,hk=>cases hk;exact⟨rfl,rfl,rfl⟩
 |2,_,hk=>cases hk;exact⟨rfl,rfl,rfl⟩
 |3,_,hk=>cases hk;exact⟨rfl,rfl,rfl⟩
 |4,_,hk=>cases hk;exact⟨rfl,rfl,rfl⟩
 |5,_,hk=>cases hk;exact⟨rfl,rfl,rfl⟩
def Ws(w:World):Calls prog 46 #[.string og] w (mr .arith w):=by
 go_enter func46,ntmps46;go_wp2;go_ret;refine nO .arith w _ _ fun k nm hk=>?_;have bQ:k < 4:=(dk.1 hk).1
 match k,bQ,hk with
 |0,_,hk=>cases hk;exact⟨rfl,rfl,rfl⟩
 |1,_,hk=>cases hk;exact⟨rfl,rfl,rfl⟩
 |2,_,hk=>cases hk;exact⟨rfl,rfl,rfl⟩
 |3,_,hk=>cases hk;exact⟨rfl,rfl,rfl⟩
def Ri(c:JD)(w:World):Calls prog 46 #[(clsName c)] w (mr c w):=by
 cases c
 ·exact Y9 w
 ·exact TG w
 ·exact Wq w
 ·exact Qm w
 ·exact Wr w
 ·exact Ws w
def acR(k:Nat)(cls:ByteArray)(w:World)(e:Ending)(w':World):Prop:=∃(m:Nat) (a:Option Addr) (n:Nat) (t:ByteArray),e=.returned (.tuple #[.agg #[.string cls,sV a n n,.string t],true])/\Below w.heap.size w w'/\
 (k=8->a=some ⟨m,0,none⟩/\n=2/\w.heap.size<=m/\w'.heap[m]?=some (.cells #[.string fI,.string gG] 9 (0,0)))
def agY{w w1:World}{o1 o2:Obj}(hb:Below ((w.alloc o1).alloc o2).heap.size ((w.alloc o1).alloc o2) w1):Below w.heap.size w w1:=
 (((iG _ w).alloc (aM _) o1).alloc ai o2).trans (hb.mono aH)
def agZ(w:World)(c1 c2:Array Value)(T1 T2:TypeId)(j:Nat):((w.alloc (cO c1 T1)).alloc (cO c2 T2)).cell? ⟨w,j,none⟩=c1[j]?:=by unfold World.cell?;rw[heap_alloc,aE ai,heap_alloc,aI rfl];rfl
def N5(w:World)(c1 c2:Array Value)(T1 T2:TypeId)(j:Nat):((w.alloc (cO c1 T1)).alloc (cO c2 T2)).cell? ⟨w.heap.size+1,j,none⟩=c2[j]?:=by unfold World.cell?;rw[heap_alloc,aI ai];rfl
def ag0(w:World)(c1 c2:Array Value)(T1 T2:TypeId)(j:Nat):((w.alloc (cO c1 T1)).alloc (cO c2 T2)).frozen? ⟨w.heap.size+1,j,none⟩=false:=by unfold World.frozen?;rw[heap_alloc,aI ai];simp
def acS(k:Nat)(cls:ByteArray)(hk:Lib.idxOfS N12 cls=(k:Int))(hN:N12[k]?=some cls)(w:World):Calls prog 29 #[cls] w (acR k cls w):=by refine fg ?_;intro sE;have bQ:k < 12:=(dk.1 hN).1;have U5:(0:Int)<=(k:Int):=ab;have Xv:¬(k:Int) < 0:=ab;have afQ:(k:Int) < 12:=ab;revert hk hN;refine ct ?_;intro hk hN;go_enter func29,ntmps29;go_wp2_with fail;refine(ao5 _).mono ?_;rintro e w1 ⟨g,m,A,M,X,rfl,hg,hb,hL,h8,h82,hm,hm8⟩;have a0:w1.cell? ⟨w,0,none⟩=some (.string cls):=(hb.cell aH).trans (agZ w _ _ _ _ 0);have dM:=hb.size;simp only[dB] at dM hg hm;go_wp2_with fail;refine bD (ao2 g w.heap.size N12 (fun k=>sV (A k) (M k) (M k)) (fun k=>.string (X k)) cls _ a0 aj hL) fun w2 jy=>?_;rw[hk.out];obtain⟨q0,q1,q2⟩:=hL k cls hN.out;refine Gz ?_;intro p0 p1 p2;have hm1:=(jy.block m (aQ.1 hm8).1).trans hm8;refine GJ ?_;intro IS b0;have b1:w2.cell? ⟨w.heap.size+1,1,none⟩=some (sV none 0 0):=(IS.cell ai).trans (N5 w _ _ _ _ 1);have b2:w2.cell? ⟨w.heap.size+1,2,none⟩=some (.string ⟨#[]⟩):=(IS.cell ai).trans (N5 w _ _ _ _ 2);have f0:∀j,w2.frozen? ⟨w.heap.size+1,j,none⟩=false:=fun j=>(IS.frozen ai).trans (ag0 w _ _ _ _ j);have f1:=f0 0;have f2:=f0 1;have f3:=f0 2;have hB:=ah (agY IS);go_wp2;refine bG (v:=.tuple #[.agg #[.string cls,sV (A k) (M k) (M k),.string (X k)],true]) (by simp[results,results29,go_sem,b0,b1,b2]) rfl ?_;refine⟨m,A k,M k,X k,rfl,((hB.setCell ai _).setCell ai _).setCell ai _,fun e=>?_⟩;subst e;refine⟨h8,h82,by omega,?_⟩;rw[heap_setCell _ _ _ _ aH,heap_setCell _ _ _ _ aH,heap_setCell _ _ _ _ aH];exact hm1
def wW(c:JD)(k:Nat)(nm:ByteArray)(ar:Nat)(re:Bool)(hk:Lib.idxOfS (jh c) nm=(k:Int))(hN:(oT c)[k]?=some (nm,ar,re))(w:World):Calls prog 54 #[(clsName c),nm] w fun e w'=>e=.returned (.tuple #[.agg #[.string nm,I ar,.bool re],true])/\Below w.heap.size w w':=by
 refine fg ?_;intro sE;have hN':(jh c)[k]?=some nm:=by unfold jh;rw[List.getElem?_map,hN];rfl
 have hA:agW c k=I ar:=by unfold agW;rw[hN]
 have hR:agX c k=.bool re:=by unfold agX;rw[hN]
 have bQ:k < (jh c).length:=(dk.1 hN').1;have U5:(0:Int)<=(k:Int):=ab;have Xv:¬(k:Int) < 0:=ab;have afQ:(k:Int) < ((jh c).length:Int):=ab;revert hN hN' hA hR;refine jU ?_;intro hN hN' hA hR;have hlen:(jh c).length<=1000:=wE;replace hk:=ah hk;go_enter func54,ntmps54;go_wp2_with fail;refine(Ri c _).mono ?_;rintro e w1 ⟨g,rfl,hb,hL⟩;have a0:w1.cell? ⟨w,0,none⟩=some (.string nm):=(hb.cell aH).trans (agZ w _ _ _ _ 0);have dM:=hb.size;simp only[dB] at dM;go_wp2_with fail;refine bD (ao3 g w.heap.size (jh c) (agW c) (agX c) nm _ a0 hlen hL) fun w2 jy=>?_;rw[hk.out];obtain⟨q0,q1,q2⟩:=hL k nm hN'.out;rw[hA.out] at q1;rw[hR.out] at q2;refine Gz ?_;intro p0 p1 p2;refine GJ ?_;intro IS b0;have b1:w2.cell? ⟨w.heap.size+1,1,none⟩=some (I 0):=(IS.cell ai).trans (N5 w _ _ _ _ 1);have b2:w2.cell? ⟨w.heap.size+1,2,none⟩=some (.bool false):=(IS.cell ai).trans (N5 w _ _ _ _ 2);have f0:∀j,w2.frozen? ⟨w.heap.size+1,j,none⟩=false:=fun j=>(IS.frozen ai).trans (ag0 w _ _ _ _ j);have f1:=f0 0;have f2:=f0 1;have f3:=f0 2;have hB:=ah (agY IS);go_wp2;refine bG (v:=.tuple #[.agg #[.string nm,I ar,.bool re],true]) (by simp[results,results54,go_sem,b0,b1,b2]) rfl ?_;exact⟨rfl,((hB.setCell ai _).setCell ai _).setCell ai _⟩
structure LC (w:World) (a:Option Addr) (l:List (ByteArray×Int×Int)):Prop where
 len:l.length<=9223372036854775807
 cell:∀(k:Nat) (nm:ByteArray) (A B:Int),l[k]?=some (nm,A,B)->∃b off,a=some ⟨b,off,none⟩/\w.cell? ⟨b,off+k*3,none⟩=some (.string nm)/\w.cell? ⟨b,off+k*3+1,none⟩=some (I A)/\w.cell? ⟨b,off+k*3+2,none⟩=some (I B)
 wf:∀x∈l,(-9223372036854775808<=x.2.1/\x.2.1<=9223372036854775807)/\(-9223372036854775808<=x.2.2/\x.2.2<=9223372036854775807)
def LC.below{w:World}{a:Option Addr}{l:List (ByteArray×Int×Int)}(h:LC w a l)(hb:Below w.heap.size w w'):LC w' a l:=
 ⟨h.len,fun k nm A B hk=>by
  obtain⟨b,off,e,h0,h1,h2⟩:=h.cell k nm A B hk;exact⟨b,off,e,(hb.cell (cA w _ h0)).trans h0,(hb.cell (cA w _ h1)).trans h1,(hb.cell (cA w _ h2)).trans h2⟩,h.wf⟩
def T0(c:JD)(x:ByteArray×Int×Int):Prop:=∃(k ar:Nat) (re:Bool),(oT c)[k]?=some (x.1,ar,re)/\iu x.2.1/\iu x.2.2/\(ar < 1->x.2.1=0)/\(ar < 2->x.2.2=0)
def JE(c:JD)(k:Nat)(p:ByteArray×Nat×Bool)(h:(oT c)[k]?=some p):Lib.idxOfS (jh c) p.1=(k:Int)/\p.2.1<=2:=by have:∀c:JD,(List.range (oT c).length).all (fun k=>decide (Lib.idxOfS (jh c) ((oT c).getD k default).1=(k:Int)/\((oT c).getD k default).2.1<=2))=true:=HJ;have h1:=dV.1 (this c) k (BZ.2 (dk.1 h).1);simpa[List.getD,h] using h1
def okB(c:JD)(x:ByteArray×Int×Int):Bool:=(oT c).any fun p=>decide (p.1=x.1/\iu x.2.1/\iu x.2.2/\(p.2.1 < 1->x.2.1=0)/\(p.2.1 < 2->x.2.2=0))
def Za{c:JD}{l:List (ByteArray×Int×Int)}(h:l.all (okB c)=true):∀x∈l,T0 c x:=fun x hx=>by
 obtain⟨p,hp,h⟩:=List.any_eq_true.1 (dV.1 h x hx);obtain⟨h1,h⟩:=Rt h;obtain⟨k,hk⟩:=Xf.1 hp;exact⟨k,p.2.1,p.2.2,by rw[hk,<-h1],h⟩
def Ng(n:Int)(h:iu n)(w:World):Calls prog 55 #[I n] w fun e w'=>e=.returned (.bool true)/\w=w':=by have:=O6 n w (by have:=h.1;omega) (by have:=h.2;omega);rwa[show decide (-1099511627776<=n/\n<=1099511627776)=true by simpa[iu] using h] at this
def abc(x:Int)(w:World)(e:Ending)(w':World):Prop:=e=.returned (I x)/\Below w.heap.size w w'
def ajm(c:JD):∃k:Nat,Lib.idxOfS N12 (clsName c)=(k:Int)/\N12[k]?=some (clsName c):=by
 cases c
 ·exact⟨1,by decide+kernel,rfl⟩
 ·exact⟨2,by decide+kernel,rfl⟩
 ·exact⟨7,by decide+kernel,rfl⟩
 ·exact⟨9,by decide+kernel,rfl⟩
 ·exact⟨10,by decide+kernel,rfl⟩
 ·exact⟨11,by decide+kernel,rfl⟩
def amH(c:JD)(w:World):Calls prog 46 #[(clsName c)] w fun e w'=>∃g,e=.returned (.slice (some ⟨g,0,none⟩) (jh c).length (jh c).length)/\Below w.heap.size w w':=(Ri c w).mono fun _ _ ⟨g,h1,h2,_⟩=>⟨g,h1,h2⟩
def Pc(c:JD)(a:Option Addr)(cap:Nat)(l:List (ByteArray×Int×Int))(hR:∀x∈l,T0 c x)(w:World)(hL:LC w a l)(hn:l.length<=40):Calls prog 25 #[(clsName c),sV a l.length cap] w (abc 0 w):=by
 obtain⟨k,hk,hN⟩:=ajm c;have hlen:(1:Int)<=((jh c).length:Int):=wE;have aru:(((jh c).length:Int)==0)=false:=wE;have hnz:¬(40:Int) < (l.length:Int):=ab;revert hR hL hk hN;refine jU ?_;intro hR hL hk hN;go_enter func25,ntmps25;go_wp2_with fail;refine(acS k _ hk hN _).mono ?_;rintro e w1 ⟨m,a1,n1,t,rfl,hb,_⟩;go_wp2_with fail;refine(amH c _).mono ?_;rintro e w2 ⟨g,rfl,jy⟩;have hB:=(hb.alloc hb.size _).trans (jy.mono (by have:=hb.size;simp;omega));go_wp2_with fail;go_loopg [27] l.length (fun gg s27 wr=>∃kk:Nat,kk<=l.length/\l.length - kk<=gg/\s27=I kk/\Below w.heap.size w wr)
 case atStart=>exact⟨0,by omega,by omega,rfl,hB⟩
 case round=>
  obtain⟨kk,xe,hg,rfl,lW⟩:=hrel;by_cases bQ:kk < l.length
  ·have rj:(kk:Int) < (l.length:Int):=by omega
   have hkz:(0:Int)<=(kk:Int):=ab;have hz:=ck bQ;generalize l[kk]=x at hz;obtain⟨nm,A,B⟩:=x;obtain⟨bb,off,rfl,h0,h1,h2⟩:=hL.out.cell kk nm A B hz;have g0:=(lW.cell (cA w _ h0)).trans h0;have g1:=(lW.cell (cA w _ h1)).trans h1;have g2:=(lW.cell (cA w _ h2)).trans h2;obtain⟨j,ar,re,hj,hA,hB,N4,nA⟩:=hR.out _ (cm hz);dsimp only at hj hA hB N4 nA;have jS:=(JE c j _ hj).1;go_wp2_with fail;refine(wW c j nm ar re jS hj _).mono ?_;rintro e w3 ⟨rfl,gJ⟩;refine Le ?_;intro q1 q2 sY;have Cm:Below w.heap.size w (w3.alloc (cO #[.string nm,I ar,.bool re] 101)):=((lW.alloc lW.size _).trans (gJ.mono HQ)).alloc (by have:=lW.size;omega) _;replace hj:=ah hj;replace jS:=ah jS;by_cases ha1:ar < 1
   ·obtain rfl:=N4 ha1;obtain rfl:=nA ab;have ey:(ar:Int) < 1:=ab;exact EY
   ·have ey:¬(ar:Int) < 1:=by omega
    have LY:decide ((ar:Int) < 1)=false:=by simpa using ey
    by_cases ha2:ar < 2
    ·obtain rfl:=nA ha2;exact EY
    ·have oY:¬(ar:Int) < 2:=by omega
     have ct:decide ((ar:Int) < 2)=false:=by simpa using oY
     exact C3
  ·have rj:¬(kk:Int) < (l.length:Int):=by omega
   go_wp2;go_ret;exact⟨rfl,lW⟩
abbrev Zb(n:Nat):List (ByteArray×Value):=[(cM,mv 127 n),(tu,mv 128 n),(o9,mv 127 n),(nG,mv 129 n),(lP,dw (n+4+0)),(jt,dw (n+4+1)),(jW,dw (n+4+2)),(nP,mv 134 n),(l7,dw (n+4+3)),(BT,dw (n+4+4))]
abbrev Zc(n:Nat):List Value:=[mv 131 n,mv 132 n,mv 133 n,mv 135 n,mv 136 n]
def TH(w:World):Calls prog 87 #[.string gG] w fun e w'=>e=.returned (Value.pointer (some ⟨w.heap.size+1,0,none⟩))/\Lay w w.heap.size w' (Zb w.heap.size) (Zc w.heap.size)/\Mod w.heap.size w' (Value.map (some (w.heap.size+1+1+1))):=by refine Fi ?_;intro sE Cj bC w1 w2 w3 w4 bX cU dz fZ w5 x5 b5 m5 x6 adj v7 w7 hr7 hs7 TZ x7 v8 w8 hr8 hs8 hc8 x8 v9 w9 hr9 hs9 ZD x9 iI yz Bf I8 ak K hK;go_simp;refine hK _ _ ef (fun ak=>?_);clear hK K;refine sp ?_;refine Ky ?_;intro bC bX cU dz b9 m9 fZ iI xC adk v11 xS adl L7 adm zw v12 vl aho adn ado As v13 ND akp ahp adp xw yz Bf K hK ak;revert K hK;refine Fj ?_;intro bC bX cU dz fZ ak L8;go_wp2;go_ret;exact⟨rfl,xw.1,xw.2⟩
abbrev Pd(n:Nat):List (ByteArray×Value):=[(cM,mv 127 n),(tu,mv 128 n),(o9,mv 127 n),(nG,mv 129 n),(lP,dw (n+4+5)),(jt,dw (n+4+6)),(jW,dw (n+4+7)),(nP,mv 134 n),(l7,dw (n+4+3)),(BT,dw (n+4+4))]
abbrev Pe(n:Nat):List Value:=[mv 131 n,mv 132 n,mv 133 n,mv 135 n,mv 136 n,mv 137 n,mv 137 n,.func (.func 138) #[] #[]]
def Pf(w:World):Calls prog 87 #[.string l8] w fun e w'=>e=.returned (Value.pointer (some ⟨w.heap.size+1,0,none⟩))/\Lay w w.heap.size w' (Pd w.heap.size) (Pe w.heap.size)/\Mod w.heap.size w' (Value.map (some (w.heap.size+1+1+1))):=by refine Fi ?_;intro sE Cj bC w1 w2 w3 w4 bX cU dz fZ w5 x5 b5 m5 x6 adj v7 w7 hr7 hs7 TZ x7 v8 w8 hr8 hs8 hc8 x8 v9 w9 hr9 hs9 ZD x9 iI yz Bf I8 ak K hK;go_simp;refine hK _ _ ef (fun ak=>?_);clear hK K;refine sp ?_;refine Ky ?_;intro bC bX cU dz b9 m9 fZ iI xC adk v11 xS adl L7 adm zw v12 vl aho adn ado As v13 ND akp ahp adp xw yz Bf K hK ak;revert K hK;refine Fj ?_;intro bC bX cU dz fZ ak L8;have m13:=xw.2.c4;go_wp2_with fail;have x14:=abo (NB (NB (NB xw (mv 137 w.heap.size)) (mv 137 w.heap.size)) (.func (.func 138) #[] #[]));have arv:=xw.1.size;obtain⟨WM,arY,arZ,x15⟩:=YW x14 lP (dw (w.heap.size+4+5));obtain⟨w16,ar0,ar1,x16⟩:=YW x15 jt (dw (w.heap.size+4+6));obtain⟨w17,ar2,ar3,x17⟩:=YW x16 jW (dw (w.heap.size+4+7));refine Ag (S:=(fun W=>W.cell? ⟨w.heap.size+1+1,0,none⟩=some (Value.pointer (some ⟨w.heap.size+1,0,none⟩))/\W.cell? ⟨w.heap.size+1,4,none⟩=some (Value.map (some (w.heap.size+1+1+1))))) af vJ (fun ak=>?_);refine FP ?_;refine df 15 ?_;refine df 16 ?_;refine jR 14 fun K hK=>?_;revert K hK;refine vI ?_;intro ak;refine jR 17 fun K hK=>?_;revert K hK;refine vI ?_;intro ak;refine jR 18 fun K hK=>?_;revert K hK;refine vI ?_;intro ak;refine jR 19 fun K hK=>?_;revert K hK;refine kL ?_;intro ak;refine df 20 ?_;refine jR 21 fun K hK=>?_;revert K hK;refine kL ?_;intro ak;refine jR 22 fun K hK=>?_;revert K hK;refine kL ?_;intro ak;refine df 23 ?_;refine jR 24 fun K hK=>?_;revert K hK;refine kL ?_;intro ak;refine jR 25 fun K hK=>?_;revert K hK;refine kL ?_;intro ak;refine df 26 ?_;refine jR 27 fun K hK=>?_;revert K hK;refine kL ?_;intro ak;refine dnH ?_;have b17:=x17.1.gX;go_wp2;go_ret;exact⟨rfl,x17.1,x17.2⟩
abbrev TI(n:Nat):List (ByteArray×Value):=[(cM,mv 147 n),(tu,mv 144 n),(o9,mv 127 n),(nG,mv 129 n),(sH,dw (n+4+0)),(ju,mv 145 n),(l7,dw (n+4+1))]
abbrev TJ(n:Nat):List Value:=[mv 143 n,mv 146 n]
def Qn(w:World):Calls prog 87 #[.string od] w fun e w'=>e=.returned (Value.pointer (some ⟨w.heap.size+1,0,none⟩))/\Lay w w.heap.size w' (TI w.heap.size) (TJ w.heap.size)/\Mod w.heap.size w' (Value.map (some (w.heap.size+1+1+1))):=by refine vw ?_;intro sE Cj bC w1 w2 w3 w4 bX cU w5 x5 b5 m5;have x6:=abo (NB (NB x5 (mv 143 w.heap.size)) (mv 146 w.heap.size));have adj:=x5.1.size;obtain⟨v7,w7,hr7,hs7,TZ,x7⟩:=yB x6 sH (dw (w.heap.size+4+0));obtain⟨w8,hr8,hs8,x8⟩:=YW x7 tu (mv 144 w.heap.size);obtain⟨v9,w9,hr9,hs9,ZD,x9⟩:=yB x8 ju (mv 145 w.heap.size);obtain⟨v10,AT,apd,akz,UG,xC⟩:=yB x9 l7 (dw (w.heap.size+4+1));obtain⟨xS,adl,L7,zw⟩:=YW xC cM (mv 147 w.heap.size);refine Ag (S:=(fun W=>W.cell? ⟨w.heap.size+1+1,0,none⟩=some (Value.pointer (some ⟨w.heap.size+1,0,none⟩))/\W.cell? ⟨w.heap.size+1,4,none⟩=some (Value.map (some (w.heap.size+1+1+1))))) af pK (fun ak=>?_);refine Ft ?_;refine df 23 ?_;refine df 24 ?_;refine df 25 ?_;refine df 26 ?_;refine df 27 ?_;refine df 28 ?_;refine df 30 ?_;refine df 31 ?_;refine jR 22 fun K hK=>?_;go_simp;go_at_call 130;refine(kE _ _ ⟨_,_,_,rfl⟩).mono ?_;rintro e w' ⟨rfl,rfl⟩;go_wp2_with fail;refine hK _ _ pK (fun ak=>?_);clear hK K;refine sp ?_;refine jR 29 fun K hK=>?_;go_simp;go_at_call 130;refine(kE _ _ ⟨_,_,_,rfl⟩).mono ?_;rintro e w' ⟨rfl,rfl⟩;go_wp2_with fail;refine hK _ _ pK (fun ak=>?_);clear hK K;refine sp ?_;refine jR 32 fun K hK=>?_;revert K hK;refine ff ?_;intro ak;refine df 33 ?_;refine jR 34 fun K hK=>?_;revert K hK;refine ff ?_;intro ak;refine jR 35 fun K hK=>?_;revert K hK;refine ff ?_;intro ak;refine df 36 ?_;refine jR 37 fun K hK=>?_;revert K hK;refine ff ?_;intro ak;refine jR 38 fun K hK=>?_;revert K hK;refine ff ?_;intro ak;refine df 39 ?_;refine jR 40 fun K hK=>?_;revert K hK;refine ff ?_;intro ak;refine jR 41 fun K hK=>?_;revert K hK;refine ff ?_;intro ak;refine df 42 ?_;refine jR 43 fun K hK=>?_;revert K hK;refine ff ?_;intro ak;refine jR 44 fun K hK=>?_;revert K hK;refine ff ?_;intro ak;refine df 45 ?_;refine jR 46 fun K hK=>?_;revert K hK;refine ff ?_;intro ak;refine dnH ?_;have Sb:=zw.1.gX;go_wp2;go_ret;exact⟨rfl,zw.1,zw.2⟩
abbrev TK(n:Nat):List (ByteArray×Value):=[(cM,mv 127 n),(tu,mv 128 n),(o9,mv 157 n),(nG,mv 158 n),(⟨#[108,111,119]⟩,mv 149 n),(⟨#[104,105,103,104]⟩,mv 154 n),(zo,dw (n+4+0)),(xJ,mv 156 n)]
abbrev TL(n:Nat):List Value:=[mv 155 n]
def Qo(w:World):Calls prog 87 #[.string oe] w fun e w'=>e=.returned (Value.pointer (some ⟨w.heap.size+1,0,none⟩))/\Lay w w.heap.size w' (TK w.heap.size) (TL w.heap.size)/\Mod w.heap.size w' (Value.map (some (w.heap.size+1+1+1))):=by refine vw ?_;intro sE Cj bC w1 w2 w3 w4 bX cU w5 x5 b5 m5;have x6:=abo (NB x5 (mv 155 w.heap.size));have adj:=x5.1.size;obtain⟨v7,w7,hr7,hs7,TZ,x7⟩:=yB x6 ⟨#[108,111,119]⟩ (mv 149 w.heap.size);obtain⟨v8,w8,hr8,hs8,hc8,x8⟩:=yB x7 ⟨#[104,105,103,104]⟩ (mv 154 w.heap.size);obtain⟨v9,w9,hr9,hs9,ZD,x9⟩:=yB x8 zo (dw (w.heap.size+4+0));obtain⟨v10,AT,apd,akz,UG,xC⟩:=yB x9 xJ (mv 156 w.heap.size);obtain⟨xS,adl,L7,zw⟩:=YW xC o9 (mv 157 w.heap.size);obtain⟨vl,aho,adn,As⟩:=YW zw nG (mv 158 w.heap.size);refine Ag (S:=(fun W=>W.cell? ⟨w.heap.size+1+1,0,none⟩=some (Value.pointer (some ⟨w.heap.size+1,0,none⟩))/\W.cell? ⟨w.heap.size+1,4,none⟩=some (Value.map (some (w.heap.size+1+1+1))))) af vK (fun ak=>?_);refine Ft ?_;refine df 22 ?_;refine df 23 ?_;refine df 24 ?_;refine df 25 ?_;refine df 26 ?_;refine df 27 ?_;refine df 28 ?_;refine df 29 ?_;refine df 31 ?_;refine df 32 ?_;refine df 33 ?_;refine df 34 ?_;refine df 35 ?_;refine df 36 ?_;refine jR 30 fun K hK=>?_;go_simp;go_at_call 130;refine(kE _ _ ⟨_,_,_,rfl⟩).mono ?_;rintro e w' ⟨rfl,rfl⟩;go_wp2_with fail;refine hK _ _ vK (fun ak=>?_);clear hK K;refine sp ?_;refine jR 37 fun K hK=>?_;revert K hK;refine dK ?_;intro ak;refine df 38 ?_;refine jR 39 fun K hK=>?_;revert K hK;refine dK ?_;intro ak;refine jR 40 fun K hK=>?_;revert K hK;refine dK ?_;intro ak;refine df 41 ?_;refine jR 42 fun K hK=>?_;revert K hK;refine dK ?_;intro ak;refine jR 43 fun K hK=>?_;revert K hK;refine dK ?_;intro ak;refine df 44 ?_;refine jR 45 fun K hK=>?_;revert K hK;refine dK ?_;intro ak;refine jR 46 fun K hK=>?_;revert K hK;refine dK ?_;intro ak;refine df 47 ?_;refine jR 48 fun K hK=>?_;revert K hK;refine dK ?_;intro ak;refine jR 49 fun K hK=>?_;revert K hK;refine dK ?_;intro ak;refine df 50 ?_;refine jR 51 fun K hK=>?_;revert K hK;refine dK ?_;intro ak;refine jR 52 fun K hK=>?_;revert K hK;refine dK ?_;intro ak;refine df 53 ?_;refine jR 54 fun K hK=>?_;revert K hK;refine dK ?_;intro ak;refine dnH ?_;have Sc:=As.1.gX;go_wp2;go_ret;exact⟨rfl,As.1,As.2⟩
abbrev ag1:List (ByteArray×Op):=[(lP,.push),(jt,.extend),(nP,.item),(nG,.sum),(jW,.reverse)]
def ag2(w:World):Calls prog 87 #[.string gG] w fun e w'=>e=.returned (P1 w.heap.size)/\MS w.heap.size (Zb w.heap.size) (Zc w.heap.size) ⟨[],.map [],0,-1⟩ 0 none w'/\Below w.heap.size w w':=
 (TH w).mono fun _ _ ⟨h1,h2,h3⟩=>⟨h1,MS.O9 h2 h3,h2.below⟩
def ag3(n:Nat):∀p∈ag1,jP n (Zb n) (Zc n) p.1 p.2:=by exact jE.2 ⟨agQ (j:=0) rfl rfl,(jE.2 ⟨Y8 (j:=1) rfl rfl,(jE.2 ⟨Wo rfl,(jE.2 ⟨ajk rfl,(jE.2 ⟨Wn (j:=2) rfl rfl,mY⟩)⟩)⟩)⟩)⟩
abbrev Wt:List (ByteArray×Op):=[(lP,.ins),(jt,.ins),(nP,.item)]
def Zd(w:World):Calls prog 87 #[.string l8] w fun e w'=>e=.returned (P1 w.heap.size)/\MS w.heap.size (Pd w.heap.size) (Pe w.heap.size) ⟨[],.map [],0,-1⟩ 0 none w'/\Below w.heap.size w w':=
 (Pf w).mono fun _ _ ⟨h1,h2,h3⟩=>⟨h1,MS.O9 h2 h3,h2.below⟩
def Ze(n:Nat):∀p∈Wt,jP n (Pd n) (Pe n) p.1 p.2:=by exact jE.2 ⟨abb (j:=5) rfl rfl,(jE.2 ⟨abb (j:=6) rfl rfl,(jE.2 ⟨Wo rfl,mY⟩)⟩)⟩
abbrev abd:List (ByteArray×Op):=[(cM,.many),(sH,.Rh),(ju,.value)]
def acT(w:World):Calls prog 87 #[.string od] w fun e w'=>e=.returned (P1 w.heap.size)/\MS w.heap.size (TI w.heap.size) (TJ w.heap.size) ⟨[],.map [],0,-1⟩ 0 none w'/\Below w.heap.size w w':=
 (Qn w).mono fun _ _ ⟨h1,h2,h3⟩=>⟨h1,MS.O9 h2 h3,h2.below⟩
def acU(n:Nat):∀p∈abd,jP n (TI n) (TJ n) p.1 p.2:=by exact jE.2 ⟨agR rfl,(jE.2 ⟨acL (j:=0) rfl rfl,(jE.2 ⟨acM rfl,mY⟩)⟩)⟩
abbrev abe:List (ByteArray×Op):=[(zo,.span),(o9,.width),(nG,.total)]
def acV(w:World):Calls prog 87 #[.string oe] w fun e w'=>e=.returned (P1 w.heap.size)/\MS w.heap.size (TK w.heap.size) (TL w.heap.size) ⟨[],.map [],0,-1⟩ 0 none w'/\Below w.heap.size w w':=
 (Qo w).mono fun _ _ ⟨h1,h2,h3⟩=>⟨h1,MS.O9 h2 h3,h2.below⟩
def acW(n:Nat):∀p∈abe,jP n (TK n) (TL n) p.1 p.2:=by exact jE.2 ⟨agS (j:=0) rfl rfl,(jE.2 ⟨acN rfl,(jE.2 ⟨acO rfl,mY⟩)⟩)⟩
abbrev abf:List (ByteArray×Op):=[(MJ,.gcd),(xI,.aba),(BW,.fact),(sI,.tries)]
def acX(w:World):Calls prog 87 #[.string og] w fun e w'=>e=.returned (P1 w.heap.size)/\MS w.heap.size (TM w.heap.size) (TN w.heap.size) ⟨[],.map [],0,-1⟩ 0 none w'/\Below w.heap.size w w':=
 (Qp w).mono fun _ _ ⟨h1,h2,h3⟩=>⟨h1,MS.O9 h2 h3,h2.below⟩
def acY(n:Nat):∀p∈abf,jP n (TM n) (TN n) p.1 p.2:=by exact jE.2 ⟨ajl rfl,(jE.2 ⟨acP rfl,(jE.2 ⟨agT rfl,(jE.2 ⟨acQ rfl,mY⟩)⟩)⟩)⟩
def Mm:Op->Bool
 |.push|.extend|.reverse|.ins|.Rh|.span=>false
 |_=>true
def Wu:Op->Nat
 |.sum|.reverse|.many|.width|.total=>0
 |.Rh|.span|.gcd|.aba=>2
 |_=>1
def Wv:JD->List (ByteArray×Op)
 |.ints=>ag1|.sorted=>Wt|.table=>abd|.counter=>[]|.range=>abe|.arith=>abf
def ape{c:JD}{nm:ByteArray}{op:Op}(h:(nm,op)∈Wv c):∃k:Nat,(oT c)[k]?=some (nm,Wu op,Mm op):=by have:∀c:JD,(Wv c).all (fun p=>decide ((p.1,Wu p.2,Mm p.2)∈oT c))=true:=HJ;exact Xf.1 (by simpa using dV.1 (this c) _ h)
def run(c:JD):List (ByteArray×Int×Int)->St->List Int->Option (List Int×Int)
 |[],_,out=>some (out,0)
 |x::r,s,out=>match (Wv c).find? (fun p=>decide (p.1=x.1)) with
  |none=>none
  |some p=>match res p.2 s x.2.1 x.2.2 with
   |some (.ret v)=>run c r (nxt p.2 s x.2.1 x.2.2) (out++(if Mm p.2 then[v] else[]))
   |some (.stop f e)=>if e=0/\f≠0 then some (out,f) else none
   |none=>none
def ag4{c:JD}{x:ByteArray×Int×Int}{r:List (ByteArray×Int×Int)}{out o':List Int}{f:Int}(h:run c (x::r) s out=some (o',f)):∃op o,(x.1,op)∈Wv c/\res op s x.2.1 x.2.2=some o/\match o with|.ret v=>run c r (nxt op s x.2.1 x.2.2) (out++(if Mm op then[v] else[]))=some (o',f)|.stop fa e=>(e=0/\fa≠0)/\o'=out/\f=fa:=by
 rw[run] at h;split at h
 ·cases h
 ·rename_i p hp;have h1:p.1=x.1:=by simpa using List.find?_some hp
  have h2:=W8 hp;split at h
  ·rename_i hv;exact⟨_,_,by rw[<-h1];exact h2,hv,h⟩
  ·rename_i hv;split at h
   ·rename_i he
    cases h;exact⟨_,_,by rw[<-h1];exact h2,hv,he,rfl,rfl⟩
   ·cases h
  ·cases h
def ajn(c:JD)(hc:c≠ .counter)(w:World):∃L Q,(Calls prog 87 #[(clsName c)] w fun e w'=>e=.returned (P1 w.heap.size)/\MS w.heap.size L Q ⟨[],.map [],0,-1⟩ 0 none w'/\Below w.heap.size w w')/\∀p∈Wv c,jP w.heap.size L Q p.1 p.2:=by
 cases c
 ·exact⟨_,_,ag2 w,ag3 _⟩
 ·exact⟨_,_,Zd w,Ze _⟩
 ·exact⟨_,_,acT w,acU _⟩
 ·exact absurd rfl hc
 ·exact⟨_,_,acV w,acW _⟩
 ·exact⟨_,_,acX w,acY _⟩
def MS.qP{L:List (ByteArray×Value)}{lk:Option Nat}(h:MS n L Q s q lk W)(hb:Below W.heap.size W w'):MS n L Q s q lk w':=
 h.kept (G:=fun _=>False) (Kept.QL hb) (fun _ _ _ e=>e) (fun _ _ e=>e)
def OwnI.qP{w:World}{k:Option Nat}(h:OwnI w v k xs)(hb:Below w.heap.size w w'):OwnI w' v k xs:=
 h.keep fun b e=>hb.block b (h.lt b e)
def MS.aq9{L:List (ByteArray×Value)}{lk:Option Nat}(h:MS n L Q s q lk W){b:Nat}(hb:W.heap.size<=b):¬F n lk b:=by
 have hs:=h.size;rintro(e|e|e)
 ·omega
 ·omega
 ·have:=h.lt b e;omega
def ajo(o':List Int)(f:Int)(w:World)(e:Ending)(w':World):Prop:=∃v k,e=.returned (.tuple #[v,I f,I 0])/\OwnI w' v k o'/\Below w.heap.size w w'/\(∀b,k=some b->w.heap.size<=b)
def ag5(c:JD)(WS:c≠ .counter)(a:Option Addr)(cap:Nat)(l:List (ByteArray×Int×Int))(o':List Int)(f:Int)(w:World)(hL:LC w a l)(hn:l.length<=40)(bL:∀x∈l,T0 c x)(hP:run c l ⟨[],.map [],0,-1⟩ []=some (o',f)):Calls prog 58 #[(clsName c),sV a l.length cap] w (ajo o' f w):=by
 have hc:=Pc c a cap l bL w hL hn;revert hL bL hP;refine jk ?_;intro hL bL hP;go_enter func58,ntmps58;go_wp2_with fail;go_step3
 go_wp2_with fail;refine hc.mono ?_;rintro e w1 ⟨rfl,lL⟩;obtain⟨L,Q,ara,Vr⟩:=ajn c WS w1;go_wp2_with fail;refine ara.mono ?_;rintro e w2 ⟨rfl,hM,jy⟩;obtain⟨n,Qy⟩:∃n,n=w1.heap.size:=⟨_,rfl⟩
 rw[<-Qy] at hM Vr ⊢;have hnw:w.heap.size<=n:=by rw[Qy];exact lL.size
 have hB:=lL.trans (jy.mono lL.size);replace Qy:=ah Qy;go_wp2_with fail;go_step3
 go_wp2_with fail;go_loopg [9,10,27] l.length (fun gg s9 s10 s27 wr=>∃(kk:Nat) (s:St) (lk k9:Option Nat) (out:List Int),kk<=l.length/\l.length - kk<=gg/\s27=I kk/\s10=I 0/\OwnI wr s9 k9 out/\MS n L Q s kk lk wr/\Good s kk/\(∀b,k9=some b->n+4+Q.length<=b/\lk≠some b)/\Below w.heap.size w wr/\out.length<=kk/\Hid (run c (l.drop kk) s out=some (o',f)))
 case atStart=>exact⟨0,_,none,none,[],by omega,by omega,rfl,rfl,OwnI.nil _,hM,Good.start,(fun _ e=>nomatch e),hB,by simp,ah (by simpa using hP.out)⟩
 case round=>
  obtain⟨kk,s,lk,k9,out,xe,hg,rfl,rfl,ho9,hMr,hG,hk9,lW,hol,hp⟩:=hrel;obtain⟨a9,c9,rfl,_⟩:=ho9.form;by_cases bQ:kk < l.length
  ·have rj:(kk:Int) < (l.length:Int):=by omega
   have hkz:(0:Int)<=(kk:Int):=ab;have IP:=hp.out;rw[MN bQ] at IP;have hz:=ck bQ;generalize l[kk]=x at hz IP;obtain⟨nm,A,B⟩:=x;obtain⟨j,ar,re,hj,hA,hBr,_,_⟩:=bL.out _ (cm hz);dsimp only at hj hA hBr;have jS:=(JE c j _ hj).1;dsimp only at jS;obtain⟨bb,off,rfl,h0,h1,h2⟩:=(hL.out.below lW).cell kk nm A B hz;obtain⟨op,oo,o7,hao,Ww⟩:=ag4 IP;dsimp only at o7 hao;obtain⟨j',WA⟩:=ape o7;have e1:=(JE c j' _ WA).1;dsimp only at e1;obtain rfl:j=j':=by have:=jS.symm.trans e1;omega
   rw[hj] at WA;obtain⟨rfl,rfl⟩:ar=Wu op/\re=Mm op:=by cases WA;exact⟨rfl,rfl⟩
   have hdo:=Vr _ o7;have hM1:=hMr.alloc (cO #[.string nm,I A,I B] 59);have qI:=ho9.alloc (cO #[.string nm,I A,I B] 59);go_wp2_with fail;refine bD (wW c j nm (Wu op) (Mm op) jS hj _) fun w3 gJ=>?_;have q0:w3.cell? ⟨wr,0,none⟩=some (.string nm):=(gJ.cell ai).trans fX;refine Le ?_;intro q1 q2 sY;have hM3:=(hM1.qP gJ).alloc (cO #[.string nm,I (Wu op),.bool (Mm op)] 101);have ho3:=(qI.qP gJ).alloc (cO #[.string nm,I (Wu op),.bool (Mm op)] 101);have Cm:Below w.heap.size w (w3.alloc (cO #[.string nm,I (Wu op),.bool (Mm op)] 101)):=((lW.alloc lW.size _).trans (gJ.mono HQ)).alloc (by have:=lW.size;omega) _;have hd:=hdo s kk lk _ A B oo hM3 hG hA hBr hao;have hG':=agV op s kk A B hG ab hA hBr;have hnF:=(hM1.qP gJ).aq9 (b:=w3) (aM _);have hkF:∀b,k9=some b->¬F n lk b:=fun b e=>by
    obtain⟨x1,x2⟩:=hk9 b e;rintro(y|y|y)
    ·omega
    ·omega
    ·exact x2 y
   have hqr:(w3.alloc (cO #[.string nm,I (Wu op),.bool (Mm op)] 101)).cell? ⟨w3,2,none⟩=some (.bool (Mm op)):=fX;have abg:∀k,F n lk k->w.heap.size<=k:=by
    rintro k (y|y|y)
    ·omega
    ·omega
    ·have:=hM3.Zv k y;omega
   obtain⟨s',hs'⟩:∃s',nxt op s A B=s':=⟨_,rfl⟩
   try dsimp only at Ww
   rw[hs'] at Ww hd hG';revert hao hkF abg;refine jk ?_;intro hao hkF abg;replace hj:=ah hj;replace jS:=ah jS
   cases oo with
   |ret v=>
    go_wp2_with fail;refine hd.mono ?_;rintro e w4 ⟨Mb,rfl,BJ,hM4,hr4⟩;have jV:=Cm.trans ((Mb.below Cm.size abg).mono (aM _));have ho4:=ho3.kept Mb hkF;have apf:=Mb.aq hqr hnF;have abp:w3.heap.size < w4.heap.size:=by have:=Mb.size;simp at this;omega
    have Zf:∀b,k9=some b->n+4+Q.length<=b/\BJ≠some b:=fun b e=>⟨(hk9 b e).1,fun e'=>by
     rcases hr4 with rfl|hr4
     ·exact(hk9 b e).2 e'
     ·have h1:=hr4 b e';have h2:=ho3.lt b e;omega⟩
    replace Zf:=ah Zf;have hM5:=hM4.alloc (cO #[I 0,I 0] 160);have ho5:=ho4.alloc (cO #[I 0,I 0] 160);have hb6:=jV.alloc (o:=cO #[I 0,I 0] 160) jV.size;try dsimp only at Ww
    cases U2:Mm op with
    |true=>
     rw[U2] at apf Ww;replace U2:=ah U2;go_wp2_with (at_builtin;refine xt rfl _ _ rfl rfl v (w4.heap.size+1) 1 rfl (ho5.alloc (cO #[I v] 3)) ab (by rw[show w4.heap.size+1=(w4.alloc (cO #[I 0,I 0] 160)).heap.size by simp];exact JB _ _ _) ?_;intro v' k' w5 ho6 hk6 hr6;obtain⟨a',c',rfl,_⟩:=ho6.form);go_roundg (l.length - (kk+1))
     case measure=>omega
     case rel=>
      have arb:∀j,j < n+4+Q.length->n<=j->¬k9=some j:=fun j h1 _ e=>by have:=(Zf j e).1;omega
      have hM6:=(hM5.alloc (cO #[I v] 3)).kept hk6 arb (fun b e e'=>(Zf b e').2 e);refine⟨kk+1,s',BJ,k',out++[v],by omega,by omega,by go_num,rfl,by simpa using ho6,hM6,hG',fun b e=>?_,?_,by simp;omega,ah (by simpa using Ww)⟩
      ·rcases hr6 with rfl|hr6
       ·exact Zf b e
       ·have h1:((w4.alloc (cO #[I 0,I 0] 160)).alloc (cO #[I v] 3)).heap.size<=b:=hr6 b e;have h2:=(hM5.alloc (cO #[I v] 3)).size;exact⟨by omega,fun e'=>by have:=(hM5.alloc (cO #[I v] 3)).lt b e';omega⟩
      ·have hb7:=hb6.alloc (o:=cO #[I v] 3) hb6.size;exact hb7.trans ((hk6.below hb7.size (fun k e=>by have:=(Zf k e).1;omega)).mono (aM _))
    |false=>
     rw[U2] at apf Ww;replace U2:=ah U2;go_wp2_with fail;go_roundg (l.length - (kk+1))
     case measure=>omega
     case rel=>exact⟨kk+1,s',BJ,k9,out,by omega,by omega,by go_num,rfl,ho5,hM5,hG',Zf,hb6,by omega,ah (by simpa using Ww)⟩
   |stop fa er=>
    obtain⟨⟨rfl,Pj⟩,rfl,rfl⟩:=Ww;have hfa:(f !=0)=true:=by simpa using Pj
    go_wp2_with fail;refine hd.mono ?_;rintro e w4 ⟨Mb,rfl⟩;have jV:=Cm.trans ((Mb.below Cm.size abg).mono (aM _));have ho4:=ho3.kept Mb hkF;have ho5:=ho4.alloc (cO #[I f,I 0] 160);have hb6:=jV.alloc (o:=cO #[I f,I 0] 160) jV.size;replace hk9:=ah hk9;go_wp2;go_ret3
    exact⟨_,k9,rfl,ho5,hb6,fun b e=>by have:=hk9 b e;omega⟩
  ·have rj:¬(kk:Int) < (l.length:Int):=by omega
   have IP:=hp.out;rw[List.drop_eq_nil_of_le ab] at IP;obtain⟨rfl,rfl⟩:o'=out/\f=0:=by cases IP;exact⟨rfl,rfl⟩
   go_wp2;go_ret3
   exact⟨_,k9,rfl,ho9,lW,fun b e=>by have:=hk9 b e;omega⟩
def drewN_drewN(w:World)(a b:Nat):(w.drewN a).drewN b=w.drewN (a+b):=by simp[World.drewN,xP]
def acZ{w:World}{v1 v2:Value}{k1 k2:Option Nat}(h1:OwnI w v1 k1 xs)(h2:OwnI w v2 k2 xs):Calls prog 59 #[v1,v2] w fun e w'=>e=.returned (.bool true)/\∃n,w'=w.drewN n:=by
 rcases h1.cases with⟨rfl,rfl,rfl⟩|⟨b1,o1,c1,rfl,rfl⟩
 ·obtain⟨a2,c2,rfl,_⟩:=h2.form;exact J2
 ·have hm1:=h1.row.2.2.1;have cg:=h1.row.2.2.2.1;simp only[maxLen] at cg;rcases h2.cases with⟨rfl,_,h0⟩|⟨b2,o2,c2,rfl,_⟩
  ·subst h0;exact J2
  ·have hC1:=ah (fun(j:Nat) (z:Int) (hj:xs[j]?=some z)=>h1.cell hj);have hC2:=ah (fun(j:Nat) (z:Int) (hj:xs[j]?=some z)=>h2.cell hj);go_enter func59,ntmps59;go_wp2;go_loopg [5] xs.length (fun gg s5 wr=>∃(kk n:Nat),kk<=xs.length/\xs.length - kk<=gg/\s5=I kk/\Hid (wr=w.drewN n))
   case atStart=>exact⟨0,0,dE _,aM _,rfl,ah rfl⟩
   case round=>
    obtain⟨kk,n,xe,hg,rfl,hw⟩:=hrel;by_cases bQ:kk < xs.length
    ·have rj:(kk:Int) < (xs.length:Int):=by omega
     have hkz:(0:Int)<=(kk:Int):=ab;have hz:=ck bQ;generalize xs[kk]=z at hz;have g1:wr.cell? ⟨b1,o1+kk,none⟩=some (I z):=by rw[hw.out];exact hC1 kk z hz
     have g2:wr.cell? ⟨b2,o2+kk,none⟩=some (I z):=by rw[hw.out];exact hC2 kk z hz
     go_wp2_with fail;go_quiet (fail)
     go_wp2_with fail;go_roundg (xs.length - (kk+1))
     case measure=>omega
     case rel=>exact⟨kk+1,n+nq,by omega,by omega,by go_num,ah (by rw[hw.out,drewN_drewN])⟩
    ·have rj:¬(kk:Int) < (xs.length:Int):=by omega
     go_wp2;go_ret;exact⟨rfl,n,hw⟩
def pJ{w:World}(h:Below B w w')(k:Nat):Below B w (w'.drewN k):=⟨h.os,h.tape,h.output,h.size,h.block⟩
def ag6(c:JD)(WS:c≠ .counter)(a:Option Addr)(cap:Nat)(l:List (ByteArray×Int×Int))(want:List Int)(f:Int)(wv:Value)(kw:Option Nat)(w:World)(hL:LC w a l)(hn:l.length<=40)(bL:∀x∈l,T0 c x)(hP:run c l ⟨[],.map [],0,-1⟩ []=some (want,f))(hW:OwnI w wv kw want):Calls prog 28 #[.string (clsName c),sV a l.length cap,wv,I f] w fun e w'=>e=.returned (.bool true)/\Below w.heap.size w w':=by have hm:=ag5 c WS a cap l want f w hL hn bL hP;obtain⟨a2,c2,rfl,_⟩:=hW.form;replace hP:=ah hP;go_enter func28,ntmps28;go_wp2_with fail;refine hm.mono ?_;rintro e w1 ⟨v,k,rfl,ho,hb,_⟩;obtain⟨a1,c1,rfl,_⟩:=ho.form;have hs:=acZ ho (hW.qP hb);go_wp2_with fail;refine hs.mono ?_;rintro e w2 ⟨rfl,n,rfl⟩;go_wp2;go_ret;exact⟨rfl,pJ hb n⟩
def LW:List (ByteArray×Int×Int)->List Value
 |[]=>[]
 |x::r=>.string x.1::I x.2.1::I x.2.2::LW r
def qH:∀(l:List (ByteArray×Int×Int)) (k:Nat) (nm:ByteArray) (A B:Int),l[k]?=some (nm,A,B)->(LW l)[k*3]?=some (.string nm)/\(LW l)[k*3+1]?=some (I A)/\(LW l)[k*3+2]?=some (I B)
 |[],k,_,_,_,h=>by simp at h
 |x::r,0,nm,A,B,h=>by cases h;exact⟨rfl,rfl,rfl⟩
 |x::r,k+1,nm,A,B,h=>by
  obtain⟨h0,h1,h2⟩:=qH r k nm A B h;rw[show(k+1)*3=k*3+3 by omega];exact⟨h0,h1,h2⟩
def ag7(w:World)(l:List (ByteArray×Int×Int))(T:TypeId)(cs:Array Value)(hc:cs=(LW l).toArray)(hl:l.length<=40){c:JD}(hw:l.all (okB c)=true):LC (w.alloc (cO cs T)) (some ⟨w,0,none⟩) l:=by
 subst hc;have xp:∀j,(w.alloc (.cells (LW l).toArray T)).cell? ⟨w,j,none⟩=(LW l)[j]?:=by intro j;unfold World.cell?;rw[heap_alloc,if_pos rfl];simp
 refine⟨by omega,fun k nm A B hk=>⟨_,_,rfl,?_⟩,fun x hx=>?_⟩
 ·simp only[fi,xp];exact qH l k nm A B hk
 ·obtain⟨_,_,_,_,h,h',_⟩:=Za hw x hx;simp only[iu] at h h';omega
def ag8(w:World)(xs:List Int)(cs:Array Value)(hc:cs=(xs.map (Value.int .i64)).toArray)(hl:xs.length<=40):OwnI (w.alloc (cO cs 3)) (sV w xs.length xs.length) (some w.heap.size) xs:=by subst hc;refine .inr ⟨_,0,_,_,rfl,rfl,by rw[heap_alloc,aI rfl],aM _,by simp only[maxLen];omega,by simp,?_⟩;simp;rw[oh ai]
def ajp:List (ByteArray×Int×Int):=[(lP,3,0),(jt,5,0),(lP,1,0),(nG,0,0),(jW,0,0),(nP,1,0)]
def ac0:List (ByteArray×Int×Int):=[(lP,3,0),(jt,1,0),(lP,2,0),(nP,2,0),(nP,4,0)]
def ag9:List (ByteArray×Int×Int):=[(sH,1,7),(sH,1,8),(cM,0,0),(ju,1,0),(ju,2,0)]
def aha:List (ByteArray×Int×Int):=[(MJ,12,18),(xI,2,10),(BW,5,0),(sI,3,0),(sI,21,0)]
def ahb:List (ByteArray×Int×Int):=[(zo,3,6),(o9,0,0),(nG,0,0),(zo,5,3)]
open Go.RowKit Go.Maps Go.Shelf
attribute [local go_sem] Rs
def amI(i:Nat):ByteArray:=⟨(Lib.decDigits i).toArray⟩
def Zg(i:Nat)(hi:i < 100)(w:World):Calls prog 83 #[i] w fun e w'=>e=.returned (.string ⟨(Lib.decDigits i).toArray⟩)/\w'=w:=Any.strconv_Itoa_small Tryz.ad4.ton171 i hi w
def IJ(i:Nat)(hi:i < 100)(w:World):Calls prog 82 #[I i] w fun e w'=>e=.returned (.string (amI i))/\w'=w:=by have hi0:¬(i:Int) < 0:=ab;go_enter func82,ntmps82;go_wp2_with fail;refine(Zg i hi _).mono ?_;rintro e w' ⟨rfl,rfl⟩;exact cQ
def adt(w:World):Calls prog 82 #[I 2] w fun e w'=>e=.returned (.string ⟨#[50]⟩)/\w'=w:=by have:=IJ 2 ab w;rwa[show amI 2=⟨#[50]⟩ by decide+kernel] at this
def adu(w:World):Calls prog 82 #[I 0] w fun e w'=>e=.returned (.string ⟨#[48]⟩)/\w'=w:=by have:=IJ 0 ab w;rwa[show amI 0=⟨#[48]⟩ by decide+kernel] at this
def SCR:List (ByteArray×Int×Int):=[(lV,2,0),(cM,0,0)]
def S0:ByteArray:=⟨#[99,32,46,32,97,100,100,32,40,32,50,32,41,32,59]⟩
def S1:ByteArray:=⟨#[112,117,116,32,99,32,46,32,99,111,117,110,116,32,59]⟩
def ahc(x0 x1 x2:Value)(w:World):(Instr.index 153 (.agg #[x0,x1,x2]) (iV 1)).run prog w=.ok x1 w:=by kernel_rfl
def ahd(x0 x1 x2:Value)(w:World):(Instr.index 153 (.agg #[x0,x1,x2]) (iV 0)).run prog w=.ok x0 w:=by kernel_rfl
def XS:List ByteArray:=[S0,S1]
def Wx{w:World}(hb:Below w.heap.size w w'):w.grownBy w' none:=⟨hb.os,hb.tape,hb.output,hb.size,fun k hk _=>hb.block k hk⟩
def ac1(n:Nat)(hn:1<=n)(l Bl Bc bb off cap n₀:Nat)(J Jx:List ByteArray->World->Prop)(IS:bb < n₀)(hJ:∀s W W',J s W->Below W.heap.size W W'->J s W')(hY:∀pre x W,J pre W->pre.length < 2->YieldAt Fence.wide (n - 1) prog l #[.string x] W fun e W'=>(e=.returned (.bool true)/\J (pre++[x]) W'/\Below n₀ W W'/\W'.heap[Bc]?=W.heap[Bc]?)∨(e=.returned (.bool false)/\Jx (pre++[x]) W'))(W:World)(h1:W.cell? ⟨Bl,0,none⟩=some (sV (some ⟨bb,off,none⟩) 2 cap))(h2:W.heap[Bc]?=some (.cells #[.string aX] 9 (0,0)))(hc:∀(k:Nat) (nm:ByteArray) (A B:Int),SCR[k]?=some (nm,A,B)->W.cell? ⟨bb,off+k*3,none⟩=some (.string nm)/\W.cell? ⟨bb,off+k*3+1,none⟩=some (I A)/\W.cell? ⟨bb,off+k*3+2,none⟩=some (I B))(h0:J [] W)(nz:n₀<=W.heap.size):CallsIn Fence.wide n prog 81 #[.func (.yield l) #[] #[],.pointer Bl,.pointer Bc] W fun e W'=>(∃v,e=.returned v)/\((∃ys,ys=XS/\J ys W')∨(∃pre,pre <+:XS/\Jx pre W')):=by
 refine callsIn_of_wp func81 rfl bw ?_ rfl;simp only[ntmps81,JG,dC,mc,Nat.reduceAdd,Nat.reduceSub,I1,I2,I3,I4,xR,qF];have g2:W.cell? ⟨Bc,0,none⟩=some (.string aX):=by unfold World.cell?;rw[h2];rfl
 replace h2:=ah h2;gi_wp2;gi_loopw [13] (fun i wr=>∃k:Nat,k<=2/\i=iV k/\J (XS.take k) wr/\Below n₀ W wr/\wr.heap[Bc]?=W.heap[Bc]?) (fun i _=>2 - (intOf i).toNat)
 case atStart=>exact⟨0,by omega,rfl,h0,iG _ _,rfl⟩
 case round=>
  obtain⟨k,hk,rfl,hJs,ZK,QG⟩:=hrel;have g2:wr.cell? ⟨Bc,0,none⟩=some (.string aX):=by unfold World.cell?;rw[QG,h2.out];rfl
  have hsc:Bc < wr.heap.size:=cA wr _ g2;replace QG:=ah QG;obtain rfl|rfl|rfl:k=0∨k=1∨k=2:=ab
  ·obtain⟨x0,x1,x2⟩:=hc 0 lV 2 0 rfl;have y0:=(ZK.cell (p:=⟨bb,off+0*3,none⟩) IS).trans x0;have y1:=(ZK.cell (p:=⟨bb,off+0*3+1,none⟩) IS).trans x1;have y2:=(ZK.cell (p:=⟨bb,off+0*3+2,none⟩) IS).trans x2;simp only[xL,fS] at y0 y1 y2;have hsb:bb < wr.heap.size:=cA wr _ y0;have MF:∀w,Calls prog 54 #[.string aX,.string lV] w fun e w'=>e=.returned (.tuple #[.agg #[.string lV,I 1,.bool false],true])/\Below w.heap.size w w':=fun w=>wW .counter 2 lV 1 false bh rfl w;gi_wp2_with fail;refine⟨bw,(mA.2 (MF _)).mono ?_⟩;rintro e w3 ⟨rfl,gJ⟩;have q0:w3.cell? ⟨wr,0,none⟩=some (.string lV):=(gJ.cell ai).trans fX;have q1:w3.cell? ⟨wr,1,none⟩=some (I 2):=(gJ.cell ai).trans fX;have q2:w3.cell? ⟨wr,2,none⟩=some (I 0):=(gJ.cell ai).trans fX;have Xw:wr.heap.size < w3.heap.size:=yI;have hJ3:=hJ _ _ _ (hJ _ _ _ hJs ((iG _ wr).alloc (aM _) (cO #[.string lV,I 2,I 0] 59))) gJ;have g3:w3.cell? ⟨Bc,0,none⟩=some (.string aX):=(gJ.cell aH).trans ((iW _ _ _ _ hsc).trans g2);have i1:=ahc;refine GD ?_;intro bC bX nq;obtain⟨V,hV⟩:∃V,V=(w3.alloc (cO #[.string lV,I 1,.bool false] 101)).drewN nq:=⟨_,rfl⟩
   have v0:V.cell? ⟨wr,0,none⟩=some (.string lV):=Hp;have v3:V.cell? ⟨Bc,0,none⟩=some (.string aX):=by rw[hV];exact(iW _ _ _ _ ab).trans g3
   have v6:V.cell? ⟨w3,2,none⟩=some (.bool false):=Lj;have hJV:J (XS.take 0) V:=Lk;revert hV;refine La ?_;intro hnV zp hV;obtain⟨fn,tmps,assign,body,hy,hR⟩:=hY _ ((jv:ByteArray)++lV++⟨#[32]⟩++((⟨#[40,32]⟩:ByteArray)++⟨#[50]⟩++⟨#[32,41,32]⟩)++qv) V hJV aj;gi_wp2;refine hR.mono ?_;rintro e W3 (⟨rfl,hJ4,Mb,ZJ⟩|⟨rfl,abl⟩)
   ·replace ZJ:=ah ZJ;gi_wp2;go_roundw
    case rel=>have eT:XS.take 1=XS.take 0++[(jv:ByteArray)++lV++⟨#[32]⟩++((⟨#[40,32]⟩:ByteArray)++⟨#[50]⟩++⟨#[32,41,32]⟩)++qv]:=bh;exact⟨1,by omega,by simp,by rw[eT];exact hJ4,hnV.trans Mb,ZJ.trans zp⟩
    case measure=>simp[intOf]
   ·gi_wp2;refine bG (results_none rfl _ _ _) rfl ?_;have eT:XS.take 0++[(jv:ByteArray)++lV++⟨#[32]⟩++((⟨#[40,32]⟩:ByteArray)++⟨#[50]⟩++⟨#[32,41,32]⟩)++qv]=XS.take 1:=bh;exact D3
  ·obtain⟨x0,x1,x2⟩:=hc 1 cM 0 0 rfl;have y0:=(ZK.cell (p:=⟨bb,off+1*3,none⟩) IS).trans x0;have y1:=(ZK.cell (p:=⟨bb,off+1*3+1,none⟩) IS).trans x1;have y2:=(ZK.cell (p:=⟨bb,off+1*3+2,none⟩) IS).trans x2;simp only[Nat.one_mul] at y0 y1 y2;have hsb:bb < wr.heap.size:=cA wr _ y0;have MF:∀w,Calls prog 54 #[.string aX,.string cM] w fun e w'=>e=.returned (.tuple #[.agg #[.string cM,I 0,.bool true],true])/\Below w.heap.size w w':=fun w=>wW .counter 0 cM 0 true bh rfl w;gi_wp2_with fail;refine⟨bw,(mA.2 (MF _)).mono ?_⟩;rintro e w3 ⟨rfl,gJ⟩;have q0:w3.cell? ⟨wr,0,none⟩=some (.string cM):=(gJ.cell ai).trans fX;have q1:w3.cell? ⟨wr,1,none⟩=some (I 0):=(gJ.cell ai).trans fX;have q2:w3.cell? ⟨wr,2,none⟩=some (I 0):=(gJ.cell ai).trans fX;have Xw:wr.heap.size < w3.heap.size:=yI;have hJ3:=hJ _ _ _ (hJ _ _ _ hJs ((iG _ wr).alloc (aM _) (cO #[.string cM,I 0,I 0] 59))) gJ;have g3:w3.cell? ⟨Bc,0,none⟩=some (.string aX):=(gJ.cell aH).trans ((iW _ _ _ _ hsc).trans g2);have i1:=ahd;refine GD ?_;intro bC bX nq;obtain⟨V,hV⟩:∃V,V=(w3.alloc (cO #[.string cM,I 0,.bool true] 101)).drewN nq:=⟨_,rfl⟩
   have v0:V.cell? ⟨wr,0,none⟩=some (.string cM):=Hp;have v3:V.cell? ⟨Bc,0,none⟩=some (.string aX):=by rw[hV];exact(iW _ _ _ _ ab).trans g3
   have v6:V.cell? ⟨w3,2,none⟩=some (.bool true):=Lj;have hJV:J (XS.take 1) V:=Lk;revert hV;refine La ?_;intro hnV zp hV;obtain⟨fn,tmps,assign,body,hy,hR⟩:=hY _ ((⟨#[112,117,116,32]⟩:ByteArray)++((jv:ByteArray)++cM++⟨#[32]⟩++⟨#[]⟩++qv)) V hJV aj;gi_wp2;refine hR.mono ?_;rintro e W3 (⟨rfl,hJ4,Mb,ZJ⟩|⟨rfl,abl⟩)
   ·replace ZJ:=ah ZJ;gi_wp2;go_roundw
    case rel=>have eT:XS.take 2=XS.take 1++[(⟨#[112,117,116,32]⟩:ByteArray)++((jv:ByteArray)++cM++⟨#[32]⟩++⟨#[]⟩++qv)]:=bh;exact⟨2,by omega,by simp,by rw[eT];exact hJ4,hnV.trans Mb,ZJ.trans zp⟩
    case measure=>simp[intOf]
   ·gi_wp2;refine bG (results_none rfl _ _ _) rfl ?_;have eT:XS.take 1++[(⟨#[112,117,116,32]⟩:ByteArray)++((jv:ByteArray)++cM++⟨#[32]⟩++⟨#[]⟩++qv)]=XS.take 2:=bh;exact D3
  ·gi_wp2;go_end0;exact⟨⟨_,rfl⟩,.inl ⟨_,rfl,hJs⟩⟩
attribute [local go_sem] Rs
def PRE:List ByteArray:=[aT,((jw:ByteArray)++aX),dm]
def ajq:ByteArray:=⟨#[101,110,100,32,101,110,100]⟩
def apg:ByteArray:=⟨#[99,108,97,115,115,32,77,65,73,78,32,99,114,101,97,116,101,32,109,97,107,101,32,102,101,97,116,117,114,101,32,123,32,65,78,89,32,125,32,109,97,107,101,32,108,111,99,97,108,32,99,32,58,32,67,79,85,78,84,69,82,32,100,111,32,99,114,101,97,116,101,32,99,32,46,32,109,97,107,101,32,59,32,99,32,46,32,97,100,100,32,40,32,50,32,41,32,59,32,112,117,116,32,99,32,46,32,99,111,117,110,116,32,59,32,101,110,100,32,101,110,100]⟩
def DRV:ByteArray:=⟨#[99,108,97,115,115,32,77,65,73,78,32,99,114,101,97,116,101,32,109,97,107,101,32,102,101,97,116,117,114,101,32,123,32,65,78,89,32,125,32,109,97,107,101,32,108,111,99,97,108,32,99,32,58,32,67,79,85,78,84,69,82,32,100,111,32,99,114,101,97,116,101,32,99,32,46,32,109,97,107,101,32,59,32,99,32,46,32,97,100,100,32,40,32,50,32,41,32,59,32,112,117,116,32,99,32,46,32,99,111,117,110,116,32,59,32,101,110,100,32,101,110,100,10]⟩
def ajr(cls:ByteArray)(a:Option Addr)(n cap:Nat)(w:World):Calls prog 49 #[.string cls,sV a n cap] w fun e w'=>e=.returned (.func (.func 81) #[] #[.pointer (some ⟨w.heap.size+1,0,none⟩),.pointer (some ⟨w,0,none⟩)])/\w'=(w.alloc (cO #[.string cls] 9)).alloc (cO #[sV a n cap] 48):=by refine fg ?_;intro sE;go_enter func49,ntmps49;exact cQ
def ahe{w:World}{xs:List ByteArray}(h:∃g off cap,v=sV (some ⟨g,off,none⟩) xs.length cap/\xs.length<=cap/\∀(k:Nat) (nm:ByteArray),xs[k]?=some nm->w.cell? ⟨g,off+k,none⟩=some (.string nm))(hx:xs.length≠0)(hn:xs.length<=1000)(hl:(Lib.join (xs.map (·.data.toList)) [32]).length<=1000000):Calls prog 50 #[v] w fun e w'=>e=.returned (.string ⟨(Lib.join (xs.map (·.data.toList)) [32]).toArray⟩)/\Below w.heap.size w w':=by
 obtain⟨g,off,cap,rfl,oG,hc⟩:=h;by_cases h0:xs.length=0
 ·exact absurd h0 hx
 have hg:g < w.heap.size:=cA w _ (hc 0 _ (ck ab));have hj:=Tryz.strings_Join g off cap xs ⟨#[32]⟩ w (fun j x h=>hc j x h) hg ab oG (by exact cn hl ab);go_enter func50,ntmps50;go_wp2_with fail;refine hj.mono ?_;rintro e w' ⟨rfl,hb⟩;go_wp2;go_ret;exact⟨rfl,hb⟩
def amJ{s:Value}{xs:List Value}(hb:Boxed W B 9 s)(hr:W.ownsRow N 9 1 v n xs)(hn:2<=n):v.ownBlock≠some B:=by
 rcases hr.2 with⟨rfl,_⟩|⟨g,cap,cur,rfl,_,hg,h1,_,h2,_⟩
 ·simp[Value.ownBlock]
 ·intro e;obtain rfl:g=B:=yM;have:=(show W.heap[g]?=_ from hb).symm.trans hg;simp at this;rw[<-this] at h2;simp at h2;omega
def ahf{xs:List Value}(hr:W.ownsRow N 9 1 v n xs)(k:Nat)(e:v.ownBlock=some k):N<=k:=by exact J8
def TO{D:Nat}{o:Obj}{xs:List Value}(hb:W.heap[D]?=some o)(ho:o.isCells=false)(hr:W.ownsRow N 9 1 v n xs):v.ownBlock≠some D:=by
 rcases hr.2 with⟨rfl,_⟩|⟨g,cap,cur,rfl,_,hg,_⟩
 ·simp[Value.ownBlock]
 ·intro e;obtain rfl:g=D:=yM;rw[hb] at hg
  cases hg
  cases ho
def ac2(n:Nat)(hn:5<=n)(bb off cap:Nat)(w:World)(hL:LC w (some ⟨bb,off,none⟩) SCR):CallsIn Fence.wide n prog 21 #[.string aX,sV (some ⟨bb,off,none⟩) 2 cap] w fun e w'=>e=.returned (.tuple #[.string DRV,I 0])/\Below w.heap.size w w':=by
 have h1:1<=n:=ab;have bL:∀x∈SCR,T0 .counter x:=Za bh;have hck:Calls prog 25 #[.string aX,sV (some ⟨bb,off,none⟩) 2 cap] w (abc 0 w):=Pc .counter _ cap SCR bL w hL aj;refine callsIn_of_wp_marks func21 rfl bw ?_ rfl;simp only[ntmps21,JG,dC,mc,Nat.reduceAdd,Nat.reduceSub,I1,I2,I3,I4,xR,qF];gi_wp2_with fail;refine⟨bw,(mA.2 hck).mono ?_⟩;rintro e w1 ⟨rfl,lL⟩;have hL1:=hL.below lL;gi_wp2_with fail;refine⟨bw,(mA.2 (ajr _ _ _ _ _)).mono ?_⟩;rintro e w' ⟨rfl,rfl⟩;gi_wp2_with fail;have IS:bb < w1.heap.size:=by obtain⟨b',VP,e,c0,_⟩:=hL1.cell 0 _ _ _ rfl;cases e;exact cA _ _ c0
 obtain⟨i0,hi,A6,ey,oY⟩:=dN (show(prog.info? 9).map (fun i=>(i.zero,i.size,i.bytes))=some (some (.string ⟨#[]⟩),1,16) by kernel_rfl);obtain⟨W0,OI⟩:∃W0,W0=(((w1.alloc (cO #[.string aT,.string ((jw:ByteArray)++aX),.string dm] 9)).alloc (cO #[sV (some ⟨w1,0,none⟩) 3 3] 22)).alloc (cO #[.string aX] 9)).alloc (cO #[sV (some ⟨bb,off,none⟩) 2 cap] 48):=⟨_,rfl⟩
 have hs0:W0.heap.size=w1.heap.size+4:=by rw[OI];simp
 have b0:W0.heap[w1.heap.size]?=some (.cells #[.string aT,.string ((jw:ByteArray)++aX),.string dm] 9 (0,0)):=by rw[OI];simp only[heap_alloc,dB];rw[aE ab,aE ab,aE ab,aI bw]
 have b1:Boxed W0 (w1.heap.size+1) 22 (sV (some ⟨w1,0,none⟩) 3 3):=by unfold Boxed;rw[OI];simp only[heap_alloc,World.size_alloc];rw[if_neg ab,if_neg ab,if_pos trivial]
 have b2:Boxed W0 (w1.heap.size+1+1) 9 (.string aX):=by unfold Boxed;rw[OI];simp only[heap_alloc,World.size_alloc];rw[if_neg ab,if_pos trivial]
 have b3:Boxed W0 (w1.heap.size+1+1+1) 48 (sV (some ⟨bb,off,none⟩) 2 cap):=by unfold Boxed;rw[OI];simp only[heap_alloc,World.size_alloc];rw[if_pos trivial]
 have nA:Below w1.heap.size w1 W0:=by rw[OI];exact((((iG _ w1).alloc (aM _) _).alloc ai _).alloc aH _).alloc aH _
 have hL0:=hL1.below nA;have alX:SeqStopsK Fence.wide (n - 1) prog 81 #[.pointer (some ⟨w1.heap.size+1+1+1,0,none⟩),.pointer (some ⟨w1.heap.size+1+1,0,none⟩)] (fun x:ByteArray=>#[Value.string x]) (fun A B=>Below w1.heap.size A B/\B.heap[w1.heap.size+1+1]?=A.heap[w1.heap.size+1+1]?) (fun ys=>ys=XS) (fun pre=>pre <+:XS) 2 W0:=fun l J Jx W hW hJ hJx hY h0=>
  ac1 (n - 1) ab l (w1.heap.size+1+1+1) (w1.heap.size+1+1) bb off cap w1.heap.size J Jx IS (fun s A B hs hb=>hJ s A B none hs (Wx hb) (fun r e=>nomatch e)) hY W
   ((hW.cell (p:=⟨_,0,none⟩) b3.lt).trans b3.cell) ((hW.block _ b2.lt).trans b2)
   (fun k nm A B hk=>by obtain⟨b',VP,e,c0,c1,c2⟩:=(hL0.below hW).cell k nm A B hk;cases e;exact⟨c0,c1,c2⟩) h0 (by have:=hW.size;omega)
 rw[<-OI];revert OI hs0;refine ct ?_;intro OI hs0;refine wpIn_rangeFunc_ownG rfl h1 (gf:=81) (lb:=#[.pointer (some ⟨w1.heap.size+1+1+1,0,none⟩),.pointer (some ⟨w1.heap.size+1+1,0,none⟩)]) rfl bw (enters_of func81 af rfl)
  alX (fun h k=>⟨h.1.trans k.1,k.2.trans h.2⟩) (fun W l o o' hl hW ho hw=>⟨belowK_b (w:=W0) (by rw[hs0.out];omega) W l o o' hl hW ho hw,(M3 W l o').block _ (by have:=(aQ.1 hW).1;have:=hs0.out;omega) (fun e=>by have:=j6 e;have:=hs0.out;omega)⟩) (iG _ _) (fun _=>rfl)
  (fun pre W=>(∃v,Boxed W (w1.heap.size+1) 22 v/\W.ownsRow w1.heap.size 9 1 v (3+pre.length) ((PRE++pre).map Value.string)/\True)/\Boxed W (w1.heap.size+1+1) 9 (.string aX)/\Below w1.heap.size w1 W)
  (fun _ _ _=>False)
  (OwnFrom.and (Own.from (holdsRow_own w1.heap.size (w1.heap.size+1) 22 9 1 (fun pre:List ByteArray=>3+pre.length) (fun pre=>(PRE++pre).map Value.string) (fun _ _=>True)) _) (OwnFrom.and (Own.from (boxed_own _ _ _) _) (ownFrom_below (aM _) (by rw[hs0.out];omega))))
  (fun _ _ _ _ _ hs _ _=>hs)
  ⟨⟨_,b1,⟨rfl,.inr ⟨_,3,_,rfl,aM _,b0,by simp,by simp[maxLen],rfl,rfl⟩⟩,bw⟩,b2,nA⟩
  (fun x=>{tmps:=#[.string aX,.slice (some ⟨bb,off,none⟩) 2 cap,undef,undef,.string ⟨#[]⟩,.int .i64 0,I 0,.string ((jw:ByteArray)++aX),.pointer (some ⟨w1.heap.size+1,0,none⟩),.string x,.string aX,.slice (some ⟨bb,off,none⟩) 2 cap,I 0,I 0,.bool false,undef,.string aX,.string ((jw:ByteArray)++aX),.string aX,.bool false,.string ((jw:ByteArray)++aX),.slice (some ⟨w1,0,none⟩) 3 3,.string aX,.slice (some ⟨bb,off,none⟩) 2 cap,.func (.func 81) #[] #[.pointer (some ⟨w1.heap.size+1+1+1,0,none⟩),.pointer (some ⟨w1.heap.size+1+1,0,none⟩)],.string x,undef,undef,undef,undef,undef,undef,undef,undef,undef],defers:=[]}) ?assign ?body ?done ?stop
 case assign=>intro l x W K hK;gi_wp2;exact hK
 case body=>
  rintro l pre x W ⟨⟨v,hv,aL,_⟩,xE,hB⟩ bQ;have hc:=hv.cell;have arc:=amJ xE aL ab;have aph:=xE.lt;have ard:=ah xE;have Ph:=hB.size;have aiu:pre.length < 2:=bQ;gi_wp2_with (gi_at_builtin;refine Xd _ rfl _ _ 22 rfl w1.heap.size 9 i0 (.string ⟨#[]⟩) 1 16 underlying22 hi A6 ey oY rfl aj _ _ _ rfl (aL.alloc _) ⟨W,0,none⟩ 1 1 [.string x] rfl rfl (cell_one_new _ _ _) qj iZ ab aH ?_;intro v' w2 nE qN _;obtain⟨g',xV,rfl⟩:=ownsRow_succ nE;obtain⟨LH,jo,Qx,jF,jy⟩:=hv.appended aj aL Ph ab nE qN;have hc1:=LH.cell;have hf1:=LH.frozen);have akc:=(heap_setCell w2 ⟨w1.heap.size+1,0,none⟩ (.slice (some ⟨g',0,none⟩) (3+pre.length+1) xV) (w1.heap.size+1+1) ai).trans ((qN.block _ aH (fun e=>arc e.symm)).trans (jm W _ _ aph));have eL:3+(pre++[x]).length=3+pre.length+1:=by rw[j0];rfl
  have eM:(PRE++(pre++[x])).map Value.string=(PRE++pre).map Value.string++[Value.string x]:=by rw[<-I5,MM];rfl
  refine⟨jF.from _,⟨jy,akc⟩,⟨_,jo,?_⟩,akc.trans ard,hB.trans jy⟩
  first
   |(refine⟨?_,bw⟩;rw[eL,eM];exact Qx)
   |(rw[eL,<-MM,eM];exact Qx)
 case done=>
  rintro D ys W hD rfl ⟨⟨v,hv,aL,_⟩,xE,hB⟩ hK;have hc:=hv.cell;have Ph:=hB.size;have hDl:=(aQ.1 hK).1;have hrD:=TO hK rfl aL;rw[show 3+XS.length=5 from rfl] at aL;replace hK:=ah hK;gi_wp2_with (gi_at_builtin;refine Xd _ rfl _ _ 22 rfl w1.heap.size 9 i0 (.string ⟨#[]⟩) 1 16 underlying22 hi A6 ey oY rfl aj _ _ _ rfl (aL.alloc _) ⟨W,0,none⟩ 1 1 [.string ⟨#[101,110,100,32,101,110,100]⟩] rfl rfl (cell_one_new _ _ _) qj cP ab aH ?_;intro v' w2 nE qN _;obtain⟨g',xV,rfl⟩:=ownsRow_succ nE);have oG:6<=xV:=by
   rcases nE.2 with⟨e,_⟩|⟨g,cap,cur,e,_,hg,h1,_,h2,_⟩
   ·cases e
   ·cases e;omega
  have gJ:Below w1.heap.size W w2:=((iG _ W).alloc Ph _).grown qN aH (fun k e=>ahf aL k e);have eJ:(⟨(Lib.join ((PRE++XS++[ajq]).map (·.data.toList)) [32]).toArray⟩:ByteArray)=apg:=bh;have eD:apg++(mz:ByteArray)=DRV:=bh;refine⟨bw,(mA.2 (ahe (xs:=PRE++XS++[ajq]) ⟨g',0,xV,rfl,oG,?_⟩ aj aj bh)).mono ?_⟩
  ·intro k nm hk;have hk6:k < 6:=(dk.1 hk).1;rw[fi,nE.cellAt k ab];have e:(PRE++XS).map Value.string++[Value.string ajq]=(PRE++XS++[ajq]).map Value.string:=by rw[MM];rfl
   refine(gq (·[k]?) e).trans ?_;rw[qC,hk];rfl
  rintro e w4 ⟨rfl,Cm⟩;rw[eJ];have yu:w4.heap[D]?=_:=(Cm.block D Hv).trans ((qN.block _ aH (fun e=>hrD e.symm)).trans ((jm W _ _ hDl).trans hK));gi_wp2;refine⟨by simp,.inl ⟨_,_,rfl,run_takeDeferred yu,?_⟩⟩;have hBz:Below w1.heap.size w1 w4:=hB.trans (gJ.trans (Cm.mono Hv));exact⟨_,B8 rfl _ _ _,rfl,lL.trans ((hBz.mono lL.size).trans (belowK_b (w:=w1) lL.size w4 D _ _ (by have:=hs0.out;omega) yu rfl rfl))⟩
 case stop=>rintro D c pre W _ _ h _;exact h.elim
def TP(bb off cap:Nat)(w:World)(hL:LC w (some ⟨bb,off,none⟩) SCR):
  Calls prog 21 #[.string aX,sV (some ⟨bb,off,none⟩) 2 cap] w fun e w'=>e=.returned (.tuple #[.string DRV,I 0])/\Below w.heap.size w w':=
 (mA (n:=5)).1 (ac2 5 ab bb off cap w hL)
end Go.Proofs.Bm
