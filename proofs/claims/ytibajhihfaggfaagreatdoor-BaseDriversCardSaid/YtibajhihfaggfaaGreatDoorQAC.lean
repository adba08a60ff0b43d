/- A part of the proof of BaseDrivers. No condition. -/
import Derived.Test.YtibajhihfaggfaaGreatDoorQAB
set_option linter.all false
set_option maxRecDepth 100000
set_option maxHeartbeats 8000000
namespace Go.Proofs.Bm
open Go.Proofs.Tryz
open Go.RowKit Go.Maps
variable {g q:Nat}{first cap:Zt}{s:St}
variable {n q:Nat}{L:List (ByteArray×Value)}{Q:YT}{s:St}{lk:Wr}{W:YC}
def agP(a:Int)(xs:WV):List Int:=match Ml a xs with|some i=>xs.take i++a::xs.drop i|none=>xs++[a]
def JC(a:Int)(xs:WV):(∃i:Nat,i<=xs.length/\((TF a xs=(i:Int))∨(TF a xs=-1/\i=xs.length))/\agP a xs=xs.take i++a::xs.drop i):=by
 unfold TF agP
 cases h:Ml a xs with
 |some i=>exact⟨i,tC (aa9 h),.inl rfl,rfl⟩
 |none=>exact⟨xs.length,aM _,.inr ⟨rfl,rfl⟩,by simp⟩
def Wm(hM:MS n L Q s q lk W)(hn:s.l.length<=1000)(x y:Int)(i:Nat)(hi:i<=s.l.length)(hp:(TF x s.l=(i:Int))∨(TF x s.l=-1/\i=s.l.length)):Calls prog 137 #[P1 n,I x,I y] W λe w'=>Ends n L Q {s with l:=s.l.take i++x::s.l.drop i} q lk W (.ret 0) N0 e w':=by
 obtain⟨lv,hc,ho⟩:=hM.c0;have bQ:n+1 < W.heap.size:=cA W _ hc;have hf:=hM.f 0;have dM:=hM.size;refine fg ?_;intro sE;obtain⟨V,hV⟩:∃V,V=W.alloc (cO #[I x] 3):=⟨_,rfl⟩
 have jl:Kept (λ_=>False) W V:=by rw[hV];exact(Kept.refl _ W).alloc _
 have lD:V.heap.size=W.heap.size+1:=by rw[hV];simp
 have gx:V.cell? ⟨W,0,none⟩=some (I x):=by rw[hV];exact JB _ _ _
 have gc:=jl.aq hc (λe=>e);have gf:=(jl.frozen (p:=⟨n+1,0,none⟩) bQ (λe=>e)).trans hf;have hoV:OwnI V lv lk s.l:=ho.kept jl (λ_ _ e=>e);have ix:=Ql hoV W.heap.size x gx;have eG:lk≠some (W.heap.size+1):=λe=>by have:=hM.lt _ e;omega
 have ht:=O8 (w:=(V.alloc (cO #[I x] 3)).drew) (hoV.alloc (cO #[I x] 3)) i hi ab x (W.heap.size+1) 1 #[I x] (by show(V.alloc _).heap[_]?=_;rw[heap_alloc];exact aI lD.symm) rfl eG;obtain⟨a0,akt,rfl,_⟩:=ho.form;replace hV:=ah hV;have hlen:(s.l.take i++x::s.l.drop i).length=i+(s.l.length - i+1):=by simp[MO hi]
 rcases hp with h|⟨h1,h2⟩
 .rw[h] at ix;have arW:(0:Int)<=(i:Int):=ab;have arX:¬(i:Int) < 0:=ab;go_enter func137,ntmps137;go_wp2_with (go_at_call 218;rw[<-hV.out];refine ix.mono ?_;rintro e w' ⟨rfl,hw'⟩;rw[hw'];clear hw' w');refine Ag (S:=λ_=>True) af bw (λ_=>?_);have gc1:V.drew.cell? ⟨n+1,0,none⟩=some (sV a0 s.l.length akt):=gc;have gx1:V.drew.cell? ⟨W,0,none⟩=some (I x):=gx;refine df 0 ?_;refine df 1 ?_;refine df 2 ?_;refine df 3 ?_;refine df 5 ?_;refine MU (rs:=[4,6]) af ai ?_;refine tB (o:=_) rfl (λK hK=>?_) (tB (o:=_) rfl (λK hK=>?_) MV)
  .go_simp;refine hK _ _ bw (λ_=>?_);refine sp ?_;refine jR 6 λK hK=>?_;exact Kr
  .go_simp;refine hK _ _ bw (λ_=>?_);refine sp ?_;refine MU (rs:=[4,7]) af ai ?_;refine tB (o:=_) rfl (λK hK=>?_) (tB (o:=_) rfl (λK hK=>?_) MV)
   .exact Kr
   .refine Lb ?_;intro gc2 bC K hK;exact CG
 .rw[h1] at ix;subst h2;have Zq:(s.l.take s.l.length++x::s.l.drop s.l.length).length=s.l.length+1:=ai;go_enter func137,ntmps137;go_wp2_with (go_at_call 218;rw[<-hV.out];refine ix.mono ?_;rintro e w' ⟨rfl,hw'⟩;rw[hw'];clear hw' w');refine Ag (S:=λ_=>True) af bw (λ_=>?_);have gc1:V.drew.cell? ⟨n+1,0,none⟩=some (sV a0 s.l.length akt):=gc;have gx1:V.drew.cell? ⟨W,0,none⟩=some (I x):=gx;refine df 0 ?_;refine df 1 ?_;refine df 2 ?_;refine df 3 ?_;refine df 5 ?_;refine MU (rs:=[4,6]) af ai ?_;refine tB (o:=_) rfl (λK hK=>?_) (tB (o:=_) rfl (λK hK=>?_) MV)
  .go_simp;refine hK _ _ bw (λ_=>?_);refine sp ?_;refine jR 6 λK hK=>?_;exact Kq
  .go_simp;refine hK _ _ bw (λ_=>?_);refine sp ?_;refine MU (rs:=[4,7]) af ai ?_;refine tB (o:=_) rfl (λK hK=>?_) (tB (o:=_) rfl (λK hK=>?_) MV)
   .exact Kq
   .refine Lb ?_;intro gc2 bC K hK;exact Cz
inductive Op where
 |sum|push|extend|reverse|item|ins|Rh|value|many|span|width|total|gcd|aba|fact|tries
def amG(D:DataW Unit)(x:Int):Int:=match D.atKey (K1 x) (.lit (K1 0)) with
 |.lit (.int _ c)=>c
 |_=>0
def nxt:Op->St->Int->Int->St
 |.push,s,a,_=>{s with l:=a::s.l}
 |.extend,s,a,_=>{s with l:=s.l++[a]}
 |.reverse,s,_,_=>{s with l:=s.l.reverse}
 |.ins,s,a,_=>{s with l:=agP a s.l}
 |.Rh,s,a,b=>{s with D:=s.D.put (K1 a) (.lit (K1 b))}
 |.span,s,a,b=>{s with low:=a,high:=b}
 |_,s,_,_=>s
def res:Op->St->Int->Int->Option Out
 |.sum,s,_,_=>(agL 0 s.l).map .ret
 |.item,s,a,_=>if 1<=a then some (match s.l[(a - 1).toNat]? with|some z=>.ret z|none=>.stop 1 0) else none
 |.value,s,a,_=>some (.ret (amG s.D a))
 |.many,s,_,_=>some (.ret (Maps.size s.D))
 |.span,_,a,b=>if iu (b+1) then some (if a<=b+1 then .ret 0 else .stop 1 0) else none
 |.width,s,_,_=>if iu (s.high - s.low)/\iu (s.high - s.low+1) then some (.ret (s.high - s.low+1)) else none
 |.total,s,_,_=>if iu (s.high - s.low)/\iu (s.high - s.low+1) then(Y6 s.low s.high ((s.high - s.low).toNat+2) s.low 0).map .ret else none
 |.gcd,_,a,b=>if 0<=a/\0<=b then some (.ret (Nat.gcd a.toNat b.toNat)) else none
 |.aba,_,a,b=>if 0<=b then(acI a b (b.toNat+1) 0 1).map .ret else none
 |.fact,_,a,_=>if 0<=a/\a < 64 then(Y2 a 64 2 1).map .ret else none
 |.tries,_,a,_=>some (if a<=20 then .ret (max 0 a) else .stop 107 0)
 |_,_,_,_=>some (.ret 0)
structure Good (s:St) (q:Nat):Prop where
 cap:q<=100
 len:s.l.length<=q
 l:∀z∈s.l,iu z
 low:iu s.low
 high:iu s.high
 map:IsMap s.D
 D:∀x,∃c,iu c/\s.D.atKey (K1 x) (.lit (K1 0))=.lit (K1 c)
def ajj{D:DataW Unit}{x c:Int}(h:D.atKey (K1 x) (.lit (K1 0))=.lit (K1 c)):amG D x=c:=by unfold amG;rw[h]
def jP(n:Nat)(L:List (ByteArray×Value))(Q:YT)(nm:YR)(op:Op):Prop:=
 ∀(s:St) (q:Nat) (lk:Wr) (w:YC) (A B:Int) (o:Out),MS n L Q s q lk w->Good s q->iu A->iu B->res op s A B=some o->
  Calls prog 88 #[P1 n,.agg #[.string nm,I A,I B]] w λe w'=>amC n L Q (nxt op s A B) (q+1) lk w o e w'
def Ends.more{n q:Nat}{L:List (ByteArray×Value)}{Q:YT}{s:St}{lk:Wr}{W:YC}{o:Out}{val:Int->Value}{e:TP}{w':YC}(h:Ends n L Q s q lk W o val e w'):Ends n L Q s (q+1) lk W o val e w':=by
 obtain⟨h1,h2⟩:=h;refine⟨h1,?_⟩
 cases o with
 |ret r=>obtain⟨h2,BJ,h3,h4⟩:=h2;exact⟨h2,BJ,h3.more (auW _),h4⟩
 |stop f e0=>exact h2
variable {n i j:Nat}{L:List (ByteArray×Value)}{Q:YT}{nm:YR}
def Zero:Out->Prop
 |.ret r=>r=0
 |.stop _ _=>True
def sD{op:Op}(dq:lT nm L 0=some (i,.func (.func g) first cap))(Mj:∀(args:Zt) (w:YC),(callFunc g args).run prog w=.ok (.enter g args) w)
  (h:∀(s:St) (q:Nat) (lk:Wr) (W:YC) (A B:Int) (o:Out),MS n L Q s q lk W->Good s q->iu A->iu B->res op s A B=some o->Calls prog g (first++(#[I A,I B]++cap)) W λe w'=>Ends n L Q (nxt op s A B) q lk W o I e w'):jP n L Q nm op:=
 λs q lk w A B o hM hG hA hB hr=>Re hM dq Mj λW hMW=>(h s q lk W A B o hMW hG hA hB hr).mono λ_ _ he=>he.more
def qt{op:Op}(dq:lT nm L 0=some (i,dw (n+4+j)))(hj:Q[j]?=some (.func (.func g) first cap))(Mj:∀(args:Zt) (w:YC),(callFunc g args).run prog w=.ok (.enter g args) w)
  (h:∀(s:St) (q:Nat) (lk:Wr) (W:YC) (A B:Int) (o:Out),MS n L Q s q lk W->Good s q->iu A->iu B->res op s A B=some o->Zero o/\Calls prog g (first++(#[I A,I B]++cap)) W λe w'=>Ends n L Q (nxt op s A B) (q+1) lk W o N0 e w'):jP n L Q nm op:=
 λs q lk w A B o hM hG hA hB hr=>Y4 hM dq hj Mj (by have:=(h s q lk w A B o hM hG hA hB hr).1;revert this;cases o<;>exact id) λW hMW=>(h s q lk W A B o hMW hG hA hB hr).2
def ajk(dq:lT nm L 0=some (i,mv 129 n)):jP n L Q nm .sum:=sD dq Tryz.call129 λs q lk W A B o hM hG hA hB hr=>by
 obtain⟨r,hx,rfl⟩:=Ue.1 hr;exact ao9 hM hG.l A B r hx
def agQ(dq:lT nm L 0=some (i,dw (n+4+j)))(hj:Q[j]?=some (mv 131 n)):jP n L Q nm .push:=qt dq hj Tryz.call131 λs q lk W A B o hM hG hA hB hr=>by
 cases hr;exact⟨rfl,(amB hM yK A B).mono λ_ _ he=>he.more⟩
def Y8(dq:lT nm L 0=some (i,dw (n+4+j)))(hj:Q[j]?=some (mv 132 n)):jP n L Q nm .extend:=qt dq hj Tryz.call132 λs q lk W A B o hM hG hA hB hr=>by
 cases hr;exact⟨rfl,(agJ hM yK A B).mono λ_ _ he=>he.more⟩
def Wn(dq:lT nm L 0=some (i,dw (n+4+j)))(hj:Q[j]?=some (mv 133 n)):jP n L Q nm .reverse:=qt dq hj Tryz.call133 λs q lk W A B o hM hG hA hB hr=>by
 cases hr;exact⟨rfl,(acF hM A B).mono λ_ _ he=>he.more⟩
def Wo(dq:lT nm L 0=some (i,mv 134 n)):jP n L Q nm .item:=sD dq Tryz.call134 λs q lk W A B o hM hG hA hB hr=>by
 simp only[res,Uf,wY] at hr;obtain⟨h1,hr⟩:=hr;obtain⟨k,rfl⟩:∃k:Nat,A=(k:Int)+1:=⟨(A - 1).toNat,by omega⟩
 rw[show((k:Int)+1 - 1).toNat=k by omega] at hr
 cases hz:s.l[k]? with
 |some z=>
  rw[hz] at hr
  cases hr;exact acG hM k z B hz
 |none=>
  rw[hz] at hr
  cases hr;exact YX hM _ B h1 (by have:=List.getElem?_eq_none_iff.1 hz;omega)
def abb(dq:lT nm L 0=some (i,dw (n+4+j)))(hj:Q[j]?=some (mv 137 n)):jP n L Q nm .ins:=qt dq hj Tryz.call137 λs q lk W A B o hM hG hA hB hr=>by
 cases hr;obtain⟨k,h1,h2,h3⟩:=JC A s.l;have:=Wm hM yK A B k h1 h2;rw[<-h3] at this;exact⟨rfl,this.mono λ_ _ he=>he.more⟩
def acL(dq:lT nm L 0=some (i,dw (n+4+j)))(hj:Q[j]?=some (mv 143 n)):jP n L Q nm .Rh:=qt dq hj Tryz.call143 λs q lk W A B o hM hG hA hB hr=>by
 cases hr;exact⟨rfl,aji hM A B hA hB (by have:=hG.cap;omega)⟩
def acM(dq:lT nm L 0=some (i,mv 145 n)):jP n L Q nm .value:=sD dq Tryz.call145 λs q lk W A B o hM hG hA hB hr=>by
 cases hr;obtain⟨c,_,h⟩:=hG.D A;have:=ajh hM A B c hA h;rwa[<-ajj h] at this
def agR(dq:lT nm L 0=some (i,mv 147 n)):jP n L Q nm .many:=sD dq Tryz.call147 λs q lk W A B o hM hG hA hB hr=>by
 cases hr;exact amE hM A B
def agS(dq:lT nm L 0=some (i,dw (n+4+j)))(hj:Q[j]?=some (mv 155 n)):jP n L Q nm .span:=qt dq hj Tryz.call155 λs q lk W A B o hM hG hA hB hr=>by
 simp only[res,Uf,wY] at hr;obtain⟨h1,hr⟩:=hr;by_cases h2:A<=B+1
 .rw[aI h2] at hr
  cases hr;exact⟨rfl,(acH hM A B hB h1 h2).mono λ_ _ he=>he.more⟩
 .rw[aE h2] at hr
  cases hr;exact⟨bw,(Y0 hM A B hB h1 h2 _).mono λ_ _ he=>he.more⟩
def acN(dq:lT nm L 0=some (i,mv 157 n)):jP n L Q nm .width:=sD dq Tryz.call157 λs q lk W A B o hM hG hA hB hr=>by
 simp only[res,Uf,wY] at hr;obtain⟨h1,rfl⟩:=hr;exact Y5 hM A B hG.low hG.high h1.1 h1.2
def acO(dq:lT nm L 0=some (i,mv 158 n)):jP n L Q nm .total:=sD dq Tryz.call158 λs q lk W A B o hM hG hA hB hr=>by
 revert o hr;refine vN ?_;intro h1 r hx hr;exact Y7 hM A B hG.low hG.high h1.1 h1.2 r hx
abbrev fv(g:Nat):Value:=.func (.func g) #[] #[]
def ajl(dq:lT nm L 0=some (i,fv 159)):jP n L Q nm .gcd:=sD dq Tryz.call159 λs q lk W A B o hM hG hA hB hr=>by
 simp only[res,Uf,wY] at hr;obtain⟨h1,rfl⟩:=hr;obtain⟨a,rfl⟩:=Rv h1.1;obtain⟨b,rfl⟩:=Rv h1.2;exact agM hM a b hA hB
def acP(dq:lT nm L 0=some (i,fv 160)):jP n L Q nm .aba:=sD dq Tryz.call160 λs q lk W A B o hM hG hA hB hr=>by
 revert o hr;refine vN ?_;intro h1 r hx hr;obtain⟨b,rfl⟩:=Rv h1;exact Y1 hM A b hA hB r hx
def agT(dq:lT nm L 0=some (i,fv 161)):jP n L Q nm .fact:=sD dq Tryz.call161 λs q lk W A B o hM hG hA hB hr=>by
 revert o hr;refine vN ?_;intro h1 r hx hr;obtain⟨a,rfl⟩:=Rv h1.1;exact acJ hM a B ab r hx
def acQ(dq:lT nm L 0=some (i,fv 162)):jP n L Q nm .tries:=sD dq Tryz.call162 λs q lk W A B o hM hG hA hB hr=>by
 cases hr;by_cases h:A<=20
 .rw[aI h];exact YZ hM A B h
 .rw[aE h];exact Wk hM A B h
def Good.start:Good ⟨[],.map [],0,-1⟩ 0:=
 ⟨by omega,by simp,by simp,by simp[iu],by simp[iu],isMap_empty,λx=>⟨0,by simp[iu],rfl⟩⟩
def Good.Lr(h:Good s q)(hq:q < 100)(l':WV)(h1:l'.length<=q+1)(h2:∀z∈l',iu z):Good {s with l:=l'} (q+1):=
 ⟨by omega,h1,h2,h.low,h.high,h.map,h.D⟩
def Good.up(h:Good s q)(hq:q < 100):Good s (q+1):=⟨by omega,by have:=h.len;omega,h.l,h.low,h.high,h.map,h.D⟩
def Wp(a:Int)(xs:WV):(agP a xs).length=xs.length+1:=by obtain⟨i,h1,_,h3⟩:=JC a xs;rw[h3];simp;omega
def agU{a:Int}{xs:WV}{z:Int}(h:z∈agP a xs):z=a∨z∈xs:=by
 obtain⟨i,h1,_,h3⟩:=JC a xs;rw[h3] at h;simp only[oU,cZ] at h;rcases h with h|h|h
 .exact .inr (Uh h)
 .exact .inl h
 .exact .inr (A1 h)
def aq8(x:Int):WideAt.IsKeyLit (K1 x):=bw
def agV(op:Op)(s:St)(q:Nat)(a b:Int)(h:Good s q)(hq:q < 100)(ha:iu a)(hb:iu b):Good (nxt op s a b) (q+1):=by
 have hl:=h.len
 cases op
 case push=>exact h.Lr hq _ aH (by simpa using⟨ha,h.l⟩)
 case extend=>exact h.Lr hq _ aH (by intro z hz;simp at hz;rcases hz with hz|rfl;exact h.l z hz;exact ha)
 case reverse=>exact h.Lr hq _ aH (by intro z hz;simp at hz;exact h.l z hz)
 case ins=>exact h.Lr hq _ (by rw[Wp];omega) (λz hz=>by rcases agU hz with rfl|hz;exact ha;exact h.l z hz)
 case Rh=>
  refine⟨by omega,by show s.l.length<=q+1;omega,h.l,h.low,h.high,h.map.put _ _,λx=>?_⟩;by_cases e:x=a
  .subst e;exact⟨b,hb,atKey_put_same h.map (aq8 x) _ _⟩
  .obtain⟨c,h1,h2⟩:=h.D x;exact⟨c,h1,by simp only[nxt];rw[atKey_put_other (λe'=>e (by cases e';rfl))];exact h2⟩
 case span=>exact⟨by omega,by show s.l.length<=q+1;omega,h.l,ha,hb,h.map,h.D⟩
 all_goals exact h.up hq
abbrev Zb(n:Nat):List (ByteArray×Value):=[(cM,mv 127 n),(tu,mv 128 n),(o9,mv 127 n),(nG,mv 129 n),(lP,dw (n+4+0)),(jt,dw (n+4+1)),(jW,dw (n+4+2)),(nP,mv 134 n),(l7,dw (n+4+3)),(BT,dw (n+4+4))]
abbrev Zc(n:Nat):List Value:=[mv 131 n,mv 132 n,mv 133 n,mv 135 n,mv 136 n]
def TH(w:YC):Calls prog 87 #[.string gG] w λe w'=>e=.returned (Value.pointer (some ⟨w.heap.size+1,0,none⟩))/\Lay w w.heap.size w' (Zb w.heap.size) (Zc w.heap.size)/\Mod w.heap.size w' (Value.map (some (w.heap.size+1+1+1))):=by refine Fi ?_;intro sE Cj bC w1 w2 w3 w4 bX cU dz fZ w5 x5 b5 m5 x6 adj v7 w7 hr7 hs7 TZ x7 v8 w8 hr8 hs8 hc8 x8 v9 w9 hr9 hs9 ZD x9 iI yz Bf I8 ak K hK;go_simp;refine hK _ _ ef (λak=>?_);clear hK K;refine sp ?_;refine Ky ?_;intro bC bX cU dz b9 m9 fZ iI xC adk v11 xS adl L7 adm zw v12 vl aho adn ado As v13 ND akp ahp adp xw yz Bf K hK ak;revert K hK;refine Fj ?_;intro bC bX cU dz fZ ak L8;go_wp2;go_ret;exact⟨rfl,xw.1,xw.2⟩
abbrev Pd(n:Nat):List (ByteArray×Value):=[(cM,mv 127 n),(tu,mv 128 n),(o9,mv 127 n),(nG,mv 129 n),(lP,dw (n+4+5)),(jt,dw (n+4+6)),(jW,dw (n+4+7)),(nP,mv 134 n),(l7,dw (n+4+3)),(BT,dw (n+4+4))]
abbrev Pe(n:Nat):List Value:=[mv 131 n,mv 132 n,mv 133 n,mv 135 n,mv 136 n,mv 137 n,mv 137 n,.func (.func 138) #[] #[]]
def Pf(w:YC):Calls prog 87 #[.string l8] w λe w'=>e=.returned (Value.pointer (some ⟨w.heap.size+1,0,none⟩))/\Lay w w.heap.size w' (Pd w.heap.size) (Pe w.heap.size)/\Mod w.heap.size w' (Value.map (some (w.heap.size+1+1+1))):=by refine Fi ?_;intro sE Cj bC w1 w2 w3 w4 bX cU dz fZ w5 x5 b5 m5 x6 adj v7 w7 hr7 hs7 TZ x7 v8 w8 hr8 hs8 hc8 x8 v9 w9 hr9 hs9 ZD x9 iI yz Bf I8 ak K hK;go_simp;refine hK _ _ ef (λak=>?_);clear hK K;refine sp ?_;refine Ky ?_;intro bC bX cU dz b9 m9 fZ iI xC adk v11 xS adl L7 adm zw v12 vl aho adn ado As v13 ND akp ahp adp xw yz Bf K hK ak;revert K hK;refine Fj ?_;intro bC bX cU dz fZ ak L8;have m13:=xw.2.c4;go_wp2_with fail;have x14:=abo (NB (NB (NB xw (mv 137 w.heap.size)) (mv 137 w.heap.size)) (.func (.func 138) #[] #[]));have arv:=xw.1.size;obtain⟨WM,arY,arZ,x15⟩:=YW x14 lP (dw (w.heap.size+4+5));obtain⟨w16,ar0,ar1,x16⟩:=YW x15 jt (dw (w.heap.size+4+6));obtain⟨w17,ar2,ar3,x17⟩:=YW x16 jW (dw (w.heap.size+4+7));refine Ag (S:=(λW=>W.cell? ⟨w.heap.size+1+1,0,none⟩=some (Value.pointer (some ⟨w.heap.size+1,0,none⟩))/\W.cell? ⟨w.heap.size+1,4,none⟩=some (Value.map (some (w.heap.size+1+1+1))))) af vJ (λak=>?_);refine FP ?_;refine df 15 ?_;refine df 16 ?_;refine jR 14 λK hK=>?_;revert K hK;refine vI ?_;intro ak;refine jR 17 λK hK=>?_;revert K hK;refine vI ?_;intro ak;refine jR 18 λK hK=>?_;revert K hK;refine vI ?_;intro ak;refine jR 19 λK hK=>?_;revert K hK;refine kL ?_;intro ak;refine df 20 ?_;refine jR 21 λK hK=>?_;revert K hK;refine kL ?_;intro ak;refine jR 22 λK hK=>?_;revert K hK;refine kL ?_;intro ak;refine df 23 ?_;refine jR 24 λK hK=>?_;revert K hK;refine kL ?_;intro ak;refine jR 25 λK hK=>?_;revert K hK;refine kL ?_;intro ak;refine df 26 ?_;refine jR 27 λK hK=>?_;revert K hK;refine kL ?_;intro ak;refine dnH ?_;have b17:=x17.1.gX;go_wp2;go_ret;exact⟨rfl,x17.1,x17.2⟩
abbrev TI(n:Nat):List (ByteArray×Value):=[(cM,mv 147 n),(tu,mv 144 n),(o9,mv 127 n),(nG,mv 129 n),(sH,dw (n+4+0)),(ju,mv 145 n),(l7,dw (n+4+1))]
abbrev TJ(n:Nat):List Value:=[mv 143 n,mv 146 n]
def Qn(w:YC):Calls prog 87 #[.string od] w λe w'=>e=.returned (Value.pointer (some ⟨w.heap.size+1,0,none⟩))/\Lay w w.heap.size w' (TI w.heap.size) (TJ w.heap.size)/\Mod w.heap.size w' (Value.map (some (w.heap.size+1+1+1))):=by refine vw ?_;intro sE Cj bC w1 w2 w3 w4 bX cU w5 x5 b5 m5;have x6:=abo (NB (NB x5 (mv 143 w.heap.size)) (mv 146 w.heap.size));have adj:=x5.1.size;obtain⟨v7,w7,hr7,hs7,TZ,x7⟩:=yB x6 sH (dw (w.heap.size+4+0));obtain⟨w8,hr8,hs8,x8⟩:=YW x7 tu (mv 144 w.heap.size);obtain⟨v9,w9,hr9,hs9,ZD,x9⟩:=yB x8 ju (mv 145 w.heap.size);obtain⟨v10,AT,apd,akz,UG,xC⟩:=yB x9 l7 (dw (w.heap.size+4+1));obtain⟨xS,adl,L7,zw⟩:=YW xC cM (mv 147 w.heap.size);refine Ag (S:=(λW=>W.cell? ⟨w.heap.size+1+1,0,none⟩=some (Value.pointer (some ⟨w.heap.size+1,0,none⟩))/\W.cell? ⟨w.heap.size+1,4,none⟩=some (Value.map (some (w.heap.size+1+1+1))))) af pK (λak=>?_);refine Ft ?_;refine df 23 ?_;refine df 24 ?_;refine df 25 ?_;refine df 26 ?_;refine df 27 ?_;refine df 28 ?_;refine df 30 ?_;refine df 31 ?_;refine jR 22 λK hK=>?_;go_simp;go_at_call 130;refine(kE _ _ ⟨_,_,_,rfl⟩).mono ?_;rintro e w' ⟨rfl,rfl⟩;go_wp2_with fail;refine hK _ _ pK (λak=>?_);clear hK K;refine sp ?_;refine jR 29 λK hK=>?_;go_simp;go_at_call 130;refine(kE _ _ ⟨_,_,_,rfl⟩).mono ?_;rintro e w' ⟨rfl,rfl⟩;go_wp2_with fail;refine hK _ _ pK (λak=>?_);clear hK K;refine sp ?_;refine jR 32 λK hK=>?_;revert K hK;refine ff ?_;intro ak;refine df 33 ?_;refine jR 34 λK hK=>?_;revert K hK;refine ff ?_;intro ak;refine jR 35 λK hK=>?_;revert K hK;refine ff ?_;intro ak;refine df 36 ?_;refine jR 37 λK hK=>?_;revert K hK;refine ff ?_;intro ak;refine jR 38 λK hK=>?_;revert K hK;refine ff ?_;intro ak;refine df 39 ?_;refine jR 40 λK hK=>?_;revert K hK;refine ff ?_;intro ak;refine jR 41 λK hK=>?_;revert K hK;refine ff ?_;intro ak;refine df 42 ?_;refine jR 43 λK hK=>?_;revert K hK;refine ff ?_;intro ak;refine jR 44 λK hK=>?_;revert K hK;refine ff ?_;intro ak;refine df 45 ?_;refine jR 46 λK hK=>?_;revert K hK;refine ff ?_;intro ak;refine dnH ?_;have Sb:=zw.1.gX;go_wp2;go_ret;exact⟨rfl,zw.1,zw.2⟩
abbrev TK(n:Nat):List (ByteArray×Value):=[(cM,mv 127 n),(tu,mv 128 n),(o9,mv 157 n),(nG,mv 158 n),(⟨#[108,111,119]⟩,mv 149 n),(⟨#[104,105,103,104]⟩,mv 154 n),(zo,dw (n+4+0)),(xJ,mv 156 n)]
abbrev TL(n:Nat):List Value:=[mv 155 n]
def Qo(w:YC):Calls prog 87 #[.string oe] w λe w'=>e=.returned (Value.pointer (some ⟨w.heap.size+1,0,none⟩))/\Lay w w.heap.size w' (TK w.heap.size) (TL w.heap.size)/\Mod w.heap.size w' (Value.map (some (w.heap.size+1+1+1))):=by refine vw ?_;intro sE Cj bC w1 w2 w3 w4 bX cU w5 x5 b5 m5;have x6:=abo (NB x5 (mv 155 w.heap.size));have adj:=x5.1.size;obtain⟨v7,w7,hr7,hs7,TZ,x7⟩:=yB x6 ⟨#[108,111,119]⟩ (mv 149 w.heap.size);obtain⟨v8,w8,hr8,hs8,hc8,x8⟩:=yB x7 ⟨#[104,105,103,104]⟩ (mv 154 w.heap.size);obtain⟨v9,w9,hr9,hs9,ZD,x9⟩:=yB x8 zo (dw (w.heap.size+4+0));obtain⟨v10,AT,apd,akz,UG,xC⟩:=yB x9 xJ (mv 156 w.heap.size);obtain⟨xS,adl,L7,zw⟩:=YW xC o9 (mv 157 w.heap.size);obtain⟨vl,aho,adn,As⟩:=YW zw nG (mv 158 w.heap.size);refine Ag (S:=(λW=>W.cell? ⟨w.heap.size+1+1,0,none⟩=some (Value.pointer (some ⟨w.heap.size+1,0,none⟩))/\W.cell? ⟨w.heap.size+1,4,none⟩=some (Value.map (some (w.heap.size+1+1+1))))) af vK (λak=>?_);refine Ft ?_;refine df 22 ?_;refine df 23 ?_;refine df 24 ?_;refine df 25 ?_;refine df 26 ?_;refine df 27 ?_;refine df 28 ?_;refine df 29 ?_;refine df 31 ?_;refine df 32 ?_;refine df 33 ?_;refine df 34 ?_;refine df 35 ?_;refine df 36 ?_;refine jR 30 λK hK=>?_;go_simp;go_at_call 130;refine(kE _ _ ⟨_,_,_,rfl⟩).mono ?_;rintro e w' ⟨rfl,rfl⟩;go_wp2_with fail;refine hK _ _ vK (λak=>?_);clear hK K;refine sp ?_;refine jR 37 λK hK=>?_;revert K hK;refine dK ?_;intro ak;refine df 38 ?_;refine jR 39 λK hK=>?_;revert K hK;refine dK ?_;intro ak;refine jR 40 λK hK=>?_;revert K hK;refine dK ?_;intro ak;refine df 41 ?_;refine jR 42 λK hK=>?_;revert K hK;refine dK ?_;intro ak;refine jR 43 λK hK=>?_;revert K hK;refine dK ?_;intro ak;refine df 44 ?_;refine jR 45 λK hK=>?_;revert K hK;refine dK ?_;intro ak;refine jR 46 λK hK=>?_;revert K hK;refine dK ?_;intro ak;refine df 47 ?_;refine jR 48 λK hK=>?_;revert K hK;refine dK ?_;intro ak;refine jR 49 λK hK=>?_;revert K hK;refine dK ?_;intro ak;refine df 50 ?_;refine jR 51 λK hK=>?_;revert K hK;refine dK ?_;intro ak;refine jR 52 λK hK=>?_;revert K hK;refine dK ?_;intro ak;refine df 53 ?_;refine jR 54 λK hK=>?_;revert K hK;refine dK ?_;intro ak;refine dnH ?_;have Sc:=As.1.gX;go_wp2;go_ret;exact⟨rfl,As.1,As.2⟩
abbrev ag1:List (ByteArray×Op):=[(lP,.push),(jt,.extend),(nP,.item),(nG,.sum),(jW,.reverse)]
def ag2(w:YC):Calls prog 87 #[.string gG] w λe w'=>e=.returned (P1 w.heap.size)/\MS w.heap.size (Zb w.heap.size) (Zc w.heap.size) ⟨[],.map [],0,-1⟩ 0 none w'/\Below w.heap.size w w':=
 (TH w).mono λ_ _ ⟨h1,h2,h3⟩=>⟨h1,MS.O9 h2 h3,h2.below⟩
def ag3(n:Nat):∀p∈ag1,jP n (Zb n) (Zc n) p.1 p.2:=by exact jE.2 ⟨agQ (j:=0) rfl rfl,(jE.2 ⟨Y8 (j:=1) rfl rfl,(jE.2 ⟨Wo rfl,(jE.2 ⟨ajk rfl,(jE.2 ⟨Wn (j:=2) rfl rfl,mY⟩)⟩)⟩)⟩)⟩
abbrev Wt:List (ByteArray×Op):=[(lP,.ins),(jt,.ins),(nP,.item)]
def Zd(w:YC):Calls prog 87 #[.string l8] w λe w'=>e=.returned (P1 w.heap.size)/\MS w.heap.size (Pd w.heap.size) (Pe w.heap.size) ⟨[],.map [],0,-1⟩ 0 none w'/\Below w.heap.size w w':=
 (Pf w).mono λ_ _ ⟨h1,h2,h3⟩=>⟨h1,MS.O9 h2 h3,h2.below⟩
def Ze(n:Nat):∀p∈Wt,jP n (Pd n) (Pe n) p.1 p.2:=by exact jE.2 ⟨abb (j:=5) rfl rfl,(jE.2 ⟨abb (j:=6) rfl rfl,(jE.2 ⟨Wo rfl,mY⟩)⟩)⟩
abbrev abd:List (ByteArray×Op):=[(cM,.many),(sH,.Rh),(ju,.value)]
def acT(w:YC):Calls prog 87 #[.string od] w λe w'=>e=.returned (P1 w.heap.size)/\MS w.heap.size (TI w.heap.size) (TJ w.heap.size) ⟨[],.map [],0,-1⟩ 0 none w'/\Below w.heap.size w w':=
 (Qn w).mono λ_ _ ⟨h1,h2,h3⟩=>⟨h1,MS.O9 h2 h3,h2.below⟩
def acU(n:Nat):∀p∈abd,jP n (TI n) (TJ n) p.1 p.2:=by exact jE.2 ⟨agR rfl,(jE.2 ⟨acL (j:=0) rfl rfl,(jE.2 ⟨acM rfl,mY⟩)⟩)⟩
abbrev abe:List (ByteArray×Op):=[(zo,.span),(o9,.width),(nG,.total)]
def acV(w:YC):Calls prog 87 #[.string oe] w λe w'=>e=.returned (P1 w.heap.size)/\MS w.heap.size (TK w.heap.size) (TL w.heap.size) ⟨[],.map [],0,-1⟩ 0 none w'/\Below w.heap.size w w':=
 (Qo w).mono λ_ _ ⟨h1,h2,h3⟩=>⟨h1,MS.O9 h2 h3,h2.below⟩
def acW(n:Nat):∀p∈abe,jP n (TK n) (TL n) p.1 p.2:=by exact jE.2 ⟨agS (j:=0) rfl rfl,(jE.2 ⟨acN rfl,(jE.2 ⟨acO rfl,mY⟩)⟩)⟩
abbrev abf:List (ByteArray×Op):=[(MJ,.gcd),(xI,.aba),(BW,.fact),(sI,.tries)]
def acX(w:YC):Calls prog 87 #[.string og] w λe w'=>e=.returned (P1 w.heap.size)/\MS w.heap.size (TM w.heap.size) (TN w.heap.size) ⟨[],.map [],0,-1⟩ 0 none w'/\Below w.heap.size w w':=
 (Qp w).mono λ_ _ ⟨h1,h2,h3⟩=>⟨h1,MS.O9 h2 h3,h2.below⟩
def acY(n:Nat):∀p∈abf,jP n (TM n) (TN n) p.1 p.2:=by exact jE.2 ⟨ajl rfl,(jE.2 ⟨acP rfl,(jE.2 ⟨agT rfl,(jE.2 ⟨acQ rfl,mY⟩)⟩)⟩)⟩
end Go.Proofs.Bm
