/- BaseDrivers. No condition. -/
import Derived.Test.YtibajhihfaggfaaGreatDoorQAC
import Derived.Test.YtibajhihfaggfaaGreatDoorQAU
set_option linter.all false
set_option maxRecDepth 100000
set_option maxHeartbeats 0
namespace Go.Proofs.Bm
open Go.Proofs.Tryz Go.RowKit Go.Maps Go.Proofs.Gm
variable {w' W:YC}{s:St}{n q:Nat}{Q:YT}{xs:WV}
inductive JD where
 |ints|sorted|table|counter|range|arith
def clsName:JD->ByteArray
 |.ints=>gG
 |.sorted=>l8
 |.table=>od
 |.counter=>aX
 |.range=>oe
 |.arith=>og
def oT:JD->List (ByteArray×Nat×Bool)
 |.ints=>[(cM,0,true),(lP,1,false),(jt,1,false),(tu,1,true),(nP,1,true),(nG,0,true),(l7,1,false),(jW,0,false),(BT,0,false)]
 |.sorted=>[(cM,0,true),(lP,1,false),(jt,1,false),(tu,1,true),(nP,1,true),(nG,0,true),(l7,1,false),(jW,0,false),(BT,0,false)]
 |.table=>[(cM,0,true),(sH,2,false),(tu,1,true),(ju,1,true),(l7,1,false)]
 |.counter=>[(cM,0,true),(⟨#[117,112]⟩,0,false),(⟨#[97,100,100]⟩,1,false)]
 |.range=>[(⟨#[108,111,119]⟩,0,true),(⟨#[104,105,103,104]⟩,0,true),(zo,2,false),(xJ,1,true),(o9,0,true),(nG,0,true)]
 |.arith=>[(MJ,2,true),(xI,2,true),(BW,1,true),(sI,1,true)]
def jh(c:JD):List ByteArray:=(oT c).map (·.1)
structure LC (w:YC) (a:YS) (l:List (ByteArray×Int×Int)):Prop where
 len:l.length<=9223372036854775807
 cell:∀(k:Nat) (nm:YR) (A B:Int),l[k]?=some (nm,A,B)->∃b off,a=some ⟨b,off,none⟩/\w.cell? ⟨b,off+k*3,none⟩=some (.string nm)/\w.cell? ⟨b,off+k*3+1,none⟩=some (I A)/\w.cell? ⟨b,off+k*3+2,none⟩=some (I B)
 wf:∀x∈l,(-9223372036854775808<=x.2.1/\x.2.1<=9223372036854775807)/\(-9223372036854775808<=x.2.2/\x.2.2<=9223372036854775807)
def LC.below{w:YC}{a:YS}{l:List (ByteArray×Int×Int)}(h:LC w a l)(hb:Below w.heap.size w w'):LC w' a l:=
 ⟨h.len,λk nm A B hk=>by
  obtain⟨b,off,e,h0,h1,h2⟩:=h.cell k nm A B hk;exact⟨b,off,e,(hb.cell (cA w _ h0)).trans h0,(hb.cell (cA w _ h1)).trans h1,(hb.cell (cA w _ h2)).trans h2⟩,h.wf⟩
def T0(c:JD)(x:ByteArray×Int×Int):Prop:=∃(k ar:Nat) (re:TG),(oT c)[k]?=some (x.1,ar,re)/\iu x.2.1/\iu x.2.2/\(ar < 1->x.2.1=0)/\(ar < 2->x.2.2=0)
def JE(c:JD)(k:Nat)(p:ByteArray×Nat×Bool)(h:(oT c)[k]?=some p):Lib.idxOfS (jh c) p.1=(k:Int)/\p.2.1<=2:=by have:∀c:JD,(List.range (oT c).length).all (λk=>decide (Lib.idxOfS (jh c) ((oT c).getD k default).1=(k:Int)/\((oT c).getD k default).2.1<=2))=true:=HJ;have h1:=dV.1 (this c) k (BZ.2 (dk.1 h).1);simpa[List.getD,h] using h1
def okB(c:JD)(x:ByteArray×Int×Int):Bool:=(oT c).any λp=>decide (p.1=x.1/\iu x.2.1/\iu x.2.2/\(p.2.1 < 1->x.2.1=0)/\(p.2.1 < 2->x.2.2=0))
def Za{c:JD}{l:List (ByteArray×Int×Int)}(h:l.all (okB c)=true):∀x∈l,T0 c x:=λx hx=>by
 obtain⟨p,hp,h⟩:=List.any_eq_true.1 (dV.1 h x hx);obtain⟨h1,h⟩:=Rt h;obtain⟨k,hk⟩:=Xf.1 hp;exact⟨k,p.2.1,p.2.2,by rw[hk,<-h1],h⟩
def abc(x:Int)(w:YC)(e:TP)(w':YC):Prop:=e=.returned (I x)/\Below w.heap.size w w'
def nat(b:YR):List Nat:=b.data.toList.map UInt8.toNat
def awL(c:JD):nat (clsName c)∈at8/\∀p∈oT c,(cz (nat (clsName c))).lookup (nat p.1)=some (p.2.1,p.2.2):=by cases c<;>decide+kernel
def au9(b:YR):bs (nat b)=b:=Gm.IC b
def wW(c:JD)(k:Nat)(nm:YR)(ar:Nat)(re:TG)(hN:(oT c)[k]?=some (nm,ar,re))(w:YC):Calls prog 54 #[(clsName c),nm] w λe w'=>e=.returned (.tuple #[.agg #[.string nm,I ar,.bool re],true])/\Below w.heap.size w w':=by
 have h:=Gm.auC (nm:=nat (clsName c)) (s:=nat nm) (Gm.Rb _) (Gm.Rb _) w;have hl:=(awL c).2 _ (cm hN);unfold Gm.awg at h;rw[hl,au9,au9] at h;refine h.mono ?_;rintro e w' ⟨⟨n,r,e1,rfl⟩|⟨e1,-⟩,K⟩
 .cases e1;exact⟨rfl,K.below (aM _) (λ_ e=>e.elim)⟩
 .cases e1
def aw9(c:JD)(l:List (ByteArray×Int×Int))(h:∀x∈l,T0 c x)(hn:l.length<=40):axz (nat (clsName c)) (l.map λx=>(nat x.1,x.2))=0:=by obtain⟨h1,h2⟩:=awL c;obtain⟨h3,h4⟩:=Gm.aw8 h1;unfold axz;rw[aI h4,aE (λe=>by rw[e] at h3;simp at h3),aE asW,aI];rw[dV];intro y hy;obtain⟨x,hx,rfl⟩:=dO.1 hy;obtain⟨k,ar,re,hk,hA,hB,N4,nA⟩:=h x hx;unfold axL;rw[h2 _ (cm hk)];unfold iu at hA hB;simp only[axG,wiB,dD,j5,oM,dU];exact⟨⟨⟨hA,hB⟩,by omega⟩,by omega⟩
def Pc(c:JD)(a:YS)(l:List (ByteArray×Int×Int))(cR:l≠[])(hR:∀x∈l,T0 c x)(w:YC)(hL:LC w a l)(hn:l.length<=40):Calls prog 25 #[(clsName c),sV a l.length l.length] w (abc 0 w):=by
 have hx:Gm.an (λ_=>True) w (.sl (axM (l.map λx=>(nat x.1,x.2)))) (sV a l.length l.length):=by
  obtain⟨x,hx⟩:=List.exists_mem_of_ne_nil l cR;obtain⟨k,hk⟩:=Xf.1 hx;obtain⟨b,off,rfl,c0,-,-⟩:=hL.cell k x.1 x.2.1 x.2.2 hk;have aL:∀(k:Nat) (row:Gm.Row),(axM (l.map λx=>(nat x.1,x.2)))[k]?=some row->∃x,l[k]?=some x/\row=[.str (nat x.1),.int x.2.1,.int x.2.2]:=by
   intro k row h;unfold axM at h;rw[qC,qC] at h
   cases e:l[k]? with
   |none=>rw[e] at h;cases h
   |some x=>rw[e] at h;exact⟨x,rfl,(j6 h).symm⟩
  have el:(axM (l.map λx=>(nat x.1,x.2))).length=l.length:=by simp[axM]
  have h1:=Gm.an.sl (S:=λ_=>True) (w:=w) (axM (l.map λx=>(nat x.1,x.2))) b off l.length 3 (λk j=>((w.cell? ⟨b,off+(k*3+j),none⟩).getD undef)) bw (cA w _ c0) (by rw[el];exact aM _) wj (λrow h=>by
    obtain⟨k,hk⟩:=Xf.1 h;obtain⟨x,-,rfl⟩:=aL k row hk;rfl) ?_ ?_
  .rw[el] at h1;exact h1
  all_goals
   intro k j row t h hj;obtain⟨x,hx,rfl⟩:=aL k row h;obtain⟨b',VP,e,q0,q1,q2⟩:=hL.cell k x.1 x.2.1 x.2.2 hx
   cases e
   match j,hj with
   |0,hj=>rw[fS,q0];first|rfl|(cases hj;have:=Gm.an.str (S:=λ_=>True) (w:=w) (nat x.1);rw[au9] at this;exact this)
   |1,hj=>rw[<-xP,q1];first|rfl|(cases hj;exact .int _)
   |2,hj=>rw[<-xP,q2];first|rfl|(cases hj;exact .int _)
   |_+3,hj=>simp at hj
 have gF:(l.map λx=>(nat x.1,x.2)).length=l.length:=Af _;rw[<-gF] at hx;have h:=Gm.aup (nm:=nat (clsName c)) (Gm.Rb _) (l:=l.map λx=>(nat x.1,x.2)) (λy hy=>by
  obtain⟨x,hx,rfl⟩:=dO.1 hy;exact⟨Gm.Rb _,hL.wf x hx⟩) hx
 rw[aw9 c l hR hn,au9,gF] at h;exact h.mono λe w' h=>⟨h.1,h.2.below (aM _) (λ_ e=>e.elim)⟩
def Mm:Op->Bool
 |.push|.extend|.reverse|.ins|.Rh|.span=>false
 |_=>true
def Wu:Op->Nat
 |.sum|.reverse|.many|.width|.total=>0
 |.Rh|.span|.gcd|.aba=>2
 |_=>1
def Wv:JD->List (ByteArray×Op)
 |.ints=>ag1|.sorted=>Wt|.table=>abd|.counter=>[]|.range=>abe|.arith=>abf
def ape{c:JD}{nm:YR}{op:Op}(h:(nm,op)∈Wv c):∃k:Nat,(oT c)[k]?=some (nm,Wu op,Mm op):=by have:∀c:JD,(Wv c).all (λp=>decide ((p.1,Wu p.2,Mm p.2)∈oT c))=true:=HJ;exact Xf.1 (by simpa using dV.1 (this c) _ h)
def run(c:JD):List (ByteArray×Int×Int)->St->List Int->Option (List Int×Int)
 |[],_,out=>some (out,0)
 |x::r,s,out=>match (Wv c).find? (λp=>decide (p.1=x.1)) with
  |none=>none
  |some p=>match res p.2 s x.2.1 x.2.2 with
   |some (.ret v)=>run c r (nxt p.2 s x.2.1 x.2.2) (out++(if Mm p.2 then[v] else[]))
   |some (.stop f e)=>if e=0/\f≠0 then some (out,f) else none
   |none=>none
def ag4{c:JD}{x:ByteArray×Int×Int}{r:List (ByteArray×Int×Int)}{out o':WV}{f:Int}(h:run c (x::r) s out=some (o',f)):∃op o,(x.1,op)∈Wv c/\res op s x.2.1 x.2.2=some o/\match o with|.ret v=>run c r (nxt op s x.2.1 x.2.2) (out++(if Mm op then[v] else[]))=some (o',f)|.stop fa e=>(e=0/\fa≠0)/\o'=out/\f=fa:=by
 rw[run] at h;split at h
 .cases h
 .rename_i p hp;have h1:p.1=x.1:=by simpa using List.find?_some hp
  have h2:=W8 hp;split at h
  .rename_i hv;exact⟨_,_,by rw[<-h1];exact h2,hv,h⟩
  .rename_i hv;split at h
   .rename_i he
    cases h;exact⟨_,_,by rw[<-h1];exact h2,hv,he,rfl,rfl⟩
   .cases h
  .cases h
def ajn(c:JD)(hc:c≠ .counter)(w:YC):∃L Q,(Calls prog 87 #[(clsName c)] w λe w'=>e=.returned (P1 w.heap.size)/\MS w.heap.size L Q ⟨[],.map [],0,-1⟩ 0 none w'/\Below w.heap.size w w')/\∀p∈Wv c,jP w.heap.size L Q p.1 p.2:=by
 cases c
 .exact⟨_,_,ag2 w,ag3 _⟩
 .exact⟨_,_,Zd w,Ze _⟩
 .exact⟨_,_,acT w,acU _⟩
 .exact absurd rfl hc
 .exact⟨_,_,acV w,acW _⟩
 .exact⟨_,_,acX w,acY _⟩
def MS.qP{L:List (ByteArray×Value)}{lk:Wr}(h:MS n L Q s q lk W)(hb:Below W.heap.size W w'):MS n L Q s q lk w':=
 h.kept (G:=λ_=>False) (Kept.QL hb) (λ_ _ _ e=>e) (λ_ _ e=>e)
def OwnI.qP{w:YC}{v:YE}{k:Wr}(h:OwnI w v k xs)(hb:Below w.heap.size w w'):OwnI w' v k xs:=
 h.keep λb e=>hb.block b (h.lt b e)
def MS.aq9{L:List (ByteArray×Value)}{lk:Wr}(h:MS n L Q s q lk W){b:Nat}(hb:W.heap.size<=b):¬F n lk b:=by
 have hs:=h.size;rintro(e|e|e)
 .omega
 .omega
 .have:=h.lt b e;omega
def ajo(o':WV)(f:Int)(w:YC)(e:TP)(w':YC):Prop:=∃v k,e=.returned (.tuple #[v,I f,I 0])/\OwnI w' v k o'/\Below w.heap.size w w'/\(∀b,k=some b->w.heap.size<=b)
def ag5(c:JD)(WS:c≠ .counter)(a:YS)(l:List (ByteArray×Int×Int))(cR:l≠[])(o':WV)(f:Int)(w:YC)(hL:LC w a l)(hn:l.length<=40)(bL:∀x∈l,T0 c x)(hP:run c l ⟨[],.map [],0,-1⟩ []=some (o',f)):Calls prog 58 #[(clsName c),sV a l.length l.length] w (ajo o' f w):=by
 have hc:=Pc c a l cR bL w hL hn;revert hL bL hP;refine jk ?_;intro hL bL hP;go_enter func58,ntmps58;go_wp2_with fail;go_step3
 go_wp2_with fail;refine hc.mono ?_;rintro e w1 ⟨rfl,lL⟩;obtain⟨L,Q,ara,Vr⟩:=ajn c WS w1;go_wp2_with fail;refine ara.mono ?_;rintro e w2 ⟨rfl,hM,jy⟩;obtain⟨n,Qy⟩:∃n,n=w1.heap.size:=⟨_,rfl⟩
 rw[<-Qy] at hM Vr|-;have hnw:w.heap.size<=n:=by rw[Qy];exact lL.size
 have hB:=lL.trans (jy.mono lL.size);replace Qy:=ah Qy;go_wp2_with fail;go_step3
 go_wp2_with fail;go_loopg [9,10,27] l.length (λgg s9 s10 s27 wr=>∃(kk:Nat) (s:St) (lk k9:Wr) (out:WV),kk<=l.length/\l.length - kk<=gg/\s27=I kk/\s10=I 0/\OwnI wr s9 k9 out/\MS n L Q s kk lk wr/\Good s kk/\(∀b,k9=some b->n+4+Q.length<=b/\lk≠some b)/\Below w.heap.size w wr/\out.length<=kk/\Hid (run c (l.drop kk) s out=some (o',f)))
 case atStart=>exact⟨0,_,none,none,[],by omega,by omega,rfl,rfl,OwnI.nil _,hM,Good.start,(λ_ e=>nomatch e),hB,by simp,ah (by simpa using hP.out)⟩
 case round=>
  obtain⟨kk,s,lk,k9,out,xe,hg,rfl,rfl,ho9,hMr,hG,hk9,lW,hol,hp⟩:=hrel;obtain⟨a9,c9,rfl,_⟩:=ho9.form;by_cases bQ:kk < l.length
  .have rj:(kk:Int) < (l.length:Int):=by omega
   have hkz:(0:Int)<=(kk:Int):=ab;have IP:=hp.out;rw[MN bQ] at IP;have hz:=ck bQ;generalize l[kk]=x at hz IP;obtain⟨nm,A,B⟩:=x;obtain⟨j,ar,re,hj,hA,hBr,_,_⟩:=bL.out _ (cm hz);dsimp only at hj hA hBr;have jS:=(JE c j _ hj).1;dsimp only at jS;obtain⟨bb,off,rfl,h0,h1,h2⟩:=(hL.out.below lW).cell kk nm A B hz;obtain⟨op,oo,o7,hao,Ww⟩:=ag4 IP;dsimp only at o7 hao;obtain⟨j',WA⟩:=ape o7;have e1:=(JE c j' _ WA).1;dsimp only at e1;obtain rfl:j=j':=by have:=jS.symm.trans e1;omega
   rw[hj] at WA;obtain⟨rfl,rfl⟩:ar=Wu op/\re=Mm op:=by cases WA;exact⟨rfl,rfl⟩
   have hdo:=Vr _ o7;have hM1:=hMr.alloc (cO #[.string nm,I A,I B] 59);have qI:=ho9.alloc (cO #[.string nm,I A,I B] 59);go_wp2_with fail;refine bD (wW c j nm (Wu op) (Mm op) hj _) λw3 gJ=>?_;have q0:w3.cell? ⟨wr,0,none⟩=some (.string nm):=(gJ.cell ai).trans fX;have q1:w3.cell? ⟨wr,1,none⟩=some (I A):=(gJ.cell ai).trans fX;have q2:w3.cell? ⟨wr,2,none⟩=some (I B):=(gJ.cell ai).trans fX;have sY:wr.heap.size < w3.heap.size:=by have:=gJ.size;simp at this;omega
   have hM3:=(hM1.qP gJ).alloc (cO #[.string nm,I (Wu op),.bool (Mm op)] 101);have ho3:=(qI.qP gJ).alloc (cO #[.string nm,I (Wu op),.bool (Mm op)] 101);have Cm:Below w.heap.size w (w3.alloc (cO #[.string nm,I (Wu op),.bool (Mm op)] 101)):=((lW.alloc lW.size _).trans (gJ.mono (by have:=lW.size;simp;omega))).alloc (by have:=lW.size;omega) _;have hd:=hdo s kk lk _ A B oo hM3 hG hA hBr hao;have hG':=agV op s kk A B hG ab hA hBr;have hnF:=(hM1.qP gJ).aq9 (b:=w3) (aM _);have hkF:∀b,k9=some b->¬F n lk b:=λb e=>by
    obtain⟨x1,x2⟩:=hk9 b e;rintro(y|y|y)
    .omega
    .omega
    .exact x2 y
   have hqr:(w3.alloc (cO #[.string nm,I (Wu op),.bool (Mm op)] 101)).cell? ⟨w3,2,none⟩=some (.bool (Mm op)):=fX;have abg:∀k,F n lk k->w.heap.size<=k:=by
    rintro k (y|y|y)
    .omega
    .omega
    .have:=hM3.Zv k y;omega
   obtain⟨s',hs'⟩:∃s',nxt op s A B=s':=⟨_,rfl⟩
   try dsimp only at Ww
   rw[hs'] at Ww hd hG';revert hao hkF abg;refine jk ?_;intro hao hkF abg;revert jS hj;refine ct ?_;intro jS hj
   cases oo with
   |ret v=>
    go_wp2_with fail;refine hd.mono ?_;rintro e w4 ⟨Mb,rfl,BJ,hM4,hr4⟩;have jV:=Cm.trans ((Mb.below Cm.size abg).mono (aM _));have ho4:=ho3.kept Mb hkF;have apf:=Mb.aq hqr hnF;have abp:w3.heap.size < w4.heap.size:=by have:=Mb.size;simp at this;omega
    have Zf:∀b,k9=some b->n+4+Q.length<=b/\BJ≠some b:=λb e=>⟨(hk9 b e).1,λe'=>by
     rcases hr4 with rfl|hr4
     .exact(hk9 b e).2 e'
     .have h1:=hr4 b e';have h2:=ho3.lt b e;omega⟩
    replace Zf:=ah Zf;have hM5:=hM4.alloc (cO #[I 0,I 0] 160);have ho5:=ho4.alloc (cO #[I 0,I 0] 160);have auJ:=jV.alloc (o:=cO #[I 0,I 0] 160) jV.size;try dsimp only at Ww
    cases U2:Mm op with
    |true=>
     rw[U2] at apf Ww;replace U2:=ah U2;go_wp2_with (at_builtin;refine xt rfl _ _ rfl rfl v (w4.heap.size+1) 1 rfl (ho5.alloc (cO #[I v] 3)) ab (by rw[show w4.heap.size+1=(w4.alloc (cO #[I 0,I 0] 160)).heap.size by simp];exact JB _ _ _) ?_;intro v' k' w5 ho6 hk6 hr6;obtain⟨a',c',rfl,_⟩:=ho6.form);go_roundg (l.length - (kk+1))
     case measure=>omega
     case rel=>
      have arb:∀j,j < n+4+Q.length->n<=j->¬k9=some j:=λj h1 _ e=>by have:=(Zf j e).1;omega
      have hM6:=(hM5.alloc (cO #[I v] 3)).kept hk6 arb (λb e e'=>(Zf b e').2 e);refine⟨kk+1,s',BJ,k',out++[v],by omega,by omega,by go_num,rfl,by simpa using ho6,hM6,hG',λb e=>?_,?_,by simp;omega,ah (by simpa using Ww)⟩
      .rcases hr6 with rfl|hr6
       .exact Zf b e
       .have h1:((w4.alloc (cO #[I 0,I 0] 160)).alloc (cO #[I v] 3)).heap.size<=b:=hr6 b e;have h2:=(hM5.alloc (cO #[I v] 3)).size;exact⟨by omega,λe'=>by have:=(hM5.alloc (cO #[I v] 3)).lt b e';omega⟩
      .have hb7:=auJ.alloc (o:=cO #[I v] 3) auJ.size;exact hb7.trans ((hk6.below hb7.size (λk e=>by have:=(Zf k e).1;omega)).mono (aM _))
    |false=>
     rw[U2] at apf Ww;replace U2:=ah U2;go_wp2_with fail;go_roundg (l.length - (kk+1))
     case measure=>omega
     case rel=>exact⟨kk+1,s',BJ,k9,out,by omega,by omega,by go_num,rfl,ho5,hM5,hG',Zf,auJ,by omega,ah (by simpa using Ww)⟩
   |stop fa er=>
    obtain⟨⟨rfl,Pj⟩,rfl,rfl⟩:=Ww;have hfa:(f !=0)=true:=by simpa using Pj
    go_wp2_with fail;refine hd.mono ?_;rintro e w4 ⟨Mb,rfl⟩;have jV:=Cm.trans ((Mb.below Cm.size abg).mono (aM _));have ho4:=ho3.kept Mb hkF;have ho5:=ho4.alloc (cO #[I f,I 0] 160);have auJ:=jV.alloc (o:=cO #[I f,I 0] 160) jV.size;replace hk9:=ah hk9;go_wp2;go_ret3
    exact⟨_,k9,rfl,ho5,auJ,λb e=>by have:=hk9 b e;omega⟩
  .have rj:¬(kk:Int) < (l.length:Int):=by omega
   have IP:=hp.out;rw[at5 ab] at IP;obtain⟨rfl,rfl⟩:o'=out/\f=0:=by cases IP;exact⟨rfl,rfl⟩
   go_wp2;go_ret3
   exact⟨_,k9,rfl,ho9,lW,λb e=>by have:=hk9 b e;omega⟩
def drewN_drewN(w:YC)(a b:Nat):(w.drewN a).drewN b=w.drewN (a+b):=by simp[World.drewN,xP]
def acZ{w:YC}{v1 v2:YE}{k1 k2:Wr}(h1:OwnI w v1 k1 xs)(h2:OwnI w v2 k2 xs):Calls prog 59 #[v1,v2] w λe w'=>e=.returned (.bool true)/\∃n,w'=w.drewN n:=by
 rcases h1.cases with⟨rfl,rfl,rfl⟩|⟨b1,o1,c1,rfl,rfl⟩
 .obtain⟨a2,c2,rfl,_⟩:=h2.form;exact J2
 .have hm1:=h1.row.2.2.1;have cg:=h1.row.2.2.2.1;simp only[maxLen] at cg;rcases h2.cases with⟨rfl,_,h0⟩|⟨b2,o2,c2,rfl,_⟩
  .subst h0;exact J2
  .have hC1:=ah (fun(j:Nat) (z:Int) (hj:xs[j]?=some z)=>h1.cell hj);have hC2:=ah (fun(j:Nat) (z:Int) (hj:xs[j]?=some z)=>h2.cell hj);go_enter func59,ntmps59;go_wp2;go_loopg [5] xs.length (λgg s5 wr=>∃(kk n:Nat),kk<=xs.length/\xs.length - kk<=gg/\s5=I kk/\Hid (wr=w.drewN n))
   case atStart=>exact⟨0,0,dE _,aM _,rfl,ah rfl⟩
   case round=>
    obtain⟨kk,n,xe,hg,rfl,hw⟩:=hrel;by_cases bQ:kk < xs.length
    .have rj:(kk:Int) < (xs.length:Int):=by omega
     have hkz:(0:Int)<=(kk:Int):=ab;have hz:=ck bQ;generalize xs[kk]=z at hz;have g1:wr.cell? ⟨b1,o1+kk,none⟩=some (I z):=by rw[hw.out];exact hC1 kk z hz
     have g2:wr.cell? ⟨b2,o2+kk,none⟩=some (I z):=by rw[hw.out];exact hC2 kk z hz
     go_wp2_with fail;go_quiet (fail)
     go_wp2_with fail;go_roundg (xs.length - (kk+1))
     case measure=>omega
     case rel=>exact⟨kk+1,n+nq,by omega,by omega,by go_num,ah (by rw[hw.out,drewN_drewN])⟩
    .have rj:¬(kk:Int) < (xs.length:Int):=by omega
     go_wp2;go_ret;exact⟨rfl,n,hw⟩
def pJ{B:Nat}{w:YC}(h:Below B w w')(k:Nat):Below B w (w'.drewN k):=⟨h.os,h.tape,h.output,h.size,h.block⟩
def ag6(c:JD)(WS:c≠ .counter)(a:YS)(l:List (ByteArray×Int×Int))(cR:l≠[])(want:WV)(f:Int)(wv:YE)(kw:Wr)(w:YC)(hL:LC w a l)(hn:l.length<=40)(bL:∀x∈l,T0 c x)(hP:run c l ⟨[],.map [],0,-1⟩ []=some (want,f))(hW:OwnI w wv kw want):Calls prog 28 #[.string (clsName c),sV a l.length l.length,wv,I f] w λe w'=>e=.returned (.bool true)/\Below w.heap.size w w':=by have hm:=ag5 c WS a l cR want f w hL hn bL hP;obtain⟨a2,c2,rfl,_⟩:=hW.form;replace hP:=ah hP;go_enter func28,ntmps28;go_wp2_with fail;refine hm.mono ?_;rintro e w1 ⟨v,k,rfl,ho,hb,_⟩;obtain⟨a1,c1,rfl,_⟩:=ho.form;have hs:=acZ ho (hW.qP hb);go_wp2_with fail;refine hs.mono ?_;rintro e w2 ⟨rfl,n,rfl⟩;go_wp2;go_ret;exact⟨rfl,pJ hb n⟩
def LW:List (ByteArray×Int×Int)->List Value
 |[]=>[]
 |x::r=>.string x.1::I x.2.1::I x.2.2::LW r
def qH:∀(l:List (ByteArray×Int×Int)) (k:Nat) (nm:YR) (A B:Int),l[k]?=some (nm,A,B)->(LW l)[k*3]?=some (.string nm)/\(LW l)[k*3+1]?=some (I A)/\(LW l)[k*3+2]?=some (I B)
 |[],k,_,_,_,h=>by simp at h
 |x::r,0,nm,A,B,h=>by cases h;exact⟨rfl,rfl,rfl⟩
 |x::r,k+1,nm,A,B,h=>by
  obtain⟨h0,h1,h2⟩:=qH r k nm A B h;rw[show(k+1)*3=k*3+3 by omega];exact⟨h0,h1,h2⟩
def ag7(w:YC)(l:List (ByteArray×Int×Int))(T:UB)(cs:Zt)(hc:cs=(LW l).toArray)(hl:l.length<=40){c:JD}(hw:l.all (okB c)=true):LC (w.alloc (cO cs T)) (some ⟨w,0,none⟩) l:=by
 subst hc;have xp:∀j,(w.alloc (.cells (LW l).toArray T)).cell? ⟨w,j,none⟩=(LW l)[j]?:=by intro j;unfold World.cell?;rw[heap_alloc,if_pos rfl];simp
 refine⟨by omega,λk nm A B hk=>⟨_,_,rfl,?_⟩,λx hx=>?_⟩
 .simp only[fi,xp];exact qH l k nm A B hk
 .obtain⟨_,_,_,_,h,h',_⟩:=Za hw x hx;simp only[iu] at h h';omega
def ag8(w:YC)(xs:WV)(cs:Zt)(hc:cs=(xs.map (Value.int .i64)).toArray)(hl:xs.length<=40):OwnI (w.alloc (cO cs 3)) (sV w xs.length xs.length) (some w.heap.size) xs:=by subst hc;refine .inr ⟨_,0,_,_,rfl,rfl,by rw[heap_alloc,aI rfl],aM _,by simp only[maxLen];omega,by simp,?_⟩;simp;rw[oh ai]
def ajp:List (ByteArray×Int×Int):=[(lP,3,0),(jt,5,0),(lP,1,0),(nG,0,0),(jW,0,0),(nP,1,0)]
def ac0:List (ByteArray×Int×Int):=[(lP,3,0),(jt,1,0),(lP,2,0),(nP,2,0),(nP,4,0)]
def ag9:List (ByteArray×Int×Int):=[(sH,1,7),(sH,1,8),(cM,0,0),(ju,1,0),(ju,2,0)]
def aha:List (ByteArray×Int×Int):=[(MJ,12,18),(xI,2,10),(BW,5,0),(sI,3,0),(sI,21,0)]
def ahb:List (ByteArray×Int×Int):=[(zo,3,6),(o9,0,0),(nG,0,0),(zo,5,3)]
end Go.Proofs.Bm
