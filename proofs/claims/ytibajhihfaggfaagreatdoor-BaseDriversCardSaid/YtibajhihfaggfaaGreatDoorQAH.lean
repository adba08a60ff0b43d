/- A part of the proof of BaseDrivers. No condition. -/
import Derived.Test.YtibajhihfaggfaaGreatDoorQAE
import Derived.Test.YtibajhihfaggfaaGreatDoorQAF
set_option linter.all false
set_option maxRecDepth 100000
set_option maxHeartbeats 8000000
namespace Go.Proofs.Gm
open Go.Proofs.Tryz
open Go.RowKit Go.Maps
open Go.Proofs.Bm
variable {C:Ctx}{l l1:Zi}{t:aF}{W:YC}{S:Wq}{bx:Nat}{s:Yz}{vv:TG}
def dP{w:YC}(h:PS C w l)(h5:C.x5=some (.bool false))(s:TC){b:YR}(hi:aO (tx s) l=true)(hb:b=bs (tx s):=by rfl)(hs:((tx s).all λc=>decide (c < 256))=true:=by decide):
  Calls prog 108 #[pP C,.string b] w λe w'=>e=.returned (.bool true)/\PS C w' l.tail/\Kept (ch C) w w':=by
 subst hb;have:=yY h h5 (tx s) (aV hs);rw[hi,aI rfl] at this;exact this
def bU{w:YC}(h:PS C w l)(h5:C.x5=some (.bool false))(s:TC){b:YR}(hi:aO (tx s) l=false)(hb:b=bs (tx s):=by rfl)(hs:((tx s).all λc=>decide (c < 256))=true:=by decide):
  Calls prog 108 #[pP C,.string b] w λe w'=>e=.returned (.bool false)/\PS C w' l/\Kept (ch C) w w':=by
 subst hb;have:=yY h h5 (tx s) (aV hs);rw[hi,aE ai] at this;exact this
def dc{w:YC}{r:Zi}(h:PS C w l)(h5:C.x5=some (.bool false))(s:TC){b:YR}(hi:cK (tx s) l=some r)(hb:b=bs (tx s):=by rfl)(hs:((tx s).all λc=>decide (c < 256))=true:=by decide):
  Calls prog 109 #[pP C,.string b] w λe w'=>e=.returned (.tuple #[])/\PS C w' r/\Kept (ch C) w w':=by
 subst hb;exact afd h h5 (tx s) (aV hs) hi
def Vs{w:YC}{ra rb:Row}{va vb:YE}(op:Yz)(ha:jN S w ra va)(hb:jN S w rb vb):Calls prog 256 #[.string (bs op),va,vb] w λe w'=>(∃v,e=.returned v/\jN (λb=>S b∨w.heap.size<=b) w' (bin op ra rb) v)/\Kept aK w w':=by obtain⟨k1,n1,m1,amY,a1,l1,c1,rfl,rfl,h1⟩:=ha;obtain⟨k2,n2,m2,amZ,a2,l2,c2,rfl,rfl,h2⟩:=hb;have H1:=ah h1;have H2:=ah h2;go_enter func256,ntmps256;go_wp2;refine bG (v:=.agg #[iV 7,.string (bs op),iV 0,sV (some ⟨w.heap.size+1+1+1,0,none⟩) 2 2]) (by simp[results,results256,go_sem]) rfl ?_;exact CY
def te(f:Nat):Prop:=∀(C:Ctx) (w:YC) (n:Nat) (l r:Zi) (row:Row),1<=n->n<=6->PS C w l->C.x5=some (.bool false)->cj f n l=some (row,r)->Calls prog 255 #[pP C,iV ((n:Int)+1)] w (cd C row r w)
def qn(f:Nat):Prop:=∀(C:Ctx) (w:YC) (l r:Zi) (row:Row),PS C w l->C.x5=some (.bool false)->cj f 0 l=some (row,r)->Calls prog 199 #[pP C] w (cd C row r w)
def abY(h:PM 0 l=none):aO "implies" l=false:=by
 cases hb:aO "implies" l
 .rfl
 .have:=aaA (m:=0) hb aj;rw[h] at this;cases this
def abZ{op:Yz}(h:PM 0 l=some op):op=tx "implies"/\aO "implies" l=true:=by
 cases l with
 |nil=>cases h
 |cons t r=>
  have h2:(if(t.k==3||t.k==5)&&Bq t.t==some 0 then some t.t else none)=some op:=h;split at h2
  .rename_i hc;rw[dD,dU] at hc
   cases h2;have ht:t.t=tx "implies":=by
    have h3:=hc.2;unfold Bq at h3;split at h3
    .rename_i hs;simpa using hs
    repeat (split at h3; · cases h3)
    cases h3
   refine⟨ht,?_⟩;show((t.k==3||t.k==5)&&t.t==tx "implies")=true;rw[hc.1,ht];simp
  .cases h2
def aff{F:Nat}(ihL:te F)(ihE:∀f,f < F->qn f):qn (F+1):=by
 intro C w l r row h h5 hp;have IP:((cj F 1 l).bind λx=>rM F 0 x.1 x.2)=some (row,r):=by
  have:cj (F+1) 0 l=(cj F 1 l).bind λx=>rM F 0 x.1 x.2:=by simp[cj]
  rw[this] at hp;exact hp
 obtain⟨⟨x,r1⟩,iF,ir⟩:=aw.1 IP
 cases F with
 |zero=>cases ir
 |succ F=>
 have eo:=ah (eP h);have rk:Hid (C.Bd<=w.heap.size):=ah h.bd;have aim:=ah (λw (h:PS C w l)=>ihL C w 1 l r1 x ab ab h h5 iF);refine vG ?_;intro W hW dZ hz BM xh;revert h5 ir hW dZ hz BM xh;refine Wy ?_;intro h5 ir hW dZ hz BM xh;go_enter func199,ntmps199;go_wp2_with fail;rw[<-hW.out];refine(aim _ BM).mono ?_;rintro e w1 ⟨⟨v,rfl,xk,xn,xm,kids,xa,xl,xc,rfl,rfl,hv⟩,P1,K1⟩;have ey:=(K1.block _ (aQ.1 hz).1 bJ).trans hz;obtain⟨V,hV⟩:∃V,V=w1.alloc (cO #[xk,xn,xm,sV xa xl xc] 181):=⟨_,rfl⟩
 have jl:Kept aK w1 V:=HG;have zp:V.heap[w1.heap.size]?=some (.cells #[xk,xn,xm,sV xa xl xc] 181 (0,0)):=by rw[hV,heap_alloc,aI rfl]
 have hzV:=aJ ey jl;have PV:=P1.kept jl (λ_ e=>e.elim);have hvV:=hv.kept jl (λ_ _ _ e=>e);have KV:=(aK.to (F:=ch C) dZ).trans' (K1.trans' (aK.to jl));have rG:=K1.size;revert hV zp hzV PV hvV KV;refine LX ?_;intro hV zp hzV PV hvV KV;go_wp2_with fail;rw[<-hV.out];have qU:rM (F+1) 0 ([xk,xn,xm,kids]) r1=some (row,r):=ir;simp only[rM] at qU
 cases ho:PM 0 r1 with
 |none=>
  rw[ho] at qU
  cases qU;have hni:=abY ho;refine bY (bU PV h5 "implies" hni) λw2 P2 K2=>?_;have jy:=(K2.block _ (aQ.1 zp).1 GS).trans zp;have oY:=(K2.block _ (aQ.1 hzV).1 bJ).trans hzV;obtain⟨b0,b1,b2,b3,-⟩:=cc (W:=w2) (b:=w1) jy;obtain⟨z0,z1,z2,z3,-⟩:=cc (W:=w2) (b:=w) oY;have y0:∀j,w2.frozen? ⟨w,j,none⟩=false:=al oY;have jo:=hvV.kept K2 so;revert P2 K2 jy oY jo;refine nx ?_;intro P2 K2 jy oY jo;go_wp2_with fail;refine bG (v:=.agg #[xk,xn,xm,sV xa xl xc]) Hi rfl ?_;have oK:=cG w2 w.heap.size (iV xk) (.string (bs xn)) (iV xm) (sV xa xl xc);exact⟨⟨_,rfl,xk,xn,xm,kids,xa,xl,xc,rfl,rfl,(jo.kept oK AE).mono λb hb _=>by have:=xh.out;have h1:W.heap.size<=b:=hb;omega⟩,P2.kept oK fh,(KV.trans' K2).trans oK bH⟩
 |some op=>
  rw[ho] at qU;simp only[beq_self_eq_true,Bool.true_or,xN] at qU;obtain⟨⟨y,r2⟩,hy,sB⟩:=aw.1 qU
  cases sB;obtain⟨rfl,hi⟩:=abZ ho;refine bY (dP PV h5 "implies" hi) λw2 P2 K2=>?_;have jy:=(K2.block _ (aQ.1 zp).1 GS).trans zp;have oY:=(K2.block _ (aQ.1 hzV).1 bJ).trans hzV;have jo:=hvV.kept K2 so;obtain⟨bx,mf⟩:∃b,b=w1.heap.size:=⟨_,rfl⟩
  rw[<-mf] at jy|-;have QD:(AX:YR)=bs "implies":=by rfl
  have aoe:bx≠C.p:=by have:=eo.out;have:=xh.out;omega
  revert hy P2 K2 oY jo jy mf QD;refine TR ?_;intro hy P2 K2 oY jo jy mf QD;go_wp2_with fail;refine wpLive 4 (λV=>V.heap[bx]?=some (.cells #[xk,xn,xm,sV xa xl xc] 181 (0,0))) (λV s=>And.intro (Bm.bc s 0) (And.intro (Bm.bc s 1) (And.intro (Bm.bc s 2) (Bm.bc s 3)))) ?_ λFF ak=>?_
  .exact jy
  refine tkT 0 ?_;refine tkT 1 ?_;refine rdT 2 λK hK=>?_;go_simp;refine(ihE F ab C _ _ _ _ (P2.drew) h5 hy).mono ?_;rintro e w3 ⟨⟨v,rfl,yk,yn,ym,rX,ya,yl,yc,rfl,rfl,qZ⟩,P3,K3⟩;dsimp only;have KD:Kept (ch C) w2 w3:=(Kept.refl (ch C) w2).drew.trans' K3;have AR:=(KD.block _ (aQ.1 oY).1 bJ).trans oY;have FJ:=jo.kept KD so;have pD:w.heap.size+1<=w2.heap.size:=Hn;have Yh:an (λb=>w.heap.size+1<=b) w3 (.sl rX) (sV ya yl yc):=qZ.mono λb hb _=>by simp only[eB] at hb;omega
  have sX:an (λb=>w.heap.size+1<=b) w3 (.sl kids) (sV xa xl xc):=FJ.mono λb hb _=>by have:=xh.out;have h1:W.heap.size<=b:=hb;omega
  revert P3 KD AR Yh sX;refine nx ?_;intro P3 KD AR Yh sX;refine hK _ _ ((KD.block _ (aQ.1 jy).1 (λe=>aoe e)).trans jy) (λak=>?_);refine sp ?_;refine rdT 3 λK hK=>?_;go_simp;rw[QD.out];refine(Vs "implies" (S:=λb=>w.heap.size+1<=b) ⟨xk,xn,xm,kids,xa,xl,xc,rfl,rfl,sX⟩ ⟨yk,yn,ym,rX,ya,yl,yc,rfl,rfl,Yh⟩).mono ?_;rintro e w4 ⟨⟨v,rfl,bk,bn,bm,Q0,ba,bl,bc,aL,rfl,QG⟩,K4⟩;dsimp only;have hz4:=aJ AR K4;have P4:=P3.kept K4 (λ_ e=>e.elim);obtain⟨z0,z1,z2,z3,-⟩:=cc (W:=w4) (b:=w) hz4;have y0:∀j,w4.frozen? ⟨w,j,none⟩=false:=al hz4;have aql:w.heap.size+1<=w3.heap.size:=by have:=KD.size;omega
  have Yi:an (λb=>w.heap.size+1<=b) w4 (.sl Q0) (sV ba bl bc):=QG.mono λb hb _=>by rcases hb with hb|hb<;>omega
  revert aL hz4 P4 Yi;refine jU ?_;intro aL hz4 P4 Yi;have K24:=ah (KD.trans' (aK.to K4));refine hK _ _ ((K24.block _ (aQ.1 jy).1 (λe=>aoe e)).trans jy) (λak=>?_);refine sp ?_;refine ddT 4 λK hK=>?_;go_simp;refine hK _ _ ?_;refine sp ?_;refine dnT ?_;go_wp2_with fail;refine bG (v:=.agg #[bk,bn,bm,sV ba bl bc]) Hi rfl ?_;have oK:=cG w4 w.heap.size (iV bk) (.string (bs bn)) (iV bm) (sV ba bl bc);exact⟨⟨_,rfl,bk,bn,bm,Q0,ba,bl,bc,aL,rfl,(Yi.kept oK pR).mono λb hb _=>by have h1:w.heap.size+1<=b:=hb;omega⟩,P4.kept oK fh,((KV.trans' K2).trans' K24).trans oK bH⟩
def oJ(f:Nat):Prop:=∀(C:Ctx) (w:YC) (l r:Zi) (row:Row),PS C w l->C.x5=some (.bool false)->jK f l=some (row,r)->Calls prog 286 #[pP C] w (cd C row r w)
def MC(n:Nat)(rc:Zi):List aF:=match PM n rc with|some _=>rc.tail|none=>rc
def Tg(C:Ctx)(w:YC)(g5 F n:Nat)(row:Row)(r:Zi)(gg:Nat)(s6:YE)(wr:YC):Prop:=
 ∃(xk xm:Int) (xn:Yz) (kids:Zg) (xa:YS) (xl xc f:Nat) (rc:Zi),s6=.string (opB n rc)/\PS C wr (MC n rc)/\Kept (ch C) w wr/\wr.heap[g5]?=some (.cells #[xk,xn,xm,sV xa xl xc] 181 (0,0))/\wr.heap[w.heap.size]?=some (.cells #[oZ,eS,oZ,nS] 181 (0,0))/\
  an (λb=>w.heap.size+1<=b/\b≠g5) wr (.sl kids) (sV xa xl xc)/\rM f n [xk,xn,xm,kids] rc=some (row,r)/\f<=gg/\f<=F
def afg{w:YC}(h:PS C w l)(h5:C.x5=some (.bool false)){n:Nat}{m:Int}(h1:1<=n)(hn5:n<=5)(hm:m=(n:Int)+1):Calls prog 287 #[pP C,iV m] w λe w'=>e=.returned (.string (opB n l))/\PS C w' (MC n l)/\Kept (ch C) w w':=by subst hm;exact Tf h h5 h1 hn5
def Th{f:Nat}(ih:oJ f){C:Ctx}{w:YC}{l r:Zi}{x:Row}(h:PS C w l)(h5:C.x5=some (.bool false))(hx:jK f l=some (x,r)):Calls prog 255 #[pP C,iV 7] w (cd C x r w):=by have eo:=ah (eP h);have rk:Hid (C.Bd<=w.heap.size):=ah h.bd;have hfr:=ah (λw (h:PS C w l)=>ih C w l r x h h5 hx);refine vG ?_;intro W hW dZ hz BM xh;revert hW dZ hz BM xh;refine nx ?_;intro hW dZ hz BM xh;go_enter func255,ntmps255;go_wp2_with fail;rw[<-hW.out];refine(hfr _ BM).mono ?_;rintro e w1 ⟨⟨v,rfl,xk,xn,xm,kids,xa,xl,xc,rfl,rfl,hv⟩,P1,K1⟩;have ey:=(K1.block _ (aQ.1 hz).1 bJ).trans hz;obtain⟨z0,z1,z2,z3,-⟩:=cc (W:=w1) (b:=w) ey;have y0:∀j,w1.frozen? ⟨w,j,none⟩=false:=al ey;revert hv P1 K1 ey;refine jU ?_;intro hv P1 K1 ey;go_wp2_with fail;refine bG (v:=.agg #[xk,xn,xm,sV xa xl xc]) vT rfl ?_;have oK:=cG w1 w.heap.size (iV xk) (.string (bs xn)) (iV xm) (sV xa xl xc);exact⟨⟨_,rfl,xk,xn,xm,kids,xa,xl,xc,rfl,rfl,(hv.kept oK AE).mono λb hb _=>by have:=xh.out;have h1:W.heap.size<=b:=hb;omega⟩,P1.kept oK fh,((aK.to (F:=ch C) dZ).trans' K1).trans oK bH⟩
def Vt{F:Nat}(ih:∀f,f < F->te f)(ihF:te F){C:Ctx}{w:YC}{l r r1:Zi}{row x:Row}{n:Nat}(Pm:1<=n)(hn5:n<=5)(h:PS C w l)(h5:C.x5=some (.bool false))(iF:cj F (n+1) l=some (x,r1))(ir:rM F n x r1=some (row,r)):Calls prog 255 #[pP C,iV ((n:Int)+1)] w (cd C row r w):=by
 have eo:=ah (eP h);have rk:Hid (C.Bd<=w.heap.size):=ah h.bd;have aim:=ah (λw (h:PS C w l)=>ihF C w (n+1) l r1 x ab ab h h5 iF);refine vG ?_;intro W hW dZ hz BM xh;have hn7:¬((n:Int)+1=7):=ab;have arI:((n:Int)+1==7)=false:=cX;have hwr:IntKind.i64.wrap ((n:Int)+1+1)=(n:Int)+1+1:=lF _ ab;have aaB:((n+1:Nat):Int)+1=(n:Int)+1+1:=by push_cast;rfl
 rw[aaB] at aim;revert h5 ir hW dZ hz BM xh aaB;refine TR ?_;intro h5 ir hW dZ hz BM xh aaB;clear h iF;go_enter func255,ntmps255;go_wp2_with fail;rw[<-hW.out];refine(aim _ BM).mono ?_;rintro e w1 ⟨⟨v,rfl,xk,xn,xm,kids,xa,xl,xc,rfl,rfl,hv⟩,P1,K1⟩;have ey:=(K1.block _ (aQ.1 hz).1 bJ).trans hz;obtain⟨V,hV⟩:∃V,V=w1.alloc (cO #[xk,xn,xm,sV xa xl xc] 181):=⟨_,rfl⟩
 have jl:Kept aK w1 V:=HG;obtain⟨g5,ik⟩:∃g,g=w1.heap.size:=⟨_,rfl⟩
 have zp:V.heap[g5]?=some (.cells #[xk,xn,xm,sV xa xl xc] 181 (0,0)):=by rw[hV,ik,heap_alloc,aI rfl]
 have hzV:=aJ ey jl;have PV:=P1.kept jl (λ_ e=>e.elim);have rG:=K1.size;have hvV:an (λb=>w.heap.size+1<=b/\b≠g5) V (.sl kids) (sV xa xl xc):=(hv.mono λb hb hl=>show w.heap.size+1<=b/\b≠g5 by have:=xh.out;have h1:W.heap.size<=b:=hb;omega).kept jl (λ_ _ _ e=>e);have KV:=(aK.to (F:=ch C) dZ).trans' (K1.trans' (aK.to jl));have UF:w.heap.size+1<=g5:=by have:=xh.out;omega
 have alB:g5≠C.p:=gO;revert hV ik zp hzV PV hvV KV;refine Wy ?_;intro hV ik zp hzV PV hvV KV;clear ey jl hv rG;go_wp2_with fail;rw[<-hV.out,<-ik.out];refine bY (afg PV h5 Pm hn5 rfl) λw2 P2 K2=>?_;have jr:Hid (Tg C w g5 F n row r F (.string (opB n r1)) w2):=ah ⟨xk,xm,xn,kids,xa,xl,xc,F,r1,rfl,P2,KV.out.trans' K2,(K2.block _ (aQ.1 zp).1 (λe=>alB e)).trans zp,(K2.block _ (aQ.1 hzV).1 bJ).trans hzV,hvV.kept K2 yJ,ir,aM _,aM _⟩;clear PV zp hzV hvV KV hV;go_wp2_with fail;go_loopg [6] F (λgg s6 wr=>Tg C w g5 F n row r gg s6 wr)
 case atStart=>exact jr
 case round=>
  obtain⟨xk,xm,xn,kids,xa,xl,xc,f,rc,rfl,P,K,hb,hz,hv,qU,hfg,gT⟩:=hrel;clear jr
  cases f with
  |zero=>cases qU
  |succ f=>
  simp only[rM] at qU
  cases ho:PM n rc with
  |none=>
   rw[ho] at qU
   cases qU;rw[UP ho];unfold MC at P;rw[ho] at P;dsimp only at P;revert K hv P;refine jk ?_;intro K hv P;obtain⟨b0,b1,b2,b3,-⟩:=cc (W:=wr) (b:=g5) hb;obtain⟨z0,z1,z2,z3,-⟩:=cc (W:=wr) (b:=w) hz;have y0:∀j,wr.frozen? ⟨w,j,none⟩=false:=al hz;revert hb hz;refine ct ?_;intro hb hz;go_wp2_with fail;refine bG (v:=.agg #[xk,xn,xm,sV xa xl xc]) vT rfl ?_;have oK:=cG wr w.heap.size (iV xk) (.string (bs xn)) (iV xm) (sV xa xl xc);exact⟨⟨_,rfl,xk,xn,xm,kids,xa,xl,xc,rfl,rfl,(hv.kept oK hZ).mono λb hb _=>by have:=hb.1;omega⟩,P.kept oK fh,K.trans oK bH⟩
  |some op=>
   rw[ho] at qU;rw[UO ho];unfold MC at P;rw[ho] at P;dsimp only at P qU;obtain⟨t,rr,Po,o7,cR⟩:=UR ho;obtain⟨⟨y,r2⟩,hy,sB⟩:=aw.1 qU;have hnz:(n==0)=false:=cX;rw[hnz] at hy;dsimp only at hy sB;simp only[hnz,MR,rW,qE] at hy sB;have arJ:(bs op).toList.isEmpty=false:=LD (by rw[o7];exact cR);have QD:bs op=bs op:=rfl;have ihR:∀(C:Ctx) (w:YC) (l r:Zi) (row:Row),C.x5=some (.bool false)->PS C w l->cj f (n+1) l=some (row,r)->Calls prog 255 #[pP C,iV ((n:Int)+1+1)] w (cd C row r w):=λC w l r row h5 h hp=>by
    have:=ih f ab C w (n+1) l r row ab ab h h5 hp;rw[aaB.out] at this;exact this
   replace ihR:∀(D:Ctx) (w:YC) (l r:Zi) (row:Row),D.x5=some (.bool false)->PS D w l->cj f (n+1) l=some (row,r)->Calls prog 255 #[pP D,iV ((n:Int)+1+1)] w (cd D row r w):=ihR;revert K hb hz hv P hy QD;refine Wy ?_;intro K hb hz hv P hy QD;clear qU ho Po o7 cR hnz;go_wp2_with fail;refine wpLive 7 (λV=>V.heap[g5]?=some (.cells #[xk,xn,xm,sV xa xl xc] 181 (0,0))) (λV s=>And.intro (Bm.bc s 0) (And.intro (Bm.bc s 1) (And.intro (Bm.bc s 2) (Bm.bc s 3)))) ?_ λFF ak=>?_
   .exact hb
   refine tkT 0 ?_;refine tkT 1 ?_;refine tkT 2 ?_;refine tkT 3 ?_;refine tkT 4 ?_;refine rdT 5 λK hK=>?_;go_simp;refine(ihR C _ _ _ _ h5 (P.drew) hy).mono ?_;rintro e w3 ⟨⟨v,rfl,yk,yn,ym,rX,ya,yl,yc,rfl,rfl,qZ⟩,P3,K3⟩;dsimp only;have KD:Kept (ch C) wr w3:=(Kept.refl (ch C) wr).drew.trans' K3;have AR:=(KD.block _ (aQ.1 hz).1 bJ).trans hz;have pD:w.heap.size+1<=wr.heap.size:=by have:=(aQ.1 hz).1;omega
   have arK:g5 < wr.heap.size:=(aQ.1 hb).1;have Yh:an (λb=>w.heap.size+1<=b/\b≠g5) w3 (.sl rX) (sV ya yl yc):=qZ.mono λb hb _=>by simp only[eB] at hb;omega
   have sX:an (λb=>w.heap.size+1<=b/\b≠g5) w3 (.sl kids) (sV xa xl xc):=hv.kept KD yJ;have gJ:=(KD.block _ (aQ.1 hb).1 (λe=>alB e)).trans hb;revert P3 KD AR Yh sX gJ;refine LX ?_;intro P3 KD AR Yh sX gJ;clear qZ;refine hK _ _ (gJ) (λak=>?_);clear hK K;refine sp ?_;refine rdT 6 λK hK=>?_;go_simp;refine(Vs op (S:=λb=>w.heap.size+1<=b/\b≠g5) ⟨xk,xn,xm,kids,xa,xl,xc,rfl,rfl,sX⟩ ⟨yk,yn,ym,rX,ya,yl,yc,rfl,rfl,Yh⟩).mono ?_;rintro e w4 ⟨⟨v,rfl,bk,bn,bm,Q0,ba,bl,bc,aL,rfl,QG⟩,K4⟩;dsimp only;have hz4:=aJ AR K4;have Cm:=aJ gJ K4;have P4:=P3.kept K4 (λ_ e=>e.elim);obtain⟨b0,b1,b2,b3,-⟩:=cc (W:=w4) (b:=g5) Cm;have c0:∀j,w4.frozen? ⟨g5,j,none⟩=false:=al Cm;have aql:wr.heap.size<=w3.heap.size:=KD.size;have Yi:an (λb=>w.heap.size+1<=b/\b≠g5) w4 (.sl Q0) (sV ba bl bc):=QG.mono λb hb _=>by rcases hb with hb|hb<;>omega
   revert aL hz4 Cm P4 Yi;refine nx ?_;intro aL hz4 Cm P4 Yi;have K24:=ah (KD.trans' (aK.to K4));clear QG;refine hK _ _ (Cm) (λak=>?_);clear hK K;refine sp ?_;refine ddT 7 λK hK=>?_;revert K hK;refine j9 ?_;have oK:=cG w4 g5 (iV bk) (.string (bs bn)) (iV bm) (sV ba bl bc);have jV:=eI Cm (iV bk) (.string (bs bn)) (iV bm) (sV ba bl bc);have hz5:=(oK.block _ (aQ.1 hz4).1 (show ¬(w.heap.size=g5) by omega)).trans hz4;have P5:=P4.kept oK fh;have ZH:=Yi.kept oK (λb hb _ e=>hb.2 e);have K5:Kept (ch C) w (A7 w4 g5 (iV bk) (.string (bs bn)) (iV bm) (sV ba bl bc)):=(K.trans' K24).trans oK bH;obtain⟨W5,hW5⟩:∃W,W=A7 w4 g5 (iV bk) (.string (bs bn)) (iV bm) (sV ba bl bc):=⟨_,rfl⟩
   rw[<-hW5] at jV hz5 P5 ZH K5;have hW6:W5=(((w4.setCell ⟨g5,0,none⟩ (iV bk)).setCell ⟨g5,1,none⟩ (.string (bs bn))).setCell ⟨g5,2,none⟩ (iV bm)).setCell ⟨g5,3,none⟩ (sV ba bl bc):=hW5;rw[<-hW6];revert hW5 hW6;refine ct ?_;intro hW5 hW6;clear oK;by_cases hn3:n=3
   .have hn4:((n:Int)+1==4)=true:=by rw[hn3];rfl
    have aqm:(n:Int)+1=4:=ab;have aqn:(n:Int)=3:=ab;rw[aI (by rw[hn3];rfl)] at sB
    cases sB;obtain⟨b0,b1,b2,b3,-⟩:=cc (W:=W5) (b:=g5) jV;obtain⟨z0,z1,z2,z3,-⟩:=cc (W:=W5) (b:=w) hz5;have y0:∀j,W5.frozen? ⟨w,j,none⟩=false:=al hz5;revert hz5 jV;refine ct ?_;intro hz5 jV;go_wp2_with fail;refine bG (v:=.agg #[bk,bn,bm,sV ba bl bc]) vT rfl ?_;have oK:=cG W5 w.heap.size (iV bk) (.string (bs bn)) (iV bm) (sV ba bl bc);exact⟨⟨_,rfl,bk,bn,bm,Q0,ba,bl,bc,aL,rfl,(ZH.kept oK hZ).mono λb hb _=>by have:=hb.1;omega⟩,P5.kept oK fh,K5.trans oK bH⟩
   .have hn4:((n:Int)+1==4)=false:=by rw[gH];omega
    have aqm:¬((n:Int)+1=4):=ab;have aqn:¬((n:Int)=3):=ab;rw[aE aH] at sB;revert sB K5 ZH P5 hz5 jV;refine LX ?_;intro sB K5 ZH P5 hz5 jV;go_wp2_with fail;refine bY (afg P5 h5 Pm hn5 rfl) λw6 P6 K6=>?_;have oV:Hid (Tg C w g5 F n row r f (.string (opB n r2)) w6):=ah ⟨bk,bm,bn,Q0,ba,bl,bc,f,r2,rfl,P6,K5.out.trans' K6,(K6.block _ (aQ.1 jV).1 (λe=>alB e)).trans jV,(K6.block _ (aQ.1 hz5).1 bJ).trans hz5,ZH.kept K6 yJ,by rw[<-aL.out];exact sB,aM _,by omega⟩;exact DE
def ab0{F:Nat}(ih:∀f,f < F+1->te f)(ihf:oJ F):te (F+1):=by
 intro C w n l r row h1 h6 h h5 hp;by_cases hn:n=6
 .subst hn;exact Th ihf h h5 (by simpa[cj] using hp)
 .have hn6:(n==6)=false:=by rw[gH];exact hn
  have IP:((cj F (n+1) l).bind λx=>rM F n x.1 x.2)=some (row,r):=by
   have:cj (F+1) n l=(cj F (n+1) l).bind λx=>rM F n x.1 x.2:=by simp only[cj,hn6,rW,qE];rfl
   rw[this] at hp;exact hp
  obtain⟨⟨x,r1⟩,iF,ir⟩:=aw.1 IP;exact Vt (λf hf=>ih f ab) (ih F ab) h1 ab h h5 iF ir
def zN(f:Nat):Prop:=∀(C:Ctx) (w:YC) (l r r1:Zi) (row x:Row),PS C w l->C.x5=some (.bool false)->fF f l=some (x,r1)->xj f x r1=some (row,r)->Calls prog 315 #[pP C] w (cd C row r w)
def Yj{a b:Yz}(h:aO a l=true)(hab:a≠b):aO b l=false:=by
 cases l with
 |nil=>cases h
 |cons t r=>have h2:((t.k==3||t.k==5)&&t.t==a)=true:=h;rw[dD,dU] at h2;show((t.k==3||t.k==5)&&t.t==b)=false;rw[h2.2,gH.2 hab,A3]
def Yk{F:Nat}(ih:oJ F){C:Ctx}{w:YC}{l r:Zi}{x:Row}(h:PS C w l)(h5:C.x5=some (.bool false))(hi:aO "old" l=true)(hx:jK F l.tail=some (x,r)):Calls prog 286 #[pP C] w (cd C (ex 9 [] 0 [x]) r w):=by
 have hfr:=ah (λw (h:PS C w l.tail)=>ih C w l.tail r x h h5 hx);revert h5;refine NW ?_;intro eo rk W dZ h5 hW hz BM xh bC bX cU dz fZ iI;refine bY (dP BM h5 "old" hi) λv1 P1 K1=>?_;have ey:=(K1.block _ (aQ.1 hz).1 bJ).trans hz;replace K1:=ah (dZ.trans' K1);revert P1 ey;refine ct ?_;intro P1 ey;go_wp2_with fail;refine(hfr _ P1).mono ?_;rintro e w9 ⟨⟨v,rfl,xk,xn,xm,kids,xa,xl,xc,rfl,rfl,hv⟩,P9,K9⟩;have UD:=(K9.block _ (aQ.1 ey).1 bJ).trans ey;have hsv:w.heap.size+1<=v1.heap.size:=Ln;refine vH ?_;intro hs9 Xt KA hvA PA;have ZL:an (λb=>w.heap.size+1<=b) (w9.alloc (cO #[xk,xn,xm,sV xa xl xc] 181)) (.sl [[xk,xn,xm,kids]]) (sV w9 1 1):=
  aW (E:=181) (fr:=(0,0)) (wd:=4) (css:=[[xk,xn,xm,sV xa xl xc]]) (arr:=#[xk,xn,xm,sV xa xl xc]) ao rfl (.cons ⟨rfl,.cons (.int _) (.cons (.str _) (.cons (.int _) (.cons (hvA.mono λb hb _=>by have h1:v1.heap.size<=b:=hb;omega) .nil)))⟩ .nil) ab (aM _) cP
 revert Xt PA ZL;refine vM ?_;intro z0 z1 z2 z3 y0 Xt PA ZL;have KB:=ah (K1.trans' (K9.trans' (aK.to KA)));go_wp2_with fail;refine bG (v:=.agg #[iV 9,eS,oZ,sV w9 1 1]) pV rfl ?_;have oK:=cG (w9.alloc (cO #[xk,xn,xm,sV xa xl xc] 181)) w.heap.size (iV 9) (.string ⟨#[]⟩) (iV 0) (sV w9 1 1);exact⟨⟨_,rfl,9,[],0,[[xk,xn,xm,kids]],some ⟨w9,0,none⟩,1,1,rfl,rfl,(ZL.kept oK pR).mono λb hb _=>by have h1:w.heap.size+1<=b:=hb;omega⟩,PA.kept oK fh,KB.trans oK bH⟩
def Yl{F:Nat}(ih:oJ F){C:Ctx}{w:YC}{l r:Zi}{x:Row}(h:PS C w l)(h5:C.x5=some (.bool false))(hi:aO "not" l=true)(hx:jK F l.tail=some (x,r)):Calls prog 286 #[pP C] w (cd C (ex 8 "not" 0 [x]) r w):=by
 have hfr:=ah (λw (h:PS C w l.tail)=>ih C w l.tail r x h h5 hx);have n0:aO "old" l=false:=Yj hi aj;revert h5;refine NW ?_;intro eo rk W dZ h5 hW hz BM xh bC bX cU dz fZ iI;refine bY (bU BM h5 "old" n0) λv1 P1 K1=>?_;have ey:=(K1.block _ (aQ.1 hz).1 bJ).trans hz;replace K1:=ah (dZ.trans' K1);revert P1 ey;refine ct ?_;intro P1 ey;go_wp2_with fail;refine bY (dP P1 h5 "not" hi) λv2 P2 K2=>?_;have oY:=(K2.block _ (aQ.1 ey).1 bJ).trans ey;replace K2:=ah (K1.trans' K2);revert P2 oY;refine ct ?_;intro P2 oY;go_wp2_with fail;refine(hfr _ P2).mono ?_;rintro e w9 ⟨⟨v,rfl,xk,xn,xm,kids,xa,xl,xc,rfl,rfl,hv⟩,P9,K9⟩;have UD:=(K9.block _ (aQ.1 oY).1 bJ).trans oY;have hsv:w.heap.size+1<=v2.heap.size:=Hn;refine vH ?_;intro hs9 Xt KA hvA PA;have ZL:an (λb=>w.heap.size+1<=b) (w9.alloc (cO #[xk,xn,xm,sV xa xl xc] 181)) (.sl [[xk,xn,xm,kids]]) (sV w9 1 1):=
  aW (E:=181) (fr:=(0,0)) (wd:=4) (css:=[[xk,xn,xm,sV xa xl xc]]) (arr:=#[xk,xn,xm,sV xa xl xc]) ao rfl (.cons ⟨rfl,.cons (.int _) (.cons (.str _) (.cons (.int _) (.cons (hvA.mono λb hb _=>by have h1:v2.heap.size<=b:=hb;omega) .nil)))⟩ .nil) ab (aM _) cP
 revert Xt PA ZL;refine vM ?_;intro z0 z1 z2 z3 y0 Xt PA ZL;have KB:=ah (K2.trans' (K9.trans' (aK.to KA)));go_wp2_with fail;refine bG (v:=.agg #[iV 8,.string tq,oZ,sV w9 1 1]) pV rfl ?_;have oK:=cG (w9.alloc (cO #[xk,xn,xm,sV xa xl xc] 181)) w.heap.size (iV 8) (.string tq) (iV 0) (sV w9 1 1);exact⟨⟨_,rfl,8,(tx "not"),0,[[xk,xn,xm,kids]],some ⟨w9,0,none⟩,1,1,rfl,rfl,(ZL.kept oK pR).mono λb hb _=>by have h1:w.heap.size+1<=b:=hb;omega⟩,PA.kept oK fh,KB.trans oK bH⟩
def Ti{F:Nat}(ih:oJ F){C:Ctx}{w:YC}{l r:Zi}{x:Row}(h:PS C w l)(h5:C.x5=some (.bool false))(hi:aO "-" l=true)(hx:jK F l.tail=some (x,r)):Calls prog 286 #[pP C] w (cd C (ex 8 "-" 0 [x]) r w):=by
 have hfr:=ah (λw (h:PS C w l.tail)=>ih C w l.tail r x h h5 hx);have n0:aO "old" l=false:=Yj hi aj;have n1:aO "not" l=false:=Yj hi aj;revert h5;refine Fs ?_;intro eo rk W dZ h5 hW hz BM xh v1 K1 P1 ey v2 K2 P2 oY bC bX cU dz fZ iI;refine bY (dP P2 h5 "-" hi) λv3 P3 K3=>?_;have AR:=(K3.block _ (aQ.1 oY).1 bJ).trans oY;replace K3:=ah (K2.trans' K3);revert P3 AR;refine ct ?_;intro P3 AR;go_wp2_with fail;refine(hfr _ P3).mono ?_;rintro e w9 ⟨⟨v,rfl,xk,xn,xm,kids,xa,xl,xc,rfl,rfl,hv⟩,P9,K9⟩;have UD:=(K9.block _ (aQ.1 AR).1 bJ).trans AR;have hsv:w.heap.size+1<=v3.heap.size:=Hm;refine vH ?_;intro hs9 Xt KA hvA PA;have ZL:an (λb=>w.heap.size+1<=b) (w9.alloc (cO #[xk,xn,xm,sV xa xl xc] 181)) (.sl [[xk,xn,xm,kids]]) (sV w9 1 1):=
  aW (E:=181) (fr:=(0,0)) (wd:=4) (css:=[[xk,xn,xm,sV xa xl xc]]) (arr:=#[xk,xn,xm,sV xa xl xc]) ao rfl (.cons ⟨rfl,.cons (.int _) (.cons (.str _) (.cons (.int _) (.cons (hvA.mono λb hb _=>by have h1:v3.heap.size<=b:=hb;omega) .nil)))⟩ .nil) ab (aM _) cP
 revert Xt PA ZL;refine vM ?_;intro z0 z1 z2 z3 y0 Xt PA ZL;have KB:=ah (K3.trans' (K9.trans' (aK.to KA)));go_wp2_with fail;refine bG (v:=.agg #[iV 8,.string ⟨#[45]⟩,oZ,sV w9 1 1]) pV rfl ?_;have oK:=cG (w9.alloc (cO #[xk,xn,xm,sV xa xl xc] 181)) w.heap.size (iV 8) (.string ⟨#[45]⟩) (iV 0) (sV w9 1 1);exact⟨⟨_,rfl,8,(tx "-"),0,[[xk,xn,xm,kids]],some ⟨w9,0,none⟩,1,1,rfl,rfl,(ZL.kept oK pR).mono λb hb _=>by have h1:w.heap.size+1<=b:=hb;omega⟩,PA.kept oK fh,KB.trans oK bH⟩
def Vu{F:Nat}(ih:zN F){C:Ctx}{w:YC}{l r r1:Zi}{x row:Row}(h:PS C w l)(h5:C.x5=some (.bool false))(n0:aO "old" l=false)(n1:aO "not" l=false)(n2:aO "-" l=false)(hx:fF F l=some (x,r1))(hd:xj F x r1=some (row,r)):Calls prog 286 #[pP C] w (cd C row r w):=by have hfr:=ah (λw (h:PS C w l)=>ih C w l r r1 row x h h5 hx hd);revert h5;refine Fs ?_;intro eo rk W dZ h5 hW hz BM xh v1 K1 P1 ey v2 K2 P2 oY bC bX cU dz fZ iI;refine bY (bU P2 h5 "-" n2) λv3 P3 K3=>?_;have AR:=(K3.block _ (aQ.1 oY).1 bJ).trans oY;replace K3:=ah (K2.trans' K3);revert P3 AR;refine ct ?_;intro P3 AR;go_wp2_with fail;refine(hfr _ P3).mono ?_;rintro e w9 ⟨⟨v,rfl,xk,xn,xm,kids,xa,xl,xc,rfl,rfl,hv⟩,P9,K9⟩;have UD:=(K9.block _ (aQ.1 AR).1 bJ).trans AR;have hsv:w.heap.size+1<=v3.heap.size:=Hm;obtain⟨z0,z1,z2,z3,-⟩:=cc (W:=w9) (b:=w) UD;have y0:∀j,w9.frozen? ⟨w,j,none⟩=false:=al UD;revert hv P9 UD;refine jk ?_;intro hv P9 UD;have KB:=ah (K3.trans' K9);go_wp2_with fail;refine bG (v:=.agg #[xk,xn,xm,sV xa xl xc]) pV rfl ?_;have oK:=cG w9 w.heap.size (iV xk) (.string (bs xn)) (iV xm) (sV xa xl xc);exact⟨⟨_,rfl,xk,xn,xm,kids,xa,xl,xc,rfl,rfl,(hv.kept oK (λb hb _ e=>by have h1:v3.heap.size<=b:=hb;omega)).mono λb hb _=>by have h1:v3.heap.size<=b:=hb;omega⟩,P9.kept oK fh,KB.trans oK bH⟩
def ab1{F:Nat}(ih:oJ F)(ihc:zN F):oJ (F+1):=by
 intro C w l r row h h5 hp;simp only[jK] at hp;by_cases h1:aO "-" l=true
 .rw[aI h1] at hp;obtain⟨⟨x,r1⟩,hx,h2⟩:=aw.1 hp
  cases h2;exact Ti ih h h5 h1 hx
 rw[aE h1] at hp;by_cases h2:aO "not" l=true
 .rw[aI h2] at hp;obtain⟨⟨x,r1⟩,hx,h3⟩:=aw.1 hp
  cases h3;exact Yl ih h h5 h2 hx
 rw[aE h2] at hp;by_cases h3:aO "old" l=true
 .rw[aI h3] at hp;obtain⟨⟨x,r1⟩,hx,h4⟩:=aw.1 hp
  cases h4;exact Yk ih h h5 h3 hx
 rw[aE h3] at hp;obtain⟨⟨x,r1⟩,hx,h4⟩:=aw.1 hp;exact Vu ihc h h5 wG jb kW hx h4
def wR(f:Nat):Prop:=∀(C:Ctx) (w:YC) (l r:Zi) (rows:Zg),PS C w l->C.x5=some (.bool false)->o5 f l=some (rows,r)->Calls prog 284 #[pP C] w (fR C 4 rows r w)
def Tj(f:Nat):Prop:=∀(C:Ctx) (w:YC) (l r:Zi) (row:Row),PS C w l->C.x5=some (.bool false)->fF f l=some (row,r)->Calls prog 335 #[pP C] w (cd C row r w)
def afh{F:Nat}(ih:∀f,f < F->wR f)(ihp:Tj F)(dx:F<=6000)(hal:∀f l rows r,o5 f l=some (rows,r)->rows.length<=f):zN F:=by
 intro C w l r r1 row x h mM Uy IP;obtain⟨i,hi,hz,cL,dY⟩:=dN Ia;have S0:=ah (St.start h lA);revert hal mM Uy IP hi hz cL dY;refine TR ?_;intro hal mM Uy IP hi hz cL dY;go_enter func315,ntmps315;go_wp2_with fail;refine(ihp C _ _ _ _ S0.ps mM Uy).mono ?_;revert x Uy IP;refine FI ?_;intro w1 xk xn xm kids xa xl xc Uy IP hv P1 K1 S1 bQ iC S2 h5 FJ ph bC bX g3 hrel Bk M7;go_loopg [] F (λgg wr=>RP C w g3 F row r gg wr)
 case atStart=>exact hrel
 case round=>
  obtain⟨f,rc,xk,xn,xm,kids,xa,xl,xc,SS,h3,oP,hm,gT,hfg⟩:=hrel
  cases f with
  |zero=>cases hm
  |succ f=>
  simp only[xj,cF] at hm;by_cases hc:aO "." rc=true
  .rw[aI hc] at hm;obtain⟨⟨nm,ra⟩,hn,cg⟩:=aw.1 hm;obtain⟨⟨ags,r2⟩,ha,fy⟩:=aw.1 cg;have ahH:=hal _ _ _ _ ha;replace ahH:Hid (ags.length<=6000):=ah ab;revert hc hn ha;refine jk ?_;intro hc hn ha;replace hm:=ah fy;revert SS h3 oP gT hfg;refine nx ?_;intro SS h3 oP gT hfg;go_wp2_with fail;refine bY (dP SS.ps mM "." hc) λw2 P2 K2=>?_;have S2:=ah (SS.aB P2 K2);replace K2:=ah K2;go_wp2_with fail;refine bY (gd (k:=1) S2.ps mM hn) λw3 P3 K3=>?_;revert h3 oP;refine FU ?_;intro S3 h33 sX Xi h3 oP FF ak;refine rT2 2 4 (λK hK=>?_) λK hK=>?_
   .refine Gd ?_;intro ahl ak K hK;refine(ih f bT C _ _ _ _ ((S3.alloc (cO #[xk,xn,xm,sV xa xl xc] 181)).drew).ps mM ha).mono ?_;exact Cv
   .go_simp;refine(ih f bT C _ _ _ _ (S3.drew).ps mM ha).mono ?_;exact Cp
  .rw[aE hc] at hm
   cases hm;simp only[gI] at hc;revert h3 oP SS hc;refine jU ?_;intro h3 oP SS hc;go_wp2_with fail;refine bY (bU SS.ps mM "." hc) λw2 P2 K2=>?_;revert oP;refine F4 ?_;intro h33 sX b0 b1 b2 b3 f0 sN sO tF tG sP S2 oP;refine bG (v:=.agg #[xk,xn,xm,sV xa xl xc]) (by simp[results,results315,go_sem,b0,b1,b2,b3]) rfl ?_;exact D5
def afi{f:Nat}(ih:∀f',f' < f->qn f')(dx:f<=6000):wR (f+1):=by
 intro C w l r rows h mM hp;obtain⟨i,hi,hz,cL,dY⟩:=dN Ia;have hw:=ah h.bd;have Ax:=ah (eP h);revert dx mM hi hz cL dY;refine LX ?_;intro dx mM hi hz cL dY;simp only[o5,cF] at hp;split at hp
 .rename_i g;obtain⟨⟨x0,r0⟩,hx,h22⟩:=aw.1 hp;obtain⟨rr,hmu,h3⟩:=aw.1 h22
  cases h3;dsimp only at hmu
  cases f with
  |zero=>cases hx
  |succ F=>
  rw[oI] at hx;obtain⟨⟨x,r1⟩,iF,h2⟩:=aw.1 hx;obtain⟨⟨xs,r2⟩,ir,h3⟩:=aw.1 h2
  cases h3;dsimp only at ir hmu|-;revert h g iF ir hmu;refine nx ?_;intro h g iF ir hmu;go_enter func284,ntmps284;go_wp2_with fail;refine(dP h mM "(" g).mono ?_;rintro e w0 ⟨rfl,P0,K0⟩;revert P0 K0;refine ct ?_;intro P0 K0;go_wp2_with fail;refine(ih F (j4 F) C _ _ _ _ P0 mM iF).mono ?_;rintro e w1 ⟨⟨v,rfl,k,nm,n,kids,a,m,c,rfl,rfl,hv⟩,P1,K1⟩;have rG:w.heap.size<=w1.heap.size:=HF;obtain⟨W,hW⟩:∃W,W=w1.alloc (cO #[k,nm,n,sV a m c] 181):=⟨_,rfl⟩
  have qp:aP (λb=>w.heap.size<=b/\Value.ownBlock (sV none 0 0)≠some b) W [k,nm,n,kids] [k,nm,n,sV a m c]:=by have IN:=hv.kept (w':=W) (F:=aK) Lp (λ_ _ _ e=>e);have hs0:=K0.size;refine .cons (.int _) (.cons (.str _) (.cons (.int _) (.cons (IN.mono λb hb _=>⟨by omega,λe=>by simp[Value.ownBlock] at e⟩) .nil)))
  have nR:OwnR w.heap.size w W 181 4 (sV none 0 0) []:=⟨[],.nil,rfl,Or.inl ⟨rfl,rfl⟩⟩
  have hP:PS C W r1:=pI;have hK:Kept (ch C) w W:=Ls;have eG:∀(j:Nat) (u:YE),[Value.int .i64 k,.string (bs nm),iV n,sV a m c][j]?=some u->W.cell? ((⟨w1,0,none⟩:Addr).add j)=some u:=by rw[hW];exact eH
  have lD:w.heap.size<=W.heap.size:=by have:=hK.size;omega
  revert qp nR hP hK eG lD;refine LX ?_;intro qp nR hP hK eG lD;subst hW;go_wp2_with (at_builtin;refine bu (P:=prog) underlying179 hi hz cL dY rfl ab ab rfl (.tmp 6) (.tmp 9) rfl rfl ⟨w1,0,none⟩ 1 rfl _ _ nR lD ai rfl eG qp ?_);intro v' W' iH lE aL;have Uq:PS C W' r1:=hP.kept lE sf;have yu:Kept (ch C) w W':=hK.trans lE sj;have hrel:Hid (yw C w F ([k,nm,n,kids]::xs) r2 F v' W'):=
   ah ⟨_,xs,F,r1,iH,Uq,yu,ir.out,aM _,rfl,aM _,by have:=dx.out;simp;omega⟩
  go_wp2;go_loopg [3] F (λgg s7 wr=>yw C w F ([k,nm,n,kids]::xs) r2 gg s7 wr)
  case atStart=>exact hrel
  case round=>
   obtain⟨acc,XD,f,rc,hO,hP,lH,hm,gT,aN,de,h6⟩:=hrel;obtain⟨a7,gy,rfl⟩:=hO.form;by_cases hc:aO "," rc=true
   .have cg:=hm;unfold LA at cg;rw[aI hc] at cg
    cases f with
    |zero=>cases cg
    |succ f=>
    rw[oI] at cg;obtain⟨⟨y,r3⟩,lX,h4⟩:=aw.1 cg;obtain⟨⟨ys,r4⟩,rZ,h5⟩:=aw.1 h4
    cases h5;dsimp only at rZ;revert hP lH hO hc gT de h6 lX rZ aN;refine zQ ?_;intro hP lH hO hc gT de h6 lX rZ aN;go_wp2_with fail;refine bY (dP hP mM "," hc) λw2 P2 K2=>?_;revert P2 K2;refine ct ?_;intro P2 K2;go_wp2_with fail;refine(ih f bT C _ _ _ _ P2 mM lX).mono ?_;revert y hm cg h4 lX aN;refine FK ?_;intro w3 k' zt n' Uz a' m' c' hm cg h4 lX aN hv P3 K3 pD xD nR qp Jb jl eG lD;go_wp2_with (at_builtin;refine bu (P:=prog) underlying179 hi hz cL dY rfl ab ab rfl (.tmp 13) (.tmp 16) rfl rfl ⟨w3,0,none⟩ 1 rfl _ _ nR lD dr rfl eG qp ?_);exact EP
   .have cg:=hm;unfold LA at cg;rw[aE hc] at cg
    cases cg;simp only[gI] at hc;revert lH hO hP hc;refine jU ?_;intro lH hO hP hc;rw[gp] at aN;replace aN:=ah aN;go_wp2_with fail;refine bY (bU hP mM "," hc) λw2 P2 K2=>?_;have qY:OwnR w.heap.size w w2 181 4 (sV a7 acc.length gy) acc:=
     hO.kept K2 cC cT
    revert P2 qY;refine ct ?_;intro P2 qY;replace K2:=ah (lH.trans' K2);have jo:=ah (qY.rC (S':=λb=>w.heap.size<=b) (λ_ h _=>h) (λ_ h _=>h));have oL:=ah qY.out.lens;go_wp2_with fail;refine(dc P2 mM ")" hmu).mono ?_;rintro e w3 ⟨rfl,P3,K3⟩;have FJ:=jo.kept K3 cC;replace P3:=ah P3;replace K3:=ah (K2.trans' K3);replace FJ:=ah FJ;go_wp2;go_ret;rw[aN.out];exact⟨⟨_,_,rfl,FJ,oL⟩,P3,K3⟩
 .rename_i g
  cases hp;simp only[gI] at g;revert h g;refine ct ?_;intro h g;go_enter func284,ntmps284;go_wp2_with fail;refine(bU h mM "(" g).mono ?_;exact DN
def Ym{f:Nat}(ih:wR f){C:Ctx}{w:YC}{t:aF}{r:Zi}(n1:t.k=1){ags:Zg}{r2:Zi}(hx:o5 f r=some (ags,r2))(h:PS C w (t::r))(h5:C.x5=some (.bool false)):Calls prog 335 #[pP C] w (cd C (ex 6 t.t 0 ags) r2 w):=by refine GI ?_;intro hw Ba;have k4:((t.k:Int)==4)=false:=Ll;have k1:((t.k:Int)==1)=true:=Ll;have S0:=ah (St.start h lA);revert hx h5;refine ct ?_;intro hx h5;go_enter func335,ntmps335;go_wp2_with fail;refine bD (Ba _ S0.ps) λw1 K1=>?_;have S1:=ah (S0.no K1);have hwd:Hid (word 1 (t::r)=some (t.t,r)):=ah (by simp[word,n1]);go_wp2_with fail;refine bY (gd (k:=1) S1.ps h5 hwd) λw2 P2 K2=>?_;have S2:=ah (S1.aB P2 K2);go_wp2_with fail;refine(ih C _ _ _ _ S2.ps h5 hx).mono ?_;rintro e w3 ⟨⟨a,c,rfl,hv,hlen⟩,P3,K3⟩;have dM:=ah S2.out.lt;have S3:=S2.aB P3 K3;obtain⟨b0,b1,b2,b3,-⟩:=cc (W:=w3) (b:=w) S3.box;have f0:∀j,w3.frozen? ⟨w,j,none⟩=false:=al S3.box;revert hv S3;refine ct ?_;intro hv S3;go_wp2_with fail;refine bG (v:=.agg #[iV 6,t.t,oZ,sV a ags.length c]) fU rfl ?_;exact S3.fin hv dM 6 t.t 0
def Yn{w:YC}{r:Zi}(n4:t.k≠4)(n1:t.k≠1)(hi:aO "True" (t::r)=true)(h:PS C w (t::r))(h5:C.x5=some (.bool false)):Calls prog 335 #[pP C] w (cd C (ex 2 [] 1 []) r w):=by refine kK ?_;intro hw Ba k4 k1 S0;revert hi h5;refine ct ?_;intro hi h5;go_enter func335,ntmps335;go_wp2_with fail;refine bD (Ba _ S0.ps) λw1 K1=>?_;have S1:=ah (S0.no K1);go_wp2_with fail;refine bY (dP S1.ps h5 "True" hi) λw2 P2 K2=>?_;have S2:=ah (S1.aB P2 K2);obtain⟨b0,b1,b2,b3,-⟩:=cc (W:=w2) (b:=w) S2.out.box;have f0:∀j,w2.frozen? ⟨w,j,none⟩=false:=al S2.box;go_wp2_with fail;refine bG (v:=.agg #[iV 2,eS,iV 1,nS]) fU rfl ?_;exact S2.fin (B:=w.heap.size+1) .nil (j4 _) 2 [] 1
def Vv{w:YC}{r:Zi}(n4:t.k≠4)(n1:t.k≠1)(m0:aO "True" (t::r)=false)(hi:aO "False" (t::r)=true)(h:PS C w (t::r))(h5:C.x5=some (.bool false)):Calls prog 335 #[pP C] w (cd C (ex 2 [] 0 []) r w):=by refine kK ?_;intro hw Ba k4 k1 S0;revert m0 hi h5;refine jk ?_;intro m0 hi h5;go_enter func335,ntmps335;go_wp2_with fail;refine bD (Ba _ S0.ps) λw1 K1=>?_;have S1:=ah (S0.no K1);go_wp2_with fail;refine bY (bU S1.ps h5 "True" m0) λw2 P2 K2=>?_;have S2:=ah (S1.aB P2 K2);go_wp2_with fail;refine bY (dP S2.ps h5 "False" hi) λw3 P3 K3=>?_;have S3:=ah (S2.aB P3 K3);obtain⟨b0,b1,b2,b3,-⟩:=cc (W:=w3) (b:=w) S3.out.box;have f0:∀j,w3.frozen? ⟨w,j,none⟩=false:=al S3.box;go_wp2_with fail;refine bG (v:=.agg #[iV 2,eS,oZ,nS]) fU rfl ?_;exact CM
def Yo{w:YC}{r:Zi}(n4:t.k≠4)(n1:t.k≠1)(m0:aO "True" (t::r)=false)(m1:aO "False" (t::r)=false)(hi:aO "Void" (t::r)=true)(h:PS C w (t::r))(h5:C.x5=some (.bool false)):Calls prog 335 #[pP C] w (cd C (ex 3 [] 0 []) r w):=by refine kK ?_;intro hw Ba k4 k1 S0;revert m0 m1 hi h5;refine jU ?_;intro m0 m1 hi h5;refine FY ?_;intro w1 K1 S1 w2 P2 K2 S2 w3 P3 K3 S3 bC bX cU dz fZ iI;refine bY (dP S3.ps h5 "Void" hi) λw4 P4 K4=>?_;have S4:=ah (S3.aB P4 K4);obtain⟨b0,b1,b2,b3,-⟩:=cc (W:=w4) (b:=w) S4.out.box;have f0:∀j,w4.frozen? ⟨w,j,none⟩=false:=al S4.box;go_wp2_with fail;refine bG (v:=.agg #[iV 3,eS,oZ,nS]) fU rfl ?_;exact S4.fin (B:=w.heap.size+1) .nil (j4 _) 3 [] 0
def Qc{w:YC}{r:Zi}(n4:t.k≠4)(n1:t.k≠1)(m0:aO "True" (t::r)=false)(m1:aO "False" (t::r)=false)(m2:aO "Void" (t::r)=false)(hi:aO "Current" (t::r)=true)(h:PS C w (t::r))(h5:C.x5=some (.bool false)):Calls prog 335 #[pP C] w (cd C (ex 4 [] 0 []) r w):=by refine kK ?_;intro hw Ba k4 k1 S0;revert m0 m1 m2 hi h5;refine nx ?_;intro m0 m1 m2 hi h5;refine FY ?_;intro w1 K1 S1 w2 P2 K2 S2 w3 P3 K3 S3 bC bX cU dz fZ iI;refine bY (bU S3.ps h5 "Void" m2) λw4 P4 K4=>?_;have S4:=ah (S3.aB P4 K4);go_wp2_with fail;refine bY (dP S4.ps h5 "Current" hi) λw5 P5 K5=>?_;have S5:=ah (S4.aB P5 K5);obtain⟨b0,b1,b2,b3,-⟩:=cc (W:=w5) (b:=w) S5.out.box;have f0:∀j,w5.frozen? ⟨w,j,none⟩=false:=al S5.box;go_wp2_with fail;refine bG (v:=.agg #[iV 4,eS,oZ,nS]) fU rfl ?_;exact S5.fin (B:=w.heap.size+1) .nil (j4 _) 4 [] 0
def Tk{w:YC}{r:Zi}(n4:t.k≠4)(n1:t.k≠1)(m0:aO "True" (t::r)=false)(m1:aO "False" (t::r)=false)(m2:aO "Void" (t::r)=false)(m3:aO "Current" (t::r)=false)(hi:aO "Result" (t::r)=true)(h:PS C w (t::r))(h5:C.x5=some (.bool false)):Calls prog 335 #[pP C] w (cd C (ex 5 [] 0 []) r w):=by refine kK ?_;intro hw Ba k4 k1 S0;revert m0 m1 m2 m3 hi h5;refine LX ?_;intro m0 m1 m2 m3 hi h5;refine FE ?_;intro w1 K1 S1 w2 P2 K2 S2 w3 P3 K3 S3 w4 P4 K4 S4 w5 P5 K5 S5 bC bX cU dz fZ iI;refine bY (dP S5.ps h5 "Result" hi) λw6 P6 K6=>?_;have S6:=ah (S5.aB P6 K6);obtain⟨b0,b1,b2,b3,-⟩:=cc (W:=w6) (b:=w) S6.out.box;have f0:∀j,w6.frozen? ⟨w,j,none⟩=false:=al S6.box;go_wp2_with fail;refine bG (v:=.agg #[iV 5,eS,oZ,nS]) fU rfl ?_;exact S6.fin (B:=w.heap.size+1) .nil (j4 _) 5 [] 0
def ab2{f:Nat}(ih:qn f){C:Ctx}{w:YC}{t:aF}{r:Zi}(n4:t.k≠4)(n1:t.k≠1)(m0:aO "True" (t::r)=false)(m1:aO "False" (t::r)=false)(m2:aO "Void" (t::r)=false)(m3:aO "Current" (t::r)=false)(m4:aO "Result" (t::r)=false)(hi:aO "(" (t::r)=true) {x:Row} {r1 r2:Zi} (hx:cj f 0 r=some (x,r1)) (xA:cK ")" r1=some r2)(h:PS C w (t::r))(h5:C.x5=some (.bool false)):Calls prog 335 #[pP C] w (cd C x r2 w):=by refine kK ?_;intro hw Ba k4 k1 S0;revert m0 m1 m2 m3 m4 hi hx xA h5;refine hd9 ?_;intro m0 m1 m2 m3 m4 hi hx xA h5;refine FE ?_;intro w1 K1 S1 w2 P2 K2 S2 w3 P3 K3 S3 w4 P4 K4 S4 w5 P5 K5 S5 bC bX cU dz fZ iI;refine bY (bU S5.ps h5 "Result" m4) λw6 P6 K6=>?_;have S6:=ah (S5.aB P6 K6);go_wp2_with fail;refine(dP S6.ps h5 "(" hi).mono ?_;rintro e w7 ⟨rfl,P7,K7⟩;have S7:=ah (S6.aB P7 K7);go_wp2_with fail;refine(ih C _ _ _ _ S7.ps h5 hx).mono ?_;rintro e wa ⟨⟨v,rfl,ky,ny,my,rX,ay,ly,cy,rfl,rfl,qZ⟩,P4,K4⟩;have hly:=ah S7.out.lt;have eo:=ah S7.out.pw;have I6:=(S7.aB P4 K4).lt;have SA:=(S7.aB P4 K4).alloc (cO #[ky,ny,my,sV ay ly cy] 181);revert qZ I6 SA;refine N2 ?_;intro tH SA h9 qZ I6;go_wp2_with fail;refine(dc SA.ps h5 ")" xA).mono ?_;rintro e wb ⟨rfl,P5,K5⟩;have SB:=SA.aB P5 K5;have IL:=cu h9 K5 pc;have Rx:=qZ.kept K5 fT;obtain⟨b0,b1,b2,b3,-⟩:=cc (W:=wb) (b:=w) SB.box;have f0:∀j,wb.frozen? ⟨w,j,none⟩=false:=al SB.box;obtain⟨sN,sO,tF,tG,-⟩:=cc (W:=wb) (b:=wa) IL;have sP:∀j,wb.frozen? ⟨wa,j,none⟩=false:=al IL;replace qZ:=ah Rx;replace SB:=ah SB;go_wp2_with fail;refine bG (v:=.agg #[ky,ny,my,sV ay ly cy]) fU rfl ?_;exact SB.fin qZ hly ky ny my
def ab3{f:Nat}(ih:zN f){C:Ctx}{w:YC}{t:aF}{r:Zi}(n4:t.k≠4)(n1:t.k≠1)(m0:aO "True" (t::r)=false)(m1:aO "False" (t::r)=false)(m2:aO "Void" (t::r)=false)(m3:aO "Current" (t::r)=false)(m4:aO "Result" (t::r)=false)(m5:aO "(" (t::r)=false) (hi:aO "attached" (t::r)=true) {x y:Row} {r1 r2 r3 r4:Zi} {nm:Yz} (hx:fF f r=some (x,r1)) (hy:xj f x r1=some (y,r2)) (xA:cK "as" r2=some r3) (hnw:word 1 r3=some (nm,r4)) (h:PS C w (t::r)) (h5:C.x5=some (.bool false)):Calls prog 335 #[pP C] w (cd C (ex 10 nm 0 [y]) r4 w):=by
 refine GI ?_;intro hw Ba;have k4:((t.k:Int)==4)=false:=vD;have k1:((t.k:Int)==1)=false:=Gl;have hma:cK "attached" (t::r)=some r:=by unfold cK;rw[if_pos hi];rfl
 have S0:=ah (St.start h lA);revert m0 m1 m2 m3 m4 m5 hx hy xA hnw h5 hma;refine amN ?_;intro m0 m1 m2 m3 m4 m5 hx hy xA hnw h5 hma;clear h;go_enter func335,ntmps335;go_wp2_with fail;refine bD (Ba _ S0.ps) λw1 K1=>?_;have S1:=ah (S0.no K1);clear Ba;go_wp2_with fail;refine bY (bU S1.ps h5 "True" m0) λw2 P2 K2=>?_;have S2:=ah (S1.aB P2 K2);go_wp2_with fail;refine bY (bU S2.ps h5 "False" m1) λw3 P3 K3=>?_;have S3:=ah (S2.aB P3 K3);go_wp2_with fail;refine bY (bU S3.ps h5 "Void" m2) λw4 P4 K4=>?_;have S4:=ah (S3.aB P4 K4);go_wp2_with fail;refine bY (bU S4.ps h5 "Current" m3) λw5 P5 K5=>?_;have S5:=ah (S4.aB P5 K5);go_wp2_with fail;refine bY (bU S5.ps h5 "Result" m4) λw6 P6 K6=>?_;have S6:=ah (S5.aB P6 K6);go_wp2_with fail;refine(bU S6.ps h5 "(" m5).mono ?_;rintro e w7 ⟨rfl,P7,K7⟩;have S7:=ah (S6.aB P7 K7);go_wp2_with fail;refine bY (dc S7.ps h5 "attached" hma) λwz P3 K3=>?_;have SZ:=S7.aB P3 K3;have c5:=SZ.ps.c5 _ h5;replace SZ:=ah SZ;go_wp2_with fail;refine(ih C _ _ _ _ _ _ SZ.ps h5 hx hy).mono ?_;rintro e wa ⟨⟨v,rfl,ky,ny,my,rX,ay,ly,cy,rfl,rfl,qZ⟩,P4,K4⟩;have hly:=ah SZ.out.lt;have eo:=ah SZ.out.pw;have I6:=(SZ.aB P4 K4).lt;have SA:=(SZ.aB P4 K4).alloc (cO #[ky,ny,my,sV ay ly cy] 181);revert qZ I6 SA;refine N2 ?_;intro tH SA h9 qZ I6;clear SZ tH c5;go_wp2_with fail;refine bY (dc SA.ps h5 "as" xA) λwb P5 K5=>?_;have SB:=SA.aB P5 K5;obtain⟨g9,hg9⟩:∃g9,g9=wa.heap.size:=⟨_,rfl⟩
 have Rw:g9≠C.p:=pc;have IL:=cu h9 K5 Cd;rw[<-hg9] at IL;have Rx:=qZ.kept K5 fT;replace qZ:=ah Rx;have hlb:=ah SB.lt;replace SB:=ah SB;replace h9:=ah IL;replace Rw:=ah Rw;clear SA IL Rx;revert hg9;refine Ce ?_;intro bC bX FF ak;refine rT2 1 3 (λK hK=>?_) λK hK=>?_
 .go_simp;have h3a:(wb.alloc (.cells #[ky,ny,my,.slice ay ly cy] 181)).drew.heap[wb.heap.size]?=some (.cells #[ky,ny,my,.slice ay ly cy] 181):=(show(wb.alloc (.cells #[ky,ny,my,.slice ay ly cy] 181)).heap[wb.heap.size]?=some (.cells #[ky,ny,my,.slice ay ly cy] 181) by rw[heap_alloc,aI rfl])
  refine hK _ _ (aD ak) (λak=>?_);clear hK K;refine sp ?_;refine rdT 3 λK hK=>?_;go_simp;refine bY (gd (k:=1) ((SB.alloc (cO #[ky,ny,my,sV ay ly cy] 181)).drew).ps h5 hnw) λwB P6 K6=>?_;dsimp only;have S6:=((SB.alloc (cO #[ky,ny,my,sV ay ly cy] 181)).drew).aB P6 K6;have hy6:=qZ.kept (w':=wB) (F:=ch C) (((Kept.refl _ wb).alloc _).drew.trans' K6) fT;have h3b:=cu h3a K6 (by have:=hlb.out;have:=eo.out;omega);revert K hK;refine Ch ?_;intro b0 b1 b2 b3 f0 ak;refine bG (v:=.agg #[iV 10,nm,oZ,sV wb 1 1]) fU rfl ?_;exact S6.akf hy6 hly 10 nm h3b hlb
 .go_simp;refine bY (gd (k:=1) (SB.drew).ps h5 hnw) λwB P6 K6=>?_;dsimp only;have S6:=(SB.drew).aB P6 K6;have hy6:=qZ.kept (w':=wB) (F:=ch C) ((Kept.refl _ wb).drew.trans' K6) fT;refine hK _ _ (cu ak K6 Rw) (λak=>?_);clear hK K;refine sp ?_;refine rdT 1 λK hK=>?_;revert K hK;refine Cf ?_;intro S7 b0 b1 b2 b3 f0 ak;refine bG (v:=.agg #[iV 10,nm,oZ,sV wB 1 1]) fU rfl ?_;exact Cg
def ab4(W:YC)(bx:Nat)(x y:YE):Kept (λb=>b=bx) W ((W.setCell ⟨bx,0,none⟩ x).setCell ⟨bx,1,none⟩ y):=((Kept.refl (λb=>b=bx) W).setCell (p:=⟨bx,0,none⟩) (λ_=>(rfl:bx=bx)) x).setCell (p:=⟨bx,1,none⟩) (λ_=>(rfl:bx=bx)) y
def ain{w:YC}{o:Obj}(h:St C w l o W){bx:Nat}(hb:w.heap.size < bx)(x y:YE):St C w l o ((W.setCell ⟨bx,0,none⟩ x).setCell ⟨bx,1,none⟩ y):=h.step (ab4 W bx x y) λk e _=>by omega
def ab5{a b:YE}{T:UB}(h:W.heap[bx]?=some (.cells #[a,b] T (0,0)))(x y:YE):((W.setCell ⟨bx,0,none⟩ x).setCell ⟨bx,1,none⟩ y).heap[bx]?=some (.cells #[x,y] T (0,0)):=by have h1:=heap_setCell_same W bx 0 x h;exact heap_setCell_same _ bx 1 y h1
def ab6{w:YC}{r:Zi}(n4:t.k=4)(h:PS C w (t::r))(h5:C.x5=some (.bool false)):Calls prog 335 #[pP C] w (cd C (ex 1 [] (num t.t) []) r w):=by
 have hw:=ah h.bd;have eF:=h.shp;have dQ:=mP h;change bW t.t at dQ;have yZ:=ah (λw=>QY t.t dQ (by rw[eF,n4]) w);have Ba:=ah (λw (h:PS C w (t::r))=>(show Calls prog 106 #[pP C] w λe w'=>e=.returned (iV (t.k:Nat))/\Kept aK w w' from gA h h5));have k4:((t.k:Int)==4)=true:=vD;have S0:=ah (St.start h lA);replace h5:=ah h5;clear h;go_enter func335,ntmps335;go_wp2_with fail;refine bD (Ba _ S0.ps) λw1 K1=>?_;have S1:=ah (S0.no K1);clear Ba;obtain⟨cap,c0⟩:=S1.out.ps.c0t;obtain⟨n,a,b,e1,c1,bQ,bL,q1,q2,q3,q4⟩:=S1.out.ps.tok (k:=0) rfl;have hlen:=S1.ps.len;simp only[fS] at bQ q1 q2 q3 q4;refine vO ?_;intro ph nz;have iC:=ah S1.out.lt;clear eF dQ bL;go_wp2_with fail;refine wpLive 13 (λV=>St C w (t::r) lA V/\Kept aK w1 V) (λV s=>And.intro (s.2.aq c0 (λe=>e)) (And.intro (s.2.aq c1 (λe=>e)) (s.2.aq q2 (λe=>e)))) ?_ λFF ak=>?_
 .exact⟨S1.drew,(Kept.refl aK w1).drew⟩
 refine F3 ?_;refine rT2 11 12 (λK hK=>?_) λK hK=>?_
 .go_simp;refine bD (yZ _) λwA KA=>?_;dsimp only;refine hK _ _ ⟨ak.1.no KA,ak.2.trans' KA⟩ (λak=>?_);clear hK K;refine sp ?_;refine rdT 12 λK hK=>?_;go_simp;have jH:=ak;refine hK _ _ ⟨ak.1.alloc _,ak.2.alloc _⟩ (λak=>?_);clear hK K;refine sp ?_;refine ddT 13 λK hK=>?_;go_simp;refine hK _ _ ?_;clear hK K;refine sp ?_;refine dnT ?_;obtain⟨g3,Bk⟩:∃g3,g3=wA.heap.size:=⟨_,rfl⟩
  have hgw:w.heap.size < g3:=by rw[Bk];exact jH.1.lt
  refine dh (λV=>St C w (t::r) lA V/\V.heap[g3]?=some (.cells #[(num t.t),oZ] 242 (0,0))) ⟨jH.1.alloc _,by rw[Bk];exact ao⟩ ?_;rw[<-Bk];clear ak KA Bk jH;exact CU
 .go_simp;have lL:(w1.alloc (.cells #[oZ,oZ] 242)).drew.heap[w1.heap.size]?=some (.cells #[oZ,oZ] 242):=(show(w1.alloc (.cells #[oZ,oZ] 242)).heap[w1.heap.size]?=some (.cells #[oZ,oZ] 242) by rw[heap_alloc,aI rfl])
  refine hK _ _ ⟨ak.1.alloc _,ak.2.alloc _⟩ (λak=>?_);clear hK K;refine sp ?_;refine rdT 11 λK hK=>?_;go_simp;refine bD (yZ _) λwA KA=>?_;dsimp only;have hbA:=aJ lL KA;obtain⟨sN,sO,-⟩:=cc (W:=wA) (b:=w1) hbA;have sP:∀j,wA.frozen? ⟨w1,j,none⟩=false:=al hbA;refine hK _ _ ⟨ak.1.no KA,ak.2.trans' KA⟩ (λak=>?_);clear hK K;refine sp ?_;refine ddT 13 λK hK=>?_;go_simp;refine hK _ _ ?_;clear hK K;refine sp ?_;refine dnT ?_;obtain⟨g3,Bk⟩:∃g3,g3=w1.heap.size:=⟨_,rfl⟩
  have hgw:w.heap.size < g3:=by rw[Bk];exact iC
  refine dh (λV=>St C w (t::r) lA V/\V.heap[g3]?=some (.cells #[(num t.t),oZ] 242 (0,0))) ⟨ain ak.1 iC _ _,by rw[Bk];exact(ab5 hbA _ _)⟩ ?_;rw[<-Bk];clear ak KA Bk hbA lL sN sO sP;exact CU
def afj{f:Nat}(iha:wR f)(ihc:zN f)(xf:qn f):Tj (f+1):=by
 intro C w l r row h h5 hp;simp only[fF,cF] at hp
 cases l with
 |nil=>cases hp
 |cons t l=>
 simp only at hp;split at hp
 .rename_i g;cases hp;exact ab6 dR h h5
 rename_i g4;have n4:t.k≠4:=by simpa using g4
 split at hp
 .rename_i g;obtain⟨⟨x,r1⟩,hx,h2⟩:=aw.1 hp
  cases h2;exact Ym iha dR hx h h5
 rename_i g1;have n1:t.k≠1:=wH;split at hp
 .rename_i g;cases hp;exact Yn n4 n1 g h h5
 rename_i g;have m0:aO "True" (t::l)=false:=dR;split at hp
 .rename_i g;cases hp;exact Vv n4 n1 m0 g h h5
 rename_i g;have m1:aO "False" (t::l)=false:=dR;split at hp
 .rename_i g;cases hp;exact Yo n4 n1 m0 m1 g h h5
 rename_i g;have m2:aO "Void" (t::l)=false:=dR;split at hp
 .rename_i g;cases hp;exact Qc n4 n1 m0 m1 m2 g h h5
 rename_i g;have m3:aO "Current" (t::l)=false:=dR;split at hp
 .rename_i g;cases hp;exact Tk n4 n1 m0 m1 m2 m3 g h h5
 rename_i g;have m4:aO "Result" (t::l)=false:=dR;split at hp
 .rename_i g;obtain⟨⟨x,r1⟩,hx,h2⟩:=aw.1 hp;obtain⟨r2,hm,h3⟩:=aw.1 h2
  cases h3;exact ab2 xf n4 n1 m0 m1 m2 m3 m4 g hx hm h h5
 rename_i g;have m5:aO "(" (t::l)=false:=dR;split at hp
 .rename_i g;obtain⟨⟨x,r1⟩,hx,h2⟩:=aw.1 hp;obtain⟨⟨y,r2⟩,hy,h3⟩:=aw.1 h2;obtain⟨r3,hm,h4⟩:=aw.1 h3;obtain⟨⟨nm,r4⟩,hn,h5'⟩:=aw.1 h4
  cases h5';exact ab3 ihc n4 n1 m0 m1 m2 m3 m4 m5 g hx hy hm hn h h5
 cases hp
def alC(F:Nat):Prop:=te F/\oJ F/\zN F/\Tj F/\wR F/\qn F
def aaC:∀F:Nat,F<=6000->∀f,f<=F->alC f:=by
 intro F;induction F with
 |zero=>
  intro _ f hf;have:f=0:=ab;subst this;exact⟨λC w n l r row h1 h6 h h5 hp=>by simp[cj] at hp,λC w l r row h h5 hp=>by simp[jK] at hp,λC w l r r1 row x h h5 hp=>by simp[fF] at hp,λC w l r row h h5 hp=>by simp[fF] at hp,
   λC w l r rows h h5 hp=>by simp[o5] at hp,λC w l r row h h5 hp=>by simp[cj] at hp⟩
 |succ F ih=>refine vC ?_;intro hF IH hf he;obtain⟨i1,i2,i3,i4,i5,i6⟩:=IH F (aM F);have a:=afi (f:=F) (λf' hf'=>(IH f' ab).2.2.2.2.2) ab;have p:=afj i5 i3 i6;exact⟨ab0 (λf' hf'=>(IH f' ab).1) i2,ab1 i2 i3,afh (λf' hf'=>(IH f' ab).2.2.2.2.1) p hF QN,p,a,aff i1 (λf' hf'=>(IH f' ab).2.2.2.2.2)⟩
def Vw{F:Nat}{one:Nat->List aF->Option (List Nat×List aF)}(ho:∀(f:Nat),f < F->∀(w:YC) (l r:Zi) (x:Yz),PS C w l->one f l=some (x,r)->Calls prog 113 #[pP C,iV 1] w (λe w'=>e=.returned (.string (bs x))/\PS C w' r/\Kept (ch C) w w')){w:YC}{l r:Zi}{rows:Y9}(mM:C.x5=some (.bool false))(hx:nj "," one F l=some (rows,r))(h:PS C w l)(dx:F<=6000):Calls prog 112 #[pP C] w (fR C 1 (rows.map zT) r w):=by
 obtain⟨i,hi,hz,cL,dY⟩:=dN QO
 cases F with
 |zero=>cases hx
 |succ F=>
 rw[fA] at hx;obtain⟨⟨x,r1⟩,iF,h2⟩:=aw.1 hx;obtain⟨⟨xs,r2⟩,ir,h3⟩:=aw.1 h2
 cases h3;dsimp only at ir;have hw:=ah h.bd;have Ax:=ah (eP h);revert mM h hi hz cL dY dx iF ir;refine hd9 ?_;intro mM h hi hz cL dY dx iF ir;go_enter func112,ntmps112;go_wp2_with fail;refine bY (ho F (j4 F) _ _ _ _ h iF) λw1 P1 K1=>?_;have rG:=K1.size;obtain⟨W,hW⟩:∃W,W=w1.alloc (cO #[x] 9):=⟨_,rfl⟩
 have hO:OwnR w.heap.size w W 9 1 (sV w1 1 1) [[x]]:=by exact Dx
 refine oB ?_;intro hP hK;revert hW;refine Gv ?_;intro hrel bC bX hW;go_loopg [3] F (λgg s7 wr=>EO "," one C w F ([x]::xs.map zT) r2 gg s7 wr)
 case atStart=>exact hrel
 case round=>
  obtain⟨acc,XD,f,rc,hO,hP,lH,hm,gT,aN,de,h6⟩:=hrel;obtain⟨a7,gy,rfl⟩:=hO.form;by_cases hc:aO "," rc=true
  .have cg:=hm;unfold jL at cg;rw[aI hc] at cg
   cases f with
   |zero=>cases cg
   |succ f=>
   revert cg;refine iX ?_;intro cg y r3 lX h4;obtain⟨⟨ys,r4⟩,rZ,h5⟩:=aw.1 h4
   cases h5;dsimp only at rZ;revert hP lH hO hc gT de h6 lX rZ aN;refine zQ ?_;intro hP lH hO hc gT de h6 lX rZ aN;go_wp2_with fail;refine bY (dP hP mM "," hc) λw2 P2 K2=>?_;revert P2 K2;refine ct ?_;intro P2 K2;go_wp2_with fail;refine bY (ho f bT _ _ _ _ P2 lX) λw3 P3 K3=>?_;obtain⟨V,hV⟩:∃V,V=w3.alloc (cO #[y] 9):=⟨_,rfl⟩
   have jl:Kept (ch C) wr V:=mg;have pD:=K2.size;have xD:=lH.size;have nR:OwnR w.heap.size w V 9 1 (sV a7 acc.length gy) acc:=
    hO.kept jl cC cT
   have qp:aP (λb=>w.heap.size<=b/\Value.ownBlock (sV a7 acc.length gy)≠some b) V [y] [y]:=by exact Em
   have Jb:PS C V r3:=nK;have eG:∀(j:Nat) (u:YE),([y]:YT)[j]?=some u->V.cell? ((⟨w3,0,none⟩:Addr).add j)=some u:=kF;have lD:w.heap.size<=V.heap.size:=kG;revert nR qp Jb;refine jk ?_;intro nR qp Jb;replace jl:=ah (lH.trans' jl);revert eG lD;refine ct ?_;intro eG lD;subst hV;go_wp2_with (at_builtin;refine bu (P:=prog) underlying22 hi hz cL dY rfl ab ab rfl (.tmp 9) (.tmp 12) rfl rfl ⟨w3,0,none⟩ 1 rfl _ _ nR lD dr rfl eG qp ?_);exact EM
  .have cg:=hm;unfold jL at cg;rw[aE hc] at cg
   cases cg;simp only[gI] at hc;revert lH hO hP hc;refine jU ?_;intro lH hO hP hc;rw[xK,gp] at aN;replace aN:=ah aN;go_wp2_with fail;refine bY (bU hP mM "," hc) λw2 P2 K2=>?_;exact CX
def Q1{F:Nat}{w:YC}{r:Zi}{rows:Y9}(hx:fB 1 F l=some (rows,r))(h:PS C w l)(h5:C.x5=some (.bool false))(dx:F<=6000):Calls prog 112 #[pP C] w (fR C 1 (strs rows) r w):=by rw[Bt] at hx;rw[<-Oj];exact Vw (λf _ w l r x h hx=>gd (k:=1) h h5 hx) h5 hx h dx
def Bh{w:YC}{fs:Y9}{v:YE}(h:an S w (.sl (strs fs)) v)(fx:∀s∈fs,bW s)(s:Yz)(hs:bW s):Calls prog 252 #[v,.string (bs s)] w λe w'=>e=.returned (.bool (fs.contains s))/\w'=w:=by revert v h;change ∀v,_;refine F8 ?_;intro a cap eG B hB lC gF h;go_enter func252,ntmps252;exact CT
def Iu{w:YC}{r:Zi}(h:PS C w l)(h5:C.x5=some (.bool false))(ht:target l=some (s,r)):Calls prog 283 #[pP C] w λe w'=>e=.returned (.string (bs s))/\PS C w' r/\Kept (ch C) w w':=by
 unfold target at ht;split at ht
 .rename_i g
  cases ht;revert h h5 g;refine jk ?_;intro h h5 g;go_enter func283,ntmps283;go_wp2_with fail;refine bY (dP h h5 "Result" g) λw1 P1 K1=>?_;exact El
 .rename_i g;simp only[gI] at g;revert h h5 ht g;refine jU ?_;intro h h5 ht g;go_enter func283,ntmps283;go_wp2_with fail;refine bY (bU h h5 "Result" g) λw1 P1 K1=>?_;revert P1 K1;refine ct ?_;intro P1 K1;go_wp2_with fail;refine bY (gd (k:=1) P1 h5 ht) λw2 P2 K2=>?_;replace P2:=ah P2;replace K2:=ah (K1.trans' K2);go_wp2_with fail;go_ret;exact⟨rfl,P2,K2⟩
def Jv:List (List Nat):=[tx "Result",tx "create",tx "if",tx "from",tx "check",tx "separate",tx "retry",tx "raise",tx "put",tx "True",tx "False",tx "Void",tx "Current",tx "(",tx "attached",tx "-",tx "not",tx "old"]
def Vx:Array Value:=#[.string kf,.string nH,.string MH,.string tw,.string qw,.string jZ,.string qx,.string qy,.string AW,.string rv,.string nZ,.string ry,.string jX,.string ⟨#[40]⟩,.string jY,.string ⟨#[45]⟩,.string tq,.string AV]
def afk:Vx.toList=(Jv.map λs=>[.string (bs s)]).flatten:=by rfl
def aio:∀s∈Jv,bW s:=λs hs=>aV (dV.1 (show(Jv.all λs=>s.all λc=>decide (c < 256))=true from by decide) s hs)
def afl(l:Zi):il l=(dv l==1||dv l==4||Jv.any (aO · l)):=by
 unfold il Jv;congr 1
 simp only[JF,Ub,wX]
 ac_rfl
def alD(W:YC)(l:Zi)(gg:Nat)(s5:YE)(wr:YC):Prop:=∃k:Nat,s5=iV k/\k+gg=18/\Kept aK W wr/\(Jv.take k).any (aO · l)=false
def ab7(w:YC):an (λ_=>True) (w.alloc (cO Vx 9)) (.sl (strs Jv)) (sV w 18 18):=by
 refine aW (E:=9) (fr:=(0,0)) (wd:=1) (css:=Jv.map λs=>[.string (bs s)]) (arr:=Vx) ao afk ?_ bw (aM _) (by simp[maxLen,Jv,strs]);unfold strs;generalize Jv=L;induction L with
 |nil=>exact .nil
 |cons a L ih=>exact .cons ⟨rfl,.cons (.str _) .nil⟩ ih
def Yp{w:YC}(h:PS C w l)(h5:C.x5=some (.bool false)):Calls prog 253 #[pP C] w λe w'=>e=.returned (.bool (il l))/\Kept aK w w':=by
 have Ba:=ah (gA h h5);have jq:=afl l;obtain⟨K,hK⟩:∃K:Nat,K=dv l:=⟨_,rfl⟩
 rw[<-hK] at jq Ba;obtain⟨B,hB⟩:∃B,B=il l:=⟨_,rfl⟩
 rw[<-hB] at jq|-;clear hB hK;revert h h5;refine ct ?_;intro h h5;by_cases i1:K=1
 .subst i1;exact J1
 have k1:((K:Int)==1)=false:=cX;by_cases i4:K=4
 .subst i4;exact J1
 have k4:((K:Int)==4)=false:=cX;have aip:B=Jv.any (aO · l):=by rw[jq,show(K==1)=false by rw[gH];omega,show(K==4)=false by rw[gH];omega];rfl
 clear jq;replace aip:=ah aip;have i1':¬(K:Int)=1:=ab;have i4':¬(K:Int)=4:=ab;go_enter func253,ntmps253;go_wp2_with fail;refine Ba.mono ?_;rintro e w1 ⟨rfl,K1⟩;obtain⟨W,hW⟩:∃W,W=w1.alloc (cO Vx 9):=⟨_,rfl⟩
 have hc:=ab7 w1;rw[<-hW] at hc;have dZ:Kept aK w W:=by rw[hW];exact K1.trans' ((Kept.refl _ w1).alloc _)
 have BM:=ah (h.kept dZ (λ_ e=>e.elim));replace dZ:=ah dZ;unfold Vx at hW;replace hc:=ah hc;obtain⟨g0,hg0⟩:∃g,g=w1.heap.size:=⟨_,rfl⟩
 rw[<-hg0] at hc;clear K1 Ba h;go_wp2_with fail;rw[<-hW,<-hg0];revert hW hg0;refine ct ?_;intro hW hg0;go_loopg [5] 18 (λgg s5 wr=>alD W l gg s5 wr)
 case atStart=>exact⟨0,rfl,by omega,Kept.refl _ _,rfl⟩
 case round=>
  obtain⟨k,rfl,hkg,hKr,eK⟩:=hrel;by_cases hk:k < 18
  .have h1:(k:Int) < 18:=by omega
   have h2:(0:Int)<=(k:Int):=ab;obtain⟨x,hx⟩:∃x,Jv[k]?=some x:=⟨_,ck (show k < Jv.length from hk)⟩
   obtain⟨g,off,hgo,-,cs,hR,fY⟩:=(hc.out.kept hKr (λb _ _ e=>e)).elem (k:=k) (row:=[.str x]) pf
   cases hgo;obtain⟨c0,Ap,rfl,v0,hr⟩:=hR.aG
   cases v0.bq;have q0:wr.cell? ⟨g0,k,none⟩=(some (.string (bs x)):Option Value):=kg;have hPr:=ah (BM.kept hKr (λ_ e=>e.elim));have hxo:=ah (aio x (cm hx));revert hKr eK hx;refine jk ?_;intro hKr eK hx;clear fY hR hr v0;go_wp2_with fail;refine(Bi hPr h5 x hxo).mono ?_;rintro e w3 ⟨rfl,K3⟩;replace K3:=ah (hKr.trans' K3)
   cases hb:aO x l
   .go_wp2_with fail;go_roundg (gk - 1)
    case measure=>omega
    case rel=>exact⟨k+1,rfl,by omega,K3,by
     rw[Ad,hx.out];have h0:=eK.out;simp only[List.any_append,Qq,JF,Ub,wX,Qr];exact⟨h0,hb⟩⟩
   .have hr:B=true:=by rw[aip.out,List.any_eq_true];exact⟨x,cm hx,hb⟩
    replace hr:=ah hr;go_wp2_with fail;go_ret;exact⟨by rw[hr.out];rfl,dZ.trans' K3⟩
  .have Am:k=18:=by omega
   have h1:¬(k:Int) < 18:=ab;have hr:B=false:=by rw[aip.out];rw[Am] at eK;exact eK
   revert hKr hr;refine ct ?_;intro hKr hr;clear eK;go_wp2_with fail;go_ret;exact⟨by rw[hr.out];rfl,dZ.trans' hKr⟩
def rQ{F:Nat}(dx:F<=6000){C:Ctx}{w:YC}{l r:Zi}{rows:Zg}(h:PS C w l)(h5:C.x5=some (.bool false))(hp:cI F l=some (rows,r)):Calls prog 115 #[pP C] w (fR C 5 rows r w):=by
 obtain⟨i,hi,hz,cL,dY⟩:=dN Z2;have hrel:Hid (Np C w F rows r F (sV none 0 0) w):=ah ⟨[],rows,F,l,OwnR.nil,Sg.start h,hp,aM _,rfl,aM _,by simp;omega⟩;revert hi hz cL dY;refine jU ?_;intro hi hz cL dY;have eo:=ah (eP h);replace h5:=ah h5;go_enter func115,ntmps115;go_wp2_with fail;go_loopg [3] F (λgg s3 wr=>Np C w F rows r gg s3 wr)
 case atStart=>exact hrel
 case round=>
  obtain⟨acc,xs,f,rc,hO,SS,hm,gT,aN,de,h6⟩:=hrel;obtain⟨a7,gy,rfl⟩:=hO.form
  cases f with
  |zero=>cases hm
  |succ f=>
  simp only[cI,cF] at hm;have xe:((dv rc:Int)==1)=(dv rc==1):=br;by_cases hc:(dv rc==1)=true
  .rw[aI hc] at hm;rw[hc] at xe;obtain⟨⟨nm,r1⟩,hn,cg⟩:=aw.1 hm;obtain⟨r2,Sp,fy⟩:=aw.1 cg;obtain⟨⟨x,r3⟩,hx,Xs⟩:=aw.1 fy;obtain⟨r4,xA,WK⟩:=aw.1 Xs;obtain⟨⟨ys,r5⟩,hy,hm6⟩:=aw.1 WK
   cases hm6;dsimp only at Sp hx xA hy;revert SS hO gT de h6 hn Sp hx xA hy aN;refine ahi ?_;intro SS hO gT de h6 hn Sp hx xA hy aN;go_wp2_with fail;refine bD (gA SS.ps h5) λw1 K1=>?_;have S1:=ah (SS.no K1);replace K1:=aK.to (F:=ch C) K1;replace K1:=ah K1;go_wp2_with fail;refine bY (gd (k:=1) S1.ps h5 hn) λw2 P2 K2=>?_;revert K2;refine F5 ?_;intro K2' hlw S2 h4 K2 oL bC bX cU dz;refine bY (dc S2.ps h5 ":" Sp) λw3 P3 K3=>?_;have S3:=S2.aB P3 K3;have UC:=cu h4 K3 iT;have ij:=ah (aQ.1 UC).1;replace h4:=ah UC;replace S3:=ah S3;replace K3:=ah (K2.trans' K3);go_wp2_with fail;refine((aaC 6000 (aM _) f bT).2.2.2.2.2 C _ _ _ _ S3.ps h5 hx).mono ?_;revert x hm cg fy Xs WK hx aN h4;refine FH ?_;intro w4 ek en em kids ea el ec hm cg fy Xs WK hx aN P4 S4 h44 b0 b1 b2 b3 b4 f0 h4 ZH K5 S5 hv K4 I6 k4 bC bX cU dz;refine bY (dc S5.ps h5 ";" xA) λw5 P5 K5=>?_;refine KH ?_;intro S6 h45 hv6 KT auG b0 b1 b2 b3 b4 f0 kV Ah hR TU eG lD;go_wp2_with (at_builtin;refine bu (P:=prog) underlying81 hi hz cL dY rfl ab ab rfl (.tmp 18) (.tmp 20) rfl rfl ⟨w5,0,none⟩ 1 rfl _ _ Ah lD dr rfl eG hR ?_);exact ES
  .rw[aE hc] at hm
   cases hm;simp only[gI] at hc;rw[hc] at xe;revert hO SS;refine ct ?_;intro hO SS;rw[gp] at aN;replace aN:=ah aN;go_wp2_with fail;refine bD (gA SS.ps h5) λw1 K1=>?_;have S1:=ah (SS.no K1);replace K1:=aK.to (F:=ch C) K1;exact C6
def ab8{F:Nat}{one:Nat->List aF->Option (Row×List aF)}(ho:∀(f:Nat),f < F->∀(w:YC) (l r:Zi) (x:Row),PS C w l->one f l=some (x,r)->Calls prog 197 #[pP C] w (lY C x r w)){w:YC}{l r0 rr:Zi}{rows:List (Row)}(h:PS C w l)(mM:C.x5=some (.bool false))(g:aO "[" l=true) (hx:nj "," one F l.tail=some (rows,r0)) (hmu:cK "]" r0=some rr)(dx:F<=6000):Calls prog 195 #[pP C] w (fR C 5 (rows.map id) rr w):=by
 obtain⟨i,hi,hz,cL,dY⟩:=dN Z0
 cases F with
 |zero=>cases hx
 |succ F=>
 rw[fA] at hx;obtain⟨⟨x,r1⟩,iF,h2⟩:=aw.1 hx;obtain⟨⟨xs,r2⟩,ir,h3⟩:=aw.1 h2
 cases h3;dsimp only at ir hmu;have hw:=ah h.bd;have Ax:=ah (eP h);revert h mM g hi hz cL dY dx iF ir hmu;refine ahi ?_;intro h mM g hi hz cL dY dx iF ir hmu;go_enter func195,ntmps195;go_wp2_with fail;refine bY (dP h mM "[" g) λw0 P0 K0=>?_;revert P0 K0;refine ct ?_;intro P0 K0;go_wp2_with fail;refine(ho F (j4 F) _ _ _ _ P0 iF).mono ?_;rintro e w1 ⟨⟨v,rfl,k,nm,ks,vv,ss,a,m,c,rfl,rfl,hv⟩,P1,K1⟩;have rG:w.heap.size<=w1.heap.size:=HF;obtain⟨W,hW⟩:∃W,W=w1.alloc (cO #[k,nm,sV a m c,vv,ss] 146):=⟨_,rfl⟩
 have qp:aP (λb=>w.heap.size<=b/\Value.ownBlock (sV none 0 0)≠some b) W [k,nm,ks,vv,ss] [k,nm,sV a m c,vv,ss]:=by have IN:=hv.kept (w':=W) (F:=aK) Lp (λ_ _ _ e=>e);have hs0:=K0.size;exact .cons (.int _) (.cons (.str _) (.cons (IN.mono λb hb _=>⟨by omega,λe=>by simp[Value.ownBlock] at e⟩) (.cons (.bool _) (.cons (.bool _) .nil))))
 have nR:OwnR w.heap.size w W 146 5 (sV none 0 0) []:=⟨[],.nil,rfl,Or.inl ⟨rfl,rfl⟩⟩
 have hP:PS C W r1:=pI;have hK:Kept (ch C) w W:=Ls;have eG:∀(j:Nat) (u:YE),([k,nm,sV a m c,vv,ss]:YT)[j]?=some u->W.cell? ((⟨w1,0,none⟩:Addr).add j)=some u:=by rw[hW];exact eH
 have lD:w.heap.size<=W.heap.size:=by have:=hK.size;omega
 revert qp nR hP hK eG lD;refine LX ?_;intro qp nR hP hK eG lD;subst hW;go_wp2_with (at_builtin;refine bu (P:=prog) underlying144 hi hz cL dY rfl ab ab rfl (.tmp 6) (.tmp 9) rfl rfl ⟨w1,0,none⟩ 1 rfl _ _ nR lD ai rfl eG qp ?_);intro v' W' iH lE aL;have Uq:PS C W' r1:=hP.kept lE sf;have yu:Kept (ch C) w W':=hK.trans lE sj;have hrel:Hid (yv "," one C w F ([k,nm,ks,vv,ss]::xs.map id) r2 F v' W'):=
  ah ⟨_,xs,F,r1,iH,Uq,yu,ir.out,aM _,rfl,aM _,by have:=dx.out;simp;omega⟩
 go_wp2;go_loopg [3] F (λgg s7 wr=>yv "," one C w F ([k,nm,ks,vv,ss]::xs.map id) r2 gg s7 wr)
 case atStart=>exact hrel
 case round=>
  obtain⟨acc,XD,f,rc,hO,hP,lH,hm,gT,aN,de,h6⟩:=hrel;obtain⟨a7,gy,rfl⟩:=hO.form;by_cases hc:aO "," rc=true
  .have cg:=hm;unfold jL at cg;rw[aI hc] at cg
   cases f with
   |zero=>cases cg
   |succ f=>
   revert cg;refine iX ?_;intro cg y r3 lX h4;obtain⟨⟨ys,r4⟩,rZ,h5⟩:=aw.1 h4
   cases h5;dsimp only at rZ;revert hP lH hO hc gT de h6 lX rZ aN;refine zQ ?_;intro hP lH hO hc gT de h6 lX rZ aN;go_wp2_with fail;refine bY (dP hP mM "," hc) λw2 P2 K2=>?_;revert y hm cg h4 lX aN P2 K2;refine FD ?_;intro P2 K2 bC bX w3 k' zt ks' asd ase a' m' c' hm cg h4 lX aN hv P3 K3 pD xD nR qp Jb jl eG lD;go_wp2_with (at_builtin;refine bu (P:=prog) underlying144 hi hz cL dY rfl ab ab rfl (.tmp 13) (.tmp 16) rfl rfl ⟨w3,0,none⟩ 1 rfl _ _ nR lD dr rfl eG qp ?_);exact EK
  .have cg:=hm;unfold jL at cg;rw[aE hc] at cg
   cases cg;simp only[gI] at hc;revert lH hO hP hc;refine jU ?_;intro lH hO hP hc;rw[xK,gp] at aN;replace aN:=ah aN;go_wp2_with fail;refine bY (bU hP mM "," hc) λw2 P2 K2=>?_;have qY:OwnR w.heap.size w w2 146 5 (sV a7 acc.length gy) acc:=
    hO.kept K2 cC cT
   revert P2 qY;refine ct ?_;intro P2 qY;replace K2:=ah (lH.trans' K2);have jo:=ah (qY.rC (S':=λb=>w.heap.size<=b) (λ_ h _=>h) (λ_ h _=>h));have oL:=ah qY.out.lens;go_wp2_with fail;refine bY (dc P2 mM "]" hmu) λw3 P3 K3=>?_;have FJ:=jo.kept K3 cC;replace P3:=ah P3;replace K3:=ah (K2.trans' K3);replace FJ:=ah FJ;go_wp2_with fail;go_ret;rw[lp]
   first|rw[aN.out]|(have hr':=aN.out;dsimp only[id_eq] at hr'|-;rw[hr'])
   exact⟨⟨_,_,rfl,FJ,oL⟩,P3,K3⟩
def Yq{w:YC}(h:PS C w l)(mM:C.x5=some (.bool false))(g:aO "[" l=false):Calls prog 195 #[pP C] w (fR C 5 [] l w):=by revert h mM g;refine jk ?_;intro h mM g;go_enter func195,ntmps195;go_wp2_with fail;refine bY (bU h mM "[" g) λw1 P1 K1=>?_;revert P1 K1;refine ct ?_;intro P1 K1;go_wp2_with fail;exact DO
def Bg{w:YC}(h:PS C w l)(h5:C.x5=some (.bool false))(s:TC){b:YR}(hb:b=bs (tx s):=by rfl)(hs:((tx s).all λc=>decide (c < 256))=true:=by decide):
  Calls prog 108 #[pP C,.string b] w λe w'=>e=.returned (.bool (aO (tx s) l))/\PS C w' (if aO (tx s) l then l.tail else l)/\Kept (ch C) w w':=by
 subst hb;exact yY h h5 (tx s) (aV hs)
def gB(b1 b2 b3:TG)(s:Yz):Bool:=(b1&&s==tx "ANY")||(b2&&s==tx "NONE")||(b3&&(s==tx "INTEGER"||s==tx "BOOLEAN"))
def Ja(bL:bW s)(b1 b2 b3:TG)(w:YC):Calls prog 194 #[s,b1,b2,b3] w λe w'=>e=.returned (.bool (gB b1 b2 b3 s))/\w'=w:=by
 obtain⟨B,hB⟩:∃B,B=gB b1 b2 b3 s:=⟨_,rfl⟩
 rw[<-hB];have q0:((bs s).toList==[65,78,89])=(s==tx "ANY"):=by have hh:=cH bL (aV (s:= "ANY") aj);rw[dW (bs "ANY")] at hh;exact hh
 have q1:((bs s).toList==[78,79,78,69])=(s==tx "NONE"):=by have hh:=cH bL (aV (s:= "NONE") aj);rw[dW (bs "NONE")] at hh;exact hh
 have q2:((bs s).toList==[73,78,84,69,71,69,82])=(s==tx "INTEGER"):=by have hh:=cH bL (aV (s:= "INTEGER") aj);rw[dW (bs "INTEGER")] at hh;exact hh
 have q3:((bs s).toList==[66,79,79,76,69,65,78])=(s==tx "BOOLEAN"):=by have hh:=cH bL (aV (s:= "BOOLEAN") aj);rw[dW (bs "BOOLEAN")] at hh;exact hh
 unfold gB at hB;generalize (s==tx "ANY")=e0 at q0 hB;generalize (s==tx "NONE")=e1 at q1 hB;generalize (s==tx "INTEGER")=e2 at q2 hB;generalize (s==tx "BOOLEAN")=e3 at q3 hB
 cases b1<;>cases b2<;>cases b3<;>cases e0<;>cases e1<;>cases e2<;>cases e3<;>
 (simp only[Ro,auU,A3,Bool.and_true,MR,wX,Bool.true_or,Bool.or_true] at hB
  replace hB:=ah hB;go_enter func194,ntmps194;go_wp2;go_ret;exact⟨by rw[hB.out];rfl,rfl⟩)
def rR{w:YC}{r:Zi}{nm:Yz}(h:PS C w l)(h5:C.x5=some (.bool false))(b1 b2 b3:TG)(hx:word 2 l=some (nm,r))(zr:gB b1 b2 b3 nm=false):Calls prog 110 #[pP C,.bool b1,.bool b2,.bool b3] w λe w'=>e=.returned (.string (bs nm))/\PS C w' r/\Kept (ch C) w w':=by
 cases l with
 |nil=>cases hx
 |cons t r'=>
 have PN:(if t.k==2 then some (t.t,r') else none)=some (nm,r):=hx;split at PN
 .rename_i hk
  cases PN;have jF:t.k=2:=jc;have Ba:=gA h h5;have hkz:dv (t::r)=2:=jF;rw[hkz] at Ba;have bL:=mP h;change bW t.t at bL;have aqo:Hid (∀w,Calls prog 194 #[t.t,b1,b2,b3] w λe w'=>e=.returned (.bool false)/\w'=w):=ah (λw=>by have:=Ja bL b1 b2 b3 w;rw[zr] at this;exact this);revert h5 h hx Ba;refine jU ?_;intro h5 h hx Ba;clear bL hk jF hkz zr;go_enter func110,ntmps110;go_wp2_with fail;refine Ba.mono ?_;rintro e w1 ⟨rfl,K⟩;have P1:=h.kept K (λ_ e=>e.elim);obtain⟨cap,c0⟩:=P1.c0t;obtain⟨n,a,b,e1,c1,bQ,bL,q1,q2,q3,q4⟩:=P1.tok (k:=0) rfl;have hlen:=P1.len;simp only[fS] at bQ q1 q2 q3 q4;have ph:((n:Int) < (C.L.length:Int)):=ab;have nz:(0:Int)<=(n:Int):=ab;revert K P1;refine ct ?_;intro K P1;clear bL;go_wp2_with fail;refine wpLive 15 (λV=>PS C V (t::r)/\Kept aK w1 V) (λV s=>And.intro (s.2.aq c0 (λe=>e)) (And.intro (s.2.aq c1 (λe=>e)) (s.2.aq q2 (λe=>e)))) ?_ λFF ak=>?_
  .exact⟨P1.kept (F:=aK) (Kept.refl _ _).drew (λ_ e=>e.elim),(Kept.refl aK w1).drew⟩
  refine F3 ?_;refine tkT 11 ?_;refine tkT 12 ?_;refine tkT 13 ?_;refine rdT 14 λK hK=>?_;go_simp;refine(aqo _).mono ?_;rintro e wA ⟨rfl,rfl⟩;dsimp only;refine hK _ _ ⟨ak.1,ak.2⟩ (λak=>?_);clear hK K;refine sp ?_;refine ddT 15 λK hK=>?_;revert K hK;refine j9 ?_;clear c0 c1 q1 q2 q3 q4;go_wp2_with fail;refine(gd (k:=2) ak.1 h5 hx).mono ?_;rintro e w3 ⟨rfl,P3,K3⟩;replace P3:=ah P3;replace K3:=ah ((aK.to (K.trans' ak.2)).trans' K3);clear ak;go_wp2_with fail;go_ret;exact⟨rfl,P3,K3⟩
 .cases PN
def GB.aof{w:YC}{r:Zi}{os:List Obj}(h:GB C w r os W)(ho:0 < os.length)(k:Int):lY C [k,.str [],.sl [],false,false] r w (.returned (.agg #[k,eS,nS,false,false])) (ahT W w.heap.size (iV k) (.string ⟨#[]⟩) (sV none 0 0) (.bool false) (.bool false)):=by have hk:=Jn W w.heap.size (iV k) (.string ⟨#[]⟩) (sV none 0 0) (.bool false) (.bool false);have:=h.sg.step hk dF;exact⟨⟨_,rfl,k,[],[],false,false,none,0,0,rfl,rfl,.nil⟩,this.ps,this.kp⟩
def aiq{w:YC}{r:Zi}(fx:∀s∈C.fs,bW s)(h:PS C w l)(mM:C.x5=some (.bool false))(hv:aO "detachable" l=false)(h1:(if false then l.tail else l)=l1)(hs:aO "separate" l1=false)(h2:(if false then l1.tail else l1)=t::r)(hk:t.k=2)(eK:(t.t==tx "NONE")=false)(oQ:C.fs.contains t.t=false)(zr:gB false false true t.t=true)(hI:(t.t==tx "INTEGER")=true)(lW:aO "[" r=false):Calls prog 197 #[pP C] w (lY C [.int 1,.str [],.sl [],false,false] r w):=by have G0:=ah (((GB.start h).push (cO #[oZ,eS,nS,false,false] 146) rfl).push (cO #[oZ,eS,nS,false,false] 146) ai);have eo:=ah (eP h);revert fx mM eK oQ zr;refine nx ?_;intro fx mM eK oQ zr;have xe:dv (t::r)=2:=hk;replace hk:=ah hk;go_enter func197,ntmps197;go_wp2_with fail;refine(Bg G0.ps mM "detachable").mono ?_;refine Fh ?_;intro w1 P1 K1 G1 bC bX cU dz fZ iI G2 w2 P2 K2 G3 yz Bf I8 qJ qK uU G4 w3 K3 G5 cap c0 n a b e1 c1 bQ z1 z2 z3 z4 hlen hf4 fp ph nz e2 q0 q1 bL Nq Nr Ns Nt Nu Nv nq G6 G7 d10 d11 d12 d13 d14 g1 Nw Xm Xn akm akn ako w6 K6 G8 jI iE gh ft js f1 b0 b1 b2 b3 b4 fb;go_wp2_with fail;refine bG (v:=.agg #[iV 1,eS,nS,false,false]) pU rfl ?_;exact G8.aof ai 1
def air{w:YC}{r:Zi}(fx:∀s∈C.fs,bW s)(h:PS C w l)(mM:C.x5=some (.bool false))(hv:aO "detachable" l=false)(h1:(if false then l.tail else l)=l1)(hs:aO "separate" l1=false)(h2:(if false then l1.tail else l1)=t::r)(hk:t.k=2)(eK:(t.t==tx "NONE")=false)(oQ:C.fs.contains t.t=false)(zr:gB false false true t.t=true)(hI:(t.t==tx "INTEGER")=false)(lW:aO "[" r=false):Calls prog 197 #[pP C] w (lY C [.int 2,.str [],.sl [],false,false] r w):=by have G0:=ah (((GB.start h).push (cO #[oZ,eS,nS,false,false] 146) rfl).push (cO #[oZ,eS,nS,false,false] 146) ai);have eo:=ah (eP h);revert fx mM eK oQ zr;refine nx ?_;intro fx mM eK oQ zr;have xe:dv (t::r)=2:=hk;replace hk:=ah hk;go_enter func197,ntmps197;go_wp2_with fail;refine(Bg G0.ps mM "detachable").mono ?_;refine Fh ?_;intro w1 P1 K1 G1 bC bX cU dz fZ iI G2 w2 P2 K2 G3 yz Bf I8 qJ qK uU G4 w3 K3 G5 cap c0 n a b e1 c1 bQ z1 z2 z3 z4 hlen hf4 fp ph nz e2 q0 q1 bL Nq Nr Ns Nt Nu Nv nq G6 G7 d10 d11 d12 d13 d14 g1 Nw Xm Xn akm akn ako w6 K6 G8 jI iE gh ft js f1 b0 b1 b2 b3 b4 fb;go_wp2_with fail;refine bG (v:=.agg #[iV 2,eS,nS,false,false]) pU rfl ?_;exact G8.aof ai 2
def alE{w:YC}{r:Zi}(fx:∀s∈C.fs,bW s)(h:PS C w l)(mM:C.x5=some (.bool false))(hv:aO "detachable" l=vv)(h1:(if vv then l.tail else l)=l1)(hs:aO "separate" l1=false)(h2:(if false then l1.tail else l1)=t::r)(hk:t.k=2)(eK:(t.t==tx "NONE")=false)(oQ:C.fs.contains t.t=true)(zr:gB false false true t.t=false)(lW:aO "[" r=false):Calls prog 197 #[pP C] w (lY C [.int 4,t.t,.sl [],vv,false] r w):=by have G0:=ah (((GB.start h).push (cO #[oZ,eS,nS,false,false] 146) rfl).push (cO #[oZ,eS,nS,false,false] 146) ai);have eo:=ah (eP h);revert fx mM eK oQ zr;refine nx ?_;intro fx mM eK oQ zr;have xe:dv (t::r)=2:=hk;replace hk:=ah hk;refine FA ?_;intro w1 P1 K1 G1 bC bX cU dz fZ iI G2 w2 P2 K2 G3 jI iE gh ft js f1 yz Bf I8 qJ qK uU;have G4:=ah (G3.st 1 4 (.bool false));refine Fv ?_;intro w3 K3 G5 cap c0 n a b e1 c1 bQ z1 z2 z3 z4 hlen hf4 fp ph nz e2 q0 q1 bL jI iE gh ft js f1 bC bX nq;have G6:Hid (GB C w (t::r) [cO #[oZ,eS,nS,false,false] 146,cO #[oZ,eS,nS,vv,false] 146] (w3.drewN nq)):=ah (G5.no (Kept.drewN (Kept.refl _ _)));refine Ga ?_;intro bC bX cU dz;have G7:Hid (GB C w r [cO #[oZ,eS,nS,false,false] 146,cO #[oZ,eS,nS,vv,false] 146] ((w3.drewN nq).setCell ⟨C.p,1,none⟩ (iV ((n:Int)+1)))):=ah (G6.TT (n:=n) vh rfl);obtain⟨d10,d11,d12,d13,d14,-⟩:=cc (G7.out.bx 1 _ rfl);have g1:=al (G7.bx 1 _ rfl);go_wp2_with fail;refine(Bi G7.ps mM "[" (aV aj)).mono ?_;rintro e w6 ⟨rfl,K6⟩;rw[lW];have G8:=ah (G7.no K6);obtain⟨jI,iE,gh,ft,js,-⟩:=cc (G8.out.bx 1 _ rfl);have f1:=al (G8.bx 1 _ rfl);obtain⟨b0,b1,b2,b3,b4,-⟩:=cc (W:=w6) (b:=w) (G8.out.bx 0 _ rfl);have fb:∀j,w6.frozen? ⟨w,j,none⟩=false:=al (G8.bx 0 _ rfl);have GX:GB C w r [cO #[oZ,eS,nS,false,false] 146,cO #[iV 3,t.t,nS,vv,false] 146] _:=(G8.set 1 1 rfl (.string (bs t.t))).set 1 0 rfl (iV 3);replace GX:=ah GX;obtain⟨xC,zw,As,xw,x14,-⟩:=cc (GX.out.bx 1 _ rfl);have h1x:=al (GX.bx 1 _ rfl);go_wp2_with fail;have G9:Hid (GB C w r [cO #[oZ,eS,nS,false,false] 146,cO #[iV 4,t.t,nS,vv,false] 146] _):=ah (((G8.set 1 1 rfl (.string (bs t.t))).set 1 0 rfl (iV 3)).set 1 0 rfl (iV 4));refine bG (v:=.agg #[iV 4,t.t,nS,vv,false]) pU rfl ?_;exact G9.XJ .nil
def afm{w:YC}{r:Zi}{ss:TG}(fx:∀s∈C.fs,bW s)(h:PS C w l)(mM:C.x5=some (.bool false))(hv:aO "detachable" l=vv)(h1:(if vv then l.tail else l)=l1)(hs:aO "separate" l1=ss)(h2:(if ss then l1.tail else l1)=t::r)(hk:t.k=2)(eK:(t.t==tx "NONE")=false)(oQ:C.fs.contains t.t=false)(zr:gB false false true t.t=false){xs:Zg}{r3:Zi}(ar9:∀w,PS C w r->Calls prog 195 #[pP C] w (fR C 5 xs r3 w)):Calls prog 197 #[pP C] w (lY C [.int 3,t.t,xs,vv,ss] r3 w):=by have G0:=ah (((GB.start h).push (cO #[oZ,eS,nS,false,false] 146) rfl).push (cO #[oZ,eS,nS,false,false] 146) ai);have eo:=ah (eP h);revert fx mM eK oQ zr;refine nx ?_;intro fx mM eK oQ zr;have xe:dv (t::r)=2:=hk;revert hk ar9;refine ct ?_;intro hk ar9;refine FA ?_;intro w1 P1 K1 G1 bC bX cU dz fZ iI G2 w2 P2 K2 G3 jI iE gh ft js f1 yz Bf I8 qJ qK uU;have G4:=ah (G3.st 1 4 (.bool ss));refine Fv ?_;intro w3 K3 G5 cap c0 n a b e1 c1 bQ z1 z2 z3 z4 hlen hf4 fp ph nz e2 q0 q1 bL jI iE gh ft js f1 bC bX nq;have G6:Hid (GB C w (t::r) [cO #[oZ,eS,nS,false,false] 146,cO #[oZ,eS,nS,vv,ss] 146] (w3.drewN nq)):=ah (G5.no (Kept.drewN (Kept.refl _ _)));refine Ga ?_;intro bC bX cU dz;have G7:Hid (GB C w r [cO #[oZ,eS,nS,false,false] 146,cO #[oZ,eS,nS,vv,ss] 146] ((w3.drewN nq).setCell ⟨C.p,1,none⟩ (iV ((n:Int)+1)))):=ah (G6.TT (n:=n) vh rfl);obtain⟨d10,d11,d12,d13,d14,-⟩:=cc (G7.out.bx 1 _ rfl);have g1:=al (G7.bx 1 _ rfl);go_wp2_with fail;have G9:Hid (GB C w r [cO #[oZ,eS,nS,false,false] 146,cO #[iV 3,t.t,nS,vv,ss] 146] _):=ah ((G7.set 1 1 rfl (.string (bs t.t))).set 1 0 rfl (iV 3));refine(ar9 _ G9.ps).mono ?_;rintro e w6 ⟨⟨ta,tc,rfl,oP,WH⟩,P6,K6⟩;have aqp:=G9.bx 1 _ rfl;have aqq:=ah (aQ.1 aqp).1;have GA:=ah (G9.aB P6 K6);have hvp:an (xy w 2) w6 (.sl xs) (sV ta xs.length tc):=lU oP (by have:=aqq.out;omega);replace hvp:=ah hvp;obtain⟨jI,iE,gh,ft,js,-⟩:=cc (GA.out.bx 1 _ rfl);have f1:=al (GA.bx 1 _ rfl);obtain⟨b0,b1,b2,b3,b4,-⟩:=cc (W:=w6) (b:=w) (GA.out.bx 0 _ rfl);have fb:∀j,w6.frozen? ⟨w,j,none⟩=false:=al (GA.bx 0 _ rfl);go_wp2_with fail;have GC:=ah (GA.st 1 2 (sV ta xs.length tc));have hvq:=qR hvp (i:=1) ab 2 (sV ta xs.length tc);refine bG (v:=.agg #[iV 3,t.t,sV ta xs.length tc,vv,ss]) pU rfl ?_;exact GC.XJ hvq
def ais(f:Nat):Prop:=∀(C:Ctx) (w:YC) (l r:Zi) (row:Row),(∀s∈C.fs,bW s)->(∀s∈C.fs,gB false false true s=false)->PS C w l->C.x5=some (.bool false)->mj C.fs f l=some (row,r)->Calls prog 197 #[pP C] w (lY C row r w)
def afn(s:Yz):gB false false true s=(s==tx "INTEGER"||s==tx "BOOLEAN"):=by simp[gB]
def Vy:∀f:Nat,f<=6000->ais f:=by
 intro f;induction f with
 |zero=>intro _ C w l r row _ _ h _;intro hx;cases hx
 |succ f ih=>
  intro I9 C w l r row fx WO h h5 hx;simp only[mj] at hx;generalize hv:aO "detachable" l=vv at hx;generalize h1:(if vv=true then l.tail else l)=l1 at hx;generalize hs:aO "separate" l1=ss at hx;generalize h2:(if ss=true then l1.tail else l1)=l2 at hx;obtain⟨⟨nm,r1⟩,hw,asJ⟩:=aw.1 hx;replace hx:=asJ;simp only at hx
  cases l2 with
  |nil=>cases hw
  |cons t r'=>
  have PN:(if t.k==2 then some (t.t,r') else none)=some (nm,r1):=hw;split at PN
  .rename_i hk
   cases PN;have jF:t.k=2:=jc
   cases eK:t.t==tx "NONE" with
   |true=>rw[eK] at hx;simp at hx
   |false=>
   rw[eK] at hx;have am9:(t.t==tx "INTEGER")=true->(t.t==tx "BOOLEAN")=false:=by intro e;rw[dU] at e;rw[e];decide
   cases oQ:C.fs.contains t.t with
   |true=>
    have zr:=WO t.t (MK.1 oQ);rw[oQ] at hx
    cases ss with
    |true=>simp at hx
    |false=>
     cases lW:aO "[" r1 with
     |true=>rw[lW] at hx;simp at hx
     |false=>rw[lW] at hx;simp at hx;obtain⟨e1,e2⟩:=hx;subst e1;subst e2;exact alE fx h h5 hv h1 hs h2 jF eK oQ zr lW
   |false=>
    rw[oQ] at hx
    cases hT:(t.t==tx "INTEGER"||t.t==tx "BOOLEAN") with
    |true=>
     have zr:gB false false true t.t=true:=by rw[afn];exact hT
     rw[hT] at hx
     cases vv with
     |true=>simp at hx
     |false=>
     cases ss with
     |true=>simp at hx
     |false=>
     cases lW:aO "[" r1 with
     |true=>rw[lW] at hx;simp at hx
     |false=>
      rw[lW] at hx
      cases hI:t.t==tx "INTEGER" with
      |true=>
       have e1:(t.t=tx "INTEGER"):=by simpa using hI
       simp[e1] at hx;obtain⟨e1,e2⟩:=hx;subst e1;subst e2;exact aiq fx h h5 hv h1 hs h2 jF eK oQ zr hI lW
      |false=>
       have e1:¬(t.t=tx "INTEGER"):=by simpa using hI
       simp[e1] at hx;obtain⟨e1,e2⟩:=hx;subst e1;subst e2;exact air fx h h5 hv h1 hs h2 jF eK oQ zr hI lW
    |false=>
     have zr:gB false false true t.t=false:=by rw[afn];exact hT
     rw[hT] at hx
     cases lW:aO "[" r1 with
     |true=>
      rw[lW] at hx;simp only[Bool.not_false,auU,Ro,MR,A3,rW,qE,xN,cF] at hx;obtain⟨⟨xs,r2⟩,Ic,hx⟩:=aw.1 hx;obtain⟨r3,kc,hx⟩:=aw.1 hx
      cases hx;refine afm fx h h5 hv h1 hs h2 jF eK oQ zr (λw hP=>?_);rw[Ok] at Ic;have:=ab8 (one:=λ_=>mj C.fs f) (λf' _ w l r x hP hx=>ih ab C w l r x fx WO hP h5 hx) hP h5 lW Ic kc ab;rwa[AZ] at this
     |false=>rw[lW] at hx;simp at hx;obtain⟨e1,e2⟩:=hx;subst e1;subst e2;exact afm fx h h5 hv h1 hs h2 jF eK oQ zr (λw hP=>Yq hP h5 lW)
  .cases PN
abbrev OK(W:YC)(bx:Nat)(a b c d e:YE):World:=((((W.setCell ⟨bx,1,none⟩ a).setCell ⟨bx,2,none⟩ b).setCell ⟨bx,3,none⟩ c).setCell ⟨bx,4,none⟩ d).setCell ⟨bx,5,none⟩ e
def Yr(W:YC)(bx:Nat)(a b c d e:YE):Kept (λk=>k=bx) W (OK W bx a b c d e):=
 (NR W bx a b c d).setCell (p:=⟨bx,5,none⟩) (λ_=>(rfl:bx=bx)) e
def Ys{c0 c1 c2 c3 c4 c5:YE}{T:UB}(h:W.heap[bx]?=some (.cells #[c0,c1,c2,c3,c4,c5] T (0,0)))(a b c d e:YE):(OK W bx a b c d e).heap[bx]?=some (.cells #[c0,a,b,c,d,e] T (0,0)):=by have h1:=heap_setCell_same W bx 1 a h;have h2:=heap_setCell_same _ bx 2 b h1;have h3:=heap_setCell_same _ bx 3 c h2;have h4:=heap_setCell_same _ bx 4 d h3;exact heap_setCell_same _ bx 5 e h4
def Tl(C:Ctx)(w:YC)(F:Nat)(rows:Zg)(r:Zi)(gg:Nat)(s3 s4:YE)(wr:YC):Prop:=
 ∃(acc xs:Zg) (f:Nat) (rc:Zi) (go:TG),s4=.bool go/\OwnR w.heap.size w wr 237 6 s3 acc/\Sg C w rc wr/\(if go then ml C.fs f rc=some (xs,r) else xs=[]/\rc=r)/\f<=F/\rows=acc++xs/\f<=gg/\acc.length+f<=6000
def Vz{F:Nat}(dx:F<=6000){C:Ctx}{w:YC}{l r:Zi}{rows:Zg}(fx:∀s∈C.fs,bW s)(WO:∀s∈C.fs,gB false false true s=false)(h:PS C w l)(h5:C.x5=some (.bool false))(hp:ml C.fs F l=some (rows,r)):Calls prog 196 #[pP C] w (fR C 6 rows r w):=by
 obtain⟨i,hi,hz,cL,dY⟩:=dN Mv;have hrel:Hid (Tl C w F rows r F (sV none 0 0) (.bool true) w):=ah ⟨[],rows,F,l,true,rfl,OwnR.nil,Sg.start h,by simpa using hp,aM _,rfl,aM _,by simp;omega⟩;revert hi hz cL dY;refine jU ?_;intro hi hz cL dY;have eo:=ah (eP h);revert fx WO h5;refine jk ?_;intro fx WO h5;go_enter func196,ntmps196;go_wp2_with fail;go_loopg [3,4] F (λgg s3 s4 wr=>Tl C w F rows r gg s3 s4 wr)
 case atStart=>exact hrel
 case round=>
  obtain⟨acc,xs,f,rc,go,rfl,hO,SS,hm,gT,aN,de,h6⟩:=hrel;obtain⟨a7,gy,rfl⟩:=hO.form
  cases go with
  |true=>
   rw[aI rfl] at hm
   cases f with
   |zero=>cases hm
   |succ f=>
   simp only[ml,abt,cF] at hm;obtain⟨⟨row,r3⟩,LH,cg⟩:=aw.1 hm;obtain⟨⟨nm,r1⟩,hn,jo⟩:=aw.1 LH;obtain⟨r2,Sp,FJ⟩:=aw.1 jo;obtain⟨⟨tr,r3'⟩,ar9,hv4⟩:=aw.1 FJ
   cases hv4;dsimp only at Sp ar9 cg;obtain⟨B,hB⟩:∃B,B=aO ";" r3':=⟨_,rfl⟩
   have nn:∃ys,(if B then ml C.fs f (if B then r3'.tail else r3')=some (ys,r) else ys=[]/\(if B then r3'.tail else r3')=r)/\xs=(.str nm::tr)::ys:=by
    rw[<-hB] at cg
    cases B with
    |true=>
     simp only[xN] at cg|-;obtain⟨⟨ys,r5⟩,hy,he⟩:=aw.1 cg
     cases he;exact⟨ys,hy,rfl⟩
    |false=>
     simp only[rW,qE] at cg|-
     cases cg;exact⟨[],⟨rfl,rfl⟩,rfl⟩
   obtain⟨ys,hy,Ic⟩:=nn;revert SS aN hO gT de h6 hn Sp ar9 hB hy Ic;refine amN ?_;intro SS aN hO gT de h6 hn Sp ar9 hB hy Ic;go_wp2_with fail;refine bY (gd (k:=1) SS.ps h5 hn) λw2 P2 K2=>?_;have S2:=(SS.aB P2 K2).alloc (cO #[nm,oZ,eS,nS,false,false] 237);have K2':=K2.alloc (cO #[nm,oZ,eS,nS,false,false] 237);have h4:(w2.alloc (.cells #[nm,oZ,eS,nS,false,false] 237)).heap[w2.heap.size]?=some (.cells #[nm,oZ,eS,nS,false,false] 237):=ao;have oL:=(SS.aB P2 K2).le;have hlw:=ah K2.size;revert S2 h4;refine ct ?_;intro S2 h4;replace K2:=ah K2';replace oL:=ah oL;go_wp2_with fail;refine bY (dc S2.ps h5 ":" Sp) λw3 P3 K3=>?_;have S3:=S2.aB P3 K3;have UC:=cu h4 K3 iT;have ij:=ah (aQ.1 UC).1;replace h4:=ah UC;replace S3:=ah S3;replace K3:=ah (K2.trans' K3);go_wp2_with fail;refine(Vy f dr C _ _ _ _ fx WO S3.ps h5 ar9).mono ?_;rintro e w4 ⟨⟨v,rfl,ek,en,kids,ev,es,ea,el,ec,rfl,rfl,hv⟩,P4,K4⟩;have S4:=S3.aB P4 K4;have h44:=cu h4 K4 iT;have I6:=K4.size;obtain⟨b0,b1,b2,b3,b4,b5,-⟩:=cc (W:=w4) (b:=w2) h44;have f0:∀j,w4.frozen? ⟨w2,j,none⟩=false:=al h44;replace h4:=ah (Ys h44 (iV ek) (.string (bs en)) (sV ea el ec) (.bool ev) (.bool es));have k4:=Yr w4 w2.heap.size (iV ek) (.string (bs en)) (sV ea el ec) (.bool ev) (.bool es);have S5:=S4.step k4 Au;have ZH:=hv.kept k4 Av;have KT:Kept (ch C) wr (OK w4 w2.heap.size (iV ek) (.string (bs en)) (sV ea el ec) (.bool ev) (.bool es)):=(K3.trans' K4).trans k4 At;have auG:=hO.kept KT ed nQ;obtain⟨d0,d1,d2,d3,d4,d5,-⟩:=cc (W:=OK w4 w2.heap.size (iV ek) (.string (bs en)) (sV ea el ec) (.bool ev) (.bool es)) (b:=w2) h4.out;obtain⟨V,Zx⟩:∃V,V=(OK w4 w2.heap.size (iV ek) (.string (bs en)) (sV ea el ec) (.bool ev) (.bool es)).alloc (cO #[nm,ek,en,sV ea el ec,ev,es] 237):=⟨_,rfl⟩
   have aqr:(OK w4 w2.heap.size (iV ek) (.string (bs en)) (sV ea el ec) (.bool ev) (.bool es)).heap.size=w4.heap.size:=ai;have kV:Kept aK (OK w4 w2.heap.size (iV ek) (.string (bs en)) (sV ea el ec) (.bool ev) (.bool es)) V:=by rw[Zx];exact(Kept.refl aK _).alloc _
   have Ah:=auG.kept kV (λ_ _ _ e=>e) (λ_ _ e=>e);have hR:aP (λb=>w.heap.size<=b/\Value.ownBlock (sV a7 acc.length gy)≠some b) V (.str nm::[.int ek,.str en,.sl kids,.bool ev,.bool es]) [nm,ek,en,sV ea el ec,ev,es]:=by have IN:=(ZH.kept kV (λ_ _ _ e=>e)).mono (S':=λb=>w.heap.size<=b/\Value.ownBlock (sV a7 acc.length gy)≠some b) Dn;exact .cons (.str _) (.cons (.int _) (.cons (.str _) (.cons IN (.cons (.bool _) (.cons (.bool _) .nil)))))
   have TU:=S5.no kV;have eG:∀(j:Nat) (u:YE),([nm,ek,en,sV ea el ec,ev,es]:YT)[j]?=some u->V.cell? ((⟨w4,0,none⟩:Addr).add j)=some u:=by rw[Zx,<-aqr];exact eH
   have lD:w.heap.size<=V.heap.size:=TU.le;revert Ah hR TU eG lD;refine nx ?_;intro Ah hR TU eG lD;subst Zx;go_wp2_with (at_builtin;refine bu (P:=prog) underlying143 hi hz cL dY rfl ab ab rfl (.tmp 17) (.tmp 19) rfl rfl ⟨w4,0,none⟩ 1 rfl _ _ Ah lD dr rfl eG hR ?_);intro v' W' iH lE aL;have hS4:=TU.step lE yt;revert iH hS4;refine ct ?_;intro iH hS4;go_wp2_with fail;refine bY (Bg hS4.ps h5 ";") λw6 P6 K6=>?_;rw[<-hB.out] at P6|-;have PC:=iH.kept K6 ed (λb hb e=>by have:=eo.out;have:=(iH.lt b hb).1;unfold ch at e;omega);have hS6:=hS4.aB P6 K6;have hrel:Hid (Tl C w F rows r f v' (.bool B) w6):=
    ah ⟨_,ys,f,_,B,rfl,PC,hS6,hy.out,by have:=gT.out;omega,by rw[aN.out,Ic.out];simp,aM _,by have:=h6.out;simp;omega⟩
   go_wp2_with fail;go_roundg f
   case measure=>have:=de.out;omega
   case rel=>exact hrel
  |false=>simp only[rW,qE] at hm;obtain⟨QS,hr0⟩:=hm;subst QS;subst hr0;rw[gp] at aN;revert SS hO aN;refine jk ?_;intro SS hO aN;go_wp2_with fail;go_ret;rw[aN.out];exact⟨⟨_,_,rfl,hO.rC (λ_ h _=>h) (λ_ h _=>h),hO.lens⟩,SS.ps,SS.kp⟩
end Go.Proofs.Gm
