/- BaseDrivers. No condition. -/
import Derived.Test.YtibajhihfaggfaaGreatDoorQAI
import Derived.Test.YtibajhihfaggfaaGreatDoorQAO
import Derived.Test.YtibajhihfaggfaaGreatDoorQAP
set_option linter.all false
set_option maxRecDepth 100000
set_option maxHeartbeats 0
namespace Go.Proofs.Gm
open Go.Proofs.Tryz Go.RowKit Go.Maps Go.Proofs.Bm
variable {nm t s:Yz}{n k:Int}{g b p m lv off z x j cap N bx:Nat}{S:Wq}{V w' W:YC}{v:YE}{kids tags li lb l rest lo:Zg}{y:Row}{xs:YT}{ws:Y9}{L:Zi}{cs:Zt}{fr:RG}{P:T1}{ag:WV}
def axZ(r:Row):Prop:=r.head?≠some (.int 8)
def lZ:Nat->Row->Prop
 |0,_=>False
 |g+1,r=>∃k nm n kids,r=[.int k,.str nm,.int n,.sl kids]/\(k=1/\0<=n/\n<=9223372036854775807∨k=6/\(n=1->∃y l,kids=y::l/\axZ y)∨(k=8∨k=10)/\∃y,kids=[y]/\axZ y)/\∀x∈kids,lZ g x
def aaL(h:lZ (g+1) [k,nm,n,kids]):(k=1/\0<=n/\n<=9223372036854775807∨k=6/\(n=1->∃y l,kids=y::l/\axZ y)∨(k=8∨k=10)/\∃y,kids=[y]/\axZ y)/\∀x∈kids,lZ g x:=by obtain⟨k',zt,n',Uz,e,h⟩:=h;simp only[IZ,T.int.injEq,T.str.injEq,T.sl.injEq,xO] at e;obtain⟨rfl,rfl,rfl,rfl⟩:=e;exact h
def awO(h:lZ g [.int k,.str nm,.int n,.sl kids]):okK k:=by
 cases g with
 |zero=>exact h.elim
 |succ g=>rcases(aaL h).1 with⟨rfl,-⟩|⟨rfl,-⟩|⟨rfl|rfl,-⟩<;>simp[okK]
def aw3(h:okK k)(hl:lv<=8)(h8:lv=8->k≠8):¬aS k nm < lv:=by
 rcases h with rfl|rfl|rfl|rfl
 .show ¬8 < lv;omega
 .show ¬8 < lv;omega
 .show ¬7 < lv;omega
 .show ¬8 < lv;omega
def av7{l:Row}(h:axZ (.int k::l)):k≠8:=λe=>h (by rw[e];rfl)
def WR(g:Nat):Prop:=∀(f:Nat),2*g<=f->∀(p:Nat) (v:YE) (V:YC) (ws:Y9) (k:Int) (nm:Yz) (n:Int) (kids:Zg) (x:YE) (lv:Nat),lv<=8->(lv=8->k≠8)->WQ p v V ws->lZ g [k,nm,n,kids]->an (Dt p v) V (.sl kids) x->ws.length+(bE f [k,nm,n,kids] lv).length<=1000000->Calls prog 206 #[pW p,.agg #[k,nm,n,x],iV lv] V (WP p v V (ws++bE f [k,nm,n,kids] lv))
def vx{a:YS}{c:Nat}{x:Row}(hx:an S V (.sl kids) (sV a kids.length c))(hj:kids[j]?=some x)(bL:lZ g x):∃b off k nm n l y,a=some ⟨b,off,none⟩/\S b/\x=[.int k,.str nm,.int n,.sl l]/\V.cell? ⟨b,off+j*4,none⟩=some (iV k)/\V.cell? ⟨b,off+j*4+1,none⟩=some (.string (bs nm))/\V.cell? ⟨b,off+j*4+2,none⟩=some (iV n)/\V.cell? ⟨b,off+j*4+3,none⟩=some y/\an S V (.sl l) y:=by
 cases g with
 |zero=>exact bL.elim
 |succ g=>
 obtain⟨k,nm,n,l,rfl,-⟩:=bL;obtain⟨b,off,rfl,hb,cs,hR,fY⟩:=hx.elem hj;obtain⟨c0,Ap,rfl,v0,hR⟩:=hR.aG;obtain⟨c1,U6,rfl,v1,hR⟩:=hR.aG;obtain⟨c2,T3,rfl,v2,hR⟩:=hR.aG;obtain⟨c3,Sx,rfl,v3,hR⟩:=hR.aG;have:=hR.jO;subst this
 cases v0.fu
 cases v1.bq
 cases v2.fu;exact⟨b,off,k,nm,n,l,c3,rfl,hb,rfl,fY 0 _ rfl,fY 1 _ rfl,fY 2 _ rfl,fY 3 _ rfl,v3⟩
def wFr(f:Nat)(k:Int)(nm:Yz)(kids:Zg):List (List Nat):=match kids with
 |[x]=>if k==8 then nm::bE f x 7 else if k==9 then tx "old"::bE f x 7 else tx "attached"::bE f x 8++[tx "as",nm]
 |_=>[[]]
def Yy(ih:WR g){f:Nat}(hf:2*g<=f){p:Nat}{v:YE}{V:YC}{ws:Y9}(h:WQ p v V ws)(k:Int)(nm:Yz)(n:Int)(y:Row){x:YE}(hk:k=8∨k=10)(ax0:lZ g y)(hS:axZ y)(hx:an (Dt p v) V (.sl [y]) x)(hN:ws.length+(wFr f k nm [y]).length<=1000000):Calls prog 262 #[pW p,.agg #[.int .i64 k,.string (bs nm),.int .i64 n,x]] V (WP p v V (ws++wFr f k nm [y])):=by
 obtain⟨a,cap,rfl,-⟩:=hx.aU;obtain⟨b,off,k',zt,n',l',y',rfl,hg,rfl,q0,q1,q2,q3,vy⟩:=vx (j:=0) hx rfl ax0;simp only[xL,fS] at q0 q1 q2 q3;obtain⟨rh,hT,S0⟩:=WG.alM h hN;rw[hT];have S1:=S0.box (.cells #[.int .i64 k,.string (bs nm),.int .i64 n,sV (some ⟨b,off,none⟩) 1 cap] 181 (0,0));obtain⟨d0,d1,d2,d3,-⟩:=cc (S1.heap 0);have hk8:=av7 hS;clear hT hN hx h S0;rcases hk with rfl|rfl
 .replace S1:=S1.cast (rest':=nm::(bE f [.int k',.str zt,.int n',.sl l'] 7++[])) (by simp[wFr]);replace ax0:=ah ax0;replace hg:=ah hg;replace vy:=ah vy;replace ih:=ah ih;go_enter func262,ntmps262;go_wp2_with fail;refine S1.one λw2 S2=>?_;obtain⟨d0,d1,d2,d3,-⟩:=cc (S2.heap 0);have p0:=S2.bA hg q0;have p1:=S2.bA hg q1;have p2:=S2.bA hg q2;have p3:=S2.bA hg q3;go_wp2_with fail;refine S2.call (words:=bE f [.int k',.str zt,.int n',.sl l'] 7) (λv ws hq up hN=>ih f hf p v _ _ k' zt n' l' y' 7 ab ab hq ax0 (up vy) ab) λw3 S3=>?_;go_wp2_with fail;go_end0;exact S3.fin
 .replace S1:=S1.cast (rest':=tx "attached"::(bE f [.int k',.str zt,.int n',.sl l'] 8++[tx "as",nm])) (by simp[wFr]);replace ax0:=ah ax0;replace hg:=ah hg;replace vy:=ah vy;replace ih:=ah ih;go_enter func262,ntmps262;go_wp2_with fail;refine S1.one λw2 S2=>?_;obtain⟨d0,d1,d2,d3,-⟩:=cc (S2.heap 0);have p0:=S2.bA hg q0;have p1:=S2.bA hg q1;have p2:=S2.bA hg q2;have p3:=S2.bA hg q3;go_wp2_with fail;refine S2.call (words:=bE f [.int k',.str zt,.int n',.sl l'] 8) (λv ws hq up hN=>ih f hf p v _ _ k' zt n' l' y' 8 ab (λ_=>hk8) hq ax0 (up vy) ab) λw3 S3=>?_;have d1:=S3.c 0 1;go_wp2_with fail;refine S3.one λw4 S4=>?_;have d1:=S4.c 0 1;exact asP
def eE(f:Nat)(k:Int)(nm:Yz)(n:Int)(kids:Zg):List (List Nat):=
  if k==1 then[tb 20 n.toNat]
  else if k==2 then[if n==1 then tx "True" else tx "False"]
  else if k==3 then[tx "Void"]
  else if k==4 then[tx "Current"]
  else if k==5 then[tx "Result"]
  else if k==6 then(if n==1 then(match kids with|x::_=>bE f x 8++[tx "."]|[]=>[]) else[])++[nm]++wBr "(" ")" (λx=>bE f x 1) (if n==1 then kids.tail else kids)
  else if k==7 then match kids with
   |[a,b]=>bE f a (if aS k nm==1 then 2 else if aS k nm==4 then 5 else aS k nm)++[nm]++bE f b (if aS k nm==1 then 1 else aS k nm+1)
   |_=>[[]]
  else wFr f k nm kids
def VM{f:Nat}:bE (f+1) [k,nm,n,kids] lv=if aS k nm < lv then tx "("::bE f [k,nm,n,kids] 1++[tx ")"] else eE f k nm n kids:=by
 conv=>lhs;unfold bE
 simp only;unfold eE wBr wFr
 match kids with
 |[]=>rfl
 |[_]=>rfl
 |[_,_]=>rfl
 |_::_::_::_=>rfl
def OQ{f:Nat}(h:¬aS k nm < lv):bE (f+1) [k,nm,n,kids] lv=eE f k nm n kids:=by rw[VM,aE h]
def an.aok{w:YC}(h:an S w (.sl (y::l)) (.slice (some ⟨b,off,none⟩) (y::l).length cap))(hy:y.length=4):an S w (.sl l) (sV (some ⟨b,off+4,none⟩) l.length (cap - 1)):=by
 generalize hv:Value.slice (some ⟨b,off,none⟩) (y::l).length cap=v at h
 cases h with
 |sl rows g VP xV wd c hS hg oG hm hw hc IN=>
  simp only[Value.slice.injEq,wY,I0] at hv;obtain⟨⟨rfl,rfl,-⟩,-,rfl⟩:=hv;have h4:wd=4:=by rw[<-hw y (eu ..),hy]
  subst h4;rw[dC] at oG;refine .sl l b (off+4) (cap - 1) 4 (λk j=>c (k+1) j) hS hg ab ab (λr hr=>hw r (eC _ hr)) (λk j row t h1 h2=>?_) (λk j row t h1 h2=>IN (k+1) j row t kW h2);have:=hc (k+1) j row t kW h2;rw[show off+4+(k*4+j)=off+((k+1)*4+j) by omega];exact this
def an.alJ{w:YC}(h:an S w (.sl (y::l)) (.slice (some ⟨b,off,none⟩) (y::l).length cap))(h1:cap=1):an S w (.sl l) (sV (some ⟨b,off,none⟩) l.length 0):=by
 generalize hv:Value.slice (some ⟨b,off,none⟩) (y::l).length cap=v at h
 cases h with
 |sl rows g VP xV wd c hS hg oG hm hw hc IN=>simp only[Value.slice.injEq,wY,I0] at hv;obtain⟨⟨rfl,rfl,-⟩,-,rfl⟩:=hv;rw[dC] at oG;have:l=[]:=W9.1 ab;subst this;exact .sl [] b off 0 0 (λ_ _=>iV 0) hS hg (aM _) (dE _) ai ai ai
def aiA{f:Nat}:eE f 6 nm n kids=(if n==1 then(match kids with|x::_=>bE f x 8++[tx "."]|[]=>[]) else[])++[nm]++wBr "(" ")" (λx=>bE f x 1) (if n==1 then kids.tail else kids):=rfl
def axC(f:Nat)(dn:TG):List Row->List (List Nat)
 |[]=>if dn then[tx ")"] else[]
 |x::l=>(if dn then tx "," else tx "(")::(bE f x 1++axC f true l)
def aw4(dn:Zg)(y:Row):(!(dn++[y]).isEmpty)=true:=by cases dn<;>rfl
def av8(f:Nat):∀(l:Zg),wBr "(" ")" (λx=>bE f x 1) l=axC f false l
 |[]=>rfl
 |x::l=>by
  have h:∀(l:Zg) (x:Row),du ((x::l).map λx=>bE f x 1)++[tx ")"]=bE f x 1++axC f true l:=by
   intro l;induction l with
   |nil=>intro x;simp[du,axC]
   |cons y l ih=>intro x;show bE f x 1++tx ","::du ((y::l).map λx=>bE f x 1)++[tx ")"]=_;rw[I5,qF,ih y];rfl
  rw[av6,qF,h];rfl
def afA(ih:WR g):WR (g+1):=by
 intro f hf p v V ws k nm n kids x lv hl8 auI h VQ hx hN;obtain⟨f,rfl⟩:∃m,f=m+1:=⟨f - 1,by omega⟩
 replace hf:2*g<=f:=ab;have xe:=awO VQ;have IU:=aw3 (nm:=nm) xe hl8 auI;obtain⟨hk,bL⟩:=aaL VQ;rw[OQ IU] at hN|-;obtain⟨a,cap,rfl,gF⟩:=hx.aU;have lC:kids.length<=9223372036854775807:=gF;obtain⟨rh,hT,S0⟩:=WG.alM h hN;rw[hT];obtain⟨KL,sc⟩:∃m,kids.length=m:=⟨_,rfl⟩
 rw[sc] at hx lC|-;have S1:=S0.box (.cells #[.int .i64 k,.string (bs nm),.int .i64 n,sV a KL cap] 181 (0,0));obtain⟨d0,d1,d2,d3,-⟩:=cc (S1.heap 0);have qW:¬((aS k nm:Nat):Int) < (lv:Int):=ab;have gD:=λw=>fC k xe nm n (sV a KL cap) w;generalize aS k nm=own at qW gD;clear hN hT h VQ IU auI hl8 S0 gF xe;replace hx:=ah hx;replace bL:=ah bL;replace gD:=ah gD;replace ih:=ah ih;replace sc:=ah sc;replace hk:=ah hk;go_enter func206,ntmps206;go_wp2_with fail;refine bD (gD _) λw2 P=>?_;have S2:=S1.no P;obtain⟨d0,d1,d2,d3,-⟩:=cc (S2.heap 0);go_wp2_with fail;refine bD (gD _) λw3 P=>?_;have S3:=S2.no P;clear S1 S2;obtain⟨d0,d1,d2,d3,-⟩:=cc (S3.heap 0);rcases hk.out with⟨rfl,hn⟩|⟨rfl,hk6⟩|⟨hk8,y,rfl,hy⟩
 .have hdg:=Q4 19 ab n.toNat ab ab;rw[show((n.toNat:Nat):Int)=n from by omega] at hdg;replace hdg:=ah hdg;go_wp2_with fail;refine bD (hdg _) λw4 P=>?_;have S4:=S3.no P;exact asP
 .obtain⟨C,hC⟩:∃C,decide (n=1)=C:=⟨_,rfl⟩
  replace hC:=ah hC;go_upto_region 22 with fail;go_cut [68] from 60 (λv68 wc=>v68=.bool C/\WG p v V rh (eE f 6 nm n kids) [(V,.cells #[iV 6,.string (bs nm),.int .i64 n,sV a KL cap] 181 (0,0))] wc)
  case first=>
   by_cases hn:n=1
   .obtain⟨y,l,rfl,-⟩:=hk6 hn;subst hn;have h1:(0:Int) < (KL:Int):=by have:=sc.out;simp at this;omega
    go_wp2_with fail;go_meet
    case rel=>exact⟨by rw[<-hC.out];simp;omega,S3⟩
   .have Pt:¬1=n:=λe=>hn e.symm;go_wp2_with fail;go_meet
    case rel=>exact⟨by rw[<-hC.out];simp[hn],S3⟩
  case rest=>
  obtain⟨rfl,S4⟩:=hcut;clear S3 d0 d1 d2 d3;have d3:=S4.c 0 3;go_upto_if 68 with fail;go_cut [7] from 69 (λv7 wc=>∃args,Hid (∀x∈args,lZ g x)/\an (Dt p v) V (.sl args) v7/\WG p v V rh (nm::axC f false args) [(V,.cells #[iV 6,.string (bs nm),.int .i64 n,sV a KL cap] 181 (0,0))] wc)
  case first=>
   cases C with
   |true=>
    obtain rfl:n=1:=Rt hC.out;obtain⟨y,l,rfl,hy⟩:=hk6 rfl;replace sc:=sc.out;rw[dC] at sc;have h1:(1:Int)<=(KL:Int):=ab;have asJ:=hx.out;rw[<-sc] at asJ;obtain⟨b,off,k1,xu,n1,l1,y1,rfl,hg,rfl,q0,q1,q2,q3,u1⟩:=vx (j:=0) asJ rfl (bL.out _ (eu ..));simp only[xL,fS] at q0 q1 q2 q3;have htl:=ah (asJ.aok rfl);have hte:=ah asJ.alJ;have p0:=S4.bA hg q0;have p1:=S4.bA hg q1;have p2:=S4.bA hg q2;have p3:=S4.bA hg q3;have hy8:=av7 hy;replace S4:=S4.cast (rest':=bE f [.int k1,.str xu,.int n1,.sl l1] 8++tx "."::nm::axC f false l) (by rw[aiA];simp[av8]);have hLr:KL - 1=l.length:=ab;clear asJ;replace hy8:=ah hy8;replace u1:=ah u1;replace sc:=ah sc;replace hLr:=ah hLr;go_wp2_with fail;refine S4.call (words:=bE f [.int k1,.str xu,.int n1,.sl l1] 8) (λv ws hq up hN=>ih f hf p v _ _ k1 xu n1 l1 y1 8 ab (λ_=>hy8) hq (bL _ (eu ..)) (up u1) ab) λw5 S5=>?_;have d3:=S5.c 0 3;go_wp2_with fail;refine S5.one λw6 S6=>?_;have d3:=S6.c 0 3;by_cases oG:cap=1
    .subst oG;go_wp2_with fail;go_meet
     case rel=>exact⟨l,λx hx=>bL x (eC _ hx),by rw[hLr.out];exact hte bw,S6⟩
    .have aol:¬(cap:Int)=1:=by omega
     go_wp2_with fail;go_meet
     case rel=>exact⟨l,λx hx=>bL x (eC _ hx),by rw[hLr.out];exact htl,S6⟩
   |false=>
    have hn:¬n=1:=of_decide_eq_false hC.out;replace S4:=S4.cast (rest':=nm::axC f false kids) (by rw[aiA];simp[hn,av8]);go_wp2_with fail;go_meet
    case rel=>exact⟨kids,bL,hx,S4⟩
  case rest=>
  obtain⟨args,hoa,hxa,S5⟩:=hcut;obtain⟨a7,c7,rfl,hl7⟩:=hxa.aU;have aqy:args.length<=9223372036854775807:=hl7;have d1:=S5.c 0 1;clear S4 hl7 d3;replace hxa:=ah hxa;go_wp2_with fail;refine S5.one λw6 S6=>?_;clear d1;go_wp2_with fail;go_loopg [8] args.length (λgg s8 wr=>∃dn xs:List Row,Hid (args=dn++xs)/\s8=iV dn.length/\gg=xs.length/\WG p v V rh (axC f (!dn.isEmpty) xs) [(V,.cells #[iV 6,.string (bs nm),.int .i64 n,sV a KL cap] 181 (0,0))] wr)
  case atStart=>exact⟨[],args,rfl,rfl,rfl,S6⟩
  case round=>
   clear S5 S6;obtain⟨dn,xs,hl,rfl,hgk,S⟩:=hrel;replace hgk:=ah hgk;have hll:args.length=dn.length+xs.length:=ej
   cases xs with
   |nil=>
    have h1:¬((dn.length:Int) < (args.length:Int)):=by simp at hll;omega
    rw[mc,fS] at hll;by_cases hd:dn=[]
    .have h2:¬(0:Int) < (args.length:Int):=by rw[hll,hd];simp
     replace S:=S.cast (rest':=[]) (by rw[hd];rfl);clear hll;go_wp2_with fail;go_end0;exact S.fin
    .have h2:(0:Int) < (args.length:Int):=by have:=ac4.2 hd;omega
     replace S:=S.cast (rest':=[tx ")"]) atN;clear hll;go_wp2_with fail;refine S.one λw7 S7=>?_;go_wp2_with fail;go_end0;exact S7.fin
   |cons y xs=>
    have h1:(dn.length:Int) < (args.length:Int):=by simp at hll;omega
    have h2:(0:Int)<=(dn.length:Int):=ab;clear hll;have ax0:=hoa.out y ej;obtain⟨b,off,k1,xu,n1,l1,y1,rfl,hg,rfl,q0,q1,q2,q3,u1⟩:=vx (j:=dn.length) hxa.out ej ax0;have hl':Hid (args=(dn++[[.int k1,.str xu,.int n1,.sl l1]])++xs):=by rw[hl.out];simp[Hid]
    replace ax0:=ah ax0;replace u1:=ah u1;by_cases hd:dn=[]
    .have h3:(dn.length:Int)=0:=by rw[hd];rfl
     replace S:=S.cast (rest':=tx "("::(bE f [.int k1,.str xu,.int n1,.sl l1] 1++axC f true xs)) (by rw[hd];rfl);go_wp2_with fail;refine S.one λw7 S7=>?_;have p0:=S7.bA hg q0;have p1:=S7.bA hg q1;have p2:=S7.bA hg q2;have p3:=S7.bA hg q3;simp only[hd,mc,xL,fS] at p0 p1 p2 p3;go_wp2_with fail;refine S7.call (words:=bE f [.int k1,.str xu,.int n1,.sl l1] 1) (λv ws hq up hN=>ih f hf p v _ _ k1 xu n1 l1 y1 1 ab ab hq ax0 (up u1) ab) λw8 S8=>?_;go_wp2_with fail;go_roundg (gk - 1)
     case measure=>have:=hgk.out;simp at this;omega
     case rel=>exact⟨_,xs,hl',by simp[hd],by have:=hgk.out;simp at this;omega,by rw[aw4];exact S8⟩
    .have h3:¬(dn.length:Int)=0:=by have:=ac4.2 hd;omega
     replace S:=S.cast (rest':=tx ","::(bE f [.int k1,.str xu,.int n1,.sl l1] 1++axC f true xs)) atN;go_wp2_with fail;refine S.one λw7 S7=>?_;have p0:=S7.bA hg q0;have p1:=S7.bA hg q1;have p2:=S7.bA hg q2;have p3:=S7.bA hg q3;go_wp2_with fail;refine S7.call (words:=bE f [.int k1,.str xu,.int n1,.sl l1] 1) (λv ws hq up hN=>ih f hf p v _ _ k1 xu n1 l1 y1 1 ab ab hq ax0 (up u1) ab) λw8 S8=>?_;go_wp2_with fail;go_roundg (gk - 1)
     case measure=>have:=hgk.out;simp at this;omega
     case rel=>exact⟨_,xs,hl',by simp,by have:=hgk.out;simp at this;omega,by rw[aw4];exact S8⟩
 .obtain rfl:KL=1:=sc.out.symm;have ax0:=bL.out y ai;replace S3:=S3.cast (rest':=wFr f k nm [y]++[]) (by rcases hk8 with rfl|rfl<;>(rw[gp];rfl));rcases hk8 with rfl|rfl;all_goals
   go_wp2_with fail;refine S3.call (words:=wFr f _ nm [y]) (λv ws hq up hN=>Yy ih hf hq _ nm n y ai ax0 hy (up hx) ab) λw4 S4=>?_;go_wp2_with fail;go_end0;exact S4.fin
def pj:∀g,WR g
 |0=>λf hf p v V ws k nm n kids x lv _ _ h VQ=>VQ.elim
 |g+1=>afA (pj g)
def WF.YA{v0:YE}{w:YC}{bl:List (Nat×Obj)}(h:WF p v0 w ws bl V)(s1:Yz)(s2:TC){b:YR}(hN:ws.length+2<=1000000)(hb:b=bs (tx s2):=by rfl):Calls prog 75 #[pW p,sV V 2 2] (V.alloc (cO #[s1,b] 9)) λe w'=>e=.returned (.tuple #[])/\WF p v0 w (ws++[s1,tx s2]) bl w':=by
 subst hb;have S:=h.box (cO #[s1,(tx s2)] 9);obtain⟨v,hq,hv,hb⟩:=S.q;have hc:an (Dt p v) (V.alloc (cO #[s1,(tx s2)] 9)) (.sl (strs [s1,tx s2])) (sV V 2 2):=
  aW (E:=9) (fr:=(0,0)) (wd:=1) (css:=[s1,tx s2].map λs=>[.string (bs s)]) (arr:=#[s1,(tx s2)]) ao rfl (gP [s1,tx s2]) ⟨by have:=(S.bx _ (eu ..)).1;have:=S.pw;simp only at*;omega,hb _ (eu ..)⟩ (aM _) aj
 exact(aiw hq [s1,tx s2] hc hN).mono λe w' ⟨h1,h2⟩=>⟨h1,(S.after hv hb h2).tail⟩
def av9(h:WQ p v V ws){b:YR}{x:YE}(hx:an (Dt p v) V (.sl []) x):Calls prog 80 #[pW p,.string b,x] V (WP p v V (ws++[])):=by obtain⟨a,cap,rfl⟩:=hx.Mz;have S:=ah h.start;go_enter func80,ntmps80;go_wp2_with fail;go_end0;exact⟨rfl,S.cast ai⟩
def VR(f:Nat)(r:Row):Prop:=∃t k nm args vd sp,r=[.str t,.int k,.str nm,.sl args,.bool vd,.bool sp]/\Iw f [.int k,.str nm,.sl args,.bool vd,.bool sp]=true
def wVa(f:Nat)(r:Row):List (List Nat):=match r with
 |.str n::t=>[n,tx ":"]++ka f t
 |_=>[[]]
def OT{f:Nat}{y:Row}(hy:VR f y):∀(xs:Zg),(∀x∈xs,VR f x)->mm f (xs++[y])=mm f xs++((if xs.isEmpty then[] else[tx ";"])++wVa f y)
 |[],_=>by
  obtain⟨t,k,nm,args,vd,sp,rfl,-⟩:=hy;rfl
 |[x],h=>by
  obtain⟨t,k,nm,args,vd,sp,rfl,-⟩:=hy;obtain⟨t2,k2,nm2,aon,vd2,sp2,rfl,-⟩:=h x (eu ..);simp[mm,wVa]
 |x::z::xs,h=>by
  have:=OT hy (z::xs) λr hr=>h r (eC _ hr);obtain⟨t2,k2,nm2,aon,vd2,sp2,rfl,-⟩:=h x (eu ..);simp only[qF,mm] at this|-;rw[this];simp
def OU{f:Nat}{k:Nat}{x:Row}(hx:l[k]?=some x)(h:∀r∈l,VR f r):mm f (l.take (k+1))=mm f (l.take k)++((if k=0 then[] else[tx ";"])++wVa f x):=by
 have hk:=(dk.1 hx).1;rw[wZ,hx,Qq,OT (h x (cm hx)) _ λr hr=>h r (Uh hr)];congr 2
 by_cases h0:k=0
 .subst h0;simp
 .rw[aE h0,aE];have:0 < (l.take k).length:=asO;intro e;rw[List.isEmpty_iff] at e;rw[e] at this;simp at this
def afB{f:Nat}(h:∀r∈l,VR f r):∀{k:Nat},k<=l.length->(mm f (l.take k)).length<=(mm f l).length:=by
 intro k hk;obtain⟨n,hn⟩:∃n,l.length=k+n:=⟨l.length - k,by omega⟩
 induction n generalizing k with
 |zero=>rw[oh ab];exact aM _
 |succ n ih=>
  obtain⟨x,hx⟩:∃x,l[k]?=some x:=⟨_,ck ab⟩
  have h1:=OU hx h;exact D2
def aaM{f:Nat}(h:WQ p v V ws)(l:Zg){x:YE}(bL:∀r∈l,VR f r)(hx:an (Dt p v) V (.sl l) x)(hN:ws.length+(mm f l).length<=1000000):Calls prog 119 #[pW p,x] V (WP p v V (ws++mm f l)):=by
 obtain⟨a,cap,rfl,gF⟩:=hx.aU;have lC:l.length<=9223372036854775807:=gF;revert h bL hN hx;refine jU ?_;intro h bL hN hx;go_enter func119,ntmps119;go_wp2_with fail;go_loopg [4] l.length (λgg s4 wr=>∃k:Nat,s4=iV k/\k+gg=l.length/\WF p v V (ws++mm f (l.take k)) [] wr)
 case atStart=>exact⟨0,rfl,by omega,(h.start).cast (by simp[mm])⟩
 case round=>
  obtain⟨j,rfl,zC,H⟩:=hrel;by_cases hj:j < l.length
  .obtain⟨row,aL⟩:∃s,l[j]?=some s:=⟨_,ck hj⟩
   have hT:=OU aL bL;obtain⟨t,k,nm,args,vd,sp,rfl,eF⟩:=bL.out row (cm aL);obtain⟨b,off,rfl,hg,cs,hR,fY⟩:=hx.out.elem aL;obtain⟨c0,Ap,rfl,v0,hR⟩:=hR.aG;obtain⟨c1,U6,rfl,v1,hR⟩:=hR.aG;obtain⟨c2,T3,rfl,v2,hR⟩:=hR.aG;obtain⟨c3,Sx,rfl,v3,hR⟩:=hR.aG;obtain⟨c4,cs4,rfl,v4,hR⟩:=hR.aG;obtain⟨c5,cs5,rfl,v5,hR⟩:=hR.aG;have:=hR.jO;subst this
   cases v0.bq
   cases v1.fu
   cases v2.bq
   cases v4.iA
   cases v5.iA;obtain⟨q0,q1,-⟩:=hc (o:=off+j*6) λk _ e=>fY k _ e;have q2:V.cell? ⟨b,off+j*6+1+1,none⟩=(some (.string (bs nm)):Option Value):=fY 2 _ rfl;have q3:V.cell? ⟨b,off+j*6+1+2,none⟩=(some c3:VV):=fY 3 _ rfl;have q4:V.cell? ⟨b,off+j*6+1+3,none⟩=(some (.bool vd):Option Value):=fY 4 _ rfl;have q5:V.cell? ⟨b,off+j*6+1+4,none⟩=(some (.bool sp):Option Value):=fY 5 _ rfl;refine kM ?_;intro jS sQ;have Lg:=afB bL (k:=j+1) ab;have hw:(wVa f [t,.int k,nm,args,vd,sp]).length=(ka f [.int k,nm,args,vd,sp]).length+2:=by simp[wVa]
   rw[hT,j0,j0,hw] at Lg;have Je:ws.length+(mm f (l.take j)).length+(if j=0 then[] else[tx ";"]).length+(ka f [.int k,nm,args,vd,sp]).length+2<=1000000:=by have:=hN.out;omega
   revert eF hg v3;refine jk ?_;intro eF hg v3;by_cases Px:j=0
   .have hj3:(j:Int)<=0:=by omega
    have hj4:¬(0:Int) < (j:Int):=ab;rw[aI Px] at hT Je;revert hT Je;refine ct ?_;intro hT Je;have p0:=H.bA hg q0;rw[Px,xL,fS] at p0;go_wp2_with fail;refine bD (H.YA t ":" fO) λw3 H3=>?_;have p1:=H3.bA hg q1;have p2:=H3.bA hg q2;have p3:=H3.bA hg q3;have p4:=H3.bA hg q4;have p5:=H3.bA hg q5;rw[Px,xL,fS] at p1 p2 p3 p4 p5;refine Gw ?_;intro w4 H4;go_roundg (gk - 1)
    case measure=>omega
    case rel=>exact⟨j+1,by rw[Px];rfl,by omega,H4.cast (by rw[hT.out];simp[wVa])⟩
   .have hj3:¬(j:Int)<=0:=by omega
    have hj4:(0:Int) < (j:Int):=ab;rw[aE Px] at hT Je;revert hT Je;refine ct ?_;intro hT Je;go_wp2_with fail;refine bD (H.step λv hq _=>cN hq ";" fO) λw2 H2=>?_;have p0:=H2.bA hg q0;go_wp2_with fail;refine bD (H2.YA t ":" fO) λw3 H3=>?_;have p1:=H3.bA hg q1;have p2:=H3.bA hg q2;have p3:=H3.bA hg q3;have p4:=H3.bA hg q4;have p5:=H3.bA hg q5;refine Gw ?_;intro w4 H4;go_roundg (gk - 1)
    case measure=>omega
    case rel=>exact⟨j+1,rfl,by omega,H4.cast (by rw[hT.out];simp[wVa])⟩
  exact po
def sR{w:YC}{c:Nat}{k1 n1:Int}{xu:Yz}{x4 x5 x6 x7 y1:YE}(hm:0 < m)(hc:m<=9223372036854775807)(hy:y1.oneCell'=true)(q0:w.cell? ⟨b,off,none⟩=some (iV k1))(q1:w.cell? ⟨b,off+1,none⟩=some (.string (bs xu)))(q2:w.cell? ⟨b,off+2,none⟩=some (iV n1))(q3:w.cell? ⟨b,off+3,none⟩=some y1):Calls prog 259 #[.agg #[iV k,.string (bs nm),iV n,sV (some ⟨b,off,none⟩) m c,x4,x5,x6,x7],oZ] w λe w'=>e=.returned (.agg #[k1,xu,n1,y1])/\Kept aK w w':=by have K1:Kept aK w ((w.alloc (cO #[k,nm,n,sV (some ⟨b,off,none⟩) m c,x4,x5,x6,x7] 239)).alloc (cO #[oZ,eS,oZ,nS] 181)):=((Kept.refl aK w).alloc _).alloc _;have hb:((w.alloc (.cells #[k,nm,n,.slice (some ⟨b,off,none⟩) m c,x4,x5,x6,x7] 239)).alloc (.cells #[oZ,eS,oZ,nS] 181)).heap[(w.alloc (.cells #[k,nm,n,.slice (some ⟨b,off,none⟩) m c,x4,x5,x6,x7] 239)).heap.size]?=some (.cells #[oZ,eS,oZ,nS] 181):=ao;have nB:(w.alloc (.cells #[k,nm,n,.slice (some ⟨b,off,none⟩) m c,x4,x5,x6,x7] 239)).heap[w.heap.size]?=some (.cells #[k,nm,n,.slice (some ⟨b,off,none⟩) m c,x4,x5,x6,x7] 239):=ao;have lL:((w.alloc (cO #[k,nm,n,sV (some ⟨b,off,none⟩) m c,x4,x5,x6,x7] 239)).alloc (cO #[oZ,eS,oZ,nS] 181)).heap[w.heap.size]?=some (cO #[k,nm,n,sV (some ⟨b,off,none⟩) m c,x4,x5,x6,x7] 239):=aJ nB ((Kept.refl aK _).alloc _);have d3:=bc lL 3;have p0:=K1.aq q0 (λe=>e);have p1:=K1.aq q1 (λe=>e);have p2:=K1.aq q2 (λe=>e);have p3:=K1.aq q3 (λe=>e);have h1:(0:Int) < (m:Int):=ab;have hz:(w.alloc (cO #[k,nm,n,sV (some ⟨b,off,none⟩) m c,x4,x5,x6,x7] 239)).heap.size=w.heap.size+1:=ai;rw[hz] at hb;revert K1 hb;refine ct ?_;intro K1 hb;go_enter func259,ntmps259;go_wp2_with (refine str (cs:=#[k1,xu,n1,y1]) hb ?_ (h1:=by simp[hy];first|rfl|exact⟨rfl,rfl,rfl⟩|(refine⟨?_,?_,?_⟩<;>rfl)));refine ou (cs:=#[k1,xu,n1,y1]) (lz _ _ _ _ _ _ hb) ?_;exact⟨rfl,K1.trans (fH _ _ _) lJ⟩
def jf:Nat->Row->Prop
 |0,_=>False
 |g+1,r=>∃k nm n es tags li lb le,r=[.int k,.str nm,.int n,.sl es,.sl tags,.sl li,.sl lb,.sl le]/\(k=2∨k=3/\(∀x∈es,axZ x)∨k=4/\le≠[]∨k=10)/\es≠[]/\(∀x∈es,lZ g x)/\(∀x∈lb,jf g x)/\∀x∈le,jf g x
def aiD{es le:Zg}(h:jf (g+1) [k,nm,n,es,tags,li,lb,le]):(k=2∨k=3/\(∀x∈es,axZ x)∨k=4/\le≠[]∨k=10)/\es≠[]/\(∀x∈es,lZ g x)/\(∀x∈lb,jf g x)/\∀x∈le,jf g x:=by obtain⟨k',zt,n',es',art,li',lb',le',e,h⟩:=h;simp only[IZ,T.int.injEq,T.str.injEq,T.sl.injEq,xO] at e;obtain⟨rfl,rfl,rfl,rfl,rfl,rfl,rfl,rfl⟩:=e;exact h
def WSt(g:Nat):Prop:=∀(f:Nat),2*g<=f->∀(p:Nat) (v:YE) (V:YC) (ws:Y9) (k:Int) (nm:Yz) (n:Int) (es tags li lb le:Zg) (x3 x4 x5 x6 x7:YE),WQ p v V ws->jf g [k,nm,n,es,tags,li,lb,le]->an (Dt p v) V (.sl es) x3->an (Dt p v) V (.sl tags) x4->an (Dt p v) V (.sl li) x5->an (Dt p v) V (.sl lb) x6->an (Dt p v) V (.sl le) x7->ws.length+(oX f [k,nm,n,es,tags,li,lb,le]).length<=1000000->Calls prog 205 #[pW p,.agg #[k,nm,n,x3,x4,x5,x6,x7]] V (WP p v V (ws++oX f [k,nm,n,es,tags,li,lb,le]))
def Iy(f:Nat)(r:Row):List (List Nat):=oX f r++[tx ";"]
def VS{f:Nat}(ih:WSt g)(hf:2*g<=f){p:Nat}{v:YE}{V:YC}{ws:Y9}(h:WQ p v V ws)(l:Zg){x:YE}(bL:∀r∈l,jf g r)(hx:an (Dt p v) V (.sl l) x)(hN:ws.length+(l.flatMap (Iy f)).length<=1000000):Calls prog 121 #[pW p,x] V (WP p v V (ws++l.flatMap (Iy f))):=by
 obtain⟨a,cap,rfl,gF⟩:=hx.aU;have lC:l.length<=9223372036854775807:=gF;revert ih h bL hN hx;refine nx ?_;intro ih h bL hN hx;go_enter func121,ntmps121;go_wp2_with fail;go_loopg [4] l.length (λgg s4 wr=>∃k:Nat,s4=iV k/\k+gg=l.length/\WF p v V (ws++(l.take k).flatMap (Iy f)) [] wr)
 case atStart=>exact⟨0,rfl,by omega,(h.start).cast ai⟩
 case round=>
  obtain⟨j,rfl,zC,H⟩:=hrel;by_cases hj:j < l.length
  .obtain⟨row,aL⟩:∃s,l[j]?=some s:=⟨_,ck hj⟩
   have VQ:=bL row (cm aL);obtain⟨k,nm,n,es,tags,li,lb,le,rfl⟩:∃k nm n es tags li lb le,row=[.int k,.str nm,.int n,.sl es,.sl tags,.sl li,.sl lb,.sl le]:=by
    cases g with
    |zero=>exact VQ.elim
    |succ g=>obtain⟨k,nm,n,es,tags,li,lb,le,e,-⟩:=VQ;exact⟨_,_,_,_,_,_,_,_,e⟩
   obtain⟨b,off,rfl,hg,cs,hR,fY⟩:=hx.out.elem aL;obtain⟨c0,Ap,rfl,v0,hR⟩:=hR.aG;obtain⟨c1,U6,rfl,v1,hR⟩:=hR.aG;obtain⟨c2,T3,rfl,v2,hR⟩:=hR.aG;obtain⟨c3,Sx,rfl,v3,hR⟩:=hR.aG;obtain⟨c4,cs4,rfl,v4,hR⟩:=hR.aG;obtain⟨c5,cs5,rfl,v5,hR⟩:=hR.aG;obtain⟨c6,cs6,rfl,v6,hR⟩:=hR.aG;obtain⟨c7,cs7,rfl,v7,hR⟩:=hR.aG;have:=hR.jO;subst this
   cases v0.fu
   cases v1.bq
   cases v2.fu;obtain⟨p0,p1,p2,p3,p4,p5,p6,p7,-⟩:=hc (o:=off+j*8) λk _ e=>H.bA hg (fY k _ e);refine kM ?_;intro jS sQ;have hT:=Q3 (g:=Iy f) aL;have Lg:=VI (g:=Iy f) (l:=l) (k:=j+1);rw[hT,j0] at Lg;have Je:ws.length+((l.take j).flatMap (Iy f)).length+(oX f [.int k,.str nm,.int n,.sl es,.sl tags,.sl li,.sl lb,.sl le]).length+1<=1000000:=by
    have h1:=hN.out;have h2:(Iy f [.int k,.str nm,.int n,.sl es,.sl tags,.sl li,.sl lb,.sl le]).length=(oX f [.int k,.str nm,.int n,.sl es,.sl tags,.sl li,.sl lb,.sl le]).length+1:=by simp[Iy]
    rw[h2] at Lg;omega
   revert VQ v3 v4 v5 v6 v7 hT Je;refine TR ?_;intro VQ v3 v4 v5 v6 v7 hT Je;go_wp2_with fail;refine bD (H.step λv hq up=>ih f hf p v _ _ k nm n es tags li lb le c3 c4 c5 c6 c7 hq VQ (up v3) (up v4) (up v5) (up v6) (up v7) fO) λw3 H3=>?_;go_wp2_with fail;refine bD (H3.step λv hq up=>cN hq ";" fO) λw4 H4=>?_;replace H4:=ah H4;go_wp2_with fail;go_roundg (gk - 1)
   case measure=>omega
   case rel=>exact⟨j+1,rfl,by omega,H4.cast (by rw[hT.out];simp[Iy])⟩
  exact po
def aqC{f:Nat}{le:Zg}:oX (f+1) [.int 2,nm,n,(y::rest),tags,li,lb,le]=bE f y 1:=by exact gM
def aqD{f:Nat}{le:Zg}:oX (f+1) [.int 3,nm,n,(y::rest),tags,li,lb,le]=tx "create"::nm::tx "."::bE f y 8:=by exact gM
def aqE{f:Nat}{le:Zg}:oX (f+1) [.int 4,nm,n,(y::rest),tags,li,lb,le]=tx "if"::bE f y 1++tx "then"::lb.flatMap (Iy f)++(if le.isEmpty then[] else tx "else"::le.flatMap (Iy f))++[tx "end"]:=by exact gM
def aop{f:Nat}{le:Zg}:oX (f+1) [.int 10,nm,n,(y::rest),tags,li,lb,le]=tx "put"::bE f y 1:=by exact gM
def afC(ih:WSt g):WSt (g+1):=by
 intro f hf p v V ws k nm n es tags li lb le x3 x4 x5 x6 x7 h bL v3 v4 v5 v6 v7 hN;obtain⟨hk,he,h1,h4,h5⟩:=aiD bL;obtain⟨y,rest,rfl⟩:=A5 he;obtain⟨f,rfl⟩:∃m,f=m+1:=⟨f - 1,by omega⟩
 replace hf:2*g<=f:=ab;obtain⟨a,c3,rfl,gF⟩:=v3.aU;obtain⟨ae,ce,rfl,-⟩:=v7.aU;have qI:=h1 _ (eu ..);obtain⟨b,off,k1,xu,n1,l1,y1,rfl,hg,rfl,q0,q1,q2,q3,u1⟩:=vx (j:=0) v3 rfl qI;simp only[xL,fS] at q0 q1 q2 q3;obtain⟨W,hW⟩:∃W,oX (f+1) [.int k,.str nm,.int n,.sl ([.int k1,.str xu,.int n1,.sl l1]::rest),.sl tags,.sl li,.sl lb,.sl le]=W:=⟨_,rfl⟩
 rw[hW] at hN|-;obtain⟨rh,hT,S0⟩:=WG.alM h hN;rw[hT];obtain⟨KL,sc⟩:∃m,(([.int k1,.str xu,.int n1,.sl l1]::rest):List Row).length=m:=⟨_,rfl⟩
 rw[sc] at gF v3|-;have Ul:0 < KL:=by rw[<-sc];simp
 replace gF:KL<=9223372036854775807:=gF;have hy:y1.oneCell'=true:=u1.one;have S1:=S0.box (.cells #[.int .i64 k,.string (bs nm),.int .i64 n,sV (some ⟨b,off,none⟩) KL c3,x4,x5,x6,sV ae le.length ce] 239 (0,0));clear bL h1 v3 v4 v5 hN hT h sc he S0;obtain⟨d0,d1,d2,d3,d4,d5,d6,d7,-⟩:=cc (S1.heap 0);rcases hk with rfl|⟨rfl,hn8⟩|⟨rfl,hle⟩|rfl
 .replace S1:=S1.cast (hW.symm.trans (aqC.trans (gp _).symm));replace hW:=ah hW;replace hg:=ah hg;replace u1:=ah u1;replace qI:=ah qI;replace v6:=ah v6;replace v7:=ah v7;replace h4:=ah h4;replace h5:=ah h5;replace ih:=ah ih;go_enter func205,ntmps205;go_wp2_with fail;refine bD (sR Ul gF hy (S1.bA hg q0) (S1.bA hg q1) (S1.bA hg q2) (S1.bA hg q3)) λ_ P=>?_;have S2:=S1.no P;obtain⟨d0,d1,d2,d3,d4,d5,d6,d7,-⟩:=cc (S2.heap 0);go_wp2_with fail;refine S2.call (words:=bE f [.int k1,.str xu,.int n1,.sl l1] 1) (λv ws hq up hN=>pj g f hf p v _ _ k1 xu n1 l1 y1 1 ab ab hq qI (up u1) ab) λ_ S3=>?_;go_wp2_with fail;go_end0;exact S3.fin
 .replace hn8:=av7 (hn8 _ (eu ..));replace S1:=S1.cast (rest':=tx "create"::nm::tx "."::(bE f [.int k1,.str xu,.int n1,.sl l1] 8++[])) (hW.symm.trans (aqD.trans (by rw[gp])));replace hW:=ah hW;replace hg:=ah hg;replace u1:=ah u1;replace qI:=ah qI;replace v6:=ah v6;replace v7:=ah v7;replace h4:=ah h4;replace h5:=ah h5;replace ih:=ah ih;go_enter func205,ntmps205;go_wp2_with fail;refine S1.alL λ_ S2=>?_;obtain⟨d0,d1,d2,d3,d4,d5,d6,d7,-⟩:=cc (S2.heap 0);go_wp2_with fail;refine bD (sR Ul gF hy (S2.bA hg q0) (S2.bA hg q1) (S2.bA hg q2) (S2.bA hg q3)) λ_ P=>?_;have S3:=S2.no P;obtain⟨d0,d1,d2,d3,d4,d5,d6,d7,-⟩:=cc (S3.heap 0);go_wp2_with fail;refine S3.call (words:=bE f [.int k1,.str xu,.int n1,.sl l1] 8) (λv ws hq up hN=>pj g f hf p v _ _ k1 xu n1 l1 y1 8 ab (λ_=>hn8) hq qI (up u1) ab) λ_ S4=>?_;go_wp2_with fail;go_end0;exact S4.fin
 .replace S1:=S1.cast (rest':=tx "if"::(bE f [.int k1,.str xu,.int n1,.sl l1] 1++tx "then"::(lb.flatMap (Iy f)++tx "else"::(le.flatMap (Iy f)++[tx "end"])))) (hW.symm.trans (aqE.trans (by cases le with|nil=>exact absurd rfl hle|cons=>simp)));have BK:(0:Int) < (le.length:Int):=by have:=ac4.2 hle;omega
  replace hW:=ah hW;replace hg:=ah hg;replace u1:=ah u1;replace qI:=ah qI;replace v6:=ah v6;replace v7:=ah v7;replace h4:=ah h4;replace h5:=ah h5;replace ih:=ah ih;go_enter func205,ntmps205;go_wp2_with fail;refine S1.one λ_ S2=>?_;obtain⟨d0,d1,d2,d3,d4,d5,d6,d7,-⟩:=cc (S2.heap 0);go_wp2_with fail;refine bD (sR Ul gF hy (S2.bA hg q0) (S2.bA hg q1) (S2.bA hg q2) (S2.bA hg q3)) λ_ P=>?_;have S3:=S2.no P;obtain⟨d0,d1,d2,d3,d4,d5,d6,d7,-⟩:=cc (S3.heap 0);go_wp2_with fail;refine S3.call (words:=bE f [.int k1,.str xu,.int n1,.sl l1] 1) (λv ws hq up hN=>pj g f hf p v _ _ k1 xu n1 l1 y1 1 ab ab hq qI (up u1) ab) λ_ S4=>?_;obtain⟨d0,d1,d2,d3,d4,d5,d6,d7,-⟩:=cc (S4.heap 0);go_wp2_with fail;refine S4.one λ_ S5=>?_;obtain⟨d0,d1,d2,d3,d4,d5,d6,d7,-⟩:=cc (S5.heap 0);go_wp2_with fail;refine S5.call (words:=lb.flatMap (Iy f)) (λv ws hq up hN=>VS ih hf hq lb h4 (up v6) ab) λ_ S6=>?_;obtain⟨d0,d1,d2,d3,d4,d5,d6,d7,-⟩:=cc (S6.heap 0);go_wp2_with fail;refine S6.one λ_ S7=>?_;obtain⟨d0,d1,d2,d3,d4,d5,d6,d7,-⟩:=cc (S7.heap 0);go_wp2_with fail;refine S7.call (words:=le.flatMap (Iy f)) (λv ws hq up hN=>VS ih hf hq le h5 (up v7) ab) λ_ S8=>?_;obtain⟨d0,d1,d2,d3,d4,d5,d6,d7,-⟩:=cc (S8.heap 0);go_wp2_with fail;refine S8.one λ_ S9=>?_;go_wp2_with fail;go_end0;exact S9.fin
 .replace S1:=S1.cast (rest':=tx "put"::(bE f [.int k1,.str xu,.int n1,.sl l1] 1++[])) (hW.symm.trans (aop.trans (by rw[gp])));replace hW:=ah hW;replace hg:=ah hg;replace u1:=ah u1;replace qI:=ah qI;replace v6:=ah v6;replace v7:=ah v7;replace h4:=ah h4;replace h5:=ah h5;replace ih:=ah ih;go_enter func205,ntmps205;go_wp2_with fail;refine S1.one λ_ S2=>?_;obtain⟨d0,d1,d2,d3,d4,d5,d6,d7,-⟩:=cc (S2.heap 0);go_wp2_with fail;refine bD (sR Ul gF hy (S2.bA hg q0) (S2.bA hg q1) (S2.bA hg q2) (S2.bA hg q3)) λ_ P=>?_;have S3:=S2.no P;obtain⟨d0,d1,d2,d3,d4,d5,d6,d7,-⟩:=cc (S3.heap 0);go_wp2_with fail;refine S3.call (words:=bE f [.int k1,.str xu,.int n1,.sl l1] 1) (λv ws hq up hN=>pj g f hf p v _ _ k1 xu n1 l1 y1 1 ab ab hq qI (up u1) ab) λ_ S4=>?_;go_wp2_with fail;go_end0;exact S4.fin
def To:∀g,WSt g
 |0=>by
  intro f hf p v V ws k nm n es tags li lb le x3 x4 x5 x6 x7 h bL;exact bL.elim
 |g+1=>afC (To g)
structure aoq (g f:Nat) (lo b:Zg):Prop where
 ne:lo≠[]
 lo:∀x∈lo,VR f x
 b:∀x∈b,jf g x
abbrev feR(nm:Yz)(cl lo b:Zg):Row:=[.int 2,.str nm,.sl cl,.sl [],.int 0,.str [],.sl [],.bool false,.bool false,.sl lo,.sl [],.sl [],.sl b,.sl [],.bool false]
def VU{f:Nat}{cl b:Zg}(h:lo≠[]):nf f (feR nm cl lo b)=nm::tx "local"::(mm f lo++(tx "do"::(b.flatMap (Iy f)++[tx "end"]))):=by
 cases lo with
 |nil=>exact absurd rfl h
 |cons x l=>show[nm]++[]++[]++([]++(tx "local"::mm f (x::l))++[tx "do"]++b.flatMap (Iy f)++[]++[]++[tx "end"])=_;simp
def rS(V:YC)(g o:Nat):Nat->List Value->Prop
 |_,[]=>True
 |0,c::cs=>V.cell? ⟨g,o,none⟩=some c/\rS V g o 1 cs
 |j+1,c::cs=>V.cell? ⟨g,o+(j+1),none⟩=some c/\rS V g o (j+2) cs
def lO{V:YC}{g o:Nat}:∀(cs:YT) (j:Nat),(∀i u,cs[i]?=some u->V.cell? ⟨g,o+(j+i),none⟩=some u)->rS V g o j cs
 |[],j,_=>by cases j<;>exact bw
 |c::cs,0,h=>⟨by simpa using h 0 c rfl,lO cs 1 λi u hi=>by have:=h (i+1) u dA;rwa[fi,Nat.add_comm i 1] at this⟩
 |c::cs,j+1,h=>⟨by simpa using h 0 c rfl,lO cs (j+2) λi u hi=>by have:=h (i+1) u dA;rwa[show j+1+(i+1)=j+2+i by omega] at this⟩
def afF(h:WQ p v V ws){x:YE}(hx:an (Dt p v) V (.sl []) x):Calls prog 76 #[pW p,x] V (WP p v V (ws++[])):=by obtain⟨a,cap,rfl⟩:=hx.Mz;have S:=ah h.start;go_enter func76,ntmps76;go_wp2_with (refine wp_loop_once ?_);go_end0;exact⟨rfl,S.cast ai⟩
def wFe{f:Nat}(hf:2*g<=f){p:Nat}{v:YE}{V:YC}{ws:Y9}(h:WQ p v V ws)(nm:Yz)(cl lo b:Zg){x2 x3 x6 x9 xC zw As xw:YE}(ho:aoq g f lo b)(v3:an (Dt p v) V (.sl []) x3)(v9:an (Dt p v) V (.sl lo) x9)(v10:an (Dt p v) V (.sl []) xC)(v11:an (Dt p v) V (.sl []) zw)(v12:an (Dt p v) V (.sl b) As)(hN:ws.length+(nf f (feR nm cl lo b)).length<=1000000):Calls prog 79 #[pW p,.agg #[iV 2,.string (bs nm),x2,x3,iV 0,eS,x6,.bool false,.bool false,x9,xC,zw,As,xw,.bool false]] V (WP p v V (ws++nf f (feR nm cl lo b))):=by
 rw[VU ho.ne] at hN|-;obtain⟨a3,c3,rfl⟩:=v3.Mz;obtain⟨a9,c9,rfl,-⟩:=v9.aU;have h1:(0:Int) < (lo.length:Int):=by have:=ac4.2 ho.ne;omega
 obtain⟨rh,hT,S0⟩:=WG.alM h hN;rw[hT];have S1:=S0.box (.cells #[iV 2,.string (bs nm),x2,sV a3 0 c3,iV 0,eS,x6,.bool false,.bool false,sV a9 lo.length c9,xC,zw,As,xw,.bool false] 149 (0,0));obtain⟨d0,d1,d2,d3,d4,d5,d6,d7,d8,d9,d10,d11,d12,d13,d14,-⟩:=cc (S1.heap 0);replace ho:=ah ho;replace v9:=ah v9;replace v10:=ah v10;replace v11:=ah v11;replace v12:=ah v12;clear hN hT h v3;go_enter func79,ntmps79;go_wp2_with fail;refine S1.one λw2 S2=>?_;obtain⟨d0,d1,d2,d3,d4,d5,d6,d7,d8,d9,d10,d11,d12,d13,d14,-⟩:=cc (S2.heap 0);go_wp2_with fail;refine S2.call (words:=[]) (λv ws hq up hN=>av9 hq (up v10)) λw3 S3=>?_;obtain⟨d0,d1,d2,d3,d4,d5,d6,d7,d8,d9,d10,d11,d12,d13,d14,-⟩:=cc (S3.heap 0);go_wp2_with fail;refine S3.one λw4 S4=>?_;obtain⟨d0,d1,d2,d3,d4,d5,d6,d7,d8,d9,d10,d11,d12,d13,d14,-⟩:=cc (S4.heap 0);go_wp2_with fail;refine S4.call (words:=mm f lo) (λv ws hq up hN=>aaM hq lo ho.lo (up v9) ab) λw5 S5=>?_;obtain⟨d0,d1,d2,d3,d4,d5,d6,d7,d8,d9,d10,d11,d12,d13,d14,-⟩:=cc (S5.heap 0);go_wp2_with fail;refine S5.one λw6 S6=>?_;obtain⟨d0,d1,d2,d3,d4,d5,d6,d7,d8,d9,d10,d11,d12,d13,d14,-⟩:=cc (S6.heap 0);go_wp2_with fail;refine S6.call (words:=b.flatMap (Iy f)) (λv ws hq up hN=>VS (To g) hf hq b ho.b (up v12) ab) λw7 S7=>?_;obtain⟨d0,d1,d2,d3,d4,d5,d6,d7,d8,d9,d10,d11,d12,d13,d14,-⟩:=cc (S7.heap 0);go_wp2_with fail;refine S7.call (words:=[]) (λv ws hq up hN=>av9 hq (up v11)) λw8 S8=>?_;obtain⟨d0,d1,d2,d3,d4,d5,d6,d7,d8,d9,d10,d11,d12,d13,d14,-⟩:=cc (S8.heap 0);go_wp2_with fail;refine S8.one λw9 S9=>?_;go_wp2_with fail;go_end0;exact S9.fin
open Go.Shelf
attribute [local go_sem] Rs
def BR:Nat->Nat->List Nat->Option (List (aF×Nat))
 |_,_,[]=>some []
 |0,_,_=>none
 |f+1,a,c::r=>
  if c==32 then BR f (a+1) r
  else if[45,45].isPrefixOf (c::r) then none
  else
   let t:=if cB c then fD (c::r) else fE (c::r)
   match shape t with
   |none=>none
   |some k=>(BR f (a+t.length) ((c::r).drop t.length)).map ((⟨k,t⟩,a):: ·)
def afG{f a c:Nat}{r:Yz}{rem:List (aF×Nat)}(h:BR (f+1) a (c::r)=some rem)(h32:c≠32):[45,45].isPrefixOf (c::r)=false/\∃(t:Yz) (k:Nat) (Um:List (aF×Nat)),(if cB c then fD (c::r) else fE (c::r))=t/\shape t=some k/\BR f (a+t.length) ((c::r).drop t.length)=some Um/\rem=(⟨k,t⟩,a)::Um:=by
 unfold BR at h;rw[aE (by simpa using h32)] at h;obtain⟨t,ht⟩:∃t,(if cB c=true then fD (c::r) else fE (c::r))=t:=⟨_,rfl⟩
 simp only[ht] at h
 cases hc:[45,45].isPrefixOf (c::r) with
 |true=>rw[hc] at h;simp at h
 |false=>
  rw[hc,aE ai] at h
  cases hs:shape t with
  |none=>rw[hs] at h;cases h
  |some k=>rw[hs] at h;obtain⟨Um,h1,h2⟩:=Ue.1 h;exact⟨rfl,t,k,Um,ht,hs,h1,h2.symm⟩
def aaP:∀d:List Nat,(fD d).length<=d.length
 |[]=>by simp[fD]
 |c::r=>by
  unfold fD;split
  .simp only[dC];have:=aaP r;omega
  .simp
def aiE{r:Yz}{k:Nat}(h:shape (fD (95::r))=some k):False:=by
 have h1:fD (95::r)=95::fD r:=rfl;rw[h1] at h;unfold shape at h;split at h
 .rename_i hc;have:=(OD _ wI).1;simp[fD,cB] at this
 .simp at h
def Q6{T:UB}(h:V.heap[b]?=some (.cells cs T fr)):rS V b 0 0 cs.toList:=lO _ 0 λi u hi=>by
 have:=aC h i;exact Ew
def OV{w:YC}(h:Kept aK w w'):Below w.heap.size w w':=⟨h.os,h.tape,h.output,h.size,λi hi=>h.block i hi λe=>e⟩
def afH{d:Yz}(h:fE d=t):t.length<=d.length:=by
 subst h;unfold fE
 cases hf:cJ.find? λx=>x.isPrefixOf d with
 |none=>simp
 |some y=>have:=List.find?_some hf;simp only[List.isPrefixOf_iff_prefix] at this;exact this.length_le
def Kt(A B:YC):Prop:=(∀(b:Nat) (cs:Zt) (fr:RG),A.heap[b]?=some (.cells cs 300 fr)->∃NY,B.heap[b]?=some (.cells NY 300 fr)/\NY[5]?=cs[5]?)/\∀(b:Nat) (cs:Zt) (fr:RG),A.heap[b]?=some (.cells cs 9 fr)->B.heap[b]?=A.heap[b]?
def Kt.trans{A B C:YC}(h:Kt A B)(k:Kt B C):Kt A C:=by refine⟨λb cs fr hA=>?_,λb cs fr hA=>(k.2 b cs fr ((h.2 b cs fr hA).trans hA)).trans (h.2 b cs fr hA)⟩;obtain⟨c1,h1,e1⟩:=h.1 b cs fr hA;obtain⟨c2,h2,e2⟩:=k.1 b c1 fr h1;exact⟨c2,h2,e2.trans e1⟩
abbrev alN(x:aF×Nat):Array Value:=#[.agg #[iV x.1.k,.string (bs x.1.t),iV 0,iV 0,iV x.2,iV 0]]
def Env.below{n:Nat}{w:YC}(h:Env w)(hk:Below n w w')(hn:∀g,prog.globalNamed "strings.asciiSpace"=some g->g < n)(h1:1 < n):Env w':=by
 refine⟨?_,?_⟩
 .have ht:=h.tab;unfold Lib.TabIs World.var? at ht|-
  cases hg:prog.globalNamed "strings.asciiSpace" with
  |none=>rw[hg] at ht;cases ht
  |some g=>rw[hg] at ht;simp only[Ae] at ht|-;rw[hk.block g (hn g hg)];exact ht
 .obtain⟨m,hm⟩:=h.m1;exact⟨m,(hk.cell (p:=⟨1,0,none⟩) h1).trans hm⟩
def acd(n:Nat)(hn:1<=n)(s:Yz)(hs:bW s)(hsl:s.length<=1000000)(F:Nat)(ps:List (aF×Nat))(Qb:BR F 0 s=some ps)(l Bs n₀:Nat)(J Jx:List (aF×Nat)->World->Prop)(hJ:∀q W W',J q W->Below W.heap.size W W'->J q W')(hY:∀pre x W,J pre W->pre.length < ps.length->YieldAt Fence.wide (n - 1) prog l (alN x) W λe W'=>(e=.returned (.bool true)/\J (pre++[x]) W'/\Below n₀ W W'/\Kt W W')∨(e=.returned (.bool false)/\Jx (pre++[x]) W'))(W:YC)(hE:Env W)(hg:∀g,prog.globalNamed "strings.asciiSpace"=some g->g < n₀)(h1:1 < n₀)(h2:W.heap[Bs]?=some (.cells #[s] 9 (0,0)))(h0:J [] W)(nz:n₀<=W.heap.size):CallsIn Fence.wide n prog 295 #[.func (.yield l) #[] #[],.pointer Bs] W λe W'=>(∃v,e=.returned v)/\((∃ys,ys=ps/\J ys W')∨(∃pre,pre <+:ps/\Jx pre W')):=by
 refine callsIn_of_wp func295 rfl bw ?_ rfl;simp only[ntmps295,JG,dC,mc,Nat.reduceAdd,Nat.reduceSub,I1,I2,I3,I4,xR,qF];have hz:=dp s;revert hs Qb hE h2;refine jU ?_;intro hs Qb hE h2;gi_wp2;gi_loopw [3] (λi wr=>∃(a:Nat) (pre rem:List (aF×Nat)) (f:Nat),a<=s.length/\i=iV a/\Hid (BR f a (s.drop a)=some rem)/\Hid (ps=pre++rem)/\J pre wr/\Below n₀ W wr/\Hid (wr.heap[Bs]?=W.heap[Bs]?)) (λi _=>s.length - (intOf i).toNat)
 case atStart=>exact⟨0,[],ps,F,by omega,rfl,Qb,rfl,h0,iG _ _,rfl⟩
 case round=>
  obtain⟨a,pre,rem,f,ha,rfl,WE,hpr,hJs,hB,QG⟩:=hrel;have g2:wr.cell? ⟨Bs,0,none⟩=some (.string (bs s)):=by unfold World.cell?;rw[QG.out,h2.out];rfl
  replace hB:=ah hB;by_cases bQ:a < s.length
  .have xY:(a:Int) < (s.length:Int):=by omega
   have oL:(0:Int)<=(a:Int):=ab;have ij:(a:Int)<=(s.length:Int):=ab;obtain⟨d,hd⟩:∃d,s.drop a=d:=⟨_,rfl⟩
   rw[hd] at WE;obtain⟨c,r,hcr⟩:∃c r,d=c::r:=by
    cases d with
    |nil=>have:=gq List.length hd;simp at this;omega
    |cons c r=>exact⟨c,r,rfl⟩
   have hx:(bs s).extract a s.length=bs d:=by have:=wQ s a (s.length - a);rw[show a+(s.length - a)=s.length by omega,hd,oh (by rw[<-hd];simp)] at this;exact this
   have hdS:bW d:=λx hx=>hs x (A1 (hd▸hx));have SH:d.length=s.length - a:=by rw[<-hd];simp
   have nB:∀h,(bs d)[0]'h=UInt8.ofNat c:=by
    intro h;have h':(UInt8.ofNat c)=((bs d).data)[0]'h:=by simp[bs,hcr]
    exact h'.symm
   have gU:(UInt8.ofNat c).toNat=c:=by have:=hdS c (by rw[hcr];simp);simp;omega
   have hzd:=dp d;have gV:=ah (λw=>SY d hdS ab w);have I6:0 < d.length:=ab;revert hd hdS;refine ct ?_;intro hd hdS;have Nl:=ah hcr;clear hcr;gi_wp2_with fail;refine⟨bw,(mA.2 (gV _)).mono ?_⟩;rintro e w1 ⟨rfl,rfl⟩;by_cases h32:c=32
   .subst h32;gi_wp2_with fail;have hK:=ah ((iG _ wr).alloc (aM _) (cO #[oZ,eS,oZ,oZ,a,oZ] 300));have Pm:=ah hB.out.size;refine⟨⟨a+1,pre,rem,f - 1,by omega,by simp,?_,hpr,hJ _ _ _ hJs hK,hB.trans (hK.mono KY),(jm _ _ _ (cA _ _ g2)).trans QG⟩,by simp[intOf];omega⟩;have hp:=WE.out;rw[Nl.out] at hp
    cases f with
    |zero=>simp[BR] at hp
    |succ f=>
     have hp:BR f (a+1) r=some rem:=hp;have:s.drop (a+1)=r:=by rw[<-List.drop_drop,hd.out,Nl.out];rfl
     show BR f (a+1) (s.drop (a+1))=some rem;rw[this];exact hp
   .cases f with
    |zero=>have:=WE.out;rw[Nl.out] at this;simp[BR] at this
    |succ f=>
    have hp:=WE.out;rw[Nl.out] at hp;obtain⟨alO,t,k,Um,ht,eF,abn,hrm⟩:=afG hp h32;have I7:Lib.hasPrefix (bs d).data.toList (⟨#[45,45]⟩:ByteArray).data.toList=false:=by have e:=Yb [45,45] d (by intro x hx;simp at hx;subst hx;decide) hdS;rw[<-Nl.out] at alO;rw[<-alO,<-e];unfold Lib.hasPrefix bs;simp
    have arM:¬(c:Int)=32:=ab;clear hp;revert ht eF abn hrm;refine jU ?_;intro ht eF abn hrm;clear alO;gi_wp2_with fail;refine⟨bw,(mA.2 (Tryz.strings_HasPrefix _ _ _)).mono ?_⟩;rintro e w1 ⟨rfl,rfl⟩;rw[I7];have hEr:Env wr:=hE.below hB hg h1;by_cases aiF:cB c=true
    .have htr:fD d=t:=by have:=ht.out;rw[aI aiF] at this;rw[Nl.out];exact this
     have htl:(fD d).length=t.length:=by rw[htr]
     have ht0:0 < t.length:=by rw[<-htr,Nl.out];simp[fD,aiF]
     have htS:bW t:=λx hx=>hdS x (OG d x (htr▸hx));have htd:t.length<=d.length:=by rw[<-htr];exact aaP d
     have IL:c≠95:=by rintro rfl;have h2:=eF.out;rw[<-htr,Nl.out] at h2;exact aiE h2
     have ir:(bs d).extract 0 t.length=bs t:=by have:=wQ d 0 t.length;rw[fi,auT,<-htr,<-OH d] at this;rw[<-htr];exact this
     have h96:¬(c:Int)=95:=ab;have h97:(0:Int) < (t.length:Int):=ab;have h98:(t.length:Int)<=(d.length:Int):=ab;have h99:t.length<=d.length:=htd;rw[htl];gi_wp2_with fail;refine⟨bw,(mA.2 (ae8 htS ab eF (hEr.no ((Kept.refl aK wr).alloc _)))).mono ?_⟩;rintro e w2 ⟨rfl,K2⟩;have hb:w2.heap[wr.heap.size]?=some (cO #[oZ,t,oZ,oZ,a,oZ] 300):=aJ ao K2;have hbl:wr.heap.size < w2.heap.size:=(aQ.1 hb).1;have y0:=aC hb 0;have y5:=aC hb 5;have f0:=al hb;have hV0:=heap_setCell_same w2 wr.heap.size 0 (iV k) hb;have hV:((w2.setCell ⟨wr,0,none⟩ (iV k)).setCell ⟨wr,5,none⟩ (iV 0)).heap[wr.heap.size]?=some (cO #[k,t,oZ,oZ,a,oZ] 300):=heap_setCell_same _ wr.heap.size 5 (iV 0) hV0;have z:=Q6 hV;have Ma:Below wr.heap.size wr ((w2.setCell ⟨wr,0,none⟩ (iV k)).setCell ⟨wr,5,none⟩ (iV 0)):=(((iG _ wr).alloc (aM _) _).trans ((OV K2).mono ai)).setCell (aM _) _ |>.setCell (aM _) _;have hJV:=hJ _ _ _ hJs Ma;obtain⟨fn,tmps,assign,body,hy,hR⟩:=hY pre (⟨k,t⟩,a) _ hJV Lv;simp only[rS,fi,Nat.reduceAdd] at z;revert hV Ma;refine ct ?_;intro hV Ma;clear hV0;gi_wp2_with fail;refine hR.mono ?_;rintro e W3 (⟨rfl,hJ4,Mb,ZJ⟩|⟨rfl,abl⟩)
     .revert Mb ZJ;refine KU ?_;intro NY x5 Ph Pm hBn;refine⟨⟨a+t.length,pre++[(⟨k,t⟩,a)],Um,f,by omega,by simp,?_,by show _=_;rw[hpr.out,hrm.out];simp,hJ4,hBn,Ph⟩,by simp[intOf];omega⟩;exact DQ
     exact J4
    .have htr:fE d=t:=by have:=ht.out;rw[aE aiF] at this;rw[Nl.out];exact this
     have hr0:fD d=[]:=by rw[Nl.out];simp[fD,aiF]
     have ht0:0 < t.length:=by
      cases t with
      |nil=>have:=eF.out;simp[shape,cJ,tx] at this
      |cons=>simp
     have hk:k=5:=by
      have h2:=eF.out;have h3:cJ.contains t=true:=by
       rw[<-htr];unfold fE
       cases hf:cJ.find? λx=>x.isPrefixOf d with
       |none=>rw[<-htr] at ht0;unfold fE at ht0;rw[hf] at ht0;simp at ht0
       |some y=>simpa using W8 hf
      unfold shape at h2;rw[aI h3] at h2;exact(j6 h2).symm
     subst hk;have htd:t.length<=d.length:=afH htr;have hzt:=dp t;have h97:¬(t.length:Int)=0:=ab;have h98:¬t.length=0:=ab;have h99:t≠[]:=by rintro rfl;simp at ht0
     rw[hr0];gi_wp2_with fail;refine⟨bw,(mA.2 (aay d hdS _)).mono ?_⟩;rintro e w2 ⟨rfl,K2⟩;rw[htr];have hb:w2.heap[wr.heap.size]?=some (cO #[oZ,eS,oZ,oZ,a,oZ] 300):=aJ ao K2;have hbl:wr.heap.size < w2.heap.size:=(aQ.1 hb).1;have y0:=aC hb 0;have y5:=aC hb 1;have f0:=al hb;have hV0:=heap_setCell_same w2 wr.heap.size 0 (iV 5) hb;have hV:((w2.setCell ⟨wr,0,none⟩ (iV 5)).setCell ⟨wr,1,none⟩ (.string (bs t))).heap[wr.heap.size]?=some (cO #[iV 5,t,oZ,oZ,a,oZ] 300):=heap_setCell_same _ wr.heap.size 1 (.string (bs t)) hV0;have z:=Q6 hV;have Ma:Below wr.heap.size wr ((w2.setCell ⟨wr,0,none⟩ (iV 5)).setCell ⟨wr,1,none⟩ (.string (bs t))):=(((iG _ wr).alloc (aM _) _).trans ((OV K2).mono ai)).setCell (aM _) _ |>.setCell (aM _) _;have hJV:=hJ _ _ _ hJs Ma;obtain⟨fn,tmps,assign,body,hy,hR⟩:=hY pre (⟨5,t⟩,a) _ hJV Lv;simp only[rS,fi,Nat.reduceAdd] at z;revert hV Ma;refine ct ?_;intro hV Ma;have e5:((5:Nat):Int)=5:=rfl;simp only[alN,e5] at hy;clear hV0;gi_wp2_with fail;refine hR.mono ?_;rintro e W3 (⟨rfl,hJ4,Mb,ZJ⟩|⟨rfl,abl⟩)
     .revert Mb ZJ;refine KU ?_;intro NY x5 Ph Pm hBn;refine⟨⟨a+t.length,pre++[(⟨5,t⟩,a)],Um,f,by omega,by simp,?_,by show _=_;rw[hpr.out,hrm.out];simp,hJ4,hBn,Ph⟩,by simp[intOf];omega⟩;exact DQ
     exact J4
  .have hae:a=s.length:=by omega
   have abn:rem=[]:=by have:=WE.out;rw[sL ab] at this;unfold BR at this;simpa using this.symm
   have hJe:Hid (J ps wr):=ah (by rw[hpr.out,abn,gp];exact hJs);have xY:¬(a:Int) < (s.length:Int):=ab;clear abn;gi_wp2;go_end0;exact⟨⟨_,rfl⟩,.inl hJe⟩
abbrev awa(nm:Yz)(cr:Y9)(fn:Yz)(cl:Y9)(lo b:Zg):Row:=[.str nm,.bool false,.sl [],.sl [],.sl (strs cr),.sl [feR fn (strs cl) lo b],.sl []]
def ace{f:Nat}{fn:Yz}{b:Zg}{cr cl:Y9}:yP f (awa nm cr fn cl lo b)=tx "class"::nm::(ib "create" (strs cr)++(tx "feature"::tx "\x7b"::(du (cl.map λs=>[s])++(tx "\x7d"::(nf f (feR fn (strs cl) lo b)++[tx "end"]))))):=by have e:strsOf (strs cl)=cl:=mW;show[]++[tx "class",nm]++[]++[]++ib "create" (strs cr)++iy f none [feR fn (strs cl) lo b]++[]++[tx "end"]=_;simp[iy,lS,e]
def Ra{f:Nat}(hf:2*g<=f){p:Nat}{v:YE}{V:YC}{ws:Y9}(h:WQ p v V ws)(nm fn:Yz)(cr cl:Y9)(lo b:Zg){x2 x3 x4 x5 x6:YE}(ho:aoq g f lo b)(v2:an (Dt p v) V (.sl []) x2)(v3:an (Dt p v) V (.sl []) x3)(v4:an (Dt p v) V (.sl (strs cr)) x4)(v5:an (Dt p v) V (.sl [feR fn (strs cl) lo b]) x5)(v6:an (Dt p v) V (.sl []) x6)(hN:ws.length+(yP f (awa nm cr fn cl lo b)).length<=1000000):Calls prog 43 #[pW p,.agg #[.string (bs nm),.bool false,x2,x3,x4,x5,x6]] V (WP p v V (ws++yP f (awa nm cr fn cl lo b))):=by
 rw[ace] at hN|-;obtain⟨a2,c2,rfl⟩:=v2.Mz;obtain⟨a5,c5,rfl,-⟩:=v5.aU;obtain⟨rh,hT,S0⟩:=WG.alM h hN;rw[hT];have S1:=S0.box (.cells #[.string (bs nm),.bool false,sV a2 0 c2,x3,x4,sV a5 1 c5,x6] 83 (0,0));have d:=S1.c 0 1;have d':=S1.c 0 0;replace ho:=ah ho;replace v3:=ah v3;replace v4:=ah v4;replace v5:=ah v5;replace v6:=ah v6;clear v2 hT h hN S0;go_enter func43,ntmps43;go_wp2_with fail;refine S1.YA λw2 S2=>?_;have d:=S2.c 0 2;have d':=S2.c 0 3;go_wp2_with (refine wp_loop_once ?_);refine S2.call (words:=[]) (λv ws hq up hN=>afF hq (up v3)) λw3 S3=>?_;have d':=S3.c 0 4;go_wp2_with fail;refine S3.named v4 (λw4 S4=>?_) rfl ai;clear d d';go_wp2_with fail;go_loopg [5] 1 (λgg s5 wr=>Hid ((gg=1/\s5=iV 0/\WG p v V rh (tx "feature"::tx "\x7b"::(du (cl.map λs=>[s])++(tx "\x7d"::(nf f (feR fn (strs cl) lo b)++[tx "end"])))) [(V,.cells #[.string (bs nm),.bool false,sV a2 0 c2,x3,x4,sV a5 1 c5,x6] 83 (0,0))] wr)∨(gg=0/\s5=iV 1/\WG p v V rh [tx "end"] [(V,.cells #[.string (bs nm),.bool false,sV a2 0 c2,x3,x4,sV a5 1 c5,x6] 83 (0,0))] wr)))
 case atStart=>exact .inl ⟨rfl,rfl,S4⟩
 case round=>
  rcases hrel.out with⟨hgk,rfl,S⟩|⟨-,rfl,S⟩
  .clear hrel;replace hgk:=ah hgk;obtain⟨gb,off,rfl,hg,cs,hR,fY⟩:=v5.out.elem (k:=0) (row:=feR fn (strs cl) lo b) rfl;obtain⟨y0,Ap,rfl,u0,hR⟩:=hR.aG;obtain⟨y1,U6,rfl,u1,hR⟩:=hR.aG;obtain⟨y2,T3,rfl,u2,hR⟩:=hR.aG;obtain⟨y3,Sx,rfl,u3,hR⟩:=hR.aG;obtain⟨y4,cs4,rfl,u4,hR⟩:=hR.aG;obtain⟨y5,cs5,rfl,u5,hR⟩:=hR.aG;obtain⟨y6,cs6,rfl,u6,hR⟩:=hR.aG;obtain⟨y7,cs7,rfl,u7,hR⟩:=hR.aG;obtain⟨y8,cs8,rfl,u8,hR⟩:=hR.aG;obtain⟨y9,cs9,rfl,u9,hR⟩:=hR.aG;obtain⟨y10,ap8,rfl,QQ,hR⟩:=hR.aG;obtain⟨y11,ap9,rfl,QR,hR⟩:=hR.aG;obtain⟨y12,aqa,rfl,U3,hR⟩:=hR.aG;obtain⟨y13,aqb,rfl,U4,hR⟩:=hR.aG;obtain⟨y14,aqc,rfl,u14,hR⟩:=hR.aG
   cases hR.jO
   cases u0.fu
   cases u1.bq
   cases u4.fu
   cases u5.bq
   cases u7.iA
   cases u8.iA
   cases u14.iA;obtain⟨a2f,k2f,rfl,-⟩:=u2.aU;obtain⟨a9f,k9f,rfl,-⟩:=u9.aU;obtain⟨aiK,aiL,rfl,-⟩:=U3.aU;obtain⟨a3f,k3f,rfl⟩:=u3.Mz;obtain⟨a6f,k6f,rfl⟩:=u6.Mz;obtain⟨aiG,aiH,rfl⟩:=QQ.Mz;obtain⟨aiI,aiJ,rfl⟩:=QR.Mz;obtain⟨aiM,aiN,rfl⟩:=U4.Mz;have d:=S.c 0 5;have q:=lO (V:=wr) (g:=gb) (o:=off) _ 0 λi u hi=>S.bA hg (by have:=fY i u hi;simpa using this);simp only[rS] at q;have hb:=(S.box (.cells #[oZ,eS,nS,nS,oZ,eS,nS,.bool false,.bool false,nS,nS,nS,nS,nS,.bool false] 149 (0,0))).heap 0;replace hg:=ah hg;replace fY:=ah fY;replace u2:=ah u2;replace u3:=ah u3;replace u9:=ah u9;replace QQ:=ah QQ;replace QR:=ah QR;replace U3:=ah U3;go_wp2_with (refine str hb ?_);have S1:=S.YB #[oZ,eS,nS,nS,oZ,eS,nS,.bool false,.bool false,nS,nS,nS,nS,nS,.bool false] #[iV 2,.string (bs fn),sV a2f (strs cl).length k2f,sV a3f 0 k3f,iV 0,.string (bs []),sV a6f 0 k6f,.bool false,.bool false,sV a9f lo.length k9f,sV aiG 0 aiH,sV aiI 0 aiJ,sV aiK b.length aiL,sV aiM 0 aiN,.bool false] 149;obtain⟨W1,avh⟩:∃W,(wr.alloc (.cells #[oZ,eS,nS,nS,oZ,eS,nS,.bool false,.bool false,nS,nS,nS,nS,nS,.bool false] 149 (0,0))).setRow wr.heap.size #[iV 2,.string (bs fn),sV a2f (strs cl).length k2f,sV a3f 0 k3f,iV 0,.string (bs []),sV a6f 0 k6f,.bool false,.bool false,sV a9f lo.length k9f,sV aiG 0 aiH,sV aiI 0 aiJ,sV aiK b.length aiL,sV aiM 0 aiN,.bool false]=W:=⟨_,rfl⟩
   rw[avh] at S1|-;clear hb q d avh;simp only[Act.put];refine jB 12 [(0,0),(1,0),(2,0),(3,0),(4,0),(5,0),(6,0),(7,0),(8,0),(9,0),(10,0),(11,0),(12,2),(13,2),(14,2)] (λV=>True) af af (λ_ _ _ _ _ h=>h) bw ?_;iterate 12 ((first|refine Q8 ?_|(refine Q7 (v:=?_) ?_ (λV s=>?_);rotate_right; · (go_simp);with_reducible rfl));try simp only[Act.put,ma,mb,lj])
   refine qM (λK hK=>?_);go_simp;refine hK _ _ ?_;clear hK K;refine sp ?_;refine qM (λK hK=>?_);go_simp;refine hK _ _ ?_;clear hK K;refine sp ?_;refine qM (λK hK=>?_);go_simp;refine hK _ _ ?_;clear hK K;refine sp ?_;refine NT ?_;replace S1:=S1.no (Kept.refl aK W1).drew;go_wp2_with fail;refine S1.YA λw4 S4=>?_;have d:=S4.c 0 2;go_wp2_with fail;refine S4.call (words:=du (cl.map λs=>[s])) (λv ws hq up hN=>aaH hq cl (up u2) ab) λw5 S5=>?_;go_wp2_with fail;refine S5.one λw6 S6=>?_;have hb:=S6.heap 0;go_wp2_with (refine T6 hb ?_);refine S6.call (words:=nf f (feR fn (strs cl) lo b)) (λv ws hq up hN=>wFe hf hq fn (strs cl) lo b ho (up u3) (up u9) (up QQ) (up QR) (up U3) ab) λw7 S7=>?_;go_wp2_with fail;go_roundg (gk - 1)
   case measure=>have:=hgk.out;omega
   case rel=>exact .inr ⟨by have:=hgk.out;omega,rfl,S7.tail⟩
  .clear hrel;have d:=S.c 0 5;have d':=S.c 0 6;go_wp2_with fail;refine S.call (words:=[]) (λv ws hq up hN=>av9 hq (up v6)) λw4 S4=>?_;exact asP
def Q9{S':Wq}{w:YC}(a b:Y9)(ha:∀s∈a,bW s)(hb:∀s∈b,bW s){x y:YE}(hx:an S w (.sl (strs a)) x)(hy:an S' w (.sl (strs b)) y):Calls prog 12 #[x,y] w λe w'=>e=.returned (.bool (decide (a=b)))/\Kept aK w w':=by
 obtain⟨a1,c1,rfl,xY⟩:=hx.aU;obtain⟨a2,c2,rfl,oL⟩:=hy.aU;have rG:(strs a).length=a.length:=bR;have xB:(strs b).length=b.length:=bR;rw[rG] at hx xY|-;rw[xB] at hy oL|-;have hm1:a.length<=9223372036854775807:=xY;have cg:b.length<=9223372036854775807:=oL;revert ha hb hx hy;refine jU ?_;intro ha hb hx hy;by_cases hl:a.length=b.length
 .have hl':(a.length:Int)=(b.length:Int):=by omega
  have j8:=Kept.refl aK w;obtain⟨B,hB⟩:∃B,decide (a=b)=B:=⟨_,rfl⟩
  rw[hB];revert hl hB;refine ct ?_;intro hl hB;go_enter func12,ntmps12;go_wp2_with fail;go_loopg [5] a.length (λgg s5 wr=>∃k:Nat,s5=iV k/\k+gg=a.length/\Hid (a.take k=b.take k)/\Hid (Kept aK w wr))
  case atStart=>exact⟨0,rfl,by omega,by simp[Hid],j8⟩
  case round=>
   obtain⟨j,rfl,zC,hT,hK⟩:=hrel;by_cases hj:j < a.length
   .obtain⟨s,hs⟩:∃s,a[j]?=some s:=⟨_,ck hj⟩
    obtain⟨t,ht⟩:∃t,b[j]?=some t:=⟨_,ck wo⟩
    obtain⟨g,off,rfl,-,cs,hR,fY⟩:=hx.out.elem (k:=j) (row:=[.str s]) wC;obtain⟨g',VP,rfl,-,NY,hR',aqJ⟩:=hy.out.elem (k:=j) (row:=[.str t]) (by simp[strs,ht]);obtain⟨c0,Ap,rfl,v0,-⟩:=hR.aG;obtain⟨d0,ds0,rfl,u0,-⟩:=hR'.aG
    cases v0.bq
    cases u0.bq;have q1:wr.cell? ⟨g,off+j,none⟩=some (.string (bs s)):=hK.aq kg (λe=>e);have q2:wr.cell? ⟨g',VP+j,none⟩=some (.string (bs t)):=hK.aq (by have:=aqJ 0 _ rfl;simpa using this) (λe=>e);have jS:(j:Int) < (a.length:Int):=ab;have sQ:(0:Int)<=(j:Int):=ab;have hj3:j < b.length:=wo;have hS:=ha s (cm hs);have hS':=hb t (cm ht);have hTs:a.take (j+1)=a.take j++[s]:=Gi;have hTt:b.take (j+1)=b.take j++[t]:=by rw[wZ,ht];rfl
    revert hTs hTt;refine ct ?_;intro hTs hTt;by_cases jq:s=t
    .have arN:=ah jq;subst jq;go_wp2_with fail;go_quiet (fail)
     go_wp2_with fail;go_roundg (gk - 1)
     case measure=>omega
     case rel=>exact⟨j+1,rfl,by omega,by show _=_;rw[hTs.out,hTt.out,hT.out],Kept.drewN hK⟩
    .have cR:((bs s).toList==(bs t).toList)=false:=by rw[cH hS hS'];simpa using jq
     have hB':B=false:=by rw[<-hB.out];refine B5 λe=>jq ?_;have h1:=hTs.symm.trans ((gq (List.take (j+1)) e).trans hTt);exact List.singleton_inj.1 (List.append_inj_right' h1 rfl)
     subst hB';go_wp2_with fail;go_quiet (fail)
     go_wp2_with fail;go_ret;exact⟨rfl,Kept.drewN hK⟩
   .have jS:¬((j:Int) < (a.length:Int)):=by omega
    have hB':B=true:=by rw[<-hB.out];have:=hT.out;rw[oh ab,oh wo] at this;exact B4 this
    subst hB';exact mE
 .have hl':¬(a.length:Int)=(b.length:Int):=by omega
  have e:decide (a=b)=false:=B5 λe=>hl (by rw[e]);rw[e];go_enter func12,ntmps12;go_wp2_with fail;go_ret;exact⟨rfl,Kept.refl _ _⟩
open Go.IntWalk
def cf:List (List Nat)->List Nat
 |[]=>[]
 |[x]=>x
 |x::r=>x++32::cf r
def BF(y:Yz):∀xs:List (List Nat),cf (xs++[y])=cf xs++((if xs=[] then[] else[32])++y)
 |[]=>by simp[cf]
 |[x]=>by simp[cf]
 |x::z::xs=>by
  have:=BF y (z::xs);simp only[qF,cf,aE (List.cons_ne_nil _ _)] at this|-;rw[this];simp
def Qe{l:Y9}:∀{k:Nat},k<=l.length->(cf (l.take k)).length<=(cf l).length:=by
 intro k hk;obtain⟨n,hn⟩:∃n,l.length=k+n:=⟨l.length - k,by omega⟩
 induction n generalizing k with
 |zero=>rw[oh ab];exact aM _
 |succ n ih=>
  obtain⟨x,hx⟩:∃x,l[k]?=some x:=⟨_,ck ab⟩
  have h2:=ih (k:=k+1) ab ab;rw[wZ,hx,Qq,BF,j0] at h2;omega
abbrev u8s(s:Yz):List Value:=s.map fun(c:Nat)=>Value.int .u8 (c:Int)
def aov:(prog.info? 5).map (λi=>(i.zero,i.size,i.bytes))=some (some (.int .u8 0),1,1):=by kernel_rfl
def OW{w:YC}{k:Wr}(h:w.grownBy w' k):Kept (λb=>k=some b) w w':=⟨h.os,h.tape,h.output,h.size,λi hi hn=>h.block i hi λe=>hn e.symm⟩
def IA{E:UB}{n:Nat}(hr:W.ownsRow N E z v n xs)(k:Nat)(e:v.ownBlock=some k):N<=k:=by exact J8
def alR(hs:bW s):Lib.strCells (bs s)=u8s s:=by unfold Lib.strCells bs;simp only[AY];refine Rl λc hc=>?_;have:=hs c hc;simp;omega
def aiO(s:Yz):strOfNums (s.map Int.ofNat)=bs s:=by unfold strOfNums bs;simp[AY,Function.comp_def]
def afK{base n:Nat}(h:W.ownsRow base 5 1 v n (u8s s)):(convert 152 9 v).run prog W=.ok (.string (bs s)) W:=by
 have hn:n=s.length:=by have:=h.1;simpa using this.symm
 subst hn;have xp:=@World.ownsRow.cells;rcases h.2 with⟨rfl,h0⟩|⟨g,cap,cur,rfl,hb,hg,_,_,hc,ht⟩
 .have:s=[]:=JK h0;subst this;exact run_convert_bytes_nil (P:=prog) W 152 5 underlying152 underlying5 0 0 9 underlying9
 .rw[<-aiO];refine run_convert_bytes_arg W 152 5 underlying152 underlying5 g 0 s.length cap (s.map Int.ofNat) ai (λi hi=>?_) 9 underlying9;have:=h.cells (g:=g) rfl i (.int .u8 ((s.map Int.ofNat).getD i 0)) (by simp[hi]);rwa[MP] at this
def acf{w:YC}(l:Y9)(bL:∀s∈l,bW s){x:YE}(hx:an S w (.sl (strs l)) x)(hN:(cf l).length<=1000000):Calls prog 44 #[x] w λe w'=>e=.returned (.string (bs (cf l)))/\Kept aK w w':=by
 obtain⟨a,cap,rfl,gF⟩:=hx.aU;have rG:(strs l).length=l.length:=bR;rw[rG] at hx gF|-;have lC:l.length<=9223372036854775807:=gF;obtain⟨i5,hi,hz,dM,dY⟩:=dN aov;revert bL hN hx hi hz dM dY;refine Wy ?_;intro bL hN hx hi hz dM dY;clear gF rG;go_enter func44,ntmps44;go_wp2_with fail;go_loopg [3,4] l.length (λgg s3 s4 wr=>∃k:Nat,s4=iV k/\k+gg=l.length/\Hid (wr.ownsRow w.heap.size 5 1 s3 (cf (l.take k)).length (u8s (cf (l.take k))))/\Hid (Kept aK w wr))
 case atStart=>exact⟨0,rfl,by omega,⟨by simp[cf],.inl ⟨rfl,by simp[cf]⟩⟩,Kept.refl _ _⟩
 case round=>
  obtain⟨j,rfl,zC,hO,hK⟩:=hrel;by_cases hj:j < l.length
  .obtain⟨s,hs⟩:∃s,l[j]?=some s:=⟨_,ck hj⟩
   obtain⟨g,off,rfl,-,cs,hR,fY⟩:=hx.out.elem (k:=j) (row:=[.str s]) wC;obtain⟨c0,Ap,rfl,v0,-⟩:=hR.aG
   cases v0.bq;refine kM ?_;intro jS sQ;have hT:cf (l.take (j+1))=cf (l.take j)++((if j=0 then[] else[32])++s):=by
    rw[wZ,hs,Qq,BF];by_cases h0:j=0
    .subst h0;simp
    .rw[aE h0,aE];intro e;have:=gq List.length e;rw[sK,mc] at this;omega
   have hTl:=Qe (l:=l) (k:=j+1) ab;have hS:=bL s (cm hs);revert hT hTl hS;refine jk ?_;intro hT hTl hS;have hw:=hK.size;replace hw:=ah hw;have hq:w.cell? ⟨g,off+j,none⟩=some (.string (bs s)):=kg;replace hq:=ah hq;clear hR fY v0 hs;go_upto_if 12 with fail;go_cut [3,4] from 5 to 15 (λs3 s4 wc=>s4=iV j/\Hid (wc.ownsRow w.heap.size 5 1 s3 (cf (l.take j)++(if j=0 then[] else[32])).length (u8s (cf (l.take j)++(if j=0 then[] else[32]))))/\Hid (Kept aK w wc))
   case first=>
    by_cases h0:j=0
    .have h1:¬(0:Int) < (j:Int):=by omega
     have iH:Hid (wr.ownsRow w.heap.size 5 1 u3 (cf (l.take j)++(if j=0 then[] else[32])).length (u8s (cf (l.take j)++(if j=0 then[] else[32])))):=by rw[aI h0,gp];exact hO
     clear h0;go_wp2_with fail;go_meet
     case rel=>exact⟨rfl,iH,hK⟩
    .have h1:(0:Int) < (j:Int):=by omega
     have hL:(cf (l.take j)).length+1<=1000000:=by have e1:=hTl.out;rw[hT.out,aE h0] at e1;have e2:=hN.out;simp at e1;omega
     revert h0 hL;refine ct ?_;intro h0 hL;refine kN ?_;refine wpList_append_own (P:=prog) _ rfl _ _ 152 rfl w.heap.size 5 i5 (.int .u8 0) 1 1 underlying152 hi hz dM dY rfl aj _ _ _ rfl (hO.alloc _) ⟨wr,0,none⟩ 1 1 [.int .u8 32] rfl rfl (eH) qj (by have:=hL.out;simp[maxLen];omega) (by have:=hL.out;omega) (by have:=hw.out;simp;omega) ?_;intro v' w2 ep qN _;have iH:Hid (w2.ownsRow w.heap.size 5 1 v' (cf (l.take j)++(if j=0 then[] else[32])).length (u8s (cf (l.take j)++(if j=0 then[] else[32])))):=by rw[aE h0.out];simpa[u8s,Hid] using ep
     have H0:Hid (Kept aK w w2):=(hK.alloc _).trans (OW qN) λi hi e=>by have:=IA hO i e;omega
     clear ep qN;go_wp2_with fail;go_meet
     case rel=>exact⟨rfl,iH,H0⟩
   case rest=>
   obtain⟨rfl,iH,H0⟩:=hcut;have xG:=H0.aq hq λe=>e;have hw':=ah H0.out.size;have hSl:Hid ((cf (l.take j)++(if j=0 then[] else[32])).length+(bs s).size<=1000000):=by have e1:=hTl.out;rw[hT.out,<-I5,j0] at e1;have e2:=hN.out;rw[tf];show _<=_;omega
   clear hO;refine kN ?_;refine Lib.wpList_append_own_string (P:=prog) _ rfl _ _ 152 9 rfl w.heap.size 5 i5 underlying152 underlying9 hi hz dM dY _ _ _ rfl iH (bs s) rfl (by have:=hSl.out;simp only[maxLen];omega) (by have:=hSl.out;omega) hw' ?_;intro v' w2 ep qN _;have qY:Hid (w2.ownsRow w.heap.size 5 1 v' (cf (l.take (j+1))).length (u8s (cf (l.take (j+1))))):=by rw[alR hS.out,tf] at ep;rw[hT.out,<-I5];simpa[u8s,Hid,xP] using ep
   have gu:Hid (Kept aK w w2):=H0.trans (OW qN) λi hi e=>by have:=IA iH i e;omega
   clear ep qN;go_wp2_with fail;go_roundg (gk - 1)
   case measure=>omega
   case rel=>exact⟨j+1,rfl,by omega,qY,gu⟩
  .have jS:¬((j:Int) < (l.length:Int)):=by omega
   rw[oh ab] at hO;have hc:=afK hO;exact mE
def axD(w:Yz):Bool:=(shape w).isSome&&!w.isEmpty&&(w.all cB||cJ.contains w)
def tk(w:Yz):aF:=⟨(shape w).getD 0,w⟩
def afL(t:Yz):Prop:=t=[]∨∃r,t=32::r∨t=10::r
def VX{t:Yz}(ht:afL t):∀w:List Nat,w.all cB=true->fD (w++t)=w
 |[],_=>by
  rcases ht with rfl|⟨r,rfl|rfl⟩<;>rfl
 |c::w,h=>by
  simp only[tD,dD] at h;show(if cB c then c::fD (w++t) else[])=_;rw[aI h.1,VX ht w h.2]
def afM(ht:afL t){w:Yz}(h:w∈cJ):fE (w++t)=w/\(∃c r,w=c::r/\cB c=false/\c≠10/\c≠32/\(c=45->r=[])):=by simp only[cJ,cZ,as5,as6] at h;rcases ht with rfl|⟨r,rfl|rfl⟩<;>rcases h with rfl|rfl|rfl|rfl|rfl|rfl|rfl|rfl|rfl|rfl|rfl|rfl|rfl|rfl|rfl|rfl|rfl|rfl|rfl|rfl|rfl|rfl<;>exact⟨rfl,_,_,rfl,by decide,by decide,by decide,by decide⟩
def IB{w:Yz}(ht:afL t)(h:axD w=true):∃c r,w=c::r/\c≠32/\c≠10/\shape w=some (tk w).k/\(if cB c=true then fD (w++t) else fE (w++t))=w/\(c=45->r=[]):=by
 unfold axD at h;simp only[dD,j5,xQ] at h;obtain⟨⟨h1,h2⟩,h3⟩:=h;have hs:shape w=some (tk w).k:=by
  unfold tk
  cases e:shape w with
  |none=>rw[e] at h1;cases h1
  |some k=>rfl
 rcases h3 with h3|h3
 .cases w with
  |nil=>cases h2
  |cons c r=>have hc:cB c=true:=atM;have h4:=hc;simp only[cB,cV,jT,iD,j5,dD,oM,dU] at h4;exact⟨c,r,rfl,by omega,by omega,hs,by rw[aI hc];exact VX ht _ h3,by intro e;omega⟩
 .obtain⟨e1,c,r,rfl,e2,e3,e4,e5⟩:=afM ht (by simpa using h3:w∈cJ);exact⟨c,r,rfl,e4,e3,hs,by rw[e2,aE ai];exact e1,e5⟩
def VY{w:Yz}(ht:afL t)(h:axD w=true)(f:Nat):qQ (f+1) (w++t)=(qQ f t).map (tk w:: ·):=by
 obtain⟨c,r,rfl,h1,h2,h3,h4,h5⟩:=IB ht h;have h6:(c==45&&(match r++t with|d::_=>d==45|[]=>false))=false:=by
  by_cases e:c=45
  .obtain rfl:=h5 e;rcases ht with rfl|⟨r,rfl|rfl⟩<;>simp
  .simp[e]
 show(if(c==10||c==32)=true then qQ f (r++t) else if(c==45&&(match r++t with|d::_=>d==45|[]=>false))=true then none else
  let x:=if cB c=true then fD (c::(r++t)) else fE (c::(r++t));match shape x with|none=>none|some k=>(qQ f ((c::(r++t)).drop x.length)).map (⟨k,x⟩:: ·))=_
 rw[aE (by simp[h1,h2]),aE (by rw[h6];simp)];exact Nk
def VZ:∀(ws:Y9),(∀w∈ws,axD w=true)->ws≠[]->∀(f:Nat) (r:Yz),qQ (f+2*ws.length) (cf ws++10::r)=(qQ f r).map (ws.map tk++ ·)
 |[],_,h,_,_=>absurd rfl h
 |[w],hw,_,f,r=>by
  show qQ (f+1+1) (w++10::r)=_;rw[VY (.inr ⟨r,.inr rfl⟩) (hw w ai)];rfl
 |w::v::ws,hw,_,f,r=>by
  have ih:=VZ (v::ws) (λx hx=>hw x (eC _ hx)) ai f r;have e:cf (w::v::ws)++10::r=w++32::(cf (v::ws)++10::r):=by show(w++32::cf (v::ws))++10::r=_;simp
  have e2:f+2*(w::v::ws).length=(f+2*(v::ws).length+1)+1:=by simp only[dC];omega
  rw[e,e2,VY (.inr ⟨_,.inl rfl⟩) (hw w ai)];show(qQ (f+2*(v::ws).length) (cf (v::ws)++10::r)).map _=_;rw[ih]
  cases qQ f r<;>simp
def aaR{w:Yz}(ht:afL t)(h:axD w=true)(f a:Nat):BR (f+1) a (w++t)=(BR f (a+w.length) t).map ((tk w,a):: ·):=by
 obtain⟨c,r,rfl,h1,h2,h3,h4,h5⟩:=IB ht h;have h6:[45,45].isPrefixOf (c::(r++t))=false:=by
  by_cases e:c=45
  .obtain rfl:=h5 e;subst e;rcases ht with rfl|⟨r,rfl|rfl⟩<;>rfl
  .show(45==c&&[45].isPrefixOf (r++t))=false;rw[show(45==c)=false by simp;omega];rfl
 show(if(c==32)=true then BR f (a+1) (r++t) else if[45,45].isPrefixOf (c::(r++t))=true then none else
  let x:=if cB c=true then fD (c::(r++t)) else fE (c::(r++t));match shape x with|none=>none|some k=>(BR f (a+x.length) ((c::(r++t)).drop x.length)).map ((⟨k,x⟩,a):: ·))=_
 rw[aE (by simp[h1]),aE (by rw[h6];simp)];exact Nk
def Tq:∀(ws:Y9),(∀w∈ws,axD w=true)->∀(f a:Nat),2*ws.length<=f->∃ps,BR f a (cf ws)=some ps/\ps.map (·.1)=ws.map tk
 |[],_,f,a,_=>⟨[],by cases f<;>rfl,rfl⟩
 |[w],hw,f,a,hf=>by
  obtain⟨f,rfl⟩:∃g,f=g+1:=⟨f - 1,by simp at hf;omega⟩
  have:=aaR (t:=[]) (.inl rfl) (hw w ai) f a;rw[gp] at this;exact⟨[(tk w,a)],by show BR (f+1) a w=_;rw[this];cases f<;>rfl,rfl⟩
 |w::v::ws,hw,f,a,hf=>by
  obtain⟨f,rfl⟩:∃g,f=g+1+1:=⟨f - 2,by simp at hf;omega⟩
  obtain⟨ps,h1,h2⟩:=Tq (v::ws) (λx hx=>hw x (eC _ hx)) f (a+w.length+1) (by simp at hf|-;omega);refine⟨(tk w,a)::ps,?_,by simp[h2]⟩;show BR (f+1+1) a (w++32::cf (v::ws))=_;rw[aaR (.inr ⟨_,.inl rfl⟩) (hw w ai)];show(BR f (a+w.length+1) (cf (v::ws))).map _=_;rw[h1];rfl
def OX:Code->List ByteArray
 |.region _ ops _=>ops.toList.filterMap λo=>match o.op with|.assign (.const (.string b))=>if b.size < 60 then none else some b|_=>none
 |.seq a b=>OX a++OX b
 |.cond _ a b=>OX a++OX b
 |.block _ a=>OX a
 |.loop a=>OX a
 |_=>[]
def aiP(P:T1):List ByteArray:=match P.funcs[30]? with|some f=>(match f.body with|some c=>OX c|none=>[])|none=>[]
def tL(P:T1)(k:Nat):List Nat:=((aiP P).getD k ⟨#[]⟩).data.toList.map UInt8.toNat
def alS(s:Yz):List (List Nat):=s.foldr (λc acc=>if c==32 then[]::acc else match acc with|x::xs=>(c::x)::xs|[]=>[[c]]) [[]]
def Qf(P:T1)(k:Nat):List (List Nat):=alS (tL P k)
def LN(P:T1)(k:Nat):List aF:=(Qf P k).map tk
def nC(P:T1)(k:Nat):Row:=match iw 60 (LN P k) with|some (r,[])=>r|_=>[]
def YD:((List.range 12).all λk=>cf (Qf prog k)==tL prog k&&(Qf prog k).all axD&&(tL prog k).all (λc=>decide (c < 256))&&decide ((Qf prog k).length < 1000))=true:=by decide+kernel
def acg(k:Nat)(hk:k < 12)(rest:Zi):iw 60 (LN prog k++rest)=some (nC prog k,rest):=by
 match k,hk with
 |0,_=>show iw 60 (LN prog 0++rest)=some (nC prog 0,rest);kernel_rfl
 |1,_=>show iw 60 (LN prog 1++rest)=some (nC prog 1,rest);kernel_rfl
 |2,_=>show iw 60 (LN prog 2++rest)=some (nC prog 2,rest);kernel_rfl
 |3,_=>show iw 60 (LN prog 3++rest)=some (nC prog 3,rest);kernel_rfl
 |4,_=>show iw 60 (LN prog 4++rest)=some (nC prog 4,rest);kernel_rfl
 |5,_=>show iw 60 (LN prog 5++rest)=some (nC prog 5,rest);kernel_rfl
 |6,_=>show iw 60 (LN prog 6++rest)=some (nC prog 6,rest);kernel_rfl
 |7,_=>show iw 60 (LN prog 7++rest)=some (nC prog 7,rest);kernel_rfl
 |8,_=>show iw 60 (LN prog 8++rest)=some (nC prog 8,rest);kernel_rfl
 |9,_=>show iw 60 (LN prog 9++rest)=some (nC prog 9,rest);kernel_rfl
 |10,_=>show iw 60 (LN prog 10++rest)=some (nC prog 10,rest);kernel_rfl
 |11,_=>show iw 60 (LN prog 11++rest)=some (nC prog 11,rest);kernel_rfl
def eN:List (List Nat):=[tx "LINK",tx "INTS",tx "SORTED",tx "NODE",tx "STACK",tx "QUEUE",tx "ENTRY",tx "TABLE",tx "SET",tx "COUNTER",tx "RANGE",tx "ARITH"]
def zO:List (List (List Nat)):=[[],[tx "LINK"],[tx "LINK",tx "INTS"],[],[tx "NODE"],[tx "LINK"],[],[tx "ENTRY"],[tx "LINK",tx "INTS"],[],[],[]]
def WT(P:T1)(k:Nat):Row:=[(eN.getD k []),(strs (zO.getD k [])),(tL P k)]
def ach(P:T1):List Row:=[WT P 0,WT P 1,WT P 2,WT P 3,WT P 4,WT P 5,WT P 6,WT P 7,WT P 8,WT P 9,WT P 10,WT P 11]
def IC(b:YR):bs (b.data.toList.map UInt8.toNat)=b:=by obtain⟨⟨l⟩⟩:=b;have h:(λn=>UInt8.ofNat n) ∘ UInt8.toNat=id:=funext λu=>UInt8.ofNat_toNat;unfold bs;simp[h]
def Rb(b:YR):bW (b.data.toList.map UInt8.toNat):=λc hc=>by
 obtain⟨u,_,rfl⟩:=dO.1 hc;exact u.toNat_lt
def dS(l:Y9)(h:V.heap[b]?=some (.cells (l.map λs=>Value.string (bs s)).toArray 9 (0,0)))(hS:S b)(hl:l.length<=1000):an S V (.sl (strs l)) (sV b l.length l.length):=by
 have e:(strs l).length=l.length:=bR;have:=aW (S:=S) (w:=V) (rows:=strs l) (css:=l.map λs=>[Value.string (bs s)]) (wd:=1) (cap:=l.length) h (aaN l) (by
  unfold strs;clear h hl e;induction l with
  |nil=>exact .nil
  |cons x l ih=>exact .cons ⟨rfl,.cons (.str x) .nil⟩ ih) hS atW wj
 rwa[e] at this
def afN(w:YC):Calls prog 33 #[] w λe w'=>∃g,e=.returned (sV (some ⟨g,0,none⟩) 12 12)/\an w w' (.sl (ach prog)) (sV (some ⟨g,0,none⟩) 12 12)/\Kept aK w w':=by
 go_enter func33,ntmps33;go_wp2;go_ret;obtain⟨W,hW⟩:∃W,W=(((((w.alloc (cO #[.string fI] 9)).alloc (cO #[.string fI,.string gG] 9)).alloc (cO #[.string tA] 9)).alloc (cO #[.string fI] 9)).alloc (cO #[.string qz] 9)).alloc (cO #[.string fI,.string gG] 9):=⟨_,rfl⟩
 rw[<-hW];have hs:W.heap.size=w.heap.size+1+1+1+1+1+1:=iS;have hK:Kept aK w W:=by rw[hW];exact((((((Kept.refl aK w).alloc _).alloc _).alloc _).alloc _).alloc _).alloc _
 have n0:W.heap[w.heap.size]?=some (.cells #[.string fI] 9 (0,0)):=by rw[hW];simp only[heap_alloc,dB];repeat (first|rw[aI bw]|rw[aI rfl]|rw[aE ab])
 have n1:W.heap[w.heap.size+1]?=some (.cells #[.string fI,.string gG] 9 (0,0)):=by rw[hW];simp only[heap_alloc,dB];repeat (first|rw[aI bw]|rw[aI rfl]|rw[aE ab])
 have n2:W.heap[w.heap.size+1+1]?=some (.cells #[.string tA] 9 (0,0)):=by rw[hW];simp only[heap_alloc,dB];repeat (first|rw[aI bw]|rw[aI rfl]|rw[aE ab])
 have n3:W.heap[w.heap.size+1+1+1]?=some (.cells #[.string fI] 9 (0,0)):=by rw[hW];simp only[heap_alloc,dB];repeat (first|rw[aI bw]|rw[aI rfl]|rw[aE ab])
 have n4:W.heap[w.heap.size+1+1+1+1]?=some (.cells #[.string qz] 9 (0,0)):=by rw[hW];simp only[heap_alloc,dB];repeat (first|rw[aI bw]|rw[aI rfl]|rw[aE ab])
 have n5:W.heap[w.heap.size+1+1+1+1+1]?=some (.cells #[.string fI,.string gG] 9 (0,0)):=by rw[hW];simp only[heap_alloc,dB];repeat (first|rw[aI bw]|rw[aI rfl]|rw[aE ab])
 have ek:∀(b:Nat) (cs:Zt) {o:Obj},W.heap[b]?=some (.cells cs 9 (0,0))->(W.alloc o).heap[b]?=some (.cells cs 9 (0,0)):=λb cs o h=>(jm W o _ (aQ.1 h).1).trans h;have tz:∀k,Value.string ((aiP prog).getD k ⟨#[]⟩)=Value.string (bs (tL prog k)):=λk=>by unfold tL;rw[IC]
 have row:∀{V:YC} (k:Nat) (nm tx':YR) (v:YE),nm=bs (eN.getD k [])->tx'=(aiP prog).getD k ⟨#[]⟩->an w V (.sl (strs (zO.getD k []))) v->([Value.string nm,v,Value.string tx'].length=3/\aP w V (WT prog k) [Value.string nm,v,Value.string tx']):=by rintro V k nm tx' v rfl rfl hv;rw[tz];exact⟨rfl,.cons (.str _) (.cons hv (.cons (.str _) .nil))⟩
 refine⟨_,rfl,?_,hK.alloc _⟩;refine aW (rows:=ach prog) (cap:=12) (E:=64) (wd:=3) (by rw[heap_alloc,aI hs.symm];rfl) rfl (.cons (row 0 _ _ _ rfl af .nil) (.cons (row 1 _ _ _ rfl af (dS [tx "LINK"] (ek _ _ n0) ab aj)) (.cons (row 2 _ _ _ rfl af (dS [tx "LINK",tx "INTS"] (ek _ _ n1) ab aj)) (.cons (row 3 _ _ _ rfl af .nil) (.cons (row 4 _ _ _ rfl af (dS [tx "NODE"] (ek _ _ n2) ab aj)) (.cons (row 5 _ _ _ rfl af (dS [tx "LINK"] (ek _ _ n3) ab aj)) (.cons (row 6 _ _ _ rfl af .nil) (.cons (row 7 _ _ _ rfl af (dS [tx "ENTRY"] (ek _ _ n4) ab aj)) (.cons (row 8 _ _ _ rfl af (dS [tx "LINK",tx "INTS"] (ek _ _ n5) ab aj)) (.cons (row 9 _ _ _ rfl af .nil) (.cons (row 10 _ _ _ rfl af .nil) (.cons (row 11 _ _ _ rfl af .nil) .nil)))))))))))) ab aj aj
def BG:∀s∈eN,bW s:=by unfold eN bW;decide
def afO{k:Nat}(hk:k < 12):(ach P)[k]?=some (WT P k):=by exact DB
def NZ{w:YC}{k:Nat}(hx:an S w (.sl (ach P)) (sV g 12 12))(hk:k < 12):∃(off:Nat) (a:YS) (c:Nat),an S w (.sl (strs (zO.getD k []))) (.slice a (zO.getD k []).length c)/\aP S w (WT P k) [.string (bs (eN.getD k [])),.slice a (zO.getD k []).length c,.string (bs (tL P k))]/\w.cell? ⟨g,k*3,none⟩=some (.string (bs (eN.getD k [])))/\w.cell? ⟨g,k*3+1,none⟩=some (.slice a (zO.getD k []).length c)/\w.cell? ⟨g,k*3+2,none⟩=some (.string (bs (tL P k))):=by
 obtain⟨g',off,e,-,cs,hR,hc⟩:=hx.elem (afO hk);obtain⟨c0,Ap,rfl,v0,r0⟩:=hR.aG;obtain⟨c1,U6,rfl,v1,r1⟩:=r0.aG;obtain⟨c2,T3,rfl,v2,r2⟩:=r1.aG
 cases r2.jO
 cases v0.bq;cases v2.bq;obtain⟨a,c,rfl,-⟩:=v1.aU;have e1:(strs (zO.getD k [])).length=(zO.getD k []).length:=bR;rw[e1] at v1 hR hc;simp only[wY,I0,xO] at e;obtain⟨rfl,rfl⟩:=e;have h3:(WT P k).length=3:=rfl;rw[h3,fi] at hc;exact⟨0,a,c,v1,hR,hc 0 _ rfl,hc 1 _ rfl,hc 2 _ rfl⟩
def aow{w:YC}{n:Yz}{x y:YE}(hn:bW n)(hm:bW nm)(hb:w.heap[bx]?=some (.cells #[nm] 9 (0,0)))(hx:∃a m c,x=sV a m c)(hy:∃s,y=.string s):Calls prog 61 #[.agg #[.string (bs n),x,y],.pointer bx] w λe w'=>e=.returned (.bool (decide (n=nm)))/\Kept aK w w':=by
 obtain⟨a,m,c,rfl⟩:=hx;obtain⟨s,rfl⟩:=hy;have c0:=(iW w (cO #[n,sV a m c,.string s] 64) bx 0 (aQ.1 hb).1).trans (aC hb 0);have e:((bs n).toList==(bs nm).toList)=decide (n=nm):=by rw[cH hn hm,sM];simp
 replace hb:=ah hb;go_enter func61,ntmps61;exact asI
def ixZ(nm:Yz):Int:=if nm∈eN then eN.idxOf nm else -1
def afP(h:nm∉eN):ixZ nm=-1:=by unfold ixZ;rw[if_neg h]
def Tr{k:Nat}(hk:k < 12)(he:eN.getD k []=nm):ixZ nm=k:=by subst he;exact DB
def alT{w:YC}(hm:bW nm)(hx:an S w (.sl (ach prog)) (sV g 12 12))(hb:w.heap[bx]?=some (.cells #[nm] 9 (0,0))):Calls prog 60 #[sV g 12 12,.func (.func 61) #[] #[.pointer bx]] w λe w'=>e=.returned (iV (ixZ nm))/\Kept aK w w':=by
 revert hx hb;refine ct ?_;intro hx hb;go_enter func60,ntmps60;go_wp2_with fail;go_loopg [8] 12 (λgg s8 wr=>∃k:Nat,s8=iV k/\k+gg=12/\Hid (∀j,j < k->eN.getD j []≠nm)/\Hid (Kept aK w wr))
 case atStart=>exact⟨0,rfl,rfl,λj hj=>absurd hj ab,Kept.refl _ _⟩
 case round=>
  obtain⟨k,rfl,hk,cR,hK⟩:=hrel;by_cases bQ:k < 12
  .refine Gg ?_;intro bC a c v1 q0 q1 q2 xY oL;have M6:=ah (aJ hb.out hK.out);have hnk:bW (eN.getD k []):=by
    rw[rA]
    cases e:eN[k]? with
    |none=>intro c hc;cases hc
    |some s=>exact BG s (cm e)
   go_wp2_with fail;refine(aow hnk hm M6 ⟨_,_,_,rfl⟩ ⟨_,rfl⟩).mono ?_;rintro e w2 ⟨rfl,K2⟩;by_cases he:eN.getD k []=nm
   .rw[B4 he];go_wp2_with fail;go_ret;rw[Tr bQ he];exact⟨rfl,hK.trans' K2⟩
   .rw[B5 he];go_wp2_with fail;go_roundg (gk - 1)
    case measure=>omega
    case rel=>exact⟨k+1,by simp,by omega,λj hj=>(by by_cases h:j=k;exact h▸he;exact cR j ab),hK.trans' K2⟩
  .have xY:¬(k:Int) < 12:=by omega
   go_wp2_with fail;go_ret;refine⟨?_,hK⟩;rw[afP λhm=>?_]
   .rfl
   .obtain⟨j,hj,e⟩:=avD hm;have aox:j < 12:=hj;exact cR j ab (by rw[rA,ck hj,e];rfl)
def alU(nm:Yz)(w:YC)(e:TP)(w':YC):Prop:=
 (∃(k:Nat) (a:YS) (c:Nat),k < 12/\nm=eN.getD k []/\e=.returned (.tuple #[.agg #[.string (bs nm),.slice a (zO.getD k []).length c,.string (bs (tL prog k))],true])/\an w w' (.sl (strs (zO.getD k []))) (.slice a (zO.getD k []).length c)/\Kept aK w w')∨
 (nm∉eN/\e=.returned (.tuple #[.agg #[.string ⟨#[]⟩,sV none 0 0,.string ⟨#[]⟩],false])/\Kept aK w w')
def Ts(hm:bW nm)(w:YC):Calls prog 29 #[nm] w (alU nm w):=by
 refine fg ?_;intro sE;obtain⟨W,hW⟩:∃W,W=(w.alloc (cO #[nm] 9)).alloc (cO #[eS,nS,eS] 64):=⟨_,rfl⟩
 have dZ:Kept aK w W:=auj;have lL:W.heap[w.heap.size]?=some (.cells #[nm] 9 (0,0)):=by rw[hW];exact aD ao
 have jy:W.heap[w.heap.size+1]?=some (.cells #[eS,nS,eS] 64 (0,0)):=by rw[hW,heap_alloc,aI ai]
 have xh:w.heap.size+1+1=W.heap.size:=iS;revert hW dZ lL jy xh;refine nx ?_;intro hW dZ lL jy xh;go_enter func29,ntmps29;go_wp2_with fail;rw[<-hW.out];refine(afN _).mono ?_;rintro e w1 ⟨g,rfl,hx,K1⟩;have gJ:=ah (aJ lL.out K1);have Cm:=ah (aJ jy.out K1);have Io:=ah (dZ.trans' K1);replace hx:=ah hx;go_wp2_with fail;refine bD (alT hm hx gJ) λw2 K2=>?_;have jV:=aJ Cm K2;have gu:=ah (Io.trans' K2);by_cases lQ:nm∈eN
 .obtain⟨k,hk,Xv⟩:∃k,k < 12/\eN.getD k []=nm:=by exact atC
  have avg:ixZ nm=k:=Tr hk Xv;rw[avg];obtain⟨_,a,c,v1,-,q0,q1,q2⟩:=NZ hx.out hk;replace q0:=K2.aq q0 (λe=>e);replace q1:=K2.aq q1 (λe=>e);replace q2:=K2.aq q2 (λe=>e);rw[Xv] at q0;have v2:=v1.kept K2 (λ_ _ _ e=>e);have xY:¬(k:Int) < 0:=ab;have oL:(k:Int) < 12:=ab;have ij:(0:Int)<=(k:Int):=ab;obtain⟨ML,Ab⟩:∃m,(zO.getD k []).length=m:=⟨_,rfl⟩
  rw[Ab] at q1 v2;revert jV Xv v2 Ab;refine jU ?_;intro jV Xv v2 Ab;go_wp2_with (refine str jV ?_);have auJ:=lz _ _ _ #[nm,sV a ML c,.string (bs (tL prog k))] _ _ jV;have z0:=aC auJ 0;have z1:=aC auJ 1;have z2:=aC auJ 2;refine bG (v:=.tuple #[.agg #[.string (bs nm),sV a ML c,.string (bs (tL prog k))],true]) Hl rfl ?_;have WD:=fH w2 (w.heap.size+1) #[nm,sV a ML c,.string (bs (tL prog k))];refine .inl ⟨k,a,c,hk,Xv.symm,by rw[Ab.out],?_,gu.trans WD λb hb e=>by omega⟩;rw[Ab.out];exact((v2.mono λb hb _=>(by have:=xh.out;omega:w.heap.size+1+1<=b)).kept WD dH).mono λb hb _=>by omega
 .rw[afP lQ];replace jV:=ah jV;go_wp2_with (first|refine QW ?_|refine str jV ?_);have auJ:=lz _ _ _ #[eS,nS,eS] _ _ jV;have z0:=aC auJ 0;have z1:=aC auJ 1;have z2:=aC auJ 2;refine bG (v:=.tuple #[.agg #[.string ⟨#[]⟩,sV none 0 0,.string ⟨#[]⟩],false]) Hl rfl ?_;have WD:=fH w2 (w.heap.size+1) #[eS,nS,eS];exact .inr ⟨lQ,rfl,gu.trans WD λb hb e=>by omega⟩
attribute [local go_sem] Rs
inductive TkR:List aF->List Value->Prop
 |nil:TkR [] []
 |snoc {L:Zi} {xs:YT} (t:aF) (a b:Int):TkR L xs->TkR (L++[t]) (xs++[.int .i64 t.k,.string (bs t.t),.int .i64 a,.int .i64 b])
def TkR.len(h:TkR L xs):xs.length=L.length*4:=by
 induction h with
 |nil=>rfl
 |snoc t a b _ ih=>simp only[j0,ih,dC,mc];omega
def TkR.get(h:TkR L xs):∀(k:Nat) (t:aF),L[k]?=some t->∃a b:Int,xs[k*4]?=some (iV t.k)/\xs[k*4+1]?=some (.string (bs t.t))/\xs[k*4+2]?=some (iV a)/\xs[k*4+3]?=some (iV b):=by
 induction h with
 |nil=>intro k t hk;simp at hk
 |@snoc L xs t a b h ih=>
  intro k u hk;have hl:=h.len;by_cases Am:k < L.length
  .rw[rU Am] at hk;obtain⟨a',b',e1,e2,e3,e4⟩:=ih k u hk;refine⟨a',b',?_,?_,?_,?_⟩<;>rw[rU ab]<;>assumption
  .have aqL:=(dk.1 hk).1;simp only[j0,dC,mc] at aqL;have:k=L.length:=ab;subst this;rw[A0 (aM _),Nat.sub_self] at hk
   cases hk;refine⟨a,b,?_,?_,?_,?_⟩<;>rw[A0 ab]<;>rw[hl]<;>simp
def K9(x:Nat)(A B:YC):Prop:=∀(b:Nat) (cs:Zt) (T:UB) (fr:RG),A.heap[b]?=some (.cells cs T fr)->b≠x->T≠187->T≠300->B.heap[b]?=A.heap[b]?
def K9.trans{x:Nat}{A B C:YC}(h:K9 x A B)(k:K9 x B C):K9 x A C:=λb cs T fr hA h1 h2 h3=>(k b cs T fr ((h b cs T fr hA h1 h2 h3).trans hA) h1 h2 h3).trans (h b cs T fr hA h1 h2 h3)
def Kp(n x:Nat)(A B:YC):Prop:=Below n A B/\K9 x A B/\Kt A B
def Kp.trans{n x:Nat}{A B C:YC}(h:Kp n x A B)(k:Kp n x B C):Kp n x A C:=⟨h.1.trans k.1,h.2.1.trans k.2.1,h.2.2.trans k.2.2⟩
def Kp.of{n:Nat}{A B:YC}(hB:Below n A B)(h:∀(b:Nat) (cs:Zt) (T:UB) (fr:RG),A.heap[b]?=some (.cells cs T fr)->b≠x->T≠187->B.heap[b]?=A.heap[b]?)(hx:∀cs T fr,A.heap[x]?=some (.cells cs T fr)->T=84):Kp n x A B:=
 ⟨hB,λb cs T fr hA h1 h2 _=>h b cs T fr hA h1 h2,λb cs fr hA=>⟨cs,(h b cs 300 fr hA GU aj).trans hA,rfl⟩,λb cs fr hA=>h b cs 9 fr hA GU aj⟩
def Kp.refl(n x:Nat)(A:YC):Kp n x A A:=⟨iG n A,λ_ _ _ _ _ _ _ _=>rfl,λ_ cs _ hA=>⟨cs,hA,rfl⟩,λ_ _ _ _=>rfl⟩
def Kp.put{n:Nat}{w:YC}(hn:n<=w.heap.size)(W:YC)(l:Nat)(o o':Obj)(hl:w.heap.size<=l)(hW:W.heap[l]?=some o)(ho:o.isCells=false)(hw:o.isWalk=false):Kp n x W (W.putObj l o'):=by
 have h:∀(b:Nat) (cs:Zt) (T:UB) (fr:RG),W.heap[b]?=some (.cells cs T fr)->(W.putObj l o').heap[b]?=W.heap[b]?:=λb cs T fr hA=>(M3 W l o').block b (aQ.1 hA).1 λe=>by
  have e:=j6 e;subst e;rw[hA] at hW;cases hW;cases ho
 exact⟨belowK_b hn W l o o' hl hW ho hw,λb cs T fr hA _ _ _=>h b cs T fr hA,λb cs fr hA=>⟨cs,(h _ _ _ _ hA).trans hA,rfl⟩,λb cs fr hA=>h _ _ _ _ hA⟩
abbrev mkD(ds:Yz):List Deferred:=ds.map λD=>{target:=.collected D,args:=#[]}
def Marks(n:Nat)(ds:Yz)(W:YC):Prop:=ds.Nodup/\∀D∈ds,n<=D/\W.heap[D]?=some (.deferred (some []))
def alW(k:Int)(hk:k≠6)(w:YC):Calls prog 223 #[k] w λe w'=>e=.returned (.bool true)/\w'=w:=by have A8:(k !=6)=true:=jc;go_enter func223,ntmps223;exact cQ
def aiR(w:YC):Calls prog 223 #[iV 6] w λe w'=>e=.returned (.bool false)/\w'=w:=by go_enter func223,ntmps223;exact cQ
def acj(s:YR)(w:YC):Calls prog 271 #[s] w λe w'=>e=.returned (.func (.func 295) #[] #[.pointer w.heap.size])/\w'=w.alloc (cO #[s] 9):=by refine fg ?_;intro sE;go_enter func271,ntmps271;exact cQ
def IF{F:Fence}{n:Nat}{P:T1}{fn:Func}{tmps:Zt}{R:VW}{N:Nat}(Φ:T2)(hΦ:∀W l o o',Φ W->N<=l->W.heap[l]?=some o->o.isCells=false->Φ (W.putObj l o'))(sU:∀W,Φ W->∃v,(results fn tmps).run P W=.ok v W/\R (.returned v) W):
  ∀(ds:Yz) (W:YC),Marks N ds W->Φ W->LeavesInM F n P fn tmps R (mkD ds) .returning W
 |[],W,_,h=>sU W h
 |D::ds,W,hM,h=>by
  obtain⟨h1,h2⟩:=hM;rw[M2] at h1;obtain⟨h3,h4⟩:=h2 D ai;refine⟨by simp,.inl ⟨D,_,rfl,run_takeDeferred h4,IF Φ hΦ sU ds _ ⟨h1.2,λD' sT=>?_⟩ (hΦ _ _ _ _ h h3 h4 rfl)⟩⟩;obtain⟨h5,h6⟩:=h2 D' (eC _ sT);exact⟨h5,((M3 W D _).block D' (aQ.1 h6).1 λe=>h1.1 (j6 e▸sT)).trans h6⟩
def zP{n:Nat}{u:YE}{T:UB}(hr:W.ownsRow n 187 4 v m xs)(hb:W.heap[b]?=some (.cells cs T fr))(hT:T≠187):(W.setCell ⟨b,j,none⟩ u).ownsRow n 187 4 v m xs:=by
 refine hr.kept (row:=some b) ⟨rfl,rfl,rfl,by simp[World.setCell],λk _ hk=>ll W ⟨b,j,none⟩ u k (λe=>hk (by rw[e]))⟩ ?_;rcases hr.2 with⟨rfl,_⟩|⟨g,cap,cur,rfl,_,hg,_⟩
 .exact .inl rfl
 .refine .inr λe=>?_;obtain rfl:g=b:=yM;rw[hb] at hg;cases hg;exact hT rfl
def Tt{w:YC}(hb:Below w.heap.size w w'):w.grownBy w' none:=⟨hb.os,hb.tape,hb.output,hb.size,λk hk _=>hb.block k hk⟩
def ack{n:Nat}{T:UB}(hr:W.ownsRow n T z v m xs):∃a k c,v=sV a k c:=by
 rcases hr.2 with⟨rfl,_⟩|⟨g,cap,cur,rfl,_⟩
 .exact⟨_,_,_,rfl⟩
 .exact⟨_,_,_,rfl⟩
def Rc(P:List Nat->List (aF×Nat)):∀{ls:Y9} {s:Yz},s∈ls->(P s).length<=(ls.flatMap λs=>(P s).map (·.1)).length
 |y::ls,s,h=>by
  rw[rz,j0,Af];rcases cZ.1 h with rfl|h
  .omega
  .have:=Rc P h;omega
def YF(P:List Nat->List (aF×Nat))(i:Nat){ls:Y9}:((ls.take i).flatMap λs=>(P s).map (·.1)).length<=(ls.flatMap λs=>(P s).map (·.1)).length:=by
 have e:(ls.flatMap λs=>(P s).map (·.1))=((ls.take i).flatMap λs=>(P s).map (·.1))++((ls.drop i).flatMap λs=>(P s).map (·.1)):=by rw[<-Qt,Rq]
 rw[e,j0];omega
def nt(l:Zi):List aF:=l.filter λt=>t.k !=6
def RdI(N x:Nat)(L0:Zi)(ds:Yz)(V:YC)(pre:List (aF×Nat))(W:YC):Prop:=
 (∃v xs,TkR (L0++nt (pre.map (·.1))) xs/\Boxed W x 84 v/\W.ownsRow N 187 4 v (L0++nt (pre.map (·.1))).length xs)/\K9 x V W/\Below N V W/\Marks N ds W/\V.heap.size<=W.heap.size
def aaT{L0:Zi}{ds:Yz}(hN:N<=V.heap.size)(hd:∀D∈ds,D < V.heap.size):OwnFrom V.heap.size (RdI N x L0 ds V):=by
 rintro pre A B row ⟨⟨v,xs,h1,h2,h3⟩,hK,hB,hM,hs⟩ hg hr;obtain⟨v',h4,h5,e⟩:=holdsRow_own N x 84 187 4 (λ_:Unit=>(L0++nt (pre.map (·.1))).length) (λ_=>xs) (λ_ v'=>v'=v) () A B row ⟨v,h2,h3,rfl⟩ hg (λr e=>(hr r e).2);have cR:∀b cs T fr,A.heap[b]?=some (.cells cs T fr)->some b≠row:=λb cs T fr hA e=>by
  obtain⟨-,o,ho,hc⟩:=hr b e.symm;rw[hA] at ho;cases ho;cases hc
 refine⟨⟨v',xs,h1,h4,h5⟩,λb cs T fr hV a1 a2 a3=>?_,ownFrom_below hN hN pre A B row hB hg hr,⟨hM.1,λD hD=>⟨(hM.2 D hD).1,?_⟩⟩,cn hs hg.size⟩
 .have hA:=hK b cs T fr hV a1 a2 a3;exact(hg.block b (aQ.1 (hA.trans hV)).1 (cR b cs T fr (hA.trans hV))).trans hA
 .have h6:=(hM.2 D hD).2;exact(hg.block D (aQ.1 h6).1 (λe=>by have:=(hr D e.symm).1;have:=hd D hD;omega)).trans h6
abbrev aoD(x:aF×Nat):Value:=.agg #[x.1.k,x.1.t,oZ,oZ,x.2,oZ]
def Qg(P:List Nat->List (aF×Nat))(ls:Y9):List aF:=ls.flatMap λs=>(P s).map (·.1)
def aiS(n:Nat)(hn:4<=n)(F:Nat)(ls:Y9)(P:List Nat->List (aF×Nat))(hP:∀s∈ls,bW s/\s.length<=1000000/\BR F 0 s=some (P s))(hk:∀s∈ls,∀x∈P s,x.1.k≠6)(hL6:(Qg P ls).length<=20000)(hl:ls.length<=1000000)(g cap:Nat)(w:YC)(hE:Env w)(hg:∀k s,ls[k]?=some s->w.cell? ⟨g,k,none⟩=some (.string (bs s)))(de:∀g,prog.globalNamed "strings.asciiSpace"=some g->g < w.heap.size)(h1:1 < w.heap.size):CallsIn Fence.wide n prog 221 #[sV (some ⟨g,0,none⟩) ls.length cap,iV 1,.func (.func 223) #[] #[]] w λe w'=>∃(v:YE) (xs:YT),e=.returned (.tuple #[v,.agg #[iV 0,iV 0],oZ])/\TkR (Qg P ls) xs/\w'.ownsRow w.heap.size 187 4 v (Qg P ls).length xs/\Below w.heap.size w w':=by
 have Pm:1<=n:=ab;refine callsIn_of_wp_marks func221 rfl bw ?_ rfl;simp only[ntmps221,JG,dC,mc,Nat.reduceAdd,Nat.reduceSub,I1,I2,I3,I4,xR,qF];gi_wp2;obtain⟨N,hN⟩:∃N,N=w.heap.size:=⟨_,rfl⟩
 obtain⟨w1,N7⟩:∃w1,w1=(((((w.alloc (cO #[iV 1] 3)).alloc (cO #[.func (.func 223) #[] #[]] 114)).alloc (cO #[nS] 84)).alloc (cO #[oZ,oZ] 42)).alloc (cO #[oZ] 24)).alloc (cO #[nS] 84):=⟨_,rfl⟩
 have rG:w1.heap.size=N+1+1+1+1+1+1:=by rw[N7,hN];simp
 have b4:w1.heap[N]?=some (.cells #[iV 1] 3 (0,0)):=by rw[N7,hN];simp only[heap_alloc,dB];repeat (first|rw[aI bw]|rw[aI rfl]|rw[aE ab])
 have b5:w1.heap[N+1]?=some (.cells #[.func (.func 223) #[] #[]] 114 (0,0)):=by rw[N7,hN];simp only[heap_alloc,dB];repeat (first|rw[aI bw]|rw[aI rfl]|rw[aE ab])
 have b6:w1.heap[N+1+1]?=some (.cells #[nS] 84 (0,0)):=by rw[N7,hN];simp only[heap_alloc,dB];repeat (first|rw[aI bw]|rw[aI rfl]|rw[aE ab])
 have b7:w1.heap[N+1+1+1]?=some (.cells #[oZ,oZ] 42 (0,0)):=by rw[N7,hN];simp only[heap_alloc,dB];repeat (first|rw[aI bw]|rw[aI rfl]|rw[aE ab])
 have b8:w1.heap[N+1+1+1+1]?=some (.cells #[oZ] 24 (0,0)):=by rw[N7,hN];simp only[heap_alloc,dB];repeat (first|rw[aI bw]|rw[aI rfl]|rw[aE ab])
 have b9:Boxed w1 (N+1+1+1+1+1) 84 (sV none 0 0):=by unfold Boxed;rw[N7,hN];simp only[heap_alloc,World.size_alloc];first|rw[if_pos trivial]|rw[if_pos rfl]
 have PJ:Below N w w1:=by rw[N7,hN];exact((((((iG _ w).alloc (aM _) _).alloc ai _).alloc aH _).alloc aH _).alloc aH _).alloc aH _
 rw[<-N7,<-hN];rw[<-hN] at h1;have aqM:∀g,prog.globalNamed "strings.asciiSpace"=some g->g < N:=by rw[hN];exact de
 revert hP hk hE hg hN N7;refine LX ?_;intro hP hk hE hg hN N7;replace de:=ah aqM;refine wpIn_loop (λa W=>∃(i:Nat) (ds:Yz) (QQ QR u16 u17 u18 u19 u20 u21 u50:YE),i<=ls.length/\a={tmps:=#[.slice (some ⟨g,0,none⟩) ls.length cap,.int .i64 1,.func (.func 223) #[] #[],undef,.pointer (some ⟨N,0,none⟩),.pointer (some ⟨N+1,0,none⟩),.pointer (some ⟨N+1+1,0,none⟩),.pointer (some ⟨N+1+1+1,0,none⟩),.pointer (some ⟨N+1+1+1+1,0,none⟩),.pointer (some ⟨N+1+1+1+1+1,0,none⟩),QQ,QR,undef,.slice (some ⟨g,0,none⟩) ls.length cap,.int .i64 ls.length,.int .i64 i,u16,u17,u18,u19,u20,u21,undef,undef,undef,undef,undef,undef,undef,undef,undef,undef,undef,undef,undef,undef,undef,undef,undef,undef,undef,undef,undef,undef,undef,undef,undef,undef,undef,undef,u50,undef,undef],defers:=mkD ds}/\Hid (Below N w W)/\Hid (K9 (N+1+1+1+1+1) w1 W)/\Hid (w1.heap.size<=W.heap.size)/\(∃v xs,Hid (TkR (Qg P (ls.take i)) xs)/\Boxed W (N+1+1+1+1+1) 84 v/\W.ownsRow N 187 4 v (Qg P (ls.take i)).length xs)/\Hid (Marks N ds W)) (λa _=>ls.length - (intOf (a.tmps.getD 15 undef)).toNat) ?_ ?_
 .exact⟨0,[],_,_,_,_,_,_,_,_,_,dE _,rfl,PJ,λ_ _ _ _ _ _ _ _=>rfl,aM _,⟨_,[],by exact TkR.nil,b9,⟨rfl,.inl ⟨rfl,rfl⟩⟩⟩,by exact⟨List.nodup_nil,by simp⟩⟩
 rintro a W ⟨i,ds,QQ,QR,u16,u17,u18,u19,u20,u21,u50,hi,rfl,hB,hK,dM,⟨v,xs,tR,mf,aL⟩,hM⟩;by_cases bQ:i < ls.length
 .obtain⟨s,hs⟩:∃s,ls[i]?=some s:=⟨_,ck bQ⟩
  have hsm:=cm hs;have hgi:=hg i s hs;have arQ:=(hB.cell (by rw[hN.out];exact cA w _ hgi)).trans hgi;have xY:(i:Int) < (ls.length:Int):=ab;have oL:(0:Int)<=(i:Int):=ab;replace hs:=ah hs;gi_wp2_with fail;refine⟨bw,(mA.2 (acj _ _)).mono ?_⟩;rintro e w2 ⟨rfl,rfl⟩;gi_wp2_with fail;obtain⟨V,hV⟩:∃V,V=(W.alloc (cO #[i] 3)).alloc (cO #[.string (bs s)] 9):=⟨_,rfl⟩
  have lD:V.heap.size=W.heap.size+1+1:=by rw[hV];simp
  have bV:V.heap[W.heap.size+1]?=some (.cells #[.string (bs s)] 9 (0,0)):=by rw[hV,heap_alloc,aI ai]
  have Pn:V.heap[W.heap.size]?=some (.cells #[i] 3 (0,0)):=by rw[hV,heap_alloc,aE ai,heap_alloc,aI rfl]
  have hWV:Below W.heap.size W V:=by rw[hV];exact((iG _ W).alloc (aM _) _).alloc ai _
  have hNW:N<=W.heap.size:=i7;have Ma:Below N w V:=hB.trans (hWV.mono hNW);have jl:K9 (N+1+1+1+1+1) w1 V:=λb cs T fr h a1 a2 a3=>by
   have h4:=hK b cs T fr h a1 a2 a3;exact(hWV.block b (aQ.1 (h4.trans h)).1).trans h4
  have zp:Boxed V (N+1+1+1+1+1) 84 v:=(hWV.block _ mf.lt).trans mf;have hrV:V.ownsRow N 187 4 v (Qg P (ls.take i)).length xs:=by rw[hV];exact(aL.alloc _).alloc _
  have hMV:Marks N ds V:=⟨hM.1,λD hD=>⟨(hM.2 D hD).1,(hWV.block D (aQ.1 (hM.2 D hD).2).1).trans (hM.2 D hD).2⟩⟩
  have hdV:∀D∈ds,D < V.heap.size:=λD hD=>(aQ.1 (hMV.2 D hD).2).1;have hEV:Env V:=hE.below Ma de h1;obtain⟨hsS,hsl,Qb⟩:=hP.out s hsm;have alX:SeqStopsK Fence.wide (n - 1) prog 295 #[.pointer (some ⟨W.heap.size+1,0,none⟩)] alN (Kp N (N+1+1+1+1+1)) (λys=>ys=P s) (λpre=>pre <+:P s) (P s).length V:=λl J Jx W1 hW hJ hJx hY h0=>
   acd (n - 1) ab s hsS hsl F (P s) Qb l (W.heap.size+1) N J Jx (λq A B hs hb=>hJ q A B none hs (Tt hb) (λr e=>nomatch e))
    (λpre x W2 hj ph=>by
     obtain⟨fn,tmps,asg,body,hy,hR⟩:=hY pre x W2 hj ph;refine⟨fn,tmps,asg,body,hy,hR.mono ?_⟩;rintro e W3 (⟨e1,e2,e3⟩|e1)
     .exact .inl ⟨e1,e2,e3.1,e3.2.2⟩
     .exact .inr e1)
    W1 (hEV.below hW GY ab) de h1 ((hW.block _ ab).trans bV) h0 (by have:=hW.size;omega)
  rw[<-hV];replace hV:=ah hV;refine wpIn_rangeFunc_ownH rfl Pm (gf:=295) (lb:=#[.pointer (some ⟨W.heap.size+1,0,none⟩)]) rfl bw (enters_of func295 af rfl) alX (λh k=>Kp.trans h k) (Kp.put ab) (iG _ _) (λ_=>rfl)
   (RdI N (N+1+1+1+1+1) (Qg P (ls.take i)) ds V) (λ_ _ _=>False) (aaT ab hdV) (λ_ _ _ _ _ hs _ _=>hs) ⟨⟨v,xs,by simpa[nt] using tR.out,zp,by simpa[nt] using hrV⟩,λ_ _ _ _ _ _ _ _=>rfl,iG _ _,hMV,aM _⟩
   (λx a' W'=>∃q,a'={tmps:=#[.slice (some ⟨g,0,none⟩) ls.length cap,.int .i64 1,.func (.func 223) #[] #[],undef,.pointer (some ⟨N,0,none⟩),.pointer (some ⟨N+1,0,none⟩),.pointer (some ⟨N+1+1,0,none⟩),.pointer (some ⟨N+1+1+1,0,none⟩),.pointer (some ⟨N+1+1+1+1,0,none⟩),.pointer (some ⟨N+1+1+1+1+1,0,none⟩),.pointer (some ⟨W,0,none⟩),.string (bs s),.pointer (some ⟨q,0,none⟩),.slice (some ⟨g,0,none⟩) ls.length cap,.int .i64 ls.length,.int .i64 i,.bool true,.int .i64 i,.pointer (some ⟨g,i,none⟩),.string (bs s),.string (bs s),.func (.func 295) #[] #[.pointer (some ⟨W.heap.size+1,0,none⟩)],aoD x,undef,undef,undef,undef,undef,undef,undef,undef,undef,undef,undef,undef,undef,undef,undef,undef,undef,undef,undef,undef,undef,undef,undef,undef,undef,undef,undef,u50,undef,undef],defers:=[]}/\V.heap.size<=q/\W'.heap[q]?=some (.cells #[.int .i64 x.1.k,.string (bs x.1.t),oZ,oZ,.int .i64 x.2,oZ] 300 (0,0))) ?ax ?assign ?body ?done ?stop
  case ax=>rintro x a' _ A B row ⟨q,e1,e2,e3⟩ hg hr;refine⟨q,e1,e2,(hg.block q (aQ.1 e3).1 λe=>?_).trans e3⟩;obtain⟨-,o,ho,hc⟩:=hr q e.symm;rw[e3] at ho;cases ho;cases hc
  case assign=>intro l pre x W' K hI H0;gi_wp2;obtain⟨⟨v',XD,h2,h3,h4⟩,h5,h6,h7,h8⟩:=hI;exact H0 _ _ ((KeepsOthers.alloc W' _).from _) (Kp.of ((iG N W').alloc ab _) (λb cs T fr hA _ _=>jm W' _ _ (aQ.1 hA).1) (λcs T fr hA=>by rw[h3] at hA;cases hA;rfl)) ((aaT ab hdV).alloc _ ⟨⟨v',XD,h2,h3,h4⟩,h5,h6,h7,h8⟩) ⟨_,rfl,h8,by rw[heap_alloc,aI rfl]⟩
  case body=>
   rintro l pre x a' W' hl - ⟨⟨v',XD,h2,h3,h4⟩,H0,hB',hM',hs'⟩ ⟨q,rfl,hq,T7⟩ hpl;have Cm:W'.heap[N]?=some (.cells #[iV 1] 3 (0,0)):=(H0 _ _ _ _ ((jl _ _ _ _ b4 ab aj aj).trans b4) ab aj aj).trans ((jl _ _ _ _ b4 ab aj aj).trans b4);have jV:W'.heap[N+1]?=some (.cells #[.func (.func 223) #[] #[]] 114 (0,0)):=(H0 _ _ _ _ ((jl _ _ _ _ b5 ab aj aj).trans b5) ab aj aj).trans ((jl _ _ _ _ b5 ab aj aj).trans b5);have alY:W'.heap[W.heap.size]?=some (.cells #[i] 3 (0,0)):=(H0 _ _ _ _ Pn i7 aj aj).trans Pn;have c4:=aC Cm 0;have c5:=aC jV 0;have jI:=aC alY 0;have q1:=aC T7 4;have q2:=aC T7 5;have q3:=al T7;have q5:=aC T7 2;have q6:=aC T7 3;have e7:(W'.setCell ⟨q,2,none⟩ (iV (1+i))).frozen? ⟨q,3,none⟩=false:=al (heap_setCell_same _ _ 2 _ T7) 3;have e8:=bc (W:=W'.setCell ⟨q,2,none⟩ (iV (1+i))) (bx:=q) (heap_setCell_same _ _ 2 _ T7) 3;have hUq:=heap_setCell_same _ _ 3 (iV (wrap64 (1+x.2))) (heap_setCell_same _ _ 2 (iV (1+i)) T7);have hUo:∀b,b≠q->((W'.setCell ⟨q,2,none⟩ (iV (1+i))).setCell ⟨q,3,none⟩ (iV (wrap64 (1+x.2)))).heap[b]?=W'.heap[b]?:=λb hb=>by rw[ll _ _ _ _ (λe=>hb e),ll _ _ _ _ (λe=>hb e)]
   obtain⟨z0,z1,z2,z3,-,z5,-⟩:=cc hUq;have u5:=bc ((hUo (N+1) ab).trans jV) 0;have hXq:N+1+1+1+1+1≠q:=λe=>by rw[<-e,h3] at T7;cases T7
   have u9:Boxed ((W'.setCell ⟨q,2,none⟩ (iV (1+i))).setCell ⟨q,3,none⟩ (iV (wrap64 (1+x.2)))) (N+1+1+1+1+1) 84 v':=(hUo _ hXq).trans h3;have u4:=zP (j:=3) (u:=iV (wrap64 (1+x.2))) (zP (j:=2) (u:=iV (1+i)) h4 T7 aj) (heap_setCell_same _ _ 2 (iV (1+i)) T7) aj;have u9c:=u9.cell;have arR:=T7;have h30:=ah h3;revert h3 h4 T7 Cm jV alY hUq hUo u9 u4;refine zQ ?_;intro h3 h4 T7 Cm jV alY hUq hUo u9 u4;obtain⟨U,hU⟩:∃U,U=(W'.setCell ⟨q,2,none⟩ (iV (1+i))).setCell ⟨q,3,none⟩ (iV (wrap64 (1+x.2))):=⟨_,rfl⟩
   have hKU:K9 (N+1+1+1+1+1) W' U:=λb cs T fr hA _ _ a3=>by
    rw[hU];exact hUo b λe=>by subst e;rw[T7.out] at hA;cases hA;exact a3 rfl
   have aqN:Kt W' U:=by
    refine⟨λb cs fr hA=>?_,λb cs fr hA=>by rw[hU];exact hUo b λe=>by subst e;rw[T7.out] at hA;cases hA⟩;by_cases e:b=q
    .subst e;rw[T7.out] at hA;cases hA;rw[hU];exact⟨_,hUq.out,rfl⟩
    .rw[hU];exact⟨cs,(hUo b e).trans hA,rfl⟩
   have hBU:Below N W' U:=by rw[hU];exact((iG N W').setCell (p:=⟨q,2,none⟩) (by show N<=q;omega) _).setCell (p:=⟨q,3,none⟩) (by show N<=q;omega) _
   have hoU:KeepsOthers W' U:=by rw[hU];exact(KeepsOthers.setCell _ _ _).trans (KeepsOthers.setCell _ _ _)
   have Ul:Hid (Kp N (N+1+1+1+1+1) W' U):=ah ⟨hBU,hKU,aqN⟩;have hMU:Hid (Marks N ds U):=ah ⟨hM'.1,λD hD=>⟨(hM'.2 D hD).1,hoU.same D _ (hM'.2 D hD).2 rfl⟩⟩;have hsU:Hid (V.heap.size<=U.heap.size):=ah (cn hs' hoU.size);have aoE:Hid (Below N V U):=ah (hB'.trans hBU);have aoF:Hid (K9 (N+1+1+1+1+1) V U):=ah (K9.trans H0 hKU);replace hoU:=ah hoU;replace hU:=ah hU;by_cases hk6:x.1.k=6
   .rw[hk6] at z0;gi_wp2_with fail;refine⟨bw,λ_=>by omega,(mA.2 (aiR _)).mono ?_⟩;rintro e w3 ⟨rfl,rfl⟩;rw[<-hU.out] at z0 z1 z2 z3 z5 u5 u9 u4 u9c|-;gi_wp2_with fail;have e6:nt ((pre++[x]).map (·.1))=nt (pre.map (·.1)):=by simp[nt,hk6]
    exact⟨hoU.from _,Ul,⟨v',XD,by rw[e6];exact h2,u9,by rw[e6];exact u4⟩,aoF,aoE,hMU,hsU⟩
   .have hk7:(x.1.k:Int)≠6:=by omega
    gi_wp2_with fail;refine⟨bw,λ_=>by omega,(mA.2 (alW _ hk7 _)).mono ?_⟩;rintro e w3 ⟨rfl,rfl⟩;rw[<-hU.out] at z0 z1 z2 z3 z5 u5 u9 u4 u9c|-;have hkb:(Qg P (ls.take i)++nt (pre.map (·.1))).length<=100000:=by
     have a1:(nt (pre.map (·.1))).length<=pre.length:=by unfold nt;exact Nat.le_trans (List.length_filter_le _ _) ai
     have a2:(P s).length<=(Qg P ls).length:=Rc P hsm;have a3:(Qg P (ls.take i)).length<=(Qg P ls).length:=YF P i;rw[j0];omega
    have hNU:N<=U.heap.size:=by have:=hsU.out;omega
    obtain⟨KL,sc⟩:∃m,(Qg P (ls.take i)++nt (pre.map (·.1))).length=m:=⟨_,rfl⟩
    rw[sc] at u4 hkb;replace sc:=ah sc;obtain⟨i0,hi0,A6,ey,oY⟩:=dN Te;have hnc:∀j u,[Value.int .i64 x.1.k,Value.string (bs x.1.t),Value.int .i64 (1+i),Value.int .i64 (wrap64 (1+x.2))][j]?=some u->(U.alloc (cO #[iV x.1.k,.string (bs x.1.t),iV (1+i),iV (wrap64 (1+x.2))] 187)).cell? ((⟨U,0,none⟩:Addr).add j)=some u:=λj u hj=>by
     have hb:(U.alloc (cO #[iV x.1.k,.string (bs x.1.t),iV (1+i),iV (wrap64 (1+x.2))] 187)).heap[U.heap.size]?=some (.cells #[iV x.1.k,.string (bs x.1.t),iV (1+i),iV (wrap64 (1+x.2))] 187 (0,0)):=ao;have:=aC hb (0+j);rw[MP,this,fi];simpa using hj
    gi_wp2_with (gi_at_builtin;refine Xd _ rfl _ _ 84 rfl N 187 i0 _ 4 40 underlying84 hi0 A6 ey oY rfl aj _ _ _ rfl (u4.alloc _) ⟨U,0,none⟩ 1 1 [iV x.1.k,.string (bs x.1.t),iV (1+i),iV (wrap64 (1+x.2))] rfl rfl hnc qj iZ ab aH ?_;intro v2 w2 nE qN _;obtain⟨g',xV,rfl⟩:=ownsRow_succ nE;obtain⟨LH,jo,Qx,jF,jy⟩:=u9.out.appended aj u4.out hNU ab nE qN;have hc1:=LH.cell;have hf1:=LH.frozen);have e6:nt ((pre++[x]).map (·.1))=nt (pre.map (·.1))++[x.1]:=by simp[nt,hk6]
    have hKf:Kp N (N+1+1+1+1+1) U (w2.setCell ⟨N+1+1+1+1+1,0,none⟩ (sV (some ⟨g',0,none⟩) (KL+1) xV)):=Kp.of jy (λb cs T fr hA a1 a2=>by
     have hbl:=(aQ.1 hA).1;rw[ll _ _ _ _ a1,qN.block b aH (λe=>?_),jm _ _ _ hbl];replace e:v'.ownBlock=some b:=e.symm;rcases u4.out.2 with⟨rfl,_⟩|⟨gg,cap,cur,rfl,_,WC,_⟩
     .cases e
     .obtain rfl:gg=b:=by simpa[Value.ownBlock] using e
      rw[hA] at WC;cases WC;exact a2 rfl) (λcs T fr hA=>by rw[u9.out] at hA;cases hA;rfl)
    refine⟨(hoU.trans jF).from _,Ul.trans hKf,⟨_,XD++[.int .i64 x.1.k,.string (bs x.1.t),.int .i64 (1+i),.int .i64 (wrap64 (1+x.2))],?_,jo,?_⟩,aoF.trans hKf.2.1,aoE.trans jy,⟨hMU.1,λD hD=>⟨(hMU.2 D hD).1,jF.same D _ (hMU.2 D hD).2 rfl⟩⟩,cn hsU jF.size⟩
    .rw[e6,<-I5];exact TkR.snoc x.1 _ _ h2
    .rw[e6,<-I5,j0,sc.out];exact Qx
  case done=>
   rintro D ys W' hD rfl ⟨⟨v',XD,h2,h3,h4⟩,H0,hB',hM',hs'⟩ hDd;have hD3:D∉ds:=λh=>by have:=hdV D h;omega
   gi_wp2_with fail;have hsq:=hs.out;have e:ls.take (i+1)=ls.take i++[s]:=by rw[wZ,hsq];rfl
   have hnt:nt ((P s).map (·.1))=(P s).map (·.1):=List.filter_eq_self.2 λt ht=>by
    obtain⟨y,hy,rfl⟩:=dO.1 ht;have:=hk s hsm y hy;simpa using this
   have e2:Qg P (ls.take (i+1))=Qg P (ls.take i)++(P s).map (·.1):=by rw[e];simp[Qg]
   refine⟨⟨i+1,D::ds,_,_,_,_,_,_,_,_,_,by omega,rfl,Ma.trans hB',jl.trans H0,ah i7,⟨v',XD,by rw[e2,<-hnt];exact h2,h3,by rw[e2,<-hnt];exact h4⟩,⟨M2.2 ⟨hD3,hM'.1⟩,λD' h=>?_⟩⟩,?_⟩
   .rcases cZ.1 h with rfl|h
    .exact⟨by omega,hDd⟩
    .exact hM'.2 D' h
   .simp[intOf];omega
  case stop=>rintro D c pre W' _ _ h _;exact h.elim
 .have xY:¬(i:Int) < (ls.length:Int):=by omega
  have hil:ls.take i=ls:=oh ab;rw[hil] at tR aL;obtain⟨va,vm,vc,rfl⟩:=ack aL;have k6:=(hK _ _ _ _ b6 ab aj aj).trans b6;have k7:=(hK _ _ _ _ b7 ab aj aj).trans b7;have k8:=(hK _ _ _ _ b8 ab aj aj).trans b8;have c9:=mf.cell;have c6:=aC k6 0;have c70:=aC k7 0;have c71:=aC k7 1;have c8:=aC k8 0;have f6:=al k6 0;have f70:=al k7;have f8:=al k8 0;revert mf aL k6 k7 k8;refine nx ?_;intro mf aL k6 k7 k8;gi_wp2_with fail;refine IF (N:=N) (λW'=>W'.heap[N+1+1]?=some (.cells #[sV va vm vc] 84 (0,0))/\W'.heap[N+1+1+1]?=some (.cells #[oZ,oZ] 42 (0,0))/\W'.heap[N+1+1+1+1]?=some (.cells #[oZ] 24 (0,0))/\W'.ownsRow N 187 4 (sV va vm vc) (Qg P ls).length xs/\Below N w W') ?_ ?_ ds _ ?_ ?_
  .rintro W' l o o' ⟨k1,k2,k3,k4,k5⟩ hl ho hc;have cR:∀(b:Nat) (cs:Zt) (T:UB) (fr:RG),W'.heap[b]?=some (.cells cs T fr)->(W'.putObj l o').heap[b]?=W'.heap[b]?:=λb cs T fr hA=>(M3 W' l o').block b (aQ.1 hA).1 λe=>by
    have e:=j6 e;subst e;rw[hA] at ho;cases ho;cases hc
   exact⟨(cR _ _ _ _ k1).trans k1,(cR _ _ _ _ k2).trans k2,(cR _ _ _ _ k3).trans k3,ownsRow_putObj k4 o' ho hc,k5.trans (by have hg:=M3 W' l o';exact⟨hg.os,hg.tape,hg.output,hg.size,λk hk=>hg.block k (by have:=(aQ.1 ho).1;omega) (λe=>by have:=j6 e;omega)⟩)⟩
  .rintro W' ⟨k1,k2,k3,k4,k5⟩;have z1:=aC k1 0;have z2:=aC k2 0;have z3:=aC k2 1;have z4:=aC k3 0;exact⟨_,by simp[results,results221,go_sem,z1,z2,z3,z4],_,rfl,_,tR,hN.out▸k4,hN.out▸k5⟩
  .refine⟨hM.1,λD hD=>⟨(hM.2 D hD).1,?_⟩⟩;have hd:=(hM.2 D hD).2;rw[Below.heap_setCell _ _ _ _ (λe=>by dsimp only at e;subst e;rw[k8.out] at hd;cases hd),Below.heap_setCell _ _ _ _ AF,Below.heap_setCell _ _ _ _ AF,Below.heap_setCell _ _ _ _ (λe=>by dsimp only at e;subst e;rw[k6.out] at hd;cases hd)];exact hd
  .have s7:(W.setCell ⟨N+1+1,0,none⟩ (sV va vm vc)).heap[N+1+1+1]?=some (.cells #[oZ,oZ] 42 (0,0)):=(ll _ _ _ _ gR).trans k7;have s7b:=heap_setCell_same _ _ 0 (iV 0) s7;have s7c:=heap_setCell_same _ _ 1 (iV 0) s7b;have s8:(((W.setCell ⟨N+1+1,0,none⟩ (sV va vm vc)).setCell ⟨N+1+1+1,0,none⟩ (iV 0)).setCell ⟨N+1+1+1,1,none⟩ (iV 0)).heap[N+1+1+1+1]?=some (.cells #[oZ] 24 (0,0)):=by rw[ll _ _ _ _ gR,ll _ _ _ _ gR,ll _ _ _ _ gR];exact k8
   refine⟨?_,(ll _ _ _ _ gR).trans s7c,heap_setCell_same _ _ 0 (iV 0) s8,zP (zP (zP (zP aL k6 aj) s7 aj) s7b aj) s8 aj,?_⟩
   .rw[ll _ _ _ _ gR,ll _ _ _ _ gR,ll _ _ _ _ gR];exact heap_setCell_same _ _ 0 (sV va vm vc) k6
   .exact(((hB.setCell (p:=⟨N+1+1,0,none⟩) (by show N<=N+1+1;omega) _).setCell (p:=⟨N+1+1+1,0,none⟩) HI _).setCell (p:=⟨N+1+1+1,1,none⟩) HI _).setCell (p:=⟨N+1+1+1+1,0,none⟩) (by show N<=N+1+1+1+1;omega) _
def QC(ls:Y9):List Nat:=ls.flatMap (· ++[10])
def OY:∀(l r:List UInt8),(∀c∈l,c≠10)->Lib.index (l++10::r) [10]=(l.length:Int)
 |[],r,_=>by
  show Lib.index (10::r) [10]=0;rw[Lib.index];simp[List.isPrefixOf]
 |b::l,r,h=>by
  have ih:=OY l r λc hc=>h c (eC _ hc);have hb:=h b ai;show Lib.index (b::(l++10::r)) [10]=_;rw[Lib.index];have hp:([10]:List UInt8).isPrefixOf (b::(l++10::r))=false:=by simp[List.isPrefixOf,Pr hb]
  rw[hp,aE ai,ih,aE ai];simp
def LP:∀(ls:List (List UInt8)),(∀l∈ls,∀c∈l,c≠10)->Lib.splitK [10] 0 (Lib.count (ls.flatMap (· ++[10])) [10]) (ls.flatMap (· ++[10]))=ls++[[]]
 |[],_=>by rw[Lib.count_one];rfl
 |l::ls,h=>by
  have ih:=LP ls λx hx=>h x (eC _ hx);have e:(l::ls).flatMap (· ++[10])=l++10::ls.flatMap (· ++[10]):=ai;have h0:l.count 10=0:=List.count_eq_zero.2 λhm=>h l ai 10 hm rfl;have ec:Lib.count (l++10::ls.flatMap (· ++[10])) [10]=Lib.count (ls.flatMap (· ++[10])) [10]+1:=by rw[Lib.count_one,Lib.count_one,List.count_append,h0];simp
  have hi:=OY l (ls.flatMap (· ++[10])) (h l ai);rw[e,ec,Lib.splitK,hi,aE ai];have e2:(l++10::ls.flatMap (· ++[10])).drop (((l.length:Int)).toNat+([10]:List UInt8).length)=ls.flatMap (· ++[10]):=by simp[List.drop_append]
  rw[e2,ih];simp
def Tu(s:Yz):(bs s).data.toList=s.map UInt8.ofNat:=by simp[bs]
def Tv(ls:Y9)(h:∀l∈ls,bW l/\10∉l):Lib.splitB mz 0 (Lib.countB (bs (QC ls)) mz) (bs (QC ls))=(ls++[[]]).map bs:=by
 have aqO:∀{a b:List ByteArray},a.map (·.data.toList)=b.map (·.data.toList)->a=b:=by intro a b hab;refine List.map_inj_right (f:=λx:ByteArray=>x.data.toList) (λx y hxy=>?_) |>.1 hab;obtain⟨⟨x⟩⟩:=x;obtain⟨⟨y⟩⟩:=y;simpa using hxy
 apply aqO
 rw[Lib.splitB_data];have e:(bs (QC ls)).data.toList=(ls.map (·.map UInt8.ofNat)).flatMap (· ++[10]):=by
  rw[Tu];unfold QC;induction ls with
  |nil=>rfl
  |cons l ls ih=>have:=ih λx hx=>h x (eC _ hx);simp only[rz,MM,lp] at this|-;rw[this];rfl
 show Lib.splitK [10] 0 (Lib.count (bs (QC ls)).data.toList [10]) (bs (QC ls)).data.toList=_;rw[e,LP _ (λl hl c hc zv=>?_)]
 .simp[MM,Tu,Function.comp_def]
 .obtain⟨x,hx,rfl⟩:=dO.1 hl;obtain⟨d,hd,rfl⟩:=dO.1 hc;have h1:=(h x hx).1 d hd;have:d=10:=by have:=gq UInt8.toNat zv;simp at this;omega
  exact(h x hx).2 (this▸hd)
def aiT{n:Nat}{T:UB}(hr:W.ownsRow n T z v m xs):∃a c,v=sV a m c:=by
 rcases hr.2 with⟨rfl,rfl⟩|⟨g,cap,cur,rfl,_⟩
 .exact⟨_,_,rfl⟩
 .exact⟨_,_,rfl⟩
def Env.lts{w:YC}(h:Env w):(∀g,prog.globalNamed "strings.asciiSpace"=some g->g < w.heap.size)/\1 < w.heap.size:=by
 obtain⟨m,hm⟩:=h.m1;refine⟨λg hg=>?_,cA w _ hm⟩;have ht:=h.tab;unfold Lib.TabIs World.var? at ht;rw[hg] at ht;simp only[Ae] at ht;by_cases bQ:g < w.heap.size
 .exact bQ
 .rw[Array.getElem?_eq_none ab] at ht
  cases ht
def Tw(L:Zi)(w:YC)(e:TP)(w':YC):Prop:=∃(v:YE) (xs:YT),e=.returned (.tuple #[v,.agg #[iV 0,iV 0],oZ])/\TkR L xs/\w'.ownsRow w.heap.size 187 4 v L.length xs/\Below w.heap.size w w'/\w.heap.size < w'.heap.size
def V2(F:Nat)(ls:Y9)(P:List Nat->List (aF×Nat))(hP:∀s∈ls++[[]],bW s/\s.length<=1000000/\BR F 0 s=some (P s))(hk:∀s∈ls++[[]],∀x∈P s,x.1.k≠6)(sG:∀l∈ls,bW l/\10∉l)(hL6:(Qg P (ls++[[]])).length<=6000)(hl:ls.length<=20000)(hs:(QC ls).length<=20000)(w:YC)(hE:Env w):Calls prog 164 #[(QC ls)] w (Tw (Qg P (ls++[[]])) w):=by
 have hz:=dp (QC ls);obtain⟨m,hm⟩:=hE.m1;have h1:¬(20000:Int) < ((QC ls).length:Int):=ab;obtain⟨de,PE⟩:=hE.lts;have hsp:=Tv ls sG;have hlen:Lib.countB (bs (QC ls)) mz+1=(ls++[[]]).length:=by have:=gq List.length hsp;rw[Lib.splitB_all mz aj 0 _ _ rfl] at this;simpa using this
 obtain⟨LS,hLS⟩:∃LS,LS=ls++[[]]:=⟨_,rfl⟩
 have hll:LS.length<=1000000:=by rw[hLS];simp;omega
 rw[<-hLS] at hP hk hL6 hsp hlen|-;replace hLS:=ah hLS;obtain⟨L,hL⟩:∃L,L=Qg P LS:=⟨_,rfl⟩
 rw[<-hL] at hL6|-;have j8:Below w.heap.size w (w.alloc (cO #[oZ,oZ] 42)):=(iG _ w).alloc (aM _) _;have alZ:=ah (Tryz.strings_Split (bs (QC ls)) mz m (w.alloc (cO #[oZ,oZ] 42)) ab ((j8.cell (p:=⟨1,0,none⟩) PE).trans hm) aj);obtain⟨V,hV⟩:∃V,V=(w.alloc (cO #[oZ,oZ] 42)).alloc (.cells ((LS.map bs).map Value.string).toArray 9):=⟨_,rfl⟩
 have Ma:Below w.heap.size w V:=by rw[hV];exact j8.alloc ai _
 have lD:V.heap.size=w.heap.size+1+1:=by rw[hV];simp
 have hVb:V.heap[w.heap.size+1]?=some (.cells ((LS.map bs).map Value.string).toArray 9 (0,0)):=by rw[hV,heap_alloc,aI ai]
 have hV0:V.heap[w.heap.size]?=some (.cells #[oZ,oZ] 42 (0,0)):=by rw[hV,heap_alloc,aE ai,heap_alloc,aI rfl]
 have hEV:Env V:=hE.below Ma de PE;have hrd:=ah ((mA (n:=5)).1 (aiS 5 ab F LS P hP hk (by rw[<-hL];omega) hll (w.heap.size+1) LS.length V hEV (λk s hs=>by
  rw[aC hVb k,Xe,qC,qC,hs];rfl) GY ab))
 revert hlen hsp hL hV;refine jU ?_;intro hlen hsp hL hV;go_enter func164,ntmps164;go_wp2_with fail;refine alZ.mono ?_;rintro e w1 ⟨rfl,rfl⟩;rw[hsp.out,hlen.out,<-hV.out];go_wp2_with fail;refine hrd.mono ?_;rintro e w2 ⟨v,xs,rfl,tR,aL,Jd⟩;rw[<-hL.out] at tR aL;obtain⟨a,c,rfl⟩:=aiT aL;have b0:w2.heap[w.heap.size]?=some (.cells #[oZ,oZ] 42 (0,0)):=(Jd.block _ ab).trans hV0;have Mp:Below w.heap.size w w2:=Ma.trans (Jd.mono ab);have h6:¬(6000:Int) < (L.length:Int):=ab;revert aL b0;refine ct ?_;intro aL b0;go_wp2_with fail;have lL:Hid ((w2.alloc (cO #[oZ,oZ] 42)).drew.heap[w2.heap.size]?=some (.cells #[oZ,oZ] 42 (0,0))):=ah (show(w2.alloc (cO #[oZ,oZ] 42)).heap[w2.heap.size]?=_ by rw[heap_alloc,aI rfl]);have nB:Hid ((w2.alloc (cO #[oZ,oZ] 42)).drew.heap[w.heap.size]?=some (.cells #[oZ,oZ] 42 (0,0))):=ah (show(w2.alloc (cO #[oZ,oZ] 42)).heap[w.heap.size]?=_ from(jm w2 _ _ (aQ.1 b0).1).trans b0);have xB:=ah (aQ.1 b0.out).1;refine jB 5 [(0,0),(1,0),(2,0),(3,0),(4,1),(5,2)] (λV=>V.heap[w2.heap.size]?=some (.cells #[oZ,oZ] 42 (0,0))) af af (λ_ _ _ _ _ h=>h) lL ?_;iterate 4 ((first|refine Q8 ?_|(refine Q7 (v:=?_) ?_ (λV s=>?_);rotate_right; · (have d0:=aC s 0;have d1:=aC s 1;go_simp);with_reducible rfl));try simp only[Act.put,ma,mb,lj])
 refine afI (λK hK=>?_);refine stw (x:=.tmp 3) (y:=.tmp 28) (hx:=rfl) (hy:=rfl) nB ?_;refine hK _ _ ((setRow_other _ _ _ _ (by have:=xB.out;omega)).trans lL) ?_;refine sp ?_;refine qM (λK hK=>?_);go_simp;refine hK _ _ ?_;refine sp ?_;refine NT ?_;have hbf:=lz _ _ _ #[oZ,oZ] _ _ nB;have r0:=aC hbf 0;have r1:=aC hbf 1;go_wp2_with fail;refine bG (v:=.tuple #[sV a L.length c,.agg #[iV 0,iV 0],oZ]) (by simp[results,results164,go_sem,r0,r1]) rfl ?_;have aoG:((w2.alloc (cO #[oZ,oZ] 42)).drew.setRow w.heap.size #[oZ,oZ]).ownsRow w.heap.size 187 4 (sV a L.length c) L.length xs:=by
  obtain⟨h1,h2⟩:=aL.out;refine⟨h1,?_⟩;rcases h2 with h2|⟨g,cap,cur,e,hg,hgb,h3,h4,h5,h6⟩
  .exact .inl h2
  .refine .inr ⟨g,cap,cur,e,by omega,?_,h3,h4,h5,h6⟩;rw[setRow_other _ _ _ _ ab];exact(jm w2 _ _ (aQ.1 hgb).1).trans hgb
 refine⟨_,xs,rfl,tR,aoG,?_,(aQ.1 hbf).1⟩;have Xu:Below w.heap.size w (w2.alloc (cO #[oZ,oZ] 42)):=Mp.alloc (by have:=xB.out;omega) _;have hk:=fH (w2.alloc (cO #[oZ,oZ] 42)).drew w.heap.size #[oZ,oZ];exact Xu.trans ⟨hk.os,hk.tape.trans rfl,hk.output,hk.size,λk A8=>by
  rw[setRow_other _ _ _ _ ab];rfl⟩
def wU{w:YC}(h:Below w.heap.size w w'):Kept aK w w':=⟨h.os,h.tape,h.output,h.size,λk hk _=>h.block k hk⟩
def Tw.lex{w:YC}{e:TP}(h:Tw L w e w'):Ir L w e w':=by
 obtain⟨v,xs,rfl,tR,aL,hB,bQ⟩:=h;obtain⟨h1,⟨rfl,h0⟩|⟨g,cap,cur,rfl,hg,hgb,h3,h4,h5,h6⟩⟩:=aL
 .exact⟨w.heap.size,none,0,0,0,λe=>absurd h0 e,by rw[h0],λk t hk=>by rw[JK h0] at hk;simp at hk,aM _,bQ,wU hB⟩
 .refine⟨g,_,cap,0,0,λ_=>rfl,rfl,λk t hk=>?_,hg,(aQ.1 hgb).1,wU hB⟩;have Am:=(dk.1 hk).1;obtain⟨a,b,e1,e2,e3,e4⟩:=tR.get k t hk;have hc:∀j,j < 4->w'.cell? ⟨g,0+k*4+j,none⟩=xs[k*4+j]?:=λj hj=>by
   rw[aC hgb,fi,<-h6,B3,aI ab,Qu]
  have c0:=hc 0 ab;have c1:=hc 1 ab;have c2:=hc 2 ab;have c3:=hc 3 ab;exact⟨c0.trans e1,c1.trans e2,a,b,c2.trans e3,c3.trans e4⟩
def YG{k:Nat}(h:shape s=some k):k<=5:=by
 unfold shape at h;repeat' split at h
 all_goals first|(cases h;omega)|cases h
def aiU{y:Yz}(h:axD y=true)(e:(tk y).k=6):False:=by
 have h1:(shape y).isSome=true:=by unfold axD at h;simp only[Bool.and_eq_true] at h;exact h.1.1
 obtain⟨k,hk⟩:=Rr.1 h1;have:=YG hk;unfold tk at e;rw[hk] at e;simp at e;omega
def afT(WU:List (List (List Nat)))(hw:∀ws∈WU,∀x∈ws,axD x=true)(hb:∀ws∈WU,bW (cf ws)/\10∉cf ws/\(cf ws).length<=20000/\ws.length<=3000)(hL:(WU.flatMap λws=>ws.map tk).length<=6000)(hl:WU.length<=20000)(hs:(QC (WU.map cf)).length<=20000)(w:YC)(hE:Env w):Calls prog 164 #[(QC (WU.map cf))] w (Tw (WU.flatMap λws=>ws.map tk) w):=by
 have hex:∀s∈WU.map cf++[[]],∃ps,BR 6000 0 s=some ps/\∀ws,s=cf ws->(ws∈WU∨ws=[])->ps.map (·.1)=ws.map tk:=by
  intro s hs
  cases hp:BR 6000 0 s with
  |none=>
   exfalso
   rcases oU.1 hs with h|h
   .obtain⟨ws,xD,rfl⟩:=dO.1 h;obtain⟨ps,e,-⟩:=Tq ws (hw ws xD) 6000 0 (by have:=(hb ws xD).2.2.2;omega);rw[hp] at e;cases e
   .simp at h;subst h;cases hp
  |some ps=>
   refine⟨ps,rfl,λws e h=>?_⟩;subst e;have h2:∀x∈ws,axD x=true:=by rcases h with h|rfl;exact hw ws h;simp
   have h3:2*ws.length<=6000:=by rcases h with h|rfl;(have:=(hb ws h).2.2.2;omega);simp
   obtain⟨ps',e2,e3⟩:=Tq ws h2 6000 0 h3;rw[hp] at e2;cases e2;exact e3
 have hP:∀s∈WU.map cf++[[]],BR 6000 0 s=some ((BR 6000 0 s).getD []):=λs hs=>by
  obtain⟨ps,e,-⟩:=hex s hs;rw[e];rfl
 have hPm:∀ws∈WU,((BR 6000 0 (cf ws)).getD []).map (·.1)=ws.map tk:=λws xD=>by
  obtain⟨ps,e,h⟩:=hex (cf ws) (List.mem_append_left _ (dO.2 ⟨ws,xD,rfl⟩));rw[e];exact h ws rfl (.inl xD)
 have hT:Qg (λs=>(BR 6000 0 s).getD []) (WU.map cf++[[]])=WU.flatMap λws=>ws.map tk:=by
  unfold Qg;rw[Qt];have e:([[]]:Y9).flatMap (λs=>((BR 6000 0 s).getD []).map (·.1))=[]:=rfl;rw[e,gp];clear hex hP hL hl hs;induction WU with
  |nil=>rfl
  |cons ws WU ih=>rw[lp,rz,rz,hPm ws ai,ih (λx hx=>hw x (eC _ hx)) (λx hx=>hb x (eC _ hx)) (λx hx=>hPm x (eC _ hx))]
 have h:=V2 6000 (WU.map cf) (λs=>(BR 6000 0 s).getD []) (λs hs=>⟨?_,?_,hP s hs⟩) (λs hs x hx e6=>?_) (λl hl=>?_) (by rw[hT];exact hL) na hs w hE
 .rw[hT] at h;exact h
 .rcases oU.1 hs with h|h
  .obtain⟨ws,xD,rfl⟩:=dO.1 h;exact(hb ws xD).1
  .simp at h;subst h;intro c hc;cases hc
 .rcases oU.1 hs with h|h
  .obtain⟨ws,xD,rfl⟩:=dO.1 h;have:=(hb ws xD).2.2.1;omega
  .simp at h;subst h;simp
 .rcases oU.1 hs with h|h
  .obtain⟨ws,xD,rfl⟩:=dO.1 h;have h1:x.1∈ws.map tk:=by rw[<-hPm ws xD];exact dO.2 ⟨x,hx,rfl⟩
   obtain⟨y,hy,e⟩:=dO.1 h1;have h2:=hw ws xD y hy;rw[<-e] at e6;exact aiU h2 e6
  .simp at h;subst h;cases hx
 .obtain⟨ws,xD,rfl⟩:=dO.1 hl;exact⟨(hb ws xD).1,(hb ws xD).2.1⟩
def awb(s:Yz)(d:Nat):num (s++[d])=10*num s+((d:Int) - 48):=by simp[num,List.foldl_append]
def atX:∀(f n:Nat),n < 10 ^ f->num (tb f n)=n
 |0,n,h=>by
  have:n=0:=wJ;subst this;rfl
 |f+1,n,h=>by
  unfold tb;split
  .simp[num];omega
  .rw[awb,atX f (n / 10) atU];omega
def auz:∀(f n:Nat),(tb f n).all iD=true
 |0,n=>rfl
 |f+1,n=>by
  unfold tb;split
  .simp[iD];omega
  .rw[List.all_append,auz f];simp[iD];omega
def auM:∀(f n:Nat),0 < n->n < 10 ^ f->∃c r,tb f n=c::r/\c≠48
 |0,n,h,h2=>by simp at h2;omega
 |f+1,n,h,h2=>by
  unfold tb;split
  .exact⟨_,_,rfl,by omega⟩
  .obtain⟨c,r,e,hc⟩:=auM f (n / 10) ab aug;exact⟨c,r++[48+n % 10],by rw[e];rfl,hc⟩
def auA{c:Nat}(h:iD c=true):cB c=true:=by simp only[cB,h];simp
def as7{n:Nat}(h:n<=1099511627776):shape (tb 20 n)=some 4:=by
 have hn:n < 10 ^ 20:=ab;have h1:∃c r,tb 20 n=c::r/\(c=48->r=[]):=by
  by_cases h0:n=0
  .subst h0;exact⟨48,[],rfl,λ_=>rfl⟩
  .obtain⟨c,r,e,hc⟩:=auM 20 n ab hn;exact⟨c,r,e,λe'=>absurd e' hc⟩
 obtain⟨c,r,e,h2⟩:=h1;have h3:=auz 20 n;have h4:=atX 20 n hn;rw[e] at h3 h4|-;have hc:iD c=true:=atM;have h6:(c::r).all cB=true:=dV.2 λx hx=>auA (dV.1 h3 x hx);have L9:=hc;simp only[iD,dD,oM] at L9;have h5:cJ.contains (c::r)=false:=by
  cases hq:cJ.contains (c::r) with
  |false=>rfl
  |true=>obtain⟨-,c',r',e',hp,-⟩:=afM (t:=[]) (.inl rfl) (by simpa using hq:c::r∈cJ);injection e' with e1 e2;rw[<-e1,auA hc] at hp;cases hp
 unfold shape;rw[aE (by rw[h5];simp)];simp only;rw[aE (by rw[h6];simp;omega),aI hc,aI];rw[h3,h4];simp only[auU,dD,xQ,oM];refine⟨?_,by omega⟩;by_cases e48:c=48
 .rw[h2 e48];simp
 .simp[e48]
def avl{n:Nat}(h:n<=1099511627776):axD (tb 20 n)=true:=by
 unfold axD;rw[as7 h];have h3:=auz 20 n;have:(tb 20 n).all cB=true:=dV.2 λx hx=>auA (dV.1 h3 x hx);rw[this];have hs:=as7 h
 cases e:tb 20 n with
 |nil=>rw[e] at hs;simp[shape,cJ,tx] at hs
 |cons=>rfl
def awp{n:Nat}(h:n<=1099511627776):tk (tb 20 n)=⟨4,tb 20 n⟩:=by unfold tk;rw[as7 h];rfl
def amq(n:Int):List (List Nat):=if n < 0 then[tx "-",tb 20 (-n).toNat] else[tb 20 n.toNat]
def aqY(n:Int):Row:=if n < 0 then ex 8 "-" 0 [ex 1 [] (-n) []] else ex 1 [] n []
def avm(n:Int):Prop:=-1099511627776<=n/\n<=1099511627776
inductive DS where
 |call (put:TG) (ob nm:Yz) (ag:WV)
 |push
 |mk
 |amr (p:Yz)
def aqZ:List Int->List (List Nat)
 |[]=>[]
 |[a]=>tx "("::(amq a++[tx ")"])
 |a::b::_=>tx "("::(amq a++tx ","::(amq b++[tx ")"]))
def DS.w:DS->List (List Nat)
 |.call p ob nm ag=>(if p then[tx "put"] else[])++ob::tx "."::nm::(aqZ ag++[tx ";"])
 |.push=>[tx "c",tx ".",tx "push",tx "(",tx "k",tx ")",tx ";"]
 |.mk=>[tx "create",tx "k",tx ".",tx "make",tx ";"]
 |.amr p=>[tx "if",tx "attached",tx "c",tx ".",tx "peek",tx "as",p,tx "then",tx "put",p,tx ".",tx "count",tx ";",tx "else",tx "put",tx "0",tx ";",tx "end",tx ";"]
def nmE(s:TC):Row:=ex 6 (tx s) 0 []
def DS.r:DS->Row
 |.call p ob nm ag=>st (if p then 10 else 2) [] 0 [ex 6 nm 1 (ex 6 ob 0 []::ag.map aqY)] [] [] [] []
 |.push=>st 2 [] 0 [ex 6 "push" 1 [nmE "c",nmE "k"]] [] [] [] []
 |.mk=>st 3 "k" 0 [ex 6 "make" 0 []] [] [] [] []
 |.amr p=>st 4 [] 0 [ex 10 p 0 [ex 6 "peek" 1 [nmE "c"]]] [] [] [st 10 [] 0 [ex 6 "count" 1 [ex 6 p 0 []]] [] [] [] []] [st 10 [] 0 [ex 1 [] 0 []] [] [] [] []]
def YQ(w:Yz):Prop:=shape w=some 1/\axD w=true
def DS.ok:DS->Prop
 |.call _ ob nm ag=>YQ ob/\YQ nm/\ag.length<=2/\∀a∈ag,avm a
 |.amr p=>YQ p
 |_=>True
def atY{w:Yz}(h:YQ w):tk w=⟨1,w⟩:=by unfold tk;rw[h.1];rfl
def auN(h:avm n):(∃m:Nat,(m:Int)=-n/\n < 0/\m<=1099511627776/\amq n=[tx "-",tb 20 m]/\aqY n=ex 8 "-" 0 [ex 1 [] (num (tb 20 m)) []])∨∃m:Nat,(m:Int)=n/\m<=1099511627776/\amq n=[tb 20 m]/\aqY n=ex 1 [] (num (tb 20 m)) []:=by
 unfold avm at h;by_cases h0:n < 0
 .refine .inl ⟨(-n).toNat,by omega,h0,by omega,by simp[amq,h0],?_⟩;rw[atX 20 _ ab];simp[aqY,h0,show((-n).toNat:Int)=-n by omega]
 .refine .inr ⟨n.toNat,by omega,by omega,by simp[amq,h0],?_⟩;rw[atX 20 _ ab];simp[aqY,h0,show(n.toNat:Int)=n by omega]
def avI(h:avm n)(f:Nat)(s:Nat)(ts:Zi)(hs:s=44∨s=41):cj (f+30) 0 ((amq n).map tk++⟨5,[s]⟩::ts)=some (aqY n,⟨5,[s]⟩::ts):=by rcases auN h with⟨m,-,-,hm,e1,e2⟩|⟨m,-,hm,e1,e2⟩<;>rw[e1,e2]<;>simp only[lp,xK,awp hm]<;>rcases hs with rfl|rfl<;>rfl
def avn{f:Nat}{l:Zi}(h:aO "(" l=true):o5 (f+1) l=(yO f l.tail).bind λx=>(cK ")" x.2).bind λr=>some (x.1,r):=by simp only[o5,h,xN];rfl
def aua{f:Nat}{l:Zi}:yO (f+1) l=(cj f 0 l).bind λx=>if aO "," x.2 then(yO f x.2.tail).bind λy=>some (x.1::y.1,y.2) else some ([x.1],x.2):=by simp only[yO];rfl
def awq(hl:ag.length<=2)(h:∀a∈ag,avm a)(f:Nat)(ts:Zi):o5 (f+40) ((aqZ ag).map tk++⟨5,[59]⟩::ts)=some (ag.map aqY,⟨5,[59]⟩::ts):=by
 match ag,hl,h with
 |[],_,_=>rfl
 |[a],_,h=>
  have h1:=avI (h a ai) (f+8) 41 (⟨5,[59]⟩::ts) (.inr rfl);have e:(aqZ [a]).map tk++⟨5,[59]⟩::ts=⟨5,[40]⟩::((amq a).map tk++⟨5,[41]⟩::⟨5,[59]⟩::ts):=by show⟨5,[40]⟩::((amq a++[[41]]).map tk++_)=_;rw[MM,I5];rfl
  rw[e,avn rfl,aut,aua,h1];rfl
 |[a,b],_,h=>
  have h2:=avI (h b ai) (f+7) 41 (⟨5,[59]⟩::ts) (.inr rfl);have h1:=avI (h a ai) (f+8) 44 ((amq b).map tk++⟨5,[41]⟩::⟨5,[59]⟩::ts) (.inl rfl);have e:(aqZ [a,b]).map tk++⟨5,[59]⟩::ts=⟨5,[40]⟩::((amq a).map tk++⟨5,[44]⟩::((amq b).map tk++⟨5,[41]⟩::⟨5,[59]⟩::ts)):=by show⟨5,[40]⟩::((amq a++[44]::(amq b++[[41]])).map tk++_)=_;rw[MM,I5,lp,MM,qF,I5];rfl
  rw[e,avn rfl,aut,aua,h1];show((yO (f+38) ((amq b).map tk++⟨5,[41]⟩::⟨5,[59]⟩::ts)).bind λy=>some (aqY a::y.1,y.2)).bind _=_;rw[aua,h2];rfl
def avR{ob:Yz}(ho:YQ ob)(hn:YQ nm)(hl:ag.length<=2)(h:∀a∈ag,avm a)(f:Nat)(ts:Zi):cj (f+60) 0 (⟨1,ob⟩::⟨5,[46]⟩::⟨1,nm⟩::((aqZ ag).map tk++⟨5,[59]⟩::ts))=some (ex 6 nm 1 (ex 6 ob 0 []::ag.map aqY),⟨5,[59]⟩::ts):=by
 have h1:=awq hl h (f+11) ts;have hd:xj (f+52) (ex 6 ob 0 []) (⟨5,[46]⟩::⟨1,nm⟩::((aqZ ag).map tk++⟨5,[59]⟩::ts))=some (ex 6 nm 1 (ex 6 ob 0 []::ag.map aqY),⟨5,[59]⟩::ts):=by show(((o5 (f+51) ((aqZ ag).map tk++⟨5,[59]⟩::ts)):Option _).bind λx:List Row×List aF=>xj (f+51) (ex 6 nm 1 (ex 6 ob 0 []::x.1)) x.2)=_;rw[h1];rfl
 have hf:jK (f+53) (⟨1,ob⟩::⟨5,[46]⟩::⟨1,nm⟩::((aqZ ag).map tk++⟨5,[59]⟩::ts))=some (ex 6 nm 1 (ex 6 ob 0 []::ag.map aqY),⟨5,[59]⟩::ts):=by
  have hi:∀(s:Yz) (r:Zi),aO s (⟨1,ob⟩::r)=false:=λ_ _=>rfl;have hp:fF (f+52) (⟨1,ob⟩::⟨5,[46]⟩::⟨1,nm⟩::((aqZ ag).map tk++⟨5,[59]⟩::ts))=some (ex 6 ob 0 [],⟨5,[46]⟩::⟨1,nm⟩::((aqZ ag).map tk++⟨5,[59]⟩::ts)):=by rw[fF];rfl
  rw[jK,hi,hi,hi,aE ai,aE ai,aE ai,hp];exact hd
 have lv:∀(n:Nat) (k:Nat),n < 6->cj (f+53+k) (n+1) (⟨1,ob⟩::⟨5,[46]⟩::⟨1,nm⟩::((aqZ ag).map tk++⟨5,[59]⟩::ts))=some (ex 6 nm 1 (ex 6 ob 0 []::ag.map aqY),⟨5,[59]⟩::ts)->cj (f+53+k+1) n (⟨1,ob⟩::⟨5,[46]⟩::⟨1,nm⟩::((aqZ ag).map tk++⟨5,[59]⟩::ts))=some (ex 6 nm 1 (ex 6 ob 0 []::ag.map aqY),⟨5,[59]⟩::ts):=by
  intro n k hn6 hx;have e:cj (f+53+k+1) n (⟨1,ob⟩::⟨5,[46]⟩::⟨1,nm⟩::((aqZ ag).map tk++⟨5,[59]⟩::ts))=if n==6 then jK (f+53+k) (⟨1,ob⟩::⟨5,[46]⟩::⟨1,nm⟩::((aqZ ag).map tk++⟨5,[59]⟩::ts)) else(cj (f+53+k) (n+1) (⟨1,ob⟩::⟨5,[46]⟩::⟨1,nm⟩::((aqZ ag).map tk++⟨5,[59]⟩::ts))).bind λx=>rM (f+53+k) n x.1 x.2:=by rw[cj];rfl
  rw[e,aE aH,hx];have:∀(g:Nat) (x:Row),rM (g+1) n x (⟨5,[59]⟩::ts)=some (x,⟨5,[59]⟩::ts):=λg x=>by
   have hq:PM n (⟨5,[59]⟩::ts)=none:=rfl;rw[rM,hq]
  have h9:=this (f+52+k) (ex 6 nm 1 (ex 6 ob 0 []::ag.map aqY));rw[show f+52+k+1=f+53+k by omega] at h9;exact h9
 have h6:cj (f+53+1) 6 (⟨1,ob⟩::⟨5,[46]⟩::⟨1,nm⟩::((aqZ ag).map tk++⟨5,[59]⟩::ts))=some (ex 6 nm 1 (ex 6 ob 0 []::ag.map aqY),⟨5,[59]⟩::ts):=by rw[cj];exact hf
 exact lv 0 6 ab (lv 1 5 ab (lv 2 4 ab (lv 3 3 ab (lv 4 2 ab (lv 5 1 ab h6)))))
def auO{f:Nat}{l:Zi}(h:il l=true):dy (f+1) l=(sZ f l).bind λx=>(cK ";" x.2).bind λr=>(dy f r).bind λy=>some (x.1::y.1,y.2):=by rw[dy,aI h];rfl
def awr(s:DS)(hs:s.ok)(f:Nat)(ts:Zi):dy (f+100) (s.w.map tk++ts)=(dy (f+99) ts).bind λy=>some (s.r::y.1,y.2):=by
 cases s with
 |push=>kernel_rfl
 |mk=>show dy (f+100) (DS.mk.w.map tk++ts)=(dy (f+99) ts).bind λy=>some (DS.mk.r::y.1,y.2);kernel_rfl
 |amr p=>
  have hp:=atY hs;have e:(DS.amr p).w.map tk++ts=[tk "if",tk "attached",tk "c",tk ".",tk "peek",tk "as",⟨1,p⟩,tk "then",tk "put",⟨1,p⟩,tk ".",tk "count",tk ";",tk "else",tk "put",tk "0",tk ";",tk "end",tk ";"]++ts:=by rw[<-hp];rfl
  rw[e];show dy (f+100) _=(dy (f+99) ts).bind λy=>some ((DS.amr p).r::y.1,y.2);kernel_rfl
 |call put ob nm ag=>
  obtain⟨ho,hn,hl,ha⟩:=hs
  cases put with
  |true=>
   have e:(DS.call true ob nm ag).w.map tk++ts=⟨3,tx "put"⟩::(⟨1,ob⟩::⟨5,[46]⟩::⟨1,nm⟩::((aqZ ag).map tk++⟨5,[59]⟩::ts)):=by simp only[DS.w,xN,MM,lp,xK,atY ho,atY hn,qF,xR,I5];rfl
   have h1:=avR ho hn hl ha (f+38) ts;rw[e,auO rfl];have h2:sZ (f+99) (⟨3,tx "put"⟩::(⟨1,ob⟩::⟨5,[46]⟩::⟨1,nm⟩::((aqZ ag).map tk++⟨5,[59]⟩::ts)))=(cj (f+98) 0 (⟨1,ob⟩::⟨5,[46]⟩::⟨1,nm⟩::((aqZ ag).map tk++⟨5,[59]⟩::ts))).bind λx=>some (st 10 [] 0 [x.1] [] [] [] [],x.2):=by rw[sZ];rfl
   rw[h2,h1];rfl
  |false=>
   have e:(DS.call false ob nm ag).w.map tk++ts=⟨1,ob⟩::⟨5,[46]⟩::⟨1,nm⟩::((aqZ ag).map tk++⟨5,[59]⟩::ts):=by simp only[DS.w,MM,lp,xK,atY ho,atY hn,qF,xR,I5];rfl
   have h1:=avR ho hn hl ha (f+38) ts;rw[e,auO rfl];have h2:sZ (f+99) (⟨1,ob⟩::⟨5,[46]⟩::⟨1,nm⟩::((aqZ ag).map tk++⟨5,[59]⟩::ts))=(cj (f+98) 0 (⟨1,ob⟩::⟨5,[46]⟩::⟨1,nm⟩::((aqZ ag).map tk++⟨5,[59]⟩::ts))).bind λx=>if Jg x.1==6 then some (st 2 [] 0 [x.1] [] [] [] [],x.2) else none:=by rw[sZ];rfl
   rw[h2,h1];rfl
def avC(l:List DS):List (List Nat):=l.flatMap DS.w
def avo:∀(l:List DS),(∀s∈l,s.ok)->∀(f:Nat) (ts:Zi) (rows:Zg) (r:Zi),dy (f+100) ts=some (rows,r)->dy (f+100+l.length) ((avC l).map tk++ts)=some (l.map DS.r++rows,r)
 |[],_,f,ts,rows,r,h=>by simpa[avC] using h
 |s::l,hs,f,ts,rows,r,h=>by
  have ih:=avo l (λx hx=>hs x (eC _ hx)) f ts rows r h;have h1:=awr s (hs s ai) (f+1+l.length) ((avC l).map tk++ts);rw[show f+1+l.length+99=f+100+l.length by omega,ih] at h1;have e:(avC (s::l)).map tk++ts=s.w.map tk++((avC l).map tk++ts):=by simp[avC]
  rw[e,show f+100+(s::l).length=f+1+l.length+100 by simp only[dC];omega,h1];rfl
def hdW(cls:Yz):List (List Nat):=[tx "class",tx "MAIN",tx "create",tx "make",tx "feature",[123],tx "ANY",[125],tx "make",tx "local",tx "c",tx ":",cls]++(if cls==tx "STACK" then[tx "[",tx "COUNTER",tx "]",tx ";",tx "k",tx ":",tx "COUNTER"] else[])++[tx "do",tx "create",tx "c",tx ".",tx "make",tx ";"]
def at8:List (List Nat):=[tx "INTS",tx "SORTED",tx "STACK",tx "QUEUE",tx "TABLE",tx "SET",tx "COUNTER",tx "RANGE",tx "ARITH"]
def au3(cls:Yz)(l:List DS):List (List Nat):=hdW cls++(avC l++[tx "end",tx "end"])
def asN(cls:Yz)(l:List DS):Row:=
 [.str "MAIN",.bool false,.sl [],.sl [],.sl (strs [tx "make"]),.sl [[.int 2,.str "make",.sl (strs [tx "ANY"]),.sl []]++Br++
  [.sl ((.str (tx "c")::[.int 3,.str cls,.sl (if cls==tx "STACK" then[[.int 3,.str "COUNTER",.sl [],.bool false,.bool false]] else[]),.bool false,.bool false])::(if cls==tx "STACK" then[.str (tx "k")::[.int 3,.str "COUNTER",.sl [],.bool false,.bool false]] else[])),.sl [],.sl [],.sl (st 3 "c" 0 [ex 6 "make" 0 []] [] [] [] []::l.map DS.r),.sl [],.bool false]],.sl []]
def kF(vars:Zg)(F:Nat):List Row×List aF->Option (Row×List aF):=fun(b,r)=>do
 let(en,r) <-UI "ensure" F r
 let(rs,rb,r) <-(if aO "rescue" r then do let(x,r) <-dy F r.tail;some (true,x,r) else some (false,[],r))
 let r <-cK "end" r
 some ([.int 2,.str "make",.sl (strs [tx "ANY"]),.sl []]++Br++[.sl vars,.sl [],.sl en,.sl b,.sl rb,.bool rs],r)
def asF(cls:Yz):List Row:=(.str (tx "c")::[.int 3,.str cls,.sl (if cls==tx "STACK" then[[.int 3,.str "COUNTER",.sl [],.bool false,.bool false]] else[]),.bool false,.bool false])::(if cls==tx "STACK" then[.str (tx "k")::[.int 3,.str "COUNTER",.sl [],.bool false,.bool false]] else[])
def avp(cls:Yz):List (List Nat):=[tx "make",tx "local",tx "c",tx ":",cls]++(if cls==tx "STACK" then[tx "[",tx "COUNTER",tx "]",tx ";",tx "k",tx ":",tx "COUNTER"] else[])++[tx "do"]
def awc(cls:Yz)(hc:cls∈at8)(F:Nat)(M:Zi):oE [] [tx "ANY"] (F+108) ((avp cls).map tk++M)=(dy (F+108) M).bind (kF (asF cls) (F+108)):=by
 simp only[at8,cZ,as5,as6] at hc;rcases hc with rfl|rfl|rfl|rfl|rfl|rfl|rfl|rfl|rfl
 .show oE [] [tx "ANY"] (F+108) ((avp "INTS").map tk++M)=(dy (F+108) M).bind (kF (asF "INTS") (F+108));kernel_rfl
 .show oE [] [tx "ANY"] (F+108) ((avp "SORTED").map tk++M)=(dy (F+108) M).bind (kF (asF "SORTED") (F+108));kernel_rfl
 .show oE [] [tx "ANY"] (F+108) ((avp "STACK").map tk++M)=(dy (F+108) M).bind (kF (asF "STACK") (F+108));kernel_rfl
 .show oE [] [tx "ANY"] (F+108) ((avp "QUEUE").map tk++M)=(dy (F+108) M).bind (kF (asF "QUEUE") (F+108));kernel_rfl
 .show oE [] [tx "ANY"] (F+108) ((avp "TABLE").map tk++M)=(dy (F+108) M).bind (kF (asF "TABLE") (F+108));kernel_rfl
 .show oE [] [tx "ANY"] (F+108) ((avp "SET").map tk++M)=(dy (F+108) M).bind (kF (asF "SET") (F+108));kernel_rfl
 .show oE [] [tx "ANY"] (F+108) ((avp "COUNTER").map tk++M)=(dy (F+108) M).bind (kF (asF "COUNTER") (F+108));kernel_rfl
 .show oE [] [tx "ANY"] (F+108) ((avp "RANGE").map tk++M)=(dy (F+108) M).bind (kF (asF "RANGE") (F+108));kernel_rfl
 .show oE [] [tx "ANY"] (F+108) ((avp "ARITH").map tk++M)=(dy (F+108) M).bind (kF (asF "ARITH") (F+108));kernel_rfl
def awd(cls:Yz)(hc:cls∈at8)(l:List DS)(hs:∀s∈l,s.ok)(f:Nat)(rest:Zi):iw (f+110+l.length) ((au3 cls l).map tk++rest)=some (asN cls l,rest):=by
 have hb:=avo l hs (f+7) (⟨3,tx "end"⟩::⟨3,tx "end"⟩::rest) [] _ rfl;rw[gp] at hb;obtain⟨F,hF⟩:∃F,F=f+l.length:=⟨_,rfl⟩
 rw[show f+7+100+l.length=F+107 by omega] at hb;rw[show f+110+l.length=F+110 by omega];have e:(au3 cls l).map tk++rest=[tk "class",tk "MAIN",tk "create",tk "make",tk "feature",tk [123],tk "ANY",tk [125]]++((avp cls).map tk++([tk "create",tk "c",tk ".",tk "make",tk ";"]++((avC l).map tk++(⟨3,tx "end"⟩::⟨3,tx "end"⟩::rest)))):=by simp only[au3,hdW,avp,MM,I5,lp,xK,qF,xR];rfl
 rw[e];unfold asN;generalize (avC l).map tk++(⟨3,tx "end"⟩::⟨3,tx "end"⟩::rest)=L at hb|-;generalize l.map DS.r=R at hb|-;have h1:dy (F+108) ([tk "create",tk "c",tk ".",tk "make",tk ";"]++L)=(dy (F+107) L).bind λy=>some (st 3 "c" 0 [ex 6 "make" 0 []] [] [] [] []::y.1,y.2):=af;rw[hb] at h1;have h2:=awc cls hc F ([tk "create",tk "c",tk ".",tk "make",tk ";"]++L);rw[h1] at h2;have h3:oE [] [tx "ANY"] (F+108) ((avp cls).map tk++([tk "create",tk "c",tk ".",tk "make",tk ";"]++L))=some ([.int 2,.str "make",.sl (strs [tx "ANY"]),.sl []]++Br++[.sl (asF cls),.sl [],.sl [],.sl (st 3 "c" 0 [ex 6 "make" 0 []] [] [] [] []::R),.sl [],.bool false],⟨3,tx "end"⟩::rest):=by rw[h2];rfl
 generalize (avp cls).map tk++([tk "create",tk "c",tk ".",tk "make",tk ";"]++L)=N at h3|-;have h4:nM [] [tx "ANY"] (F+109) N=some ([[.int 2,.str "make",.sl (strs [tx "ANY"]),.sl []]++Br++[.sl (asF cls),.sl [],.sl [],.sl (st 3 "c" 0 [ex 6 "make" 0 []] [] [] [] []::R),.sl [],.bool false]],⟨3,tx "end"⟩::rest):=by rw[nM,h3];rfl
 have h5:qm [] (F+110) (tk (tx "feature")::tk [123]::tk (tx "ANY")::tk [125]::N)=some ([[.int 2,.str "make",.sl (strs [tx "ANY"]),.sl []]++Br++[.sl (asF cls),.sl [],.sl [],.sl (st 3 "c" 0 [ex 6 "make" 0 []] [] [] [] []::R),.sl [],.bool false]],⟨3,tx "end"⟩::rest):=by have:qm [] (F+110) (tk (tx "feature")::tk [123]::tk (tx "ANY")::tk [125]::N)=(nM [] [tx "ANY"] (F+109) N).bind λx=>(qm [] (F+109) x.2).bind λy=>some (x.1++y.1,y.2):=af;rw[this,h4];rfl
 have h6:iw (F+110) (tk (tx "class")::tk (tx "MAIN")::tk (tx "create")::tk (tx "make")::(tk (tx "feature")::tk [123]::tk (tx "ANY")::tk [125]::N))=(qm [] (F+110) (tk (tx "feature")::tk [123]::tk (tx "ANY")::tk [125]::N)).bind λx=>(UI "invariant" (F+110) x.2).bind λy=>(cK "end" y.2).bind λr=>some ([.str "MAIN",.bool false,.sl [],.sl [],.sl (strs [tx "make"]),.sl x.1,.sl y.1],r):=af;rw[h5] at h6;exact h6
end Go.Proofs.Gm
