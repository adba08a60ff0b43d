/- A part of the proof of BaseTexts. No condition. -/
import Derived.Test.YtibajhihfaggfaaGreatDoorPAJ
import Derived.Test.YtibajhihfaggfaaGreatDoorPAQ
import Derived.Test.YtibajhihfaggfaaGreatDoorPAR
set_option linter.all false
set_option maxRecDepth 100000
set_option maxHeartbeats 8000000
namespace Go.Proofs.Gm
open Go.Proofs.Tryz
open Go.RowKit Go.Maps
open Go.Proofs.Bm
variable {g p b k m off gz z x cap K N bx:Nat}{nm t s:List Nat}{n:Int}{V w' W:World}{tags li lb l rest es:List Row}{y:Row}{ws A B:List (List Nat)}{S:Nat->Prop}{v v0:Value}{xs:List Value}{bl:List (Nat×Obj)}{L:List aF}{cs:Array Value}{fr:Nat×Nat}{P:Program}
def an.aok{w:World}(h:an S w (.sl (y::l)) (.slice (some ⟨b,off,none⟩) (y::l).length cap))(hy:y.length=4):an S w (.sl l) (sV (some ⟨b,off+4,none⟩) l.length (cap - 1)):=by
 generalize hv:Value.slice (some ⟨b,off,none⟩) (y::l).length cap=v at h
 cases h with
 |sl rows g VP xV wd c hS hg oG hm hw hc IN=>
  simp only[Value.slice.injEq,wY,I0] at hv;obtain⟨⟨rfl,rfl,-⟩,-,rfl⟩:=hv;have h4:wd=4:=by rw[<-hw y (eu ..),hy]
  subst h4;rw[dC] at oG;refine .sl l b (off+4) (cap - 1) 4 (fun k j=>c (k+1) j) hS hg ab ab (fun r hr=>hw r (eC _ hr)) (fun k j row t h1 h2=>?_) (fun k j row t h1 h2=>IN (k+1) j row t kW h2);have:=hc (k+1) j row t kW h2;rw[show off+4+(k*4+j)=off+((k+1)*4+j) by omega];exact this
def an.alJ{w:World}(h:an S w (.sl (y::l)) (.slice (some ⟨b,off,none⟩) (y::l).length cap))(h1:cap=1):an S w (.sl l) (sV (some ⟨b,off,none⟩) l.length 0):=by
 generalize hv:Value.slice (some ⟨b,off,none⟩) (y::l).length cap=v at h
 cases h with
 |sl rows g VP xV wd c hS hg oG hm hw hc IN=>simp only[Value.slice.injEq,wY,I0] at hv;obtain⟨⟨rfl,rfl,-⟩,-,rfl⟩:=hv;rw[dC] at oG;have:l=[]:=W9.1 ab;subst this;exact .sl [] b off 0 0 (fun _ _=>iV 0) hS hg (aM _) (dE _) ai ai ai
def aiA{f:Nat}{kids:List Row}:eE f 6 nm n kids=(if n==1 then(match kids with|x::_=>bE f x 8++[tx "."]|[]=>[]) else[])++[nm]++wBr "(" ")" (fun x=>bE f x 1) (if n==1 then kids.tail else kids):=rfl
def wE6(ih:WR g){f:Nat}(hf:2*g<=f){p:Nat}{v:Value}{V:World}{ws:List (List Nat)}(h:WQ p v V ws)(nm:List Nat)(n:Int)(kids:List Row){x:Value}(lv:Nat)(IU:¬aS 6 nm < lv)(hs:bW nm)(bL:∀x∈kids,lZ g x)(hx:an (Dt p v) V (.sl kids) x)(hN:ws.length+(eE f 6 nm n kids).length<=1000000):Calls prog 206 #[pW p,.agg #[iV 6,nm,n,x],iV lv] V (WP p v V (ws++eE f 6 nm n kids)):=by
 revert x hx;change ∀x,_;refine ei ?_;intro a cap gF hx lC;obtain⟨KL,sc⟩:∃m,kids.length=m:=⟨_,rfl⟩
 rw[sc] at hx lC ⊢;replace sc:=ah sc;have S:=h.start.box (.cells #[iV 6,nm,n,sV a KL cap] 181 (0,0));obtain⟨FR,hFR⟩:∃A,(if n==1 then(match kids with|x::_=>bE f x 8++[tx "."]|[]=>[]) else[])=A:=⟨_,rfl⟩
 obtain⟨args,Q5⟩:∃A,(if n==1 then kids.tail else kids)=A:=⟨_,rfl⟩
 have hoa:∀x∈args,lZ g x:=by
  rw[<-Q5];intro x hx;split at hx
  ·exact bL x (List.mem_of_mem_tail hx)
  ·exact bL x hx
 rw[aiA,hFR,Q5] at hN ⊢;revert hFR Q5 hoa;refine jk ?_;intro hFR Q5 hoa;obtain⟨d0,d1,d2,d3,-⟩:=cc (S.heap 0);have qW:¬((aS 6 nm:Nat):Int) < (lv:Int):=ab;obtain⟨own,ep⟩:∃o,aS 6 nm=o:=⟨_,rfl⟩
 have gD:=fun w=>fC 6 nm n (sV a KL cap) hs w;rw[ep] at qW gD;replace S:=ah S;replace hN:=ah hN;replace hx:=ah hx;replace bL:=ah bL;replace gD:=ah gD;replace ep:=ah ep;replace ih:=ah ih;go_enter func206,ntmps206;go_wp2_with fail;refine bD (gD _) fun w2 P=>?_;have S2:=S.no P;obtain⟨d0,d1,d2,d3,-⟩:=cc (S2.heap 0);replace S2:=ah S2;go_wp2_with fail;refine bD (gD _) fun w3 P=>?_;have S3:=S2.no P;obtain⟨d0,d1,d2,d3,-⟩:=cc (S3.heap 0);replace S3:=ah S3;obtain⟨C,hC⟩:∃C,(n==1&&!kids.isEmpty)=C:=⟨_,rfl⟩
 replace hC:=ah hC;go_upto_region 22 with fail;go_cut [68] from 60 (fun v68 wc=>v68=.bool C/\WF p v V ws [(V,.cells #[iV 6,nm,n,sV a KL cap] 181 (0,0))] wc)
 case first=>
  by_cases hn:n=1
  ·subst hn;by_cases hk:(0:Int) < (KL:Int)
   ·go_wp2_with fail;go_meet
    case rel=>exact⟨by
     have h':=hC.out
     cases C with
     |true=>exact gq Value.bool (B4 ab)
     |false=>
      have xi:kids=[]:=by simpa using h'
      have U5:=sc.out;rw[xi] at U5;simp at U5;omega,S3⟩
   ·go_wp2_with fail;go_meet
    case rel=>exact⟨by
     have U5:=sc.out;have xi:kids=[]:=W9.1 ab;have h':=hC.out
     cases C with
     |false=>exact gq Value.bool (B5 ab)
     |true=>rw[xi] at h';simp at h',S3⟩
  ·have Pt:¬1=n:=fun e=>hn e.symm;go_wp2_with fail;go_meet
   case rel=>exact⟨by
    have h':=hC.out
    cases C with
    |false=>rfl
    |true=>simp[hn] at h',S3⟩
 case rest=>
 obtain⟨rfl,hcut⟩:=hcut;have d3:=bc (hcut.heap 0) 3;have S3:=ah hcut;go_upto_if 68 with fail;go_cut [7] from 69 (fun v7 wc=>an (Dt p v) V (.sl args) v7/\WF p v V (ws++FR) [(V,.cells #[iV 6,nm,n,sV a KL cap] 181 (0,0))] wc)
 case first=>
  cases C with
  |true=>
   have hC2:=hC.out;simp at hC2;obtain⟨rfl,hk⟩:=hC2;obtain⟨y,rest,rfl⟩:=A5 hk
   ·have hL2:=sc.out;rw[dC] at hL2;have h1:(0:Int) < ((KL:Nat):Int):=ab;have h2:(1:Int)<=((KL:Nat):Int):=ab;replace hx:=hx.out;rw[<-sc.out] at hx;replace hx:=ah hx;obtain⟨b,off,k1,xu,n1,l1,y1,rfl,hg,rfl,q0,q1,q2,q3,v1⟩:=vx (j:=0) hx.out rfl (bL.out _ (eu ..));simp only[xL,fS] at q0 q1 q2 q3;have qI:=ah (bL _ (eu ..));have htl:=ah (hx.aok rfl);have hte:=ah hx.out.alJ;have hF2:=hFR.out;have RO:=Q5.out;simp at hF2 RO;subst hF2 RO;revert hg v1;refine ct ?_;intro hg v1;have p0:=S3.bA hg q0;have p1:=S3.bA hg q1;have p2:=S3.bA hg q2;have p3:=S3.bA hg q3;replace hL2:=ah hL2;go_wp2_with fail;refine bD (S3.step fun v hq up=>ih f hf p v _ _ k1 xu n1 l1 y1 8 hq qI (up v1) az) fun w4 S4=>?_;have d3:=bc (S4.heap 0) 3;go_wp2_with fail;refine bD (S4.step fun v hq up=>cN hq "." az) fun w5 S5=>?_;have d3:=bc (S5.heap 0) 3;replace S5:=ah S5;have hLr:KL - 1=rest.length:=by have:=hL2.out;omega
    replace hLr:=ah hLr;by_cases oG:cap=1
    ·subst oG;go_wp2_with fail;go_meet
     case rel=>exact⟨by rw[hLr.out];exact hte bw,S5.cast ai⟩
    ·have aol:¬(cap:Int)=1:=by omega
     go_wp2_with fail;go_meet
     case rel=>exact⟨by rw[hLr.out];exact htl,S5.cast ai⟩
  |false=>
   go_wp2_with fail;go_meet
   case rel=>
    have hC2:=hC.out;have hF2:=hFR.out;have RO:=Q5.out;by_cases hn:n=1
    ·subst hn
     cases kids with
     |nil=>simp at hF2 RO;exact Er
     |cons y rest=>simp at hC2
    ·simp[hn] at hF2 RO;exact Er
 case rest=>
 obtain⟨hxa,S4⟩:=hcut;obtain⟨a7,c7,rfl,hl7⟩:=hxa.aU;have lC:args.length<=9223372036854775807:=hl7;have d1:=bc (S4.heap 0) 1;revert S4 hxa;refine ct ?_;intro S4 hxa;go_wp2_with fail;refine bD (S4.step fun v hq up=>NX hq nm az) fun w5 S5=>?_;replace S5:=ah S5;go_wp2_with fail;go_loopg [8] args.length (fun gg s8 wr=>∃k:Nat,s8=iV k/\k+gg=args.length/\WF p v V (ws++FR++[nm]++mq "(" (fun x=>bE f x 1) args k) [(V,.cells #[iV 6,nm,n,sV a KL cap] 181 (0,0))] wr)
 case atStart=>exact⟨0,rfl,by omega,S5.cast (by simp[mq])⟩
 case round=>
  obtain⟨j,rfl,zC,H⟩:=hrel;by_cases hj:j < args.length
  ·obtain⟨row,aL⟩:∃s,args[j]?=some s:=⟨_,ck hj⟩
   obtain⟨b,off,k1,xu,n1,l1,y1,rfl,hg,rfl,q0,q1,q2,q3,v1⟩:=vx hxa.out aL (hoa.out _ (cm aL));have qI:=ah (hoa _ (cm aL));have jS:(j:Int) < (args.length:Int):=ab;have sQ:(0:Int)<=(j:Int):=ab;have hT:=OP (s:= "(") (g:=(fun x=>bE f x 1)) aL;have hN':=hN.out;have cR:args≠[]:=by rintro rfl;simp at hj
   have hbl:=gq List.length (Ix (s:= "(") (e:= ")") (g:=(fun x=>bE f x 1)) cR);have hol:=VJ (s:= "(") (g:=(fun x=>bE f x 1)) (l:=args) (k:=j+1) ab;rw[j0,abi] at hbl;have Lg:ws.length+FR.length+1+(mq "(" (fun x=>bE f x 1) args (j+1)).length+1<=1000000:=by simp at hN';omega
   rw[hT] at Lg;revert hg v1 hT Lg;refine jU ?_;intro hg v1 hT Lg;by_cases Px:j=0
   ·have hj3:(j:Int)=0:=by omega
    rw[aI Px] at hT Lg;go_wp2_with fail;refine(H.step fun v hq _=>cN hq "(" gQ).mono ?_;rintro e w2 ⟨rfl,H2⟩;refine pq ?_;intro p0 p1 p2 p3;rw[Px] at p0 p1 p2 p3;simp only[xL,fS] at p0 p1 p2 p3;go_wp2_with fail;refine bD (H2.step fun v hq up=>ih f hf p v _ _ k1 xu n1 l1 y1 1 hq qI (up v1) gQ) fun w3 H3=>?_;exact Dy
   ·have hj3:¬(j:Int)=0:=by omega
    rw[aE Px] at hT Lg;go_wp2_with fail;refine bD (H.step fun v hq _=>cN hq "," gQ) fun w2 H2=>?_;have p0:=H2.bA hg q0;have p1:=H2.bA hg q1;have p2:=H2.bA hg q2;have p3:=H2.bA hg q3;go_wp2_with fail;refine bD (H2.step fun v hq up=>ih f hf p v _ _ k1 xu n1 l1 y1 1 hq qI (up v1) gQ) fun w3 H3=>?_;exact DC
  ·have jS:¬((j:Int) < (args.length:Int)):=by omega
   have H':=ah (H.cast (ws':=ws++FR++[nm]++mq "(" (fun x=>bE f x 1) args args.length) (by rw[show j=args.length by omega]))
   cases args with
   |nil=>go_wp2_with fail;go_end0;exact⟨rfl,H'.fin.cast (by simp[mq,wBr])⟩
   |cons y l=>have h1:(0:Int) < (((y::l).length:Nat):Int):=wg;have hw:=ah (Ix (s:= "(") (e:= ")") (g:=(fun x=>bE f x 1)) (l:=y::l) ai);rw[hw.out] at hN;generalize hWW:mq "(" (fun x=>bE f x 1) (y::l) (y::l).length=WW at hN H' hw;generalize (y::l).length=LL at h1 jS lC ⊢;go_wp2_with fail;refine(H'.step fun v hq _=>cN hq ")" az).mono ?_;rintro e w2 ⟨rfl,H2⟩;replace H2:=ah H2;go_wp2_with fail;go_end0;exact⟨rfl,H2.fin.cast wx⟩
def aom(ih:WR g){f:Nat}(hf:2*g<=f){p:Nat}{v:Value}{V:World}{ws:List (List Nat)}(h:WQ p v V ws)(k:Int)(nm:List Nat)(n:Int)(kids:List Row){x:Value}(lv:Nat)(IU:¬aS k nm < lv)(VQ:lZ (g+1) [k,nm,n,kids])(hx:an (Dt p v) V (.sl kids) x)(hN:ws.length+(eE f k nm n kids).length<=1000000):Calls prog 206 #[pW p,.agg #[k,nm,n,x],iV lv] V (WP p v V (ws++eE f k nm n kids)):=by
 obtain⟨hs,hk,h1,bL⟩:=aaL VQ;by_cases k1:k=1
 ·subst k1;exact wE1 ih hf h nm n kids lv IU hs (h1 rfl) bL hx hN
 by_cases k2:k=2
 ·subst k2;exact wE2 ih hf h nm n kids lv IU hs bL hx hN
 by_cases k3:k=3
 ·subst k3;exact wE3 ih hf h nm n kids lv IU hs bL hx hN
 by_cases k4:k=4
 ·subst k4;exact wE4 ih hf h nm n kids lv IU hs bL hx hN
 by_cases k5:k=5
 ·subst k5;exact wE5 ih hf h nm n kids lv IU hs bL hx hN
 by_cases k6:k=6
 ·subst k6;exact wE6 ih hf h nm n kids lv IU hs bL hx hN
 by_cases k7:k=7
 ·subst k7
  match kids,bL,hx,hN with
  |[a,b],bL,hx,hN=>exact wE7 ih hf h nm n a b lv IU hs bL hx hN
  |[],bL,hx,hN=>exact alI ih hf h nm n [] lv IU hs ai bL hx hN
  |[a],bL,hx,hN=>exact alI ih hf h nm n [a] lv IU hs ai bL hx hN
  |a::b::c::d,bL,hx,hN=>exact alI ih hf h nm n (a::b::c::d) lv IU hs ai bL hx hN
 by_cases k8:k=8
 ·subst k8;exact wE8 ih hf h nm n kids lv IU hs bL hx hN
 by_cases k9:k=9
 ·subst k9;exact wE9 ih hf h nm n kids lv IU hs bL hx hN
 have k10:k=10:=ab;subst k10;exact aqu ih hf h nm n kids lv IU hs bL hx hN
def afA(ih:WR g):WR (g+1):=by
 intro f hf p v V ws k nm n kids x lv h VQ hx hN;obtain⟨f,rfl⟩:∃m,f=m+1:=⟨f - 1,by omega⟩
 by_cases IU:aS k nm < lv
 ·obtain⟨f,rfl⟩:∃m,f=m+1:=⟨f - 1,by omega⟩
  have hnl:¬aS k nm < 1:=by have:=VL k nm;omega
  rw[VN IU,OQ hnl] at hN ⊢;have hs:=(aaL VQ).1;obtain⟨a,cap,rfl,gF⟩:=hx.aU;have S:=h.start.box (.cells #[k,nm,n,sV a kids.length cap] 181 (0,0));obtain⟨d0,d1,d2,d3,-⟩:=cc (S.heap 0);have qW:((aS k nm:Nat):Int) < (lv:Int):=ab;obtain⟨own,ep⟩:∃o,aS k nm=o:=⟨_,rfl⟩
  have gD:=fun w=>fC k nm n (sV a kids.length cap) hs w;have hco:=fun(v:Value) (W:World) (us:List (List Nat)) (hq:WQ p v W us) (hy:an (Dt p v) W (.sl kids) (sV a kids.length cap)) (hM:us.length+(eE f k nm n kids).length<=1000000)=>aom ih ab hq k nm n kids 1 hnl VQ hy hM;rw[ep] at qW gD;revert hN hx S gD hco;refine nx ?_;intro hN hx S gD hco;go_enter func206,ntmps206;go_wp2_with fail;refine bD (gD _) fun w2 P=>?_;have S2:=ah (S.no P);go_wp2_with fail;refine(S2.step fun v hq _=>cN hq "(" az).mono ?_;rintro e w3 ⟨rfl,S3⟩;obtain⟨d0,d1,d2,d3,-⟩:=cc (S3.heap 0);go_wp2_with fail;refine bD (S3.step fun v hq up=>hco _ _ _ hq (up hx) az) fun w4 S4=>?_;go_wp2_with fail;refine(S4.step fun v hq up=>cN hq ")" az).mono ?_;rintro e w5 ⟨rfl,S5⟩;replace S5:=ah S5;go_wp2_with fail;go_end0;exact⟨rfl,S5.fin.cast ai⟩
 ·rw[OQ IU] at hN ⊢;exact aom ih ab h k nm n kids lv IU VQ hx hN
def pj:∀g,WR g
 |0=>fun f hf p v V ws k nm n kids x lv h VQ=>VQ.elim
 |g+1=>afA (pj g)
def WF.tail{w:World}{b:Nat×Obj}{bs:List (Nat×Obj)}(h:WF p v0 w ws (b::bs) V):WF p v0 w ws bs V:=by obtain⟨v,hq,hv,hb⟩:=h.q;exact⟨⟨v,hq,hv,fun q xG=>hb q (eC _ xG)⟩,fun q xG=>h.bx q (eC _ xG),h.pw,h.ow,h.kp⟩
def WF.YA{w:World}(h:WF p v0 w ws bl V)(s1:List Nat)(s2:String){b:ByteArray}(hN:ws.length+2<=1000000)(hb:b=bs (tx s2):=by rfl):Calls prog 75 #[pW p,sV V 2 2] (V.alloc (cO #[s1,b] 9)) fun e w'=>e=.returned (.tuple #[])/\WF p v0 w (ws++[s1,tx s2]) bl w':=by
 subst hb;have S:=h.box (cO #[s1,(tx s2)] 9);obtain⟨v,hq,hv,hb⟩:=S.q;have hc:an (Dt p v) (V.alloc (cO #[s1,(tx s2)] 9)) (.sl (strs [s1,tx s2])) (sV V 2 2):=
  aW (E:=9) (fr:=(0,0)) (wd:=1) (css:=[s1,tx s2].map fun s=>[.string (bs s)]) (arr:=#[s1,(tx s2)]) ao rfl (gP [s1,tx s2]) ⟨by have:=(S.bx _ (eu ..)).1;have:=S.pw;simp only at*;omega,hb _ (eu ..)⟩ (aM _) aj
 exact(aiw hq [s1,tx s2] hc hN).mono fun e w' ⟨h1,h2⟩=>⟨h1,(S.after hv hb h2).tail⟩
def zg(g:Nat)(r:Row):Prop:=∃t k nm n kids,r=[.str t,.int k,.str nm,.int n,.sl kids]/\lZ g [.int k,.str nm,.int n,.sl kids]
def wCl(f:Nat)(r:Row):List (List Nat):=match r with
 |.str t::x=>[t,tx ":"]++bE f x 1++[tx ";"]
 |_=>[[]]
def aqv{f:Nat}(hf:2*g<=f){p:Nat}{v:Value}{V:World}{ws:List (List Nat)}(h:WQ p v V ws)(l:List Row){x:Value}(bL:∀r∈l,zg g r)(hx:an (Dt p v) V (.sl l) x)(hN:ws.length+(l.flatMap (wCl f)).length<=1000000):Calls prog 122 #[pW p,x] V (WP p v V (ws++l.flatMap (wCl f))):=by
 obtain⟨a,cap,rfl,gF⟩:=hx.aU;have lC:l.length<=9223372036854775807:=gF;revert h bL hN hx;refine jU ?_;intro h bL hN hx;go_enter func122,ntmps122;go_wp2_with fail;go_loopg [4] l.length (fun gg s4 wr=>∃k:Nat,s4=iV k/\k+gg=l.length/\WF p v V (ws++(l.take k).flatMap (wCl f)) [] wr)
 case atStart=>exact⟨0,rfl,by omega,(h.start).cast ai⟩
 case round=>
  obtain⟨j,rfl,zC,H⟩:=hrel;by_cases hj:j < l.length
  ·obtain⟨row,aL⟩:∃s,l[j]?=some s:=⟨_,ck hj⟩
   obtain⟨t,k,nm,n,kids,rfl,VQ⟩:=bL.out row (cm aL);obtain⟨b,off,rfl,hg,cs,hR,fY⟩:=hx.out.elem aL;obtain⟨c0,Ap,rfl,v0,hR⟩:=hR.aG;obtain⟨c1,U6,rfl,v1,hR⟩:=hR.aG;obtain⟨c2,T3,rfl,v2,hR⟩:=hR.aG;obtain⟨c3,Sx,rfl,v3,hR⟩:=hR.aG;obtain⟨c4,cs4,rfl,v4,hR⟩:=hR.aG;have:=hR.jO;subst this
   cases v0.bq
   cases v1.fu
   cases v2.bq
   cases v3.fu;obtain⟨q0,q1,-⟩:=hc (o:=off+j*5) fun k _ e=>fY k _ e;have q2:V.cell? ⟨b,off+j*5+1+1,none⟩=(some (.string (bs nm)):Option Value):=fY 2 _ rfl;have q3:V.cell? ⟨b,off+j*5+1+2,none⟩=(some (iV n):Option Value):=fY 3 _ rfl;have q4:V.cell? ⟨b,off+j*5+1+3,none⟩=(some c4:Option Value):=fY 4 _ rfl;refine kM ?_;intro jS sQ;have hT:=Q3 (g:=wCl f) aL;have Lg:=VI (g:=wCl f) (l:=l) (k:=j+1);rw[hT,j0] at Lg;have Je:ws.length+((l.take j).flatMap (wCl f)).length+(bE f [.int k,nm,n,kids] 1).length+3<=1000000:=by
    have h1:=hN.out;have h2:(wCl f [t,.int k,nm,n,kids]).length=(bE f [.int k,nm,n,kids] 1).length+3:=by simp[wCl]
    rw[h2] at Lg;omega
   have p0:=H.bA hg q0;revert VQ hg v4 hT Je;refine nx ?_;intro VQ hg v4 hT Je;go_wp2_with fail;refine bD (H.YA t ":" fO) fun w2 H2=>?_;have p1:=H2.bA hg q1;have p2:=H2.bA hg q2;have p3:=H2.bA hg q3;have p4:=H2.bA hg q4;go_wp2_with fail;refine bD (H2.step fun v hq up=>pj g f hf p v _ _ k nm n kids c4 1 hq VQ (up v4) fO) fun w3 H3=>?_;go_wp2_with fail;refine bD (H3.step fun v hq up=>cN hq ";" fO) fun w4 H4=>?_;replace H4:=ah H4;go_wp2_with fail;go_roundg (gk - 1)
   case measure=>omega
   case rel=>exact⟨j+1,rfl,by omega,H4.cast (by rw[hT.out];simp[wCl])⟩
  exact po
def alK(s:List Nat)(f:Nat)(l:List Row):List (List Nat):=if l.isEmpty then[] else s::l.flatMap (wCl f)
def aiB{s:String}{f:Nat}:dX s f l=alK (tx s) f l:=rfl
def aiC{f:Nat}(h:l≠[]):alK s f l=s::l.flatMap (wCl f):=by
 cases l with
 |nil=>exact absurd rfl h
 |cons x l=>rfl
def OR{f:Nat}(hf:2*g<=f){p:Nat}{v:Value}{V:World}{ws:List (List Nat)}(h:WQ p v V ws)(s:String){b:ByteArray}(l:List Row){x:Value}(bL:∀r∈l,zg g r)(hx:an (Dt p v) V (.sl l) x)(hN:ws.length+(dX s f l).length<=1000000)(hb:b=bs (tx s):=by rfl):
  Calls prog 80 #[pW p,.string b,x] V (WP p v V (ws++dX s f l)):=by
 obtain⟨a,cap,rfl,gF⟩:=hx.aU;have lC:l.length<=9223372036854775807:=gF;rw[aiB] at hN ⊢;have S:=ah h.start;obtain⟨KL,sc⟩:∃m,l.length=m:=⟨_,rfl⟩
 rw[sc] at lC hx ⊢;revert bL hb hx sc;refine jU ?_;intro bL hb hx sc;by_cases hl:0 < KL
 ·have h1:(0:Int) < (KL:Int):=by omega
  have cR:l≠[]:=by rintro rfl;have:=sc.out;simp at this;omega
  have hw:=ah (aiC (s:=tx s) (f:=f) cR);rw[hw.out] at hN;replace hN:=ah hN;go_enter func80,ntmps80;go_wp2_with fail;refine bD (S.step fun v hq _=>cN hq s az hb) fun w2 S2=>?_;go_wp2_with fail;refine bD (S2.step fun v hq up=>aqv hf hq l bL (up hx) az) fun w3 S3=>?_;replace S3:=ah S3;go_wp2_with fail;go_end0;exact⟨rfl,S3.cast wx⟩
 ·have h1:¬(0:Int) < (KL:Int):=by omega
  have cR:l=[]:=W9.1 Bo;have hw:alK (tx s) f l=[]:=by rw[cR];rfl
  rw[hw];go_enter func80,ntmps80;go_wp2_with fail;go_end0;exact⟨rfl,S.cast ai⟩
def VR(f:Nat)(r:Row):Prop:=∃t k nm args vd sp,r=[.str t,.int k,.str nm,.sl args,.bool vd,.bool sp]/\Iw f [.int k,.str nm,.sl args,.bool vd,.bool sp]=true
def wVa(f:Nat)(r:Row):List (List Nat):=match r with
 |.str n::t=>[n,tx ":"]++ka f t
 |_=>[[]]
def OT{f:Nat}{y:Row}(hy:VR f y):∀(xs:List Row),(∀x∈xs,VR f x)->mm f (xs++[y])=mm f xs++((if xs.isEmpty then[] else[tx ";"])++wVa f y)
 |[],_=>by
  obtain⟨t,k,nm,args,vd,sp,rfl,-⟩:=hy;rfl
 |[x],h=>by
  obtain⟨t,k,nm,args,vd,sp,rfl,-⟩:=hy;obtain⟨t2,k2,nm2,aon,vd2,sp2,rfl,-⟩:=h x (eu ..);simp[mm,wVa]
 |x::z::xs,h=>by
  have:=OT hy (z::xs) fun r hr=>h r (eC _ hr);obtain⟨t2,k2,nm2,aon,vd2,sp2,rfl,-⟩:=h x (eu ..);simp only[qF,mm] at this ⊢;rw[this];simp
def OU{f:Nat}{x:Row}(hx:l[k]?=some x)(h:∀r∈l,VR f r):mm f (l.take (k+1))=mm f (l.take k)++((if k=0 then[] else[tx ";"])++wVa f x):=by
 have hk:=(dk.1 hx).1;rw[wZ,hx,Qq,OT (h x (cm hx)) _ fun r hr=>h r (Uh hr)];congr 2
 by_cases h0:k=0
 ·subst h0;simp
 ·rw[aE h0,aE];have:0 < (l.take k).length:=by rw[sK];omega
  intro e;rw[List.isEmpty_iff] at e;rw[e] at this;simp at this
def afB{f:Nat}(h:∀r∈l,VR f r):∀{k:Nat},k<=l.length->(mm f (l.take k)).length<=(mm f l).length:=by
 intro k hk;obtain⟨n,hn⟩:∃n,l.length=k+n:=⟨l.length - k,by omega⟩
 induction n generalizing k with
 |zero=>rw[oh ab];exact aM _
 |succ n ih=>
  obtain⟨x,hx⟩:∃x,l[k]?=some x:=⟨_,ck ab⟩
  have h1:=OU hx h;exact D2
def aaM{f:Nat}(h:WQ p v V ws)(l:List Row){x:Value}(bL:∀r∈l,VR f r)(hx:an (Dt p v) V (.sl l) x)(hN:ws.length+(mm f l).length<=1000000):Calls prog 119 #[pW p,x] V (WP p v V (ws++mm f l)):=by
 obtain⟨a,cap,rfl,gF⟩:=hx.aU;have lC:l.length<=9223372036854775807:=gF;revert h bL hN hx;refine jU ?_;intro h bL hN hx;go_enter func119,ntmps119;go_wp2_with fail;go_loopg [4] l.length (fun gg s4 wr=>∃k:Nat,s4=iV k/\k+gg=l.length/\WF p v V (ws++mm f (l.take k)) [] wr)
 case atStart=>exact⟨0,rfl,by omega,(h.start).cast (by simp[mm])⟩
 case round=>
  obtain⟨j,rfl,zC,H⟩:=hrel;by_cases hj:j < l.length
  ·obtain⟨row,aL⟩:∃s,l[j]?=some s:=⟨_,ck hj⟩
   have hT:=OU aL bL;obtain⟨t,k,nm,args,vd,sp,rfl,eF⟩:=bL.out row (cm aL);obtain⟨b,off,rfl,hg,cs,hR,fY⟩:=hx.out.elem aL;obtain⟨c0,Ap,rfl,v0,hR⟩:=hR.aG;obtain⟨c1,U6,rfl,v1,hR⟩:=hR.aG;obtain⟨c2,T3,rfl,v2,hR⟩:=hR.aG;obtain⟨c3,Sx,rfl,v3,hR⟩:=hR.aG;obtain⟨c4,cs4,rfl,v4,hR⟩:=hR.aG;obtain⟨c5,cs5,rfl,v5,hR⟩:=hR.aG;have:=hR.jO;subst this
   cases v0.bq
   cases v1.fu
   cases v2.bq
   cases v4.iA
   cases v5.iA;obtain⟨q0,q1,-⟩:=hc (o:=off+j*6) fun k _ e=>fY k _ e;have q2:V.cell? ⟨b,off+j*6+1+1,none⟩=(some (.string (bs nm)):Option Value):=fY 2 _ rfl;have q3:V.cell? ⟨b,off+j*6+1+2,none⟩=(some c3:Option Value):=fY 3 _ rfl;have q4:V.cell? ⟨b,off+j*6+1+3,none⟩=(some (.bool vd):Option Value):=fY 4 _ rfl;have q5:V.cell? ⟨b,off+j*6+1+4,none⟩=(some (.bool sp):Option Value):=fY 5 _ rfl;refine kM ?_;intro jS sQ;have Lg:=afB bL (k:=j+1) ab;have hw:(wVa f [t,.int k,nm,args,vd,sp]).length=(ka f [.int k,nm,args,vd,sp]).length+2:=by simp[wVa]
   rw[hT,j0,j0,hw] at Lg;have Je:ws.length+(mm f (l.take j)).length+(if j=0 then[] else[tx ";"]).length+(ka f [.int k,nm,args,vd,sp]).length+2<=1000000:=by have:=hN.out;omega
   revert eF hg v3;refine jk ?_;intro eF hg v3;by_cases Px:j=0
   ·have hj3:(j:Int)<=0:=by omega
    have hj4:¬(0:Int) < (j:Int):=ab;rw[aI Px] at hT Je;revert hT Je;refine ct ?_;intro hT Je;have p0:=H.bA hg q0;rw[Px,xL,fS] at p0;go_wp2_with fail;refine bD (H.YA t ":" fO) fun w3 H3=>?_;have p1:=H3.bA hg q1;have p2:=H3.bA hg q2;have p3:=H3.bA hg q3;have p4:=H3.bA hg q4;have p5:=H3.bA hg q5;rw[Px,xL,fS] at p1 p2 p3 p4 p5;refine Gw ?_;intro w4 H4;go_roundg (gk - 1)
    case measure=>omega
    case rel=>exact⟨j+1,by rw[Px];rfl,by omega,H4.cast (by rw[hT.out];simp[wVa])⟩
   ·have hj3:¬(j:Int)<=0:=by omega
    have hj4:(0:Int) < (j:Int):=ab;rw[aE Px] at hT Je;revert hT Je;refine ct ?_;intro hT Je;go_wp2_with fail;refine bD (H.step fun v hq _=>cN hq ";" fO) fun w2 H2=>?_;have p0:=H2.bA hg q0;go_wp2_with fail;refine bD (H2.YA t ":" fO) fun w3 H3=>?_;have p1:=H3.bA hg q1;have p2:=H3.bA hg q2;have p3:=H3.bA hg q3;have p4:=H3.bA hg q4;have p5:=H3.bA hg q5;refine Gw ?_;intro w4 H4;go_roundg (gk - 1)
    case measure=>omega
    case rel=>exact⟨j+1,rfl,by omega,H4.cast (by rw[hT.out];simp[wVa])⟩
  exact po
def sR{w:World}{c:Nat}{k k1 n1:Int}{xu:List Nat}{x4 x5 x6 x7 y1:Value}(hm:0 < m)(hc:m<=9223372036854775807)(hy:y1.oneCell'=true)(q0:w.cell? ⟨b,off,none⟩=some (iV k1))(q1:w.cell? ⟨b,off+1,none⟩=some (.string (bs xu)))(q2:w.cell? ⟨b,off+2,none⟩=some (iV n1))(q3:w.cell? ⟨b,off+3,none⟩=some y1):Calls prog 259 #[.agg #[iV k,.string (bs nm),iV n,sV (some ⟨b,off,none⟩) m c,x4,x5,x6,x7],oZ] w fun e w'=>e=.returned (.agg #[k1,xu,n1,y1])/\Kept aK w w':=by have K1:Kept aK w ((w.alloc (cO #[k,nm,n,sV (some ⟨b,off,none⟩) m c,x4,x5,x6,x7] 239)).alloc (cO #[oZ,eS,oZ,nS] 181)):=((Kept.refl aK w).alloc _).alloc _;have hb:((w.alloc (.cells #[k,nm,n,.slice (some ⟨b,off,none⟩) m c,x4,x5,x6,x7] 239)).alloc (.cells #[oZ,eS,oZ,nS] 181)).heap[(w.alloc (.cells #[k,nm,n,.slice (some ⟨b,off,none⟩) m c,x4,x5,x6,x7] 239)).heap.size]?=some (.cells #[oZ,eS,oZ,nS] 181):=ao;have nB:(w.alloc (.cells #[k,nm,n,.slice (some ⟨b,off,none⟩) m c,x4,x5,x6,x7] 239)).heap[w.heap.size]?=some (.cells #[k,nm,n,.slice (some ⟨b,off,none⟩) m c,x4,x5,x6,x7] 239):=ao;have lL:((w.alloc (cO #[k,nm,n,sV (some ⟨b,off,none⟩) m c,x4,x5,x6,x7] 239)).alloc (cO #[oZ,eS,oZ,nS] 181)).heap[w.heap.size]?=some (cO #[k,nm,n,sV (some ⟨b,off,none⟩) m c,x4,x5,x6,x7] 239):=aJ nB ((Kept.refl aK _).alloc _);have d3:=bc lL 3;have p0:=K1.aq q0 (fun e=>e);have p1:=K1.aq q1 (fun e=>e);have p2:=K1.aq q2 (fun e=>e);have p3:=K1.aq q3 (fun e=>e);have h1:(0:Int) < (m:Int):=ab;have hz:(w.alloc (cO #[k,nm,n,sV (some ⟨b,off,none⟩) m c,x4,x5,x6,x7] 239)).heap.size=w.heap.size+1:=ai;rw[hz] at hb;revert K1 hb;refine ct ?_;intro K1 hb;go_enter func259,ntmps259;go_wp2_with (refine str (cs:=#[k1,xu,n1,y1]) hb ?_ (h1:=by simp[hy];first|rfl|exact⟨rfl,rfl,rfl⟩|(refine⟨?_,?_,?_⟩<;>rfl)));refine ou (cs:=#[k1,xu,n1,y1]) (lz _ _ _ _ _ _ hb) ?_;exact⟨rfl,K1.trans (fH _ _ _) lJ⟩
def jf:Nat->Row->Prop
 |0,_=>False
 |g+1,r=>∃k nm n es tags li lb le,r=[.int k,.str nm,.int n,.sl es,.sl tags,.sl li,.sl lb,.sl le]/\(k=1∨k=2∨k=3∨k=4∨k=5∨k=8∨k=9∨k=10)/\(k≠8->k≠9->es≠[])/\(k=9->0<=n/\n<=9223372036854775807)/\(∀x∈es,lZ g x)/\(∀x∈tags,zg g x)/\(∀x∈li,jf g x)/\(∀x∈lb,jf g x)/\∀x∈le,jf g x
def aiD{k:Int}{le:List Row}(h:jf (g+1) [k,nm,n,es,tags,li,lb,le]):(k=1∨k=2∨k=3∨k=4∨k=5∨k=8∨k=9∨k=10)/\(k≠8->k≠9->es≠[])/\(k=9->0<=n/\n<=9223372036854775807)/\(∀x∈es,lZ g x)/\(∀x∈tags,zg g x)/\(∀x∈li,jf g x)/\(∀x∈lb,jf g x)/\∀x∈le,jf g x:=by obtain⟨k',zt,n',es',art,li',lb',le',e,h⟩:=h;simp only[IZ,T.int.injEq,T.str.injEq,T.sl.injEq,xO] at e;obtain⟨rfl,rfl,rfl,rfl,rfl,rfl,rfl,rfl⟩:=e;exact h
def WSt(g:Nat):Prop:=∀(f:Nat),2*g<=f->∀(p:Nat) (v:Value) (V:World) (ws:List (List Nat)) (k:Int) (nm:List Nat) (n:Int) (es tags li lb le:List Row) (x3 x4 x5 x6 x7:Value),WQ p v V ws->jf g [k,nm,n,es,tags,li,lb,le]->an (Dt p v) V (.sl es) x3->an (Dt p v) V (.sl tags) x4->an (Dt p v) V (.sl li) x5->an (Dt p v) V (.sl lb) x6->an (Dt p v) V (.sl le) x7->ws.length+(oX f [k,nm,n,es,tags,li,lb,le]).length<=1000000->Calls prog 205 #[pW p,.agg #[k,nm,n,x3,x4,x5,x6,x7]] V (WP p v V (ws++oX f [k,nm,n,es,tags,li,lb,le]))
def Iy(f:Nat)(r:Row):List (List Nat):=oX f r++[tx ";"]
def VS{f:Nat}(ih:WSt g)(hf:2*g<=f){p:Nat}{v:Value}{V:World}{ws:List (List Nat)}(h:WQ p v V ws)(l:List Row){x:Value}(bL:∀r∈l,jf g r)(hx:an (Dt p v) V (.sl l) x)(hN:ws.length+(l.flatMap (Iy f)).length<=1000000):Calls prog 121 #[pW p,x] V (WP p v V (ws++l.flatMap (Iy f))):=by
 obtain⟨a,cap,rfl,gF⟩:=hx.aU;have lC:l.length<=9223372036854775807:=gF;revert ih h bL hN hx;refine nx ?_;intro ih h bL hN hx;go_enter func121,ntmps121;go_wp2_with fail;go_loopg [4] l.length (fun gg s4 wr=>∃k:Nat,s4=iV k/\k+gg=l.length/\WF p v V (ws++(l.take k).flatMap (Iy f)) [] wr)
 case atStart=>exact⟨0,rfl,by omega,(h.start).cast ai⟩
 case round=>
  obtain⟨j,rfl,zC,H⟩:=hrel;by_cases hj:j < l.length
  ·obtain⟨row,aL⟩:∃s,l[j]?=some s:=⟨_,ck hj⟩
   have VQ:=bL row (cm aL);obtain⟨k,nm,n,es,tags,li,lb,le,rfl⟩:∃k nm n es tags li lb le,row=[.int k,.str nm,.int n,.sl es,.sl tags,.sl li,.sl lb,.sl le]:=by
    cases g with
    |zero=>exact VQ.elim
    |succ g=>obtain⟨k,nm,n,es,tags,li,lb,le,e,-⟩:=VQ;exact⟨_,_,_,_,_,_,_,_,e⟩
   obtain⟨b,off,rfl,hg,cs,hR,fY⟩:=hx.out.elem aL;obtain⟨c0,Ap,rfl,v0,hR⟩:=hR.aG;obtain⟨c1,U6,rfl,v1,hR⟩:=hR.aG;obtain⟨c2,T3,rfl,v2,hR⟩:=hR.aG;obtain⟨c3,Sx,rfl,v3,hR⟩:=hR.aG;obtain⟨c4,cs4,rfl,v4,hR⟩:=hR.aG;obtain⟨c5,cs5,rfl,v5,hR⟩:=hR.aG;obtain⟨c6,cs6,rfl,v6,hR⟩:=hR.aG;obtain⟨c7,cs7,rfl,v7,hR⟩:=hR.aG;have:=hR.jO;subst this
   cases v0.fu
   cases v1.bq
   cases v2.fu;obtain⟨p0,p1,p2,p3,p4,p5,p6,p7,-⟩:=hc (o:=off+j*8) fun k _ e=>H.bA hg (fY k _ e);refine kM ?_;intro jS sQ;have hT:=Q3 (g:=Iy f) aL;have Lg:=VI (g:=Iy f) (l:=l) (k:=j+1);rw[hT,j0] at Lg;have Je:ws.length+((l.take j).flatMap (Iy f)).length+(oX f [.int k,.str nm,.int n,.sl es,.sl tags,.sl li,.sl lb,.sl le]).length+1<=1000000:=by
    have h1:=hN.out;have h2:(Iy f [.int k,.str nm,.int n,.sl es,.sl tags,.sl li,.sl lb,.sl le]).length=(oX f [.int k,.str nm,.int n,.sl es,.sl tags,.sl li,.sl lb,.sl le]).length+1:=by simp[Iy]
    rw[h2] at Lg;omega
   revert VQ v3 v4 v5 v6 v7 hT Je;refine TR ?_;intro VQ v3 v4 v5 v6 v7 hT Je;go_wp2_with fail;refine bD (H.step fun v hq up=>ih f hf p v _ _ k nm n es tags li lb le c3 c4 c5 c6 c7 hq VQ (up v3) (up v4) (up v5) (up v6) (up v7) fO) fun w3 H3=>?_;go_wp2_with fail;refine bD (H3.step fun v hq up=>cN hq ";" fO) fun w4 H4=>?_;replace H4:=ah H4;go_wp2_with fail;go_roundg (gk - 1)
   case measure=>omega
   case rel=>exact⟨j+1,rfl,by omega,H4.cast (by rw[hT.out];simp[Iy])⟩
  exact po
def WF.aoo{w:World}(h:WF p v0 w ws bl V)(s1:List Nat)(s2:String){b:ByteArray}(hN:ws.length+2<=1000000)(hb:b=bs (tx s2):=by rfl)(hz:gz=V.heap.size:=by first|rfl|simp):Calls prog 75 #[pW p,sV gz 2 2] (V.alloc (cO #[s1,b] 9)) fun e w'=>e=.returned (.tuple #[])/\WF p v0 w (ws++[s1,tx s2]) bl w':=by subst hz;exact h.YA s1 s2 hN hb
def wS1{f:Nat}(jq:WSt g)(hf:2*g<=f){p:Nat}{v:Value}{V:World}{ws:List (List Nat)}(h:WQ p v V ws)(nm:List Nat)(n:Int)(y:Row)(rest:List Row)(tags li lb le:List Row){x3 x4 x5 x6 x7:Value}(qI:lZ g y)(v3:an (Dt p v) V (.sl (y::rest)) x3)(v4:an (Dt p v) V (.sl tags) x4)(v5:an (Dt p v) V (.sl li) x5)(v6:an (Dt p v) V (.sl lb) x6)(v7:an (Dt p v) V (.sl le) x7)(ho:(∀x∈tags,zg g x)/\(∀x∈li,jf g x)/\(∀x∈lb,jf g x)/\∀x∈le,jf g x)(hN:ws.length+(nm::tx ":="::bE f y 1).length<=1000000):Calls prog 205 #[pW p,.agg #[iV 1,nm,n,x3,x4,x5,x6,x7]] V (WP p v V (ws++(nm::tx ":="::bE f y 1))):=by revert y x3 qI v3 hN;refine iU ?_;intro c3 b off k1 xu n1 l1 y1 hN gF q0 q1 q2 q3 KL lC Ul Zt hy hg qI v1 v3 sc;have S1:=h.start.box (.cells #[iV 1,nm,n,sV (some ⟨b,off,none⟩) KL c3,x4,x5,x6,x7] 239 (0,0));obtain⟨d0,d1,d2,d3,d4,d5,d6,d7,-⟩:=cc (S1.heap 0);replace hN:=ah hN;replace jq:=ah jq;replace v4:=ah v4;replace v5:=ah v5;replace v6:=ah v6;replace v7:=ah v7;replace ho:=ah ho;go_enter func205,ntmps205;go_wp2_with fail;refine bD (S1.aoo nm ":=" az) fun w2 S2=>?_;exact JW
def wS2{f:Nat}(jq:WSt g)(hf:2*g<=f){p:Nat}{v:Value}{V:World}{ws:List (List Nat)}(h:WQ p v V ws)(nm:List Nat)(n:Int)(y:Row)(rest:List Row)(tags li lb le:List Row){x3 x4 x5 x6 x7:Value}(qI:lZ g y)(v3:an (Dt p v) V (.sl (y::rest)) x3)(v4:an (Dt p v) V (.sl tags) x4)(v5:an (Dt p v) V (.sl li) x5)(v6:an (Dt p v) V (.sl lb) x6)(v7:an (Dt p v) V (.sl le) x7)(ho:(∀x∈tags,zg g x)/\(∀x∈li,jf g x)/\(∀x∈lb,jf g x)/\∀x∈le,jf g x)(hN:ws.length+(bE f y 1).length<=1000000):Calls prog 205 #[pW p,.agg #[iV 2,nm,n,x3,x4,x5,x6,x7]] V (WP p v V (ws++(bE f y 1))):=by revert y x3 qI v3 hN;refine iU ?_;intro c3 b off k1 xu n1 l1 y1 hN gF q0 q1 q2 q3 KL lC Ul Zt hy hg qI v1 v3 sc;have S1:=h.start.box (.cells #[iV 2,nm,n,sV (some ⟨b,off,none⟩) KL c3,x4,x5,x6,x7] 239 (0,0));obtain⟨d0,d1,d2,d3,d4,d5,d6,d7,-⟩:=cc (S1.heap 0);replace hN:=ah hN;replace jq:=ah jq;replace v4:=ah v4;replace v5:=ah v5;replace v6:=ah v6;replace v7:=ah v7;replace ho:=ah ho;go_enter func205,ntmps205;have p0:=S1.bA hg q0;have p1:=S1.bA hg q1;have p2:=S1.bA hg q2;have p3:=S1.bA hg q3;go_wp2_with fail;refine bD (sR Ul Zt hy p0 p1 p2 p3) fun w2 P=>?_;have S2:=S1.no P;obtain⟨d0,d1,d2,d3,d4,d5,d6,d7,-⟩:=cc (S2.heap 0);go_wp2_with fail;refine bD (S2.step fun v hq up=>pj g f hf p v _ _ k1 xu n1 l1 y1 1 hq qI (up v1) az) fun w3 S3=>?_;exact EU
def aqw{f:Nat}(jq:WSt g)(hf:2*g<=f){p:Nat}{v:Value}{V:World}{ws:List (List Nat)}(h:WQ p v V ws)(nm:List Nat)(n:Int)(y:Row)(rest:List Row)(tags li lb le:List Row){x3 x4 x5 x6 x7:Value}(qI:lZ g y)(v3:an (Dt p v) V (.sl (y::rest)) x3)(v4:an (Dt p v) V (.sl tags) x4)(v5:an (Dt p v) V (.sl li) x5)(v6:an (Dt p v) V (.sl lb) x6)(v7:an (Dt p v) V (.sl le) x7)(ho:(∀x∈tags,zg g x)/\(∀x∈li,jf g x)/\(∀x∈lb,jf g x)/\∀x∈le,jf g x)(hN:ws.length+(tx "put"::bE f y 1).length<=1000000):Calls prog 205 #[pW p,.agg #[iV 10,nm,n,x3,x4,x5,x6,x7]] V (WP p v V (ws++(tx "put"::bE f y 1))):=by revert y x3 qI v3 hN;refine iU ?_;intro c3 b off k1 xu n1 l1 y1 hN gF q0 q1 q2 q3 KL lC Ul Zt hy hg qI v1 v3 sc;have S1:=h.start.box (.cells #[iV 10,nm,n,sV (some ⟨b,off,none⟩) KL c3,x4,x5,x6,x7] 239 (0,0));obtain⟨d0,d1,d2,d3,d4,d5,d6,d7,-⟩:=cc (S1.heap 0);replace hN:=ah hN;replace jq:=ah jq;replace v4:=ah v4;replace v5:=ah v5;replace v6:=ah v6;replace v7:=ah v7;replace ho:=ah ho;go_enter func205,ntmps205;go_wp2_with fail;refine bD (S1.step fun v hq up=>cN hq "put" az) fun w2 S2=>?_;exact JW
def wS8{f:Nat}(jq:WSt g)(hf:2*g<=f){p:Nat}{v:Value}{V:World}{ws:List (List Nat)}(h:WQ p v V ws)(nm:List Nat)(n:Int)(es:List Row)(tags li lb le:List Row){x3 x4 x5 x6 x7:Value}(v3:an (Dt p v) V (.sl es) x3)(v4:an (Dt p v) V (.sl tags) x4)(v5:an (Dt p v) V (.sl li) x5)(v6:an (Dt p v) V (.sl lb) x6)(v7:an (Dt p v) V (.sl le) x7)(ho:(∀x∈tags,zg g x)/\(∀x∈li,jf g x)/\(∀x∈lb,jf g x)/\∀x∈le,jf g x)(hN:ws.length+([tx "retry"]).length<=1000000):Calls prog 205 #[pW p,.agg #[iV 8,nm,n,x3,x4,x5,x6,x7]] V (WP p v V (ws++([tx "retry"]))):=by have S1:=h.start.box (.cells #[iV 8,nm,n,x3,x4,x5,x6,x7] 239 (0,0));obtain⟨d0,d1,d2,d3,d4,d5,d6,d7,-⟩:=cc (S1.heap 0);replace hN:=ah hN;replace jq:=ah jq;replace v4:=ah v4;replace v5:=ah v5;replace v6:=ah v6;replace v7:=ah v7;replace ho:=ah ho;go_enter func205,ntmps205;go_wp2_with fail;refine bD (S1.step fun v hq up=>cN hq "retry" az) fun w2 S2=>?_;obtain⟨d0,d1,d2,d3,d4,d5,d6,d7,-⟩:=cc (S2.heap 0);have S:=ah S2;exact mJ
def WF.aqx{w:World}(h:WF p v0 w ws bl V)(s1:String)(s2:List Nat){b:ByteArray}(hN:ws.length+2<=1000000)(hb:b=bs (tx s1):=by rfl)(hz:gz=V.heap.size:=by first|rfl|simp):Calls prog 75 #[pW p,sV gz 2 2] (V.alloc (cO #[b,s2] 9)) fun e w'=>e=.returned (.tuple #[])/\WF p v0 w (ws++[tx s1,s2]) bl w':=by
 subst hb hz;have S:=h.box (cO #[(tx s1),s2] 9);obtain⟨v,hq,hv,hb⟩:=S.q;have hc:an (Dt p v) (V.alloc (cO #[(tx s1),s2] 9)) (.sl (strs [tx s1,s2])) (sV V 2 2):=
  aW (E:=9) (fr:=(0,0)) (wd:=1) (css:=[tx s1,s2].map fun s=>[.string (bs s)]) (arr:=#[(tx s1),s2]) ao rfl (gP [tx s1,s2]) ⟨by have:=(S.bx _ (eu ..)).1;have:=S.pw;simp only at*;omega,hb _ (eu ..)⟩ (aM _) aj
 exact(aiw hq [tx s1,s2] hc hN).mono fun e w' ⟨h1,h2⟩=>⟨h1,(S.after hv hb h2).tail⟩
def WF.alL{w:World}(h:WF p v0 w ws bl V)(s1:String)(s2:List Nat)(s3:String){b c:ByteArray}(hN:ws.length+3<=1000000)(hb:b=bs (tx s1):=by rfl)(hc:c=bs (tx s3):=by rfl)(hz:gz=V.heap.size:=by first|rfl|simp):Calls prog 75 #[pW p,sV gz 3 3] (V.alloc (cO #[b,s2,c] 9)) fun e w'=>e=.returned (.tuple #[])/\WF p v0 w (ws++[tx s1,s2,tx s3]) bl w':=by
 subst hb hc hz;have S:=h.box (cO #[(tx s1),s2,(tx s3)] 9);obtain⟨v,hq,hv,hb⟩:=S.q;have hc:an (Dt p v) (V.alloc (cO #[(tx s1),s2,(tx s3)] 9)) (.sl (strs [tx s1,s2,tx s3])) (sV V 3 3):=
  aW (E:=9) (fr:=(0,0)) (wd:=1) (css:=[tx s1,s2,tx s3].map fun s=>[.string (bs s)]) (arr:=#[(tx s1),s2,(tx s3)]) ao rfl (gP [tx s1,s2,tx s3]) ⟨by have:=(S.bx _ (eu ..)).1;have:=S.pw;simp only at*;omega,hb _ (eu ..)⟩ (aM _) aj
 exact(aiw hq [tx s1,s2,tx s3] hc hN).mono fun e w' ⟨h1,h2⟩=>⟨h1,(S.after hv hb h2).tail⟩
def wS3{f:Nat}(jq:WSt g)(hf:2*g<=f){p:Nat}{v:Value}{V:World}{ws:List (List Nat)}(h:WQ p v V ws)(nm:List Nat)(n:Int)(y:Row)(rest:List Row)(tags li lb le:List Row){x3 x4 x5 x6 x7:Value}(qI:lZ g y)(v3:an (Dt p v) V (.sl (y::rest)) x3)(v4:an (Dt p v) V (.sl tags) x4)(v5:an (Dt p v) V (.sl li) x5)(v6:an (Dt p v) V (.sl lb) x6)(v7:an (Dt p v) V (.sl le) x7)(ho:(∀x∈tags,zg g x)/\(∀x∈li,jf g x)/\(∀x∈lb,jf g x)/\∀x∈le,jf g x)(hN:ws.length+(tx "create"::nm::tx "."::bE f y 8).length<=1000000):Calls prog 205 #[pW p,.agg #[iV 3,nm,n,x3,x4,x5,x6,x7]] V (WP p v V (ws++(tx "create"::nm::tx "."::bE f y 8))):=by revert y x3 qI v3 hN;refine iU ?_;intro c3 b off k1 xu n1 l1 y1 hN gF q0 q1 q2 q3 KL lC Ul Zt hy hg qI v1 v3 sc;have S1:=h.start.box (.cells #[iV 3,nm,n,sV (some ⟨b,off,none⟩) KL c3,x4,x5,x6,x7] 239 (0,0));obtain⟨d0,d1,d2,d3,d4,d5,d6,d7,-⟩:=cc (S1.heap 0);replace hN:=ah hN;replace jq:=ah jq;replace v4:=ah v4;replace v5:=ah v5;replace v6:=ah v6;replace v7:=ah v7;replace ho:=ah ho;go_enter func205,ntmps205;go_wp2_with fail;refine bD (S1.alL "create" nm "." az) fun w2 S2=>?_;obtain⟨d0,d1,d2,d3,d4,d5,d6,d7,-⟩:=cc (S2.heap 0);have p0:=S2.bA hg q0;have p1:=S2.bA hg q1;have p2:=S2.bA hg q2;have p3:=S2.bA hg q3;go_wp2_with fail;refine bD (sR Ul Zt hy p0 p1 p2 p3) fun w3 P=>?_;have S3:=S2.no P;obtain⟨d0,d1,d2,d3,d4,d5,d6,d7,-⟩:=cc (S3.heap 0);go_wp2_with fail;refine bD (S3.step fun v hq up=>pj g f hf p v _ _ k1 xu n1 l1 y1 8 hq qI (up v1) az) fun w4 S4=>?_;exact C7
def wS9{f:Nat}(jq:WSt g)(hf:2*g<=f){p:Nat}{v:Value}{V:World}{ws:List (List Nat)}(h:WQ p v V ws)(nm:List Nat)(n:Int)(es:List Row)(tags li lb le:List Row){x3 x4 x5 x6 x7:Value}(hn:0<=n/\n<=9223372036854775807)(v3:an (Dt p v) V (.sl es) x3)(v4:an (Dt p v) V (.sl tags) x4)(v5:an (Dt p v) V (.sl li) x5)(v6:an (Dt p v) V (.sl lb) x6)(v7:an (Dt p v) V (.sl le) x7)(ho:(∀x∈tags,zg g x)/\(∀x∈li,jf g x)/\(∀x∈lb,jf g x)/\∀x∈le,jf g x)(hN:ws.length+([tx "raise",tb 20 n.toNat]).length<=1000000):Calls prog 205 #[pW p,.agg #[iV 9,nm,n,x3,x4,x5,x6,x7]] V (WP p v V (ws++([tx "raise",tb 20 n.toNat]))):=by have hdg:=Q4 19 ab n.toNat ab ab;rw[show((n.toNat:Nat):Int)=n from by omega] at hdg;replace hdg:=ah hdg;have S1:=h.start.box (.cells #[iV 9,nm,n,x3,x4,x5,x6,x7] 239 (0,0));obtain⟨d0,d1,d2,d3,d4,d5,d6,d7,-⟩:=cc (S1.heap 0);replace hN:=ah hN;replace jq:=ah jq;replace v4:=ah v4;replace v5:=ah v5;replace v6:=ah v6;replace v7:=ah v7;replace ho:=ah ho;go_enter func205,ntmps205;go_wp2_with fail;refine bD (hdg _) fun w2 P=>?_;have S2:=S1.no P;obtain⟨d0,d1,d2,d3,d4,d5,d6,d7,-⟩:=cc (S2.heap 0);go_wp2_with fail;refine bD (S2.aqx "raise" (tb 20 n.toNat) az) fun w3 S3=>?_;exact EU
def wS4{f:Nat}(jq:WSt g)(hf:2*g<=f){p:Nat}{v:Value}{V:World}{ws:List (List Nat)}(h:WQ p v V ws)(nm:List Nat)(n:Int)(y:Row)(rest:List Row)(tags li lb le:List Row){x3 x4 x5 x6 x7:Value}(EL:List (List Nat))(hEL:EL=if le.length=0 then[] else tx "else"::le.flatMap (Iy f))(qI:lZ g y)(v3:an (Dt p v) V (.sl (y::rest)) x3)(v4:an (Dt p v) V (.sl tags) x4)(v5:an (Dt p v) V (.sl li) x5)(v6:an (Dt p v) V (.sl lb) x6)(v7:an (Dt p v) V (.sl le) x7)(ho:(∀x∈tags,zg g x)/\(∀x∈li,jf g x)/\(∀x∈lb,jf g x)/\∀x∈le,jf g x)(hN:ws.length+(tx "if"::bE f y 1++tx "then"::lb.flatMap (Iy f)++EL++[tx "end"]).length<=1000000):Calls prog 205 #[pW p,.agg #[iV 4,nm,n,x3,x4,x5,x6,x7]] V (WP p v V (ws++(tx "if"::bE f y 1++tx "then"::lb.flatMap (Iy f)++EL++[tx "end"]))):=by
 revert y x3 qI v3 hN;refine iU ?_;intro c3 b off k1 xu n1 l1 y1 hN gF q0 q1 q2 q3 KL lC Ul Zt hy hg qI v1 v3 sc;obtain⟨ae,ce,rfl,hme⟩:=v7.aU;have aqy:le.length<=9223372036854775807:=hme;obtain⟨KE,hKE⟩:∃m,le.length=m:=⟨_,rfl⟩
 rw[hKE] at aqy v7 ⊢;revert hEL hKE;refine ct ?_;intro hEL hKE;have S1:=h.start.box (.cells #[iV 4,nm,n,sV (some ⟨b,off,none⟩) KL c3,x4,x5,x6,sV ae KE ce] 239 (0,0));obtain⟨d0,d1,d2,d3,d4,d5,d6,d7,-⟩:=cc (S1.heap 0);replace hN:=ah hN;replace jq:=ah jq;replace v4:=ah v4;replace v5:=ah v5;replace v6:=ah v6;replace v7:=ah v7;replace ho:=ah ho;go_enter func205,ntmps205;go_wp2_with fail;refine bD (S1.step fun v hq up=>cN hq "if" az) fun w2 S2=>?_;obtain⟨d0,d1,d2,d3,d4,d5,d6,d7,-⟩:=cc (S2.heap 0);have p0:=S2.bA hg q0;have p1:=S2.bA hg q1;have p2:=S2.bA hg q2;have p3:=S2.bA hg q3;go_wp2_with fail;refine bD (sR Ul Zt hy p0 p1 p2 p3) fun w3 P=>?_;have S3:=S2.no P;obtain⟨d0,d1,d2,d3,d4,d5,d6,d7,-⟩:=cc (S3.heap 0);go_wp2_with fail;refine bD (S3.step fun v hq up=>pj g f hf p v _ _ k1 xu n1 l1 y1 1 hq qI (up v1) az) fun w4 S4=>?_;obtain⟨d0,d1,d2,d3,d4,d5,d6,d7,-⟩:=cc (S4.heap 0);go_wp2_with fail;refine bD (S4.step fun v hq up=>cN hq "then" az) fun w5 S5=>?_;obtain⟨d0,d1,d2,d3,d4,d5,d6,d7,-⟩:=cc (S5.heap 0);go_wp2_with fail;refine bD (S5.step fun v hq up=>VS jq hf hq lb ho.2.2.1 (up v6) az) fun w6 S6=>?_;obtain⟨d0,d1,d2,d3,d4,d5,d6,d7,-⟩:=cc (S6.heap 0);by_cases hle:0 < KE
 ·have h1:(0:Int) < (KE:Int):=by omega
  replace hEL:=ah (hEL.trans (aE (by have:=hKE.out;omega)));rw[hEL.out] at hN;go_wp2_with fail;refine bD (S6.step fun v hq up=>cN hq "else" az) fun w7 S7=>?_;obtain⟨d0,d1,d2,d3,d4,d5,d6,d7,-⟩:=cc (S7.heap 0);go_wp2_with fail;refine bD (S7.step fun v hq up=>VS jq hf hq le ho.2.2.2 (up v7) az) fun w8 S8=>?_;obtain⟨d0,d1,d2,d3,d4,d5,d6,d7,-⟩:=cc (S8.heap 0);go_wp2_with fail;refine bD (S8.step fun v hq up=>cN hq "end" az) fun w9 S9=>?_;obtain⟨d0,d1,d2,d3,d4,d5,d6,d7,-⟩:=cc (S9.heap 0);have S:=ah S9;exact Eb
 ·have h1:¬(0:Int) < (KE:Int):=by omega
  replace hEL:=ah (hEL.trans (aI (by have:=hKE.out;omega)));rw[hEL.out] at hN;go_wp2_with fail;refine bD (S6.step fun v hq up=>cN hq "end" az) fun w7 S7=>?_;obtain⟨d0,d1,d2,d3,d4,d5,d6,d7,-⟩:=cc (S7.heap 0);have S:=ah S7;exact Eb
def aqz{f:Nat}(jq:WSt g)(hf:2*g<=f){p:Nat}{v:Value}{V:World}{ws:List (List Nat)}(h:WQ p v V ws)(nm:List Nat)(n:Int)(y:Row)(rest:List Row)(tags li lb le:List Row){x3 x4 x5 x6 x7:Value}(hr:rest=[])(qI:lZ g y)(v3:an (Dt p v) V (.sl (y::rest)) x3)(v4:an (Dt p v) V (.sl tags) x4)(v5:an (Dt p v) V (.sl li) x5)(v6:an (Dt p v) V (.sl lb) x6)(v7:an (Dt p v) V (.sl le) x7)(ho:(∀x∈tags,zg g x)/\(∀x∈li,jf g x)/\(∀x∈lb,jf g x)/\∀x∈le,jf g x)(hN:ws.length+(tx "from"::li.flatMap (Iy f)++dX "invariant" f tags++tx "until"::bE f y 1++([]:List (List Nat))++tx "loop"::lb.flatMap (Iy f)++[tx "end"]).length<=1000000):Calls prog 205 #[pW p,.agg #[iV 5,nm,n,x3,x4,x5,x6,x7]] V (WP p v V (ws++(tx "from"::li.flatMap (Iy f)++dX "invariant" f tags++tx "until"::bE f y 1++([]:List (List Nat))++tx "loop"::lb.flatMap (Iy f)++[tx "end"]))):=by revert y x3 qI v3 hN;refine iU ?_;intro c3 b off k1 xu n1 l1 y1 hN gF q0 q1 q2 q3 KL lC Ul Zt hy hg qI v1 v3 sc;have h1:¬(1:Int) < (KL:Int):=Lm;replace hr:=ah hr;have S1:=h.start.box (.cells #[iV 5,nm,n,sV (some ⟨b,off,none⟩) KL c3,x4,x5,x6,x7] 239 (0,0));obtain⟨d0,d1,d2,d3,d4,d5,d6,d7,-⟩:=cc (S1.heap 0);replace hN:=ah hN;replace jq:=ah jq;replace v4:=ah v4;replace v5:=ah v5;replace v6:=ah v6;replace v7:=ah v7;replace ho:=ah ho;go_enter func205,ntmps205;go_wp2_with fail;refine bD (S1.step fun v hq up=>cN hq "from" az) fun w2 S2=>?_;obtain⟨d0,d1,d2,d3,d4,d5,d6,d7,-⟩:=cc (S2.heap 0);go_wp2_with fail;refine bD (S2.step fun v hq up=>VS jq hf hq li ho.2.1 (up v5) az) fun w3 S3=>?_;obtain⟨d0,d1,d2,d3,d4,d5,d6,d7,-⟩:=cc (S3.heap 0);go_wp2_with fail;refine bD (S3.step fun v hq up=>OR hf hq "invariant" tags ho.1 (up v4) az) fun w4 S4=>?_;obtain⟨d0,d1,d2,d3,d4,d5,d6,d7,-⟩:=cc (S4.heap 0);go_wp2_with fail;refine bD (S4.step fun v hq up=>cN hq "until" az) fun w5 S5=>?_;obtain⟨d0,d1,d2,d3,d4,d5,d6,d7,-⟩:=cc (S5.heap 0);have p0:=S5.bA hg q0;have p1:=S5.bA hg q1;have p2:=S5.bA hg q2;have p3:=S5.bA hg q3;go_wp2_with fail;refine bD (sR Ul Zt hy p0 p1 p2 p3) fun w6 P=>?_;have S6:=S5.no P;obtain⟨d0,d1,d2,d3,d4,d5,d6,d7,-⟩:=cc (S6.heap 0);go_wp2_with fail;refine bD (S6.step fun v hq up=>pj g f hf p v _ _ k1 xu n1 l1 y1 1 hq qI (up v1) az) fun w7 S7=>?_;obtain⟨d0,d1,d2,d3,d4,d5,d6,d7,-⟩:=cc (S7.heap 0);go_wp2_with fail;refine bD (S7.step fun v hq up=>cN hq "loop" az) fun w8 S8=>?_;obtain⟨d0,d1,d2,d3,d4,d5,d6,d7,-⟩:=cc (S8.heap 0);go_wp2_with fail;refine bD (S8.step fun v hq up=>VS jq hf hq lb ho.2.2.1 (up v6) az) fun w9 S9=>?_;obtain⟨d0,d1,d2,d3,d4,d5,d6,d7,-⟩:=cc (S9.heap 0);go_wp2_with fail;refine bD (S9.step fun v hq up=>cN hq "end" az) fun AT ie=>?_;obtain⟨d0,d1,d2,d3,d4,d5,d6,d7,-⟩:=cc (ie.heap 0);have S:=ah ie;exact mJ
def aqA{f:Nat}(jq:WSt g)(hf:2*g<=f){p:Nat}{v:Value}{V:World}{ws:List (List Nat)}(h:WQ p v V ws)(nm:List Nat)(n:Int)(y:Row)(rest:List Row)(tags li lb le:List Row){x3 x4 x5 x6 x7:Value}(z:Row)(r2:List Row)(hr:rest=z::r2)(hoz:lZ g z)(qI:lZ g y)(v3:an (Dt p v) V (.sl (y::rest)) x3)(v4:an (Dt p v) V (.sl tags) x4)(v5:an (Dt p v) V (.sl li) x5)(v6:an (Dt p v) V (.sl lb) x6)(v7:an (Dt p v) V (.sl le) x7)(ho:(∀x∈tags,zg g x)/\(∀x∈li,jf g x)/\(∀x∈lb,jf g x)/\∀x∈le,jf g x)(hN:ws.length+(tx "from"::li.flatMap (Iy f)++dX "invariant" f tags++tx "until"::bE f y 1++tx "variant"::bE f z 1++tx "loop"::lb.flatMap (Iy f)++[tx "end"]).length<=1000000):Calls prog 205 #[pW p,.agg #[iV 5,nm,n,x3,x4,x5,x6,x7]] V (WP p v V (ws++(tx "from"::li.flatMap (Iy f)++dX "invariant" f tags++tx "until"::bE f y 1++tx "variant"::bE f z 1++tx "loop"::lb.flatMap (Iy f)++[tx "end"]))):=by
 revert y x3 qI v3 hN;refine iU ?_;intro c3 b off k1 xu n1 l1 y1 hN gF q0 q1 q2 q3 KL lC Ul Zt hy hg qI v1 v3 sc;have h1:(1:Int) < (KL:Int):=Lm;have v3':an (Dt p v) V (.sl ([.int k1,.str xu,.int n1,.sl l1]::rest)) (.slice (some ⟨b,off,none⟩) ([.int k1,.str xu,.int n1,.sl l1]::rest).length c3):=by have:=v3.out;rw[<-sc.out] at this;exact this
 obtain⟨_,_,k2,nm2,n2,l2,y2,e,-,rfl,r0,r1,r2,r3,v2⟩:=vx (j:=1) (x:=z) v3' (by rw[hr];rfl) hoz;simp only[wY,I0,xO] at e;obtain⟨rfl,rfl⟩:=e;simp only[Nat.one_mul,xP,Nat.reduceAdd] at r0 r1 r2 r3;revert hr hoz v2;refine jk ?_;intro hr hoz v2;have S1:=h.start.box (.cells #[iV 5,nm,n,sV (some ⟨b,off,none⟩) KL c3,x4,x5,x6,x7] 239 (0,0));obtain⟨d0,d1,d2,d3,d4,d5,d6,d7,-⟩:=cc (S1.heap 0);replace hN:=ah hN;replace jq:=ah jq;replace v4:=ah v4;replace v5:=ah v5;replace v6:=ah v6;replace v7:=ah v7;replace ho:=ah ho;go_enter func205,ntmps205;go_wp2_with fail;refine bD (S1.step fun v hq up=>cN hq "from" az) fun w2 S2=>?_;obtain⟨d0,d1,d2,d3,d4,d5,d6,d7,-⟩:=cc (S2.heap 0);go_wp2_with fail;refine bD (S2.step fun v hq up=>VS jq hf hq li ho.2.1 (up v5) az) fun w3 S3=>?_;obtain⟨d0,d1,d2,d3,d4,d5,d6,d7,-⟩:=cc (S3.heap 0);go_wp2_with fail;refine bD (S3.step fun v hq up=>OR hf hq "invariant" tags ho.1 (up v4) az) fun w4 S4=>?_;obtain⟨d0,d1,d2,d3,d4,d5,d6,d7,-⟩:=cc (S4.heap 0);go_wp2_with fail;refine bD (S4.step fun v hq up=>cN hq "until" az) fun w5 S5=>?_;obtain⟨d0,d1,d2,d3,d4,d5,d6,d7,-⟩:=cc (S5.heap 0);have p0:=S5.bA hg q0;have p1:=S5.bA hg q1;have p2:=S5.bA hg q2;have p3:=S5.bA hg q3;go_wp2_with fail;refine bD (sR Ul Zt hy p0 p1 p2 p3) fun w6 P=>?_;have S6:=S5.no P;obtain⟨d0,d1,d2,d3,d4,d5,d6,d7,-⟩:=cc (S6.heap 0);go_wp2_with fail;refine bD (S6.step fun v hq up=>pj g f hf p v _ _ k1 xu n1 l1 y1 1 hq qI (up v1) az) fun w7 S7=>?_;obtain⟨d0,d1,d2,d3,d4,d5,d6,d7,-⟩:=cc (S7.heap 0);go_wp2_with fail;refine bD (S7.step fun v hq up=>cN hq "variant" az) fun w8 S8=>?_;obtain⟨d0,d1,d2,d3,d4,d5,d6,d7,-⟩:=cc (S8.heap 0);have p0:=S8.bA hg r0;have p1:=S8.bA hg r1;have p2:=S8.bA hg r2;have p3:=S8.bA hg r3;go_wp2_with fail;refine bD (S8.step fun v hq up=>pj g f hf p v _ _ k2 nm2 n2 l2 y2 1 hq hoz (up v2) az) fun w9 S9=>?_;obtain⟨d0,d1,d2,d3,d4,d5,d6,d7,-⟩:=cc (S9.heap 0);go_wp2_with fail;refine bD (S9.step fun v hq up=>cN hq "loop" az) fun AT ie=>?_;obtain⟨d0,d1,d2,d3,d4,d5,d6,d7,-⟩:=cc (ie.heap 0);go_wp2_with fail;refine bD (ie.step fun v hq up=>VS jq hf hq lb ho.2.2.1 (up v6) az) fun xS ke=>?_;obtain⟨d0,d1,d2,d3,d4,d5,d6,d7,-⟩:=cc (ke.heap 0);go_wp2_with fail;refine bD (ke.step fun v hq up=>cN hq "end" az) fun vl jx=>?_;obtain⟨d0,d1,d2,d3,d4,d5,d6,d7,-⟩:=cc (jx.heap 0);have S:=ah jx;exact mJ
def aqB{f:Nat}{le:List Row}:oX (f+1) [.int 1,nm,n,(y::rest),tags,li,lb,le]=nm::tx ":="::bE f y 1:=by exact gM
def aqC{f:Nat}{le:List Row}:oX (f+1) [.int 2,nm,n,(y::rest),tags,li,lb,le]=bE f y 1:=by exact gM
def aqD{f:Nat}{le:List Row}:oX (f+1) [.int 3,nm,n,(y::rest),tags,li,lb,le]=tx "create"::nm::tx "."::bE f y 8:=by exact gM
def aqE{f:Nat}{le:List Row}:oX (f+1) [.int 4,nm,n,(y::rest),tags,li,lb,le]=tx "if"::bE f y 1++tx "then"::lb.flatMap (Iy f)++(if le.isEmpty then[] else tx "else"::le.flatMap (Iy f))++[tx "end"]:=by exact gM
def aqF{f:Nat}{le:List Row}:oX (f+1) [.int 5,nm,n,(y::rest),tags,li,lb,le]=tx "from"::li.flatMap (Iy f)++dX "invariant" f tags++tx "until"::bE f y 1++(match y::rest with|_::y::_=>tx "variant"::bE f y 1|_=>[])++tx "loop"::lb.flatMap (Iy f)++[tx "end"]:=by exact gM
def aqG{f:Nat}{le:List Row}:oX (f+1) [.int 8,nm,n,es,tags,li,lb,le]=[tx "retry"]:=by exact gM
def aqH{f:Nat}{le:List Row}:oX (f+1) [.int 9,nm,n,es,tags,li,lb,le]=[tx "raise",tb 20 n.toNat]:=by exact gM
def aop{f:Nat}{le:List Row}:oX (f+1) [.int 10,nm,n,(y::rest),tags,li,lb,le]=tx "put"::bE f y 1:=by exact gM
def afC(ih:WSt g):WSt (g+1):=by
 intro f hf p v V ws k nm n es tags li lb le x3 x4 x5 x6 x7 h bL v3 v4 v5 v6 v7 hN;obtain⟨hk,he,h9,h1,h2,h3,h4,h5⟩:=aiD bL;obtain⟨f,rfl⟩:∃m,f=m+1:=⟨f - 1,by omega⟩
 replace hf:2*g<=f:=ab;rcases hk with e|e|e|e|e|e|e|e
 ·subst e;obtain⟨y,rest,rfl⟩:=A5 (he aj aj);rw[aqB] at hN ⊢;exact wS1 ih hf h nm n y rest tags li lb le (h1 _ (eu ..)) v3 v4 v5 v6 v7 ⟨h2,h3,h4,h5⟩ hN
 ·subst e;obtain⟨y,rest,rfl⟩:=A5 (he aj aj);rw[aqC] at hN ⊢;exact wS2 ih hf h nm n y rest tags li lb le (h1 _ (eu ..)) v3 v4 v5 v6 v7 ⟨h2,h3,h4,h5⟩ hN
 ·subst e;obtain⟨y,rest,rfl⟩:=A5 (he aj aj);rw[aqD] at hN ⊢;exact wS3 ih hf h nm n y rest tags li lb le (h1 _ (eu ..)) v3 v4 v5 v6 v7 ⟨h2,h3,h4,h5⟩ hN
 ·subst e;obtain⟨y,rest,rfl⟩:=A5 (he aj aj);rw[aqE] at hN ⊢;exact wS4 ih hf h nm n y rest tags li lb le _ (by cases le<;>rfl) (h1 _ (eu ..)) v3 v4 v5 v6 v7 ⟨h2,h3,h4,h5⟩ hN
 ·subst e;obtain⟨y,rest,rfl⟩:=A5 (he aj aj);rw[aqF] at hN ⊢
  cases rest with
  |nil=>exact aqz ih hf h nm n y [] tags li lb le rfl (h1 _ (eu ..)) v3 v4 v5 v6 v7 ⟨h2,h3,h4,h5⟩ hN
  |cons z r2=>exact aqA ih hf h nm n y (z::r2) tags li lb le z r2 rfl (h1 _ (eC _ (eu ..))) (h1 _ (eu ..)) v3 v4 v5 v6 v7 ⟨h2,h3,h4,h5⟩ hN
 ·subst e;rw[aqG] at hN ⊢;exact wS8 ih hf h nm n es tags li lb le v3 v4 v5 v6 v7 ⟨h2,h3,h4,h5⟩ hN
 ·subst e;rw[aqH] at hN ⊢;exact wS9 ih hf h nm n es tags li lb le (h9 rfl) v3 v4 v5 v6 v7 ⟨h2,h3,h4,h5⟩ hN
 ·subst e;obtain⟨y,rest,rfl⟩:=A5 (he aj aj);rw[aop] at hN ⊢;exact aqw ih hf h nm n y rest tags li lb le (h1 _ (eu ..)) v3 v4 v5 v6 v7 ⟨h2,h3,h4,h5⟩ hN
def To:∀g,WSt g
 |0=>by
  intro f hf p v V ws k nm n es tags li lb le x3 x4 x5 x6 x7 h bL;exact bL.elim
 |g+1=>afC (To g)
structure aoq (g f:Nat) (k:Int) (ag:List Row) (tk:Int) (ty:Row) (lo rq en b rb:List Row):Prop where
 k:k=1∨k=2
 ag:∀x∈ag,VR f x
 ty:tk≠0->Iw f ty=true
 lo:∀x∈lo,VR f x
 rq:∀x∈rq,zg g x
 en:∀x∈en,zg g x
 b:∀x∈b,jf g x
 rb:∀x∈rb,jf g x
def VU{f:Nat}{k tk:Int}{tn:List Nat}{cl ag ta lo rq en b rb:List Row}{tv ts rs:Bool}:nf f [k,nm,cl,ag,tk,tn,ta,tv,ts,lo,rq,en,b,rb,rs]=[nm]++(if ag.isEmpty then[] else tx "("::mm f ag++[tx ")"])++(if tk==0 then[] else tx ":"::ka f [tk,tn,ta,tv,ts])++
  (if k==1 then[tx ";"] else dX "require" f rq++(if lo.isEmpty then[] else tx "local"::mm f lo)++[tx "do"]++b.flatMap (Iy f)++dX "ensure" f en++(if rs then tx "rescue"::rb.flatMap (Iy f) else[])++[tx "end"]):=rfl
def isE(hK:l.length=K)(h:(0:Int) < (K:Int)):(if l.isEmpty then A else B)=B:=by
 cases l with
 |nil=>simp at hK;omega
 |cons x l=>rfl
def aor(hK:l.length=K)(h:¬(0:Int) < (K:Int)):(if l.isEmpty then A else B)=A:=by
 cases l with
 |nil=>rfl
 |cons x l=>simp at hK;omega
def wFe{f:Nat}(hf:2*g<=f){p:Nat}{v:Value}{V:World}{ws:List (List Nat)}(h:WQ p v V ws)(k:Int)(nm:List Nat)(tk:Int)(tn:List Nat)(tv ts rs:Bool)(cl ag ta lo rq en b rb:List Row){x2 x3 x6 x9 xC zw As xw:Value}(ho:aoq g f k ag tk [tk,tn,ta,tv,ts] lo rq en b rb)(v2:an (Dt p v) V (.sl cl) x2)(v3:an (Dt p v) V (.sl ag) x3)(v6:an (Dt p v) V (.sl ta) x6)(v9:an (Dt p v) V (.sl lo) x9)(v10:an (Dt p v) V (.sl rq) xC)(v11:an (Dt p v) V (.sl en) zw)(v12:an (Dt p v) V (.sl b) As)(v13:an (Dt p v) V (.sl rb) xw)(hN:ws.length+(nf f [k,nm,cl,ag,tk,tn,ta,tv,ts,lo,rq,en,b,rb,rs]).length<=1000000):Calls prog 79 #[pW p,.agg #[k,nm,x2,x3,tk,tn,x6,tv,ts,x9,xC,zw,As,xw,rs]] V (WP p v V (ws++nf f [k,nm,cl,ag,tk,tn,ta,tv,ts,lo,rq,en,b,rb,rs])):=by
 rw[VU] at hN ⊢;obtain⟨AG,hAG⟩:∃A,(if ag.isEmpty then[] else tx "("::mm f ag++[tx ")"])=A:=⟨_,rfl⟩
 obtain⟨TY,hTY⟩:∃A,(if tk==0 then[] else tx ":"::ka f [tk,tn,ta,tv,ts])=A:=⟨_,rfl⟩
 obtain⟨LO,hLO⟩:∃A,(if lo.isEmpty then[] else tx "local"::mm f lo)=A:=⟨_,rfl⟩
 obtain⟨RB,hRB⟩:∃A,(if rs then tx "rescue"::rb.flatMap (Iy f) else[])=A:=⟨_,rfl⟩
 obtain⟨EN,hEN⟩:∃A,(if k==1 then[tx ";"] else dX "require" f rq++LO++[tx "do"]++b.flatMap (Iy f)++dX "ensure" f en++RB++[tx "end"])=A:=⟨_,rfl⟩
 rw[hAG,hTY,hLO,hRB,hEN] at hN ⊢;obtain⟨a3,c3,rfl,fy⟩:=v3.aU;obtain⟨a9,c9,rfl,hm9⟩:=v9.aU;have als:ag.length<=9223372036854775807:=fy;have aqI:lo.length<=9223372036854775807:=hm9;obtain⟨KA,kB⟩:∃m,ag.length=m:=⟨_,rfl⟩
 obtain⟨KO,hKO⟩:∃m,lo.length=m:=⟨_,rfl⟩
 rw[kB] at als v3 ⊢;rw[hKO] at aqI v9 ⊢;have S1:=h.start.box (.cells #[k,nm,x2,sV a3 KA c3,tk,tn,x6,tv,ts,sV a9 KO c9,xC,zw,As,xw,rs] 149 (0,0));obtain⟨d0,d1,d2,d3,d4,d5,d6,d7,d8,d9,d10,d11,d12,d13,d14,-⟩:=cc (S1.heap 0);revert h ho v6 v10 v11 v12 v13 hAG hTY hLO hRB hN hEN v3 kB v9 hKO;refine akd ?_;intro h ho v6 v10 v11 v12 v13 hAG hTY hLO hRB hN hEN v3 kB v9 hKO;go_enter func79,ntmps79;go_wp2_with fail;refine bD (S1.step fun v hq up=>NX hq nm az) fun w2 S2=>?_;obtain⟨d0,d1,d2,d3,d4,d5,d6,d7,d8,d9,d10,d11,d12,d13,d14,-⟩:=cc (S2.heap 0);go_upto_if 11 with fail;go_cut [] from 11 to 19 (fun wc=>WF p v V (ws++[nm]++AG) [(V,.cells #[k,nm,x2,sV a3 KA c3,tk,tn,x6,tv,ts,sV a9 KO c9,xC,zw,As,xw,rs] 149 (0,0))] wc)
 case first=>
  by_cases WS:(0:Int) < (KA:Int)
  ·have hp:AG=_:=hAG.symm.trans (isE kB WS);rw[hp] at hN;go_wp2_with fail;refine(S2.step fun v hq up=>cN hq "(" az).mono ?_;rintro e w3 ⟨rfl,S3⟩;obtain⟨d0,d1,d2,d3,d4,d5,d6,d7,d8,d9,d10,d11,d12,d13,d14,-⟩:=cc (S3.heap 0);go_wp2_with fail;refine bD (S3.step fun v hq up=>aaM hq ag ho.ag (up v3) az) fun w4 S4=>?_;obtain⟨d0,d1,d2,d3,d4,d5,d6,d7,d8,d9,d10,d11,d12,d13,d14,-⟩:=cc (S4.heap 0);go_wp2_with fail;refine(S4.step fun v hq up=>cN hq ")" az).mono ?_;rintro e w5 ⟨rfl,S5⟩;obtain⟨d0,d1,d2,d3,d4,d5,d6,d7,d8,d9,d10,d11,d12,d13,d14,-⟩:=cc (S5.heap 0);replace S5:=ah S5;go_wp2_with fail;go_meet
   case rel=>exact S5.cast fQ
  ·have hp:AG=_:=hAG.symm.trans (aor kB WS);replace S2:=ah S2;go_wp2_with fail;go_meet
   case rel=>exact S2.cast fQ
 case rest=>
 have jx:=hcut;obtain⟨d0,d1,d2,d3,d4,d5,d6,d7,d8,d9,d10,d11,d12,d13,d14,-⟩:=cc (jx.heap 0);go_upto_if 23 with fail;go_cut [] from 23 to 29 (fun wc=>WF p v V (ws++[nm]++AG++TY) [(V,.cells #[k,nm,x2,sV a3 KA c3,tk,tn,x6,tv,ts,sV a9 KO c9,xC,zw,As,xw,rs] 149 (0,0))] wc)
 case first=>
  by_cases WS:tk≠0
  ·have hp:TY=_:=hTY.symm.trans (aE (by simpa using WS));rw[hp] at hN;go_wp2_with fail;refine bD (jx.step fun v hq up=>cN hq ":" az) fun ND mx=>?_;obtain⟨d0,d1,d2,d3,d4,d5,d6,d7,d8,d9,d10,d11,d12,d13,d14,-⟩:=cc (mx.heap 0);go_wp2_with fail;refine bD (mx.step fun v hq up=>Mt f p v _ _ tk tn ta tv ts x6 hq (ho.ty WS) (up v6) az) fun ZY qo=>?_;obtain⟨d0,d1,d2,d3,d4,d5,d6,d7,d8,d9,d10,d11,d12,d13,d14,-⟩:=cc (qo.heap 0);replace qo:=ah qo;go_wp2_with fail;go_meet
   case rel=>exact qo.cast fQ
  ·have hp:TY=_:=hTY.symm.trans (aI (by simpa using WS));replace jx:=ah jx;go_wp2_with fail;go_meet
   case rel=>exact jx.cast fQ
 case rest=>
 have LK:=hcut;obtain⟨d0,d1,d2,d3,d4,d5,d6,d7,d8,d9,d10,d11,d12,d13,d14,-⟩:=cc (LK.heap 0);by_cases xi:k=1
 ·have hp:EN=_:=hEN.symm.trans (aI (by rw[xi];rfl));rw[hp] at hN;subst xi;go_wp2_with fail;refine bD (LK.step fun v hq up=>cN hq ";" az) fun w23 S23=>?_;obtain⟨d0,d1,d2,d3,d4,d5,d6,d7,d8,d9,d10,d11,d12,d13,d14,-⟩:=cc (S23.heap 0);have S:=ah S23;go_wp2_with fail;go_end0;exact⟨rfl,S.fin.cast fQ⟩
 ·have hp:EN=_:=hEN.symm.trans (aE (by simpa using xi));rw[hp] at hN;have jF:k=2:=by have:=ho.k;omega
  subst jF;replace hp:=ah hp;go_wp2_with fail;refine bD (LK.step fun v hq up=>OR hf hq "require" rq ho.rq (up v10) az) fun w23 S23=>?_;obtain⟨d0,d1,d2,d3,d4,d5,d6,d7,d8,d9,d10,d11,d12,d13,d14,-⟩:=cc (S23.heap 0);go_upto_if 57 with fail;go_cut [] from 57 to 63 (fun wc=>WF p v V (ws++[nm]++AG++TY++dX "require" f rq++LO) [(V,.cells #[iV 2,nm,x2,sV a3 KA c3,tk,tn,x6,tv,ts,sV a9 KO c9,xC,zw,As,xw,rs] 149 (0,0))] wc)
  case first=>
   by_cases WS:(0:Int) < (KO:Int)
   ·have hp:LO=_:=hLO.symm.trans (isE hKO WS);rw[hp] at hN;go_wp2_with fail;refine bD (S23.step fun v hq up=>cN hq "local" az) fun w24 S24=>?_;obtain⟨d0,d1,d2,d3,d4,d5,d6,d7,d8,d9,d10,d11,d12,d13,d14,-⟩:=cc (S24.heap 0);go_wp2_with fail;refine bD (S24.step fun v hq up=>aaM hq lo ho.lo (up v9) az) fun w25 S25=>?_;obtain⟨d0,d1,d2,d3,d4,d5,d6,d7,d8,d9,d10,d11,d12,d13,d14,-⟩:=cc (S25.heap 0);replace S25:=ah S25;go_wp2_with fail;go_meet
    case rel=>exact S25.cast fQ
   ·have hp:LO=_:=hLO.symm.trans (aor hKO WS);replace S23:=ah S23;go_wp2_with fail;go_meet
    case rel=>exact S23.cast fQ
  case rest=>
  have S33:=hcut;obtain⟨d0,d1,d2,d3,d4,d5,d6,d7,d8,d9,d10,d11,d12,d13,d14,-⟩:=cc (S33.heap 0);go_wp2_with fail;refine bD (S33.step fun v hq up=>cN hq "do" az) fun w34 S34=>?_;obtain⟨d0,d1,d2,d3,d4,d5,d6,d7,d8,d9,d10,d11,d12,d13,d14,-⟩:=cc (S34.heap 0);go_wp2_with fail;refine bD (S34.step fun v hq up=>VS (To g) hf hq b ho.b (up v12) az) fun w35 S35=>?_;obtain⟨d0,d1,d2,d3,d4,d5,d6,d7,d8,d9,d10,d11,d12,d13,d14,-⟩:=cc (S35.heap 0);go_wp2_with fail;refine bD (S35.step fun v hq up=>OR hf hq "ensure" en ho.en (up v11) az) fun w36 S36=>?_;obtain⟨d0,d1,d2,d3,d4,d5,d6,d7,d8,d9,d10,d11,d12,d13,d14,-⟩:=cc (S36.heap 0);go_upto_if 75 with fail;go_cut [] from 75 to 81 (fun wc=>WF p v V (ws++[nm]++AG++TY++dX "require" f rq++LO++[tx "do"]++b.flatMap (Iy f)++dX "ensure" f en++RB) [(V,.cells #[iV 2,nm,x2,sV a3 KA c3,tk,tn,x6,tv,ts,sV a9 KO c9,xC,zw,As,xw,rs] 149 (0,0))] wc)
  case first=>
   cases rs with
   |true=>
    have hp:RB=_:=hRB.symm.trans (aI rfl);rw[hp] at hN;go_wp2_with fail;refine bD (S36.step fun v hq up=>cN hq "rescue" az) fun w37 S37=>?_;obtain⟨d0,d1,d2,d3,d4,d5,d6,d7,d8,d9,d10,d11,d12,d13,d14,-⟩:=cc (S37.heap 0);go_wp2_with fail;refine bD (S37.step fun v hq up=>VS (To g) hf hq rb ho.rb (up v13) az) fun w38 S38=>?_;obtain⟨d0,d1,d2,d3,d4,d5,d6,d7,d8,d9,d10,d11,d12,d13,d14,-⟩:=cc (S38.heap 0);replace S38:=ah S38;go_wp2_with fail;go_meet
    case rel=>exact S38.cast fQ
   |false=>
    have hp:RB=_:=hRB.symm.trans (aE ai);replace S36:=ah S36;go_wp2_with fail;go_meet
    case rel=>exact S36.cast fQ
  case rest=>
  have S46:=hcut;obtain⟨d0,d1,d2,d3,d4,d5,d6,d7,d8,d9,d10,d11,d12,d13,d14,-⟩:=cc (S46.heap 0);go_wp2_with fail;refine bD (S46.step fun v hq up=>cN hq "end" az) fun w47 S47=>?_;obtain⟨d0,d1,d2,d3,d4,d5,d6,d7,d8,d9,d10,d11,d12,d13,d14,-⟩:=cc (S47.heap 0);have S:=ah S47;go_wp2_with fail;go_end0;exact⟨rfl,S.fin.cast (by rw[hp.out];simp)⟩
structure WG (p:Nat) (v0:Value) (w:World) (rh rest:List (List Nat)) (bs:List (Nat×Obj)) (V:World):Prop where
 out:∃ws,WF p v0 w ws bs V/\ws++rest=rh/\rh.length<=1000000
def WF.aiv{w:World}{bs:List (Nat×Obj)}{V':World}{o o':Obj}(h:WF p v0 w ws ((b,o)::bs) V)(hk:Kept (fun k=>k=b) V V')(hb:V'.heap[b]?=some o')(hn:∀q∈bs,q.1≠b):WF p v0 w ws ((b,o')::bs) V':=by
 obtain⟨v,hq,hv,QD⟩:=h.q;have h1:=h.bx _ (eu ..);have h2:=QD _ (eu ..);refine⟨⟨v,hq.kept hk fun i e _=>by subst e;exact⟨fun e=>by have:=h.pw;have:=h1.1;simp only at this;omega,h2⟩,hv,fun q xG=>?_⟩,fun q xG=>?_,h.pw,h.ow,h.kp.trans hk fun i hi e=>by have:=h1.1;simp only at this;omega⟩
 ·rcases cZ.1 xG with rfl|xG
  ·exact h2
  ·exact QD q (eC _ xG)
 ·rcases cZ.1 xG with rfl|xG
  ·exact⟨h1.1,hb⟩
  ·have h3:=h.bx q (eC _ xG);exact⟨h3.1,(hk.block _ (h.lt (eC _ xG)) (hn q xG)).trans h3.2⟩
def aaN(l:List (List Nat)):(l.map fun s=>Value.string (bs s)).toArray.toList=(l.map fun s=>[.string (bs s)]).flatten:=by
 induction l with
 |nil=>rfl
 |cons a l ih=>simpa using ih
def afD:List Value->Nat->Option Value
 |[],_=>none
 |x::_,0=>some x
 |_::l,n+1=>afD l n
def aaO:∀(l:List Value) (j:Nat),afD l j=l[j]?
 |[],_=>by simp[afD]
 |x::_,0=>rfl
 |_::l,n+1=>by simpa[afD] using aaO l n
namespace WG
open Go.Proofs.Tryz
variable {p:Nat}{v v0:Value}{w V V':World}{rh ws rest rest' words:List (List Nat)}{bl:List (Nat×Obj)}{Q:Ending -> World -> Prop}
def start(h:WQ p v V ws)(hN:ws.length+words.length<=1000000):(WG p v V (ws++words) words [] V):=⟨⟨ws,h.start,rfl,by simpa using hN⟩⟩
def c{b:Nat}{cs:Array Value}{T:TypeId}{x:Value}(S:WG p v0 w rh rest bl V)(i j:Nat)(hi:bl[i]?=some (b,.cells cs T (0,0)):=by rfl)(hx:afD cs.toList j=some x:=by rfl):V.cell? ⟨b,j,none⟩=some x:=by rw[aaO,Qu] at hx;obtain⟨ws,h,-⟩:=S.out;rw[aC (h.heap i hi),hx]
def box(S:(WG p v0 w rh rest bl V))(o:Obj):(WG p v0 w rh rest ((V.heap.size,o)::bl) (V.alloc o)):=by obtain⟨ws,h,e⟩:=S.out;exact⟨⟨ws,h.box o,e⟩⟩
def heap{b:Nat}{o:Obj}(S:(WG p v0 w rh rest bl V))(i:Nat)(hi:bl[i]?=some (b,o):=by rfl):V.heap[b]?=some o:=by obtain⟨ws,h,e⟩:=S.out;exact h.heap i hi
def YB(S:(WG p v0 w rh rest bl V))(z cs:Array Value)(T:TypeId):(WG p v0 w rh rest ((V,.cells cs T (0,0))::bl) ((V.alloc (.cells z T (0,0))).setRow V.heap.size cs)):=by obtain⟨ws,h,e⟩:=S.out;have h1:=h.box (.cells z T (0,0));refine⟨⟨ws,h1.aiv (fH _ _ cs) (lz _ _ z cs T (0,0) ao) fun q hq e=>?_,e⟩⟩;have:=h.lt hq;omega
def tail{b:Nat×Obj}(S:(WG p v0 w rh rest (b::bl) V)):(WG p v0 w rh rest bl V):=by obtain⟨ws,h,e⟩:=S.out;exact⟨⟨ws,h.tail,e⟩⟩
def no(S:(WG p v0 w rh rest bl V))(hk:Kept aK V V'):(WG p v0 w rh rest bl V'):=by obtain⟨ws,h,e⟩:=S.out;exact⟨⟨ws,h.no hk,e⟩⟩
def cast(S:(WG p v0 w rh rest bl V))(e:rest=rest'):(WG p v0 w rh rest' bl V):=e▸S
def fin(S:(WG p v0 w rh [] bl V)):WP p v0 w rh (.returned (.tuple #[])) V:=by obtain⟨ws,h,rfl,-⟩:=S.out;exact⟨rfl,h.fin.cast ai⟩
def bA{g j:Nat}{x:Value}(S:(WG p v0 w rh rest bl V))(hg:Dt p v0 g)(hc:w.cell? ⟨g,j,none⟩=some x):V.cell? ⟨g,j,none⟩=some x:=by obtain⟨ws,h,e⟩:=S.out;exact h.bA hg hc
def alM(h:WQ p v V ws)(hN:ws.length+words.length<=1000000):∃rh,ws++words=rh/\(WG p v V rh words [] V):=⟨_,rfl,start h hN⟩
def data{t:T}{x:Value}(S:WG p v0 w rh rest bl V)(hd:an (Dt p v0) w t x):an (fun b=>b < V.heap.size/\Dt p v0 b) V t x:=by
 obtain⟨ws,h,-⟩:=S.out;exact(hd.mono (S':=fun b=>b < w.heap.size/\Dt p v0 b) fun b hb hl=>⟨hl,hb⟩).keep (fun b hb _=>⟨qD hb.1 h.kp.size,hb.2⟩) h.kp.size fun b hb hl=>h.kp.block b hl fun e=>by
  rcases e with e|e
  ·exact hb.2.1 e
  ·exact hb.2.2 e
def call{fn:FuncId}{args:Array Value}(S:(WG p v0 w rh (words++rest) bl V))(c:∀v ws,WQ p v V ws->(∀{t x},an (Dt p v0) w t x->an (Dt p v) V t x)->ws.length+words.length+rest.length<=1000000->Calls prog fn args V (WP p v V (ws++words)))(k:∀w',(WG p v0 w rh rest bl w')->Q (.returned (.tuple #[])) w'):Calls prog fn args V Q:=by obtain⟨ws,h,rfl,hN⟩:=S.out;refine bD (h.step fun v hq up=>c v ws hq up wu) fun w' h'=>?_;exact k w' ⟨⟨ws++words,h',by simp,hN⟩⟩
def one{s:List Nat}{b:ByteArray}(S:(WG p v0 w rh (s::rest) bl V))(k:∀w',(WG p v0 w rh rest bl w')->Q (.returned (.tuple #[])) w')(hb:b=bs s:=by rfl):Calls prog 74 #[pW p,.string b] V Q:=by subst hb;exact call (words:=[s]) S (fun v ws hq _ hN=>NX hq s wu) k
def aos{gz n:Nat}{l:List (List Nat)}{wS:Array Value}(S:(WG p v0 w rh (l++rest) bl V))(k:∀w',(WG p v0 w rh rest bl w')->Q (.returned (.tuple #[])) w')(hv:wS=(l.map fun s=>Value.string (bs s)).toArray)(hz:gz=V.heap.size)(hn:n=l.length)(h6:l.length<=1000):Calls prog 75 #[pW p,sV gz n n] (V.alloc (cO wS 9)) Q:=by subst hv hz hn;obtain⟨ws,h,rfl,hN⟩:=S.out;have S:=h.box (.cells (l.map fun s=>Value.string (bs s)).toArray 9);obtain⟨v,hq,hv,hb⟩:=S.q;have h0:=S.bx _ (eu ..);have hc:=aW (S:=Dt p v) (rows:=strs l) (cap:=l.length) (wd:=1) h0.2 (css:=l.map fun s=>[.string (bs s)]) (aaN l) (gP l) ⟨by have:=S.pw;have:=h0.1;simp only at*;omega,hb _ (eu ..)⟩ bR wj;rw[show(strs l).length=l.length by simp[strs]] at hc;refine bD (aiw hq l hc wu) fun w' h'=>?_;have h2:=(S.after hv hb h').tail;exact k w' ⟨⟨ws++l,h2,by simp,hN⟩⟩
def YA{gz:Nat}{s1 s2:List Nat}{b1 b2:ByteArray}(S:(WG p v0 w rh (s1::s2::rest) bl V))(k:∀w',(WG p v0 w rh rest bl w')->Q (.returned (.tuple #[])) w')(h1:b1=bs s1:=by rfl)(h2:b2=bs s2:=by rfl)(hz:gz=V.heap.size:=by first|rfl|simp):Calls prog 75 #[pW p,sV gz 2 2] (V.alloc (cO #[b1,b2] 9)) Q:=by subst h1 h2;exact aos (l:=[s1,s2]) S k rfl hz rfl ai
def alL{gz:Nat}{s1 s2 s3:List Nat}{b1 b2 b3:ByteArray}(S:(WG p v0 w rh (s1::s2::s3::rest) bl V))(k:∀w',(WG p v0 w rh rest bl w')->Q (.returned (.tuple #[])) w')(h1:b1=bs s1:=by rfl)(h2:b2=bs s2:=by rfl)(h3:b3=bs s3:=by rfl)(hz:gz=V.heap.size:=by first|rfl|simp):Calls prog 75 #[pW p,sV gz 3 3] (V.alloc (cO #[b1,b2,b3] 9)) Q:=by subst h1 h2 h3;exact aos (l:=[s1,s2,s3]) S k rfl hz rfl ai
def named{s:String}{b:ByteArray}{l:List (List Nat)}{x:Value}(S:(WG p v0 w rh (ib s (strs l)++rest) bl V))(hx:an (Dt p v0) w (.sl (strs l)) x)(k:∀w',(WG p v0 w rh rest bl w')->Q (.returned (.tuple #[])) w')(hb:b=bs (tx s):=by rfl)(hr:rest≠[]:=by simp):Calls prog 77 #[pW p,.string b,x] V Q:=
 call S (fun v ws hq up hN=>alG hq s l (up hx) (by
  replace hr:=ac4.2 hr;have hso:strsOf (strs l)=l:=mW;unfold ib at hN;rw[hso] at hN
  cases l with
  |nil=>simp[du] at hN ⊢;omega
  |cons a l=>simp only[strs,lp,List.isEmpty_cons,rW,qE,dC] at hN ⊢;omega) hb) k
def afE{s:String}{b:ByteArray}{x:Value}(S:WG p v0 w rh rest bl V)(hx:an (Dt p v0) w (.sl []) x)(k:∀w',WG p v0 w rh rest bl w'->Q (.returned (.tuple #[])) w')(hb:b=bs (tx s):=by rfl)(hr:rest≠[]:=by simp):Calls prog 77 #[pW p,.string b,x] V Q:=
 named (s:=s) (l:=[]) S hx k hb hr
end WG
def rS(V:World)(g o:Nat):Nat->List Value->Prop
 |_,[]=>True
 |0,c::cs=>V.cell? ⟨g,o,none⟩=some c/\rS V g o 1 cs
 |j+1,c::cs=>V.cell? ⟨g,o+(j+1),none⟩=some c/\rS V g o (j+2) cs
def lO{V:World}{g o:Nat}:∀(cs:List Value) (j:Nat),(∀i u,cs[i]?=some u->V.cell? ⟨g,o+(j+i),none⟩=some u)->rS V g o j cs
 |[],j,_=>by cases j<;>exact bw
 |c::cs,0,h=>⟨by simpa using h 0 c rfl,lO cs 1 fun i u hi=>by have:=h (i+1) u dA;rwa[fi,Nat.add_comm i 1] at this⟩
 |c::cs,j+1,h=>⟨by simpa using h 0 c rfl,lO cs (j+2) fun i u hi=>by have:=h (i+1) u dA;rwa[show j+1+(i+1)=j+2+i by omega] at this⟩
def YC(r:Row):List (List Nat):=match r with
 |[.str a,.sl _,.sl _,.sl _,.sl re,.sl _]=>[a]++ib "redefine" re++[tx ";"]
 |_=>[[]]
def aot(r:Row):Prop:=∃a re,r=[.str a,.sl [],.sl [],.sl [],.sl (strs re),.sl []]
def ru(dn xs:List Row):List (List Nat):=(if dn.isEmpty&&!xs.isEmpty then[tx "inherit"] else[])++xs.flatMap YC
def afF(h:WQ p v V ws)(l:List Row){x:Value}(bL:∀r∈l,aot r)(hx:an (Dt p v) V (.sl l) x)(hN:ws.length+(ru [] l).length<=1000000):Calls prog 76 #[pW p,x] V (WP p v V (ws++ru [] l)):=by
 obtain⟨a,cap,rfl,gF⟩:=hx.aU;have lC:l.length<=9223372036854775807:=gF;have S0:=WG.start h hN;revert bL hx;refine ct ?_;intro bL hx;generalize ws++ru [] l=rh at S0 ⊢;clear gF h hN;go_enter func76,ntmps76;go_wp2_with fail;go_loopg [4] l.length (fun gg s4 wr=>∃dn xs:List Row,Hid (l=dn++xs)/\s4=iV dn.length/\gg=xs.length/\(WG p v V rh (ru dn xs) [] wr))
 case atStart=>exact⟨[],l,rfl,rfl,rfl,S0⟩
 case round=>
  obtain⟨dn,xs,hl,rfl,hgk,S⟩:=hrel;replace hgk:=ah hgk;have hll:l.length=dn.length+xs.length:=ej
  cases xs with
  |nil=>have h1:¬((dn.length:Int) < (l.length:Int)):=nL;clear hll;go_wp2_with fail;go_end0;exact(S.cast (by simp[ru])).fin
  |cons y xs=>
   have h1:(dn.length:Int) < (l.length:Int):=nL;have h2:(0:Int)<=(dn.length:Int):=ab;have h3:dn.length < l.length:=ab;clear hll;obtain⟨nm,re,rfl⟩:=bL.out y ej;obtain⟨g,off,rfl,hg,cs,hR,fY⟩:=hx.out.elem (k:=dn.length) (row:=[nm,.sl [],.sl [],.sl [],(strs re),.sl []]) ej;obtain⟨c0,Ap,rfl,v0,hR⟩:=hR.aG;obtain⟨c1,U6,rfl,v1,hR⟩:=hR.aG;obtain⟨c2,T3,rfl,v2,hR⟩:=hR.aG;obtain⟨c3,Sx,rfl,v3,hR⟩:=hR.aG;obtain⟨c4,cs4,rfl,v4,hR⟩:=hR.aG;obtain⟨c5,cs5,rfl,v5,hR⟩:=hR.aG
   cases hR.jO
   cases v0.bq;obtain⟨a1,k1,rfl⟩:=v1.Mz;obtain⟨a2,k2,rfl⟩:=v2.Mz;obtain⟨a3,k3,rfl⟩:=v3.Mz;obtain⟨a4,k4,rfl,-⟩:=v4.aU;obtain⟨a5,k5,rfl⟩:=v5.Mz;generalize (strs re).length=n4 at*;have hT:ru dn ([.str nm,.sl [],.sl [],.sl [],.sl (strs re),.sl []]::xs)=(if dn=[] then[tx "inherit"] else[])++(nm::((ib "redefine" (strs re)++tx ";"::xs.flatMap YC))):=by unfold ru;cases dn<;>simp[YC]
   have hE:ru (dn++[[.str nm,.sl [],.sl [],.sl [],.sl (strs re),.sl []]]) xs=xs.flatMap YC:=by unfold ru;cases dn<;>simp
   replace S:=S.cast hT;have hl':Hid (l=(dn++[[.str nm,.sl [],.sl [],.sl [],.sl (strs re),.sl []]])++xs):=wk;revert hg v1 v3 v5 v4 fY hE;refine Wy ?_;intro hg v1 v3 v5 v4 fY hE;clear hT v2;go_upto_if 14 with fail;go_cut [4] from 7 to 17 (fun s4 wc=>s4=iV dn.length/\(WG p v V rh (nm::((ib "redefine" (strs re)++tx ";"::xs.flatMap YC))) [] wc))
   case first=>
    by_cases hd0:dn=[]
    ·have LY:(dn.length:Int)=0:=by rw[hd0];rfl
     rw[aI hd0] at S;go_wp2_with (go_at_call 74;refine S.one fun wc S1=>?_);exact Es
    ·have LY:¬(dn.length:Int)=0:=by have:=ac4.2 hd0;omega
     rw[aE hd0] at S;go_wp2_with fail;go_meet
     case rel=>exact⟨rfl,S⟩
   case rest=>
   obtain⟨rfl,hcut⟩:=hcut;have q:=lO (V:=wc) (g:=g) (o:=off+dn.length*6) _ 0 fun i u hi=>hcut.bA hg yL;simp only[rS] at q;have hb:=(hcut.box (cO #[eS,nS,nS,nS,nS,nS] 171)).heap 0;go_wp2_with (first|(refine str hb ?_;have d:=(hcut.YB #[eS,nS,nS,nS,nS,nS] #[nm,(sV a1 0 k1),sV a2 0 k2,sV a3 0 k3,sV a4 n4 k4,sV a5 0 k5] 171).c 0 0));have S1:=hcut.YB #[eS,nS,nS,nS,nS,nS] #[nm,(sV a1 0 k1),sV a2 0 k2,sV a3 0 k3,sV a4 n4 k4,sV a5 0 k5] 171;clear hb q hcut;go_wp2_with fail;refine S1.one fun w2 S2=>?_;have d:=S2.c 0 1;go_wp2_with fail;refine S2.call (words:=[]) (fun v ws hq up hN=>amS (f:=0) (Mt 0) hq [] ai (up v1) (by simp[aix] at hN ⊢;omega)) fun w3 S3=>?_;have d:=S3.c 0 2;have d':=S3.c 0 3;go_wp2_with (refine wp_loop_once ?_);refine S3.afE (s:= "undefine") v3 (fun w4 S4=>?_) rfl ai;have d:=S4.c 0 4;go_wp2_with fail;refine S4.named v4 (fun w5 S5=>?_) rfl ai;have d:=S5.c 0 5;go_wp2_with fail;refine S5.afE (s:= "select") v5 (fun w6 S6=>?_) rfl ai;go_wp2_with fail;refine S6.one fun w7 S7=>?_;exact Nj
open Go.Proofs.Tryz
open Go.RowKit Go.Maps Go.Shelf
open Go.Proofs.Bm
attribute [local go_sem] Rs
def BR:Nat->Nat->List Nat->Option (List (aF×Nat))
 |_,_,[]=>some []
 |0,_,_=>none
 |f+1,a,c::r=>
  if c==32 then BR f (a+1) r
  else if[45,45].isPrefixOf (c::r) then none
  else
   let t:=if cB c then fD (c::r) else fE (c::r)
   match shape t with
   |none=>none
   |some k=>(BR f (a+t.length) ((c::r).drop t.length)).map ((⟨k,t⟩,a):: ·)
def afG{f a c:Nat}{r:List Nat}{rem:List (aF×Nat)}(h:BR (f+1) a (c::r)=some rem)(h32:c≠32):[45,45].isPrefixOf (c::r)=false/\∃(t:List Nat) (k:Nat) (Um:List (aF×Nat)),(if cB c then fD (c::r) else fE (c::r))=t/\shape t=some k/\BR f (a+t.length) ((c::r).drop t.length)=some Um/\rem=(⟨k,t⟩,a)::Um:=by
 unfold BR at h;rw[aE (by simpa using h32)] at h;obtain⟨t,ht⟩:∃t,(if cB c=true then fD (c::r) else fE (c::r))=t:=⟨_,rfl⟩
 simp only[ht] at h
 cases hc:[45,45].isPrefixOf (c::r) with
 |true=>rw[hc] at h;simp at h
 |false=>
  rw[hc,aE ai] at h
  cases hs:shape t with
  |none=>rw[hs] at h;cases h
  |some k=>rw[hs] at h;obtain⟨Um,h1,h2⟩:=Ue.1 h;exact⟨rfl,t,k,Um,ht,hs,h1,h2.symm⟩
def aaP:∀d:List Nat,(fD d).length<=d.length
 |[]=>by simp[fD]
 |c::r=>by
  unfold fD;split
  ·simp only[dC];have:=aaP r;omega
  ·simp
def aiE{r:List Nat}(h:shape (fD (95::r))=some k):False:=by
 have h1:fD (95::r)=95::fD r:=rfl;rw[h1] at h;unfold shape at h;split at h
 ·rename_i hc;have:=(OD _ wI).1;simp[fD,cB] at this
 ·simp at h
def Q6{T:TypeId}(h:V.heap[b]?=some (.cells cs T fr)):rS V b 0 0 cs.toList:=lO _ 0 fun i u hi=>by
 have:=aC h i;exact Ew
def OV{w:World}(h:Kept aK w w'):Below w.heap.size w w':=⟨h.os,h.tape,h.output,h.size,fun i hi=>h.block i hi fun e=>e⟩
def afH{d:List Nat}(h:fE d=t):t.length<=d.length:=by
 subst h;unfold fE
 cases hf:cJ.find? fun x=>x.isPrefixOf d with
 |none=>simp
 |some y=>have:=List.find?_some hf;simp only[List.isPrefixOf_iff_prefix] at this;exact this.length_le
def Kt(A B:World):Prop:=(∀(b:Nat) (cs:Array Value) (fr:Nat×Nat),A.heap[b]?=some (.cells cs 300 fr)->∃NY,B.heap[b]?=some (.cells NY 300 fr)/\NY[5]?=cs[5]?)/\∀(b:Nat) (cs:Array Value) (fr:Nat×Nat),A.heap[b]?=some (.cells cs 9 fr)->B.heap[b]?=A.heap[b]?
def Kt.trans{A B C:World}(h:Kt A B)(k:Kt B C):Kt A C:=by refine⟨fun b cs fr hA=>?_,fun b cs fr hA=>(k.2 b cs fr ((h.2 b cs fr hA).trans hA)).trans (h.2 b cs fr hA)⟩;obtain⟨c1,h1,e1⟩:=h.1 b cs fr hA;obtain⟨c2,h2,e2⟩:=k.1 b c1 fr h1;exact⟨c2,h2,e2.trans e1⟩
abbrev alN(x:aF×Nat):Array Value:=#[.agg #[iV x.1.k,.string (bs x.1.t),iV 0,iV 0,iV x.2,iV 0]]
def Env.below{n:Nat}{w:World}(h:Env w)(hk:Below n w w')(hn:∀g,prog.globalNamed "strings.asciiSpace"=some g->g < n)(h1:1 < n):Env w':=by
 refine⟨?_,?_⟩
 ·have ht:=h.tab;unfold Lib.TabIs World.var? at ht ⊢
  cases hg:prog.globalNamed "strings.asciiSpace" with
  |none=>rw[hg] at ht;cases ht
  |some g=>rw[hg] at ht;simp only[Ae] at ht ⊢;rw[hk.block g (hn g hg)];exact ht
 ·obtain⟨m,hm⟩:=h.m1;exact⟨m,(hk.cell (p:=⟨1,0,none⟩) h1).trans hm⟩
def acd(n:Nat)(hn:1<=n)(s:List Nat)(hs:bW s)(hsl:s.length<=1000000)(F:Nat)(ps:List (aF×Nat))(Qb:BR F 0 s=some ps)(l Bs n₀:Nat)(J Jx:List (aF×Nat)->World->Prop)(hJ:∀q W W',J q W->Below W.heap.size W W'->J q W')(hY:∀pre x W,J pre W->pre.length < ps.length->YieldAt Fence.wide (n - 1) prog l (alN x) W fun e W'=>(e=.returned (.bool true)/\J (pre++[x]) W'/\Below n₀ W W'/\Kt W W')∨(e=.returned (.bool false)/\Jx (pre++[x]) W'))(W:World)(hE:Env W)(hg:∀g,prog.globalNamed "strings.asciiSpace"=some g->g < n₀)(h1:1 < n₀)(h2:W.heap[Bs]?=some (.cells #[s] 9 (0,0)))(h0:J [] W)(nz:n₀<=W.heap.size):CallsIn Fence.wide n prog 295 #[.func (.yield l) #[] #[],.pointer Bs] W fun e W'=>(∃v,e=.returned v)/\((∃ys,ys=ps/\J ys W')∨(∃pre,pre <+:ps/\Jx pre W')):=by
 refine callsIn_of_wp func295 rfl bw ?_ rfl;simp only[ntmps295,JG,dC,mc,Nat.reduceAdd,Nat.reduceSub,I1,I2,I3,I4,xR,qF];have hz:=dp s;revert hs Qb hE h2;refine jU ?_;intro hs Qb hE h2;gi_wp2;gi_loopw [3] (fun i wr=>∃(a:Nat) (pre rem:List (aF×Nat)) (f:Nat),a<=s.length/\i=iV a/\Hid (BR f a (s.drop a)=some rem)/\Hid (ps=pre++rem)/\J pre wr/\Below n₀ W wr/\Hid (wr.heap[Bs]?=W.heap[Bs]?)) (fun i _=>s.length - (intOf i).toNat)
 case atStart=>exact⟨0,[],ps,F,by omega,rfl,Qb,rfl,h0,iG _ _,rfl⟩
 case round=>
  obtain⟨a,pre,rem,f,ha,rfl,WE,hpr,hJs,hB,QG⟩:=hrel;have g2:wr.cell? ⟨Bs,0,none⟩=some (.string (bs s)):=by unfold World.cell?;rw[QG.out,h2.out];rfl
  replace hB:=ah hB;by_cases bQ:a < s.length
  ·have xY:(a:Int) < (s.length:Int):=by omega
   have oL:(0:Int)<=(a:Int):=ab;have ij:(a:Int)<=(s.length:Int):=ab;obtain⟨d,hd⟩:∃d,s.drop a=d:=⟨_,rfl⟩
   rw[hd] at WE;obtain⟨c,r,hcr⟩:∃c r,d=c::r:=by
    cases d with
    |nil=>have:=gq List.length hd;simp at this;omega
    |cons c r=>exact⟨c,r,rfl⟩
   have hx:(bs s).extract a s.length=bs d:=by have:=wQ s a (s.length - a);rw[show a+(s.length - a)=s.length by omega,hd,oh (by rw[<-hd];simp)] at this;exact this
   have hdS:bW d:=fun x hx=>hs x (A1 (hd▸hx));have SH:d.length=s.length - a:=by rw[<-hd];simp
   have nB:∀h,(bs d)[0]'h=UInt8.ofNat c:=by
    intro h;have h':(UInt8.ofNat c)=((bs d).data)[0]'h:=by simp[bs,hcr]
    exact h'.symm
   have gU:(UInt8.ofNat c).toNat=c:=by have:=hdS c (by rw[hcr];simp);simp;omega
   have hzd:=dp d;have gV:=ah (fun w=>SY d hdS ab w);have I6:0 < d.length:=ab;revert hd hdS;refine ct ?_;intro hd hdS;have Nl:=ah hcr;clear hcr;gi_wp2_with fail;refine⟨bw,(mA.2 (gV _)).mono ?_⟩;rintro e w1 ⟨rfl,rfl⟩;by_cases h32:c=32
   ·subst h32;gi_wp2_with fail;have hK:=ah ((iG _ wr).alloc (aM _) (cO #[oZ,eS,oZ,oZ,a,oZ] 300));have Pm:=ah hB.out.size;refine⟨⟨a+1,pre,rem,f - 1,by omega,by simp,?_,hpr,hJ _ _ _ hJs hK,hB.trans (hK.mono KY),(jm _ _ _ (cA _ _ g2)).trans QG⟩,by simp[intOf];omega⟩;have hp:=WE.out;rw[Nl.out] at hp
    cases f with
    |zero=>simp[BR] at hp
    |succ f=>
     have hp:BR f (a+1) r=some rem:=hp;have:s.drop (a+1)=r:=by rw[<-List.drop_drop,hd.out,Nl.out];rfl
     show BR f (a+1) (s.drop (a+1))=some rem;rw[this];exact hp
   ·cases f with
    |zero=>have:=WE.out;rw[Nl.out] at this;simp[BR] at this
    |succ f=>
    have hp:=WE.out;rw[Nl.out] at hp;obtain⟨alO,t,k,Um,ht,eF,abn,hrm⟩:=afG hp h32;have I7:Lib.hasPrefix (bs d).data.toList (⟨#[45,45]⟩:ByteArray).data.toList=false:=by have e:=Yb [45,45] d (by intro x hx;simp at hx;subst hx;decide) hdS;rw[<-Nl.out] at alO;rw[<-alO,<-e];unfold Lib.hasPrefix bs;simp
    have arM:¬(c:Int)=32:=ab;clear hp;revert ht eF abn hrm;refine jU ?_;intro ht eF abn hrm;clear alO;gi_wp2_with fail;refine⟨bw,(mA.2 (Tryz.strings_HasPrefix _ _ _)).mono ?_⟩;rintro e w1 ⟨rfl,rfl⟩;rw[I7];have hEr:Env wr:=hE.below hB hg h1;by_cases aiF:cB c=true
    ·have htr:fD d=t:=by have:=ht.out;rw[aI aiF] at this;rw[Nl.out];exact this
     have htl:(fD d).length=t.length:=by rw[htr]
     have ht0:0 < t.length:=by rw[<-htr,Nl.out];simp[fD,aiF]
     have htS:bW t:=fun x hx=>hdS x (OG d x (htr▸hx));have htd:t.length<=d.length:=by rw[<-htr];exact aaP d
     have IL:c≠95:=by rintro rfl;have h2:=eF.out;rw[<-htr,Nl.out] at h2;exact aiE h2
     have ir:(bs d).extract 0 t.length=bs t:=by have:=wQ d 0 t.length;rw[fi,List.drop_zero,<-htr,<-OH d] at this;rw[<-htr];exact this
     have h96:¬(c:Int)=95:=ab;have h97:(0:Int) < (t.length:Int):=ab;have h98:(t.length:Int)<=(d.length:Int):=ab;have h99:t.length<=d.length:=htd;rw[htl];gi_wp2_with fail;refine⟨bw,(mA.2 (ae8 htS ab eF (hEr.no ((Kept.refl aK wr).alloc _)))).mono ?_⟩;rintro e w2 ⟨rfl,K2⟩;have hb:w2.heap[wr.heap.size]?=some (cO #[oZ,t,oZ,oZ,a,oZ] 300):=aJ ao K2;have hbl:wr.heap.size < w2.heap.size:=(aQ.1 hb).1;have y0:=aC hb 0;have y5:=aC hb 5;have f0:=al hb;have hV0:=heap_setCell_same w2 wr.heap.size 0 (iV k) hb;have hV:((w2.setCell ⟨wr,0,none⟩ (iV k)).setCell ⟨wr,5,none⟩ (iV 0)).heap[wr.heap.size]?=some (cO #[k,t,oZ,oZ,a,oZ] 300):=heap_setCell_same _ wr.heap.size 5 (iV 0) hV0;have z:=Q6 hV;have Ma:Below wr.heap.size wr ((w2.setCell ⟨wr,0,none⟩ (iV k)).setCell ⟨wr,5,none⟩ (iV 0)):=(((iG _ wr).alloc (aM _) _).trans ((OV K2).mono ai)).setCell (aM _) _ |>.setCell (aM _) _;have hJV:=hJ _ _ _ hJs Ma;obtain⟨fn,tmps,assign,body,hy,hR⟩:=hY pre (⟨k,t⟩,a) _ hJV Lv;simp only[rS,fi,Nat.reduceAdd] at z;revert hV Ma;refine ct ?_;intro hV Ma;clear hV0;gi_wp2_with fail;refine hR.mono ?_;rintro e W3 (⟨rfl,hJ4,Mb,ZJ⟩|⟨rfl,abl⟩)
     ·revert Mb ZJ;refine KU ?_;intro NY x5 Ph Pm hBn;refine⟨⟨a+t.length,pre++[(⟨k,t⟩,a)],Um,f,by omega,by simp,?_,by show _=_;rw[hpr.out,hrm.out];simp,hJ4,hBn,Ph⟩,by simp[intOf];omega⟩;exact DQ
     exact J4
    ·have htr:fE d=t:=by have:=ht.out;rw[aE aiF] at this;rw[Nl.out];exact this
     have hr0:fD d=[]:=by rw[Nl.out];simp[fD,aiF]
     have ht0:0 < t.length:=by
      cases t with
      |nil=>have:=eF.out;simp[shape,cJ,tx] at this
      |cons=>simp
     have hk:k=5:=by
      have h2:=eF.out;have h3:cJ.contains t=true:=by
       rw[<-htr];unfold fE
       cases hf:cJ.find? fun x=>x.isPrefixOf d with
       |none=>rw[<-htr] at ht0;unfold fE at ht0;rw[hf] at ht0;simp at ht0
       |some y=>simpa using W8 hf
      unfold shape at h2;rw[aI h3] at h2;exact(j6 h2).symm
     subst hk;have htd:t.length<=d.length:=afH htr;have hzt:=dp t;have h97:¬(t.length:Int)=0:=ab;have h98:¬t.length=0:=ab;have h99:t≠[]:=by rintro rfl;simp at ht0
     rw[hr0];gi_wp2_with fail;refine⟨bw,(mA.2 (aay d hdS _)).mono ?_⟩;rintro e w2 ⟨rfl,K2⟩;rw[htr];have hb:w2.heap[wr.heap.size]?=some (cO #[oZ,eS,oZ,oZ,a,oZ] 300):=aJ ao K2;have hbl:wr.heap.size < w2.heap.size:=(aQ.1 hb).1;have y0:=aC hb 0;have y5:=aC hb 1;have f0:=al hb;have hV0:=heap_setCell_same w2 wr.heap.size 0 (iV 5) hb;have hV:((w2.setCell ⟨wr,0,none⟩ (iV 5)).setCell ⟨wr,1,none⟩ (.string (bs t))).heap[wr.heap.size]?=some (cO #[iV 5,t,oZ,oZ,a,oZ] 300):=heap_setCell_same _ wr.heap.size 1 (.string (bs t)) hV0;have z:=Q6 hV;have Ma:Below wr.heap.size wr ((w2.setCell ⟨wr,0,none⟩ (iV 5)).setCell ⟨wr,1,none⟩ (.string (bs t))):=(((iG _ wr).alloc (aM _) _).trans ((OV K2).mono ai)).setCell (aM _) _ |>.setCell (aM _) _;have hJV:=hJ _ _ _ hJs Ma;obtain⟨fn,tmps,assign,body,hy,hR⟩:=hY pre (⟨5,t⟩,a) _ hJV Lv;simp only[rS,fi,Nat.reduceAdd] at z;revert hV Ma;refine ct ?_;intro hV Ma;have e5:((5:Nat):Int)=5:=rfl;simp only[alN,e5] at hy;clear hV0;gi_wp2_with fail;refine hR.mono ?_;rintro e W3 (⟨rfl,hJ4,Mb,ZJ⟩|⟨rfl,abl⟩)
     ·revert Mb ZJ;refine KU ?_;intro NY x5 Ph Pm hBn;refine⟨⟨a+t.length,pre++[(⟨5,t⟩,a)],Um,f,by omega,by simp,?_,by show _=_;rw[hpr.out,hrm.out];simp,hJ4,hBn,Ph⟩,by simp[intOf];omega⟩;exact DQ
     exact J4
  ·have hae:a=s.length:=by omega
   have abn:rem=[]:=by have:=WE.out;rw[sL ab] at this;unfold BR at this;simpa using this.symm
   have hJe:Hid (J ps wr):=ah (by rw[hpr.out,abn,gp];exact hJs);have xY:¬(a:Int) < (s.length:Int):=ab;clear abn;gi_wp2;go_end0;exact⟨⟨_,rfl⟩,.inl hJe⟩
open Go.RowKit Go.Maps
def Q9{S':Nat->Prop}{w:World}(a b:List (List Nat))(ha:∀s∈a,bW s)(hb:∀s∈b,bW s){x y:Value}(hx:an S w (.sl (strs a)) x)(hy:an S' w (.sl (strs b)) y):Calls prog 12 #[x,y] w fun e w'=>e=.returned (.bool (decide (a=b)))/\Kept aK w w':=by
 obtain⟨a1,c1,rfl,xY⟩:=hx.aU;obtain⟨a2,c2,rfl,oL⟩:=hy.aU;have rG:(strs a).length=a.length:=bR;have xB:(strs b).length=b.length:=bR;rw[rG] at hx xY ⊢;rw[xB] at hy oL ⊢;have hm1:a.length<=9223372036854775807:=xY;have cg:b.length<=9223372036854775807:=oL;revert ha hb hx hy;refine jU ?_;intro ha hb hx hy;by_cases hl:a.length=b.length
 ·have hl':(a.length:Int)=(b.length:Int):=by omega
  have j8:=Kept.refl aK w;obtain⟨B,hB⟩:∃B,decide (a=b)=B:=⟨_,rfl⟩
  rw[hB];revert hl hB;refine ct ?_;intro hl hB;go_enter func12,ntmps12;go_wp2_with fail;go_loopg [5] a.length (fun gg s5 wr=>∃k:Nat,s5=iV k/\k+gg=a.length/\Hid (a.take k=b.take k)/\Hid (Kept aK w wr))
  case atStart=>exact⟨0,rfl,by omega,by simp[Hid],j8⟩
  case round=>
   obtain⟨j,rfl,zC,hT,hK⟩:=hrel;by_cases hj:j < a.length
   ·obtain⟨s,hs⟩:∃s,a[j]?=some s:=⟨_,ck hj⟩
    obtain⟨t,ht⟩:∃t,b[j]?=some t:=⟨_,ck wo⟩
    obtain⟨g,off,rfl,-,cs,hR,fY⟩:=hx.out.elem (k:=j) (row:=[.str s]) wC;obtain⟨g',VP,rfl,-,NY,hR',aqJ⟩:=hy.out.elem (k:=j) (row:=[.str t]) (by simp[strs,ht]);obtain⟨c0,Ap,rfl,v0,-⟩:=hR.aG;obtain⟨d0,ds0,rfl,u0,-⟩:=hR'.aG
    cases v0.bq
    cases u0.bq;have q1:wr.cell? ⟨g,off+j,none⟩=some (.string (bs s)):=hK.aq kg (fun e=>e);have q2:wr.cell? ⟨g',VP+j,none⟩=some (.string (bs t)):=hK.aq (by have:=aqJ 0 _ rfl;simpa using this) (fun e=>e);have jS:(j:Int) < (a.length:Int):=ab;have sQ:(0:Int)<=(j:Int):=ab;have hj3:j < b.length:=wo;have hS:=ha s (cm hs);have hS':=hb t (cm ht);have hTs:a.take (j+1)=a.take j++[s]:=Gi;have hTt:b.take (j+1)=b.take j++[t]:=by rw[wZ,ht];rfl
    revert hTs hTt;refine ct ?_;intro hTs hTt;by_cases jq:s=t
    ·have arN:=ah jq;subst jq;go_wp2_with fail;go_quiet (fail)
     go_wp2_with fail;go_roundg (gk - 1)
     case measure=>omega
     case rel=>exact⟨j+1,rfl,by omega,by show _=_;rw[hTs.out,hTt.out,hT.out],Kept.drewN hK⟩
    ·have cR:((bs s).toList==(bs t).toList)=false:=by rw[cH hS hS'];simpa using jq
     have hB':B=false:=by rw[<-hB.out];refine B5 fun e=>jq ?_;have h1:=hTs.symm.trans ((gq (List.take (j+1)) e).trans hTt);exact List.singleton_inj.1 (List.append_inj_right' h1 rfl)
     subst hB';go_wp2_with fail;go_quiet (fail)
     go_wp2_with fail;go_ret;exact⟨rfl,Kept.drewN hK⟩
   ·have jS:¬((j:Int) < (a.length:Int)):=by omega
    have hB':B=true:=by rw[<-hB.out];have:=hT.out;rw[oh ab,oh wo] at this;exact B4 this
    subst hB';exact mE
 ·have hl':¬(a.length:Int)=(b.length:Int):=by omega
  have e:decide (a=b)=false:=B5 fun e=>hl (by rw[e]);rw[e];go_enter func12,ntmps12;go_wp2_with fail;go_ret;exact⟨rfl,Kept.refl _ _⟩
def wFo(r:Row):List (List Nat):=match r with
 |[.str a,.str b]=>[a,tx ":",b]
 |_=>[[]]
def foW(dn:List Row):List Row->List (List Nat)
 |[]=>[]
 |x::xs=>(if dn.isEmpty then tx "[" else tx ",")::(wFo x++xs.flatMap fun x=>tx ","::wFo x)
def VV{α:Type}(g:α->List (List Nat))(x:α)(xs:List α):du ((x::xs).map g)=g x++xs.flatMap fun x=>tx ","::g x:=by
 induction xs generalizing x with
 |nil=>simp[du]
 |cons y xs ih=>show g x++tx ","::du ((y::xs).map g)=_;rw[ih y];simp
def aqK(r:Row):Prop:=∃a b,r=[.str a,.str b]
def okF(g f:Nat)(r:Row):Prop:=∃k fn cl ag tk tn ta tv ts lo rq en b rb rs,r=[.int k,.str fn,.sl (strs cl),.sl ag,.int tk,.str tn,.sl ta,.bool tv,.bool ts,.sl lo,.sl rq,.sl en,.sl b,.sl rb,.bool rs]/\aoq g f k ag tk [.int tk,.str tn,.sl ta,.bool tv,.bool ts] lo rq en b rb/\∀s∈cl,bW s
structure afJ (g f:Nat) (fo pa fe iv:List Row):Prop where
 fo:∀r∈fo,aqK r
 pa:∀r∈pa,aot r
 fe:∀r∈fe,okF g f r
 iv:∀r∈iv,zg g r
def VW(f:Nat)(dn xs:List Row):List (List Nat):=iy f (dn.getLast?.map lS) xs
def ace{f:Nat}{fo pa fe iv:List Row}{cr:List (List Nat)}:yP f [nm,false,fo,pa,(strs cr),fe,iv]=tx "class"::nm::(foW [] fo++((if fo=[] then[] else[tx "]"])++(ru [] pa++(ib "create" (strs cr)++(VW f [] fe++(dX "invariant" f iv++[tx "end"])))))):=by
 have h1:(if fo.isEmpty then[] else tx "["::du (fo.map wFo)++[tx "]"])=foW [] fo++(if fo=[] then[] else[tx "]"]):=by
  cases fo with
  |nil=>rfl
  |cons x xs=>show tx "["::du ((x::xs).map wFo)++[tx "]"]=_;rw[VV];simp[foW]
 have h2:(if pa.isEmpty then[] else tx "inherit"::pa.flatMap YC)=ru [] pa:=by
  cases pa with
  |nil=>rfl
  |cons x xs=>simp[ru]
 show(if false=true then[tx "deferred"] else[])++[tx "class",nm]++(if fo.isEmpty then[] else tx "["::du (fo.map wFo)++[tx "]"])++(if pa.isEmpty then[] else tx "inherit"::pa.flatMap YC)++ib "create" (strs cr)++iy f none fe++dX "invariant" f iv++[tx "end"]=_;rw[h1,h2];simp[VW]
def Ra{f:Nat}(hf:2*g<=f){p:Nat}{v:Value}{V:World}{ws:List (List Nat)}(h:WQ p v V ws)(nm:List Nat)(fo pa fe iv:List Row)(cr:List (List Nat)){x2 x3 x4 x5 x6:Value}(ho:afJ g f fo pa fe iv)(v2:an (Dt p v) V (.sl fo) x2)(v3:an (Dt p v) V (.sl pa) x3)(v4:an (Dt p v) V (.sl (strs cr)) x4)(v5:an (Dt p v) V (.sl fe) x5)(v6:an (Dt p v) V (.sl iv) x6)(hN:ws.length+(yP f [nm,false,fo,pa,(strs cr),fe,iv]).length<=1000000):Calls prog 43 #[pW p,.agg #[nm,false,x2,x3,x4,x5,x6]] V (WP p v V (ws++yP f [nm,false,fo,pa,(strs cr),fe,iv])):=by
 rw[ace] at hN ⊢;obtain⟨a2,c2,rfl,oL⟩:=v2.aU;obtain⟨a5,c5,rfl,hl5⟩:=v5.aU;have cg:fo.length<=9223372036854775807:=oL;have WK:fe.length<=9223372036854775807:=hl5;obtain⟨rh,hT,S0⟩:=WG.alM h hN;rw[hT];have S1:=S0.box (cO #[nm,false,sV a2 fo.length c2,x3,x4,sV a5 fe.length c5,x6] 83);have d:=S1.c 0 1;have d':=S1.c 0 0;revert ho v3 v4 v6 v2 v5;refine LX ?_;intro ho v3 v4 v6 v2 v5;clear oL hl5 hT h hN;go_enter func43,ntmps43;go_wp2_with fail;refine S1.YA fun w2 S2=>?_;clear d d';go_wp2_with fail;go_loopg [4] fo.length (fun gg s4 wr=>∃dn xs:List Row,Hid (fo=dn++xs)/\s4=iV dn.length/\gg=xs.length/\WG p v V rh (foW dn xs++((if fo=[] then[] else[tx "]"])++(ru [] pa++(ib "create" (strs cr)++(VW f [] fe++(dX "invariant" f iv++[tx "end"])))))) [(V,.cells #[nm,false,sV a2 fo.length c2,x3,x4,sV a5 fe.length c5,x6] 83 (0,0))] wr)
 case atStart=>exact⟨[],fo,rfl,rfl,rfl,S2⟩
 case round=>
  obtain⟨dn,xs,hl,rfl,hgk,S⟩:=hrel;replace hgk:=ah hgk;have hll:fo.length=dn.length+xs.length:=ej;have d:=S.c 0 2
  cases xs with
  |nil=>
   have h1:¬((dn.length:Int) < (fo.length:Int)):=nL;clear hll;go_upto_if 47 with fail;go_cut [] from 16 to 49 (fun wc=>WG p v V rh ((ru [] pa++(ib "create" (strs cr)++(VW f [] fe++(dX "invariant" f iv++[tx "end"]))))) [(V,.cells #[nm,false,sV a2 fo.length c2,x3,x4,sV a5 fe.length c5,x6] 83 (0,0))] wc)
   case first=>
    by_cases h0:fo=[]
    ·have h2:¬(0:Int) < (fo.length:Int):=by rw[h0];simp
     replace S:=S.cast (rest':=(ru [] pa++(ib "create" (strs cr)++(VW f [] fe++(dX "invariant" f iv++[tx "end"]))))) (by simp[foW,h0]);clear h0;go_wp2_with fail;go_meet
     case rel=>exact S
    ·have h2:(0:Int) < (fo.length:Int):=by have:=ac4.2 h0;omega
     replace S:=S.cast (rest':=tx "]"::(ru [] pa++(ib "create" (strs cr)++(VW f [] fe++(dX "invariant" f iv++[tx "end"]))))) (by simp[foW,h0]);clear h0;go_wp2_with fail;refine S.one fun wc S1=>?_;go_wp2_with fail;go_meet
     case rel=>exact S1
   case rest=>
   clear d h1 hl;have d:=hcut.c 0 3;go_wp2_with fail;refine hcut.call (words:=ru [] pa) (fun v ws hq up hN=>afF hq pa ho.pa (up v3) ab) fun w3 S3=>?_;have d':=S3.c 0 4;go_wp2_with fail;refine S3.named v4 (fun w4 S4=>?_) rfl ai;clear d d';go_wp2_with fail;go_loopg [5] fe.length (fun gg s5 wr=>∃dn xs:List Row,Hid (fe=dn++xs)/\s5=iV dn.length/\gg=xs.length/\WG p v V rh (VW f dn xs++(dX "invariant" f iv++[tx "end"])) [(V,.cells #[nm,false,sV a2 fo.length c2,x3,x4,sV a5 fe.length c5,x6] 83 (0,0))] wr)
   case atStart=>exact⟨[],fe,rfl,rfl,rfl,S4⟩
   case round=>
    clear hcut;obtain⟨dn,xs,hl,rfl,hgk,S⟩:=hrel;replace hgk:=ah hgk;have hll:fe.length=dn.length+xs.length:=ej;have d:=S.c 0 5
    cases xs with
    |nil=>have h1:¬((dn.length:Int) < (fe.length:Int)):=nL;clear hll;replace S:=S.cast (rest':=dX "invariant" f iv++[tx "end"]) (by simp[VW,iy]);have d':=S.c 0 6;go_wp2_with fail;refine S.call (words:=dX "invariant" f iv) (fun v ws hq up hN=>OR hf hq "invariant" iv ho.iv (up v6) ab) fun w4 S4=>?_;go_wp2_with fail;refine S4.one fun w5 S5=>?_;go_wp2_with fail;go_end0;exact S5.fin
    |cons y xs=>
     have h1:(dn.length:Int) < (fe.length:Int):=nL;have h2:(0:Int)<=(dn.length:Int):=ab;clear hll;obtain⟨k,fn,cl,ag,tk,tn,ta,tv,ts,lo,rq,en,b,rb,rs,rfl,hoF,kc⟩:=ho.out.fe y ej;obtain⟨gb,off,rfl,hg,cs,hR,fY⟩:=v5.out.elem (k:=dn.length) (row:=[k,fn,(strs cl),ag,tk,tn,ta,tv,ts,lo,rq,en,.sl b,rb,rs]) ej;obtain⟨y0,Ap,rfl,u0,hR⟩:=hR.aG;obtain⟨y1,U6,rfl,u1,hR⟩:=hR.aG;obtain⟨y2,T3,rfl,u2,hR⟩:=hR.aG;obtain⟨y3,Sx,rfl,u3,hR⟩:=hR.aG;obtain⟨y4,cs4,rfl,u4,hR⟩:=hR.aG;obtain⟨y5,cs5,rfl,u5,hR⟩:=hR.aG;obtain⟨y6,cs6,rfl,u6,hR⟩:=hR.aG;obtain⟨y7,cs7,rfl,u7,hR⟩:=hR.aG;obtain⟨y8,cs8,rfl,u8,hR⟩:=hR.aG;obtain⟨y9,cs9,rfl,u9,hR⟩:=hR.aG;obtain⟨y10,ap8,rfl,QQ,hR⟩:=hR.aG;obtain⟨y11,ap9,rfl,QR,hR⟩:=hR.aG;obtain⟨y12,aqa,rfl,U3,hR⟩:=hR.aG;obtain⟨y13,aqb,rfl,U4,hR⟩:=hR.aG;obtain⟨y14,aqc,rfl,u14,hR⟩:=hR.aG
     cases hR.jO
     cases u0.fu
     cases u1.bq
     cases u4.fu
     cases u5.bq
     cases u7.iA
     cases u8.iA
     cases u14.iA;obtain⟨a2f,k2f,rfl,-⟩:=u2.aU;obtain⟨a3f,k3f,rfl,-⟩:=u3.aU;obtain⟨a6f,k6f,rfl,-⟩:=u6.aU;obtain⟨a9f,k9f,rfl,-⟩:=u9.aU;obtain⟨aiG,aiH,rfl,-⟩:=QQ.aU;obtain⟨aiI,aiJ,rfl,-⟩:=QR.aU;obtain⟨aiK,aiL,rfl,-⟩:=U3.aU;obtain⟨aiM,aiN,rfl,-⟩:=U4.aU;have hT:VW f dn ([k,fn,(strs cl),ag,tk,tn,ta,tv,ts,lo,rq,en,.sl b,rb,rs]::xs)++(dX "invariant" f iv++[tx "end"])=(if dn.getLast?.map lS=some cl then[] else[tx "feature",tx "\x7b"]++du (cl.map fun s=>[s])++[tx "\x7d"])++(nf f [.int k,.str fn,.sl (strs cl),.sl ag,.int tk,.str tn,.sl ta,.bool tv,.bool ts,.sl lo,.sl rq,.sl en,.sl b,.sl rb,.bool rs]++(iy f (some cl) xs++(dX "invariant" f iv++[tx "end"]))):=by have e:strsOf (strs cl)=cl:=mW;simp[VW,iy,lS,e]
     have hE:VW f (dn++[[.int k,.str fn,.sl (strs cl),.sl ag,.int tk,.str tn,.sl ta,.bool tv,.bool ts,.sl lo,.sl rq,.sl en,.sl b,.sl rb,.bool rs]]) xs++(dX "invariant" f iv++[tx "end"])=iy f (some cl) xs++(dX "invariant" f iv++[tx "end"]):=by have e:strsOf (strs cl)=cl:=mW;simp[VW,lS,e]
     have hl':Hid (fe=(dn++[[.int k,.str fn,.sl (strs cl),.sl ag,.int tk,.str tn,.sl ta,.bool tv,.bool ts,.sl lo,.sl rq,.sl en,.sl b,.sl rb,.bool rs]])++xs):=wk;replace S:=S.cast hT;revert hoF kc hg u2 u3 u6 u9 QQ QR U3 U4 fY hE;refine apl ?_;intro hoF kc hg u2 u3 u6 u9 QQ QR U3 U4 fY hE;clear hT;have q:=lO (V:=wr) (g:=gb) (o:=off+dn.length*15) _ 0 fun i u hi=>S.bA hg yL;simp only[rS] at q;have hb:=(S.box (cO #[oZ,eS,nS,nS,oZ,eS,nS,false,false,nS,nS,nS,nS,nS,false] 149)).heap 0;obtain⟨B,hB⟩:∃B,decide (¬dn.getLast?.map lS=some cl)=B:=⟨_,rfl⟩
     go_wp2_with (refine str hb ?_);have S1:=S.YB #[oZ,eS,nS,nS,oZ,eS,nS,false,false,nS,nS,nS,nS,nS,false] #[k,fn,.slice a2f (strs cl).length k2f,.slice a3f (ag).length k3f,tk,tn,.slice a6f (ta).length k6f,tv,ts,.slice a9f (lo).length k9f,.slice aiG (rq).length aiH,.slice aiI (en).length aiJ,.slice aiK (b).length aiL,.slice aiM (rb).length aiN,rs] 149;obtain⟨W1,hW1⟩:∃W,(wr.alloc (cO #[oZ,eS,nS,nS,oZ,eS,nS,false,false,nS,nS,nS,nS,nS,false] 149)).setRow wr.heap.size #[k,fn,.slice a2f (strs cl).length k2f,.slice a3f (ag).length k3f,tk,tn,.slice a6f (ta).length k6f,tv,ts,.slice a9f (lo).length k9f,.slice aiG (rq).length aiH,.slice aiI (en).length aiJ,.slice aiK (b).length aiL,.slice aiM (rb).length aiN,rs]=W:=⟨_,rfl⟩
     rw[hW1] at S1 ⊢;clear hb q d hW1;simp only[Act.put];go_cut [5,84] from 58 to 84 (fun s5 s84 wc=>s5=iV dn.length/\s84=.bool B/\WG p v V rh ((if dn.getLast?.map lS=some cl then[] else[tx "feature",tx "\x7b"]++du (cl.map fun s=>[s])++[tx "\x7d"])++(nf f [.int k,.str fn,.sl (strs cl),.sl ag,.int tk,.str tn,.sl ta,.bool tv,.bool ts,.sl lo,.sl rq,.sl en,.sl b,.sl rb,.bool rs]++(iy f (some cl) xs++(dX "invariant" f iv++[tx "end"])))) [(wr,.cells #[k,fn,.slice a2f (strs cl).length k2f,.slice a3f (ag).length k3f,tk,tn,.slice a6f (ta).length k6f,tv,ts,.slice a9f (lo).length k9f,.slice aiG (rq).length aiH,.slice aiI (en).length aiJ,.slice aiK (b).length aiL,.slice aiM (rb).length aiN,rs] 149 (0,0)),(V,.cells #[nm,false,sV a2 fo.length c2,x3,x4,sV (some ⟨gb,off,none⟩) fe.length c5,x6] 83 (0,0))] wc)
     case first=>
      rcases List.eq_nil_or_concat dn with e|⟨dn',z,e⟩
      ·subst e;have hB':B=true:=by rw[<-hB];rfl
       subst hB';clear hB;refine jB 12 [(0,0),(1,0),(2,0),(3,0),(4,0),(5,0),(6,0),(7,0),(8,0),(9,0),(10,0),(11,0),(12,2),(13,2),(14,2)] (fun V=>True) af af (fun _ _ _ _ _ h=>h) bw ?_;iterate 12 ((first|refine Q8 ?_|(refine Q7 (v:=?_) ?_ (fun V s=>?_);rotate_right; · (go_simp);with_reducible rfl));try simp only[Act.put,ma,mb,lj])
       refine qM (fun K hK=>?_);go_simp;revert K hK;refine KP ?_;go_meet
       case rel=>exact⟨by simp,rfl,S1.no (Kept.refl aK W1).drew⟩
      ·rw[List.concat_eq_append] at e;subst e;obtain⟨kz,fz,clz,agz,tkz,tnz,taz,tvz,tsz,loz,rqz,enz,bz,rbz,rsz,rfl,-,alP⟩:=ho.out.fe z ej;obtain⟨gz,arO,ez,-,csz,hRz,aou⟩:=v5.out.elem (k:=dn'.length) (row:=[kz,fz,(strs clz),agz,tkz,tnz,taz,tvz,tsz,loz,rqz,enz,bz,rbz,rsz]) ej
       cases ez;obtain⟨z0,Ap,rfl,-,hRz⟩:=hRz.aG;obtain⟨z1,U6,rfl,-,hRz⟩:=hRz.aG;obtain⟨z2,T3,rfl,uz,hRz⟩:=hRz.aG;replace alP:=ah alP;have q2:Hid (W1.cell? ⟨gb,off+dn'.length*15+2,none⟩=some z2):=ah (S1.bA hg.out (by have:=aou 2 z2 rfl;simpa using this));have hwr:IntKind.i64.wrap (dn'.length:Int)=dn'.length:=lF _ ⟨by omega,by have h9:=h1;simp at h9;omega⟩;have hB':(!decide (cl=clz))=B:=by have e:strsOf (strs clz)=clz:=mW;rw[<-hB,List.getLast?_append];simp[lS,e,eq_comm]
       have iF:=S1.c 0 2;have ir:=S1.c 1 5;revert iF ir;refine ct ?_;intro iF ir;have alQ:an (fun b=>b < W1.heap.size/\Dt p v b) W1 (.sl (strs cl)) (.slice a2f (strs cl).length k2f):=S1.data u2;have BE:an (fun b=>b < W1.heap.size/\Dt p v b) W1 (.sl (strs clz)) z2:=S1.data uz;revert hB' alQ BE;refine jk ?_;intro hB' alQ BE;obtain⟨n1,Pm⟩:∃n,dn'.length=n:=⟨_,rfl⟩
       have Pt:(dn'++[[T.int kz,.str fz,.sl (strs clz),.sl agz,.int tkz,.str tnz,.sl taz,.bool tvz,.bool tsz,.sl loz,.sl rqz,.sl enz,.sl bz,.sl rbz,.bool rsz]]).length=n1+1:=by rw[j0,Pm];rfl
       rw[Pt] at h1 ⊢;rw[Pm] at hwr q2;have h3:n1 < fe.length:=ab;replace Pt:=ah Pt;clear hB aou uz Pm;refine jB 12 [(0,0),(1,0),(2,0),(3,0),(4,0),(5,0),(6,0),(7,0),(8,0),(9,0),(10,0),(11,0),(12,2),(13,2),(14,2)] (fun V=>Kept aK W1 V) af af (fun _ _ _ _ _ h=>h) (Kept.refl aK W1).drew ?_;iterate 12 ((first|refine Q8 ?_|(refine Q7 (v:=?_) ?_ (fun V s=>?_);rotate_right; · (have e1:=s.aq iF.out (fun e=>e);have e2:=s.aq ir.out (fun e=>e);have e3:=s.aq q2.out (fun e=>e);go_simp);with_reducible rfl));try simp only[Act.put,ma,mb,lj])
       refine qM (fun K hK=>?_);go_simp;refine bD (Q9 cl clz kc (fun s hs=>alP s hs) (alQ.kept (Kept.drew (Kept.refl aK W1)) (fun _ _ _ e=>e)) (BE.kept (Kept.drew (Kept.refl aK W1)) (fun _ _ _ e=>e))) fun w3 K3=>?_;revert K hK;refine KP ?_;go_meet
       case rel=>exact⟨by rw[Pt.out];simp,by rw[<-hB'.out];simp;omega,S1.no (Kept.drew (Kept.refl aK W1) |>.trans K3 fun _ _ e=>e)⟩
     case rest=>
     obtain⟨rfl,rfl,S2⟩:=hcut;go_upto_if 84 with fail;go_cut [5] from 58 to 93 (fun s5 wc=>s5=iV dn.length/\WG p v V rh (nf f [.int k,.str fn,.sl (strs cl),.sl ag,.int tk,.str tn,.sl ta,.bool tv,.bool ts,.sl lo,.sl rq,.sl en,.sl b,.sl rb,.bool rs]++(iy f (some cl) xs++(dX "invariant" f iv++[tx "end"]))) [(wr,.cells #[k,fn,.slice a2f (strs cl).length k2f,.slice a3f (ag).length k3f,tk,tn,.slice a6f (ta).length k6f,tv,ts,.slice a9f (lo).length k9f,.slice aiG (rq).length aiH,.slice aiI (en).length aiJ,.slice aiK (b).length aiL,.slice aiM (rb).length aiN,rs] 149 (0,0)),(V,.cells #[nm,false,sV a2 fo.length c2,x3,x4,sV (some ⟨gb,off,none⟩) fe.length c5,x6] 83 (0,0))] wc)
     case first=>
      cases B with
      |true=>
       have e:¬dn.getLast?.map lS=some cl:=Rt hB;rw[aE e] at S2;have S3:=S2.cast (rest':=tx "feature"::tx "\x7b"::(du (cl.map fun s=>[s])++(tx "\x7d"::(nf f [.int k,.str fn,.sl (strs cl),.sl ag,.int tk,.str tn,.sl ta,.bool tv,.bool ts,.sl lo,.sl rq,.sl en,.sl b,.sl rb,.bool rs]++(iy f (some cl) xs++(dX "invariant" f iv++[tx "end"])))))) ai;clear hB e;go_wp2_with fail;refine S3.YA fun w4 S4=>?_;have d:=S4.c 0 2;go_wp2_with fail;refine S4.call (words:=du (cl.map fun s=>[s])) (fun v ws hq up hN=>aaH hq cl (up u2) ab) fun w5 S5=>?_;go_wp2_with fail;refine S5.one fun w6 S6=>?_;go_wp2_with fail;go_meet
       case rel=>exact⟨rfl,S6⟩
      |false=>
       have e:dn.getLast?.map lS=some cl:=by simpa using hB
       rw[aI e] at S2;clear hB e;go_wp2_with fail;go_meet
       case rel=>exact⟨rfl,S2⟩
     case rest=>
     obtain⟨rfl,S3⟩:=hcut;clear hB;have hb:=S3.heap 0;go_wp2_with (refine T6 hb ?_);refine S3.call (words:=nf f [k,fn,(strs cl),ag,tk,tn,ta,tv,ts,lo,rq,en,.sl b,rb,rs]) (fun v ws hq up hN=>wFe hf hq k fn tk tn tv ts rs (strs cl) ag ta lo rq en b rb hoF (up u2) (up u3) (up u6) (up u9) (up QQ) (up QR) (up U3) (up U4) ab) fun w7 S7=>?_;exact Nj
  |cons y xs=>
   have h1:(dn.length:Int) < (fo.length:Int):=nL;have h2:(0:Int)<=(dn.length:Int):=ab;clear hll;obtain⟨a,b,rfl⟩:=ho.out.fo y ej;obtain⟨gb,off,rfl,hg,cs,hR,fY⟩:=v2.out.elem (k:=dn.length) (row:=[a,.str b]) ej;obtain⟨e0,Ap,rfl,u0,hR⟩:=hR.aG;obtain⟨e1,U6,rfl,u1,hR⟩:=hR.aG
   cases hR.jO
   cases u0.bq
   cases u1.bq;have hT:foW dn ([.str a,.str b]::xs)++((if fo=[] then[] else[tx "]"])++(ru [] pa++(ib "create" (strs cr)++(VW f [] fe++(dX "invariant" f iv++[tx "end"])))))=(if dn=[] then tx "[" else tx ",")::a::tx ":"::b::(xs.flatMap (fun x=>tx ","::wFo x)++((if fo=[] then[] else[tx "]"])++(ru [] pa++(ib "create" (strs cr)++(VW f [] fe++(dX "invariant" f iv++[tx "end"])))))):=by cases dn<;>simp[foW,wFo]
   have hE:foW (dn++[[.str a,.str b]]) xs++((if fo=[] then[] else[tx "]"])++(ru [] pa++(ib "create" (strs cr)++(VW f [] fe++(dX "invariant" f iv++[tx "end"])))))=xs.flatMap (fun x=>tx ","::wFo x)++((if fo=[] then[] else[tx "]"])++(ru [] pa++(ib "create" (strs cr)++(VW f [] fe++(dX "invariant" f iv++[tx "end"]))))):=by
    congr 1
    cases xs<;>simp[foW]
   have hl':Hid (fo=(dn++[[.str a,.str b]])++xs):=wk;replace S:=S.cast hT;revert hg fY hE;refine jk ?_;intro hg fY hE;clear hT u0 u1;go_upto_if 24 with fail;go_cut [4] from 16 to 28 (fun s4 wc=>s4=iV dn.length/\WG p v V rh (a::tx ":"::b::(xs.flatMap (fun x=>tx ","::wFo x)++((if fo=[] then[] else[tx "]"])++(ru [] pa++(ib "create" (strs cr)++(VW f [] fe++(dX "invariant" f iv++[tx "end"]))))))) [(V,.cells #[nm,false,sV (some ⟨gb,off,none⟩) fo.length c2,x3,x4,sV a5 fe.length c5,x6] 83 (0,0))] wc)
   case first=>
    by_cases hd0:dn=[]
    ·have LY:(dn.length:Int)=0:=by rw[hd0];rfl
     rw[aI hd0] at S;go_wp2_with fail;refine S.one fun wc S1=>?_;go_wp2_with fail;exact Es
    ·have LY:¬(dn.length:Int)=0:=by have:=ac4.2 hd0;omega
     rw[aE hd0] at S;go_wp2_with fail;refine S.one fun wc S1=>?_;go_wp2_with fail;go_meet
     case rel=>exact⟨rfl,S1⟩
   case rest=>
   obtain⟨rfl,hcut⟩:=hcut;clear d;have hb:=ah (hcut.heap 0);have q:=lO (V:=wc) (g:=gb) (o:=off+dn.length*2) _ 0 fun i u hi=>hcut.bA hg yL;simp only[rS] at q;obtain⟨q0,q1,-⟩:=q;revert q0 q1;refine ct ?_;intro q0 q1;go_wp2_with fail;refine jB 14 [(0,0),(1,0),(2,0),(3,0),(4,0),(5,0),(6,0),(7,0),(8,0),(9,0),(10,0),(11,0),(12,0),(13,1),(14,2)] (fun V=>Kept aK wc V) af af (fun _ _ _ _ _ h=>h) (Kept.refl aK wc).drew ?_;iterate 13 ((first|refine Q8 ?_|(refine Q7 (v:=?_) ?_ (fun V s=>?_);rotate_right; · (have E:=(hcut.no s).c 0 2;have E0:=s.aq q0.out (fun e=>e);have E1:=s.aq q1.out (fun e=>e);go_simp);with_reducible rfl));try simp only[Act.put,ma,mb,lj])
   refine afI (fun K hK=>?_);go_simp;refine hK _ _ ((Kept.refl aK wc).drew.alloc _) ?_;clear hK K;refine sp ?_;refine qM (fun K hK=>?_);go_simp;refine(hcut.no (Kept.refl aK wc).drew).alL fun w3 S3=>?_;refine hK _ _ ?_;clear hK K;refine sp ?_;refine NT ?_;go_wp2_with fail;go_roundg (gk - 1)
   case measure=>have:=hgk.out;simp at this;omega
   case rel=>exact⟨_,xs,hl',by simp,by have:=hgk.out;simp at this;omega,S3.cast hE.symm⟩
open Go.RowKit Go.Maps Go.IntWalk
def cf:List (List Nat)->List Nat
 |[]=>[]
 |[x]=>x
 |x::r=>x++32::cf r
def BF(y:List Nat):∀xs:List (List Nat),cf (xs++[y])=cf xs++((if xs=[] then[] else[32])++y)
 |[]=>by simp[cf]
 |[x]=>by simp[cf]
 |x::z::xs=>by
  have:=BF y (z::xs);simp only[qF,cf,aE (List.cons_ne_nil _ _)] at this ⊢;rw[this];simp
def Qe{l:List (List Nat)}:∀{k:Nat},k<=l.length->(cf (l.take k)).length<=(cf l).length:=by
 intro k hk;obtain⟨n,hn⟩:∃n,l.length=k+n:=⟨l.length - k,by omega⟩
 induction n generalizing k with
 |zero=>rw[oh ab];exact aM _
 |succ n ih=>
  obtain⟨x,hx⟩:∃x,l[k]?=some x:=⟨_,ck ab⟩
  have h2:=ih (k:=k+1) ab ab;rw[wZ,hx,Qq,BF,j0] at h2;omega
abbrev u8s(s:List Nat):List Value:=s.map fun(c:Nat)=>Value.int .u8 (c:Int)
def aov:(prog.info? 5).map (fun i=>(i.zero,i.size,i.bytes))=some (some (.int .u8 0),1,1):=by kernel_rfl
def OW{w:World}{k:Option Nat}(h:w.grownBy w' k):Kept (fun b=>k=some b) w w':=⟨h.os,h.tape,h.output,h.size,fun i hi hn=>h.block i hi fun e=>hn e.symm⟩
def IA{E:TypeId}{n:Nat}(hr:W.ownsRow N E z v n xs)(k:Nat)(e:v.ownBlock=some k):N<=k:=by exact J8
def alR(hs:bW s):Lib.strCells (bs s)=u8s s:=by unfold Lib.strCells bs;simp only[AY];refine Rl fun c hc=>?_;have:=hs c hc;simp;omega
def aiO(s:List Nat):strOfNums (s.map Int.ofNat)=bs s:=by unfold strOfNums bs;simp[AY,Function.comp_def]
def afK{base n:Nat}(h:W.ownsRow base 5 1 v n (u8s s)):(convert 152 9 v).run prog W=.ok (.string (bs s)) W:=by
 have hn:n=s.length:=by have:=h.1;simpa using this.symm
 subst hn;have xp:=@World.ownsRow.cells;rcases h.2 with⟨rfl,h0⟩|⟨g,cap,cur,rfl,hb,hg,_,_,hc,ht⟩
 ·have:s=[]:=JK h0;subst this;exact run_convert_bytes_nil (P:=prog) W 152 5 underlying152 underlying5 0 0 9 underlying9
 ·rw[<-aiO];refine run_convert_bytes_arg W 152 5 underlying152 underlying5 g 0 s.length cap (s.map Int.ofNat) ai (fun i hi=>?_) 9 underlying9;have:=h.cells (g:=g) rfl i (.int .u8 ((s.map Int.ofNat).getD i 0)) (by simp[hi]);rwa[MP] at this
def acf{w:World}(l:List (List Nat))(bL:∀s∈l,bW s){x:Value}(hx:an S w (.sl (strs l)) x)(hN:(cf l).length<=1000000):Calls prog 44 #[x] w fun e w'=>e=.returned (.string (bs (cf l)))/\Kept aK w w':=by
 obtain⟨a,cap,rfl,gF⟩:=hx.aU;have rG:(strs l).length=l.length:=bR;rw[rG] at hx gF ⊢;have lC:l.length<=9223372036854775807:=gF;obtain⟨i5,hi,hz,dM,dY⟩:=dN aov;revert bL hN hx hi hz dM dY;refine Wy ?_;intro bL hN hx hi hz dM dY;clear gF rG;go_enter func44,ntmps44;go_wp2_with fail;go_loopg [3,4] l.length (fun gg s3 s4 wr=>∃k:Nat,s4=iV k/\k+gg=l.length/\Hid (wr.ownsRow w.heap.size 5 1 s3 (cf (l.take k)).length (u8s (cf (l.take k))))/\Hid (Kept aK w wr))
 case atStart=>exact⟨0,rfl,by omega,⟨by simp[cf],.inl ⟨rfl,by simp[cf]⟩⟩,Kept.refl _ _⟩
 case round=>
  obtain⟨j,rfl,zC,hO,hK⟩:=hrel;by_cases hj:j < l.length
  ·obtain⟨s,hs⟩:∃s,l[j]?=some s:=⟨_,ck hj⟩
   obtain⟨g,off,rfl,-,cs,hR,fY⟩:=hx.out.elem (k:=j) (row:=[.str s]) wC;obtain⟨c0,Ap,rfl,v0,-⟩:=hR.aG
   cases v0.bq;refine kM ?_;intro jS sQ;have hT:cf (l.take (j+1))=cf (l.take j)++((if j=0 then[] else[32])++s):=by
    rw[wZ,hs,Qq,BF];by_cases h0:j=0
    ·subst h0;simp
    ·rw[aE h0,aE];intro e;have:=gq List.length e;rw[sK,mc] at this;omega
   have hTl:=Qe (l:=l) (k:=j+1) ab;have hS:=bL s (cm hs);revert hT hTl hS;refine jk ?_;intro hT hTl hS;have hw:=hK.size;replace hw:=ah hw;have hq:w.cell? ⟨g,off+j,none⟩=some (.string (bs s)):=kg;replace hq:=ah hq;clear hR fY v0 hs;go_upto_if 12 with fail;go_cut [3,4] from 5 to 15 (fun s3 s4 wc=>s4=iV j/\Hid (wc.ownsRow w.heap.size 5 1 s3 (cf (l.take j)++(if j=0 then[] else[32])).length (u8s (cf (l.take j)++(if j=0 then[] else[32]))))/\Hid (Kept aK w wc))
   case first=>
    by_cases h0:j=0
    ·have h1:¬(0:Int) < (j:Int):=by omega
     have iH:Hid (wr.ownsRow w.heap.size 5 1 u3 (cf (l.take j)++(if j=0 then[] else[32])).length (u8s (cf (l.take j)++(if j=0 then[] else[32])))):=by rw[aI h0,gp];exact hO
     clear h0;go_wp2_with fail;go_meet
     case rel=>exact⟨rfl,iH,hK⟩
    ·have h1:(0:Int) < (j:Int):=by omega
     have hL:(cf (l.take j)).length+1<=1000000:=by have e1:=hTl.out;rw[hT.out,aE h0] at e1;have e2:=hN.out;simp at e1;omega
     revert h0 hL;refine ct ?_;intro h0 hL;refine kN ?_;refine wpList_append_own (P:=prog) _ rfl _ _ 152 rfl w.heap.size 5 i5 (.int .u8 0) 1 1 underlying152 hi hz dM dY rfl aj _ _ _ rfl (hO.alloc _) ⟨wr,0,none⟩ 1 1 [.int .u8 32] rfl rfl (eH) qj (by have:=hL.out;simp[maxLen];omega) (by have:=hL.out;omega) (by have:=hw.out;simp;omega) ?_;intro v' w2 ep qN _;have iH:Hid (w2.ownsRow w.heap.size 5 1 v' (cf (l.take j)++(if j=0 then[] else[32])).length (u8s (cf (l.take j)++(if j=0 then[] else[32])))):=by rw[aE h0.out];simpa[u8s,Hid] using ep
     have H0:Hid (Kept aK w w2):=(hK.alloc _).trans (OW qN) fun i hi e=>by have:=IA hO i e;omega
     clear ep qN;go_wp2_with fail;go_meet
     case rel=>exact⟨rfl,iH,H0⟩
   case rest=>
   obtain⟨rfl,iH,H0⟩:=hcut;have xG:=H0.aq hq fun e=>e;have hw':=ah H0.out.size;have hSl:Hid ((cf (l.take j)++(if j=0 then[] else[32])).length+(bs s).size<=1000000):=by have e1:=hTl.out;rw[hT.out,<-I5,j0] at e1;have e2:=hN.out;rw[tf];show _<=_;omega
   clear hO;refine kN ?_;refine Lib.wpList_append_own_string (P:=prog) _ rfl _ _ 152 9 rfl w.heap.size 5 i5 underlying152 underlying9 hi hz dM dY _ _ _ rfl iH (bs s) rfl (by have:=hSl.out;simp only[maxLen];omega) (by have:=hSl.out;omega) hw' ?_;intro v' w2 ep qN _;have qY:Hid (w2.ownsRow w.heap.size 5 1 v' (cf (l.take (j+1))).length (u8s (cf (l.take (j+1))))):=by rw[alR hS.out,tf] at ep;rw[hT.out,<-I5];simpa[u8s,Hid,xP] using ep
   have gu:Hid (Kept aK w w2):=H0.trans (OW qN) fun i hi e=>by have:=IA iH i e;omega
   clear ep qN;go_wp2_with fail;go_roundg (gk - 1)
   case measure=>omega
   case rel=>exact⟨j+1,rfl,by omega,qY,gu⟩
  ·have jS:¬((j:Int) < (l.length:Int)):=by omega
   rw[oh ab] at hO;have hc:=afK hO;exact mE
def okW(w:List Nat):Bool:=(shape w).isSome&&!w.isEmpty&&(w.all cB||cJ.contains w)
def tk(w:List Nat):aF:=⟨(shape w).getD 0,w⟩
def afL(t:List Nat):Prop:=t=[]∨∃r,t=32::r∨t=10::r
def VX{t:List Nat}(ht:afL t):∀w:List Nat,w.all cB=true->fD (w++t)=w
 |[],_=>by
  rcases ht with rfl|⟨r,rfl|rfl⟩<;>rfl
 |c::w,h=>by
  simp only[tD,dD] at h;show(if cB c then c::fD (w++t) else[])=_;rw[aI h.1,VX ht w h.2]
def afM(ht:afL t){w:List Nat}(h:w∈cJ):fE (w++t)=w/\(∃c r,w=c::r/\cB c=false/\c≠10/\c≠32/\(c=45->r=[])):=by simp only[cJ,cZ,List.not_mem_nil,or_false] at h;rcases ht with rfl|⟨r,rfl|rfl⟩<;>rcases h with rfl|rfl|rfl|rfl|rfl|rfl|rfl|rfl|rfl|rfl|rfl|rfl|rfl|rfl|rfl|rfl|rfl|rfl|rfl|rfl|rfl|rfl<;>exact⟨rfl,_,_,rfl,by decide,by decide,by decide,by decide⟩
def IB{w:List Nat}(ht:afL t)(h:okW w=true):∃c r,w=c::r/\c≠32/\c≠10/\shape w=some (tk w).k/\(if cB c=true then fD (w++t) else fE (w++t))=w/\(c=45->r=[]):=by
 unfold okW at h;simp only[dD,j5,xQ] at h;obtain⟨⟨h1,h2⟩,h3⟩:=h;have hs:shape w=some (tk w).k:=by
  unfold tk
  cases e:shape w with
  |none=>rw[e] at h1;cases h1
  |some k=>rfl
 rcases h3 with h3|h3
 ·cases w with
  |nil=>cases h2
  |cons c r=>
   have hc:cB c=true:=by simp only[tD,dD] at h3;exact h3.1
   have h4:=hc;simp only[cB,cV,jT,iD,j5,dD,oM,dU] at h4;exact⟨c,r,rfl,by omega,by omega,hs,by rw[aI hc];exact VX ht _ h3,by intro e;omega⟩
 ·obtain⟨e1,c,r,rfl,e2,e3,e4,e5⟩:=afM ht (by simpa using h3:w∈cJ);exact⟨c,r,rfl,e4,e3,hs,by rw[e2,aE ai];exact e1,e5⟩
def VY{w:List Nat}(ht:afL t)(h:okW w=true)(f:Nat):qQ (f+1) (w++t)=(qQ f t).map (tk w:: ·):=by
 obtain⟨c,r,rfl,h1,h2,h3,h4,h5⟩:=IB ht h;have h6:(c==45&&(match r++t with|d::_=>d==45|[]=>false))=false:=by
  by_cases e:c=45
  ·obtain rfl:=h5 e;rcases ht with rfl|⟨r,rfl|rfl⟩<;>simp
  ·simp[e]
 show(if(c==10||c==32)=true then qQ f (r++t) else if(c==45&&(match r++t with|d::_=>d==45|[]=>false))=true then none else
  let x:=if cB c=true then fD (c::(r++t)) else fE (c::(r++t));match shape x with|none=>none|some k=>(qQ f ((c::(r++t)).drop x.length)).map (⟨k,x⟩:: ·))=_
 rw[aE (by simp[h1,h2]),aE (by rw[h6];simp)];exact Nk
def VZ:∀(ws:List (List Nat)),(∀w∈ws,okW w=true)->ws≠[]->∀(f:Nat) (r:List Nat),qQ (f+2*ws.length) (cf ws++10::r)=(qQ f r).map (ws.map tk++ ·)
 |[],_,h,_,_=>absurd rfl h
 |[w],hw,_,f,r=>by
  show qQ (f+1+1) (w++10::r)=_;rw[VY (.inr ⟨r,.inr rfl⟩) (hw w ai)];rfl
 |w::v::ws,hw,_,f,r=>by
  have ih:=VZ (v::ws) (fun x hx=>hw x (eC _ hx)) ai f r;have e:cf (w::v::ws)++10::r=w++32::(cf (v::ws)++10::r):=by show(w++32::cf (v::ws))++10::r=_;simp
  have e2:f+2*(w::v::ws).length=(f+2*(v::ws).length+1)+1:=by simp only[dC];omega
  rw[e,e2,VY (.inr ⟨_,.inl rfl⟩) (hw w ai)];show(qQ (f+2*(v::ws).length) (cf (v::ws)++10::r)).map _=_;rw[ih]
  cases qQ f r<;>simp
def aaR{w:List Nat}(ht:afL t)(h:okW w=true)(f a:Nat):BR (f+1) a (w++t)=(BR f (a+w.length) t).map ((tk w,a):: ·):=by
 obtain⟨c,r,rfl,h1,h2,h3,h4,h5⟩:=IB ht h;have h6:[45,45].isPrefixOf (c::(r++t))=false:=by
  by_cases e:c=45
  ·obtain rfl:=h5 e;subst e;rcases ht with rfl|⟨r,rfl|rfl⟩<;>rfl
  ·show(45==c&&[45].isPrefixOf (r++t))=false;rw[show(45==c)=false by simp;omega];rfl
 show(if(c==32)=true then BR f (a+1) (r++t) else if[45,45].isPrefixOf (c::(r++t))=true then none else
  let x:=if cB c=true then fD (c::(r++t)) else fE (c::(r++t));match shape x with|none=>none|some k=>(BR f (a+x.length) ((c::(r++t)).drop x.length)).map ((⟨k,x⟩,a):: ·))=_
 rw[aE (by simp[h1]),aE (by rw[h6];simp)];exact Nk
def Tq:∀(ws:List (List Nat)),(∀w∈ws,okW w=true)->∀(f a:Nat),2*ws.length<=f->∃ps,BR f a (cf ws)=some ps/\ps.map (·.1)=ws.map tk
 |[],_,f,a,_=>⟨[],by cases f<;>rfl,rfl⟩
 |[w],hw,f,a,hf=>by
  obtain⟨f,rfl⟩:∃g,f=g+1:=⟨f - 1,by simp at hf;omega⟩
  have:=aaR (t:=[]) (.inl rfl) (hw w ai) f a;rw[gp] at this;exact⟨[(tk w,a)],by show BR (f+1) a w=_;rw[this];cases f<;>rfl,rfl⟩
 |w::v::ws,hw,f,a,hf=>by
  obtain⟨f,rfl⟩:∃g,f=g+1+1:=⟨f - 2,by simp at hf;omega⟩
  obtain⟨ps,h1,h2⟩:=Tq (v::ws) (fun x hx=>hw x (eC _ hx)) f (a+w.length+1) (by simp at hf ⊢;omega);refine⟨(tk w,a)::ps,?_,by simp[h2]⟩;show BR (f+1+1) a (w++32::cf (v::ws))=_;rw[aaR (.inr ⟨_,.inl rfl⟩) (hw w ai)];show(BR f (a+w.length+1) (cf (v::ws))).map _=_;rw[h1];rfl
open Go.RowKit
def OX:Code->List ByteArray
 |.region _ ops _=>ops.toList.filterMap fun o=>match o.op with|.assign (.const (.string b))=>if b.size < 60 then none else some b|_=>none
 |.seq a b=>OX a++OX b
 |.cond _ a b=>OX a++OX b
 |.block _ a=>OX a
 |.loop a=>OX a
 |_=>[]
def aiP(P:Program):List ByteArray:=match P.funcs[30]? with|some f=>(match f.body with|some c=>OX c|none=>[])|none=>[]
def tL(P:Program)(k:Nat):List Nat:=((aiP P).getD k ⟨#[]⟩).data.toList.map UInt8.toNat
def alS(s:List Nat):List (List Nat):=s.foldr (fun c acc=>if c==32 then[]::acc else match acc with|x::xs=>(c::x)::xs|[]=>[[c]]) [[]]
def Qf(P:Program)(k:Nat):List (List Nat):=alS (tL P k)
def LN(P:Program)(k:Nat):List aF:=(Qf P k).map tk
def nC(P:Program)(k:Nat):Row:=match iw 60 (LN P k) with|some (r,[])=>r|_=>[]
def YD:((List.range 12).all fun k=>cf (Qf prog k)==tL prog k&&(Qf prog k).all okW&&(tL prog k).all (fun c=>decide (c < 256))&&decide ((Qf prog k).length < 1000))=true:=by decide+kernel
def acg(k:Nat)(hk:k < 12)(rest:List aF):iw 60 (LN prog k++rest)=some (nC prog k,rest):=by
 match k,hk with
 |0,_=>show iw 60 (LN prog 0++rest)=some (nC prog 0,rest);kernel_rfl
 |1,_=>show iw 60 (LN prog 1++rest)=some (nC prog 1,rest);kernel_rfl
 |2,_=>show iw 60 (LN prog 2++rest)=some (nC prog 2,rest);kernel_rfl
 |3,_=>show iw 60 (LN prog 3++rest)=some (nC prog 3,rest);kernel_rfl
 |4,_=>show iw 60 (LN prog 4++rest)=some (nC prog 4,rest);kernel_rfl
 |5,_=>show iw 60 (LN prog 5++rest)=some (nC prog 5,rest);kernel_rfl
 |6,_=>show iw 60 (LN prog 6++rest)=some (nC prog 6,rest);kernel_rfl
 |7,_=>show iw 60 (LN prog 7++rest)=some (nC prog 7,rest);kernel_rfl
 |8,_=>show iw 60 (LN prog 8++rest)=some (nC prog 8,rest);kernel_rfl
 |9,_=>show iw 60 (LN prog 9++rest)=some (nC prog 9,rest);kernel_rfl
 |10,_=>show iw 60 (LN prog 10++rest)=some (nC prog 10,rest);kernel_rfl
 |11,_=>show iw 60 (LN prog 11++rest)=some (nC prog 11,rest);kernel_rfl
def eN:List (List Nat):=[tx "LINK",tx "INTS",tx "SORTED",tx "NODE",tx "STACK",tx "QUEUE",tx "ENTRY",tx "TABLE",tx "SET",tx "COUNTER",tx "RANGE",tx "ARITH"]
def zO:List (List (List Nat)):=[[],[tx "LINK"],[tx "LINK",tx "INTS"],[],[tx "NODE"],[tx "LINK"],[],[tx "ENTRY"],[tx "LINK",tx "INTS"],[],[],[]]
def WT(P:Program)(k:Nat):Row:=[(eN.getD k []),(strs (zO.getD k [])),(tL P k)]
def ach(P:Program):List Row:=[WT P 0,WT P 1,WT P 2,WT P 3,WT P 4,WT P 5,WT P 6,WT P 7,WT P 8,WT P 9,WT P 10,WT P 11]
def IC(b:ByteArray):bs (b.data.toList.map UInt8.toNat)=b:=by obtain⟨⟨l⟩⟩:=b;have h:(fun n=>UInt8.ofNat n) ∘ UInt8.toNat=id:=funext fun u=>UInt8.ofNat_toNat;unfold bs;simp[h]
def Rb(b:ByteArray):bW (b.data.toList.map UInt8.toNat):=fun c hc=>by
 obtain⟨u,_,rfl⟩:=dO.1 hc;exact u.toNat_lt
def dS(l:List (List Nat))(h:V.heap[b]?=some (.cells (l.map fun s=>Value.string (bs s)).toArray 9 (0,0)))(hS:S b)(hl:l.length<=1000):an S V (.sl (strs l)) (sV b l.length l.length):=by
 have e:(strs l).length=l.length:=bR;have:=aW (S:=S) (w:=V) (rows:=strs l) (css:=l.map fun s=>[Value.string (bs s)]) (wd:=1) (cap:=l.length) h (aaN l) (by
  unfold strs;clear h hl e;induction l with
  |nil=>exact .nil
  |cons x l ih=>exact .cons ⟨rfl,.cons (.str x) .nil⟩ ih) hS (by rw[e];exact aM _) wj
 rwa[e] at this
def afN(w:World):Calls prog 33 #[] w fun e w'=>∃g,e=.returned (sV (some ⟨g,0,none⟩) 12 12)/\an w w' (.sl (ach prog)) (sV (some ⟨g,0,none⟩) 12 12)/\Kept aK w w':=by
 go_enter func33,ntmps33;go_wp2;go_ret;obtain⟨W,hW⟩:∃W,W=(((((w.alloc (cO #[.string fI] 9)).alloc (cO #[.string fI,.string gG] 9)).alloc (cO #[.string tA] 9)).alloc (cO #[.string fI] 9)).alloc (cO #[.string qz] 9)).alloc (cO #[.string fI,.string gG] 9):=⟨_,rfl⟩
 rw[<-hW];have hs:W.heap.size=w.heap.size+1+1+1+1+1+1:=iS;have hK:Kept aK w W:=by rw[hW];exact((((((Kept.refl aK w).alloc _).alloc _).alloc _).alloc _).alloc _).alloc _
 have n0:W.heap[w.heap.size]?=some (.cells #[.string fI] 9 (0,0)):=by rw[hW];simp only[heap_alloc,dB];repeat (first|rw[aI bw]|rw[aI rfl]|rw[aE ab])
 have n1:W.heap[w.heap.size+1]?=some (.cells #[.string fI,.string gG] 9 (0,0)):=by rw[hW];simp only[heap_alloc,dB];repeat (first|rw[aI bw]|rw[aI rfl]|rw[aE ab])
 have n2:W.heap[w.heap.size+1+1]?=some (.cells #[.string tA] 9 (0,0)):=by rw[hW];simp only[heap_alloc,dB];repeat (first|rw[aI bw]|rw[aI rfl]|rw[aE ab])
 have n3:W.heap[w.heap.size+1+1+1]?=some (.cells #[.string fI] 9 (0,0)):=by rw[hW];simp only[heap_alloc,dB];repeat (first|rw[aI bw]|rw[aI rfl]|rw[aE ab])
 have n4:W.heap[w.heap.size+1+1+1+1]?=some (.cells #[.string qz] 9 (0,0)):=by rw[hW];simp only[heap_alloc,dB];repeat (first|rw[aI bw]|rw[aI rfl]|rw[aE ab])
 have n5:W.heap[w.heap.size+1+1+1+1+1]?=some (.cells #[.string fI,.string gG] 9 (0,0)):=by rw[hW];simp only[heap_alloc,dB];repeat (first|rw[aI bw]|rw[aI rfl]|rw[aE ab])
 have ek:∀(b:Nat) (cs:Array Value) {o:Obj},W.heap[b]?=some (.cells cs 9 (0,0))->(W.alloc o).heap[b]?=some (.cells cs 9 (0,0)):=fun b cs o h=>(jm W o _ (aQ.1 h).1).trans h;have tz:∀k,Value.string ((aiP prog).getD k ⟨#[]⟩)=Value.string (bs (tL prog k)):=fun k=>by unfold tL;rw[IC]
 have row:∀{V:World} (k:Nat) (nm tx':ByteArray) (v:Value),nm=bs (eN.getD k [])->tx'=(aiP prog).getD k ⟨#[]⟩->an w V (.sl (strs (zO.getD k []))) v->([Value.string nm,v,Value.string tx'].length=3/\aP w V (WT prog k) [Value.string nm,v,Value.string tx']):=by rintro V k nm tx' v rfl rfl hv;rw[tz];exact⟨rfl,.cons (.str _) (.cons hv (.cons (.str _) .nil))⟩
 refine⟨_,rfl,?_,hK.alloc _⟩;refine aW (rows:=ach prog) (cap:=12) (E:=64) (wd:=3) (by rw[heap_alloc,aI hs.symm];rfl) rfl (.cons (row 0 _ _ _ rfl af .nil) (.cons (row 1 _ _ _ rfl af (dS [tx "LINK"] (ek _ _ n0) ab aj)) (.cons (row 2 _ _ _ rfl af (dS [tx "LINK",tx "INTS"] (ek _ _ n1) ab aj)) (.cons (row 3 _ _ _ rfl af .nil) (.cons (row 4 _ _ _ rfl af (dS [tx "NODE"] (ek _ _ n2) ab aj)) (.cons (row 5 _ _ _ rfl af (dS [tx "LINK"] (ek _ _ n3) ab aj)) (.cons (row 6 _ _ _ rfl af .nil) (.cons (row 7 _ _ _ rfl af (dS [tx "ENTRY"] (ek _ _ n4) ab aj)) (.cons (row 8 _ _ _ rfl af (dS [tx "LINK",tx "INTS"] (ek _ _ n5) ab aj)) (.cons (row 9 _ _ _ rfl af .nil) (.cons (row 10 _ _ _ rfl af .nil) (.cons (row 11 _ _ _ rfl af .nil) .nil)))))))))))) ab aj aj
def BG:∀s∈eN,bW s:=by unfold eN bW;decide
def afO(hk:k < 12):(ach P)[k]?=some (WT P k):=by exact DB
def NZ{w:World}(hx:an S w (.sl (ach P)) (sV g 12 12))(hk:k < 12):∃(off:Nat) (a:Option Addr) (c:Nat),an S w (.sl (strs (zO.getD k []))) (.slice a (zO.getD k []).length c)/\aP S w (WT P k) [.string (bs (eN.getD k [])),.slice a (zO.getD k []).length c,.string (bs (tL P k))]/\w.cell? ⟨g,k*3,none⟩=some (.string (bs (eN.getD k [])))/\w.cell? ⟨g,k*3+1,none⟩=some (.slice a (zO.getD k []).length c)/\w.cell? ⟨g,k*3+2,none⟩=some (.string (bs (tL P k))):=by
 obtain⟨g',off,e,-,cs,hR,hc⟩:=hx.elem (afO hk);obtain⟨c0,Ap,rfl,v0,r0⟩:=hR.aG;obtain⟨c1,U6,rfl,v1,r1⟩:=r0.aG;obtain⟨c2,T3,rfl,v2,r2⟩:=r1.aG
 cases r2.jO
 cases v0.bq;cases v2.bq;obtain⟨a,c,rfl,-⟩:=v1.aU;have e1:(strs (zO.getD k [])).length=(zO.getD k []).length:=bR;rw[e1] at v1 hR hc;simp only[wY,I0,xO] at e;obtain⟨rfl,rfl⟩:=e;have h3:(WT P k).length=3:=rfl;rw[h3,fi] at hc;exact⟨0,a,c,v1,hR,hc 0 _ rfl,hc 1 _ rfl,hc 2 _ rfl⟩
def aow{w:World}{n:List Nat}{x y:Value}(hn:bW n)(hm:bW nm)(hb:w.heap[bx]?=some (.cells #[nm] 9 (0,0)))(hx:∃a m c,x=sV a m c)(hy:∃s,y=.string s):Calls prog 61 #[.agg #[.string (bs n),x,y],.pointer bx] w fun e w'=>e=.returned (.bool (decide (n=nm)))/\Kept aK w w':=by
 obtain⟨a,m,c,rfl⟩:=hx;obtain⟨s,rfl⟩:=hy;have c0:=(iW w (cO #[n,sV a m c,.string s] 64) bx 0 (aQ.1 hb).1).trans (aC hb 0);have e:((bs n).toList==(bs nm).toList)=decide (n=nm):=by rw[cH hn hm,sM];simp
 replace hb:=ah hb;go_enter func61,ntmps61;go_wp2_with fail;go_ret;exact pB
def ixZ(nm:List Nat):Int:=if nm∈eN then eN.idxOf nm else -1
def afP(h:nm∉eN):ixZ nm=-1:=by unfold ixZ;rw[if_neg h]
def Tr(hk:k < 12)(he:eN.getD k []=nm):ixZ nm=k:=by subst he;exact DB
def alT{w:World}(hm:bW nm)(hx:an S w (.sl (ach prog)) (sV g 12 12))(hb:w.heap[bx]?=some (.cells #[nm] 9 (0,0))):Calls prog 60 #[sV g 12 12,.func (.func 61) #[] #[.pointer bx]] w fun e w'=>e=.returned (iV (ixZ nm))/\Kept aK w w':=by
 revert hx hb;refine ct ?_;intro hx hb;go_enter func60,ntmps60;go_wp2_with fail;go_loopg [8] 12 (fun gg s8 wr=>∃k:Nat,s8=iV k/\k+gg=12/\Hid (∀j,j < k->eN.getD j []≠nm)/\Hid (Kept aK w wr))
 case atStart=>exact⟨0,rfl,rfl,fun j hj=>absurd hj ab,Kept.refl _ _⟩
 case round=>
  obtain⟨k,rfl,hk,cR,hK⟩:=hrel;by_cases bQ:k < 12
  ·refine Gg ?_;intro bC a c v1 q0 q1 q2 xY oL;have M6:=ah (aJ hb.out hK.out);have hnk:bW (eN.getD k []):=by
    rw[rA]
    cases e:eN[k]? with
    |none=>intro c hc;cases hc
    |some s=>exact BG s (cm e)
   go_wp2_with fail;refine(aow hnk hm M6 ⟨_,_,_,rfl⟩ ⟨_,rfl⟩).mono ?_;rintro e w2 ⟨rfl,K2⟩;by_cases he:eN.getD k []=nm
   ·rw[B4 he];go_wp2_with fail;go_ret;rw[Tr bQ he];exact⟨rfl,hK.trans' K2⟩
   ·rw[B5 he];go_wp2_with fail;go_roundg (gk - 1)
    case measure=>omega
    case rel=>exact⟨k+1,by simp,by omega,fun j hj=>(by by_cases h:j=k;exact h▸he;exact cR j ab),hK.trans' K2⟩
  ·have xY:¬(k:Int) < 12:=by omega
   go_wp2_with fail;go_ret;refine⟨?_,hK⟩;rw[afP fun hm=>?_]
   ·rfl
   ·obtain⟨j,hj,e⟩:=List.getElem_of_mem hm;have aox:j < 12:=hj;exact cR j ab (by rw[rA,ck hj,e];rfl)
def alU(nm:List Nat)(w:World)(e:Ending)(w':World):Prop:=
 (∃(k:Nat) (a:Option Addr) (c:Nat),k < 12/\nm=eN.getD k []/\e=.returned (.tuple #[.agg #[.string (bs nm),.slice a (zO.getD k []).length c,.string (bs (tL prog k))],true])/\an w w' (.sl (strs (zO.getD k []))) (.slice a (zO.getD k []).length c)/\Kept aK w w')∨
 (nm∉eN/\e=.returned (.tuple #[.agg #[.string ⟨#[]⟩,sV none 0 0,.string ⟨#[]⟩],false])/\Kept aK w w')
def Ts(hm:bW nm)(w:World):Calls prog 29 #[nm] w (alU nm w):=by
 refine fg ?_;intro sE;obtain⟨W,hW⟩:∃W,W=(w.alloc (cO #[nm] 9)).alloc (cO #[eS,nS,eS] 64):=⟨_,rfl⟩
 have dZ:Kept aK w W:=by rw[hW];exact((Kept.refl aK w).alloc _).alloc _
 have lL:W.heap[w.heap.size]?=some (.cells #[nm] 9 (0,0)):=by rw[hW];exact aD ao
 have jy:W.heap[w.heap.size+1]?=some (.cells #[eS,nS,eS] 64 (0,0)):=by rw[hW,heap_alloc,aI ai]
 have xh:w.heap.size+1+1=W.heap.size:=iS;revert hW dZ lL jy xh;refine nx ?_;intro hW dZ lL jy xh;go_enter func29,ntmps29;go_wp2_with fail;rw[<-hW.out];refine(afN _).mono ?_;rintro e w1 ⟨g,rfl,hx,K1⟩;have gJ:=ah (aJ lL.out K1);have Cm:=ah (aJ jy.out K1);have Io:=ah (dZ.trans' K1);replace hx:=ah hx;go_wp2_with fail;refine bD (alT hm hx gJ) fun w2 K2=>?_;have jV:=aJ Cm K2;have gu:=ah (Io.trans' K2);by_cases lQ:nm∈eN
 ·refine pQ ?_;intro k hk Xv;have hix:ixZ nm=k:=Tr hk Xv;rw[hix];obtain⟨_,a,c,v1,-,q0,q1,q2⟩:=NZ hx.out hk;replace q0:=K2.aq q0 (fun e=>e);replace q1:=K2.aq q1 (fun e=>e);replace q2:=K2.aq q2 (fun e=>e);rw[Xv] at q0;have v2:=v1.kept K2 (fun _ _ _ e=>e);have xY:¬(k:Int) < 0:=ab;have oL:(k:Int) < 12:=ab;have ij:(0:Int)<=(k:Int):=ab;obtain⟨ML,Ab⟩:∃m,(zO.getD k []).length=m:=⟨_,rfl⟩
  rw[Ab] at q1 v2;revert jV Xv v2 Ab;refine jU ?_;intro jV Xv v2 Ab;go_wp2_with (refine str jV ?_);have hb6:=lz _ _ _ #[nm,sV a ML c,.string (bs (tL prog k))] _ _ jV;have z0:=aC hb6 0;have z1:=aC hb6 1;have z2:=aC hb6 2;refine bG (v:=.tuple #[.agg #[.string (bs nm),sV a ML c,.string (bs (tL prog k))],true]) Hl rfl ?_;have WD:=fH w2 (w.heap.size+1) #[nm,sV a ML c,.string (bs (tL prog k))];refine .inl ⟨k,a,c,hk,Xv.symm,by rw[Ab.out],?_,gu.trans WD fun b hb e=>by omega⟩;rw[Ab.out];exact((v2.mono fun b hb _=>(by have:=xh.out;omega:w.heap.size+1+1<=b)).kept WD dH).mono fun b hb _=>by omega
 ·rw[afP lQ];replace jV:=ah jV;go_wp2_with (first|refine QW ?_|refine str jV ?_);have hb6:=lz _ _ _ #[eS,nS,eS] _ _ jV;have z0:=aC hb6 0;have z1:=aC hb6 1;have z2:=aC hb6 2;refine bG (v:=.tuple #[.agg #[.string ⟨#[]⟩,sV none 0 0,.string ⟨#[]⟩],false]) Hl rfl ?_;have WD:=fH w2 (w.heap.size+1) #[eS,nS,eS];exact .inr ⟨lQ,rfl,gu.trans WD fun b hb e=>by omega⟩
attribute [local go_sem] Rs
inductive TkR:List aF->List Value->Prop
 |nil:TkR [] []
 |snoc {L:List aF} {xs:List Value} (t:aF) (a b:Int):TkR L xs->TkR (L++[t]) (xs++[.int .i64 t.k,.string (bs t.t),.int .i64 a,.int .i64 b])
def TkR.len(h:TkR L xs):xs.length=L.length*4:=by
 induction h with
 |nil=>rfl
 |snoc t a b _ ih=>simp only[j0,ih,dC,mc];omega
def TkR.get(h:TkR L xs):∀(k:Nat) (t:aF),L[k]?=some t->∃a b:Int,xs[k*4]?=some (iV t.k)/\xs[k*4+1]?=some (.string (bs t.t))/\xs[k*4+2]?=some (iV a)/\xs[k*4+3]?=some (iV b):=by
 induction h with
 |nil=>intro k t hk;simp at hk
 |@snoc L xs t a b h ih=>
  intro k u hk;have hl:=h.len;by_cases Am:k < L.length
  ·rw[rU Am] at hk;obtain⟨a',b',e1,e2,e3,e4⟩:=ih k u hk;refine⟨a',b',?_,?_,?_,?_⟩<;>rw[rU ab]<;>assumption
  ·have aqL:=(dk.1 hk).1;simp only[j0,dC,mc] at aqL;have:k=L.length:=ab;subst this;rw[A0 (aM _),Nat.sub_self] at hk
   cases hk;refine⟨a,b,?_,?_,?_,?_⟩<;>rw[A0 ab]<;>rw[hl]<;>simp
def K9(x:Nat)(A B:World):Prop:=∀(b:Nat) (cs:Array Value) (T:TypeId) (fr:Nat×Nat),A.heap[b]?=some (.cells cs T fr)->b≠x->T≠187->T≠300->B.heap[b]?=A.heap[b]?
def K9.trans{x:Nat}{A B C:World}(h:K9 x A B)(k:K9 x B C):K9 x A C:=fun b cs T fr hA h1 h2 h3=>(k b cs T fr ((h b cs T fr hA h1 h2 h3).trans hA) h1 h2 h3).trans (h b cs T fr hA h1 h2 h3)
def Kp(n x:Nat)(A B:World):Prop:=Below n A B/\K9 x A B/\Kt A B
def Kp.trans{n x:Nat}{A B C:World}(h:Kp n x A B)(k:Kp n x B C):Kp n x A C:=⟨h.1.trans k.1,h.2.1.trans k.2.1,h.2.2.trans k.2.2⟩
def Kp.of{n:Nat}{A B:World}(hB:Below n A B)(h:∀(b:Nat) (cs:Array Value) (T:TypeId) (fr:Nat×Nat),A.heap[b]?=some (.cells cs T fr)->b≠x->T≠187->B.heap[b]?=A.heap[b]?)(hx:∀cs T fr,A.heap[x]?=some (.cells cs T fr)->T=84):Kp n x A B:=
 ⟨hB,fun b cs T fr hA h1 h2 _=>h b cs T fr hA h1 h2,fun b cs fr hA=>⟨cs,(h b cs 300 fr hA GU aj).trans hA,rfl⟩,fun b cs fr hA=>h b cs 9 fr hA GU aj⟩
def Kp.refl(n x:Nat)(A:World):Kp n x A A:=⟨iG n A,fun _ _ _ _ _ _ _ _=>rfl,fun _ cs _ hA=>⟨cs,hA,rfl⟩,fun _ _ _ _=>rfl⟩
def Kp.put{n:Nat}{w:World}(hn:n<=w.heap.size)(W:World)(l:Nat)(o o':Obj)(hl:w.heap.size<=l)(hW:W.heap[l]?=some o)(ho:o.isCells=false)(hw:o.isWalk=false):Kp n x W (W.putObj l o'):=by
 have h:∀(b:Nat) (cs:Array Value) (T:TypeId) (fr:Nat×Nat),W.heap[b]?=some (.cells cs T fr)->(W.putObj l o').heap[b]?=W.heap[b]?:=fun b cs T fr hA=>(M3 W l o').block b (aQ.1 hA).1 fun e=>by
  have e:=j6 e;subst e;rw[hA] at hW;cases hW;cases ho
 exact⟨belowK_b hn W l o o' hl hW ho hw,fun b cs T fr hA _ _ _=>h b cs T fr hA,fun b cs fr hA=>⟨cs,(h _ _ _ _ hA).trans hA,rfl⟩,fun b cs fr hA=>h _ _ _ _ hA⟩
abbrev mkD(ds:List Nat):List Deferred:=ds.map fun D=>{target:=.collected D,args:=#[]}
def Marks(n:Nat)(ds:List Nat)(W:World):Prop:=ds.Nodup/\∀D∈ds,n<=D/\W.heap[D]?=some (.deferred (some []))
def alW(k:Int)(hk:k≠6)(w:World):Calls prog 223 #[k] w fun e w'=>e=.returned (.bool true)/\w'=w:=by have A8:(k !=6)=true:=jc;go_enter func223,ntmps223;exact cQ
def aiR(w:World):Calls prog 223 #[iV 6] w fun e w'=>e=.returned (.bool false)/\w'=w:=by go_enter func223,ntmps223;exact cQ
def acj(s:ByteArray)(w:World):Calls prog 271 #[s] w fun e w'=>e=.returned (.func (.func 295) #[] #[.pointer w.heap.size])/\w'=w.alloc (cO #[s] 9):=by refine fg ?_;intro sE;go_enter func271,ntmps271;exact cQ
def IF{F:Fence}{n:Nat}{P:Program}{fn:Func}{tmps:Array Value}{R:Ending->World->Prop}{N:Nat}(Φ:World->Prop)(hΦ:∀W l o o',Φ W->N<=l->W.heap[l]?=some o->o.isCells=false->Φ (W.putObj l o'))(sU:∀W,Φ W->∃v,(results fn tmps).run P W=.ok v W/\R (.returned v) W):
  ∀(ds:List Nat) (W:World),Marks N ds W->Φ W->LeavesInM F n P fn tmps R (mkD ds) .returning W
 |[],W,_,h=>sU W h
 |D::ds,W,hM,h=>by
  obtain⟨h1,h2⟩:=hM;rw[M2] at h1;obtain⟨h3,h4⟩:=h2 D ai;refine⟨by simp,.inl ⟨D,_,rfl,run_takeDeferred h4,IF Φ hΦ sU ds _ ⟨h1.2,fun D' sT=>?_⟩ (hΦ _ _ _ _ h h3 h4 rfl)⟩⟩;obtain⟨h5,h6⟩:=h2 D' (eC _ sT);exact⟨h5,((M3 W D _).block D' (aQ.1 h6).1 fun e=>h1.1 (j6 e▸sT)).trans h6⟩
def zP{n j:Nat}{u:Value}{T:TypeId}(hr:W.ownsRow n 187 4 v m xs)(hb:W.heap[b]?=some (.cells cs T fr))(hT:T≠187):(W.setCell ⟨b,j,none⟩ u).ownsRow n 187 4 v m xs:=by
 refine hr.kept (row:=some b) ⟨rfl,rfl,rfl,by simp[World.setCell],fun k _ hk=>ll W ⟨b,j,none⟩ u k (fun e=>hk (by rw[e]))⟩ ?_;rcases hr.2 with⟨rfl,_⟩|⟨g,cap,cur,rfl,_,hg,_⟩
 ·exact .inl rfl
 ·refine .inr fun e=>?_;obtain rfl:g=b:=yM;rw[hb] at hg;cases hg;exact hT rfl
def Tt{w:World}(hb:Below w.heap.size w w'):w.grownBy w' none:=⟨hb.os,hb.tape,hb.output,hb.size,fun k hk _=>hb.block k hk⟩
def ack{n:Nat}{T:TypeId}(hr:W.ownsRow n T z v m xs):∃a k c,v=sV a k c:=by
 rcases hr.2 with⟨rfl,_⟩|⟨g,cap,cur,rfl,_⟩
 ·exact⟨_,_,_,rfl⟩
 ·exact⟨_,_,_,rfl⟩
def Rc(P:List Nat->List (aF×Nat)):∀{ls:List (List Nat)} {s:List Nat},s∈ls->(P s).length<=(ls.flatMap fun s=>(P s).map (·.1)).length
 |y::ls,s,h=>by
  rw[rz,j0,Af];rcases cZ.1 h with rfl|h
  ·omega
  ·have:=Rc P h;omega
def YF(P:List Nat->List (aF×Nat))(i:Nat){ls:List (List Nat)}:((ls.take i).flatMap fun s=>(P s).map (·.1)).length<=(ls.flatMap fun s=>(P s).map (·.1)).length:=by
 have e:(ls.flatMap fun s=>(P s).map (·.1))=((ls.take i).flatMap fun s=>(P s).map (·.1))++((ls.drop i).flatMap fun s=>(P s).map (·.1)):=by rw[<-Qt,Rq]
 rw[e,j0];omega
def nt(l:List aF):List aF:=l.filter fun t=>t.k !=6
def RdI(N x:Nat)(L0:List aF)(ds:List Nat)(V:World)(pre:List (aF×Nat))(W:World):Prop:=
 (∃v xs,TkR (L0++nt (pre.map (·.1))) xs/\Boxed W x 84 v/\W.ownsRow N 187 4 v (L0++nt (pre.map (·.1))).length xs)/\K9 x V W/\Below N V W/\Marks N ds W/\V.heap.size<=W.heap.size
def aaT{L0:List aF}{ds:List Nat}(hN:N<=V.heap.size)(hd:∀D∈ds,D < V.heap.size):OwnFrom V.heap.size (RdI N x L0 ds V):=by
 rintro pre A B row ⟨⟨v,xs,h1,h2,h3⟩,hK,hB,hM,hs⟩ hg hr;obtain⟨v',h4,h5,e⟩:=holdsRow_own N x 84 187 4 (fun _:Unit=>(L0++nt (pre.map (·.1))).length) (fun _=>xs) (fun _ v'=>v'=v) () A B row ⟨v,h2,h3,rfl⟩ hg (fun r e=>(hr r e).2);have cR:∀b cs T fr,A.heap[b]?=some (.cells cs T fr)->some b≠row:=fun b cs T fr hA e=>by
  obtain⟨-,o,ho,hc⟩:=hr b e.symm;rw[hA] at ho;cases ho;cases hc
 refine⟨⟨v',xs,h1,h4,h5⟩,fun b cs T fr hV a1 a2 a3=>?_,ownFrom_below hN hN pre A B row hB hg hr,⟨hM.1,fun D hD=>⟨(hM.2 D hD).1,?_⟩⟩,cn hs hg.size⟩
 ·have hA:=hK b cs T fr hV a1 a2 a3;exact(hg.block b (aQ.1 (hA.trans hV)).1 (cR b cs T fr (hA.trans hV))).trans hA
 ·have h6:=(hM.2 D hD).2;exact(hg.block D (aQ.1 h6).1 (fun e=>by have:=(hr D e.symm).1;have:=hd D hD;omega)).trans h6
abbrev aoD(x:aF×Nat):Value:=.agg #[x.1.k,x.1.t,oZ,oZ,x.2,oZ]
def Qg(P:List Nat->List (aF×Nat))(ls:List (List Nat)):List aF:=ls.flatMap fun s=>(P s).map (·.1)
def aiS(n:Nat)(hn:4<=n)(F:Nat)(ls:List (List Nat))(P:List Nat->List (aF×Nat))(hP:∀s∈ls,bW s/\s.length<=1000000/\BR F 0 s=some (P s))(hk:∀s∈ls,∀x∈P s,x.1.k≠6)(hL6:(Qg P ls).length<=20000)(hl:ls.length<=1000000)(g cap:Nat)(w:World)(hE:Env w)(hg:∀k s,ls[k]?=some s->w.cell? ⟨g,k,none⟩=some (.string (bs s)))(de:∀g,prog.globalNamed "strings.asciiSpace"=some g->g < w.heap.size)(h1:1 < w.heap.size):CallsIn Fence.wide n prog 221 #[sV (some ⟨g,0,none⟩) ls.length cap,iV 1,.func (.func 223) #[] #[]] w fun e w'=>∃(v:Value) (xs:List Value),e=.returned (.tuple #[v,.agg #[iV 0,iV 0],oZ])/\TkR (Qg P ls) xs/\w'.ownsRow w.heap.size 187 4 v (Qg P ls).length xs/\Below w.heap.size w w':=by
 have Pm:1<=n:=ab;refine callsIn_of_wp_marks func221 rfl bw ?_ rfl;simp only[ntmps221,JG,dC,mc,Nat.reduceAdd,Nat.reduceSub,I1,I2,I3,I4,xR,qF];gi_wp2;obtain⟨N,hN⟩:∃N,N=w.heap.size:=⟨_,rfl⟩
 obtain⟨w1,N7⟩:∃w1,w1=(((((w.alloc (cO #[iV 1] 3)).alloc (cO #[.func (.func 223) #[] #[]] 114)).alloc (cO #[nS] 84)).alloc (cO #[oZ,oZ] 42)).alloc (cO #[oZ] 24)).alloc (cO #[nS] 84):=⟨_,rfl⟩
 have rG:w1.heap.size=N+1+1+1+1+1+1:=by rw[N7,hN];simp
 have b4:w1.heap[N]?=some (.cells #[iV 1] 3 (0,0)):=by rw[N7,hN];simp only[heap_alloc,dB];repeat (first|rw[aI bw]|rw[aI rfl]|rw[aE ab])
 have b5:w1.heap[N+1]?=some (.cells #[.func (.func 223) #[] #[]] 114 (0,0)):=by rw[N7,hN];simp only[heap_alloc,dB];repeat (first|rw[aI bw]|rw[aI rfl]|rw[aE ab])
 have b6:w1.heap[N+1+1]?=some (.cells #[nS] 84 (0,0)):=by rw[N7,hN];simp only[heap_alloc,dB];repeat (first|rw[aI bw]|rw[aI rfl]|rw[aE ab])
 have b7:w1.heap[N+1+1+1]?=some (.cells #[oZ,oZ] 42 (0,0)):=by rw[N7,hN];simp only[heap_alloc,dB];repeat (first|rw[aI bw]|rw[aI rfl]|rw[aE ab])
 have b8:w1.heap[N+1+1+1+1]?=some (.cells #[oZ] 24 (0,0)):=by rw[N7,hN];simp only[heap_alloc,dB];repeat (first|rw[aI bw]|rw[aI rfl]|rw[aE ab])
 have b9:Boxed w1 (N+1+1+1+1+1) 84 (sV none 0 0):=by unfold Boxed;rw[N7,hN];simp only[heap_alloc,World.size_alloc];first|rw[if_pos trivial]|rw[if_pos rfl]
 have PJ:Below N w w1:=by rw[N7,hN];exact((((((iG _ w).alloc (aM _) _).alloc ai _).alloc aH _).alloc aH _).alloc aH _).alloc aH _
 rw[<-N7,<-hN];rw[<-hN] at h1;have aqM:∀g,prog.globalNamed "strings.asciiSpace"=some g->g < N:=by rw[hN];exact de
 revert hP hk hE hg hN N7;refine LX ?_;intro hP hk hE hg hN N7;replace de:=ah aqM;refine wpIn_loop (fun a W=>∃(i:Nat) (ds:List Nat) (QQ QR u16 u17 u18 u19 u20 u21 u50:Value),i<=ls.length/\a={tmps:=#[.slice (some ⟨g,0,none⟩) ls.length cap,.int .i64 1,.func (.func 223) #[] #[],undef,.pointer (some ⟨N,0,none⟩),.pointer (some ⟨N+1,0,none⟩),.pointer (some ⟨N+1+1,0,none⟩),.pointer (some ⟨N+1+1+1,0,none⟩),.pointer (some ⟨N+1+1+1+1,0,none⟩),.pointer (some ⟨N+1+1+1+1+1,0,none⟩),QQ,QR,undef,.slice (some ⟨g,0,none⟩) ls.length cap,.int .i64 ls.length,.int .i64 i,u16,u17,u18,u19,u20,u21,undef,undef,undef,undef,undef,undef,undef,undef,undef,undef,undef,undef,undef,undef,undef,undef,undef,undef,undef,undef,undef,undef,undef,undef,undef,undef,undef,undef,u50,undef,undef],defers:=mkD ds}/\Hid (Below N w W)/\Hid (K9 (N+1+1+1+1+1) w1 W)/\Hid (w1.heap.size<=W.heap.size)/\(∃v xs,Hid (TkR (Qg P (ls.take i)) xs)/\Boxed W (N+1+1+1+1+1) 84 v/\W.ownsRow N 187 4 v (Qg P (ls.take i)).length xs)/\Hid (Marks N ds W)) (fun a _=>ls.length - (intOf (a.tmps.getD 15 undef)).toNat) ?_ ?_
 ·exact⟨0,[],_,_,_,_,_,_,_,_,_,dE _,rfl,PJ,fun _ _ _ _ _ _ _ _=>rfl,aM _,⟨_,[],by exact TkR.nil,b9,⟨rfl,.inl ⟨rfl,rfl⟩⟩⟩,by exact⟨List.nodup_nil,by simp⟩⟩
 rintro a W ⟨i,ds,QQ,QR,u16,u17,u18,u19,u20,u21,u50,hi,rfl,hB,hK,dM,⟨v,xs,tR,mf,aL⟩,hM⟩;by_cases bQ:i < ls.length
 ·obtain⟨s,hs⟩:∃s,ls[i]?=some s:=⟨_,ck bQ⟩
  have hsm:=cm hs;have hgi:=hg i s hs;have arQ:=(hB.cell (by rw[hN.out];exact cA w _ hgi)).trans hgi;have xY:(i:Int) < (ls.length:Int):=ab;have oL:(0:Int)<=(i:Int):=ab;replace hs:=ah hs;gi_wp2_with fail;refine⟨bw,(mA.2 (acj _ _)).mono ?_⟩;rintro e w2 ⟨rfl,rfl⟩;gi_wp2_with fail;obtain⟨V,hV⟩:∃V,V=(W.alloc (cO #[i] 3)).alloc (cO #[.string (bs s)] 9):=⟨_,rfl⟩
  have lD:V.heap.size=W.heap.size+1+1:=by rw[hV];simp
  have bV:V.heap[W.heap.size+1]?=some (.cells #[.string (bs s)] 9 (0,0)):=by rw[hV,heap_alloc,aI ai]
  have Pn:V.heap[W.heap.size]?=some (.cells #[i] 3 (0,0)):=by rw[hV,heap_alloc,aE ai,heap_alloc,aI rfl]
  have hWV:Below W.heap.size W V:=by rw[hV];exact((iG _ W).alloc (aM _) _).alloc ai _
  have hNW:N<=W.heap.size:=i7;have Ma:Below N w V:=hB.trans (hWV.mono hNW);have jl:K9 (N+1+1+1+1+1) w1 V:=fun b cs T fr h a1 a2 a3=>by
   have h4:=hK b cs T fr h a1 a2 a3;exact(hWV.block b (aQ.1 (h4.trans h)).1).trans h4
  have zp:Boxed V (N+1+1+1+1+1) 84 v:=(hWV.block _ mf.lt).trans mf;have hrV:V.ownsRow N 187 4 v (Qg P (ls.take i)).length xs:=by rw[hV];exact(aL.alloc _).alloc _
  have hMV:Marks N ds V:=⟨hM.1,fun D hD=>⟨(hM.2 D hD).1,(hWV.block D (aQ.1 (hM.2 D hD).2).1).trans (hM.2 D hD).2⟩⟩
  have hdV:∀D∈ds,D < V.heap.size:=fun D hD=>(aQ.1 (hMV.2 D hD).2).1;have hEV:Env V:=hE.below Ma de h1;obtain⟨hsS,hsl,Qb⟩:=hP.out s hsm;have alX:SeqStopsK Fence.wide (n - 1) prog 295 #[.pointer (some ⟨W.heap.size+1,0,none⟩)] alN (Kp N (N+1+1+1+1+1)) (fun ys=>ys=P s) (fun pre=>pre <+:P s) (P s).length V:=fun l J Jx W1 hW hJ hJx hY h0=>
   acd (n - 1) ab s hsS hsl F (P s) Qb l (W.heap.size+1) N J Jx (fun q A B hs hb=>hJ q A B none hs (Tt hb) (fun r e=>nomatch e))
    (fun pre x W2 hj ph=>by
     obtain⟨fn,tmps,asg,body,hy,hR⟩:=hY pre x W2 hj ph;refine⟨fn,tmps,asg,body,hy,hR.mono ?_⟩;rintro e W3 (⟨e1,e2,e3⟩|e1)
     ·exact .inl ⟨e1,e2,e3.1,e3.2.2⟩
     ·exact .inr e1)
    W1 (hEV.below hW GY ab) de h1 ((hW.block _ ab).trans bV) h0 (by have:=hW.size;omega)
  rw[<-hV];replace hV:=ah hV;refine wpIn_rangeFunc_ownH rfl Pm (gf:=295) (lb:=#[.pointer (some ⟨W.heap.size+1,0,none⟩)]) rfl bw (enters_of func295 af rfl) alX (fun h k=>Kp.trans h k) (Kp.put ab) (iG _ _) (fun _=>rfl)
   (RdI N (N+1+1+1+1+1) (Qg P (ls.take i)) ds V) (fun _ _ _=>False) (aaT ab hdV) (fun _ _ _ _ _ hs _ _=>hs) ⟨⟨v,xs,by simpa[nt] using tR.out,zp,by simpa[nt] using hrV⟩,fun _ _ _ _ _ _ _ _=>rfl,iG _ _,hMV,aM _⟩
   (fun x a' W'=>∃q,a'={tmps:=#[.slice (some ⟨g,0,none⟩) ls.length cap,.int .i64 1,.func (.func 223) #[] #[],undef,.pointer (some ⟨N,0,none⟩),.pointer (some ⟨N+1,0,none⟩),.pointer (some ⟨N+1+1,0,none⟩),.pointer (some ⟨N+1+1+1,0,none⟩),.pointer (some ⟨N+1+1+1+1,0,none⟩),.pointer (some ⟨N+1+1+1+1+1,0,none⟩),.pointer (some ⟨W,0,none⟩),.string (bs s),.pointer (some ⟨q,0,none⟩),.slice (some ⟨g,0,none⟩) ls.length cap,.int .i64 ls.length,.int .i64 i,.bool true,.int .i64 i,.pointer (some ⟨g,i,none⟩),.string (bs s),.string (bs s),.func (.func 295) #[] #[.pointer (some ⟨W.heap.size+1,0,none⟩)],aoD x,undef,undef,undef,undef,undef,undef,undef,undef,undef,undef,undef,undef,undef,undef,undef,undef,undef,undef,undef,undef,undef,undef,undef,undef,undef,undef,undef,u50,undef,undef],defers:=[]}/\V.heap.size<=q/\W'.heap[q]?=some (.cells #[.int .i64 x.1.k,.string (bs x.1.t),oZ,oZ,.int .i64 x.2,oZ] 300 (0,0))) ?ax ?assign ?body ?done ?stop
  case ax=>rintro x a' _ A B row ⟨q,e1,e2,e3⟩ hg hr;refine⟨q,e1,e2,(hg.block q (aQ.1 e3).1 fun e=>?_).trans e3⟩;obtain⟨-,o,ho,hc⟩:=hr q e.symm;rw[e3] at ho;cases ho;cases hc
  case assign=>intro l pre x W' K hI H0;gi_wp2;obtain⟨⟨v',XD,h2,h3,h4⟩,h5,h6,h7,h8⟩:=hI;exact H0 _ _ ((KeepsOthers.alloc W' _).from _) (Kp.of ((iG N W').alloc ab _) (fun b cs T fr hA _ _=>jm W' _ _ (aQ.1 hA).1) (fun cs T fr hA=>by rw[h3] at hA;cases hA;rfl)) ((aaT ab hdV).alloc _ ⟨⟨v',XD,h2,h3,h4⟩,h5,h6,h7,h8⟩) ⟨_,rfl,h8,by rw[heap_alloc,aI rfl]⟩
  case body=>
   rintro l pre x a' W' hl - ⟨⟨v',XD,h2,h3,h4⟩,H0,hB',hM',hs'⟩ ⟨q,rfl,hq,T7⟩ hpl;have Cm:W'.heap[N]?=some (.cells #[iV 1] 3 (0,0)):=(H0 _ _ _ _ ((jl _ _ _ _ b4 ab aj aj).trans b4) ab aj aj).trans ((jl _ _ _ _ b4 ab aj aj).trans b4);have jV:W'.heap[N+1]?=some (.cells #[.func (.func 223) #[] #[]] 114 (0,0)):=(H0 _ _ _ _ ((jl _ _ _ _ b5 ab aj aj).trans b5) ab aj aj).trans ((jl _ _ _ _ b5 ab aj aj).trans b5);have alY:W'.heap[W.heap.size]?=some (.cells #[i] 3 (0,0)):=(H0 _ _ _ _ Pn i7 aj aj).trans Pn;have c4:=aC Cm 0;have c5:=aC jV 0;have jI:=aC alY 0;have q1:=aC T7 4;have q2:=aC T7 5;have q3:=al T7;have q5:=aC T7 2;have q6:=aC T7 3;have e7:(W'.setCell ⟨q,2,none⟩ (iV (1+i))).frozen? ⟨q,3,none⟩=false:=al (heap_setCell_same _ _ 2 _ T7) 3;have e8:=bc (W:=W'.setCell ⟨q,2,none⟩ (iV (1+i))) (bx:=q) (heap_setCell_same _ _ 2 _ T7) 3;have hUq:=heap_setCell_same _ _ 3 (iV (wrap64 (1+x.2))) (heap_setCell_same _ _ 2 (iV (1+i)) T7);have hUo:∀b,b≠q->((W'.setCell ⟨q,2,none⟩ (iV (1+i))).setCell ⟨q,3,none⟩ (iV (wrap64 (1+x.2)))).heap[b]?=W'.heap[b]?:=fun b hb=>by rw[ll _ _ _ _ (fun e=>hb e),ll _ _ _ _ (fun e=>hb e)]
   obtain⟨z0,z1,z2,z3,-,z5,-⟩:=cc hUq;have u5:=bc ((hUo (N+1) ab).trans jV) 0;have hXq:N+1+1+1+1+1≠q:=fun e=>by rw[<-e,h3] at T7;cases T7
   have u9:Boxed ((W'.setCell ⟨q,2,none⟩ (iV (1+i))).setCell ⟨q,3,none⟩ (iV (wrap64 (1+x.2)))) (N+1+1+1+1+1) 84 v':=(hUo _ hXq).trans h3;have u4:=zP (j:=3) (u:=iV (wrap64 (1+x.2))) (zP (j:=2) (u:=iV (1+i)) h4 T7 aj) (heap_setCell_same _ _ 2 (iV (1+i)) T7) aj;have u9c:=u9.cell;have arR:=T7;have h30:=ah h3;revert h3 h4 T7 Cm jV alY hUq hUo u9 u4;refine zQ ?_;intro h3 h4 T7 Cm jV alY hUq hUo u9 u4;obtain⟨U,hU⟩:∃U,U=(W'.setCell ⟨q,2,none⟩ (iV (1+i))).setCell ⟨q,3,none⟩ (iV (wrap64 (1+x.2))):=⟨_,rfl⟩
   have hKU:K9 (N+1+1+1+1+1) W' U:=fun b cs T fr hA _ _ a3=>by
    rw[hU];exact hUo b fun e=>by subst e;rw[T7.out] at hA;cases hA;exact a3 rfl
   have aqN:Kt W' U:=by
    refine⟨fun b cs fr hA=>?_,fun b cs fr hA=>by rw[hU];exact hUo b fun e=>by subst e;rw[T7.out] at hA;cases hA⟩;by_cases e:b=q
    ·subst e;rw[T7.out] at hA;cases hA;rw[hU];exact⟨_,hUq.out,rfl⟩
    ·rw[hU];exact⟨cs,(hUo b e).trans hA,rfl⟩
   have hBU:Below N W' U:=by rw[hU];exact((iG N W').setCell (p:=⟨q,2,none⟩) (by show N<=q;omega) _).setCell (p:=⟨q,3,none⟩) (by show N<=q;omega) _
   have hoU:KeepsOthers W' U:=by rw[hU];exact(KeepsOthers.setCell _ _ _).trans (KeepsOthers.setCell _ _ _)
   have Ul:Hid (Kp N (N+1+1+1+1+1) W' U):=ah ⟨hBU,hKU,aqN⟩;have hMU:Hid (Marks N ds U):=ah ⟨hM'.1,fun D hD=>⟨(hM'.2 D hD).1,hoU.same D _ (hM'.2 D hD).2 rfl⟩⟩;have hsU:Hid (V.heap.size<=U.heap.size):=ah (cn hs' hoU.size);have aoE:Hid (Below N V U):=ah (hB'.trans hBU);have aoF:Hid (K9 (N+1+1+1+1+1) V U):=ah (K9.trans H0 hKU);replace hoU:=ah hoU;replace hU:=ah hU;by_cases hk6:x.1.k=6
   ·rw[hk6] at z0;gi_wp2_with fail;refine⟨bw,fun _=>by omega,(mA.2 (aiR _)).mono ?_⟩;rintro e w3 ⟨rfl,rfl⟩;rw[<-hU.out] at z0 z1 z2 z3 z5 u5 u9 u4 u9c ⊢;gi_wp2_with fail;have e6:nt ((pre++[x]).map (·.1))=nt (pre.map (·.1)):=by simp[nt,hk6]
    exact⟨hoU.from _,Ul,⟨v',XD,by rw[e6];exact h2,u9,by rw[e6];exact u4⟩,aoF,aoE,hMU,hsU⟩
   ·have hk7:(x.1.k:Int)≠6:=by omega
    gi_wp2_with fail;refine⟨bw,fun _=>by omega,(mA.2 (alW _ hk7 _)).mono ?_⟩;rintro e w3 ⟨rfl,rfl⟩;rw[<-hU.out] at z0 z1 z2 z3 z5 u5 u9 u4 u9c ⊢;have hkb:(Qg P (ls.take i)++nt (pre.map (·.1))).length<=100000:=by
     have a1:(nt (pre.map (·.1))).length<=pre.length:=by unfold nt;exact Nat.le_trans (List.length_filter_le _ _) ai
     have a2:(P s).length<=(Qg P ls).length:=Rc P hsm;have a3:(Qg P (ls.take i)).length<=(Qg P ls).length:=YF P i;rw[j0];omega
    have hNU:N<=U.heap.size:=by have:=hsU.out;omega
    obtain⟨KL,sc⟩:∃m,(Qg P (ls.take i)++nt (pre.map (·.1))).length=m:=⟨_,rfl⟩
    rw[sc] at u4 hkb;replace sc:=ah sc;obtain⟨i0,hi0,A6,ey,oY⟩:=dN Te;have hnc:∀j u,[Value.int .i64 x.1.k,Value.string (bs x.1.t),Value.int .i64 (1+i),Value.int .i64 (wrap64 (1+x.2))][j]?=some u->(U.alloc (cO #[iV x.1.k,.string (bs x.1.t),iV (1+i),iV (wrap64 (1+x.2))] 187)).cell? ((⟨U,0,none⟩:Addr).add j)=some u:=fun j u hj=>by
     have hb:(U.alloc (cO #[iV x.1.k,.string (bs x.1.t),iV (1+i),iV (wrap64 (1+x.2))] 187)).heap[U.heap.size]?=some (.cells #[iV x.1.k,.string (bs x.1.t),iV (1+i),iV (wrap64 (1+x.2))] 187 (0,0)):=ao;have:=aC hb (0+j);rw[MP,this,fi];simpa using hj
    gi_wp2_with (gi_at_builtin;refine Xd _ rfl _ _ 84 rfl N 187 i0 _ 4 40 underlying84 hi0 A6 ey oY rfl aj _ _ _ rfl (u4.alloc _) ⟨U,0,none⟩ 1 1 [iV x.1.k,.string (bs x.1.t),iV (1+i),iV (wrap64 (1+x.2))] rfl rfl hnc qj iZ ab aH ?_;intro v2 w2 nE qN _;obtain⟨g',xV,rfl⟩:=ownsRow_succ nE;obtain⟨LH,jo,Qx,jF,jy⟩:=u9.out.appended aj u4.out hNU ab nE qN;have hc1:=LH.cell;have hf1:=LH.frozen);have e6:nt ((pre++[x]).map (·.1))=nt (pre.map (·.1))++[x.1]:=by simp[nt,hk6]
    have hKf:Kp N (N+1+1+1+1+1) U (w2.setCell ⟨N+1+1+1+1+1,0,none⟩ (sV (some ⟨g',0,none⟩) (KL+1) xV)):=Kp.of jy (fun b cs T fr hA a1 a2=>by
     have hbl:=(aQ.1 hA).1;rw[ll _ _ _ _ a1,qN.block b aH (fun e=>?_),jm _ _ _ hbl];replace e:v'.ownBlock=some b:=e.symm;rcases u4.out.2 with⟨rfl,_⟩|⟨gg,cap,cur,rfl,_,WC,_⟩
     ·cases e
     ·obtain rfl:gg=b:=by simpa[Value.ownBlock] using e
      rw[hA] at WC;cases WC;exact a2 rfl) (fun cs T fr hA=>by rw[u9.out] at hA;cases hA;rfl)
    refine⟨(hoU.trans jF).from _,Ul.trans hKf,⟨_,XD++[.int .i64 x.1.k,.string (bs x.1.t),.int .i64 (1+i),.int .i64 (wrap64 (1+x.2))],?_,jo,?_⟩,aoF.trans hKf.2.1,aoE.trans jy,⟨hMU.1,fun D hD=>⟨(hMU.2 D hD).1,jF.same D _ (hMU.2 D hD).2 rfl⟩⟩,cn hsU jF.size⟩
    ·rw[e6,<-I5];exact TkR.snoc x.1 _ _ h2
    ·rw[e6,<-I5,j0,sc.out];exact Qx
  case done=>
   rintro D ys W' hD rfl ⟨⟨v',XD,h2,h3,h4⟩,H0,hB',hM',hs'⟩ hDd;have hD3:D∉ds:=fun h=>by have:=hdV D h;omega
   gi_wp2_with fail;have hsq:=hs.out;have e:ls.take (i+1)=ls.take i++[s]:=by rw[wZ,hsq];rfl
   have hnt:nt ((P s).map (·.1))=(P s).map (·.1):=List.filter_eq_self.2 fun t ht=>by
    obtain⟨y,hy,rfl⟩:=dO.1 ht;have:=hk s hsm y hy;simpa using this
   have e2:Qg P (ls.take (i+1))=Qg P (ls.take i)++(P s).map (·.1):=by rw[e];simp[Qg]
   refine⟨⟨i+1,D::ds,_,_,_,_,_,_,_,_,_,by omega,rfl,Ma.trans hB',jl.trans H0,ah i7,⟨v',XD,by rw[e2,<-hnt];exact h2,h3,by rw[e2,<-hnt];exact h4⟩,⟨M2.2 ⟨hD3,hM'.1⟩,fun D' h=>?_⟩⟩,?_⟩
   ·rcases cZ.1 h with rfl|h
    ·exact⟨by omega,hDd⟩
    ·exact hM'.2 D' h
   ·simp[intOf];omega
  case stop=>rintro D c pre W' _ _ h _;exact h.elim
 ·have xY:¬(i:Int) < (ls.length:Int):=by omega
  have hil:ls.take i=ls:=oh ab;rw[hil] at tR aL;obtain⟨va,vm,vc,rfl⟩:=ack aL;have k6:=(hK _ _ _ _ b6 ab aj aj).trans b6;have k7:=(hK _ _ _ _ b7 ab aj aj).trans b7;have k8:=(hK _ _ _ _ b8 ab aj aj).trans b8;have c9:=mf.cell;have c6:=aC k6 0;have c70:=aC k7 0;have c71:=aC k7 1;have c8:=aC k8 0;have f6:=al k6 0;have f70:=al k7;have f8:=al k8 0;revert mf aL k6 k7 k8;refine nx ?_;intro mf aL k6 k7 k8;gi_wp2_with fail;refine IF (N:=N) (fun W'=>W'.heap[N+1+1]?=some (.cells #[sV va vm vc] 84 (0,0))/\W'.heap[N+1+1+1]?=some (.cells #[oZ,oZ] 42 (0,0))/\W'.heap[N+1+1+1+1]?=some (.cells #[oZ] 24 (0,0))/\W'.ownsRow N 187 4 (sV va vm vc) (Qg P ls).length xs/\Below N w W') ?_ ?_ ds _ ?_ ?_
  ·rintro W' l o o' ⟨k1,k2,k3,k4,k5⟩ hl ho hc;have cR:∀(b:Nat) (cs:Array Value) (T:TypeId) (fr:Nat×Nat),W'.heap[b]?=some (.cells cs T fr)->(W'.putObj l o').heap[b]?=W'.heap[b]?:=fun b cs T fr hA=>(M3 W' l o').block b (aQ.1 hA).1 fun e=>by
    have e:=j6 e;subst e;rw[hA] at ho;cases ho;cases hc
   exact⟨(cR _ _ _ _ k1).trans k1,(cR _ _ _ _ k2).trans k2,(cR _ _ _ _ k3).trans k3,ownsRow_putObj k4 o' ho hc,k5.trans (by have hg:=M3 W' l o';exact⟨hg.os,hg.tape,hg.output,hg.size,fun k hk=>hg.block k (by have:=(aQ.1 ho).1;omega) (fun e=>by have:=j6 e;omega)⟩)⟩
  ·rintro W' ⟨k1,k2,k3,k4,k5⟩;have z1:=aC k1 0;have z2:=aC k2 0;have z3:=aC k2 1;have z4:=aC k3 0;exact⟨_,by simp[results,results221,go_sem,z1,z2,z3,z4],_,rfl,_,tR,hN.out▸k4,hN.out▸k5⟩
  ·refine⟨hM.1,fun D hD=>⟨(hM.2 D hD).1,?_⟩⟩;have hd:=(hM.2 D hD).2;rw[Below.heap_setCell _ _ _ _ (fun e=>by dsimp only at e;subst e;rw[k8.out] at hd;cases hd),Below.heap_setCell _ _ _ _ AF,Below.heap_setCell _ _ _ _ AF,Below.heap_setCell _ _ _ _ (fun e=>by dsimp only at e;subst e;rw[k6.out] at hd;cases hd)];exact hd
  ·have s7:(W.setCell ⟨N+1+1,0,none⟩ (sV va vm vc)).heap[N+1+1+1]?=some (.cells #[oZ,oZ] 42 (0,0)):=(ll _ _ _ _ gR).trans k7;have s7b:=heap_setCell_same _ _ 0 (iV 0) s7;have s7c:=heap_setCell_same _ _ 1 (iV 0) s7b;have s8:(((W.setCell ⟨N+1+1,0,none⟩ (sV va vm vc)).setCell ⟨N+1+1+1,0,none⟩ (iV 0)).setCell ⟨N+1+1+1,1,none⟩ (iV 0)).heap[N+1+1+1+1]?=some (.cells #[oZ] 24 (0,0)):=by rw[ll _ _ _ _ gR,ll _ _ _ _ gR,ll _ _ _ _ gR];exact k8
   refine⟨?_,(ll _ _ _ _ gR).trans s7c,heap_setCell_same _ _ 0 (iV 0) s8,zP (zP (zP (zP aL k6 aj) s7 aj) s7b aj) s8 aj,?_⟩
   ·rw[ll _ _ _ _ gR,ll _ _ _ _ gR,ll _ _ _ _ gR];exact heap_setCell_same _ _ 0 (sV va vm vc) k6
   ·exact(((hB.setCell (p:=⟨N+1+1,0,none⟩) (by show N<=N+1+1;omega) _).setCell (p:=⟨N+1+1+1,0,none⟩) HI _).setCell (p:=⟨N+1+1+1,1,none⟩) HI _).setCell (p:=⟨N+1+1+1+1,0,none⟩) (by show N<=N+1+1+1+1;omega) _
def QC(ls:List (List Nat)):List Nat:=ls.flatMap (· ++[10])
def OY:∀(l r:List UInt8),(∀c∈l,c≠10)->Lib.index (l++10::r) [10]=(l.length:Int)
 |[],r,_=>by
  show Lib.index (10::r) [10]=0;rw[Lib.index];simp[List.isPrefixOf]
 |b::l,r,h=>by
  have ih:=OY l r fun c hc=>h c (eC _ hc);have hb:=h b ai;show Lib.index (b::(l++10::r)) [10]=_;rw[Lib.index];have hp:([10]:List UInt8).isPrefixOf (b::(l++10::r))=false:=by simp[List.isPrefixOf,Pr hb]
  rw[hp,aE ai,ih,aE ai];simp
def LP:∀(ls:List (List UInt8)),(∀l∈ls,∀c∈l,c≠10)->Lib.splitK [10] 0 (Lib.count (ls.flatMap (· ++[10])) [10]) (ls.flatMap (· ++[10]))=ls++[[]]
 |[],_=>by rw[Lib.count_one];rfl
 |l::ls,h=>by
  have ih:=LP ls fun x hx=>h x (eC _ hx);have e:(l::ls).flatMap (· ++[10])=l++10::ls.flatMap (· ++[10]):=ai;have h0:l.count 10=0:=List.count_eq_zero.2 fun hm=>h l ai 10 hm rfl;have ec:Lib.count (l++10::ls.flatMap (· ++[10])) [10]=Lib.count (ls.flatMap (· ++[10])) [10]+1:=by rw[Lib.count_one,Lib.count_one,List.count_append,h0];simp
  have hi:=OY l (ls.flatMap (· ++[10])) (h l ai);rw[e,ec,Lib.splitK,hi,aE ai];have e2:(l++10::ls.flatMap (· ++[10])).drop (((l.length:Int)).toNat+([10]:List UInt8).length)=ls.flatMap (· ++[10]):=by simp[List.drop_append]
  rw[e2,ih];simp
def Tu(s:List Nat):(bs s).data.toList=s.map UInt8.ofNat:=by simp[bs]
def Tv(ls:List (List Nat))(h:∀l∈ls,bW l/\10∉l):Lib.splitB mz 0 (Lib.countB (bs (QC ls)) mz) (bs (QC ls))=(ls++[[]]).map bs:=by
 have aqO:∀{a b:List ByteArray},a.map (·.data.toList)=b.map (·.data.toList)->a=b:=by intro a b hab;refine List.map_inj_right (f:=fun x:ByteArray=>x.data.toList) (fun x y hxy=>?_) |>.1 hab;obtain⟨⟨x⟩⟩:=x;obtain⟨⟨y⟩⟩:=y;simpa using hxy
 apply aqO
 rw[Lib.splitB_data];have e:(bs (QC ls)).data.toList=(ls.map (·.map UInt8.ofNat)).flatMap (· ++[10]):=by
  rw[Tu];unfold QC;induction ls with
  |nil=>rfl
  |cons l ls ih=>have:=ih fun x hx=>h x (eC _ hx);simp only[rz,MM,lp] at this ⊢;rw[this];rfl
 show Lib.splitK [10] 0 (Lib.count (bs (QC ls)).data.toList [10]) (bs (QC ls)).data.toList=_;rw[e,LP _ (fun l hl c hc zv=>?_)]
 ·simp[MM,Tu,Function.comp_def]
 ·obtain⟨x,hx,rfl⟩:=dO.1 hl;obtain⟨d,hd,rfl⟩:=dO.1 hc;have h1:=(h x hx).1 d hd;have:d=10:=by have:=gq UInt8.toNat zv;simp at this;omega
  exact(h x hx).2 (this▸hd)
def aiT{n:Nat}{T:TypeId}(hr:W.ownsRow n T z v m xs):∃a c,v=sV a m c:=by
 rcases hr.2 with⟨rfl,rfl⟩|⟨g,cap,cur,rfl,_⟩
 ·exact⟨_,_,rfl⟩
 ·exact⟨_,_,rfl⟩
def Env.lts{w:World}(h:Env w):(∀g,prog.globalNamed "strings.asciiSpace"=some g->g < w.heap.size)/\1 < w.heap.size:=by
 obtain⟨m,hm⟩:=h.m1;refine⟨fun g hg=>?_,cA w _ hm⟩;have ht:=h.tab;unfold Lib.TabIs World.var? at ht;rw[hg] at ht;simp only[Ae] at ht;by_cases bQ:g < w.heap.size
 ·exact bQ
 ·rw[Array.getElem?_eq_none ab] at ht
  cases ht
def Tw(L:List aF)(w:World)(e:Ending)(w':World):Prop:=∃(v:Value) (xs:List Value),e=.returned (.tuple #[v,.agg #[iV 0,iV 0],oZ])/\TkR L xs/\w'.ownsRow w.heap.size 187 4 v L.length xs/\Below w.heap.size w w'/\w.heap.size < w'.heap.size
def V2(F:Nat)(ls:List (List Nat))(P:List Nat->List (aF×Nat))(hP:∀s∈ls++[[]],bW s/\s.length<=1000000/\BR F 0 s=some (P s))(hk:∀s∈ls++[[]],∀x∈P s,x.1.k≠6)(sG:∀l∈ls,bW l/\10∉l)(hL6:(Qg P (ls++[[]])).length<=6000)(hl:ls.length<=20000)(hs:(QC ls).length<=20000)(w:World)(hE:Env w):Calls prog 164 #[(QC ls)] w (Tw (Qg P (ls++[[]])) w):=by
 have hz:=dp (QC ls);obtain⟨m,hm⟩:=hE.m1;have h1:¬(20000:Int) < ((QC ls).length:Int):=ab;obtain⟨de,PE⟩:=hE.lts;have hsp:=Tv ls sG;have hlen:Lib.countB (bs (QC ls)) mz+1=(ls++[[]]).length:=by have:=gq List.length hsp;rw[Lib.splitB_all mz aj 0 _ _ rfl] at this;simpa using this
 obtain⟨LS,hLS⟩:∃LS,LS=ls++[[]]:=⟨_,rfl⟩
 have hll:LS.length<=1000000:=by rw[hLS];simp;omega
 rw[<-hLS] at hP hk hL6 hsp hlen ⊢;replace hLS:=ah hLS;obtain⟨L,hL⟩:∃L,L=Qg P LS:=⟨_,rfl⟩
 rw[<-hL] at hL6 ⊢;have j8:Below w.heap.size w (w.alloc (cO #[oZ,oZ] 42)):=(iG _ w).alloc (aM _) _;have alZ:=ah (Tryz.strings_Split (bs (QC ls)) mz m (w.alloc (cO #[oZ,oZ] 42)) ab ((j8.cell (p:=⟨1,0,none⟩) PE).trans hm) aj);obtain⟨V,hV⟩:∃V,V=(w.alloc (cO #[oZ,oZ] 42)).alloc (.cells ((LS.map bs).map Value.string).toArray 9):=⟨_,rfl⟩
 have Ma:Below w.heap.size w V:=by rw[hV];exact j8.alloc ai _
 have lD:V.heap.size=w.heap.size+1+1:=by rw[hV];simp
 have hVb:V.heap[w.heap.size+1]?=some (.cells ((LS.map bs).map Value.string).toArray 9 (0,0)):=by rw[hV,heap_alloc,aI ai]
 have hV0:V.heap[w.heap.size]?=some (.cells #[oZ,oZ] 42 (0,0)):=by rw[hV,heap_alloc,aE ai,heap_alloc,aI rfl]
 have hEV:Env V:=hE.below Ma de PE;have hrd:=ah ((mA (n:=5)).1 (aiS 5 ab F LS P hP hk (by rw[<-hL];omega) hll (w.heap.size+1) LS.length V hEV (fun k s hs=>by
  rw[aC hVb k,Xe,qC,qC,hs];rfl) GY ab))
 revert hlen hsp hL hV;refine jU ?_;intro hlen hsp hL hV;go_enter func164,ntmps164;go_wp2_with fail;refine alZ.mono ?_;rintro e w1 ⟨rfl,rfl⟩;rw[hsp.out,hlen.out,<-hV.out];go_wp2_with fail;refine hrd.mono ?_;rintro e w2 ⟨v,xs,rfl,tR,aL,Jd⟩;rw[<-hL.out] at tR aL;obtain⟨a,c,rfl⟩:=aiT aL;have b0:w2.heap[w.heap.size]?=some (.cells #[oZ,oZ] 42 (0,0)):=(Jd.block _ ab).trans hV0;have Mp:Below w.heap.size w w2:=Ma.trans (Jd.mono ab);have h6:¬(6000:Int) < (L.length:Int):=ab;revert aL b0;refine ct ?_;intro aL b0;go_wp2_with fail;have lL:Hid ((w2.alloc (cO #[oZ,oZ] 42)).drew.heap[w2.heap.size]?=some (.cells #[oZ,oZ] 42 (0,0))):=ah (show(w2.alloc (cO #[oZ,oZ] 42)).heap[w2.heap.size]?=_ by rw[heap_alloc,aI rfl]);have nB:Hid ((w2.alloc (cO #[oZ,oZ] 42)).drew.heap[w.heap.size]?=some (.cells #[oZ,oZ] 42 (0,0))):=ah (show(w2.alloc (cO #[oZ,oZ] 42)).heap[w.heap.size]?=_ from(jm w2 _ _ (aQ.1 b0).1).trans b0);have xB:=ah (aQ.1 b0.out).1;refine jB 5 [(0,0),(1,0),(2,0),(3,0),(4,1),(5,2)] (fun V=>V.heap[w2.heap.size]?=some (.cells #[oZ,oZ] 42 (0,0))) af af (fun _ _ _ _ _ h=>h) lL ?_;iterate 4 ((first|refine Q8 ?_|(refine Q7 (v:=?_) ?_ (fun V s=>?_);rotate_right; · (have d0:=aC s 0;have d1:=aC s 1;go_simp);with_reducible rfl));try simp only[Act.put,ma,mb,lj])
 refine afI (fun K hK=>?_);refine stw (x:=.tmp 3) (y:=.tmp 28) (hx:=rfl) (hy:=rfl) nB ?_;refine hK _ _ ((setRow_other _ _ _ _ (by have:=xB.out;omega)).trans lL) ?_;refine sp ?_;refine qM (fun K hK=>?_);go_simp;refine hK _ _ ?_;refine sp ?_;refine NT ?_;have hbf:=lz _ _ _ #[oZ,oZ] _ _ nB;have r0:=aC hbf 0;have r1:=aC hbf 1;go_wp2_with fail;refine bG (v:=.tuple #[sV a L.length c,.agg #[iV 0,iV 0],oZ]) (by simp[results,results164,go_sem,r0,r1]) rfl ?_;have aoG:((w2.alloc (cO #[oZ,oZ] 42)).drew.setRow w.heap.size #[oZ,oZ]).ownsRow w.heap.size 187 4 (sV a L.length c) L.length xs:=by
  obtain⟨h1,h2⟩:=aL.out;refine⟨h1,?_⟩;rcases h2 with h2|⟨g,cap,cur,e,hg,hgb,h3,h4,h5,h6⟩
  ·exact .inl h2
  ·refine .inr ⟨g,cap,cur,e,by omega,?_,h3,h4,h5,h6⟩;rw[setRow_other _ _ _ _ ab];exact(jm w2 _ _ (aQ.1 hgb).1).trans hgb
 refine⟨_,xs,rfl,tR,aoG,?_,(aQ.1 hbf).1⟩;have Xu:Below w.heap.size w (w2.alloc (cO #[oZ,oZ] 42)):=Mp.alloc (by have:=xB.out;omega) _;have hk:=fH (w2.alloc (cO #[oZ,oZ] 42)).drew w.heap.size #[oZ,oZ];exact Xu.trans ⟨hk.os,hk.tape.trans rfl,hk.output,hk.size,fun k A8=>by
  rw[setRow_other _ _ _ _ ab];rfl⟩
def wU{w:World}(h:Below w.heap.size w w'):Kept aK w w':=⟨h.os,h.tape,h.output,h.size,fun k hk _=>h.block k hk⟩
def Tw.lex{w:World}{e:Ending}(h:Tw L w e w'):Ir L w e w':=by
 obtain⟨v,xs,rfl,tR,aL,hB,bQ⟩:=h;obtain⟨h1,⟨rfl,h0⟩|⟨g,cap,cur,rfl,hg,hgb,h3,h4,h5,h6⟩⟩:=aL
 ·exact⟨w.heap.size,none,0,0,0,fun e=>absurd h0 e,by rw[h0],fun k t hk=>by rw[JK h0] at hk;simp at hk,aM _,bQ,wU hB⟩
 ·refine⟨g,_,cap,0,0,fun _=>rfl,rfl,fun k t hk=>?_,hg,(aQ.1 hgb).1,wU hB⟩;have Am:=(dk.1 hk).1;obtain⟨a,b,e1,e2,e3,e4⟩:=tR.get k t hk;have hc:∀j,j < 4->w'.cell? ⟨g,0+k*4+j,none⟩=xs[k*4+j]?:=fun j hj=>by
   rw[aC hgb,fi,<-h6,B3,aI ab,Qu]
  have c0:=hc 0 ab;have c1:=hc 1 ab;have c2:=hc 2 ab;have c3:=hc 3 ab;exact⟨c0.trans e1,c1.trans e2,a,b,c2.trans e3,c3.trans e4⟩
def YG(h:shape s=some k):k<=5:=by unfold shape at h;exact Ki
def aiU{y:List Nat}(h:okW y=true)(e:(tk y).k=6):False:=by
 have h1:(shape y).isSome=true:=by unfold okW at h;simp only[Bool.and_eq_true] at h;exact h.1.1
 obtain⟨k,hk⟩:=Rr.1 h1;have:=YG hk;unfold tk at e;rw[hk] at e;simp at e;omega
def afT(WU:List (List (List Nat)))(hw:∀ws∈WU,∀x∈ws,okW x=true)(hb:∀ws∈WU,bW (cf ws)/\10∉cf ws/\(cf ws).length<=20000/\ws.length<=3000)(hL:(WU.flatMap fun ws=>ws.map tk).length<=6000)(hl:WU.length<=20000)(hs:(QC (WU.map cf)).length<=20000)(w:World)(hE:Env w):Calls prog 164 #[(QC (WU.map cf))] w (Tw (WU.flatMap fun ws=>ws.map tk) w):=by
 have hex:∀s∈WU.map cf++[[]],∃ps,BR 6000 0 s=some ps/\∀ws,s=cf ws->(ws∈WU∨ws=[])->ps.map (·.1)=ws.map tk:=by
  intro s hs
  cases hp:BR 6000 0 s with
  |none=>
   exfalso
   rcases oU.1 hs with h|h
   ·obtain⟨ws,xD,rfl⟩:=dO.1 h;obtain⟨ps,e,-⟩:=Tq ws (hw ws xD) 6000 0 (by have:=(hb ws xD).2.2.2;omega);rw[hp] at e;cases e
   ·simp at h;subst h;cases hp
  |some ps=>
   refine⟨ps,rfl,fun ws e h=>?_⟩;subst e;have h2:∀x∈ws,okW x=true:=by rcases h with h|rfl;exact hw ws h;simp
   have h3:2*ws.length<=6000:=by rcases h with h|rfl;(have:=(hb ws h).2.2.2;omega);simp
   obtain⟨ps',e2,e3⟩:=Tq ws h2 6000 0 h3;rw[hp] at e2;cases e2;exact e3
 have hP:∀s∈WU.map cf++[[]],BR 6000 0 s=some ((BR 6000 0 s).getD []):=fun s hs=>by
  obtain⟨ps,e,-⟩:=hex s hs;rw[e];rfl
 have hPm:∀ws∈WU,((BR 6000 0 (cf ws)).getD []).map (·.1)=ws.map tk:=fun ws xD=>by
  obtain⟨ps,e,h⟩:=hex (cf ws) (List.mem_append_left _ (dO.2 ⟨ws,xD,rfl⟩));rw[e];exact h ws rfl (.inl xD)
 have hT:Qg (fun s=>(BR 6000 0 s).getD []) (WU.map cf++[[]])=WU.flatMap fun ws=>ws.map tk:=by
  unfold Qg;rw[Qt];have e:([[]]:List (List Nat)).flatMap (fun s=>((BR 6000 0 s).getD []).map (·.1))=[]:=rfl;rw[e,gp];clear hex hP hL hl hs;induction WU with
  |nil=>rfl
  |cons ws WU ih=>rw[lp,rz,rz,hPm ws ai,ih (fun x hx=>hw x (eC _ hx)) (fun x hx=>hb x (eC _ hx)) (fun x hx=>hPm x (eC _ hx))]
 have h:=V2 6000 (WU.map cf) (fun s=>(BR 6000 0 s).getD []) (fun s hs=>⟨?_,?_,hP s hs⟩) (fun s hs x hx e6=>?_) (fun l hl=>?_) (by rw[hT];exact hL) na hs w hE
 ·rw[hT] at h;exact h
 ·rcases oU.1 hs with h|h
  ·obtain⟨ws,xD,rfl⟩:=dO.1 h;exact(hb ws xD).1
  ·simp at h;subst h;intro c hc;cases hc
 ·rcases oU.1 hs with h|h
  ·obtain⟨ws,xD,rfl⟩:=dO.1 h;have:=(hb ws xD).2.2.1;omega
  ·simp at h;subst h;simp
 ·rcases oU.1 hs with h|h
  ·obtain⟨ws,xD,rfl⟩:=dO.1 h;have h1:x.1∈ws.map tk:=by rw[<-hPm ws xD];exact dO.2 ⟨x,hx,rfl⟩
   obtain⟨y,hy,e⟩:=dO.1 h1;have h2:=hw ws xD y hy;rw[<-e] at e6;exact aiU h2 e6
  ·simp at h;subst h;cases hx
 ·obtain⟨ws,xD,rfl⟩:=dO.1 hl;exact⟨(hb ws xD).1,(hb ws xD).2.1⟩
def amq(n:Int):List (List Nat):=if n < 0 then[tx "-",tb 20 (-n).toNat] else[tb 20 n.toNat]
def aqY(n:Int):Row:=if n < 0 then ex 8 "-" 0 [ex 1 [] (-n) []] else ex 1 [] n []
def inN(n:Int):Prop:=-1099511627776<=n/\n<=1099511627776
inductive DS where
 |call (put:Bool) (ob nm:List Nat) (ag:List Int)
 |push
 |mk
 |amr (p:List Nat)
def aqZ:List Int->List (List Nat)
 |[]=>[]
 |[a]=>tx "("::(amq a++[tx ")"])
 |a::b::_=>tx "("::(amq a++tx ","::(amq b++[tx ")"]))
def DS.w:DS->List (List Nat)
 |.call p ob nm ag=>(if p then[tx "put"] else[])++ob::tx "."::nm::(aqZ ag++[tx ";"])
 |.push=>[tx "c",tx ".",tx "push",tx "(",tx "k",tx ")",tx ";"]
 |.mk=>[tx "create",tx "k",tx ".",tx "make",tx ";"]
 |.amr p=>[tx "if",tx "attached",tx "c",tx ".",tx "peek",tx "as",p,tx "then",tx "put",p,tx ".",tx "count",tx ";",tx "else",tx "put",tx "0",tx ";",tx "end",tx ";"]
def nmE(s:String):Row:=ex 6 (tx s) 0 []
def DS.r:DS->Row
 |.call p ob nm ag=>st (if p then 10 else 2) [] 0 [ex 6 nm 1 (ex 6 ob 0 []::ag.map aqY)] [] [] [] []
 |.push=>st 2 [] 0 [ex 6 "push" 1 [nmE "c",nmE "k"]] [] [] [] []
 |.mk=>st 3 "k" 0 [ex 6 "make" 0 []] [] [] [] []
 |.amr p=>st 4 [] 0 [ex 10 p 0 [ex 6 "peek" 1 [nmE "c"]]] [] [] [st 10 [] 0 [ex 6 "count" 1 [ex 6 p 0 []]] [] [] [] []] [st 10 [] 0 [ex 1 [] 0 []] [] [] [] []]
def YQ(w:List Nat):Prop:=shape w=some 1/\okW w=true
def DS.ok:DS->Prop
 |.call _ ob nm ag=>YQ ob/\YQ nm/\ag.length<=2/\∀a∈ag,inN a
 |.amr p=>YQ p
 |_=>True
end Go.Proofs.Gm
