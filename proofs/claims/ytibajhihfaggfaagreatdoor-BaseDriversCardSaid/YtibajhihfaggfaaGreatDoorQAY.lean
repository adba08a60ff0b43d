/- BaseDrivers. No condition. -/
import Derived.Test.YtibajhihfaggfaaGreatDoorQAV
import Derived.Test.YtibajhihfaggfaaGreatDoorQAX
set_option linter.all false
set_option maxRecDepth 100000
set_option maxHeartbeats 0
namespace Go.Proofs.Gm
open Go.RowKit
variable {cls:Yz}{l:List SC}{S:Wq}
def axR(n:Nat)(A B:Int):List Int:=if n=1 then[A] else if n=2 then[A,B] else[]
def dsO(cls:Yz)(i:Nat)(x:SC):List DS:=
 if(cls==tx "STACK"&&x.1==tx "push")=true then[.mk,.call false (tx "k") (tx "add") [x.2.1],.push]
 else if(cls==tx "STACK"&&x.1==tx "peek")=true then[.amr (axP i)]
 else[.call (avs x.1) (tx "c") x.1 (axR (as3 x.1) x.2.1 x.2.2)]
def aum(cls:Yz):Nat->List SC->List DS
 |_,[]=>[]
 |i,x::l=>dsO cls i x++aum cls (i+1) l
def axj{ws:Y9}(h:ws≠[]):ws.flatMap (λy=>32::y)=32::cf ws:=by
 cases ws with
 |nil=>exact absurd rfl h
 |cons x r=>rw[asG,rz];rfl
def ava(n:Int):(amq n).flatMap (λy=>32::y)=32::as0 n:=axj (by unfold amq;split<;>simp)
def awX(n:Nat)(A B:Int):(aqZ (axR n A B)).flatMap (λy=>32::y)=axv n A B:=by
 unfold axR axv;split
 .show((tx "(")::(amq A++[tx ")"])).flatMap _=_;rw[rz,Qt,ava];simp;rfl
 .split
  .show((tx "(")::(amq A++tx ","::(amq B++[tx ")"]))).flatMap _=_;rw[rz,Qt,ava,rz,Qt,ava];simp;rfl
  .rfl
def awC(cls:Yz)(i:Nat)(x:SC):(avC (dsO cls i x)).flatMap (λy=>32::y)=32::lnT cls i x:=by
 unfold dsO lnT avC;split
 .show(DS.mk.w++((tx "k"::tx "."::tx "add"::tx "("::((amq x.2.1++[tx ")"])++[tx ";"]))++(DS.push.w++[]))).flatMap _=_;rw[Qt,Qt,rz,rz,rz,rz,Qt,Qt,ava];generalize as0 x.2.1=T;simp only[I5,qF];kernel_rfl
 .split
  .unfold axP;generalize as0 ((i:Int)+1)=T;show((DS.amr (tx "p_"++T)).w++[]).flatMap _=_;kernel_rfl
  .have h:=awX (as3 x.1) x.2.1 x.2.2;unfold caT;generalize axR (as3 x.1) x.2.1 x.2.2=ag at h|-;generalize axv (as3 x.1) x.2.1 x.2.2=T at h|-
   cases avs x.1
   .show((tx "c"::tx "."::x.1::(aqZ ag++[tx ";"]))++[]).flatMap _=_;rw[gp,rz,rz,rz,Qt,h];exact atk
   .show((tx "put"::tx "c"::tx "."::x.1::(aqZ ag++[tx ";"]))++[]).flatMap _=_;rw[gp,rz,rz,rz,rz,Qt,h];exact atk
def avy(cls:Yz):∀(l:List SC) (i:Nat),(avC (aum cls i l)).flatMap (λy=>32::y)=auD cls i l
 |[],_=>rfl
 |x::l,i=>by
  have h1:=awC cls i x;have h2:=avy cls l (i+1);unfold avC at h1 h2|-;rw[aum,Qt,Qt,h1,h2];rfl
def aur(cls:Yz)(l:List SC):List (List Nat):=au3 cls (aum cls 0 l)
def avb(h:cls∈at8):cf (hdW cls)=heT cls/\hdW cls≠[]:=(by decide+kernel:∀t∈at8,cf (hdW t)=heT t/\hdW t≠[]) cls h
def av2{a b:Y9}(h:a≠[]):cf (a++b)=cf a++b.flatMap λy=>32::y:=by
 cases a with
 |nil=>exact absurd rfl h
 |cons x r=>rw[qF,asG,asG,Qt,I5]
def awD(h:cls∈at8)(l:List SC):cf (aur cls l)++[10]=as1 cls l:=by have e3:tx " end end\n"=[tx "end",tx "end"].flatMap (λy=>32::y)++[10]:=bh;unfold aur au3 as1;rw[av2 (avb h).2,(avb h).1,Qt,avy,e3];simp only[I5]
def axa{i:Nat}(h:i < 40):YQ (axP i):=by have:(List.range 40).all (λi=>decide (shape (axP i)=some 1)&&axD (axP i))=true:=bh;have:=dV.1 this i (BZ.2 h);exact aue
def awE{nm:Yz}:∀s∈axs nm,YQ s:=by
 by_cases h:nm∈at8
 .have:at8.all (λt=>(axs t).all λs=>decide (shape s=some 1)&&axD s)=true:=by decide+kernel
  have:=dV.1 this nm h;intro s hs;have:=dV.1 this s hs;exact aue
 .unfold axs;rw[at1 h];exact λ_ h=>by cases h
def awM{cls:Yz}:∀(l:List SC) (i:Nat),i+l.length<=40->(∀x∈l,axL cls x=true)->∀s∈aum cls i l,s.ok
 |[],_,_,_=>λ_ h=>by cases h
 |x::l,i,hi,h=>by
  have ih:=awM l (i+1) auk λy hy=>h y (eC _ hy);obtain⟨-,-,axA,axJ,hc⟩:=auq (h x eu);intro s hs;rw[aum,oU] at hs;rcases hs with hs|hs
  .unfold dsO at hs;split at hs
   .rcases cZ.1 hs with rfl|hs
    .exact⟨⟩
    .rcases cZ.1 hs with rfl|hs
     .exact⟨by constructor<;>decide+kernel,by constructor<;>decide+kernel,auW 1,λa ha=>by rw[JH.1 ha];exact axA⟩
     .rw[JH.1 hs];exact⟨⟩
   .split at hs
    .rw[JH.1 hs];exact axa auk
    .rw[JH.1 hs];refine⟨by constructor<;>decide+kernel,awE _ hc,?_,?_⟩
     .unfold axR;split;exact Nat.le_succ 1;split;exact Nat.le_refl 2;exact Nat.zero_le 2
     .unfold axR;split
      .exact λa ha=>by rw[JH.1 ha];exact axA
      .split
       .intro a ha;rcases cZ.1 ha with rfl|ha
        .exact axA
        .rw[JH.1 ha];exact axJ
       .exact λ_ h=>by cases h
  .exact ih s hs
open Go.Maps Go.Proofs.Bm
def avX{c:Nat}(h:cB c=true):c < 256/\c≠10:=by simp only[cB,cV,jT,iD,j5,dD,oM,dU] at h;omega
def avz{w:Yz}(h:axD w=true):bW w/\10∉w/\w≠[]:=by
 unfold axD at h;simp only[dD,j5,xQ] at h;refine⟨?_,?_,λe=>by rw[e] at h;cases h.1.2⟩
 .rcases h.2 with h2|h2
  .exact λc hc=>(avX (dV.1 h2 c hc)).1
  .exact(by decide:∀s∈cJ,∀c∈s,c < 256) w (MK.1 h2)
 .rcases h.2 with h2|h2
  .exact λhc=>(avX (dV.1 h2 10 hc)).2 rfl
  .exact(by decide:∀s∈cJ,10∉s) w (MK.1 h2)
def auE{c:Nat}:∀{ws:Y9},c∈cf ws->c=32∨∃w∈ws,c∈w
 |[],h=>by cases h
 |[x],h=>.inr ⟨x,by simp,h⟩
 |x::y::r,h=>by
  rcases oU.1 h with h|h
  .exact .inr ⟨x,by simp,h⟩
  .rcases cZ.1 h with h|h
   .exact .inl h
   .rcases auE h with h|⟨w,hw,h⟩
    .exact .inl h
    .exact .inr ⟨w,eC _ hw,h⟩
def awk:∀{ws:Y9},(∀w∈ws,w≠[])->2*ws.length<=(cf ws).length+1
 |[],_=>auW _
 |x::r,h=>by
  have h2:∀{r:Y9},(∀w∈r,w≠[])->2*r.length<=(r.flatMap λy=>32::y).length:=by
   intro r;induction r with
   |nil=>exact λ_=>aM _
   |cons y r ih=>intro hr;have h1:=ac4.2 (hr y ai);have:=ih λw hw=>hr w (eC _ hw);rw[rz,j0,dC,dC];omega
  have h1:=ac4.2 (h x ai);have:=h2 (r:=r) λw hw=>h w (eC _ hw);rw[asG,j0,dC];omega
def avc{n:Int}(h:avm n):∀w∈amq n,axD w=true:=by
 rcases auN h with⟨m,-,-,hm,e,-⟩|⟨m,-,hm,e,-⟩<;>rw[e]
 .intro w hw;rcases cZ.1 hw with rfl|hw
  .decide+kernel
  .rw[JH.1 hw];exact avl hm
 .intro w hw;rw[JH.1 hw];exact avl hm
def awY{s:DS}(h:s.ok):∀w∈s.w,axD w=true:=by
 cases s with
 |push=>exact(by decide+kernel:∀w∈DS.push.w,axD w=true)
 |mk=>exact(by decide+kernel:∀w∈DS.mk.w,axD w=true)
 |amr p=>
  intro w hw;have hw:w∈[tx "if",tx "attached",tx "c",tx ".",tx "peek",tx "as"]++p::([tx "then",tx "put"]++p::[tx ".",tx "count",tx ";",tx "else",tx "put",tx "0",tx ";",tx "end",tx ";"]):=hw;rcases oU.1 hw with hw|hw
  .exact(by decide+kernel:∀w∈[tx "if",tx "attached",tx "c",tx ".",tx "peek",tx "as"],axD w=true) w hw
  .rcases cZ.1 hw with rfl|hw
   .exact h.2
   .rcases oU.1 hw with hw|hw
    .exact(by decide+kernel:∀w∈[tx "then",tx "put"],axD w=true) w hw
    .rcases cZ.1 hw with rfl|hw
     .exact h.2
     .exact(by decide+kernel:∀w∈[tx ".",tx "count",tx ";",tx "else",tx "put",tx "0",tx ";",tx "end",tx ";"],axD w=true) w hw
 |call put ob nm ag=>
  obtain⟨ho,hn,hl,ha⟩:=h;have h1:∀w∈aqZ ag,axD w=true:=by
   match ag,hl,ha with
   |[],_,_=>exact λ_ h=>by cases h
   |[a],_,ha=>
    intro w hw;rcases cZ.1 hw with rfl|hw
    .decide+kernel
    .rcases oU.1 hw with hw|hw
     .exact avc (ha a ai) w hw
     exact asM
   |[a,b],_,ha=>
    intro w hw;rcases cZ.1 hw with rfl|hw
    .decide+kernel
    .rcases oU.1 hw with hw|hw
     .exact avc (ha a ai) w hw
     .rcases cZ.1 hw with rfl|hw
      .decide+kernel
      .rcases oU.1 hw with hw|hw
       .exact avc (ha b ai) w hw
       exact asM
  intro w hw;rcases oU.1 hw with hw|hw
  .cases put
   .cases hw
   exact asM
  .rcases cZ.1 hw with rfl|hw
   .exact ho.2
   .rcases cZ.1 hw with rfl|hw
    .decide+kernel
    .rcases cZ.1 hw with rfl|hw
     .exact hn.2
     .rcases oU.1 hw with hw|hw
      .exact h1 w hw
      exact asM
structure avd (cls:Yz) (l:List SC):Prop where
 h9:cls∈at8
 ok:∀w∈aur cls l,axD w=true
 ds:∀s∈aum cls 0 l,s.ok
 jn:cf (aur cls l)++[10]=as1 cls l
 len:(cf (aur cls l)).length<=9000
 n:(aur cls l).length<=3000
 ayd:∃F,F<=6000/\Aa F 60 2 ((aur cls l).map tk)=some [asN cls (aum cls 0 l)]
 ne:aur cls l≠[]
def avY(cls:Yz):∀(l:List SC) (i:Nat),(aum cls i l).length<=3*l.length
 |[],_=>aM _
 |x::l,i=>by
  have h1:=avY cls l (i+1);have h2:(dsO cls i x).length<=3:=by unfold dsO;split;exact Nat.le_refl _;split<;>exact Nat.le_succ_of_le (Nat.le_succ _)
  rw[aum,j0,dC];omega
def av4(h9:cls∈at8)(h20:l.length<=20)(bL:∀x∈l,axL cls x=true):avd cls l:=by
 have hds:=awM l 0 ab bL;have hw:∀w∈aur cls l,axD w=true:=by
  intro w hw;rcases oU.1 hw with hw|hw
  .exact dV.1 ((by decide+kernel:∀t∈at8,(hdW t).all axD=true) cls h9) w hw
  .rcases oU.1 hw with hw|hw
   .obtain⟨s,hs,hw⟩:=auV.1 hw;exact awY (hds s hs) w hw
   .exact(by decide+kernel:∀w∈[tx "end",tx "end"],axD w=true) w hw
 have hj:=awD h9 l;have hl:=avW h9 bL;rw[<-hj,j0,abi] at hl;have hn:=awk λw h=>(avz (hw w h)).2.2;have cR:aur cls l≠[]:=by unfold aur au3;intro e;exact(avb h9).2 (List.append_eq_nil_iff.1 e).1
 have SH:=avY cls l 0;have hr:=awd cls h9 (aum cls 0 l) hds 0 [];have ho:=(avL cls h9 (aum cls 0 l) hds).1;rw[gp] at hr;refine⟨h9,hw,hds,hj,by omega,by omega,⟨110+(aum cls 0 l).length,by omega,?_⟩,cR⟩;rw[show 0+110+(aum cls 0 l).length=110+(aum cls 0 l).length by omega] at hr;unfold Aa;rw[aE (by
  cases e:(aur cls l).map tk with
  |nil=>exact absurd (avE.1 e) cR
  |cons=>simp)]
 unfold aur;rw[hr];simp only[Ae];rw[aI ho];rfl
open Go.Proofs.Tryz
def auS{w:Yz}:∀{ws:Y9},w∈ws->w.length<=(cf ws).length
 |[x],h=>by rw[JH.1 h];exact aM _
 |x::y::r,h=>by
  show _<=(x++32::cf (y::r)).length;rw[j0,dC];rcases cZ.1 h with rfl|h
  .omega
  .have:=auS h;omega
def avd.tok(h:avd cls l):∀t∈(aur cls l).map tk,bW t.t/\shape t.t=some t.k:=by intro t ht;obtain⟨w,hw,rfl⟩:=dO.1 ht;obtain⟨c,r,-,-,-,hs,-⟩:=IB (t:=[]) (.inl rfl) (h.ok w hw);exact⟨(avz (h.ok w hw)).1,hs⟩
def avd.aye(h:avd cls l):bW (cf (aur cls l))/\10∉cf (aur cls l):=by
 refine⟨λc hc=>?_,λhc=>?_⟩
 .rcases auE hc with rfl|⟨w,hw,hc⟩
  .decide
  .exact(avz (h.ok w hw)).1 c hc
 .rcases auE hc with e|⟨w,hw,hc⟩
  .cases e
  .exact(avz (h.ok w hw)).2.1 hc
def awZ(h:avd cls l)(w:YC)(hE:Env w):Calls prog 34 #[as1 cls l] w λe w'=>∃a c,e=.returned (.tuple #[sV a 1 c,.agg #[iV 0,iV 0],oZ])/\asL w w' (sV a 1 c) [asN cls (aum cls 0 l)]/\Kept aK w w':=by
 have hn:=h.n;have hl:=h.len;have aoY:QC ([aur cls l].map cf)=as1 cls l:=by rw[<-h.jn];simp[QC]
 have e2:([aur cls l].flatMap λws=>ws.map tk)=(aur cls l).map tk:=ai;have hT:∀w,Env w->Calls prog 164 #[as1 cls l] w (Ir ((aur cls l).map tk) w):=λw hE=>by
  have:=afT [aur cls l] (λws xD x hx=>by rw[JH.1 xD] at hx;exact h.ok x hx) (λws xD=>by rw[JH.1 xD];exact⟨h.aye.1,h.aye.2,by omega,hn⟩) (by rw[e2,Af];omega) ai (by rw[aoY,<-h.jn,j0,abi];omega) w hE;exact atz
 obtain⟨F,hF,hx⟩:=h.ayd;have:=afV ae2 (F:=F) (f:=60) (N:=2) hF ab (s:=bs (as1 cls l)) hT (λw=>Ye _ (by rw[dp,<-h.jn,j0,abi];omega) w) h.tok asW hx ai w hE;exact att
def awF(h:avd cls l)(w:YC):Calls prog 16 #[as1 cls l] w λe w'=>∃a c,e=.returned (.agg #[sV a 1 c,oZ,oZ,oZ])/\asL w w' (sV a 1 c) [asN cls (aum cls 0 l)]/\Kept aK w w':=by
 have hn:=h.n;have hl:=h.len;obtain⟨F,hF,hx⟩:=h.ayd;have WH:=VZ (aur cls l) h.ok h.ne 0 [];rw[show cf (aur cls l)++10::[]=as1 cls l from h.jn] at WH;have:=acs (F:=F) (f:=60) (N:=2) hF ab (as1 cls l) (by
  rw[<-h.jn];intro c hc;rcases oU.1 hc with hc|hc
  .exact h.aye.1 c hc
  .rw[JH.1 hc];decide) (by rw[<-h.jn,j0,abi];omega) (WH.trans (by simp[qQ])) asW h.tok hx ai w
 exact att
def aw0(h:avd cls l){S:Wq}{w:YC}{a:YS}{c:Nat}(hv:an S w (.sl [asN cls (aum cls 0 l)]) (sV a 1 c)):Calls prog 17 #[sV a 1 c] w λe w'=>e=.returned (.tuple #[.string (bs (as1 cls l)),iV 0])/\Kept aK w w':=by have hn:=h.n;have hl:=h.len;obtain⟨F,hF,hx⟩:=h.ayd;obtain⟨o1,o2,o3⟩:=avL cls h.h9 (aum cls 0 l) h.ds;rw[<-h.jn];exact acB (ws:=aur cls l) o1 o2 o3 (av0 cls h.h9 (aum cls 0 l) h.ds) (λw hw=>⟨h.ok w hw,(avz (h.ok w hw)).1,cn (auS hw) ab⟩) h.ne ab ab hF hx hv
def axX(cls:Yz):List (List Nat):=if cls=tx "STACK" then[tx "STACK",tx "COUNTER"] else[cls]
def avk(P:T1)(cls:Yz)(l:List SC):List Row:=if axz cls l=0 then auX P (axX cls)++[asN cls (aum cls 0 l)] else[]
def awN(h:cls∈at8):(∀s∈axX cls,bW s)/\(axX cls).length<=60/\clE (axX cls)=0:=by have:∀t∈at8,(∀s∈axX t,∀c∈s,c < 256)/\(axX t).length<=60/\clE (axX t)=0:=aj;exact this cls h
def asL.apps{W V:YC}{v:YE}{l l2:Zg}{ops:Ws}{rest:RM}{o:RZ}{a:Act}{Q:VN}(hg:o.guard=none)(s y:Rj)(o7:o.op=Op.call {callee:=Callee.builtin Builtin.append,args:=#[s,y],argTypes:=#[32,32]})
  (h:asL W V v l) (hs:a.eval s=v) {ad:YS} {m c:Nat} (hx:a.eval y=sV ad m c) (hW:W.heap.size<=V.heap.size) (hl:l.length+l2.length<=1000000) (h7:∀row∈l2,row.length=7)
  (hv:an (λb=>W.heap.size<=b/\v.ownBlock≠some b) V (.sl l2) (sV ad m c))
  (hK:∀a' c' V',asL W V' (sV a' (l++l2).length c') (l++l2)->Kept (λj=>W.heap.size<=j) V V'->wpList prog ops Q rest (a.put o.dst (sV a' (l++l2).length c')) V'):wpList prog ops Q (o::rest) a V:=by
 obtain⟨i,hi,hz,dM,dY⟩:=dN alu;refine kZ (P:=prog) underlying32 hi hz dM dY rfl ab ab hg s y o7 hs hx h hW hl h7 hv ?_;intro v' V' h1 h2 _;obtain⟨a',c',rfl⟩:=OwnR.form h1;exact hK a' c' V' h1 (h2.mono λb hb=>(OwnR.lt h b hb).1)
def awG(ns:Y9):∀row∈auX prog ns,row.length=7:=by
 intro row h;unfold auX at h;split at h
 .obtain⟨k,hk,rfl⟩:=dO.1 h;have:=BZ.1 (Uc.1 hk).1;exact(by decide+kernel:∀k < 12,(nC prog k).length=7) k this
 .cases h
def awl(hm:bW cls){S:Wq}{l:List SC}(hl:auK l)(h20:l.length<=20∨40 < l.length){a:YS}{c:Nat}{w:YC}(hx:an S w (.sl (axM l)) (sV a l.length c))(hE:Env w)(hP:P10 w):Calls prog 23 #[cls,sV a l.length c] w λe w'=>∃a c,e=.returned (.tuple #[sV a (avk prog cls l).length c,iV (axz cls l)])/\asL w w' (sV a (avk prog cls l).length c) (avk prog cls l)/\Kept aK w w':=by
 have hd:=auF hm hl hx hP;obtain⟨KL,sc⟩:∃m,l.length=m:=⟨_,rfl⟩
 obtain⟨RL,auv⟩:∃r,avk prog cls l=r:=⟨_,rfl⟩
 rw[auv];by_cases h0:axz cls l=0
 .obtain⟨h9,auL,bL⟩:=auw h0;have hw:=av4 h9 ab bL;rw[aI h0,h0] at hd;rw[h0];rw[sc] at hd|-;have auy:RL=auX prog (axX cls)++[asN cls (aum cls 0 l)]:=au1;have hcS:((bs cls).toList==[83,84,65,67,75])=(cls==tx "STACK"):=avZ hm "STACK" aj;obtain⟨axt,avB⟩:∃b,(cls==tx "STACK")=b:=⟨_,rfl⟩
  rw[avB] at hcS;have hns:axX cls=if axt=true then[cls,tx "COUNTER"] else[cls]:=by unfold axX;exact atf
  obtain⟨hnS,auH,hnE⟩:=awN h9;obtain⟨axy,hNZ⟩:∃n,axX cls=n:=⟨_,rfl⟩
  rw[hNZ] at hns hnS auH hnE auy;revert hl hx hE hP hd sc auv h9 bL hw auy hnE auH hnS hns hNZ;refine apm ?_;intro hl hx hE hP hd sc auv h9 bL hw auy hnE auH hnS hns hNZ;go_enter func23,ntmps23;go_wp2_with fail;refine hd.out.mono ?_;rintro e w1 ⟨rfl,K1⟩;replace K1:=ah K1;go_upto_region 5 with fail;go_cut [25] from 24 (λv25 wc=>v25=.bool axt/\w1.alloc (cO #[cls] 9)=wc)
  case first=>exact asY
  obtain⟨rfl,rfl⟩:=hcut;rename_i avG;refine avG _ _ ?_;go_cut [8] from 26 (λv8 wc=>∃a c,v8=sV a axy.length c/\an w1 wc (.sl (strs axy)) (sV a axy.length c)/\Kept aK w1 wc)
  case first=>
   have hb:(w1.alloc (cO #[cls] 9)).heap[w1.heap.size]?=some (.cells #[cls] 9 (0,0)):=ao;have hk:=ah ((Kept.refl aK w1).alloc (cO #[cls] 9))
   cases axt
   .have e:axy=[cls]:=hns.out;subst e;replace hb:=ah hb;exact aud
   .have e:axy=[cls]++[tx "COUNTER"]:=hns.out;subst e;have hO:Hid (OS w1 (w1.alloc (cO #[cls] 9)) (sV w1 1 1) [cls]):=⟨[[.string (bs cls)]],.cons ⟨rfl,.cons (.str _) .nil⟩ .nil,rfl,.inr ⟨_,1,_,rfl,aM _,hb,aM 1,by simp[maxLen],rfl,rfl⟩⟩
    replace hb:=ah hb;go_wp2_with (at_builtin;refine OS.app rfl (.tmp 26) (.tmp 27) rfl hO rfl (tx "COUNTER") (gq (λn=>Value.slice (some ⟨n,0,none⟩) 1 1) (dB w1 _).symm) hk.size ai ?_;intro v4 w4 T5 yu);obtain⟨a4,c4,rfl⟩:=T5.form;go_meet
    case rel=>exact⟨_,_,rfl,T5.cell,(hk.alloc _).trans yu λb hb e=>by omega⟩
  obtain⟨a8,c8,rfl,hv8,K8⟩:=hcut;have kc:=aja (hE.out.no (K1.trans' K8)) hv8 hnS.out auH.out;have TZ:=awG axy;obtain⟨NL,hNL⟩:∃m,axy.length=m:=⟨_,rfl⟩
  obtain⟨CR,hCR⟩:∃r,auX prog axy=r:=⟨_,rfl⟩
  obtain⟨axx,hKC⟩:∃m,CR.length=m:=⟨_,rfl⟩
  have av5:axx<=12:=by rw[<-hKC,<-hCR];exact ate
  rw[hCR,hNL,hKC,hnE.out] at kc;rw[hCR] at TZ;rw[hNL];revert hv8 hNL TZ hCR kc;refine nx ?_;intro hv8 hNL TZ hCR kc;go_wp2_with fail;refine kc.out.mono ?_;rintro e w2 ⟨a2,c2,rfl,qY,K2⟩;have K2':=ah ((K1.trans' K8).trans' K2);replace qY:=ah qY;go_wp2_with fail;refine(awZ hw.out _ (hE.out.no K2')).mono ?_;rintro e w3 ⟨a3,c3,rfl,nR,K3⟩;have k4:=(Kept.refl aK w3).alloc (cO #[oZ,oZ] 42);have T5:=(asL.kept qY.out (K3.trans' k4) (λ_ _ _ e=>e))
  have auG:an (λb=>wc.heap.size<=b/\Value.ownBlock (sV a2 axx c2)≠some b) (w3.alloc (cO #[oZ,oZ] 42)) (.sl [asN cls (aum cls 0 l)]) (sV a3 1 c3):=
   ((asL.cell nR).kept k4 (λ_ _ _ e=>e)).mono λb hb _=>⟨cn K2.size hb,λe=>by have:=(OwnR.lt qY.out b e).2;have avH:w2.heap.size<=b:=hb;omega⟩
  have dM:wc.heap.size<=(w3.alloc (cO #[oZ,oZ] 42)).heap.size:=cn K2.size (cn K3.size k4.size);revert nR T5 auG;refine jk ?_;intro nR T5 auG;go_wp2_with (at_builtin;refine asL.apps rfl (.tmp 40) (.tmp 41) rfl T5.out rfl rfl dM (by rw[hKC];simp;omega) as4 auG.out ?_;intro a5 c5 w5 PC hK6);have ayf:RL.length=axx+1:=atQ;have hO7:asL wc w5 (sV a5 RL.length c5) RL:=by rw[auy.out,hCR.out];exact PC
  refine bG (B8 rfl _ _ _) rfl ?_;exact⟨a5,c5,by rw[ayf];rfl,asL.mono hO7 (λb hb _=>cn (K1.trans' K8).size hb),((K2'.trans' K3).alloc _).trans hK6 λb hb e=>by have:=(K1.trans' K8).size;omega⟩
 .rw[aE h0] at hd;have auy:RL=[]:=atS;subst auy;obtain⟨R,hR⟩:∃m,axz cls l=m:=⟨_,rfl⟩
  rw[hR] at hd h0|-;rw[sc] at hd|-;have h0':(R !=0)=true:=agz;revert hl hx hE hP sc auv hd hR;refine TR ?_;intro hl hx hE hP sc auv hd hR;go_enter func23,ntmps23;go_wp2_with fail;refine hd.out.mono ?_;rintro e w1 ⟨rfl,K1⟩;go_wp2_with fail;refine bG (B8 rfl _ _ _) rfl ?_;exact⟨none,0,rfl,asL.nil _ _,K1⟩
def av3(hm:bW cls){S:Wq}{l:List SC}(hl:auK l)(h20:l.length<=20∨40 < l.length){a:YS}{c:Nat}{w:YC}(hx:an S w (.sl (axM l)) (sV a l.length c)):Calls prog 24 #[cls,sV a l.length c] w λe w'=>∃a c,e=.returned (.agg #[sV a (avk prog cls l).length c,iV (axz cls l)])/\asL w w' (sV a (avk prog cls l).length c) (avk prog cls l)/\Kept aK w w':=by
 have k0:=(Kept.refl aK w).alloc (cO #[nS,oZ] 36);have b0:(w.alloc (cO #[nS,oZ] 36)).heap[w.heap.size]?=some (.cells #[nS,oZ] 36 (0,0)):=ao;have hd:=auQ hm hl ((hx.mono (S':=λ_=>True) (λ_ _ _=>bw)).kept k0 (λ_ _ _ e=>e));obtain⟨KL,sc⟩:∃m,l.length=m:=⟨_,rfl⟩
 obtain⟨RL,auv⟩:∃r,avk prog cls l=r:=⟨_,rfl⟩
 rw[auv];by_cases h0:axz cls l=0
 .obtain⟨h9,auL,bL⟩:=auw h0;have hw:=av4 h9 ab bL;rw[aI h0,h0] at hd;rw[h0];rw[sc] at hd|-;have auy:RL=auX prog (axX cls)++[asN cls (aum cls 0 l)]:=au1;have hcS:((bs cls).toList==[83,84,65,67,75])=(cls==tx "STACK"):=avZ hm "STACK" aj;obtain⟨axt,avB⟩:∃b,(cls==tx "STACK")=b:=⟨_,rfl⟩
  rw[avB] at hcS;have hns:axX cls=if axt=true then[cls,tx "COUNTER"] else[cls]:=by unfold axX;exact atf
  obtain⟨hnS,auH,hnE⟩:=awN h9;obtain⟨axy,hNZ⟩:∃n,axX cls=n:=⟨_,rfl⟩
  rw[hNZ] at hns hnS auH hnE auy;revert hl hx k0 b0 hd sc auv h9 bL hw auy hnE auH hnS hns hNZ;refine apm ?_;intro hl hx k0 b0 hd sc auv h9 bL hw auy hnE auH hnS hns hNZ;go_enter func24,ntmps24;go_wp2_with fail;refine hd.out.mono ?_;rintro e w1 ⟨rfl,K1⟩;have d1:=aD (x:=cO #[as1 cls l,oZ] 52) (aJ b0.out K1);have e1:(w1.alloc (cO #[as1 cls l,oZ] 52)).heap[w1.heap.size]?=some (.cells #[as1 cls l,oZ] 52 (0,0)):=ao;obtain⟨W1,avh⟩:∃V,V=w1.alloc (cO #[as1 cls l,oZ] 52):=⟨_,rfl⟩
  have hwz:w.heap.size < w1.heap.size:=by have:=(k0.trans' K1).size;have h:=K1.size;simp at h;omega
  replace K1:Hid (Kept aK w W1):=avh▸(k0.trans' K1).alloc _;have rG:w1.heap.size+1=W1.heap.size:=by rw[avh,dB]
  rw[<-avh] at d1 e1;have y1:=aC e1 1;revert e1 d1 hwz rG;refine jU ?_;intro e1 d1 hwz rG;go_upto_region 5 with fail;rw[<-avh,rG.out];replace avh:=ah avh;go_cut [21] from 20 (λv21 wc=>v21=.bool axt/\W1.alloc (cO #[cls] 9)=wc)
  case first=>exact asY
  obtain⟨rfl,rfl⟩:=hcut;rename_i avG;refine avG _ _ ?_;go_cut [6] from 22 (λv6 wc=>∃a c,v6=sV a axy.length c/\an W1 wc (.sl (strs axy)) (sV a axy.length c)/\Kept aK W1 wc)
  case first=>
   have hb:(W1.alloc (cO #[cls] 9)).heap[W1.heap.size]?=some (.cells #[cls] 9 (0,0)):=ao;have hk:=(Kept.refl aK W1).alloc (cO #[cls] 9)
   cases axt
   .have e:axy=[cls]:=hns.out;subst e;revert hb hk;refine ct ?_;intro hb hk;exact aud
   .have e:axy=[cls,tx "COUNTER"]:=hns.out;subst e;revert hb hk;refine ct ?_;intro hb hk;go_wp2_with fail;go_meet
    case rel=>exact⟨_,_,rfl,dS [cls,tx "COUNTER"] (by rw[heap_alloc,aI ai];rfl) (auW _) ai,hk.alloc _⟩
  obtain⟨a8,c8,rfl,hv8,K8⟩:=hcut;have Pw:w.heap.size < wc.heap.size:=by have:=K8.size;have:=hwz.out;have:=rG.out;omega
  have kc:=agA hv8 hnS.out auH.out;have TZ:=awG axy;obtain⟨NL,hNL⟩:∃m,axy.length=m:=⟨_,rfl⟩
  obtain⟨CR,hCR⟩:∃r,auX prog axy=r:=⟨_,rfl⟩
  obtain⟨axx,hKC⟩:∃m,CR.length=m:=⟨_,rfl⟩
  have av5:axx<=12:=by rw[<-hKC,<-hCR];exact ate
  rw[hCR,hNL,hKC,hnE.out] at kc;rw[hCR] at TZ;rw[hNL];revert hv8 hNL TZ hCR kc;refine nx ?_;intro hv8 hNL TZ hCR kc;go_wp2_with fail;refine kc.out.mono ?_;rintro e w2 ⟨a2,c2,rfl,qY,K2⟩;have kA:=(Kept.refl aK w2).alloc (cO #[sV a2 axx c2,oZ] 36);have g4:=aD (x:=cO #[sV a2 axx c2,oZ] 36) (aJ (aJ d1.out K8) K2);have g5:=aD (x:=cO #[sV a2 axx c2,oZ] 36) (aJ (aJ e1.out K8) K2);have g7:(w2.alloc (cO #[sV a2 axx c2,oZ] 36)).heap[w2.heap.size]?=some (.cells #[sV a2 axx c2,oZ] 36 (0,0)):=ao;have y0:=aC g5 0;have nR:=asL.kept qY kA (λ_ _ _ e=>e);have K3:=(K1.trans' K8).trans' (K2.trans' kA);have xD:wc.heap.size<=(w2.alloc (cO #[sV a2 axx c2,oZ] 36)).heap.size:=(K2.trans' kA).size;revert qY kA g4 g5 g7 nR K3 xD;refine TR ?_;intro qY kA g4 g5 g7 nR K3 xD;go_wp2_with fail;refine(awF hw.out _).mono ?_;rintro e w3 ⟨a3,c3,rfl,T5,K4⟩;have ax6:=(Kept.refl aK w3).alloc (cO #[sV a3 1 c3,oZ,oZ,oZ] 44);have g8:(w3.alloc (cO #[sV a3 1 c3,oZ,oZ,oZ] 44)).heap[w3.heap.size]?=some (.cells #[sV a3 1 c3,oZ,oZ,oZ] 44 (0,0)):=ao;have f4:=aD (x:=cO #[sV a3 1 c3,oZ,oZ,oZ] 44) (aJ g4.out K4);have f7:=aD (x:=cO #[sV a3 1 c3,oZ,oZ,oZ] 44) (aJ g7.out K4);have z7:=aC f7 0;have z8:=aC g8 0;have auG:=asL.kept nR.out (K4.trans' ax6) (λ_ _ _ e=>e);have PC:an (λb=>wc.heap.size<=b/\Value.ownBlock (sV a2 axx c2)≠some b) (w3.alloc (cO #[sV a3 1 c3,oZ,oZ,oZ] 44)) (.sl [asN cls (aum cls 0 l)]) (sV a3 1 c3):=
   ((asL.cell T5).kept ax6 (λ_ _ _ e=>e)).mono λb hb _=>⟨cn xD hb,λe=>by have h1:=(OwnR.lt nR.out b e).2;have avH:(w2.alloc (cO #[sV a2 axx c2,oZ] 36)).heap.size<=b:=hb;omega⟩
  have dM:wc.heap.size<=(w3.alloc (cO #[sV a3 1 c3,oZ,oZ,oZ] 44)).heap.size:=cn xD.out (cn K4.size ax6.size);have K5:=ah ((K3.out.trans' K4).trans' ax6);revert T5 g8 f4 f7 auG PC;refine LX ?_;intro T5 g8 f4 f7 auG PC;go_wp2_with (first|(at_builtin;refine asL.apps rfl (.tmp 30) (.tmp 32) rfl auG.out rfl rfl dM (by rw[hKC];simp;omega) as4 PC.out ?_;intro a5 c5 w5 hO7 hK7;have f5:=ah ((hK7.block w.heap.size (aQ.1 f4.out).1 lI).trans f4.out))|refine QW ?_|refine str f5 ?_);have ayf:RL.length=axx+1:=atQ;have hO8:asL wc w5 (sV a5 RL.length c5) RL:=by rw[auy.out,hCR.out];exact hO7
  refine ou (lz _ _ _ #[sV a5 (axx+1) c5,oZ] _ _ f5) ?_;have WD:=fH w5 w.heap.size #[sV a5 (axx+1) c5,oZ];rw[ayf] at hO8|-;exact⟨a5,c5,rfl,(asL.kept hO8 WD λb hb _ e=>by omega).mono (λb hb _=>by omega),(K5.trans hK7 λb hb e=>by omega).trans WD λb hb e=>by omega⟩
 .rw[aE h0] at hd;have auy:RL=[]:=atS;subst auy;obtain⟨R,hR⟩:∃m,axz cls l=m:=⟨_,rfl⟩
  rw[hR] at hd h0|-;rw[sc] at hd|-;have h0':(R !=0)=true:=agz;revert hl hx k0 b0 sc auv hd hR;refine TR ?_;intro hl hx k0 b0 sc auv hd hR;go_enter func24,ntmps24;go_wp2_with fail;refine hd.out.mono ?_;rintro e w1 ⟨rfl,K1⟩;have d1:=aJ b0.out K1;have d2:=aD (x:=cO #[eS,.int .i64 R] 52) d1;replace K1:=(k0.trans' K1).alloc (cO #[eS,.int .i64 R] 52);revert d1 d2 K1;refine jk ?_;intro d1 d2 K1;go_wp2_with (first|refine QW ?_|refine str d2 ?_);refine ou (lz _ _ _ #[nS,.int .i64 R] _ _ d2) ?_;exact⟨none,0,rfl,asL.nil _ _,K1.trans (fH _ _ _) λb hb e=>by omega⟩
def Jz{S':Wq}{w:YC}(a:Y9)(ha:∀s∈a,bW s){x y:YE}(hx:an S w (.sl (strs a)) x)(hy:an S' w (.sl (strs a)) y):Calls prog 12 #[x,y] w λe w'=>e=.returned (.bool true)/\Kept aK w w':=by have h:=Q9 a a ha ha hx hy;rwa[B4 rfl] at h
def Zh(nm:YR)(A B:Int)(w:YC):Calls prog 27 #[.string nm,I A,I B] w λe w'=>e=.returned (.agg #[.string nm,I A,I B])/\Kept aK w w':=by go_enter func27,ntmps27;go_wp2;refine bG (v:=.agg #[.string nm,I A,I B]) (by simp[results,results27,go_sem]) rfl ?_;exact pB
def Pg(c:JD)(hc:c≠ .counter)(l:List (ByteArray×Int×Int))(want:WV)(f:Int){cs ds:Zt}(fY:cs=(LW l).toArray)(hds:ds=(want.map (Value.int .i64)).toArray)(hl:l.length<=40)(hw:want.length<=40)(cR:l≠[])(bL:l.all (okB c)=true)(hP:run c l ⟨[],.map [],0,-1⟩ []=some (want,f))(w:YC):Calls prog 28 #[.string (clsName c),sV (some ⟨w,0,none⟩) l.length l.length,sV (some ⟨w.heap.size+1,0,none⟩) want.length want.length,I f] ((w.alloc (cO cs 59)).alloc (cO ds 3)) λe w'=>e=.returned (.bool true)/\Kept aK w w':=by have hL:LC (w.alloc (cO cs 59)) (some ⟨w,0,none⟩) l:=ag7 w l 59 cs fY hl bL;have hO:=ag8 (w.alloc (cO cs 59)) want ds hds hw;rw[dB] at hO;have hs:=ag6 c hc _ l cR want f _ _ _ (hL.below ((iG _ _).alloc (aM _) (cO ds 3))) hl (Za bL) hP hO;exact hs.mono λe w' ⟨h,g⟩=>⟨h,(((Kept.refl aK w).alloc _).alloc _).trans' (wU g)⟩
def NS:List (List Nat):=[[76,73,78,75],[73,78,84,83],[83,69,84]]
def api:∀s∈NS,bW s:=by unfold NS bW;decide
def amK(V:YC):Calls prog 8 #[.string IV] V λe w'=>∃a c,e=.returned (.tuple #[sV a 3 c,oZ])/\an V w' (.sl (strs NS)) (sV a 3 c)/\Kept aK V w':=by have Ij:ndV [83,69,84]=NS:=bh;have avg:ixE [83,69,84]=0:=bh;refine(afS (nm:=[83,69,84]) (by unfold bW;decide) V).mono λe w' h=>?_;have:=aa4 h;rw[Ij,avg] at this;exact this
def SC2:List SC:=[(tx "add",2,0),(tx "count",0,0)]
def awm:(if axz (tx "COUNTER") SC2=0 then as1 (tx "COUNTER") SC2 else[])=tx "class MAIN create make feature \x7b ANY \x7d make local c : COUNTER do create c . make ; c . add ( 2 ) ; put c . count ; end end\n"/\axz (tx "COUNTER") SC2=0:=by decide+kernel
def awn(w:YC)(hE:P10 w):Calls prog 5 #[] w λe w'=>e=.returned (.bool true)/\Kept aK w w':=by
 go_enter func5,ntmps5;go_wp2_with fail;refine(amK _).mono ?_;rintro e w1 ⟨a,c,rfl,hv,hb⟩;replace hb:=ah hb;go_wp2_with fail;refine bD (Zh _ _ _ _) λw2 h2=>?_;go_wp2_with fail;refine bD (Zh _ _ _ _) λw3 h3=>?_;replace hv:=hv.kept (h2.trans' h3) (λ_ _ _ e=>e);replace hb:=ah (hb.trans' (h2.trans' h3));have hx:an (λ_=>True) (w3.alloc (cO #[.string ⟨#[97,100,100]⟩,I 2,I 0,.string cM,I 0,I 0] 59)) (.sl (axM SC2)) (sV (some ⟨w3,0,none⟩) SC2.length 2):=
  aW (rows:=axM SC2) (css:=[[.string (bs (tx "add")),I 2,I 0],[.string (bs (tx "count")),I 0,I 0]]) (wd:=3) (cap:=2) (E:=59) cY rfl (.cons ⟨rfl,.cons (.str _) (.cons (.int _) (.cons (.int _) .nil))⟩ (.cons ⟨rfl,.cons (.str _) (.cons (.int _) (.cons (.int _) .nil))⟩ .nil)) bw aj aj
 have hd:=auF (cls:=tx "COUNTER") (by unfold bW;decide) (l:=SC2) (by unfold auK bW;decide) hx (hE.no (hb.out.alloc _));rw[awm.1,awm.2] at hd;replace hd:=ah hd;go_wp2_with fail;refine hd.mono ?_;rintro e w4 ⟨rfl,h4⟩;have h4':=((Kept.refl aK w3).alloc (cO #[.string ⟨#[97,100,100]⟩,I 2,I 0,.string cM,I 0,I 0] 59)).trans' h4;replace hv:=hv.kept (h4'.alloc (cO #[.string fI,.string gG,.string IV] 9)) (λ_ _ _ e=>e);replace hb:=ah (hb.trans' h4');have hs:=ah (Jz NS api hv (dS (S:=λ_=>True) NS (b:=w4) cY bw aj));have ar4:((bs (tx "class MAIN create make feature \x7b ANY \x7d make local c : COUNTER do create c . make ; c . add ( 2 ) ; put c . count ; end end\n")).toList==[99,108,97,115,115,32,77,65,73,78,32,99,114,101,97,116,101,32,109,97,107,101,32,102,101,97,116,117,114,101,32,123,32,65,78,89,32,125,32,109,97,107,101,32,108,111,99,97,108,32,99,32,58,32,67,79,85,78,84,69,82,32,100,111,32,99,114,101,97,116,101,32,99,32,46,32,109,97,107,101,32,59,32,99,32,46,32,97,100,100,32,40,32,50,32,41,32,59,32,112,117,116,32,99,32,46,32,99,111,117,110,116,32,59,32,101,110,100,32,101,110,100,10])=true:=bh;go_wp2_with fail;refine hs.mono ?_;rintro e w5 ⟨rfl,k5⟩;replace hb:=ah ((hb.alloc _).trans' k5);go_wp2_with (go_at_call 27;refine(Zh _ _ _ _).mono ?_;rintro e z ⟨rfl,g⟩;replace hb:=ah (hb.trans' g);clear g);refine bD (Pg .ints mZ ajp [9,5] 0 rfl rfl aj aj aj bh bh _) λz g=>?_;replace hb:=ah (hb.trans' g);go_wp2_with (go_at_call 27;refine(Zh _ _ _ _).mono ?_;rintro e z ⟨rfl,g⟩;replace hb:=ah (hb.trans' g);clear g);refine bD (Pg .sorted mZ ac0 [2] 1 rfl rfl aj aj aj bh bh _) λz g=>?_;replace hb:=ah (hb.trans' g);go_wp2_with (go_at_call 27;refine(Zh _ _ _ _).mono ?_;rintro e z ⟨rfl,g⟩;replace hb:=ah (hb.trans' g);clear g);refine bD (Pg .table mZ ag9 [1,8,0] 0 rfl rfl aj aj aj bh bh _) λz g=>?_;replace hb:=ah (hb.trans' g);go_wp2_with (go_at_call 27;refine(Zh _ _ _ _).mono ?_;rintro e z ⟨rfl,g⟩;replace hb:=ah (hb.trans' g);clear g);refine bD (Pg .arith mZ aha [6,1024,120,3] 107 rfl rfl aj aj aj bh bh _) λz g=>?_;replace hb:=ah (hb.trans' g);go_wp2_with (go_at_call 27;refine(Zh _ _ _ _).mono ?_;rintro e z ⟨rfl,g⟩;replace hb:=ah (hb.trans' g);clear g);refine bD (Pg .range mZ ahb [4,18] 1 rfl rfl aj aj aj bh bh _) λz g=>?_;replace hb:=ah (hb.trans' g);go_wp2_with fail;go_ret;exact⟨rfl,hb⟩
def an.axb{w:YC}{y:Row}{l:Zg}{a:YS}{n cap:Nat}(h:an S w (.sl (l++[y])) (sV a (n+1) cap))(hl:∀r∈l++[y],r.length=7)(hn:l.length=n):∃g off,a=some ⟨g,off,none⟩/\n+1<=cap/\an S w (.sl [y]) (sV (some ⟨g,off+n*7,none⟩) 1 (cap - n)):=by
 subst hn;generalize ht:T.sl (l++[y])=t at h;generalize hv:Value.slice a (l.length+1) cap=v at h
 cases h with
 |int n=>cases ht
 |str s=>cases ht
 |bool b=>cases ht
 |nil=>cases hv
 |sl rows g off xV wd c hS hg oG hm hw hc IN=>
  cases ht;simp only[Value.slice.injEq] at hv;obtain⟨rfl,-,rfl⟩:=hv;have h7:wd=7:=by rw[<-hw y ai];exact hl y ai
  subst h7;rw[j0,abi] at oG;refine⟨g,off,rfl,oG,.sl [y] g (off+l.length*7) (cap - l.length) 7 (λk j=>c (k+l.length) j) hS hg aH ab (λr hr=>hl r (List.mem_append_right _ hr)) (λk j row t h1 h2=>?_) (λk j row t h1 h2=>IN (k+l.length) j row t ?_ h2)⟩
  .obtain rfl:k=0:=by have:=(dk.1 h1).1;simpa using this
   have:=hc l.length j row t (by rw[A0 (aM _),Nat.sub_self];exact h1) h2;rw[show off+l.length*7+(0*7+j)=off+(l.length*7+j) by omega,fi];exact this
  .obtain rfl:k=0:=by have:=(dk.1 h1).1;simpa using this
   rw[fi,A0 (aM _),Nat.sub_self];exact h1
def ave(n:Nat):Bool:=decide (n<=20)||(decide (40 < n)&&decide (n<=60))
def axc(a:YS)(n c:Nat)(w:YC):Calls prog 18 #[sV a n c] w λe w'=>e=.returned (.bool (ave n))/\w'=w:=by
 by_cases h1:n<=20
 .have e:ave n=true:=by unfold ave;rw[decide_eq_true h1];rfl
  have h1':(n:Int)<=20:=ab;exact asT
 .have h1':¬(n:Int)<=20:=by omega
  by_cases h2:40 < n
  .have h2':(40:Int) < (n:Int):=by omega
   have e:ave n=decide ((n:Int)<=60):=by unfold ave;rw[decide_eq_false h1,decide_eq_true h2,Bool.false_or,Bool.true_and];congr 1;simp;omega
   exact asT
  .have h2':¬(40:Int) < (n:Int):=by omega
   have e:ave n=false:=by unfold ave;rw[decide_eq_false h1,decide_eq_false h2];rfl
   exact asT
def aw1(h20:l.length<=20∨40 < l.length):∀r∈avk prog cls l,shK 60 r=true:=by
 intro r hr;unfold avk at hr;split at hr
 .rename_i h0;obtain⟨h9,auL,bL⟩:=auw h0;have hw:=av4 h9 ab bL;rcases oU.1 hr with hr|hr
  .exact amw _ r hr
  .rw[JH.1 hr];exact(avL cls h9 _ hw.ds).2.2
 .cases hr
def axd(nm:Yz):∀s∈axH nm,bW s:=by
 unfold axH;split
 .exact(avU nm).1
 .exact λ_ h=>by cases h
def axl(hm:bW cls){l:List SC}(hl:auK l){a:YS}{c:Nat}{w:YC}(hx:an S w (.sl (axM l)) (sV a l.length c))(hE:Env w)(hP:P10 w):Calls prog 4 #[cls,sV a l.length c] w λe w'=>e=.returned (.bool true)/\Kept aK w w':=by
 have hh:=ah (awn w hP);have hxk:=fun(V:YC) (hk:Kept aK w V)=>((hx.mono (S':=λ_=>True) (λ_ _ _=>bw)).kept hk (λ_ _ _ e=>e):an _ V _ _)
 have h18:=λV=>axc a l.length c V;have h19:=λV=>awf hm V;have h20:=λV=>awh hm V;have h21:=fun(V:YC) (hk:Kept aK w V)=>auF hm hl (hxk V hk) (hP.no hk);have h22:=fun(V:YC) (hk:Kept aK w V)=>auQ hm hl (hxk V hk);have h23:=fun(h2:l.length<=20∨40 < l.length) (V:YC) (hk:Kept aK w V)=>awl hm hl h2 (hxk V hk) (hE.no hk) (hP.no hk);have h24:=fun(h2:l.length<=20∨40 < l.length) (V:YC) (hk:Kept aK w V)=>av3 hm hl h2 (hxk V hk);have h25:=fun(V:YC) (hk:Kept aK w V)=>aup hm hl (hxk V hk);have h26:=fun(V:YC) (hk:Kept aK w V)=>avt hm hl (hxk V hk);have eF:=aw1 (cls:=cls) (l:=l);have Zr:=axd cls;have hsy:axz cls l=0->(l.length<=20∨40 < l.length)->∃CR,avk prog cls l=CR++[asN cls (aum cls 0 l)]/\(∀r∈avk prog cls l,r.length=7)/\avd cls l/\CR.length<=12:=λh0 h2=>by
  obtain⟨h9,auL,bL⟩:=auw h0;refine⟨auX prog (axX cls),by unfold avk;rw[if_pos h0],λr hr=>?_,av4 h9 ab bL,?_⟩
  .unfold avk at hr;rw[aI h0] at hr;rcases oU.1 hr with hr|hr
   .exact awG _ r hr
   .rw[JH.1 hr];rfl
  .exact ate
 have hdv:axz cls l=0->(if axz cls l=0 then as1 cls l else[])=as1 cls l:=λh=>aI h;obtain⟨ayg,hDT⟩:∃t,(if axz cls l=0 then as1 cls l else[])=t:=⟨_,rfl⟩
 obtain⟨R,hR⟩:∃r,axz cls l=r:=⟨_,rfl⟩
 obtain⟨RL,auv⟩:∃r,avk prog cls l=r:=⟨_,rfl⟩
 obtain⟨ayk,hCN⟩:∃r,axH cls=r:=⟨_,rfl⟩
 obtain⟨CE,hCE⟩:∃r,cE cls=r:=⟨_,rfl⟩
 obtain⟨KL,sc⟩:∃m,l.length=m:=⟨_,rfl⟩
 obtain⟨NL,hNL⟩:∃m,ayk.length=m:=⟨_,rfl⟩
 obtain⟨ML,Ab⟩:∃m,RL.length=m:=⟨_,rfl⟩
 rw[hDT] at hdv;simp only[hDT] at h21 h22;simp only[hR,auv,hCN,hCE,sc,hNL,Ab] at h18 h19 h20 h21 h22 h23 h24 h25 h26 eF Zr hsy hdv|-;revert hl hx hE hP hxk hDT hR auv hCN hCE sc hNL Ab h18 h19 h20 h21 h22 h23 h24 h25 h26 eF Zr hsy hdv;refine axg ?_;intro hl hx hE hP hxk hDT hR auv hCN hCE sc hNL Ab h18 h19 h20 h21 h22 h23 h24 h25 h26 eF Zr hsy hdv;go_enter func4,ntmps4;go_wp2_with fail;refine hh.mono ?_;rintro e w1 ⟨rfl,K1⟩;replace K1:=ah K1;go_wp2_with fail;refine(h18.out _).mono ?_;rintro e w' ⟨rfl,rfl⟩
 cases hf:ave KL with
 |false=>exact asQ
 |true=>
 have h2:KL<=20∨40 < KL:=by unfold ave at hf;simp only[j5,dD,oM] at hf;omega
 replace h23:=h23.out h2;replace h24:=h24.out h2;replace eF:=eF.out h2;revert hf h2 h23 h24 eF;refine nx ?_;intro hf h2 h23 h24 eF;go_wp2_with fail;refine(h19.out _).mono ?_;rintro e w2 ⟨a2,c2,rfl,v2,K2⟩;replace K2:=K1.trans' K2;revert v2 K2;refine ct ?_;intro v2 K2;go_wp2_with fail;refine(h20.out _).mono ?_;rintro e w3 ⟨a3,c3,rfl,v3,K3⟩;have k3:=(Kept.refl aK w3).alloc (cO #[sV a3 NL c3,CE] 30);have b3:(w3.alloc (cO #[sV a3 NL c3,CE] 30)).heap[w3.heap.size]?=some (.cells #[sV a3 NL c3,CE] 30 (0,0)):=ao;replace v2:=(v2.out.kept K3 (λ_ _ _ e=>e)).kept k3 (λ_ _ _ e=>e);replace v3:=v3.kept k3 (λ_ _ _ e=>e);have KA3:=(K2.trans' K3).trans' k3;revert K3 b3 v2 v3 KA3;refine nx ?_;intro K3 b3 v2 v3 KA3;go_wp2_with fail;refine(h21.out _ KA3).mono ?_;rintro e w4 ⟨rfl,K4⟩;have KA4:=KA3.trans' K4;revert K4 KA4;refine ct ?_;intro K4 KA4;go_wp2_with fail;refine(h22.out _ KA4).mono ?_;rintro e w5 ⟨rfl,K5⟩;have k5:=(Kept.refl aK w5).alloc (cO #[ayg,.int .i64 R] 52);have b5:(w5.alloc (cO #[ayg,.int .i64 R] 52)).heap[w5.heap.size]?=some (.cells #[ayg,.int .i64 R] 52 (0,0)):=ao;have KA5:=(KA4.trans' K5).trans' k5;revert K5 b5 KA5;refine jk ?_;intro K5 b5 KA5;go_wp2_with fail;refine(h23.out _ KA5).mono ?_;rintro e w6 ⟨a6,c6,rfl,v6,K6⟩;have KA6:=KA5.trans' K6;revert v6 K6 KA6;refine jk ?_;intro v6 K6 KA6;go_wp2_with fail;refine(h24.out _ KA6).mono ?_;rintro e w7 ⟨a7,c7,rfl,v7,K7⟩;have k7:=(Kept.refl aK w7).alloc (cO #[sV a7 ML c7,.int .i64 R] 36);have b7:(w7.alloc (cO #[sV a7 ML c7,.int .i64 R] 36)).heap[w7.heap.size]?=some (.cells #[sV a7 ML c7,.int .i64 R] 36 (0,0)):=ao;have KA7:=(KA6.trans' K7).trans' k7;have kx5:=(K6.out.trans' K7).trans' k7;have kx3:=((K4.out.trans' K5.out).trans' k5).trans' kx5;have y3:=aJ b3.out kx3;have y5:=aJ b5.out kx5;have d30:=aC y3 0;have Pp:=ah (Jz ayk Zr.out (v2.out.kept kx3 (λ_ _ _ e=>e)) (v3.out.kept kx3 (λ_ _ _ e=>e)));have x6:=(asL.cell v6.out).kept (K7.trans' k7) (λ_ _ _ e=>e);have x7:=(asL.cell v7).kept k7 (λ_ _ _ e=>e);have h15:=ah (fun(V:YC) (hk:Kept aK (w7.alloc (cO #[sV a7 ML c7,.int .i64 R] 36)) V)=>aoW 60 _ _ _ RL _ _ eF.out (x6.kept hk (λ_ _ _ e=>e)) (x7.kept hk (λ_ _ _ e=>e)));obtain⟨ayt,hV7⟩:∃V,V=w7.alloc (cO #[sV a7 ML c7,.int .i64 R] 36):=⟨_,rfl⟩
 rw[<-hV7] at y3 y5 b7 Pp x6 h15 KA7 d30;revert v7 K7 k7 kx5 kx3 x7 KA7 x6 b7 y5 y3;refine ahi ?_;intro v7 K7 k7 kx5 kx3 x7 KA7 x6 b7 y5 y3;go_upto_region 10 with fail;rw[<-hV7];replace hV7:=ah hV7;go_upto_region 13 with(first
  |(go_at_call 12;refine Pp.mono ?_;rintro e w8 ⟨rfl,K8⟩;have z7:=aJ b7.out K8;have d70:=aC z7 0;replace K8:=ah K8;replace z7:=ah z7)
  |(go_at_call 15;refine(h15.out _ K8).mono ?_;rintro e w9 ⟨rfl,K9⟩;have z39:=aJ (aJ y3.out K8) K9;have z59:=aJ (aJ y5.out K8) K9;have z79:=aJ z7.out K9;have e31:=aC z39 1;have e50:=aC z59 0;have e51:=aC z59 1;have e71:=aC z79 1;have KA9:=ah ((KA7.out.trans' K8).trans' K9);replace z39:=ah z39;replace z59:=ah z59;replace z79:=ah z79;replace K9:=ah K9)
  |(go_at_call 25;refine(h25.out _ KA9).mono ?_;rintro e wA ⟨rfl,KA⟩;have KAA:=ah (KA9.trans' KA);replace KA:=ah KA)
  |(go_at_call 26;refine(h26.out _ KAA).mono ?_;rintro e wB ⟨rfl,KB⟩;have KAB:=ah (KAA.trans' KB);have KX:=ah ((((Kept.trans' K8 K9).trans' KA).trans' KB));replace KB:=ah KB))
 by_cases h0:R=0
 .subst h0;obtain⟨CR,hC,h7,hD,axm⟩:=hsy.out rfl h2;obtain⟨N1,hN1⟩:∃m,CR.length=m:=⟨_,rfl⟩
  have hM1:ML=N1+1:=by rw[<-Ab.out,hC,j0,hN1];rfl
  rw[hN1] at axm;have hxB:=x6.out.kept KX (λ_ _ _ e=>e);rw[hC] at hxB h7;rw[hM1] at hxB;obtain⟨g,off,rfl,QE,hv⟩:=an.axb hxB h7 hN1;rw[show N1=ML - 1 by omega] at hv;have h17:=aw0 hD hv;rw[<-hdv.out rfl] at h17;have hwr:wrap64 ((ML:Int) - 1)=((ML - 1:Nat):Int):=by unfold wrap64;omega
  have hm1:ML - (ML - 1)=1:=ab;have cg:ML - 1<=c6:=ab;have fy:ML - 1<=ML:=ab;have axp:ML<=c6:=ab;have axq:¬c6=ML - 1:=ab;have axr:∀n,(⟨g,off,none⟩:Addr).add n=⟨g,off+n,none⟩:=λn=>by simp[Addr.add]
  have arW:(0:Int) < (ML:Int):=ab;revert hC h7 hD hN1 hM1 hxB hv h17;refine TR ?_;intro hC h7 hD hN1 hM1 hxB hv h17;go_wp2_with fail;refine h17.out.mono ?_;rintro e ayu ⟨rfl,axx⟩;go_wp2_with fail;go_ret;exact⟨rfl,KAB.trans' axx⟩
 .have h0':(R !=0)=true:=by simpa using h0
  go_wp2_with fail;go_ret;exact⟨rfl,KAB⟩
end Go.Proofs.Gm
