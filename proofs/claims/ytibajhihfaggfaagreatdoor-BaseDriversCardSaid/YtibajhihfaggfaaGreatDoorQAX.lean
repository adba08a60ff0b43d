/- BaseDrivers. No condition. -/
import Derived.Test.YtibajhihfaggfaaGreatDoorQAW
set_option linter.all false
set_option maxRecDepth 100000
set_option maxHeartbeats 0
namespace Go.Proofs.Bm
open Go.Proofs.Tryz Go.RowKit Go.Maps Go.Shelf
variable {v:YE}{W:YC}{N n:Nat}{xs:YT}
attribute [local go_sem] Rs
def Wx{w w':YC}(hb:Below w.heap.size w w'):w.grownBy w' none:=⟨hb.os,hb.tape,hb.output,hb.size,λk hk _=>hb.block k hk⟩
def ajr(cls:YR)(a:YS)(n cap:Nat)(w:YC):Calls prog 49 #[.string cls,sV a n cap] w λe w'=>e=.returned (.func (.func 81) #[] #[.pointer (some ⟨w.heap.size+1,0,none⟩),.pointer (some ⟨w,0,none⟩)])/\w'=(w.alloc (cO #[.string cls] 9)).alloc (cO #[sV a n cap] 48):=by refine fg ?_;intro sE;go_enter func49,ntmps49;exact cQ
def ahe{w:YC}{xs:List ByteArray}(h:∃g off cap,v=sV (some ⟨g,off,none⟩) xs.length cap/\xs.length<=cap/\∀(k:Nat) (nm:YR),xs[k]?=some nm->w.cell? ⟨g,off+k,none⟩=some (.string nm))(hx:xs.length≠0)(hn:xs.length<=1000)(hl:(Lib.join (xs.map (·.data.toList)) [32]).length<=1000000):Calls prog 50 #[v] w λe w'=>e=.returned (.string ⟨(Lib.join (xs.map (·.data.toList)) [32]).toArray⟩)/\Below w.heap.size w w':=by
 obtain⟨g,off,cap,rfl,oG,hc⟩:=h;by_cases h0:xs.length=0
 .exact absurd h0 hx
 have hg:g < w.heap.size:=cA w _ (hc 0 _ (ck ab));have hj:=Tryz.strings_Join g off cap xs ⟨#[32]⟩ w (λj x h=>hc j x h) hg ab oG (by exact cn hl ab);go_enter func50,ntmps50;go_wp2_with fail;refine hj.mono ?_;rintro e w' ⟨rfl,hb⟩;go_wp2;go_ret;exact⟨rfl,hb⟩
def amJ{B:Nat}{s:YE}(hb:Boxed W B 9 s)(hr:W.ownsRow N 9 1 v n xs)(hn:2<=n):v.ownBlock≠some B:=by
 rcases hr.2 with⟨rfl,_⟩|⟨g,cap,cur,rfl,_,hg,h1,_,h2,_⟩
 .simp[Value.ownBlock]
 .intro e;obtain rfl:g=B:=yM;have:=(show W.heap[g]?=_ from hb).symm.trans hg;simp at this;rw[<-this] at h2;simp at h2;omega
def ahf(hr:W.ownsRow N 9 1 v n xs)(k:Nat)(e:v.ownBlock=some k):N<=k:=by exact J8
def TO{D:Nat}{o:Obj}(hb:W.heap[D]?=some o)(ho:o.isCells=false)(hr:W.ownsRow N 9 1 v n xs):v.ownBlock≠some D:=by
 rcases hr.2 with⟨rfl,_⟩|⟨g,cap,cur,rfl,_,hg,_⟩
 .simp[Value.ownBlock]
 .intro e;obtain rfl:g=D:=yM;rw[hb] at hg
  cases hg
  cases ho
end Go.Proofs.Bm
namespace Go.Proofs.Gm
open Go.Proofs.Tryz
open Go.RowKit Go.Maps Go.IntWalk Go.Proofs.Bm
variable {cls:Yz}{n:Int}{l:List SC}
def P10(w:YC):Prop:=Lib.TabIs prog w "internal/strconv.uint64pow10" .u64 Lib.pow10Tab
def P10.no{w w':YC}(h:P10 w)(hk:Kept aK w w'):P10 w':=by
 unfold P10 Lib.TabIs World.var? at h|-
 cases hg:prog.globalNamed "internal/strconv.uint64pow10" with
 |none=>rw[hg] at h;cases h
 |some g=>
  rw[hg] at h;simp only[Ae] at h|-
  cases hb:w.heap[g]? with
  |none=>rw[hb] at h;cases h
  |some o=>rw[(hk.block g (aQ.1 hb).1 (λe=>e)).trans hb];rw[hb] at h;exact h
def avu:∀(f n:Nat),n < 10 ^ f->0 < f->Lib.decDigits n=(tb f n).map UInt8.ofNat
 |0,_,_,h=>absurd h ab
 |f+1,n,h,_=>by
  rw[aaJ];by_cases h1:n < 10
  .rw[aI h1,Lib.decDigits_one h1];rfl
  .rw[aE h1,Lib.decDigits,dif_neg h1,MM];rw[avu f (n / 10) atU (by rcases f with _|f;(simp at h;omega);omega)];rfl
def awy(h0:0<=n)(h1:n<=9223372036854775807):(⟨(Lib.itoa n).toArray⟩:ByteArray)=bs (tb 20 n.toNat):=by unfold Lib.itoa;rw[aE ab,avu 20 n.toNat ab ab];rfl
def avP(h0:0<=n)(h1:n<=9223372036854775807){w:YC}(hE:P10 w):Calls prog 83 #[.int .i64 n] w λe w'=>e=.returned (.string (bs (tb 20 n.toNat)))/\Kept aK w w':=by refine(Any.strconv_Itoa Tryz.ad4 n ab h1 w hE).mono ?_;rintro e w' ⟨rfl,k,os,rfl⟩;exact⟨by rw[awy h0 h1],rfl,rfl,rfl,by rw[Sort.size_grow];exact Nat.le_add_right _ _,λj hj _=>M4 hj⟩
def awK(h:avm n){w:YC}(hE:P10 w):Calls prog 82 #[.int .i64 n] w λe w'=>e=.returned (.string (bs (as0 n)))/\Kept aK w w':=by
 unfold avm at h;by_cases h0:n < 0
 .have e:as0 n=tx "- "++tb 20 (-n).toNat:=by unfold as0 amq;rw[if_pos h0];rfl
  have hc:=avP (n:=-n) ab ab hE;have hw:IntKind.i64.wrap (-n)=-n:=i64_in _ ab;have dM:¬9223372036854775807 < (2:Nat)+(bs (tb 20 (-n).toNat)).size:=by exact atA
  rw[e];obtain⟨D,hD⟩:∃D,tb 20 (-n).toNat=D:=⟨_,rfl⟩
  rw[hD] at hc dM|-;have hj:(⟨#[45,32]⟩:ByteArray)++bs D=bs (tx "- "++D):=aaK (tx "- ") D;revert hE hc hD hj;refine jU ?_;intro hE hc hD hj;go_enter func82,ntmps82;go_wp2_with fail;refine hc.out.mono ?_;exact ats
 .have e:as0 n=tb 20 n.toNat:=by unfold as0 amq;rw[if_neg h0];rfl
  have hc:=avP (n:=n) ab ab hE;rw[e];revert hE hc;refine ct ?_;intro hE hc;go_enter func82,ntmps82;go_wp2_with fail;refine hc.out.mono ?_;rintro e w1 ⟨rfl,K⟩;go_wp2_with fail;go_ret;exact⟨rfl,K⟩
open Go.Shelf
attribute [local go_sem] Rs
def at2(cls:Yz):Nat->List SC->List (List Nat)
 |_,[]=>[]
 |i,x::l=>lnT cls i x::at2 cls (i+1) l
def avv(cls:Yz):∀(l:List SC) (i k:Nat) (x:SC),l[k]?=some x->(at2 cls i l)[k]?=some (lnT cls (i+k) x)
 |[],_,_,_,h=>by cases h
 |y::l,i,0,x,h=>by cases h;rfl
 |y::l,i,k+1,x,h=>by
  have:=avv cls l (i+1) k x h;rw[show i+1+k=i+(k+1) by omega] at this;exact this
def at3(cls:Yz):∀(l:List SC) (i:Nat),(at2 cls i l).length=l.length
 |[],_=>rfl
 |_::l,i=>gq (· +1) (at3 cls l (i+1))
def axW(n:Nat)(A B:Int):List Nat:=if n=1 then tx "( "++(as0 A++tx " ) ") else if n=2 then tx "( "++(as0 A++(tx " , "++(as0 B++tx " ) "))) else[]
def awT(n:Nat)(A B:Int):tx " "++(axW n A B++tx ";")=axv n A B++tx " ;":=by
 unfold axW axv;split
 .simp only[I5];rfl
 .split
  .simp only[I5];rfl
  .rfl
def awU{n:Nat}(hn:n<=2)(A B:Int)(w:YC):(Instr.index 153 (.agg #[.string ⟨#[]⟩,.string (bs (tx "( "++(as0 A++tx " ) "))),.string (bs (tx "( "++(as0 A++(tx " , "++(as0 B++tx " ) ")))))]) (iV n)).run prog w=.ok (.string (bs (axW n A B))) w:=by
 obtain rfl|rfl|rfl:n=0∨n=1∨n=2:=ab
 .kernel_rfl
 .kernel_rfl
 .kernel_rfl
def awj(h9:cls∈at8){L:List SC}(bL:∀x∈L,axL cls x=true)(auL:L.length<=40)(n:Nat)(hn:1<=n)(l Bl Bc cap n₀:Nat){a:YS}(J Jx:List ByteArray->World->Prop)(hJ:∀s W W',J s W->Below W.heap.size W W'->J s W')(hY:∀pre x W,J pre W->pre.length < L.length->YieldAt Fence.wide (n - 1) prog l #[.string x] W λe W'=>(e=.returned (.bool true)/\J (pre++[x]) W'/\Below n₀ W W'/\W'.heap[Bc]?=W.heap[Bc]?)∨(e=.returned (.bool false)/\Jx (pre++[x]) W'))(W:YC)(hP:∀W',Below n₀ W W'->P10 W')(h1:W.cell? ⟨Bl,0,none⟩=some (sV a L.length cap))(h2:W.heap[Bc]?=some (.cells #[cls] 9 (0,0)))(hc:∀(k:Nat) (x:SC),L[k]?=some x->∃g off,a=some ⟨g,off,none⟩/\g < n₀/\W.cell? ⟨g,off+k*3,none⟩=some (.string (bs x.1))/\W.cell? ⟨g,off+k*3+1,none⟩=some (.int .i64 x.2.1)/\W.cell? ⟨g,off+k*3+2,none⟩=some (.int .i64 x.2.2))(h0:J [] W)(nz:n₀<=W.heap.size):CallsIn Fence.wide n prog 81 #[.func (.yield l) #[] #[],.pointer Bl,.pointer Bc] W λe W'=>(∃v,e=.returned v)/\((∃ys,ys=(at2 cls 0 L).map bs/\J ys W')∨(∃pre,pre <+:(at2 cls 0 L).map bs/\Jx pre W')):=by
 have hm:=auZ h9;have hcS:((bs cls).toList==[83,84,65,67,75])=(cls==tx "STACK"):=avZ hm "STACK" aj;obtain⟨axt,avB⟩:∃b,(cls==tx "STACK")=b:=⟨_,rfl⟩
 rw[avB] at hcS;obtain⟨XS,hXS⟩:∃X,(at2 cls 0 L).map bs=X:=⟨_,rfl⟩
 have hXn:XS.length=L.length:=by rw[<-hXS,Af,at3]
 have hXk:∀k x,L[k]?=some x->XS.take (k+1)=XS.take k++[bs (lnT cls k x)]:=λk x h=>by
  rw[wZ,<-hXS,qC,avv cls L 0 k x h,fi];rfl
 have h54:=fun(s:Yz) (hs:bW s) (w:YC)=>auC hm hs w;obtain⟨KL,sc⟩:∃m,L.length=m:=⟨_,rfl⟩
 rw[hXS];rw[sc] at hY h1 hXn auL;refine callsIn_of_wp func81 rfl bw ?_ rfl;simp only[ntmps81,JG,dC,mc,Nat.reduceAdd,Nat.reduceSub,I1,I2,I3,I4,xR,qF];have g2:W.cell? ⟨Bc,0,none⟩=some (.string (bs cls)):=by unfold World.cell?;rw[h2];rfl
 revert h9 bL h2 hc hXS hXk h54 sc;refine TR ?_;intro h9 bL h2 hc hXS hXk h54 sc;gi_wp2;gi_loopw [13] (λi wr=>∃k:Nat,k<=KL/\i=iV k/\J (XS.take k) wr/\Below n₀ W wr/\wr.heap[Bc]?=W.heap[Bc]?) (λi _=>KL - (intOf i).toNat)
 case atStart=>exact⟨0,dE _,rfl,h0,iG _ _,rfl⟩
 case round=>
  obtain⟨k,hk,rfl,hJs,ZK,QG⟩:=hrel;have g2:wr.cell? ⟨Bc,0,none⟩=some (.string (bs cls)):=by unfold World.cell?;rw[QG,h2.out];rfl
  have hsc:Bc < wr.heap.size:=cA wr _ g2;replace QG:=ah QG;by_cases bQ:k < KL
  .have aiu:k < L.length:=by rw[sc.out];exact bQ
   obtain⟨⟨s,A,B⟩,hz⟩:∃z,L[k]?=some z:=⟨_,ck aiu⟩
   have hx:=bL.out _ (cm hz);obtain⟨hs,av1,axA,axJ,awV⟩:=auq hx;obtain⟨g,off,rfl,hg,x0,x1,x2⟩:=hc.out k _ hz;have y0:=(ZK.cell (p:=⟨g,off+k*3,none⟩) hg).trans x0;have y1:=(ZK.cell (p:=⟨g,off+k*3+1,none⟩) hg).trans x1;have y2:=(ZK.cell (p:=⟨g,off+k*3+2,none⟩) hg).trans x2;have xY:(k:Int) < (KL:Int):=ab;have oL:(0:Int)<=(k:Int):=ab;have hXe:=hXk.out k _ hz;have c54:=h54.out s hs;dsimp only at y0 y1 y2 hs av1 axA axJ awV;revert hz hx awV hXe;refine jU ?_;intro hz hx awV hXe;gi_wp2_with fail;refine⟨bw,(mA.2 (c54 _)).mono ?_⟩;rintro e w3 ⟨hco,K3⟩;obtain⟨axV,r,auI,rfl⟩:∃(axV:Nat) (r:TG),(cz cls).lookup s=some (axV,r)/\e=.returned (.tuple #[.agg #[s,iV axV,.bool r],.bool true]):=by
    rcases hco with h|⟨auI,-⟩
    .exact h
    .have h:=hx.out;unfold axL at h;rw[auI] at h
     cases h
   have Pt:=auP auI;obtain⟨-,ayb,ayc⟩:=asX.1 _ _ auI;have d5:=aJ (show(wr.alloc (cO #[s,.int .i64 A,.int .i64 B] 59)).heap[wr.heap.size]?=some (.cells #[s,.int .i64 A,.int .i64 B] 59 (0,0)) by rw[heap_alloc,aI rfl]) K3;obtain⟨V0,hV0⟩:∃V,V=w3.alloc (cO #[s,iV axV,.bool r] 101):=⟨_,rfl⟩
   have d6:V0.heap[wr.heap.size]?=some (.cells #[s,.int .i64 A,.int .i64 B] 59 (0,0)):=hV0▸aD d5;have d7:V0.heap[w3.heap.size]?=some (.cells #[s,iV axV,.bool r] 101 (0,0)):=by rw[hV0,heap_alloc,aI rfl]
   have KV:Kept aK wr V0:=hV0▸((((Kept.refl aK wr).alloc _).trans' K3).alloc _);have x5:=aC d5 0;have y1:=aC d6 1;have y2:=aC d6 2;have y3:=aC d7 1;have hn3:=ZK.trans (KV.below (B:=n₀) (cn nz ZK.size) (λ_ e=>e.elim));have hA:=fun(V:YC) (hK:Kept aK V0 V)=>awK axA (hP V (hn3.trans (hK.below (B:=n₀) (cn nz hn3.size) (λ_ e=>e.elim))));have hB:=fun(V:YC) (hK:Kept aK V0 V)=>awK axJ (hP V (hn3.trans (hK.below (B:=n₀) (cn nz hn3.size) (λ_ e=>e.elim))));have hI2:=fun(V:YC) (hK:Kept aK V0 V)=>avP (n:=(k:Int)+1) ab ab (hP V (hn3.trans (hK.below (B:=n₀) (cn nz hn3.size) (λ_ e=>e.elim))));have avg:=λw=>awU Pt A B w;have dq:=awT axV A B;have hln:=au8 cls k (s,A,B) av1;have la:=asE A;have lb:=asE B;have lk:=asE ((k:Int)+1);obtain⟨axu,at7⟩:∃t,lnT cls k (s,A,B)=t:=⟨_,rfl⟩
   rw[at7] at hln;replace hXe:=hXe.out;rw[at7] at hXe;unfold lnT axP caT at at7;dsimp only at at7;rw[avB,ayb,ayc] at at7;obtain⟨bp,hbp⟩:∃b,(s==tx "push")=b:=⟨_,rfl⟩
   obtain⟨bk,M6⟩:∃b,(s==tx "peek")=b:=⟨_,rfl⟩
   have ax7:((bs s).toList==[112,117,115,104])=bp:=(avZ hs "push" aj).trans hbp;have ax8:((bs s).toList==[112,101,101,107])=bk:=(avZ hs "peek" aj).trans M6;obtain⟨axw,hTK⟩:∃t,as0 ((k:Int)+1)=t:=⟨_,rfl⟩
   have awW:tb 20 ((k:Int)+1).toNat=axw:=by rw[<-hTK];unfold as0 amq;rw[if_neg ab];rfl
   obtain⟨axQ,hAT⟩:∃t,axW axV A B=t:=⟨_,rfl⟩
   have lat:axQ.length<=60:=by
    rw[<-hAT];unfold axW;split
    .simp only[j0,show(tx "( ").length=2 from rfl,show(tx " ) ").length=3 from rfl];omega
    .split
     .simp only[j0,show(tx "( ").length=2 from rfl,show(tx " ) ").length=3 from rfl,show(tx " , ").length=3 from rfl];omega
     .exact dE _
   rw[hAT] at avg dq;obtain⟨at9,hTA⟩:∃t,as0 A=t:=⟨_,rfl⟩
   obtain⟨axB,hTB⟩:∃t,as0 B=t:=⟨_,rfl⟩
   obtain⟨GT,hGT⟩:∃t,axv axV A B=t:=⟨_,rfl⟩
   rw[hbp] at at7;rw[M6,hTK,hTA,hGT] at at7;rw[hGT] at dq;rw[hTA] at hA avg la;rw[hTB] at hB avg lb;rw[hTK] at lk;rw[awW] at hI2;have ax4:(bs at9).size=at9.length:=tf at9;have ayj:(bs axB).size=axB.length:=tf axB;have ayn:(bs axw).size=axw.length:=tf axw;have ayr:(bs axQ).size=axQ.length:=tf axQ;have ays:(bs s).size=s.length:=tf s;replace auI:=ah auI;replace ayb:=ah ayb;replace ayc:=ah ayc;replace d6:=ah d6;replace d7:=ah d7;replace KV:=ah KV;replace y1:=ah y1;replace y2:=ah y2;replace y3:=ah y3;replace hn3:=ah hn3;replace hA:=ah hA;replace hB:=ah hB;replace hI2:=ah hI2;replace avg:=ah avg;replace dq:=ah dq;replace at7:=ah at7;replace hXe:=ah hXe;replace hbp:=ah hbp;replace M6:=ah M6;replace hTK:=ah hTK;replace awW:=ah awW;replace hAT:=ah hAT;replace hTA:=ah hTA;replace hTB:=ah hTB;replace hGT:=ah hGT;replace hs:=ah hs;replace K3:=ah K3;replace Pt:=ah Pt;replace d5:=ah d5;replace axA:=ah axA;replace axJ:=ah axJ;have gV0:V0.heap[Bc]?=W.heap[Bc]?:=(KV.out.block Bc hsc (λe=>e)).trans QG.out;replace gV0:=ah gV0;gi_wp2_with fail;rw[<-hV0];replace hV0:=ah hV0;refine wpIn_wide.2 ?_;have j1:∀b,(⟨#[40,32]⟩:ByteArray)++bs b=bs (tx "( "++b):=λb=>aaK (tx "( ") b;have j2:∀a,bs a++(⟨#[32,41,32]⟩:ByteArray)=bs (a++tx " ) "):=λa=>aaK a (tx " ) ");have j3:∀a,bs a++(⟨#[32,44,32]⟩:ByteArray)=bs (a++tx " , "):=λa=>aaK a (tx " , ");have z3:¬9223372036854775807 < 2+(bs at9).size:=ab;have z4:¬9223372036854775807 < (bs (tx "( "++at9)).size+3:=by simp only[tf,j0,show(tx "( ").length=2 from rfl];omega
   have z13:¬9223372036854775807 < (bs (tx "( "++(at9++tx " , "))).size+(bs axB).size:=by simp only[tf,j0,show(tx "( ").length=2 from rfl,show(tx " , ").length=3 from rfl];omega
   have z14:¬9223372036854775807 < (bs (tx "( "++(at9++(tx " , "++axB)))).size+3:=by simp only[tf,j0,show(tx "( ").length=2 from rfl,show(tx " , ").length=3 from rfl];omega
   replace j1:=ah j1;replace j2:=ah j2;replace j3:=ah j3;replace ax4:=ah ax4;replace ayj:=ah ayj;refine aY [some 25,some 26,some 27,some 28,some 29,some 30,some 31,some 32,some 33,some 34,some 35,some 36,some 37,some 38,some 39,some 40,some 41,some 42,some 43,some 8] [0,1,2,3,4,5,6,7,8,9,10,11,12,13,14,15,16,17,18,19] (A:=?_) (λlb u V=>(Kept aK V0 V)/\VT [some (.pointer (some ⟨wr,1,none⟩)),some (.int .i64 A),some (.string (bs (at9))),some (.string (bs (tx "( "++at9))),some (.string (bs (tx "( "++(at9++tx " ) ")))),some (.pointer (some ⟨wr,1,none⟩)),some (.int .i64 A),some (.string (bs (at9))),some (.string (bs (tx "( "++at9))),some (.string (bs (tx "( "++(at9++tx " , ")))),some (.pointer (some ⟨wr,2,none⟩)),some (.int .i64 B),some (.string (bs (axB))),some (.string (bs (tx "( "++(at9++(tx " , "++axB))))),some (.string (bs (tx "( "++(at9++(tx " , "++(axB++tx " ) ")))))),some (.agg #[.string ⟨#[]⟩,.string (bs (tx "( "++(at9++tx " ) "))),.string (bs (tx "( "++(at9++(tx " , "++(axB++tx " ) ")))))]),some (.pointer (some ⟨w3,1,none⟩)),some (iV axV),some (.string (bs (axQ))),some (.string (bs (axQ)))] lb u) af af (λu=>?_) (λlb u h0=>⟨(Kept.refl aK V0).drew,VT.none rfl h0⟩) ?_ (λlb u V hl hI=>?_);rotate_left
   .exact bK
   .repeat' first|apply Bm.be.cons|exact Bm.be.nil
    all_goals intro lb u V K hl hn hf hI hK
    .exact fV
    .have e0:=hI.2 0 _ rfl (hn 0 af);have z1:=hI.1.aq y1.out (λe=>e);have z2:=hI.1.aq y2.out (λe=>e);have z3:=hI.1.aq y3.out (λe=>e);exact mH
    .have e1:=hI.2 1 _ rfl (hn 1 af);go_simp;refine bD (hA.out V (hI.1)) λwA KA=>?_;dsimp only;exact hK _ _ _ ⟨hI.1.trans' KA,hI.2.yes 2⟩ tX
    .have e2:=hI.2 2 _ rfl (hn 2 af);go_simp;exact hK _ _ _ ⟨hI.1,hI.2.yes 3⟩ (by rw[e2];try simp only[aaK,j1.out,j2.out,j3.out,I5];try rfl)
    .have e3:=hI.2 3 _ rfl (hn 3 af);go_simp;exact hK _ _ _ ⟨hI.1,hI.2.yes 4⟩ (by rw[e3];try simp only[aaK,j1.out,j2.out,j3.out,I5];try rfl)
    .exact aty
    .have e5:=hI.2 5 _ rfl (hn 5 af);have z1:=hI.1.aq y1.out (λe=>e);have z2:=hI.1.aq y2.out (λe=>e);have z3:=hI.1.aq y3.out (λe=>e);exact Du
    .have e6:=hI.2 6 _ rfl (hn 6 af);go_simp;refine bD (hA.out V (hI.1)) λwA KA=>?_;dsimp only;exact hK _ _ _ ⟨hI.1.trans' KA,hI.2.yes 7⟩ pt
    .have e7:=hI.2 7 _ rfl (hn 7 af);go_simp;exact hK _ _ _ ⟨hI.1,hI.2.yes 8⟩ (by rw[e7];try simp only[aaK,j1.out,j2.out,j3.out,I5];try rfl)
    .have e8:=hI.2 8 _ rfl (hn 8 af);go_simp;exact hK _ _ _ ⟨hI.1,hI.2.yes 9⟩ (by rw[e8];try simp only[aaK,j1.out,j2.out,j3.out,I5];try rfl)
    .go_simp;exact hK _ _ _ ⟨hI.1,hI.2.yes 10⟩ rfl
    .have zv:=hI.2 10 _ rfl (hn 10 af);have z1:=hI.1.aq y1.out (λe=>e);have z2:=hI.1.aq y2.out (λe=>e);have z3:=hI.1.aq y3.out (λe=>e);go_simp;exact hK _ _ _ ⟨hI.1,hI.2.yes 11⟩ uJ
    .have xU:=hI.2 11 _ rfl (hn 11 af);go_simp;refine bD (hB.out V (hI.1)) λwA KA=>?_;dsimp only;exact hK _ _ _ ⟨hI.1.trans' KA,hI.2.yes 12⟩ asH
    .have e9:=hI.2 9 _ rfl (hn 9 af);have Qz:=hI.2 12 _ rfl (hn 12 af);go_simp;exact hK _ _ _ ⟨hI.1,hI.2.yes 13⟩ (by rw[e9,Qz];try simp only[aaK,j1.out,j2.out,j3.out,I5];try rfl)
    .have QA:=hI.2 13 _ rfl (hn 13 af);go_simp;exact hK _ _ _ ⟨hI.1,hI.2.yes 14⟩ (by rw[QA];try simp only[aaK,j1.out,j2.out,j3.out,I5];try rfl)
    .have e4:=hI.2 4 _ rfl (hn 4 af);have e14:=hI.2 14 _ rfl (hn 14 af);go_simp;exact hK _ _ _ ⟨hI.1,hI.2.yes 15⟩ (by rw[e4,e14];try rfl)
    .go_simp;exact hK _ _ _ ⟨hI.1,hI.2.yes 16⟩ rfl
    .have e16:=hI.2 16 _ rfl (hn 16 af);have z1:=hI.1.aq y1.out (λe=>e);have z2:=hI.1.aq y2.out (λe=>e);have z3:=hI.1.aq y3.out (λe=>e);go_simp;exact hK _ _ _ ⟨hI.1,hI.2.yes 17⟩ (by rw[e16];try rfl)
    .have e15:=hI.2 15 _ rfl (hn 15 af);have e17:=hI.2 17 _ rfl (hn 17 af);go_simp;rw[avg.out];exact hK _ _ _ ⟨hI.1,hI.2.yes 18⟩ (by rw[e15,e17];try rfl)
    .have e18:=hI.2 18 _ rfl (hn 18 af);go_simp;exact hK _ _ _ ⟨hI.1,hI.2.yes 19⟩ (by rw[e18];try rfl)
   replace ax4:=ax4.out;have e19:=hI.2 19 _ rfl (hl 19 aj);obtain⟨jl,-⟩:=hI;have d8:=aJ d6.out jl;have d9:=aJ d7.out jl;have v0:=aC d8 0;have v1:=aC d8 1;have v6:=aC d9 2;have hV3:=hn3.out.trans (jl.below (B:=n₀) (cn nz hn3.out.size) (λ_ e=>e.elim));have zp:V.heap[Bc]?=W.heap[Bc]?:=(jl.block Bc (qD hsc KV.out.size) (λe=>e)).trans gV0.out;have hfr:=fun(V':YC) (hK:Kept aK V V')=>(⟨hJ _ _ _ hJs (((KV.out.trans' jl).trans' hK).below (aM _) (λ_ e=>e.elim)),hV3.trans (hK.below (B:=n₀) (cn nz hV3.size) (λ_ e=>e.elim)),(hK.block Bc (qD (qD hsc KV.out.size) jl.size) (λe=>e)).trans zp⟩:J (XS.take k) V'/\Below n₀ W V'/\V'.heap[Bc]?=W.heap[Bc]?)
   have v2:V.cell? ⟨Bc,0,none⟩=some (.string (bs cls)):=by unfold World.cell?;rw[zp,h2.out];rfl
   have fin:∀V' (K':Kept aK V V') (b:YR),True:=λ_ _ _=>bw;clear fin z3 z4 z13 z14;revert jl d8 d9 hV3 zp hfr;refine LX ?_;intro jl d8 d9 hV3 zp hfr;have key:(axt=true/\bp=true)∨(axt=true/\bp=false/\bk=true)∨((axt=false∨(axt=true/\bp=false/\bk=false))/\(r=true∨r=false)):=by cases axt<;>cases bp<;>cases bk<;>cases r<;>simp
   rcases key with⟨rfl,rfl⟩|⟨rfl,rfl,rfl⟩|⟨rfl|⟨rfl,rfl,rfl⟩,rfl|rfl⟩
   .have he:(⟨#[99,114,101,97,116,101,32,107,32,46,32,109,97,107,101,32,59,32,107,32,46,32,97,100,100,32,40,32]⟩:ByteArray)++bs at9++(⟨#[32,41,32,59,32,99,32,46,32,112,117,115,104,32,40,32,107,32,41,32,59]⟩:ByteArray)=bs axu:=by rw[<-show tx "create k . make ; k . add ( "++(at9++tx " ) ; c . push ( k ) ;")=axu from at7.out];show bs (tx "create k . make ; k . add ( ")++bs at9++bs (tx " ) ; c . push ( k ) ;")=_;exact asS
    gi_wp2_with fail;refine⟨bw,(mA.2 (hA.out _ jl)).mono ?_⟩;exact axK
   .have he:(⟨#[105,102,32,97,116,116,97,99,104,101,100,32,99,32,46,32,112,101,101,107,32,97,115,32]⟩:ByteArray)++((⟨#[112,95]⟩:ByteArray)++bs axw)++(⟨#[32,116,104,101,110,32,112,117,116,32]⟩:ByteArray)++((⟨#[112,95]⟩:ByteArray)++bs axw)++(⟨#[32,46,32,99,111,117,110,116,32,59,32,101,108,115,101,32,112,117,116,32,48,32,59,32,101,110,100,32,59]⟩:ByteArray)=bs axu:=by rw[<-show tx "if attached c . peek as "++((tx "p_"++axw)++(tx " then put "++((tx "p_"++axw)++tx " . count ; else put 0 ; end ;")))=axu from at7.out];show bs (tx "if attached c . peek as ")++(bs (tx "p_")++bs axw)++bs (tx " then put ")++(bs (tx "p_")++bs axw)++bs (tx " . count ; else put 0 ; end ;")=_;exact asS
    gi_wp2_with fail;refine⟨bw,(mA.2 (hI2.out _ jl)).mono ?_⟩;exact axK
   all_goals
    obtain⟨hJ5,hn5,jV⟩:=hfr.out _ (Kept.refl _ _);revert hn5 jV;refine ct ?_;intro hn5 jV
    first
     |have he:(⟨#[112,117,116,32]⟩:ByteArray)++((⟨#[99,32,46,32]⟩:ByteArray)++bs s++(⟨#[32]⟩:ByteArray)++bs axQ++(⟨#[59]⟩:ByteArray))=bs axu:=by rw[<-show tx "put "++((tx "c . "++s++GT)++tx " ;")=axu from at7.out];show bs (tx "put ")++(bs (tx "c . ")++bs s++bs (tx " ")++bs axQ++bs (tx ";"))=_;simp only[aaK,I5];rw[dq.out]
     |have he:(⟨#[99,32,46,32]⟩:ByteArray)++bs s++(⟨#[32]⟩:ByteArray)++bs axQ++(⟨#[59]⟩:ByteArray)=bs axu:=by rw[<-show[]++((tx "c . "++s++GT)++tx " ;")=axu from at7.out];show bs (tx "c . ")++bs s++bs (tx " ")++bs axQ++bs (tx ";")=_;simp only[aaK,I5,xR];rw[dq.out]
    obtain⟨fn,tmps,assign,body,hy,hR⟩:=hY _ (bs axu) _ hJ5 asO;gi_wp2;refine hR.mono ?_;rintro e W3 (⟨rfl,hJ6,hk6,hk7⟩|⟨rfl,aw2⟩)
    .exact atc
    .exact atd
  .have hkK:k=KL:=by omega
   subst hkK;have xY:¬(k:Int) < (k:Int):=ab;rw[oh ab] at hJs;gi_wp2;go_end0;exact⟨⟨_,rfl⟩,.inl hJs⟩
attribute [local go_sem] Rs
def asG(x:Yz):∀r:List (List Nat),cf (x::r)=x++r.flatMap λy=>32::y
 |[]=>by simp[cf]
 |y::r=>by show x++32::cf (y::r)=_;rw[asG y r];simp
def auR(cls:Yz):∀(l:List SC) (i:Nat),auD cls i l=(at2 cls i l).flatMap λy=>32::y
 |[],_=>rfl
 |x::l,i=>by rw[auD,at2,rz,auR cls l (i+1)];rfl
def avw(x:Yz):∀r:List (List Nat),Lib.join (((x::r).map bs).map (·.data.toList)) [32]=(cf (x::r)).map UInt8.ofNat
 |[]=>by simp[Lib.join,List.intercalate,cf,bs]
 |y::r=>by
  have h:=avw y r;unfold Lib.join List.intercalate at h|-;simp only[lp,List.intersperse_cons₂,IW] at h|-;rw[h,show cf (x::y::r)=x++32::cf (y::r) from rfl];simp[bs]
def loT(cls:Yz):List Nat:=if cls=tx "STACK" then tx "c : STACK [ COUNTER ] ; k : COUNTER" else tx "c : "++cls
def awz(cls:Yz):List (List Nat):=[tx "class MAIN create make feature \x7b ANY \x7d make local",loT cls,tx "do create c . make ;"]
def awA(cls:Yz)(l:List SC):cf (awz cls++at2 cls 0 l++[tx "end end"])++[10]=as1 cls l:=by have e1:tx "class MAIN create make feature \x7b ANY \x7d make local c : "=tx "class MAIN create make feature \x7b ANY \x7d make local"++32::tx "c : ":=bh;have e2:tx " do create c . make ;"=32::tx "do create c . make ;":=bh;have e3:tx " end end\n"=32::(tx "end end"++[10]):=bh;have e4:tx "class MAIN create make feature \x7b ANY \x7d make local c : STACK [ COUNTER ] ; k : COUNTER do create c . make ;"=tx "class MAIN create make feature \x7b ANY \x7d make local"++32::(tx "c : STACK [ COUNTER ] ; k : COUNTER"++32::tx "do create c . make ;"):=bh;unfold awz as1;rw[qF,qF,asG,auR,Qt,Qt,e3];unfold heT loT;rw[e1,e2,e4];split<;>simp only[rz,aus,I5,gp,qF,xR]
def avx(cls:Yz):∀(l:List SC) (i:Nat),(∀x∈l,axL cls x=true)->(auD cls i l).length<=201*l.length
 |[],_,_=>aM _
 |x::l,i,h=>by
  have h1:=avx cls l (i+1) λy hy=>h y (eC _ hy);have h2:=au8 cls i x (auq (h x eu)).2.1;rw[auD,dC,j0,dC];omega
def awB(h:cls∈at8):(heT cls).length<=200:=(by decide+kernel:∀t∈at8,(heT t).length<=200) cls h
def avW(h9:cls∈at8)(bL:∀x∈l,axL cls x=true):(as1 cls l).length<=209+201*l.length:=by have h1:=awB h9;have h2:=avx cls l 0 bL;unfold as1;rw[j0,j0];show _+(_+9)<=_;omega
attribute [local go_sem] Rs
def avQ(hl:auK l)(hR:axz cls l=0)(n:Nat)(hn:5<=n){S:Wq}{a:YS}{cap:Nat}{w:YC}(hx:an S w (.sl (axM l)) (sV a l.length cap))(hE:P10 w):CallsIn Fence.wide n prog 21 #[cls,sV a l.length cap] w λe w'=>e=.returned (.tuple #[.string (bs (as1 cls l)),oZ])/\Kept aK w w':=by
 obtain⟨h9,auL,bL⟩:=auw hR;have hm:=auZ h9;have h1:1<=n:=ab;have avi:=aup hm hl hx;rw[hR] at avi;have hcS:((bs cls).toList==[83,84,65,67,75])=(cls==tx "STACK"):=avZ hm "STACK" aj;obtain⟨axt,avB⟩:∃b,(cls==tx "STACK")=b:=⟨_,rfl⟩
 rw[avB] at hcS;have asJ:=fun(V:YC) (hK:Kept aK w V) k x h=>auo (k:=k) (x:=x) (hx.kept hK (λ_ _ _ e=>e)) h;obtain⟨KL,sc⟩:∃m,l.length=m:=⟨_,rfl⟩
 rw[sc] at avi|-;have kc:(bs cls).size<=20:=by exact atv
 clear hx;revert hl hR hE h9 bL asJ avi;refine Wy ?_;intro hl hR hE h9 bL asJ avi;refine callsIn_of_wp_marks func21 rfl bw ?_ rfl;simp only[ntmps21,JG,dC,mc,Nat.reduceAdd,Nat.reduceSub,I1,I2,I3,I4,xR,qF]
 cases axt;all_goals
  first
   |have eLo:(⟨#[99,32,58,32]⟩:ByteArray)++bs cls=bs (loT cls):=by unfold loT;rw[aE (gH.1 avB)];exact aaK (tx "c : ") cls
   |have eLo:(⟨#[99,32,58,32,83,84,65,67,75,32,91,32,67,79,85,78,84,69,82,32,93,32,59,32,107,32,58,32,67,79,85,78,84,69,82]⟩:ByteArray)=bs (loT cls):=by unfold loT;rw[aI (dU.1 avB)];rfl
  have dM:(bs cls).size=cls.length:=tf cls;gi_wp2_with fail;refine⟨bw,(mA.2 avi.out).mono ?_⟩;rintro e w1 ⟨rfl,K1⟩;gi_wp2_with fail;refine⟨bw,(mA.2 (ajr _ _ _ _ _)).mono ?_⟩;rintro e w' ⟨rfl,rfl⟩;gi_wp2_with fail;obtain⟨i0,hi,A6,ey,oY⟩:=dN aoy;obtain⟨W0,OI⟩:∃W0,W0=(((w1.alloc (cO #[.string aT,.string (bs (loT cls)),.string dm] 9)).alloc (cO #[sV (some ⟨w1,0,none⟩) 3 3] 22)).alloc (cO #[cls] 9)).alloc (cO #[sV a KL cap] 48):=⟨_,rfl⟩
  have hs0:W0.heap.size=w1.heap.size+4:=by rw[OI];simp
  have b0:W0.heap[w1.heap.size]?=some (.cells #[.string aT,.string (bs (loT cls)),.string dm] 9 (0,0)):=by rw[OI];simp only[heap_alloc,dB];rw[aE ab,aE ab,aE ab,aI bw]
  have b1:Boxed W0 (w1.heap.size+1) 22 (sV (some ⟨w1,0,none⟩) 3 3):=by unfold Boxed;rw[OI];simp only[heap_alloc,World.size_alloc];rw[if_neg ab,if_neg ab,if_pos trivial]
  have b2:Boxed W0 (w1.heap.size+1+1) 9 (.string (bs cls)):=by unfold Boxed;rw[OI];simp only[heap_alloc,World.size_alloc];rw[if_neg ab,if_pos trivial]
  have b3:Boxed W0 (w1.heap.size+1+1+1) 48 (sV a KL cap):=by unfold Boxed;rw[OI];simp only[heap_alloc,World.size_alloc];rw[if_pos trivial]
  have nA:Below w1.heap.size w1 W0:=by rw[OI];exact((((iG _ w1).alloc (aM _) _).alloc ai _).alloc aH _).alloc aH _
  have hKb:=fun(V:YC) (hb:Below w1.heap.size w1 V)=>(K1.trans' (Kept.QL hb):Kept aK w V)
  have alX:SeqStopsK Fence.wide (n - 1) prog 81 #[.pointer (some ⟨w1.heap.size+1+1+1,0,none⟩),.pointer (some ⟨w1.heap.size+1+1,0,none⟩)] (λx:ByteArray=>#[Value.string x]) (λA B=>Below w1.heap.size A B/\B.heap[w1.heap.size+1+1]?=A.heap[w1.heap.size+1+1]?) (λys=>ys=(at2 cls 0 l).map bs) (λpre=>pre <+:(at2 cls 0 l).map bs) KL W0:=λq J Jx W hW hJ hJx hY h0=>
   awj h9.out bL.out auL (n - 1) ab q (w1.heap.size+1+1+1) (w1.heap.size+1+1) cap w1.heap.size J Jx (λs A B hs hb=>hJ s A B none hs (Wx hb) (λr e=>nomatch e)) (by rw[sc];exact hY) W
    (λV hV=>hE.out.no (hKb V (nA.trans ((hW.mono ab).trans hV)))) (by rw[sc];exact(hW.cell (p:=⟨_,0,none⟩) b3.lt).trans b3.cell) ((hW.block _ b2.lt).trans b2)
    (λk x hk=>by
     obtain⟨g,off,rfl,q0,q1,q2⟩:=asJ.out w (Kept.refl _ _) k x hk;have jF:=hKb W (nA.trans (hW.mono ab));exact⟨g,off,rfl,qD (cA w _ q0) K1.size,jF.aq q0 (λe=>e),jF.aq q1 (λe=>e),jF.aq q2 (λe=>e)⟩) h0 (by have:=hW.size;omega)
  obtain⟨ax2,hPR⟩:∃P,(awz cls).map bs=P:=⟨_,rfl⟩
  have hPv:(ax2++[]).map Value.string=[.string aT,.string (bs (loT cls)),.string dm]:=by rw[<-hPR];rfl
  rw[<-OI];revert OI hs0 hPR;refine jk ?_;intro OI hs0 hPR;refine wpIn_rangeFunc_ownG rfl h1 (gf:=81) (lb:=#[.pointer (some ⟨w1.heap.size+1+1+1,0,none⟩),.pointer (some ⟨w1.heap.size+1+1,0,none⟩)]) rfl bw (enters_of func81 af rfl)
   alX (λh k=>⟨h.1.trans k.1,k.2.trans h.2⟩) (λW l o o' hl hW ho hw=>⟨belowK_b (w:=W0) (by rw[hs0.out];omega) W l o o' hl hW ho hw,(M3 W l o').block _ (by have:=(aQ.1 hW).1;have:=hs0.out;omega) (λe=>by have:=j6 e;have:=hs0.out;omega)⟩) (iG _ _) (λ_=>rfl)
   (λpre W=>(∃v,Boxed W (w1.heap.size+1) 22 v/\W.ownsRow w1.heap.size 9 1 v (3+pre.length) ((ax2++pre).map Value.string)/\True)/\Boxed W (w1.heap.size+1+1) 9 (.string (bs cls))/\Below w1.heap.size w1 W)
   (λ_ _ _=>False)
   (OwnFrom.and (Own.from (holdsRow_own w1.heap.size (w1.heap.size+1) 22 9 1 (λpre:List ByteArray=>3+pre.length) (λpre=>(ax2++pre).map Value.string) (λ_ _=>True)) _) (OwnFrom.and (Own.from (boxed_own _ _ _) _) (ownFrom_below (aM _) (by rw[hs0.out];omega))))
   (λ_ _ _ _ _ hs _ _=>hs)
   ⟨⟨_,b1,⟨by rw[hPv];rfl,.inr ⟨_,3,_,rfl,aM _,b0,by simp,by simp[maxLen],rfl,by rw[hPv];rfl⟩⟩,bw⟩,b2,nA⟩
   ?_ ?assign ?body ?done ?stop
  case assign=>intro l x W K hK;gi_wp2;exact hK
  case body=>
   rintro q pre x W ⟨⟨v,hv,aL,_⟩,xE,hB⟩ bQ;have hc:=hv.cell;have arc:=amJ xE aL ab;have aph:=xE.lt;have ard:=ah xE;have Ph:=hB.size;have aiu:pre.length < KL:=bQ;gi_wp2_with (gi_at_builtin;refine Xd _ rfl _ _ 22 rfl w1.heap.size 9 i0 (.string ⟨#[]⟩) 1 16 underlying22 hi A6 ey oY rfl aj _ _ _ rfl (aL.alloc _) ⟨W,0,none⟩ 1 1 [.string x] rfl rfl (cell_one_new _ _ _) qj iZ ab aH ?_;intro v' w2 nE qN _;obtain⟨g',xV,rfl⟩:=ownsRow_succ nE;obtain⟨LH,jo,Qx,jF,jy⟩:=hv.appended aj aL Ph ab nE qN;have hc1:=LH.cell;have hf1:=LH.frozen);have akc:=(heap_setCell w2 ⟨w1.heap.size+1,0,none⟩ (.slice (some ⟨g',0,none⟩) (3+pre.length+1) xV) (w1.heap.size+1+1) ai).trans ((qN.block _ aH (λe=>arc e.symm)).trans (jm W _ _ aph));have eL:3+(pre++[x]).length=3+pre.length+1:=by rw[j0];rfl
   have eM:(ax2++(pre++[x])).map Value.string=(ax2++pre).map Value.string++[Value.string x]:=by rw[<-I5,MM];rfl
   refine⟨jF.from _,⟨jy,akc⟩,⟨_,jo,?_⟩,akc.trans ard,hB.trans jy⟩
   first
    |(refine⟨?_,bw⟩;rw[eL,eM];exact Qx)
    |(rw[eL,<-MM,eM];exact Qx)
  case done=>
   rintro D ys W hD rfl ⟨⟨v,hv,aL,_⟩,xE,hB⟩ hK;have hc:=hv.cell;have Ph:=hB.size;have hDl:=(aQ.1 hK).1;have hrD:=TO hK rfl aL;have eX:((at2 cls 0 l).map bs).length=KL:=by rw[Af,at3,sc]
   rw[eX] at aL;rw[sc] at auL;replace hK:=ah hK;have SH:(as1 cls l).length<=9000:=cn (avW h9.out bL.out) (by rw[sc];omega);have hdj:=awA cls l;obtain⟨axN,hXL⟩:∃X,awz cls++at2 cls 0 l++[tx "end end"]=X:=⟨_,rfl⟩
   have eJ:Lib.join ((axN.map bs).map (·.data.toList)) [32]=(cf axN).map UInt8.ofNat:=by rw[<-hXL];exact avw _ _
   have lXL:axN.length=3+KL+1:=by rw[<-hXL,j0,j0,at3,sc];rfl
   rw[hXL] at hdj;have eD:bs (cf axN)++(mz:YR)=bs (as1 cls l):=by rw[<-hdj];exact aaK (cf axN) [10]
   have QB:(cf axN).length<=9000:=by rw[<-hdj,j0] at SH;omega
   have hjs:(bs (cf axN)).size<=9000:=by rw[tf];exact QB
   revert eX SH hdj hXL eJ lXL eD QB;refine TR ?_;intro eX SH hdj hXL eJ lXL eD QB;gi_wp2_with (gi_at_builtin;refine Xd _ rfl _ _ 22 rfl w1.heap.size 9 i0 (.string ⟨#[]⟩) 1 16 underlying22 hi A6 ey oY rfl aj _ _ _ rfl (aL.alloc _) ⟨W,0,none⟩ 1 1 [.string ⟨#[101,110,100,32,101,110,100]⟩] rfl rfl (cell_one_new _ _ _) qj iZ ab aH ?_;intro v' w2 nE qN _;obtain⟨g',xV,rfl⟩:=ownsRow_succ nE);have oG:3+KL+1<=xV:=by
    rcases nE.2 with⟨e,_⟩|⟨g,cap,cur,e,_,hg,h1,_,h2,_⟩
    .cases e
    .cases e;omega
   have gJ:Below w1.heap.size W w2:=((iG _ W).alloc Ph _).grown qN aH (λk e=>ahf aL k e);have axk:Calls prog 50 #[sV (some ⟨g',0,none⟩) (3+KL+1) xV] w2 λe w'=>e=.returned (.string (bs (cf axN)))/\Below w2.heap.size w2 w':=by
    have h:=ahe (w:=w2) (xs:=axN.map bs) (v:=sV (some ⟨g',0,none⟩) (axN.map bs).length xV) ⟨g',0,xV,rfl,by rw[Af,lXL.out];exact oG,λk nm hk=>?_⟩ atT atT (by rw[eJ.out,Af];have:=QB.out;omega)
    .rw[Af,lXL.out,eJ.out] at h;exact h
    .rw[fi,nE.cellAt k (by have:=(dk.1 hk).1;rw[Af,lXL.out] at this;omega)];have e:(ax2++(at2 cls 0 l).map bs).map Value.string++[Value.string ⟨#[101,110,100,32,101,110,100]⟩]=(axN.map bs).map Value.string:=by rw[<-hXL.out,<-hPR.out,MM,MM,MM];rfl
     refine(gq (·[k]?) e).trans ?_;rw[qC,hk];rfl
   refine⟨bw,(mA.2 axk).mono ?_⟩;rintro e w4 ⟨rfl,Cm⟩;have yu:w4.heap[D]?=_:=(Cm.block D Hv).trans ((qN.block _ aH (λe=>hrD e.symm)).trans ((jm W _ _ hDl).trans hK));replace eD:=eD.out;gi_wp2;refine⟨by simp,.inl ⟨_,_,rfl,run_takeDeferred yu,?_⟩⟩;have hBz:Below w1.heap.size w1 w4:=hB.trans (gJ.trans (Cm.mono Hv));exact⟨_,B8 rfl _ _ _,rfl,Kept.QL ((K1.below (aM _) (λ_ e=>e.elim)).trans ((hBz.mono K1.size).trans (belowK_b (w:=w1) K1.size w4 D _ _ (by have:=hs0.out;omega) yu rfl rfl)))⟩
  case stop=>rintro D c pre W _ _ h _;exact h.elim
def auF(hm:bW cls){S:Wq}{l:List SC}(hl:auK l){a:YS}{c:Nat}{w:YC}(hx:an S w (.sl (axM l)) (sV a l.length c))(hE:P10 w):Calls prog 21 #[cls,sV a l.length c] w λe w'=>e=.returned (.tuple #[.string (bs (if axz cls l=0 then as1 cls l else[])),iV (axz cls l)])/\Kept aK w w':=by
 by_cases h0:axz cls l=0
 .rw[aI h0,h0];exact(mA (n:=5)).1 (avQ hl h0 5 ab hx hE)
 .rw[aE h0];have avi:=aup hm hl hx;obtain⟨R,hR⟩:∃m,axz cls l=m:=⟨_,rfl⟩
  obtain⟨KL,sc⟩:∃m,l.length=m:=⟨_,rfl⟩
  rw[hR] at avi h0|-;rw[sc] at avi|-;have h0':(R !=0)=true:=agz;revert hl hx hE hR avi sc;refine LX ?_;intro hl hx hE hR avi sc;go_enter func21,ntmps21;go_wp2_with fail;refine avi.out.mono ?_;rintro e w1 ⟨rfl,K1⟩;go_wp2_with fail;refine bG (B8 rfl _ _ _) rfl ?_;exact⟨rfl,K1⟩
end Go.Proofs.Gm
