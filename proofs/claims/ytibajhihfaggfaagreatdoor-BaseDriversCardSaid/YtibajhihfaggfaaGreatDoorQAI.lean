/- A part of the proof of BaseDrivers. No condition. -/
import Derived.Test.YtibajhihfaggfaaGreatDoorQAF
set_option linter.all false
set_option maxRecDepth 100000
set_option maxHeartbeats 8000000
namespace Go.Proofs.Gm
open Go.Proofs.Tryz
open Go.RowKit Go.Maps
open Go.Proofs.Bm
variable {L:Zi}{B:Nat}{S:Wq}{v:YE}{rows:Zg}
abbrev zLx:Obj:=.cells #[nS,nS,oZ,oZ,oZ] 86
def Yf(t:aF)(row:Row):Prop:=∃a b:Int,row=[.int t.k,.str t.t,.int a,.int b]
def Te:(prog.info? 187).map (λi=>(i.zero,i.size,i.bytes))=some (some (.agg #[oZ,eS,oZ,oZ]),4,40):=by kernel_rfl
def RRd(w:YC)(s:Yz)(L:Zi)(gg:Nat)(s4 s5 s6:YE)(wr:YC):Prop:=
 ∃(i:Nat) (ln bg:Int) (f:Nat) (rest dn:Zi) (rows:Zg) (v:YE),s6=iV i/\s4=iV ln/\s5=iV bg/\(1<=ln/\ln<=i+1)/\(0<=bg/\bg<=i)/\dn.length<=i/\
  wr.heap[w.heap.size+1]?=some (.cells #[v,nS,oZ,oZ,oZ] 86 (0,0))/\wr.heap[w.heap.size]?=some zLx/\OwnR (w.heap.size+2) (λb=>w.heap.size+2<=b) wr 187 4 v rows/\
  F2 Yf dn rows/\Kept aK w wr/\qQ f (s.drop i)=some rest/\L=dn++rest/\i<=s.length/\f<=gg
def afa(f:Nat):qQ f []=some []:=by cases f<;>rfl
def aaz{f c:Nat}{r:Yz}(hc:c=10∨c=32)(h:qQ (f+1) (c::r)=some L):qQ f r=some L:=by unfold qQ at h;rw[aI (by rcases hc with rfl|rfl<;>simp)] at h;exact h
def afb{f c:Nat}{r:Yz}(sG:¬c=10)(h32:¬c=32)(h:qQ (f+1) (c::r)=some L):¬(c=45/\∃r',r=45::r')/\∃(tt:Yz) (kk:Nat) (rest:Zi),tt=(if cB c then fD (c::r) else fE (c::r))/\shape tt=some kk/\qQ f ((c::r).drop tt.length)=some rest/\L=⟨kk,tt⟩::rest:=by
 unfold qQ at h;rw[aE (by simp[sG,h32])] at h
 cases r with
 |nil=>
  dsimp only at h;rw[aE ai] at h;refine⟨(by rintro⟨_,r',hr⟩;cases hr),?_⟩;obtain⟨tt,RN⟩:∃tt,tt=if cB c then fD (c::[]) else fE (c::[]):=⟨_,rfl⟩
  simp only[<-RN] at h
  cases eF:shape tt with
  |none=>rw[eF] at h;cases h
  |some kk=>exact Kd
 |cons d r=>
  dsimp only at h;by_cases hd:(c==45&&d==45)=true
  .rw[aI hd] at h;cases h
  rw[aE hd] at h;refine⟨(by rintro⟨rfl,r',hr⟩;cases hr;exact hd ai),?_⟩;obtain⟨tt,RN⟩:∃tt,tt=if cB c then fD (c::d::r) else fE (c::d::r):=⟨_,rfl⟩
  simp only[<-RN] at h
  cases eF:shape tt with
  |none=>rw[eF] at h;cases h
  |some kk=>exact Kd
def QZ(s:Yz):fE s=[]∨(fE s∈cJ/\(fE s).isPrefixOf s=true):=by
 unfold fE
 cases h:cJ.find? (λx=>x.isPrefixOf s) with
 |none=>left;rfl
 |some x=>
  right
  have h2:=List.find?_some h;exact⟨W8 h,h2⟩
def OG:∀(s:Yz) (c:Nat),c∈fD s->c∈s
 |[],c,h=>by simp[fD] at h
 |d::r,c,h=>by
  unfold fD at h;split at h
  .rcases cZ.1 h with rfl|h
   .simp
   .exact eC _ (OG r c h)
  .simp at h
def Vk:∀s:List Nat,(fD s).length<=s.length
 |[]=>by simp[fD]
 |c::r=>by
  unfold fD;split
  .have:=Vk r;simp;omega
  .simp
def abX{s:Yz}(hs:bW s){i:Nat}{c:Nat}{tt:Yz}{kk:Nat}(RN:tt=if cB c then fD (s.drop i) else fE (s.drop i))(eF:shape tt=some kk):bW tt/\tt.length<=(s.drop i).length/\tt≠[]:=by
 have cR:tt≠[]:=by intro e;rw[e,show shape []=none from rfl] at eF;cases eF
 refine⟨?_,?_,cR⟩
 .rw[RN];split
  .intro d hd;exact hs d (A1 (OG _ d hd))
  .rcases QZ (s.drop i) with h|h
   .rw[h];intro d hd;cases hd
   .exact yX _ h.1
 .rw[RN];split
  .exact Vk _
  .rcases QZ (s.drop i) with h|h
   .rw[h];simp
   .have:=Is (fE (s.drop i)) (s.drop i);rw[h.2] at this;have h2:=gq List.length (eq_of_beq this);rw[sK] at h2;omega
def OH:∀s:List Nat,fD s=s.take (fD s).length
 |[]=>by simp[fD]
 |c::r=>by
  unfold fD;split
  .rw[dC,W7,<-OH r]
  .simp
def afc(s:Yz)(hs:bW s)(hl:s.length<=20000){F:Nat}{L:Zi}(hx:qQ F s=some L)(w:YC):Calls prog 68 #[.string (bs s)] w λe w'=>∃v rows,e=.returned (.agg #[v,sV none 0 0,iV 0,iV 0,iV 0])/\OwnR (w.heap.size+2) (λb=>w.heap.size+2<=b) w' 187 4 v rows/\F2 Yf L rows/\Kept aK w w':=by
 have hz:=dp s;obtain⟨arE,hi,A6,cL,dY⟩:=dN Te;obtain⟨W,hW⟩:∃W,W=(w.alloc zLx).alloc zLx:=⟨_,rfl⟩
 have dZ:Kept aK w W:=by rw[hW];exact((Kept.refl _ _).alloc _).alloc _
 have OI:W.heap[w.heap.size]?=some zLx:=by rw[hW];exact aD ao
 have avh:W.heap[w.heap.size+1]?=some zLx:=by rw[hW,heap_alloc,aI ai]
 have jr:Hid (RRd w s L F (iV 1) (iV 0) (iV 0) W):=ah ⟨0,1,0,F,L,[],[],sV none 0 0,rfl,rfl,rfl,by omega,by omega,by simp,avh,OI,.nil,.nil,dZ,by rw[auT];exact hx,rfl,by omega,aM _⟩;revert hi A6 cL dY hW;refine nx ?_;intro hi A6 cL dY hW;go_enter func68,ntmps68;go_wp2_with fail;rw[<-hW.out];go_loopg [4,5,6] F (λgg s4 s5 s6 wr=>RRd w s L gg s4 s5 s6 wr)
 case atStart=>exact jr
 case round=>
  obtain⟨i,ln,bg,f,rest,dn,rows,v,rfl,rfl,rfl,hln,zU,hdi,hb,hr,hO,hF,K,WH,hL,hil,hfg⟩:=hrel;obtain⟨va,vc,rfl⟩:=hO.form;revert hr hF K hL hb hO;refine LX ?_;intro hr hF K hL hb hO;by_cases hie:i < s.length
  .obtain⟨c,hc⟩:∃c,s[i]?=some c:=⟨_,ck hie⟩
   have M6:=oR s hs i ab c hc;have hdr:s.drop i=c::s.drop (i+1):=by rw[MN hie];congr 1;exact(dk.1 hc).2
   rw[hdr] at WH
   cases f with
   |zero=>cases WH
   |succ f=>
   have g1:(i:Int) < (s.length:Int):=ab;have g2:(0:Int)<=(i:Int):=ab;replace hdr:=ah hdr;by_cases sG:c=10
   .subst sG;have WH:=aaz (c:=10) ai WH;have oV:Hid (RRd w s L f (iV (ln+1)) (iV ((i:Int)+1)) (iV ((i:Int)+1)) (wr.alloc (cO #[iV ln,iV ((i:Int) - bg+1)] 42))):=ah ⟨i+1,ln+1,(i:Int)+1,f,rest,dn,rows,_,by push_cast;rfl,rfl,rfl,by push_cast;omega,by push_cast;omega,by omega,aD hb,aD hr,hO.kept (F:=aK) ((Kept.refl _ _).alloc _) (λ_ _ _ e=>e) (λ_ _ e=>e),hF,K.alloc _,WH,hL,by omega,aM _⟩;exact E4
   .by_cases h32:c=32
    .subst h32;have WH:=aaz (c:=32) ai WH;have oV:Hid (RRd w s L f (iV ln) (iV bg) (iV ((i:Int)+1)) (wr.alloc (cO #[iV ln,iV ((i:Int) - bg+1)] 42))):=ah ⟨i+1,ln,bg,f,rest,dn,rows,_,by push_cast;rfl,rfl,rfl,by push_cast;omega,by push_cast;omega,by omega,aD hb.out,aD hr.out,hO.out.kept (F:=aK) ((Kept.refl _ _).alloc _) (λ_ _ _ e=>e) (λ_ _ e=>e),hF,K.alloc _,WH,hL,by omega,aM _⟩;exact E4
    .obtain⟨Ij,tt,kk,rest',RN,eF,Qx,avF⟩:=afb sG h32 WH;subst avF;rw[<-hdr.out] at RN Qx;obtain⟨hts,htl,htn⟩:=abX hs RN eF;rw[List.length_drop] at htl;rw[List.drop_drop] at Qx;have ake:dn.length<=20000:=ab;revert eF Qx;refine ct ?_;intro eF Qx
     cases WE:cB c
     .rw[WE,aE ai] at RN;revert RN WE;refine ct ?_;intro RN WE;by_cases h45:c=45
      .subst h45;by_cases Pm:i+1 < s.length
       .obtain⟨d,hd⟩:∃d,s[i+1]?=some d:=⟨_,ck Pm⟩
        have arF:=oR s hs (i+1) ab d hd;have arG:d≠45:=by intro e;refine Ij ⟨rfl,s.drop (i+1+1),?_⟩;rw[MN Pm];have:=(dk.1 hd).2;rw[this,e]
        have k1:(i:Int)+1 < (s.length:Int):=ab;have k2:(0:Int)<=(i:Int)+1:=ab;have k3:((i:Int)+1).toNat=i+1:=ab;have k4:((d:Int)==45)=false:=cX;have k5:¬((d:Int)=45):=ab;exact uE
       .have k1:¬((i:Int)+1 < (s.length:Int)):=by omega
        exact uE
      .have aqi:((c:Int)==45)=false:=by rw[gH];omega
       have aqj:¬((c:Int)=45):=ab;exact uE
     .rw[WE,aI rfl] at RN;have h45:c≠45:=by intro e;rw[e] at WE;exact absurd WE aj
      have aqi:((c:Int)==45)=false:=cX;have aqj:¬((c:Int)=45):=ab;revert RN WE;refine ct ?_;intro RN WE;go_wp2_with fail;refine(Up s hs ab i ab _).mono ?_;rintro e w2 ⟨rfl,K2⟩;replace K2:=ah K2;go_wp2_with fail;refine(No _ _).mono ?_;rintro e w3 ⟨rfl,rfl⟩;try rw[M6]
      rw[WE.out];go_wp2_with fail;refine(ZI s hs ab i ab _).mono ?_;rintro e w4 ⟨rfl,rfl⟩;have j1:(0:Int)<=(i:Int):=ab;obtain⟨nr,hnr⟩:∃n,n=(fD (s.drop i)).length:=⟨_,rfl⟩
      have aod:nr=tt.length:=by rw[hnr,RN.out]
      rw[<-hnr];have j2:(i:Int)<=(i:Int)+(nr:Int):=ab;have j3:(i:Int)+(nr:Int)<=(s.length:Int):=ab;have hsl:(bs s).extract i (i+nr)=bs tt:=by rw[wQ,RN.out,hnr,<-OH (s.drop i)]
      have Qy:((i:Int)+(nr:Int)).toNat=i+nr:=ab;revert hnr aod;refine ct ?_;intro hnr aod;go_wp2_with fail;try rw[hsl]
      exact B9
  .have aqk:i=s.length:=by omega
   have g1:¬(i:Int) < (s.length:Int):=ab;rw[aqk,List.drop_length,afa] at WH
   cases WH;have hL2:=hL.out;rw[gp] at hL2;subst hL2;have avH:=hb.out;have hr':=hr.out;obtain⟨b0,b1,b2,b3,b4,-⟩:=cc (W:=wr) (b:=w.heap.size+1) avH;obtain⟨z0,z1,z2,z3,z4,-⟩:=cc (W:=wr) (b:=w) hr';have y0:∀j,wr.frozen? ⟨w,j,none⟩=false:=al hr';revert avH hr';refine ct ?_;intro avH hr';go_wp2_with fail;refine bG (v:=.agg #[sV va rows.length vc,sV none 0 0,iV 0,iV 0,iV 0]) (by simp[results,results68,go_sem,z0,z1,z2,z3,z4]) rfl ?_;have oK:Kept (λb=>b=w.heap.size) wr _:=((((au w.heap.size 0 (sV va rows.length vc)).trans' (au w.heap.size 1 (sV none 0 0))).trans' (au w.heap.size 2 (iV 0))).trans' (au w.heap.size 3 (iV 0))).trans' (au w.heap.size 4 (iV 0));exact⟨_,rfl,rows,hO.kept oK Ak (λb hb e=>by have:=(hO.lt b hb).1;omega),hF,K.trans oK bH⟩
def aaW{w:YC}(h:OwnR B S w 187 4 v rows)(hF:F2 Yf L rows)(cR:L≠[]):∃g cap,v=sV (some ⟨g,0,none⟩) L.length cap/\wK w g 0 L/\B<=g/\g < w.heap.size:=by
 have hlen:=ee hF;obtain⟨css,h1,h2,h3⟩:=h;have kc:=ee h1;rcases h3 with⟨rfl,h0⟩|⟨g,cap,cur,rfl,hb,WC,h4,h5,h6,h7⟩
 .exfalso
  apply cR
  exact JK ab
 .refine⟨g,cap,by rw[hlen],?_,hb,(aQ.1 WC).1⟩;intro k t hk;obtain⟨row,aL,a,b,rfl⟩:=ot hF k t hk;obtain⟨cs,fY,arU,hR⟩:=ot h1 k _ aL;obtain⟨c0,Ap,rfl,v0,r0⟩:=hR.aG;obtain⟨c1,U6,rfl,v1,r1⟩:=r0.aG;obtain⟨c2,T3,rfl,v2,r2⟩:=r1.aG;obtain⟨c3,Sx,rfl,v3,r3⟩:=r2.aG
  cases r3.jO
  cases v0.fu;cases v1.bq;cases v2.fu;cases v3.fu;have Am:k < rows.length:=(dk.1 aL).1;have mu:=jA (Q:=λcs=>cs.length=4) h1 λ_ _ h=>h.1;have LZ:∀j u,[Value.int .i64 t.k,Value.string (bs t.t),Value.int .i64 a,Value.int .i64 b][j]?=some u->w.cell? ⟨g,0+k*4+j,none⟩=some u:=by
   intro j u hj;have hj4:j < 4:=(dk.1 hj).1;have hf:css.flatten[k*4+j]?=some u:=by rw[qH mu k j hj4,fY];exact hj
   rw[fi,cell_of_row w g _ cur 187 (0,0) WC];have h8:=hf;rw[<-h7,B3,aI ab] at h8;simpa using h8
  exact⟨LZ 0 _ rfl,LZ 1 _ rfl,a,b,LZ 2 _ rfl,LZ 3 _ rfl⟩
def agd{w:YC}(h:OwnR B S w 187 4 v rows)(hF:F2 Yf L rows){B0:Nat}(hB:B0<=w.heap.size)(h0:B0<=B):∃(g:Nat) (ga:YS) (cap:Nat),(L.length≠0->ga=some ⟨g,0,none⟩)/\v=sV ga L.length cap/\(L≠[]->wK w g 0 L/\g < w.heap.size)/\B0<=g/\g<=w.heap.size:=by
 by_cases cR:L=[]
 .have hlen:=ee hF;obtain⟨a,c,e⟩:=h.form;exact⟨w.heap.size,a,c,λe=>absurd (by rw[cR];rfl) e,by rw[e,hlen],λe=>absurd cR e,hB,aM _⟩
 .obtain⟨g,cap,rfl,h1,h2,h3⟩:=aaW h hF cR;exact⟨g,_,cap,λ_=>rfl,rfl,λ_=>⟨h1,h3⟩,by omega,by omega⟩
def age(L:Zi)(w:YC)(e:TP)(w':YC):Prop:=
 ∃(g:Nat) (ga:YS) (cap:Nat),(L.length≠0->ga=some ⟨g,0,none⟩)/\e=.returned (.agg #[sV ga L.length cap,nS,oZ,oZ,oZ])/\wK w' g 0 L/\w.heap.size<=g/\g < w'.heap.size/\Kept aK w w'
def YL(s:Yz)(hs:bW s)(hl:s.length<=20000){F:Nat}{L:Zi}(hx:qQ F s=some L)(h6:L.length<=6000)(w:YC):Calls prog 39 #[s] w (age L w):=by
 have hz:=dp s;have hrd:=ah (λw=>afc s hs hl hx w);have oL:¬((s.length:Int) > 20000):=ab;obtain⟨W,hW⟩:∃W,W=w.alloc zLx:=⟨_,rfl⟩
 have dZ:Kept aK w W:=eW;obtain⟨bz,IQ⟩:∃b,b=w.heap.size:=⟨_,rfl⟩
 have ey:W.heap[bz]?=some zLx:=oA;have xh:w.heap.size<=W.heap.size:=iS;revert hW dZ IQ ey;refine jU ?_;intro hW dZ IQ ey;go_enter func39,ntmps39;go_wp2_with fail;rw[<-hW.out,<-IQ.out];refine(hrd _).mono ?_;rintro e w2 ⟨v,rows,rfl,hO,hF,K⟩;obtain⟨g,ga,cap,Vg,rfl,ht,PE,Of⟩:=agd hO hF K.size ab;replace Vg:=ah Vg;have oY:=aD (x:=(cO #[sV ga L.length cap,nS,oZ,oZ,oZ] 86)) (aJ ey K);have amf:=(dZ.trans' K).alloc (cO #[sV ga L.length cap,nS,oZ,oZ,oZ] 86);have Bk:w.heap.size<=g:=ab;have zU:bz≠g:=Ln;have h6i:¬((L.length:Int) > 6000):=ab;have t0:(w2.alloc (cO #[sV ga L.length cap,nS,oZ,oZ,oZ] 86)).cell? ⟨w2,0,none⟩=(some (sV ga L.length cap):Option Value):=eR;have t1:(w2.alloc (cO #[sV ga L.length cap,nS,oZ,oZ,oZ] 86)).cell? ⟨w2,1,none⟩=(some (sV none 0 0):Option Value):=eR;have t2:(w2.alloc (cO #[sV ga L.length cap,nS,oZ,oZ,oZ] 86)).cell? ⟨w2,2,none⟩=(some (iV 0):Option Value):=eR;have t3:(w2.alloc (cO #[sV ga L.length cap,nS,oZ,oZ,oZ] 86)).cell? ⟨w2,3,none⟩=(some (iV 0):Option Value):=eR;have t4:(w2.alloc (cO #[sV ga L.length cap,nS,oZ,oZ,oZ] 86)).cell? ⟨w2,4,none⟩=(some (iV 0):Option Value):=eR;obtain⟨z0,z1,z2,z3,z4,-⟩:=cc (W:=w2.alloc (cO #[sV ga L.length cap,nS,oZ,oZ,oZ] 86)) (b:=bz) oY;have y0:∀j,(w2.alloc (cO #[sV ga L.length cap,nS,oZ,oZ,oZ] 86)).frozen? ⟨bz,j,none⟩=false:=al oY;revert ht oY amf;refine jk ?_;intro ht oY amf;go_wp2_with fail;refine bG (v:=.agg #[sV ga L.length cap,nS,oZ,oZ,oZ]) (by simp[results,results39,go_sem,z0,z1,z2,z3,z4]) rfl ?_;have oK:Kept (λb=>b=bz) (w2.alloc (cO #[sV ga L.length cap,nS,oZ,oZ,oZ] 86)) _:=((((au bz 0 (sV ga L.length cap)).trans' (au bz 1 (sV none 0 0))).trans' (au bz 2 (iV 0))).trans' (au bz 3 (iV 0))).trans' (au bz 4 (iV 0));refine⟨g,ga,cap,Vg,rfl,?_,Bk,?_,amf.trans oK fW⟩
 .intro k t hk;have aqT:L≠[]:=λe=>by rw[e] at hk;simp at hk
  obtain⟨asi,jG⟩:=ht.out aqT;have h:=asi k t hk;have hgc:∀j,(World.cell? _ ⟨g,j,none⟩)=w2.cell? ⟨g,j,none⟩:=λj=>(oK.cell (p:=⟨g,j,none⟩) (by show g < (w2.alloc _).heap.size;simp;omega) (λe=>zU e.symm)).trans (A2 _ _ _ jG);simp only[hgc];exact h
 .have:=oK.size;simp at this;simp;omega
abbrev zPc:Obj:=.cells #[oZ,oZ] 42
def aaX(w:YC)(n gg:Nat)(s6:YE)(wr:YC):Prop:=∃(i:Nat) (x y:Int),s6=iV i/\i+gg=n/\wr.heap[w.heap.size]?=some zPc/\wr.heap[w.heap.size+1]?=some (.cells #[x,y] 42 (0,0))/\Kept aK w wr
def acq(s:Yz)(hs:bW s)(hl:s.length<=1000000)(w:YC):Calls prog 69 #[s,s.length] w λe w'=>∃x y:Int,e=.returned (.agg #[x,y])/\Kept aK w w':=by
 have hz:=dp s;obtain⟨W,hW⟩:∃W,W=(w.alloc zPc).alloc (cO #[iV 1,iV 1] 42):=⟨_,rfl⟩
 have jr:Hid (aaX w s.length s.length (iV 0) W):=ah ⟨0,1,1,rfl,by omega,by rw[hW];exact aD ao,by rw[hW,heap_alloc,aI ai],by rw[hW];exact((Kept.refl _ _).alloc _).alloc _⟩;replace hW:=ah hW;go_enter func69,ntmps69;go_wp2_with fail;rw[<-hW.out];go_loopg [6] s.length (λgg s6 wr=>aaX w s.length gg s6 wr)
 case atStart=>exact jr
 case round=>
  obtain⟨i,x,y,rfl,hig,h2,h5,K⟩:=hrel;by_cases hi:i < s.length
  .have g1:(i:Int) < (s.length:Int):=by omega
   have g2:(0:Int)<=(i:Int):=ab;obtain⟨c,hc⟩:∃c,s[i]?=some c:=⟨_,ck hi⟩
   have M6:=oR s hs i ab c hc;obtain⟨b0,b1,-⟩:=cc (W:=wr) (b:=w.heap.size+1) h5;have f0:∀j,wr.frozen? ⟨w.heap.size+1,j,none⟩=false:=al h5;obtain⟨y1,lX⟩:∃y1,y1=wrap64 (y+1):=⟨_,rfl⟩
   obtain⟨x1,iF⟩:∃x1,x1=wrap64 (x+1):=⟨_,rfl⟩
   have hS1:Kept (λb=>b=w.heap.size+1) wr (wr.setCell ⟨w.heap.size+1,1,none⟩ (iV y1)):=au _ 1 _;have hh1:(wr.setCell ⟨w.heap.size+1,1,none⟩ (iV y1)).heap[w.heap.size+1]?=some (.cells #[x,iV y1] 42 (0,0)):=heap_setCell_same wr _ 1 _ h5;have ar7:=(hS1.block _ (aQ.1 h2).1 (show ¬(w.heap.size=w.heap.size+1) by omega)).trans h2;obtain⟨c0,c1,-⟩:=cc (W:=wr.setCell ⟨w.heap.size+1,1,none⟩ (iV y1)) (b:=w.heap.size+1) hh1;have hh3:=heap_setCell_same (wr.setCell ⟨w.heap.size+1,1,none⟩ (iV y1)) _ 0 (iV x1) hh1;have hh4:=heap_setCell_same _ _ 1 (iV 1) hh3;have hS2:=(au (W:=(wr.setCell ⟨w.heap.size+1,1,none⟩ (iV y1))) (w.heap.size+1) 0 (iV x1)).trans' (au (w.heap.size+1) 1 (iV 1));have hh5:=(hS2.block _ (aQ.1 ar7).1 (show ¬(w.heap.size=w.heap.size+1) by omega)).trans ar7;have ra:Hid (aaX w s.length (gk - 1) (iV ((i:Int)+1)) (wr.setCell ⟨w.heap.size+1,1,none⟩ (iV y1))):=ah ⟨i+1,x,y1,rfl,by omega,ar7,hh1,K.trans hS1 bH⟩;have rb:Hid (aaX w s.length (gk - 1) (iV ((i:Int)+1)) (((wr.setCell ⟨w.heap.size+1,1,none⟩ (iV y1)).setCell ⟨w.heap.size+1,0,none⟩ (iV x1)).setCell ⟨w.heap.size+1,1,none⟩ (iV 1))):=ah ⟨i+1,x1,1,rfl,by omega,hh5,hh4,(K.trans hS1 bH).trans hS2 bH⟩;rw[lX] at c0 c1 ra rb;rw[iF] at rb;by_cases sG:(c:Int)=10
   .have aqU:((c:Int)==10)=true:=by simpa using sG
    go_wp2_with fail;go_roundg (gk - 1)
    case measure=>omega
    case rel=>exact rb
   .have aqU:((c:Int)==10)=false:=by simpa using sG
    go_wp2_with fail;go_roundg (gk - 1)
    case measure=>omega
    case rel=>exact ra
  .have g1:¬(i:Int) < (s.length:Int):=by omega
   obtain⟨b0,b1,-⟩:=cc (W:=wr) (b:=w.heap.size+1) h5;obtain⟨z0,z1,-⟩:=cc (W:=wr) (b:=w) h2;have y0:∀j,wr.frozen? ⟨w,j,none⟩=false:=al h2;revert h2 h5 K;refine jk ?_;intro h2 h5 K;go_wp2_with fail;refine bG (v:=.agg #[x,y]) (by simp[results,results69,go_sem,z0,z1]) rfl ?_;exact⟨⟨x,y,rfl⟩,K.trans ((au w.heap.size 0 (iV x)).trans' (au w.heap.size 1 (iV y))) bH⟩
end Go.Proofs.Gm
