/- A part of the proof of BaseDrivers. No condition. -/
import Derived.Test.YtibajhihfaggfaaGreatDoorQAD
set_option linter.all false
set_option maxRecDepth 100000
set_option maxHeartbeats 8000000
namespace Go.Proofs.Gm
open Go.Proofs.Tryz
open Go.RowKit Go.Maps
open Go.Proofs.Bm
variable {C:Ctx}{l:Zi}{V V' V0 W:YC}{v:YE}{t:T}{s nm:Yz}{B b3 m:Nat}{S:Wq}{a:YS}{k n:Int}
def ahV(h:[tx "True",tx "False",tx "Void",tx "Current",tx "Result"].contains s=true):∃(i:Nat) (k n:Int),lT (bs s) wvL 0=some (i,.agg #[k,eS,n,nS]):=by simp only[MQ,IY,wX,j5,dU] at h;rcases h with rfl|rfl|rfl|rfl|rfl;all_goals exact⟨_,_,_,rfl⟩
def ahW(hs:bW s)(h:[tx "True",tx "False",tx "Void",tx "Current",tx "Result"].contains s=false):lT (bs s) wvL 0=none:=by simp only[MQ,IY,wX,Qr] at h;obtain⟨h1,h2,h3,h4,h5⟩:=h;have ne:∀k:List Nat,bW k->(s==k)=false->(bs s==bs k)=false:=λk hk e=>ajG hs hk e;unfold wvL;simp only[lT];simp only[ne "True" (aV aj) h1,ne "False" (aV aj) h2,ne "Void" (aV aj) h3,ne "Current" (aV aj) h4,ne "Result" (aV aj) h5,rW,qE]
def ad7:List (List Nat):=[tx "attached",tx "not",tx "old",tx "create",tx "if",tx "from",tx "check",tx "separate",tx "retry",tx "raise",tx "put"]
def xS:List ByteArray:=[bs "attached",bs "not",bs "old",bs "create",bs "if",bs "from",bs "check",bs "separate",bs "retry",bs "raise",bs "put"]
def contains_map{ks:Y9}(hs:bW s)(hk:∀k∈ks,bW k):Lib.containsS (ks.map bs) (bs s)=ks.contains s:=by
 rw[sM,Lib.containsS_iff,MK,dO];constructor
 .rintro⟨k,xi,jF⟩;rw[<-Jh (hk k xi) hs jF];exact xi
 .intro h;exact⟨s,h,rfl⟩
def anb(s:Yz):Bool:=ad7.contains s
def ahk(hs:bW s):Lib.containsS (xS.take 11) (bs s)=anb s:=
 contains_map (ks:=ad7) hs (λk hk=>aV (by have:ad7.all (λk=>k.all λc=>decide (c < 256))=true:=aj;exact dV.1 this k hk))
def abG{t:aF}{r:Zi}(hk:t.k=3)(eF:shape t.t=some t.k):il (t::r)=([tx "True",tx "False",tx "Void",tx "Current",tx "Result"].contains t.t||ad7.contains t.t):=by
 have e:∀s:List Nat,aO s (t::r)=(t.t==s):=by intro s;simp[aO,hk]
 have n1:(t.t==tx "(")=false:=by rw[gH];intro e;rw[e,hk] at eF;exact absurd eF aj
 have n2:(t.t==tx "-")=false:=by rw[gH];intro e;rw[e,hk] at eF;exact absurd eF aj
 unfold il ad7;simp only[dv,hk,e,JF,Ub,MQ,IY,wX,n1,n2,Bool.or_assoc];rfl
def Sq(h1:((aZ l).k==1)=false)(h4:((aZ l).k==4)=false)(h3:((aZ l).k==3)=false)(eF:∀t r,l=t::r->shape t.t=some t.k):il l=(aO "(" l||aO "-" l):=by
 cases l with
 |nil=>rfl
 |cons t r=>
  have h1':(t.k==1)=false:=h1;have h4':(t.k==4)=false:=h4;have h3':(t.k==3)=false:=h3;have e:∀s:List Nat,shape s=some 3->aO s (t::r)=false:=by
   intro s hs;simp only[aO]
   cases hq:(t.t==s) with
   |false=>simp
   |true=>
    rw[dU] at hq;have:=eF t r rfl;rw[hq,hs] at this;have hk:t.k=3:=(j6 this).symm;rw[hk] at h3'
    cases h3'
  unfold il;simp only[dv,h1',h4',MR,JF,Ub,wX,e "True" aj,e "False" aj,e "Void" aj,e "Current" aj,e "Result" aj,e "attached" aj,e "not" aj,e "old" aj,e "create" aj,e "if" aj,e "from" aj,e "check" aj,e "separate" aj,e "retry" aj,e "raise" aj,e "put" aj]
def Jo(C:Ctx)(l:Zi)(b:TG)(w:YC)(e:TP)(w':YC):Prop:=e=.returned (.bool b)/\PS C w' l/\Kept (ch C) w w'
def ad8{w:YC}(h1:((aZ l).k==1)=true)(h:PS C w l):Calls prog 277 #[pP C] w (Jo C l true w):=by have dQ:=mP h;have S0:=ah (Sg.start h);have k1:(((aZ l).k:Int)==1)=true:=pE;revert h1 dQ;refine ct ?_;intro h1 dQ;exact Da
def ad9{w:YC}(h1:((aZ l).k==1)=false)(h4:((aZ l).k==4)=true)(h:PS C w l):Calls prog 277 #[pP C] w (Jo C l true w):=by have dQ:=mP h;have S0:=ah (Sg.start h);have k1:(((aZ l).k:Int)==1)=false:=pE;have k4:(((aZ l).k:Int)==4)=true:=vr;revert h1 h4 dQ;refine jk ?_;intro h1 h4 dQ;exact Da
def aea{w:YC}(h1:((aZ l).k==1)=false)(h4:((aZ l).k==4)=false)(h3:((aZ l).k==3)=false)(h:PS C w l):Calls prog 277 #[pP C] w (Jo C l (aO "(" l||aO "-" l) w):=by
 have dQ:=mP h;have S0:=ah (Sg.start h);have k1:(((aZ l).k:Int)==1)=false:=pE;have k4:(((aZ l).k:Int)==4)=false:=vr;have k3:(((aZ l).k:Int)==3)=false:=Fy;revert h1 h4 h3 dQ;refine jU ?_;intro h1 h4 h3 dQ;refine Db ?_;intro bC bX cU dz w1 x1 y1 P1 K1 S1 gJ iC;go_wp2_with fail;refine(isA S1.ps "(").mono ?_;rintro e w2 ⟨rfl,P2,K2⟩;have S2:=ah (S1.aB P2 K2)
 cases hb:aO "(" l
 .replace hb:=ah hb;go_wp2_with fail;refine bY (isA S2.ps "-") λw3 P3 K3=>?_;have S3:=ah (S2.aB P3 K3)
  cases jy:aO "-" l
  .exact DP
  .exact DP
 .replace hb:=ah hb;go_wp2;go_ret;exact⟨by rw[hb.out];rfl,S2.ps,S2.kp⟩
def aeb{w:YC}(h1:((aZ l).k==1)=false)(h4:((aZ l).k==4)=false)(h3:((aZ l).k==3)=true){i:Nat}{k n:Int}(dq:lT (bs (aZ l).t) wvL 0=some (i,.agg #[k,eS,n,nS]))(h:PS C w l):Calls prog 277 #[pP C] w (Jo C l true w):=by
 revert h1 h4 h3 dq;refine KC ?_;intro S0 k1 k4 k3 h1 h4 h3 dq dQ w1 x1 y1 P1 K1 S1 gJ iC bC bX cU dz FF ak;refine rT2 0 7 (λK hK=>?_) λK hK=>?_
 .go_simp;refine(QJ _).mono ?_;rintro e wA ⟨gm,rfl,hD,kB⟩;dsimp only;refine hK _ _ ⟨aJ ak.1 kB,ak.2.no kB⟩ (λak=>?_);refine sp ?_;refine rT2 3 7 (λK hK=>?_) λK hK=>?_
  .have hl:=gY underlying319 underlying9 hD dq;revert hD;refine KR ?_;intro bC K hK jH hD mw ak;exact Nf
  .revert hD;refine Gb ?_;intro jH hD mw ak K hK;have hl:=gY underlying319 underlying9 hD dq;go_simp;refine hK _ _ ⟨ak.1,ak.2⟩ (λak=>?_);refine sp ?_;refine tkT 4 ?_;refine tkT 5 ?_;refine tkT 6 ?_;exact Nf
 .refine KM ?_;intro h6 bC bX cU wA gm hD kB mw sN sO tF tG sP ak K hK;have hl:=gY underlying319 underlying9 hD dq;go_simp;refine hK _ _ ⟨ak.1,ak.2⟩ (λak=>?_);refine sp ?_;refine tkT 4 ?_;refine tkT 5 ?_;refine tkT 6 ?_;refine rdT 8 λK hK=>?_;go_simp;refine hK _ _ ⟨fw ak.1 ab (iV k) (.string ⟨#[]⟩) (iV n) (sV none 0 0),ak.2.step (cG _ _ (iV k) (.string ⟨#[]⟩) (iV n) (sV none 0 0)) AQ⟩ (λak=>?_);refine F9 ?_;intro K hK g6 jQ oO;refine dh (λV=>V.heap[w1.heap.size]?=some (cO #[iV (aZ l).k,(bs (aZ l).t),x1,y1] 187)/\Sg C w l V/\V.heap[g6]?=some (.cells #[k,eS,n,nS] 181 (0,0))) ⟨ak.1,ak.2,by rw[jQ];exact(eI mw (iV k) (.string ⟨#[]⟩) (iV n) (sV none 0 0))⟩ ?_;exact C1
def aec{w:YC}(h1:((aZ l).k==1)=false)(h4:((aZ l).k==4)=false)(h3:((aZ l).k==3)=true)(dq:lT (bs (aZ l).t) wvL 0=none)(h:PS C w l):Calls prog 277 #[pP C] w (Jo C l (anb (aZ l).t) w):=by
 revert h1 h4 h3 dq;refine KC ?_;intro S0 k1 k4 k3 h1 h4 h3 dq dQ w1 x1 y1 P1 K1 S1 gJ iC bC bX cU dz FF ak;refine rT2 0 7 (λK hK=>?_) λK hK=>?_
 .go_simp;refine(QJ _).mono ?_;rintro e wA ⟨gm,rfl,hD,kB⟩;dsimp only;refine hK _ _ ⟨aJ ak.1 kB,ak.2.no kB⟩ (λak=>?_);refine sp ?_;refine rT2 3 7 (λK hK=>?_) λK hK=>?_
  .have hl:=gE underlying319 underlying9 hD F0 dq;revert hD;refine KR ?_;intro bC K hK jH hD mw ak;exact EI
  .revert hD;refine Gb ?_;intro jH hD mw ak K hK;have hl:=gE underlying319 underlying9 hD F0 dq;go_simp;refine hK _ _ ⟨ak.1,ak.2⟩ (λak=>?_);refine sp ?_;refine tkT 4 ?_;refine tkT 5 ?_;refine tkT 6 ?_;exact EI
 .refine KM ?_;intro h6 bC bX cU wA gm hD kB mw sN sO tF tG sP ak K hK;have hl:=gE underlying319 underlying9 hD F0 dq;go_simp;refine hK _ _ ⟨ak.1,ak.2⟩ (λak=>?_);refine sp ?_;refine tkT 4 ?_;refine tkT 5 ?_;refine tkT 6 ?_;refine rdT 8 λK hK=>?_;go_simp;refine hK _ _ ⟨fw ak.1 ab (iV 0) (.string ⟨#[]⟩) (iV 0) (sV none 0 0),ak.2.step (cG _ _ (iV 0) (.string ⟨#[]⟩) (iV 0) (sV none 0 0)) AQ⟩ (λak=>?_);refine F9 ?_;intro K hK g6 jQ oO;refine dh (λV=>V.heap[w1.heap.size]?=some (cO #[iV (aZ l).k,(bs (aZ l).t),x1,y1] 187)/\Sg C w l V/\V.heap[g6]?=some (.cells #[oZ,eS,oZ,nS] 181 (0,0))) ⟨ak.1,ak.2,by rw[jQ];exact(eI mw (iV 0) (.string ⟨#[]⟩) (iV 0) (sV none 0 0))⟩ ?_;exact Cl
def Om{w:YC}(h:PS C w l):Calls prog 277 #[pP C] w (Jo C l (il l) w):=by
 have dQ:=mP h
 cases h1:((aZ l).k==1)
 .cases h4:((aZ l).k==4)
  .cases h3:((aZ l).k==3)
   .rw[Sq h1 h4 h3 (λt r e=>(e▸h).shp)];exact aea h1 h4 h3 h
   .cases l with
    |nil=>cases h3
    |cons t r=>
     rw[abG (by have:=h3;simp only[aZ,dU] at this;exact this) h.shp]
     cases h5:[tx "True",tx "False",tx "Void",tx "Current",tx "Result"].contains t.t with
     |true=>obtain⟨i,k,n,dq⟩:=ahV h5;exact aeb h1 h4 h3 dq h
     |false=>rw[MR];exact aec h1 h4 h3 (ahW dQ h5) h
  .have:il l=true:=by unfold il;rw[oH,h4];simp
   rw[this];exact ad9 h1 h4 h
 .have:il l=true:=by unfold il;rw[oH,h1];simp
  rw[this];exact ad8 h1 h
def yV{w:YC}(h:PS C w l):Calls prog 168 #[pP C,iV 1] w λe w'=>∃a b,e=.returned (.agg #[iV (aZ l.tail).k,(bs (aZ l.tail).t),iV a,iV b])/\PS C w' l/\Kept (ch C) w w':=by
 have fin:∀w',Kept aK w w'->PS C w' l/\Kept (ch C) w w':=λw' h2=>⟨h.kept h2 (λ_ e=>e.elim),aK.to h2⟩
 cases hl:l with
 |nil=>exact(zz h 1 (by rw[hl];rfl) ab).mono λe w' ⟨h1,h2⟩=>⟨0,0,h1,hl▸fin w' h2⟩
 |cons t r=>
  cases hr:r with
  |nil=>exact(zz h 1 (by rw[hl,hr];rfl) ab).mono λe w' ⟨h1,h2⟩=>⟨0,0,h1,by have:=fin w' h2;rw[hl,hr] at this;exact this⟩
  |cons u r2=>exact(zy h 1 u (by rw[hl,hr];rfl) ab).mono λe w' ⟨a,b,h1,h2⟩=>⟨a,b,h1,by have:=fin w' h2;rw[hl,hr] at this;exact this⟩
def Ny{w:YC}(h:PS C w l)(s:TC){b:YR}{F:RB}{sz:Zt}{R:World->World->Prop}(hi:aO (tx s) l=true)
  (hF:∀w1,PS C w1 l.tail->Kept (ch C) w w1->Calls prog F sz w1 λe w'=>e=.returned (.tuple #[])/\R w1 w') (hcf:∀w,(callFunc F sz).run prog w=.ok (.enter F sz) w) (hb:b=bs (tx s):=by rfl) (hs:((tx s).all λc=>decide (c < 256))=true:=by decide):
  Calls prog 172 #[pP C,.string b,.func (.func F) #[] sz] w λe w'=>e=.returned (.bool true)/\∃w1,PS C w1 l.tail/\Kept (ch C) w w1/\R w1 w':=by
 have hm:=ah (oy h s hi hb hs);replace hF:=ah hF;clear h hi hb hs;go_enter func172,ntmps172;go_wp2_with fail;refine hm.mono ?_;rintro e w1 ⟨rfl,P1,K1⟩;revert P1 K1;refine ct ?_;intro P1 K1;go_wp2_with fail;refine bD (hF w1 P1 K1) λw2 hR=>?_;replace hR:=ah hR;go_wp2;go_ret;exact⟨rfl,w1,P1,K1,hR⟩
def Ar{w:YC}(h:PS C w l)(s:TC){b:YR}{F:RB}{sz:Zt}(hi:aO (tx s) l=false)
  (hb:b=bs (tx s):=by rfl) (hs:((tx s).all λc=>decide (c < 256))=true:=by decide):
  Calls prog 172 #[pP C,.string b,.func (.func F) #[] sz] w λe w'=>e=.returned (.bool false)/\PS C w' l/\Kept (ch C) w w':=by
 have hm:=ah (ew h s hi hb hs);clear h hi hb hs;go_enter func172,ntmps172;go_wp2_with fail;refine hm.mono ?_;rintro e w1 ⟨rfl,P1,K1⟩;revert P1 K1;refine ct ?_;intro P1 K1;go_wp2;go_ret;exact⟨rfl,P1,K1⟩
def Sr{w:YC}{r:Zi}(h:PS C w l)(ht:target l=some (nm,r)):Calls prog 305 #[pP C] w λe w'=>e=.returned (.string (bs nm))/\PS C w' r/\Kept (ch C) w w':=by
 unfold target at ht
 cases hi:aO "Result" l with
 |true=>
  rw[hi,aI rfl] at ht
  cases ht;have hm:=ah (oy h "Result" hi);go_enter func305,ntmps305;go_wp2_with fail;refine hm.mono ?_;rintro e w1 ⟨rfl,P1,K1⟩;revert P1 K1;refine ct ?_;intro P1 K1;go_wp2;go_ret;exact⟨rfl,P1,K1⟩
 |false=>rw[hi,aE ai] at ht;have hm:=ah (ew h "Result" hi);replace ht:=ah ht;go_enter func305,ntmps305;go_wp2_with fail;refine hm.mono ?_;rintro e w1 ⟨rfl,P1,K1⟩;revert P1 K1;refine ct ?_;intro P1 K1;go_wp2_with fail;refine bY (qG P1 ht) λw2 P2 K2=>?_;replace P2:=ah P2;replace K2:=ah (K1.trans' K2);go_wp2;go_ret;exact⟨rfl,P2,K2⟩
def anc(S:Wq)(w:YC)(row:Row)(v:YE):Prop:=∃(k:Int) (nm:Yz) (n:Int) (es tags lB body tp:Zg) (ea ta ia ba la:YS) (em ec tm tc im ic bm bc lm lc:Nat),
 row=[.int k,.str nm,.int n,.sl es,.sl tags,.sl lB,.sl body,.sl tp]/\v=.agg #[k,nm,n,sV ea em ec,sV ta tm tc,sV ia im ic,sV ba bm bc,sV la lm lc]/\
 an S w (.sl es) (sV ea em ec)/\an S w (.sl tags) (sV ta tm tc)/\an S w (.sl lB) (sV ia im ic)/\an S w (.sl body) (sV ba bm bc)/\an S w (.sl tp) (sV la lm lc)
def akI(row:Row):Prop:=∀(k:Int) (nm:Yz) (n:Int) (es tags lB body tp:Zg),row=[.int k,.str nm,.int n,.sl es,.sl tags,.sl lB,.sl body,.sl tp]->k=2->∃rest:Row,es=[.int 6::rest]
def Bv(C:Ctx)(row:Row)(r:Zi)(w:YC)(e:TP)(w':YC):Prop:=(∃v,e=.returned v/\anc w w' row v)/\PS C w' r/\Kept (ch C) w w'
def XN(f:Nat):Prop:=∀(C:Ctx) (w:YC) (l r:Zi) (row:Row),PS C w l->sZ f l=some (row,r)->Calls prog 278 #[pP C] w (Bv C row r w)
def rP(f:Nat):Prop:=∀(C:Ctx) (w:YC) (l r:Zi) (rows:Zg),PS C w l->dy f l=some (rows,r)->Calls prog 244 #[pP C] w (fR C 8 rows r w)
def ahX:(prog.info? 239).map (λi=>(i.zero,i.size,i.bytes))=some (some (.agg #[oZ,eS,oZ,nS,nS,nS,nS,nS]),8,152):=by kernel_rfl
def Xl(C:Ctx)(w:YC)(F:Nat)(rows:Zg)(r:Zi)(gg:Nat)(s3:YE)(wr:YC):Prop:=
 ∃(acc xs:Zg) (f:Nat) (rc:Zi),OwnR w.heap.size w wr 239 8 s3 acc/\Sg C w rc wr/\dy f rc=some (xs,r)/\f<=F/\rows=acc++xs/\f<=gg/\acc.length+f<=6000
def aed{w:YC}{rest:Row}{c:Nat}(h:an S w (.sl [.int 6::rest]) (sV a m c)):∃g off,a=some ⟨g,off,none⟩/\m=1/\w.cell? ⟨g,off,none⟩=some (iV 6):=by
 cases h with
 |sl _ g off _ wd cc hS hg oG hm hw hc hv=>
  have h1:=hc 0 0 _ _ rfl rfl;have h2:=hv 0 0 _ _ rfl rfl
  cases h3:cc 0 0<;>rw[h3] at h2<;>cases h2
  rw[h3] at h1;exact⟨g,off,rfl,rfl,by simpa using h1⟩
def aee{F:Nat}(ih:∀f,f < F->XN f)(bL:∀f l row r,sZ f l=some (row,r)->akI row)(dx:F<=6000):rP F:=by
 intro C w l r rows h hp;obtain⟨i,hi,hz,cL,dY⟩:=dN ahX;have hrel:Hid (Xl C w F rows r F (sV none 0 0) w):=ah ⟨[],rows,F,l,OwnR.nil,Sg.start h,hp,aM _,rfl,aM _,by simp;omega⟩;revert bL hi hz cL dY;refine nx ?_;intro bL hi hz cL dY;have eo:=ah (eP h);go_enter func244,ntmps244;go_wp2_with fail;go_loopg [3] F (λgg s3 wr=>Xl C w F rows r gg s3 wr)
 case atStart=>exact hrel
 case round=>
  obtain⟨acc,xs,f,rc,hO,SS,hm,gT,aN,de,h6⟩:=hrel;obtain⟨a7,gy,rfl⟩:=hO.form
  cases f with
  |zero=>cases hm
  |succ f=>
  simp only[dy,cF] at hm;by_cases hc:il rc=true
  .rw[aI hc] at hm;obtain⟨⟨x,r1⟩,hx,cg⟩:=aw.1 hm;obtain⟨r2,xA,fy⟩:=aw.1 cg;obtain⟨⟨ys,r5⟩,hy,Xs⟩:=aw.1 fy
   cases Xs;dsimp only at xA hy;revert SS hO gT de h6 hx xA hy aN;refine hd9 ?_;intro SS hO gT de h6 hx xA hy aN;have jq:=Om SS.ps;rw[hc] at jq;replace jq:=ah jq;go_wp2_with fail;refine jq.mono ?_;rintro e w1 ⟨rfl,P1,K1⟩;have S1:=ah (SS.aB P1 K1);replace K1:=ah K1;go_wp2_with fail;refine(ih f bT C _ _ _ _ S1.ps hx).mono ?_;rintro e w2 ⟨⟨v,rfl,k,nm,n,es,tags,lB,body,tp,ea,ta,ia,ba,la,em,ec,tm,tc,im,ic,bm,bc,lm,lc,rfl,rfl,LH,jo,FJ,hv4,ZH⟩,P2,K2⟩;have akJ:=bL _ _ _ _ hx k nm n es tags lB body tp rfl;have S2:=(S1.aB P2 K2).alloc (cO #[k,nm,n,sV ea em ec,sV ta tm tc,sV ia im ic,sV ba bm bc,sV la lm lc] 239);have K2':=(K1.trans' K2).alloc (cO #[k,nm,n,sV ea em ec,sV ta tm tc,sV ia im ic,sV ba bm bc,sV la lm lc] 239);have h4:(w2.alloc (.cells #[k,nm,n,.slice ea em ec,.slice ta tm tc,.slice ia im ic,.slice ba bm bc,.slice la lm lc] 239)).heap[w2.heap.size]?=some (.cells #[k,nm,n,.slice ea em ec,.slice ta tm tc,.slice ia im ic,.slice ba bm bc,.slice la lm lc] 239):=ao;have oL:=(S1.aB P2 K2).le;have hlw:=ah (K1.trans' K2).size;have xY:=ah K1.out.size;have kn:=(Kept.refl aK w2).alloc (cO #[k,nm,n,sV ea em ec,sV ta tm tc,sV ia im ic,sV ba bm bc,sV la lm lc] 239);have apP:=LH.kept kn (λ_ _ _ e=>e);have HV:Hid (∀t v,((t=.sl es/\v=.slice ea em ec)∨(t=.sl tags/\v=.slice ta tm tc)∨(t=.sl lB/\v=.slice ia im ic)∨(t=.sl body/\v=.slice ba bm bc)∨(t=.sl tp/\v=.slice la lm lc))->an (λb=>w1.heap.size<=b/\b < w2.heap.size) (w2.alloc (.cells #[k,nm,n,.slice ea em ec,.slice ta tm tc,.slice ia im ic,.slice ba bm bc,.slice la lm lc] 239)) t v):=ah (by
    have kk:∀t v,an w1 w2 t v->an (λb=>w1.heap.size<=b/\b < w2.heap.size) (w2.alloc (cO #[k,nm,n,sV ea em ec,sV ta tm tc,sV ia im ic,sV ba bm bc,sV la lm lc] 239)) t v:=λt v hv=>hv.keep (λb hb hl=>⟨hb,hl⟩) ai (λb _ hl=>jm _ _ _ hl);rintro t v (⟨rfl,rfl⟩|⟨rfl,rfl⟩|⟨rfl,rfl⟩|⟨rfl,rfl⟩|⟨rfl,rfl⟩)
    .exact kk _ _ LH
    .exact kk _ _ jo
    .exact kk _ _ FJ
    .exact kk _ _ hv4
    .exact kk _ _ ZH)
   revert S2 h4;refine ct ?_;intro S2 h4;replace K2:=ah K2';replace oL:=ah oL;have are:True:=bw;by_cases jF:k=2
   .obtain⟨rest,rfl⟩:=akJ jF;obtain⟨g1,o1,rfl,rfl,hc6⟩:=aed apP;have kk2:(k==2)=true:=by rw[jF];rfl
    revert jF;refine F7 ?_;intro jF bC bX cU dz w3 P3 K3 S3 UC ij KT nR;have HV3:∀t v,((t=.sl [.int 6::rest]/\v=.slice (some ⟨g1,o1,none⟩) 1 ec)∨(t=.sl tags/\v=.slice ta tm tc)∨(t=.sl lB/\v=.slice ia im ic)∨(t=.sl body/\v=.slice ba bm bc)∨(t=.sl tp/\v=.slice la lm lc))->an (λb=>w1.heap.size<=b/\b < w2.heap.size) w3 t v:=
     λt v hh=>(HV t v hh).kept K3 AD
    obtain⟨b0,b1,b2,b3,b4,b5,b6,b7,-⟩:=cc (W:=w3) (b:=w2) UC;have f0:∀j,w3.frozen? ⟨w2,j,none⟩=false:=al UC;obtain⟨V,Zx⟩:∃V,V=w3.alloc (cO #[k,nm,n,sV (some ⟨g1,o1,none⟩) 1 ec,sV ta tm tc,sV ia im ic,sV ba bm bc,sV la lm lc] 239):=⟨_,rfl⟩
    have kV:Kept aK w3 V:=Hy;have Ah:=nR.kept kV (λ_ _ _ e=>e) (λ_ _ e=>e);have hR:aP (λb=>w.heap.size<=b/\Value.ownBlock (sV a7 acc.length gy)≠some b) V [k,nm,n,.sl [.int 6::rest],tags,lB,body,tp] [k,nm,n,sV (some ⟨g1,o1,none⟩) 1 ec,sV ta tm tc,sV ia im ic,sV ba bm bc,sV la lm lc]:=by exact C8
    have TU:=S3.no kV;have eG:∀(j:Nat) (u:YE),([k,nm,n,sV (some ⟨g1,o1,none⟩) 1 ec,sV ta tm tc,sV ia im ic,sV ba bm bc,sV la lm lc]:YT)[j]?=some u->V.cell? ((⟨w3,0,none⟩:Addr).add j)=some u:=pG;exact EJ
   .have kk2:(k==2)=false:=gH.2 jF;revert jF;refine F7 ?_;intro jF bC bX cU dz w3 P3 K3 S3 UC ij KT nR;have HV3:∀t v,((t=.sl es/\v=.slice ea em ec)∨(t=.sl tags/\v=.slice ta tm tc)∨(t=.sl lB/\v=.slice ia im ic)∨(t=.sl body/\v=.slice ba bm bc)∨(t=.sl tp/\v=.slice la lm lc))->an (λb=>w1.heap.size<=b/\b < w2.heap.size) w3 t v:=
     λt v hh=>(HV t v hh).kept K3 AD
    obtain⟨b0,b1,b2,b3,b4,b5,b6,b7,-⟩:=cc (W:=w3) (b:=w2) UC;have f0:∀j,w3.frozen? ⟨w2,j,none⟩=false:=al UC;obtain⟨V,Zx⟩:∃V,V=w3.alloc (cO #[k,nm,n,sV ea em ec,sV ta tm tc,sV ia im ic,sV ba bm bc,sV la lm lc] 239):=⟨_,rfl⟩
    have kV:Kept aK w3 V:=Hy;have Ah:=nR.kept kV (λ_ _ _ e=>e) (λ_ _ e=>e);have hR:aP (λb=>w.heap.size<=b/\Value.ownBlock (sV a7 acc.length gy)≠some b) V [k,nm,n,es,tags,lB,body,tp] [k,nm,n,sV ea em ec,sV ta tm tc,sV ia im ic,sV ba bm bc,sV la lm lc]:=by exact C8
    have TU:=S3.no kV;have eG:∀(j:Nat) (u:YE),([k,nm,n,sV ea em ec,sV ta tm tc,sV ia im ic,sV ba bm bc,sV la lm lc]:YT)[j]?=some u->V.cell? ((⟨w3,0,none⟩:Addr).add j)=some u:=pG;exact EJ
  .rw[aE hc] at hm
   cases hm;simp only[gI] at hc;have jq:=Om SS.ps;rw[hc] at jq;revert hO SS jq;refine jk ?_;intro hO SS jq;rw[gp] at aN;replace aN:=ah aN;go_wp2_with fail;refine jq.mono ?_;rintro e w1 ⟨rfl,P1,K1⟩;exact E3
abbrev Nn:Array Value:=#[oZ,eS,oZ,nS,nS,nS,nS,nS]
structure SB (C:Ctx) (w:YC) (l:Zi) (cs:Zt) (V:YC):Prop where
 sg:Sg C w l V
 b1:V.heap[w.heap.size]?=some (.cells #[pP C] 128 (0,0))
 b2:V.heap[w.heap.size+1]?=some (.cells Nn 239 (0,0))
 b3:V.heap[w.heap.size+1+1]?=some (.cells cs 239 (0,0))
namespace SB
variable {C:Ctx}{w V V':YC}{l r:Zi}{cs:Zt}{F:Nat -> Prop}
def start(h:PS C w l):SB C w l Nn (((w.alloc (cO #[pP C] 128)).alloc (cO Nn 239)).alloc (cO Nn 239)):=by
 refine⟨(((Sg.start h).alloc _).alloc _).alloc _,?_,?_,?_⟩
 .exact D7
 .exact Ex
 .exact pg
def lt(h:SB C w l cs V):w.heap.size+1+1 < V.heap.size:=(aQ.1 h.b3).1
def pw(h:SB C w l cs V):C.p < w.heap.size:=h.sg.pw
def aB(h:SB C w l cs V)(hp:PS C V' r)(hk:Kept (ch C) V V'):SB C w r cs V':=by have:=h.pw;have:=h.lt;exact⟨h.sg.aB hp hk,(hk.block _ ab kO).trans h.b1,(hk.block _ ab kO).trans h.b2,(hk.block _ ab kO).trans h.b3⟩
def step(h:SB C w l cs V)(hk:Kept F V V')(hF:∀b,F b->b < V.heap.size->w.heap.size+1+1 < b):SB C w l cs V':=by have:=h.lt;exact⟨h.sg.step hk λb e hb=>by have:=hF b e hb;omega,(hk.block _ ab jz).trans h.b1,(hk.block _ ab jz).trans h.b2,(hk.block _ ab jz).trans h.b3⟩
def no(h:SB C w l cs V)(hk:Kept aK V V'):SB C w l cs V':=h.step hk λ_ e=>e.elim
def alloc(h:SB C w l cs V)(x:Obj):SB C w l cs (V.alloc x):=h.no ((Kept.refl _ V).alloc x)
def drew(h:SB C w l cs V):SB C w l cs V.drew:=h.no (Kept.refl _ V).drew
def set(h:SB C w l cs V)(j:Nat)(v:YE):SB C w l (cs.setIfInBounds j v) (V.setCell ⟨w.heap.size+1+1,j,none⟩ v):=by have hk:=au (W:=V) (w.heap.size+1+1) j v;exact⟨h.sg.step hk λb e _=>by omega,(hk.block _ wt ab).trans h.b1,(hk.block _ wt ab).trans h.b2,heap_setCell_same V _ j v h.b3⟩
def st(h:SB C w l cs V)(j:Nat)(v:YE){l':YT}(e:rp cs.toList j v l':=by repeat (first|exact rp.z|apply rp.s)):SB C w l l'.toArray (V.setCell ⟨w.heap.size+1+1,j,none⟩ v):=e.arr▸h.set j v
def c{P:T1}{f:RB}{args:Zt}{v:YE}{R:VW}(h:SB C w l cs V)(k:Calls P f args V λe w'=>e=.returned v/\PS C w' r/\Kept (ch C) V w')(q:∀w',SB C w r cs w'->R (.returned v) w'):Calls P f args V R:=bY k λw' a b=>q w' (h.aB a b)
end SB
abbrev N6(w:YC):Nat->Prop:=λb=>w.heap.size+1+1 < b
def iz{w:YC}(h:an (N6 w) V t v)(hk:Kept (ch C) V V')(hp:C.p < w.heap.size):an (N6 w) V' t v:=h.kept hk (λb hb _ e=>by unfold ch at e;unfold N6 at hb;omega)
def iq{w:YC}(h:an (N6 w) V t v)(j:Nat)(u:YE):an (N6 w) (V.setCell ⟨w.heap.size+1+1,j,none⟩ u) t v:=h.kept (au _ j u) AP
def wN{w:YC}{kids:Zg}{c:Nat}(h:an (λb=>B<=b) V (.sl kids) (sV a m c))(hB:w.heap.size+1+1 < B)(hV:B<=V.heap.size):an (N6 w) (V.alloc (cO #[k,nm,n,sV a m c] 181)) (.sl [[k,nm,n,kids]]) (sV V 1 1):=by
 have h1:=(h.kept (F:=aK) ((Kept.refl _ V).alloc (cO #[k,nm,n,sV a m c] 181)) (λ_ _ _ e=>e)).mono (S':=N6 w) λb hb _=>by unfold N6;omega
 refine aW (E:=181) (fr:=(0,0)) (wd:=4) (css:=[[k,nm,n,sV a m c]]) (arr:=#[k,nm,n,sV a m c]) ?_ rfl ?_ (by unfold N6;omega) (Nat.le_refl _) cP
 .rw[heap_alloc,aI rfl]
 .exact rF
abbrev akK(W:YC)(bx:Nat)(a b c d e f g h:YE):World:=(((((((W.setCell ⟨bx,0,none⟩ a).setCell ⟨bx,1,none⟩ b).setCell ⟨bx,2,none⟩ c).setCell ⟨bx,3,none⟩ d).setCell ⟨bx,4,none⟩ e).setCell ⟨bx,5,none⟩ f).setCell ⟨bx,6,none⟩ g).setCell ⟨bx,7,none⟩ h
def abH(W:YC)(bx:Nat)(a b c d e f g h:YE):Kept (λk=>k=bx) W (akK W bx a b c d e f g h):=
 (((((((au bx 0 a).trans' (au bx 1 b)).trans' (au bx 2 c)).trans' (au bx 3 d)).trans' (au bx 4 e)).trans' (au bx 5 f)).trans' (au bx 6 g)).trans' (au bx 7 h)
def SB.fin{w:YC}{r:Zi}{es tags lB body tp:Zg}{ea ta ia ba la:YS}{em ec tm tc im ic bm bc lm lc:Nat}(h:SB C w r #[k,nm,n,sV ea em ec,sV ta tm tc,sV ia im ic,sV ba bm bc,sV la lm lc] W)(h1:an (N6 w) W (.sl es) (sV ea em ec))(h2:an (N6 w) W (.sl tags) (sV ta tm tc))(h3:an (N6 w) W (.sl lB) (sV ia im ic))(h4:an (N6 w) W (.sl body) (sV ba bm bc))(h5:an (N6 w) W (.sl tp) (sV la lm lc)):Bv C [k,nm,n,es,tags,lB,body,tp] r w (.returned (.agg #[k,nm,n,sV ea em ec,sV ta tm tc,sV ia im ic,sV ba bm bc,sV la lm lc])) (akK W (w.heap.size+1) (iV k) (.string (bs nm)) (iV n) (sV ea em ec) (sV ta tm tc) (sV ia im ic) (sV ba bm bc) (sV la lm lc)):=by
 have hk:=abH W (w.heap.size+1) (iV k) (.string (bs nm)) (iV n) (sV ea em ec) (sV ta tm tc) (sV ia im ic) (sV ba bm bc) (sV la lm lc);have up:∀t v,an (N6 w) W t v->an w (akK W (w.heap.size+1) (iV k) (.string (bs nm)) (iV n) (sV ea em ec) (sV ta tm tc) (sV ia im ic) (sV ba bm bc) (sV la lm lc)) t v:=
  λt v hv=>(hv.kept hk AP).mono (λb hb _=>by unfold N6 at hb;omega)
 have:=h.sg.step hk dF;exact⟨⟨_,rfl,k,nm,n,es,tags,lB,body,tp,_,_,_,_,_,_,_,_,_,_,_,_,_,_,_,rfl,rfl,up _ _ h1,up _ _ h2,up _ _ h3,up _ _ h4,up _ _ h5⟩,this.ps,this.kp⟩
def apQ(C:Ctx)(w:YC)(l:Zi)(s4 s5:YE)(V:YC):Prop:=∃(g4 g5:Nat) (x1 y1 x2 y2:Int),s4=.pointer g4/\s5=.pointer g5/\SB C w l Nn V/\
 V.heap[g4]?=some (.cells #[iV (aZ l).k,(bs (aZ l).t),x1,y1] 187 (0,0))/\V.heap[g5]?=some (.cells #[iV (aZ l.tail).k,(bs (aZ l.tail).t),x2,y2] 187 (0,0))
def bj{a b:Yz}(h:aO a l=true)(cR:(a==b)=false):aO b l=false:=by rw[Og] at h|-;simp only[dD,dU] at h;rw[h.2,cR,A3]
def eO(l:Zi):jM l=((aZ l.tail).k==5&&(aZ l.tail).t==tx ":="):=by
 unfold jM
 cases l.tail<;>rfl
open Go.Proofs.Tryz
open Go.RowKit Go.Maps
open Go.Proofs.Bm
def ig{W':YC}{b:Nat}{o:Obj}(hk:Kept (ch C) W W')(h:W.heap[b]?=some o)(hp:b≠C.p):W'.heap[b]?=some o:=cu h hk hp
def apR{w:YC}{r:Zi}{t:aF}(h:PS C w l)(hl:l.tail=t::r):shape t.t=some t.k:=by
 obtain⟨n,e1,e2,e3⟩:=h.c1
 cases l with
 |nil=>cases hl
 |cons u l=>exact(h.hL t (A1 (i:=n) (by rw[e2,show l=t::r from hl];simp))).2
def iY{w:YC}(h:PS C w l):bW (aZ l.tail).t:=by
 cases l with
 |nil=>exact λc hc=>by cases hc
 |cons t r=>cases r with
  |nil=>exact λc hc=>by cases hc
  |cons u r=>exact(h.tok (k:=1) rfl).choose_spec.choose_spec.choose_spec.2.2.2.1
def psl{w:YC}{l':Zi}(h:PS C w l)(e:l=l'):PS C w l':=e▸h
def je{w:YC}(h:an (λb=>B<=b) V t v)(hB:w.heap.size+1+1 < B):an (N6 w) V t v:=h.mono (λb hb _=>by unfold N6;omega)
abbrev akL(C:Ctx)(w:YC):Nat->Prop:=λb=>b=C.p∨b=w.heap.size+1+1
def aef{w:YC}(h:an (N6 w) V t v)(hk:Kept (akL C w) V V')(hp:C.p < w.heap.size):an (N6 w) V' t v:=h.kept hk (λb hb _ e=>by unfold N6 at hb;rcases e with e|e<;>omega)
def ajJ(C:Ctx)(w:YC)(r:Zi)(tp:Zg)(cs:Zt)(V V':YC):Prop:=∃(a:YS) (c:Nat),SB C w r (cs.setIfInBounds 7 (sV a tp.length c)) V'/\an (N6 w) V' (.sl tp) (sV a tp.length c)/\Kept (akL C w) V V'
def ahY{f:Nat}(Kz:rP f){C:Ctx}{w V:YC}{l r:Zi}{tp:Zg}{cs:Zt}(S:SB C w l cs V){u:YE}(TZ:cs[7]?=some u)(hx:dy f l=some (tp,r)):Calls prog 307 #[.pointer (some ⟨w,0,none⟩),.pointer (some ⟨w.heap.size+1+1,0,none⟩)] V λe w'=>e=.returned (.tuple #[])/\ajJ C w r tp cs V w':=by have pb:=bc S.b1 0;revert TZ hx;refine ct ?_;intro TZ hx;go_enter func307,ntmps307;go_wp2_with fail;refine(Kz C _ _ _ _ S.sg.ps hx).mono ?_;rintro e w1 ⟨⟨a,c,rfl,hv,hlen⟩,P1,K1⟩;have S1:=S.aB P1 K1;have c7:_=(some u:VV):=(aC S1.b3 7).trans TZ;have f7:=al S1.b3 7;have S2:=S1.set 7 (sV a tp.length c);have jo:=iq (je hv S.lt) 7 (sV a tp.length c);have K2:Kept (akL C w) V (w1.setCell ⟨w.heap.size+1+1,7,none⟩ (sV a tp.length c)):=(K1.mono (λb e=>Or.inl e)).trans' ((au _ 7 _).mono (λb e=>Or.inr e));replace hlen:=ah hlen;go_wp2;go_end0;exact⟨rfl,a,c,S2,jo,K2⟩
def ahZ{P:Prop}(h:P:=by
  refine wpLive 7 (λV=>SB C w l Nn V) (λV s=>bc s.b1 0) ?_ λFF ak=>?_
  .exact S0.drew
  refine tkT 0 ?_;refine tkT 2 ?_;refine rT3 1 4 5 (λK hK=>?_) (λK hK=>?_) λK hK=>?_
  .go_simp;refine(me ak.sg.ps).mono ?_;rintro e wA ⟨xa,ya,rfl,Z3,Mf⟩;dsimp only;have ah0:=(ak.aB Z3 Mf).lt;have ah1:=ak.pw;have Ss:=Mf.size;try simp only[dB,eB] at Ss
   refine hK _ _ (ak.aB Z3 Mf) (λak=>?_);clear hK K;refine sp ?_;refine rT3 3 4 5 (λK hK=>?_) (λK hK=>?_) λK hK=>?_
   .go_simp;refine(yV ak.sg.ps).mono ?_;rintro e wB ⟨xb,yb,rfl,AU,nk⟩;dsimp only;have PX:=(ak.aB AU nk).lt;have PY:=ak.pw;have sA:=nk.size;try simp only[dB,eB] at sA
    refine hK _ _ (ak.aB AU nk) (λak=>?_);clear hK K;refine sp ?_;refine rT2 4 5 (λK hK=>?_) λK hK=>?_
    .go_simp;have jG:(wB.alloc (.cells #[oZ,eS,oZ,oZ] 187)).heap[wB.heap.size]?=some (.cells #[oZ,eS,oZ,oZ] 187):=by rw[heap_alloc,aI ai]
     refine hK _ _ (ak.alloc _) (λak=>?_);clear hK K;refine sp ?_;refine rdT 5 λK hK=>?_;go_simp;replace jG:=aD (x:=(.cells #[oZ,eS,oZ,oZ] 187)) jG;have ik:((wB.alloc (.cells #[oZ,eS,oZ,oZ] 187)).alloc (.cells #[oZ,eS,oZ,oZ] 187)).heap[wB.heap.size+1]?=some (.cells #[oZ,eS,oZ,oZ] 187):=by rw[heap_alloc,aI ai]
     refine hK _ _ (ak.alloc _) (λak=>?_);clear hK K;refine sp ?_;obtain⟨g5,e5⟩:∃g,g=wB.heap.size+1:=⟨_,rfl⟩
     exact asy
    .go_simp;have ik:(wB.alloc (.cells #[oZ,eS,oZ,oZ] 187)).heap[wB.heap.size]?=some (.cells #[oZ,eS,oZ,oZ] 187):=by rw[heap_alloc,aI ai]
     refine hK _ _ (ak.alloc _) (λak=>?_);clear hK K;refine sp ?_;refine rdT 4 λK hK=>?_;go_simp;replace ik:=aD (x:=(.cells #[oZ,eS,oZ,oZ] 187)) ik;have jG:((wB.alloc (.cells #[oZ,eS,oZ,oZ] 187)).alloc (.cells #[oZ,eS,oZ,oZ] 187)).heap[wB.heap.size+1]?=some (.cells #[oZ,eS,oZ,oZ] 187):=by rw[heap_alloc,aI ai]
     refine hK _ _ (ak.alloc _) (λak=>?_);clear hK K;refine sp ?_;obtain⟨g4,e4⟩:∃g,g=wB.heap.size+1:=⟨_,rfl⟩
     exact asC
   .go_simp;have jG:(wA.alloc (.cells #[oZ,eS,oZ,oZ] 187)).heap[wA.heap.size]?=some (.cells #[oZ,eS,oZ,oZ] 187):=by rw[heap_alloc,aI ai]
    refine hK _ _ (ak.alloc _) (λak=>?_);clear hK K;refine sp ?_;refine rT2 3 5 (λK hK=>?_) λK hK=>?_
    .go_simp;refine(yV ak.sg.ps).mono ?_;rintro e wB ⟨xb,yb,rfl,AU,nk⟩;dsimp only;have PX:=(ak.aB AU nk).lt;have PY:=ak.pw;have sA:=nk.size;try simp only[dB,eB] at sA
     replace jG:=ig nk jG ab;refine hK _ _ (ak.aB AU nk) (λak=>?_);clear hK K;refine sp ?_;refine rdT 5 λK hK=>?_;go_simp;replace jG:=aD (x:=(.cells #[oZ,eS,oZ,oZ] 187)) jG;have ik:(wB.alloc (.cells #[oZ,eS,oZ,oZ] 187)).heap[wB.heap.size]?=some (.cells #[oZ,eS,oZ,oZ] 187):=by rw[heap_alloc,aI ai]
     refine hK _ _ (ak.alloc _) (λak=>?_);clear hK K;refine sp ?_;obtain⟨g5,e5⟩:∃g,g=wB.heap.size:=⟨_,rfl⟩
     exact asx
    .go_simp;replace jG:=aD (x:=(.cells #[oZ,eS,oZ,oZ] 187)) jG;have ik:((wA.alloc (.cells #[oZ,eS,oZ,oZ] 187)).alloc (.cells #[oZ,eS,oZ,oZ] 187)).heap[wA.heap.size+1]?=some (.cells #[oZ,eS,oZ,oZ] 187):=by rw[heap_alloc,aI ai]
     refine hK _ _ (ak.alloc _) (λak=>?_);clear hK K;refine sp ?_;refine rdT 3 λK hK=>?_;go_simp;refine(yV ak.sg.ps).mono ?_;rintro e wB ⟨xb,yb,rfl,AU,nk⟩;dsimp only;have PX:=(ak.aB AU nk).lt;have PY:=ak.pw;have sA:=nk.size;try simp only[dB,eB] at sA
     replace jG:=ig nk jG ab;replace ik:=ig nk ik ab;refine hK _ _ (ak.aB AU nk) (λak=>?_);clear hK K;refine sp ?_;obtain⟨g5,e5⟩:∃g,g=wA.heap.size+1:=⟨_,rfl⟩
     exact asx
   .go_simp;have ik:(wA.alloc (.cells #[oZ,eS,oZ,oZ] 187)).heap[wA.heap.size]?=some (.cells #[oZ,eS,oZ,oZ] 187):=by rw[heap_alloc,aI ai]
    refine hK _ _ (ak.alloc _) (λak=>?_);clear hK K;refine sp ?_;refine rT2 3 4 (λK hK=>?_) λK hK=>?_
    .go_simp;refine(yV ak.sg.ps).mono ?_;rintro e wB ⟨xb,yb,rfl,AU,nk⟩;dsimp only;have PX:=(ak.aB AU nk).lt;have PY:=ak.pw;have sA:=nk.size;try simp only[dB,eB] at sA
     replace ik:=ig nk ik ab;refine hK _ _ (ak.aB AU nk) (λak=>?_);clear hK K;refine sp ?_;refine rdT 4 λK hK=>?_;go_simp;replace ik:=aD (x:=(.cells #[oZ,eS,oZ,oZ] 187)) ik;have jG:(wB.alloc (.cells #[oZ,eS,oZ,oZ] 187)).heap[wB.heap.size]?=some (.cells #[oZ,eS,oZ,oZ] 187):=by rw[heap_alloc,aI ai]
     refine hK _ _ (ak.alloc _) (λak=>?_);clear hK K;refine sp ?_;obtain⟨g5,e5⟩:∃g,g=wA.heap.size:=⟨_,rfl⟩
     exact asy
    .go_simp;replace ik:=aD (x:=(.cells #[oZ,eS,oZ,oZ] 187)) ik;have jG:((wA.alloc (.cells #[oZ,eS,oZ,oZ] 187)).alloc (.cells #[oZ,eS,oZ,oZ] 187)).heap[wA.heap.size+1]?=some (.cells #[oZ,eS,oZ,oZ] 187):=by rw[heap_alloc,aI ai]
     refine hK _ _ (ak.alloc _) (λak=>?_);clear hK K;refine sp ?_;refine rdT 3 λK hK=>?_;go_simp;refine(yV ak.sg.ps).mono ?_;rintro e wB ⟨xb,yb,rfl,AU,nk⟩;dsimp only;have PX:=(ak.aB AU nk).lt;have PY:=ak.pw;have sA:=nk.size;try simp only[dB,eB] at sA
     replace jG:=ig nk jG ab;replace ik:=ig nk ik ab;refine hK _ _ (ak.aB AU nk) (λak=>?_);clear hK K;refine sp ?_;obtain⟨g4,e4⟩:∃g,g=wA.heap.size+1:=⟨_,rfl⟩
     exact asB
  .go_simp;have jG:((((w.alloc (.cells #[pP C] 128)).alloc (.cells Nn 239)).alloc (.cells Nn 239)).alloc (.cells #[oZ,eS,oZ,oZ] 187)).heap[w.heap.size+1+1+1]?=some (.cells #[oZ,eS,oZ,oZ] 187):=by rw[heap_alloc,aI ai]
   refine hK _ _ (ak.alloc _) (λak=>?_);clear hK K;refine sp ?_;refine rT2 1 5 (λK hK=>?_) λK hK=>?_
   .go_simp;refine(me ak.sg.ps).mono ?_;rintro e wA ⟨xa,ya,rfl,Z3,Mf⟩;dsimp only;have ah0:=(ak.aB Z3 Mf).lt;have ah1:=ak.pw;have Ss:=Mf.size;try simp only[dB,eB] at Ss
    replace jG:=ig Mf jG ab;refine hK _ _ (ak.aB Z3 Mf) (λak=>?_);clear hK K;refine sp ?_;refine rT2 3 5 (λK hK=>?_) λK hK=>?_
    .go_simp;refine(yV ak.sg.ps).mono ?_;rintro e wB ⟨xb,yb,rfl,AU,nk⟩;dsimp only;have PX:=(ak.aB AU nk).lt;have PY:=ak.pw;have sA:=nk.size;try simp only[dB,eB] at sA
     replace jG:=ig nk jG ab;refine hK _ _ (ak.aB AU nk) (λak=>?_);clear hK K;refine sp ?_;refine rdT 5 λK hK=>?_;go_simp;replace jG:=aD (x:=(.cells #[oZ,eS,oZ,oZ] 187)) jG;have ik:(wB.alloc (.cells #[oZ,eS,oZ,oZ] 187)).heap[wB.heap.size]?=some (.cells #[oZ,eS,oZ,oZ] 187):=by rw[heap_alloc,aI ai]
     refine hK _ _ (ak.alloc _) (λak=>?_);clear hK K;refine sp ?_;obtain⟨g4,e4⟩:∃g,g=w.heap.size+1+1+1:=⟨_,rfl⟩
     exact asC
    .go_simp;replace jG:=aD (x:=(.cells #[oZ,eS,oZ,oZ] 187)) jG;have ik:(wA.alloc (.cells #[oZ,eS,oZ,oZ] 187)).heap[wA.heap.size]?=some (.cells #[oZ,eS,oZ,oZ] 187):=by rw[heap_alloc,aI ai]
     refine hK _ _ (ak.alloc _) (λak=>?_);clear hK K;refine sp ?_;refine rdT 3 λK hK=>?_;go_simp;refine(yV ak.sg.ps).mono ?_;rintro e wB ⟨xb,yb,rfl,AU,nk⟩;dsimp only;have PX:=(ak.aB AU nk).lt;have PY:=ak.pw;have sA:=nk.size;try simp only[dB,eB] at sA
     replace jG:=ig nk jG ab;replace ik:=ig nk ik ab;refine hK _ _ (ak.aB AU nk) (λak=>?_);clear hK K;refine sp ?_;obtain⟨g4,e4⟩:∃g,g=w.heap.size+1+1+1:=⟨_,rfl⟩
     exact asB
   .go_simp;replace jG:=aD (x:=(.cells #[oZ,eS,oZ,oZ] 187)) jG;have ik:(((((w.alloc (.cells #[pP C] 128)).alloc (.cells Nn 239)).alloc (.cells Nn 239)).alloc (.cells #[oZ,eS,oZ,oZ] 187)).alloc (.cells #[oZ,eS,oZ,oZ] 187)).heap[w.heap.size+1+1+1+1]?=some (.cells #[oZ,eS,oZ,oZ] 187):=by rw[heap_alloc,aI ai]
    refine hK _ _ (ak.alloc _) (λak=>?_);clear hK K;refine sp ?_;refine rdT 1 λK hK=>?_;go_simp;refine(me ak.sg.ps).mono ?_;rintro e wA ⟨xa,ya,rfl,Z3,Mf⟩;dsimp only;have ah0:=(ak.aB Z3 Mf).lt;have ah1:=ak.pw;have Ss:=Mf.size;try simp only[dB,eB] at Ss
    replace jG:=ig Mf jG ab;replace ik:=ig Mf ik ab;refine hK _ _ (ak.aB Z3 Mf) (λak=>?_);clear hK K;refine sp ?_;refine rdT 3 λK hK=>?_;go_simp;refine(yV ak.sg.ps).mono ?_;rintro e wB ⟨xb,yb,rfl,AU,nk⟩;dsimp only;have PX:=(ak.aB AU nk).lt;have PY:=ak.pw;have sA:=nk.size;try simp only[dB,eB] at sA
    replace jG:=ig nk jG ab;replace ik:=ig nk ik ab;refine hK _ _ (ak.aB AU nk) (λak=>?_);clear hK K;refine sp ?_;obtain⟨g5,e5⟩:∃g,g=w.heap.size+1+1+1+1:=⟨_,rfl⟩
    obtain⟨g4,e4⟩:∃g,g=w.heap.size+1+1+1:=⟨_,rfl⟩
    exact asw
  .go_simp;have ik:((((w.alloc (.cells #[pP C] 128)).alloc (.cells Nn 239)).alloc (.cells Nn 239)).alloc (.cells #[oZ,eS,oZ,oZ] 187)).heap[w.heap.size+1+1+1]?=some (.cells #[oZ,eS,oZ,oZ] 187):=by rw[heap_alloc,aI ai]
   refine hK _ _ (ak.alloc _) (λak=>?_);clear hK K;refine sp ?_;refine rT2 1 4 (λK hK=>?_) λK hK=>?_
   .go_simp;refine(me ak.sg.ps).mono ?_;rintro e wA ⟨xa,ya,rfl,Z3,Mf⟩;dsimp only;have ah0:=(ak.aB Z3 Mf).lt;have ah1:=ak.pw;have Ss:=Mf.size;try simp only[dB,eB] at Ss
    replace ik:=ig Mf ik ab;refine hK _ _ (ak.aB Z3 Mf) (λak=>?_);clear hK K;refine sp ?_;refine rT2 3 4 (λK hK=>?_) λK hK=>?_
    .go_simp;refine(yV ak.sg.ps).mono ?_;rintro e wB ⟨xb,yb,rfl,AU,nk⟩;dsimp only;have PX:=(ak.aB AU nk).lt;have PY:=ak.pw;have sA:=nk.size;try simp only[dB,eB] at sA
     replace ik:=ig nk ik ab;refine hK _ _ (ak.aB AU nk) (λak=>?_);clear hK K;refine sp ?_;refine rdT 4 λK hK=>?_;go_simp;replace ik:=aD (x:=(.cells #[oZ,eS,oZ,oZ] 187)) ik;have jG:(wB.alloc (.cells #[oZ,eS,oZ,oZ] 187)).heap[wB.heap.size]?=some (.cells #[oZ,eS,oZ,oZ] 187):=by rw[heap_alloc,aI ai]
     refine hK _ _ (ak.alloc _) (λak=>?_);clear hK K;refine sp ?_;obtain⟨g5,e5⟩:∃g,g=w.heap.size+1+1+1:=⟨_,rfl⟩
     exact asy
    .go_simp;replace ik:=aD (x:=(.cells #[oZ,eS,oZ,oZ] 187)) ik;have jG:(wA.alloc (.cells #[oZ,eS,oZ,oZ] 187)).heap[wA.heap.size]?=some (.cells #[oZ,eS,oZ,oZ] 187):=by rw[heap_alloc,aI ai]
     refine hK _ _ (ak.alloc _) (λak=>?_);clear hK K;refine sp ?_;refine rdT 3 λK hK=>?_;go_simp;refine(yV ak.sg.ps).mono ?_;rintro e wB ⟨xb,yb,rfl,AU,nk⟩;dsimp only;have PX:=(ak.aB AU nk).lt;have PY:=ak.pw;have sA:=nk.size;try simp only[dB,eB] at sA
     replace jG:=ig nk jG ab;replace ik:=ig nk ik ab;refine hK _ _ (ak.aB AU nk) (λak=>?_);clear hK K;refine sp ?_;obtain⟨g5,e5⟩:∃g,g=w.heap.size+1+1+1:=⟨_,rfl⟩
     exact asx
   .go_simp;replace ik:=aD (x:=(.cells #[oZ,eS,oZ,oZ] 187)) ik;have jG:(((((w.alloc (.cells #[pP C] 128)).alloc (.cells Nn 239)).alloc (.cells Nn 239)).alloc (.cells #[oZ,eS,oZ,oZ] 187)).alloc (.cells #[oZ,eS,oZ,oZ] 187)).heap[w.heap.size+1+1+1+1]?=some (.cells #[oZ,eS,oZ,oZ] 187):=by rw[heap_alloc,aI ai]
    refine hK _ _ (ak.alloc _) (λak=>?_);clear hK K;refine sp ?_;refine rdT 1 λK hK=>?_;go_simp;refine(me ak.sg.ps).mono ?_;rintro e wA ⟨xa,ya,rfl,Z3,Mf⟩;dsimp only;have ah0:=(ak.aB Z3 Mf).lt;have ah1:=ak.pw;have Ss:=Mf.size;try simp only[dB,eB] at Ss
    replace jG:=ig Mf jG ab;replace ik:=ig Mf ik ab;refine hK _ _ (ak.aB Z3 Mf) (λak=>?_);clear hK K;refine sp ?_;refine rdT 3 λK hK=>?_;go_simp;refine(yV ak.sg.ps).mono ?_;rintro e wB ⟨xb,yb,rfl,AU,nk⟩;dsimp only;have PX:=(ak.aB AU nk).lt;have PY:=ak.pw;have sA:=nk.size;try simp only[dB,eB] at sA
    replace jG:=ig nk jG ab;replace ik:=ig nk ik ab;refine hK _ _ (ak.aB AU nk) (λak=>?_);clear hK K;refine sp ?_;obtain⟨g4,e4⟩:∃g,g=w.heap.size+1+1+1+1:=⟨_,rfl⟩
    obtain⟨g5,e5⟩:∃g,g=w.heap.size+1+1+1:=⟨_,rfl⟩
    have l4:w.heap.size+1+1 < g4:=uB;have l5:w.heap.size+1+1 < g5:=uC;have l45:g4≠g5:=uD;refine dh (λV=>SB C w l Nn V/\V.heap[g4]?=some (.cells #[oZ,eS,oZ,oZ] 187)/\V.heap[g5]?=some (.cells #[oZ,eS,oZ,oZ] 187)) ⟨ak,?_,?_⟩ ?_
    .exact yf
    .exact ye
    rw[<-e4,<-e5];clear ak jG ik e4 e5;rintro V ⟨ak,q4,q5⟩;refine rdT 6 λK hK=>?_;obtain⟨b0,b1,b2,b3,-⟩:=cc (W:=V) (b:=g4) q4;have f0:∀j,V.frozen? ⟨g4,j,none⟩=false:=al q4;go_simp;have q4':=eI q4 (.int .i64 (aZ l).k) (.string (bs (aZ l).t)) (.int .i64 xa) (.int .i64 ya);have q5':=fw q5 (Pr l45) (.int .i64 (aZ l).k) (.string (bs (aZ l).t)) (.int .i64 xa) (.int .i64 ya);refine hK _ _ (ak.step (cG V g4 (.int .i64 (aZ l).k) (.string (bs (aZ l).t)) (.int .i64 xa) (.int .i64 ya)) dF) (λak=>?_);clear hK K;refine sp ?_;refine ddT 7 λK hK=>?_;obtain⟨sN,sO,tF,tG,-⟩:=cc (W:=A7 V g4 (.int .i64 (aZ l).k) (.string (bs (aZ l).t)) (.int .i64 xa) (.int .i64 ya)) (b:=g5) q5';have sP:∀j,(A7 V g4 (.int .i64 (aZ l).k) (.string (bs (aZ l).t)) (.int .i64 xa) (.int .i64 ya)).frozen? ⟨g5,j,none⟩=false:=al q5';go_simp;refine hK _ _ ?_;clear hK K;refine sp ?_;refine dnT ?_;go_wp2_with fail;go_meet
    case rel=>exact⟨g4,g5,xa,ya,xb,yb,rfl,rfl,ak.step (cG _ g5 (.int .i64 (aZ l.tail).k) (.string (bs (aZ l.tail).t)) (.int .i64 xb) (.int .i64 yb)) dF,fw q4' l45 (.int .i64 (aZ l.tail).k) (.string (bs (aZ l.tail).t)) (.int .i64 xb) (.int .i64 yb),eI q5' (.int .i64 (aZ l.tail).k) (.string (bs (aZ l.tail).t)) (.int .i64 xb) (.int .i64 yb)⟩):P:=h
structure LB (C:Ctx) (V0:YC) (b3:Nat) (l:Zi) (cs:Zt) (V:YC):Prop where
 ps:PS C V l
 kp:Kept (λb=>b=C.p∨b=b3) V0 V
 bd:C.Bd<=b3
 WJ:b3 < V0.heap.size
 x1:V.heap[V0.heap.size]?=some (.cells #[pP C] 128 (0,0))
 x2:V.heap[V0.heap.size+1]?=some (.cells #[.pointer b3] 322 (0,0))
 s:V.heap[b3]?=some (.cells cs 239 (0,0))
namespace LB
open Go.Proofs.Tryz
variable {C:Ctx}{V0 V V':YC}{b3:Nat}{l r:Zi}{cs:Zt}{F:Nat -> Prop}
def pp(h:LB C V0 b3 l cs V):C.p < b3:=by have:=h.ps.pb;have:=h.bd;omega
def lt(h:LB C V0 b3 l cs V):V0.heap.size+1 < V.heap.size:=(aQ.1 h.x2).1
def start(h:PS C V0 l)(hs:V0.heap[b3]?=some (.cells cs 239 (0,0)))(hb:C.Bd<=b3):LB C V0 b3 l cs ((V0.alloc (cO #[pP C] 128)).alloc (cO #[.pointer b3] 322)):=by
 have bQ:=(aQ.1 hs).1;refine⟨(h.alloc _).alloc _,((Kept.refl _ V0).alloc _).alloc _,hb,bQ,?_,?_,?_⟩
 .rw[heap_alloc,aE ai,heap_alloc,aI rfl]
 .exact pg
 .exact aD (aD hs)
def aB(h:LB C V0 b3 l cs V)(hp:PS C V' r)(hk:Kept (ch C) V V'):LB C V0 b3 r cs V':=by have:=h.pp;have:=h.lt;have:=h.WJ;exact⟨hp,h.kp.trans' (hk.mono λb e=>Or.inl e),h.bd,h.WJ,(hk.block _ ab kO).trans h.x1,(hk.block _ ab kO).trans h.x2,(hk.block _ ab kO).trans h.s⟩
def step(h:LB C V0 b3 l cs V)(hk:Kept F V V')(hF:∀b,F b->b < V.heap.size->V0.heap.size+1 < b):LB C V0 b3 l cs V':=by have:=h.lt;have:=h.WJ;exact⟨h.ps.kept (Mu hk) su,h.kp.trans hk (λb hb e=>by have:=hF b e ab;omega),h.bd,h.WJ,(hk.block _ ab jz).trans h.x1,(hk.block _ ab jz).trans h.x2,(hk.block _ ab jz).trans h.s⟩
def no(h:LB C V0 b3 l cs V)(hk:Kept aK V V'):LB C V0 b3 l cs V':=h.step hk λ_ e=>e.elim
def alloc(h:LB C V0 b3 l cs V)(x:Obj):LB C V0 b3 l cs (V.alloc x):=h.no ((Kept.refl _ V).alloc x)
def drew(h:LB C V0 b3 l cs V):LB C V0 b3 l cs V.drew:=h.no (Kept.refl _ V).drew
def set(h:LB C V0 b3 l cs V)(j:Nat)(v:YE):LB C V0 b3 l (cs.setIfInBounds j v) (V.setCell ⟨b3,j,none⟩ v):=by have:=h.lt;have:=h.WJ;have:=h.bd;have hk:=au (W:=V) b3 j v;exact⟨h.ps.kept (Mu hk) lK,h.kp.trans' (hk.mono λb e=>Or.inr e),h.bd,h.WJ,(hk.block _ ab ab).trans h.x1,(hk.block _ ab ab).trans h.x2,heap_setCell_same V b3 j v h.s⟩
def st(h:LB C V0 b3 l cs V)(j:Nat)(v:YE){l':YT}(e:rp cs.toList j v l':=by repeat (first|exact rp.z|apply rp.s)):LB C V0 b3 l l'.toArray (V.setCell ⟨b3,j,none⟩ v):=e.arr▸h.set j v
def c{P:T1}{f:RB}{args:Zt}{v:YE}{R:VW}(h:LB C V0 b3 l cs V)(k:Calls P f args V λe w'=>e=.returned v/\PS C w' r/\Kept (ch C) V w')(q:∀w',LB C V0 b3 r cs w'->R (.returned v) w'):Calls P f args V R:=bY k λw' a b=>q w' (h.aB a b)
end LB
abbrev AtB(C:Ctx)(b3:Nat):Nat->Prop:=λb=>b=C.p∨b=b3
abbrev rl(V0:YC):Nat->Prop:=λb=>V0.heap.size+1 < b
def ZF(h:an (λb=>B<=b) V t v)(hB:V0.heap.size+1 < B):an (rl V0) V t v:=h.mono (λb hb _=>by unfold rl;omega)
def amR(h:an (rl V0) V t v)(hk:Kept (AtB C b3) V V')(h1:C.p < b3)(h2:b3 < V0.heap.size):an (rl V0) V' t v:=h.kept hk (λb hb _ e=>by unfold rl at hb;rcases e with e|e<;>omega)
def gN(h:an (rl V0) V t v)(hk:Kept (ch C) V V')(h1:C.p < b3)(h2:b3 < V0.heap.size):an (rl V0) V' t v:=h.kept hk (λb hb _ e=>by unfold rl at hb;unfold ch at e;omega)
def vg(h:an (rl V0) V t v)(h2:b3 < V0.heap.size)(j:Nat)(u:YE):an (rl V0) (V.setCell ⟨b3,j,none⟩ u) t v:=h.kept (au _ j u) (λb hb _ e=>by unfold rl at hb;omega)
def amQ(C:Ctx)(V0:YC)(b3:Nat)(r:Zi)(tags:Zg)(cs:Zt)(V V':YC):Prop:=∃(a:YS) (c:Nat),LB C V0 b3 r (cs.setIfInBounds 4 (sV a tags.length c)) V'/\an (rl V0) V' (.sl tags) (sV a tags.length c)/\Kept (AtB C b3) V V'
def akl(hV:dT){f:Nat}(I9:f<=6000){C:Ctx}{V0 V:YC}{b3:Nat}{l r:Zi}{tags:Zg}{cs:Zt}(S:LB C V0 b3 l cs V){u:YE}(hc4:cs[4]?=some u)(hx:cI f l=some (tags,r)):Calls prog 331 #[.pointer (some ⟨V0,0,none⟩),.pointer (some ⟨V0.heap.size+1,0,none⟩)] V λe w'=>e=.returned (.tuple #[])/\amQ C V0 b3 r tags cs V w':=by
 revert hc4 hx;refine ct ?_;intro hc4 hx;go_enter func331,ntmps331;go_wp2_with fail;refine wpLive 5 (λV=>V.heap[V0.heap.size]?=some (.cells #[pP C] 128 (0,0))/\V.heap[V0.heap.size+1]?=some (.cells #[.pointer b3] 322 (0,0))) (λV s=>And.intro (bc s.1 0) (bc s.2 0)) ?_ λFF ak=>?_
 .exact⟨S.drew.x1,S.drew.x2⟩
 refine tkT 0 ?_;refine tkT 1 ?_;refine rdT 2 λK hK=>?_;go_simp;refine(wM hV I9 S.drew.ps hx).mono ?_;rintro e w1 ⟨⟨a,c,rfl,hv,hlen⟩,P1,K1⟩;dsimp only;have S1:=S.drew.aB P1 K1;have c4:_=(some u:VV):=(aC S1.s 4).trans hc4;have f4:=al S1.s 4;replace hlen:=ah hlen;refine hK _ _ ⟨S1.x1,S1.x2⟩ (λak=>?_);refine sp ?_;refine tkT 3 ?_;refine tkT 4 ?_;refine ddT 5 λK hK=>?_;go_simp;refine hK _ _ ?_;refine sp ?_;refine dnT ?_;go_wp2;go_end0;exact⟨rfl,a,c,S1.set 4 _,vg (ZF hv S.drew.lt) S.WJ 4 _,((((Kept.refl (AtB C b3) V).drew.trans' (K1.mono λb e=>Or.inl e))).trans' ((au b3 4 _).mono λb e=>Or.inr e))⟩
def OwnR.two{w:YC}{x z y:Row}{c0 c1 c2 c3:YE}(h:OwnR B S w 181 4 v [x,z])(hy:aP (λb=>S b/\v.ownBlock≠some b) w y [c0,c1,c2,c3]):∃g cap,v=sV (some ⟨g,0,none⟩) 2 cap/\B<=g/\g < w.heap.size/\(∀j,j < 4->∃u,w.cell? ⟨g,4+j,none⟩=some u)/\(∀j,w.frozen? ⟨g,j,none⟩=false)/\OwnR B S ((((w.setCell ⟨g,4,none⟩ c0).setCell ⟨g,5,none⟩ c1).setCell ⟨g,6,none⟩ c2).setCell ⟨g,7,none⟩ c3) 181 4 v [x,y]:=by
 obtain⟨css,h1,h2,h3⟩:=h
 cases h1 with
 |cons hx h1=>cases h1 with
  |cons hz h1=>cases h1 with
   |nil=>
    rename_i cx cz;rcases h3 with⟨_,h0⟩|⟨g,cap,cur,rfl,hb,WC,h4,h5,h6,h7⟩
    .cases h0
    .have bQ:=(aQ.1 WC).1;have oG:2<=cap:=h4;have dM:8<=cur.size:=by rw[h6];omega
     have e1:=heap_setCell_same w g 4 c0 WC;have e2:=heap_setCell_same _ g 5 c1 e1;have e3:=heap_setCell_same _ g 6 c2 e2;have e4:=heap_setCell_same _ g 7 c3 e3;have hk:=(((au (W:=w) g 4 c0).trans' (au g 5 c1)).trans' (au g 6 c2)).trans' (au g 7 c3);refine⟨g,cap,rfl,hb,bQ,?_,λj=>al WC j,[cx,[c0,c1,c2,c3]],.cons ⟨hx.1,hx.2.kept hk (λb jy _ e=>jy.2 HX)⟩ (.cons ⟨rfl,hy.kept hk (λb jy _ e=>jy.2 HX)⟩ .nil),?_,.inr ⟨g,cap,_,rfl,hb,e4,h4,h5,?_,?_⟩⟩
     .intro j hj;exact⟨cur[4+j]'(by omega),by rw[aC WC];exact Array.getElem?_eq_getElem _⟩
     .simp[hx.1]
     .simpa using h6
     .have hcx:=hx.1;have h8:cur.toList.take (2*4)=cx++cz:=by simpa using h7
      apply List.ext_getElem?
      intro j;have h9:∀j,j < 8->cur.toList[j]?=(cx++cz)[j]?:=by intro j hj;rw[<-h8,B3,aI ab]
      simp only[IW,List.flatten_nil,gp,dC,mc];rw[B3];by_cases hj:j < 8
      .rw[aI ab];simp only[Array.toList_setIfInBounds,List.getElem?_set];by_cases hj4:j < 4
       .have n4:¬4=j:=by omega
        have n5:¬5=j:=ab;have n6:¬6=j:=ab;have n7:¬7=j:=ab;simp only[n4,n5,n6,n7,qE];rw[h9 j hj,rU ab,rU ab]
       .rw[A0 ab,hcx];have hc:j=4∨j=5∨j=6∨j=7:=ab;rcases hc with rfl|rfl|rfl|rfl<;>simp<;>omega
      .rw[aE ab,W6 aH]
open Go.Proofs.Tryz
open Go.RowKit Go.Maps
open Go.Proofs.Bm
def akM(C:Ctx)(V0:YC)(b3 ge:Nat)(r:Zi)(rows:Zg)(cs:Zt)(V V':YC):Prop:=∃(a:YS) (c:Nat),LB C V0 b3 r (cs.setIfInBounds 3 (sV a 2 c)) V'/\an (rl V0) V' (.sl rows) (sV a 2 c)/\Kept (λb=>b=C.p∨b=b3∨b=ge) V V'
def aeg{f:Nat}(xf:gS f){C:Ctx}{V0 V:YC}{b3 ge:Nat}{l r:Zi}{y:Row}{cs:Zt}{xk:Int}{xn:Yz}{xm:Int}{kids:Zg}{xa:YS}{xl xc:Nat}(S:LB C V0 b3 l cs V)(NF:cs[3]?=some (.slice ge 1 1))(WI:V.heap[ge]?=some (.cells #[xk,xn,xm,.slice xa xl xc] 181))(de:V0.heap.size+1 < ge)(hk:an (λb=>V0.heap.size+1 < b/\b≠ge) V (.sl kids) (.slice xa xl xc))(hx:cj f 0 l=some (y,r)):Calls prog 332 #[.pointer (some ⟨V0.heap.size+1,0,none⟩),.pointer (some ⟨V0,0,none⟩)] V λe w'=>e=.returned (.tuple #[])/\akM C V0 b3 ge r [[.int xk,.str xn,.int xm,.sl kids],y] cs V w':=by
 obtain⟨i,hi,A6,cL,dY⟩:=dN Ia;revert NF de hx hi A6 cL dY;refine Wy ?_;intro NF de hx hi A6 cL dY;go_enter func332,ntmps332;go_wp2_with fail;refine wp_region_live 3 (λ_=>True) af bw (λak=>?_);refine rdT 0 λK hK=>?_;go_simp;refine hK _ _ bw (λak=>?_);refine sp ?_;refine rT2 1 2 (λK hK=>?_) λK hK=>?_
 .go_simp;refine hK _ _ bw (λak=>?_);refine sp ?_;refine rdT 2 λK hK=>?_;go_simp;refine hK _ _ bw (λak=>?_);refine sp ?_;refine ddT 3 λK hK=>?_;go_simp;refine hK _ _ ?_;refine sp ?_;refine dnT ?_;refine dh (λW=>Kept aK V W) Lh ?_;rintro W KW;have S1:=S.no KW;have ads:=aJ WI KW;have hkV:=hk.kept KW (λ_ _ _ e=>e);go_wp2_with fail;refine wpLive 11 (λV=>V.heap[V0.heap.size]?=some (.cells #[pP C] 128 (0,0))/\V.heap[V0.heap.size+1]?=some (.cells #[.pointer b3] 322 (0,0))/\V.heap[b3]?=some (.cells cs 239 (0,0))) (λV s=>And.intro (bc s.1 0) (And.intro (bc s.2.1 0) (((aC s.2.2 3).trans NF:V.cell? ⟨b3,3,none⟩=some (.slice ge 1 1))))) ?_ λFF ak=>?_
  .exact⟨S1.drew.x1,S1.drew.x2,S1.drew.s⟩
  refine tkT 0 ?_;refine tkT 1 ?_;refine tkT 2 ?_;refine tkT 3 ?_;refine tkT 4 ?_;refine tkT 5 ?_;refine rdT 6 λK hK=>?_;go_simp;refine(iR xf hx (S1.drew).ps).mono ?_;rintro e w1 ⟨⟨v,rfl,yk,yn,ym,rX,ya,yl,yc,rfl,rfl,qZ⟩,P1,K1⟩;dsimp only;have L1:=(S1.drew).aB P1 K1;have aeh:=(S1.drew).lt;have szY:=K1.size;try simp only[dB,eB] at szY aeh
  have aks:w1.heap[ge]?=some (cO #[xk,xn,xm,sV xa xl xc] 181):=ig K1 ads vU;have xi:=(hkV).kept (w':=w1) (F:=ch C) ((Kept.refl _ _).drew.trans' K1) sq;refine hK _ _ ⟨L1.x1,L1.x2,L1.s⟩ (λak=>?_);refine sp ?_;refine rdT 7 λK hK=>?_;go_simp;refine hK _ _ ⟨aD ak.1,aD ak.2.1,aD ak.2.2⟩ (λak=>?_);refine sp ?_;refine rdT 8 λK hK=>?_;have KZ:Kept aK w1 (w1.alloc (cO #[yk,yn,ym,sV ya yl yc] 181)):=((Kept.refl aK w1).alloc (cO #[yk,yn,ym,sV ya yl yc] 181))
  refine vF ?_;intro Pv hkW L2 tH hxW;have hO:OwnR ge (λb=>V0.heap.size+1 < b) (w1.alloc (cO #[yk,yn,ym,sV ya yl yc] 181)) 181 4 (sV ge 1 1) [[xk,xn,xm,kids]]:=by exact yh
  have eG:∀(j:Nat) (u:YE),([yk,yn,ym,sV ya yl yc]:YT)[j]?=some u->((w1.alloc (cO #[yk,yn,ym,sV ya yl yc] 181))).cell? ((⟨w1,0,none⟩:Addr).add j)=some u:=eH;have hRz:aP (λb=>(λb=>V0.heap.size+1 < b) b/\Value.ownBlock (sV ge 1 1)≠some b) (w1.alloc (cO #[yk,yn,ym,sV ya yl yc] 181)) [yk,yn,ym,rX] [yk,yn,ym,sV ya yl yc]:=.cons (.int _) (.cons (.str _) (.cons (.int _) (.cons ((tH.kept KZ (λ_ _ _ e=>e)).mono λb hb hl=>⟨by have:=S1.lt;omega,λe=>by have e':ge=b:=j6 e;omega⟩) .nil)));have Ph:ge<=((w1.alloc (cO #[yk,yn,ym,sV ya yl yc] 181))).heap.size:=tC (aQ.1 Pv).1;refine eh rfl (kb (P:=prog) underlying179 hi A6 cL dY rfl ab ab (.tmp 20) (.tmp 23) rfl rfl ⟨w1,0,none⟩ 1 rfl _ _ hO Ph ai rfl eG hRz ?_);intro v' W' iH lE aL;have L3:=L2.step lE vQ;have c3:_=(some (.slice ge 1 1):Option Value):=(aC L3.s 3).trans NF;have f3:=al L3.s 3;obtain⟨va,vc,rfl⟩:=iH.form;have LS:=L3.set 3 (sV va 2 vc);have hOS:=iH.kept (au (W:=W') b3 3 (sV va 2 vc)) FB FC;have KF:Kept (λb=>b=C.p∨b=b3∨b=ge) V (W'.setCell ⟨b3,3,none⟩ (sV va 2 vc)):=
   (((aK.to (F:=λb=>b=C.p∨b=b3∨b=ge) KW).trans' (((Kept.refl _ _).drew.trans' K1).mono λb e=>Or.inl e)).trans' (aK.to KZ)).trans' ((lE.mono λb e=>Or.inr (Or.inr (j6 e).symm)).trans' ((au b3 3 _).mono λb e=>Or.inr (Or.inl e)))
  refine hK _ _ ⟨L3.x1,L3.x2,L3.s⟩ (λak=>?_);refine sp ?_;refine tkT 9 ?_;refine tkT 10 ?_;refine ddT 11 λK hK=>?_;go_simp;refine hK _ _ ?_;refine sp ?_;refine dnT ?_;go_wp2;go_end0;exact⟨rfl,va,vc,LS,hOS.rC (λb hb _=>hb) Aq,KF⟩
 .go_simp;refine hK _ _ bw (λak=>?_);refine sp ?_;refine rdT 1 λK hK=>?_;go_simp;refine hK _ _ bw (λak=>?_);refine sp ?_;refine ddT 3 λK hK=>?_;go_simp;refine hK _ _ ?_;refine sp ?_;refine dnT ?_;refine dh (λW=>Kept aK V W) Lh ?_;rintro W KW;have S1:=S.no KW;have ads:=aJ WI KW;have hkV:=hk.kept KW (λ_ _ _ e=>e);go_wp2_with fail;refine wpLive 11 (λV=>V.heap[V0.heap.size]?=some (.cells #[pP C] 128 (0,0))/\V.heap[V0.heap.size+1]?=some (.cells #[.pointer b3] 322 (0,0))/\V.heap[b3]?=some (.cells cs 239 (0,0))) (λV s=>And.intro (bc s.1 0) (And.intro (bc s.2.1 0) (((aC s.2.2 3).trans NF:V.cell? ⟨b3,3,none⟩=some (.slice ge 1 1))))) ?_ λFF ak=>?_
  .exact⟨S1.drew.x1,S1.drew.x2,S1.drew.s⟩
  refine tkT 0 ?_;refine tkT 1 ?_;refine tkT 2 ?_;refine tkT 3 ?_;refine tkT 4 ?_;refine tkT 6 ?_;refine rT2 5 7 (λK hK=>?_) λK hK=>?_
  .go_simp;refine(iR xf hx (S1.drew).ps).mono ?_;rintro e w1 ⟨⟨v,rfl,yk,yn,ym,rX,ya,yl,yc,rfl,rfl,qZ⟩,P1,K1⟩;dsimp only;have L1:=(S1.drew).aB P1 K1;have aeh:=(S1.drew).lt;have szY:=K1.size;try simp only[dB,eB] at szY aeh
   have aks:w1.heap[ge]?=some (cO #[xk,xn,xm,sV xa xl xc] 181):=ig K1 ads vU;have xi:=(hkV).kept (w':=w1) (F:=ch C) ((Kept.refl _ _).drew.trans' K1) sq;refine hK _ _ ⟨L1.x1,L1.x2,L1.s⟩ (λak=>?_);refine sp ?_;refine rdT 7 λK hK=>?_;go_simp;have ey:(w1.alloc (.cells #[oZ,eS,oZ,nS] 181)).heap[w1.heap.size]?=some (.cells #[oZ,eS,oZ,nS] 181):=ao;refine hK _ _ ⟨aD ak.1,aD ak.2.1,aD ak.2.2⟩ (λak=>?_);refine sp ?_;refine rdT 8 λK hK=>?_;have KZ:Kept aK w1 (w1.alloc (cO #[oZ,eS,oZ,nS] 181)):=((Kept.refl aK w1).alloc (cO #[oZ,eS,oZ,nS] 181))
   refine vF ?_;intro Pv hkW L2 tH hxW;have hO:OwnR ge (λb=>V0.heap.size+1 < b) (w1.alloc (cO #[oZ,eS,oZ,nS] 181)) 181 4 (sV ge 1 1) [[xk,xn,xm,kids]]:=by exact yh
   have eG:∀(j:Nat) (u:YE),([oZ,eS,oZ,nS]:YT)[j]?=some u->((w1.alloc (cO #[oZ,eS,oZ,nS] 181))).cell? ((⟨w1,0,none⟩:Addr).add j)=some u:=by exact DZ
   have hRz:aP (λb=>(λb=>V0.heap.size+1 < b) b/\Value.ownBlock (sV ge 1 1)≠some b) (w1.alloc (cO #[oZ,eS,oZ,nS] 181)) [.int 0,.str [],.int 0,.sl []] [oZ,eS,oZ,nS]:=.cons (.int _) (.cons (.str []) (.cons (.int _) (.cons .nil .nil)));have Ph:ge<=((w1.alloc (cO #[oZ,eS,oZ,nS] 181))).heap.size:=tC (aQ.1 Pv).1;refine eh rfl (kb (P:=prog) underlying179 hi A6 cL dY rfl ab ab (.tmp 7) (.tmp 11) rfl rfl ⟨w1,0,none⟩ 1 rfl _ _ hO Ph ai rfl eG hRz ?_);intro v' W' iH lE aL;have apS:ge < ((w1.alloc (cO #[oZ,eS,oZ,nS] 181))).heap.size:=(aQ.1 Pv).1;have L3:=L2.step lE vQ;have hyW:=(tH.kept KZ (λ_ _ _ e=>e)).kept lE AH;have nE:∀b,v'.ownBlock=some b->b=ge∨w1.heap.size<=b:=λb e=>by
    rcases aL with hr|hr
    .exact D8
    .have:=hr b e;simp only[dB] at this;exact .inr ab
   revert v' iH aL nE;refine KG ?_;intro g7 gy ZG tj akq akr h36 iH aL nE hyr LS hOS hyS hg7 Xp Xq hOY u0 cu0 u1 cu1 u2 cu2 u3 cu3 fz4 fz5 fz6 fz7 c3 f3;have KF:Kept (λb=>b=C.p∨b=b3∨b=ge) V (W'.setCell ⟨b3,3,none⟩ (sV g7 2 gy)):=
    (((aK.to (F:=λb=>b=C.p∨b=b3∨b=ge) KW).trans' ((((Kept.refl _ _).drew.trans' K1)).mono λb e=>Or.inl e)).trans' (aK.to KZ)).trans' ((lE.mono λb e=>Or.inr (Or.inr (j6 e).symm)).trans' ((au b3 3 _).mono λb e=>Or.inr (Or.inl e)))
   exact C2
  .go_simp;have hz:(W.alloc (.cells #[oZ,eS,oZ,nS] 181)).heap[W.heap.size]?=some (.cells #[oZ,eS,oZ,nS] 181):=ao;refine hK _ _ ⟨aD ak.1,aD ak.2.1,aD ak.2.2⟩ (λak=>?_);refine sp ?_;refine rdT 5 λK hK=>?_;go_simp;refine(iR xf hx ((S1.alloc (cO #[oZ,eS,oZ,nS] 181)).drew).ps).mono ?_;rintro e w1 ⟨⟨v,rfl,yk,yn,ym,rX,ya,yl,yc,rfl,rfl,qZ⟩,P1,K1⟩;dsimp only;have L1:=((S1.alloc (cO #[oZ,eS,oZ,nS] 181)).drew).aB P1 K1;have aeh:=((S1.alloc (cO #[oZ,eS,oZ,nS] 181)).drew).lt;have szY:=K1.size;try simp only[dB,eB] at szY aeh
   have aks:w1.heap[ge]?=some (cO #[xk,xn,xm,sV xa xl xc] 181):=ig K1 (aD (x:=(cO #[oZ,eS,oZ,nS] 181)) ads) vU;have xi:=(hkV).kept (w':=w1) (F:=ch C) (((Kept.refl _ W).alloc (cO #[oZ,eS,oZ,nS] 181)).drew.trans' K1) sq;have ey:w1.heap[W.heap.size]?=some (cO #[oZ,eS,oZ,nS] 181):=ig K1 hz (by have:=S1.pp;have:=S1.WJ;have:=S1.lt;omega);refine hK _ _ ⟨L1.x1,L1.x2,L1.s⟩ (λak=>?_);refine sp ?_;refine rdT 8 λK hK=>?_;have KZ:Kept aK w1 w1:=(Kept.refl aK w1)
   refine vF ?_;intro Pv hkW L2 tH hxW;have hO:OwnR ge (λb=>V0.heap.size+1 < b) w1 181 4 (sV ge 1 1) [[xk,xn,xm,kids]]:=by exact yh
   have eG:∀(j:Nat) (u:YE),([oZ,eS,oZ,nS]:YT)[j]?=some u->(w1).cell? ((⟨W,0,none⟩:Addr).add j)=some u:=by exact DZ
   have hRz:aP (λb=>(λb=>V0.heap.size+1 < b) b/\Value.ownBlock (sV ge 1 1)≠some b) w1 [.int 0,.str [],.int 0,.sl []] [oZ,eS,oZ,nS]:=.cons (.int _) (.cons (.str []) (.cons (.int _) (.cons .nil .nil)));have Ph:ge<=(w1).heap.size:=tC (aQ.1 Pv).1;refine eh rfl (kb (P:=prog) underlying179 hi A6 cL dY rfl ab ab (.tmp 7) (.tmp 11) rfl rfl ⟨W,0,none⟩ 1 rfl _ _ hO Ph ai rfl eG hRz ?_);intro v' W' iH lE aL;have apS:ge < (w1).heap.size:=(aQ.1 Pv).1;have L3:=L2.step lE vQ;have hyW:=(tH.kept KZ (λ_ _ _ e=>e)).kept lE AH;have nE:∀b,v'.ownBlock=some b->b=ge∨w1.heap.size<=b:=λb e=>by
    rcases aL with hr|hr
    .exact D8
    .have:=hr b e;exact .inr ab
   revert v' iH aL nE;refine KG ?_;intro g7 gy ZG tj akq akr h36 iH aL nE hyr LS hOS hyS hg7 Xp Xq hOY u0 cu0 u1 cu1 u2 cu2 u3 cu3 fz4 fz5 fz6 fz7 c3 f3;have KF:Kept (λb=>b=C.p∨b=b3∨b=ge) V (W'.setCell ⟨b3,3,none⟩ (sV g7 2 gy)):=
    (((aK.to (F:=λb=>b=C.p∨b=b3∨b=ge) KW).trans' (((((Kept.refl _ W).alloc (cO #[oZ,eS,oZ,nS] 181)).drew.trans' K1)).mono λb e=>Or.inl e)).trans' (aK.to KZ)).trans' ((lE.mono λb e=>Or.inr (Or.inr (j6 e).symm)).trans' ((au b3 3 _).mono λb e=>Or.inr (Or.inl e)))
   exact C2
end Go.Proofs.Gm
