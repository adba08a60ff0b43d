/- Part of BaseDrivers. No condition. -/
import Derived.Test.YtibajhihfaggfaaGreatDoorQAE
import Derived.Test.YtibajhihfaggfaaGreatDoorQAJ
set_option linter.all false
set_option maxRecDepth 100000
set_option maxHeartbeats 0
namespace Go.Proofs.Gm
open Go.Proofs.Tryz Go.RowKit Go.Maps Go.Proofs.Bm
variable {V w5 V' W W':YC}{l:Zi}{cs:Zt}{g bp j wd B0:Nat}{rows:Zg}{S:Wq}{fs sS:Y9}{c9 jI iE gh ft js v v5 v':YE}{os:List Obj}
abbrev AtG(C:Ctx)(w:YC):Nat->Prop:=λb=>b=C.p∨b=w.heap.size
def U1(C:Ctx)(w:YC)(T:UB)(cs:Zt)(j wd:Nat)(rows:Zg)(r:Zi)(V V':YC):Prop:=
 ∃(a:YS) (c:Nat),GB C w r [cO (cs.setIfInBounds j (sV a rows.length c)) T] V'/\an (xy w 1) V' (.sl rows) (sV a rows.length c)/\(∀row∈rows,row.length=wd)/\Kept (AtG C w) V V'
def bZ{w:YC}{C:Ctx}{o:Obj}(h:Sg C w l V)(hb:w.heap[bp]?=some o)(cR:bp≠C.p):V.heap[bp]?=some o:=
 (h.kp.block _ (aQ.1 hb).1 cR).trans hb
def ala{F:Nat}{C:Ctx}{w:YC}{r:Zi}(G:GB C w l [cO cs 171] V)(hb:w.heap[bp]?=some (.cells #[pP C] 128 (0,0)))(cR:bp≠C.p){u:YE}(hc:cs[4]?=some u)(dx:F<=6000)(hx:fB 1 F l=some (sS,r)):Calls prog 234 #[.pointer bp,.pointer w.heap.size] V λe w'=>e=.returned (.tuple #[])/\U1 C w 171 cs 4 1 (strs sS) r V w':=by have pb:=bc (W:=V) (bx:=bp) (bZ G.sg hb cR) 0;go_enter func234,ntmps234;revert G hb cR;refine jk ?_;intro G hb cR;go_wp2_with fail;refine(UY hx G.ps dx).mono ?_;rintro e w1 ⟨⟨a,c,rfl,hv,hlen⟩,P1,K1⟩;have S1:=G.aB P1 K1;have c7:_=(some u:VV):=(S1.cellAt (i:=0) rfl 4).trans hc;have f7:w1.frozen? ⟨w,4,none⟩=false:=al (S1.bx 0 _ rfl) 4;have S2:=S1.set 0 4 rfl (.slice a (strs sS).length c);have jo:=qR (i:=0) (lU (w:=w) (n:=1) hv G.lt) aj 4 (.slice a (strs sS).length c);have K2:Kept (AtG C w) V (w1.setCell ⟨w,4,none⟩ (.slice a (strs sS).length c)):=(K1.mono (λb e=>Or.inl e)).trans' ((au _ 4 _).mono (λb e=>Or.inr e));replace hlen:=ah hlen;replace c7:w1.cell? ⟨w,4,none⟩=(some u:VV):=c7;exact mL
def aeB(hV:dT){F:Nat}{C:Ctx}{w V:YC}{l r:Zi}{rows:Zg}{cs:Zt}{bp:Nat}(G:GB C w l [cO cs 149] V)(hb:w.heap[bp]?=some (.cells #[pP C] 128 (0,0)))(cR:bp≠C.p){u:YE}(hc:cs[10]?=some u)(dx:F<=6000)(hx:cI F l=some (rows,r)):Calls prog 241 #[.pointer bp,.pointer w.heap.size] V λe w'=>e=.returned (.tuple #[])/\U1 C w 149 cs 10 5 rows r V w':=by have pb:=bc (W:=V) (bx:=bp) (bZ G.sg hb cR) 0;go_enter func241,ntmps241;revert G hb cR;refine jk ?_;intro G hb cR;go_wp2_with fail;refine(wM hV dx G.ps hx).mono ?_;rintro e w1 ⟨⟨a,c,rfl,hv,hlen⟩,P1,K1⟩;have S1:=G.aB P1 K1;have c7:_=(some u:VV):=(S1.cellAt (i:=0) rfl 10).trans hc;have f7:w1.frozen? ⟨w,10,none⟩=false:=al (S1.bx 0 _ rfl) 10;have S2:=S1.set 0 10 rfl (sV a rows.length c);have jo:=qR (i:=0) (lU (w:=w) (n:=1) hv G.lt) aj 10 (sV a rows.length c);have K2:Kept (AtG C w) V (w1.setCell ⟨w,10,none⟩ (sV a rows.length c)):=(K1.mono (λb e=>Or.inl e)).trans' ((au _ 10 _).mono (λb e=>Or.inr e));replace hlen:=ah hlen;replace c7:w1.cell? ⟨w,10,none⟩=(some u:VV):=c7;exact mL
def aeC(hV:dT){F:Nat}{C:Ctx}{w V:YC}{l r:Zi}{rows:Zg}{cs:Zt}{bp:Nat}(G:GB C w l [cO cs 149] V)(hb:w.heap[bp]?=some (.cells #[pP C] 128 (0,0)))(cR:bp≠C.p){u:YE}(hc:cs[11]?=some u)(dx:F<=6000)(hx:cI F l=some (rows,r)):Calls prog 242 #[.pointer bp,.pointer w.heap.size] V λe w'=>e=.returned (.tuple #[])/\U1 C w 149 cs 11 5 rows r V w':=by have pb:=bc (W:=V) (bx:=bp) (bZ G.sg hb cR) 0;go_enter func242,ntmps242;revert G hb cR;refine jk ?_;intro G hb cR;go_wp2_with fail;refine(wM hV dx G.ps hx).mono ?_;rintro e w1 ⟨⟨a,c,rfl,hv,hlen⟩,P1,K1⟩;have S1:=G.aB P1 K1;have c7:_=(some u:VV):=(S1.cellAt (i:=0) rfl 11).trans hc;have f7:w1.frozen? ⟨w,11,none⟩=false:=al (S1.bx 0 _ rfl) 11;have S2:=S1.set 0 11 rfl (sV a rows.length c);have jo:=qR (i:=0) (lU (w:=w) (n:=1) hv G.lt) aj 11 (sV a rows.length c);have K2:Kept (AtG C w) V (w1.setCell ⟨w,11,none⟩ (sV a rows.length c)):=(K1.mono (λb e=>Or.inl e)).trans' ((au _ 11 _).mono (λb e=>Or.inr e));replace hlen:=ah hlen;replace c7:w1.cell? ⟨w,11,none⟩=(some u:VV):=c7;exact mL
def aeD(hV:dT){F:Nat}{C:Ctx}{w V:YC}{l r:Zi}{rows:Zg}{cs:Zt}{bp:Nat}(G:GB C w l [cO cs 149] V)(hb:w.heap[bp]?=some (.cells #[pP C] 128 (0,0)))(cR:bp≠C.p){u:YE}(hc:cs[13]?=some u)(dx:F<=6000)(hx:dy F l=some (rows,r)):Calls prog 245 #[.pointer bp,.pointer w.heap.size] V λe w'=>e=.returned (.tuple #[])/\U1 C w 149 cs 13 8 rows r V w':=by have pb:=bc (W:=V) (bx:=bp) (bZ G.sg hb cR) 0;go_enter func245,ntmps245;revert G hb cR;refine jk ?_;intro G hb cR;go_wp2_with fail;refine((Sv hV F dx F (aM _)).1 C _ _ _ _ G.ps hx).mono ?_;rintro e w1 ⟨⟨a,c,rfl,hv,hlen⟩,P1,K1⟩;have S1:=G.aB P1 K1;have c7:_=(some u:VV):=(S1.cellAt (i:=0) rfl 13).trans hc;have f7:w1.frozen? ⟨w,13,none⟩=false:=al (S1.bx 0 _ rfl) 13;have S2:=S1.set 0 13 rfl (sV a rows.length c);have jo:=qR (i:=0) (lU (w:=w) (n:=1) hv G.lt) aj 13 (sV a rows.length c);have K2:Kept (AtG C w) V (w1.setCell ⟨w,13,none⟩ (sV a rows.length c)):=(K1.mono (λb e=>Or.inl e)).trans' ((au _ 13 _).mono (λb e=>Or.inr e));replace hlen:=ah hlen;replace c7:w1.cell? ⟨w,13,none⟩=(some u:VV):=c7;exact mL
def aam{F:Nat}{C:Ctx}{w:YC}{r:Zi}(fx:∀s∈C.fs,bW s)(h:PS C w l)(dx:F<=6000)(hx:ml C.fs F l=some (rows,r)):Calls prog 238 #[pP C,.string ⟨#[59]⟩,.func (.func 239) #[pP C] #[]] w (fR C 6 rows r w):=by rw[abD] at hx;have:=abF (one:=abt C.fs) (λf hf w l r x h hx=>ahU ab fx h hx) hx h dx;rwa[AZ] at this
def aeE{F:Nat}{C:Ctx}{w:YC}{r:Zi}(G:GB C w l [cO cs 149] V)(hb:w.heap[bp]?=some (.cells #[pP C] 128 (0,0)))(cR:bp≠C.p){u:YE}(hc:cs[9]?=some u)(fx:∀s∈C.fs,bW s)(dx:F<=6000)(hx:ml C.fs F l=some (rows,r)):Calls prog 243 #[.pointer bp,.pointer w.heap.size] V λe w'=>e=.returned (.tuple #[])/\U1 C w 149 cs 9 6 rows r V w':=by have pb:=bc (W:=V) (bx:=bp) (bZ G.sg hb cR) 0;go_enter func243,ntmps243;revert G hb cR;refine jk ?_;intro G hb cR;go_wp2_with fail;refine(aam fx G.ps dx hx).mono ?_;rintro e w1 ⟨⟨a,c,rfl,hv,hlen⟩,P1,K1⟩;have S1:=G.aB P1 K1;have c7:_=(some u:VV):=(S1.cellAt (i:=0) rfl 9).trans hc;have f7:w1.frozen? ⟨w,9,none⟩=false:=al (S1.bx 0 _ rfl) 9;have S2:=S1.set 0 9 rfl (sV a rows.length c);have jo:=qR (i:=0) (lU (w:=w) (n:=1) hv G.lt) aj 9 (sV a rows.length c);have K2:Kept (AtG C w) V (w1.setCell ⟨w,9,none⟩ (sV a rows.length c)):=(K1.mono (λb e=>Or.inl e)).trans' ((au _ 9 _).mono (λb e=>Or.inr e));replace hlen:=ah hlen;replace c7:w1.cell? ⟨w,9,none⟩=(some u:VV):=c7;exact mL
def alb{F:Nat}{C:Ctx}{w:YC}{r:Zi}{row:Row}{c0 c1 c2 c3 u4 u5 u6 u7 u8:YE}(G:GB C w l [cO #[c0,c1,c2,c3,u4,u5,u6,u7,u8,c9,jI,iE,gh,ft,js] 149] V)(hb:w.heap[bp]?=some (.cells #[pP C] 128 (0,0)))(cR:bp≠C.p)(fx:∀s∈C.fs,bW s)(dx:F<=6000)(hx:mj C.fs F l=some (row,r)):Calls prog 240 #[.pointer bp,.pointer w.heap.size] V λe w'=>e=.returned (.tuple #[])/\∃(k:Int) (nm:Yz) (xs:Zg) (vv ss:TG) (a:YS) (m c:Nat),row=[.int k,.str nm,.sl xs,.bool vv,.bool ss]/\GB C w r [cO #[c0,c1,c2,c3,k,nm,sV a m c,vv,ss,c9,jI,iE,gh,ft,js] 149] w'/\an (xy w 1) w' (.sl xs) (sV a m c)/\Kept (AtG C w) V w':=by
 have pb:=bc (W:=V) (bx:=bp) (bZ G.sg hb cR) 0;go_enter func240,ntmps240;revert G hb cR;refine jk ?_;intro G hb cR;go_wp2_with fail;refine(Z1 F dx C _ _ _ _ fx G.ps hx).mono ?_;rintro e w1 ⟨⟨v,rfl,k,nm,xs,vv,ss,a,m,c,rfl,rfl,hv⟩,P1,K1⟩;have S1:=G.aB P1 K1;obtain⟨-,-,-,-,q4,q5,q6,q7,q8,-⟩:=cc (W:=w1) (b:=w) (S1.bx 0 _ rfl);have f7:∀j,w1.frozen? ⟨w,j,none⟩=false:=al (S1.bx 0 _ rfl);have S2:=((((S1.set 0 4 rfl (iV k)).set 0 5 rfl (.string (bs nm))).set 0 6 rfl (sV a m c)).set 0 7 rfl (.bool vv)).set 0 8 rfl (.bool ss);have K4:Kept (λb=>b=w.heap.size) w1 (((((w1.setCell ⟨w,4,none⟩ (iV k)).setCell ⟨w,5,none⟩ (.string (bs nm))).setCell ⟨w,6,none⟩ (sV a m c)).setCell ⟨w,7,none⟩ (.bool vv)).setCell ⟨w,8,none⟩ (.bool ss)):=
  ((((au _ 4 _).trans' (au _ 5 _)).trans' (au _ 6 _)).trans' (au _ 7 _)).trans' (au _ 8 _)
 have jo:=(lU (w:=w) (n:=1) hv G.lt).kept K4 nU;have K2:Kept (AtG C w) V (((((w1.setCell ⟨w,4,none⟩ (iV k)).setCell ⟨w,5,none⟩ (.string (bs nm))).setCell ⟨w,6,none⟩ (sV a m c)).setCell ⟨w,7,none⟩ (.bool vv)).setCell ⟨w,8,none⟩ (.bool ss)):=(K1.mono (λb e=>Or.inl e)).trans' (K4.mono (λb e=>Or.inr e));go_wp2;go_end0;exact⟨rfl,k,nm,xs,vv,ss,a,m,c,rfl,S2,jo,K2⟩
def ah7{w:YC}(fs:Y9):F2 (λrow cs=>cs.length=1/\aP S w row cs) (strs fs) (fs.map (λs=>[.string (bs s)])):=by exact ui
def abI(fs:Y9):(fs.map (λs=>[.string (bs s)])).flatten=(fs.map bs).map Value.string:=by
 induction fs with
 |nil=>rfl
 |cons s fs ih=>rw[lp,IW,ih];rfl
def NQ{w:YC}(h:an S w (.sl (strs fs)) v)(cR:fs≠[])(tj:fs.length<=6000):Calls prog 237 #[v] w λe w'=>∃a c,e=.returned (sV a fs.length c)/\an w w' (.sl (strs fs)) (sV a fs.length c)/\Kept aK w w':=by
 generalize ht:T.sl (strs fs)=t at h
 cases h with
 |int n=>cases ht
 |str n=>cases ht
 |bool n=>cases ht
 |nil=>injection ht with ht;exact absurd (by simpa[strs] using ht) cR
 |sl rows g off cap wd c hS hg oG hm hw hc hv=>
  injection ht with ht;subst ht;have hl:(strs fs).length=(fs.map bs).length:=bR;have oL:(fs.map bs).length=fs.length:=ai;rw[hl];have LZ:∀(j:Nat) (s':Yz),fs[j]?=some s'->(strs fs)[j]?=some [T.str s']:=λj s' e=>by simp[strs,e]
  refine(Tryz.slices_Clone_string g off _ cap (fs.map bs) w (aM _) (by rw[oL];omega) (λj hj=>?_)).mono λe w' ⟨v',h1,h2,h3,h4⟩=>?_
  .exact Df
  .have hO:OwnR w.heap.size w w' 9 1 v' (strs fs):=by refine⟨fs.map (λs=>[.string (bs s)]),ah7 fs,?_⟩;rw[hl,abI];rw[qB] at h2;exact h2
   obtain⟨a,cp,rfl⟩:=hO.form;have eG:(strs fs).length=fs.length:=bR;rw[eG] at h1;have Zr:=hO.rC (S':=λb=>w.heap.size<=b) (λ_ h _=>h) (λ_ h _=>h);rw[eG] at Zr;exact⟨a,cp,h1,Zr,Kept.QL h4⟩
def aP.mR{w:YC}{row:Row}{cs:YT}(h:aP S w row cs){t:T}{v:YE}(hv:an S w t v)(j:Nat):aP S w (row.set j t) (cs.set j v):=by
 refine⟨by simpa using h.1,λi t' c' h1 h2=>?_⟩;by_cases e:j=i
 .subst e;have l1:j < row.length:=by have:=(dk.1 h1).1;simpa using this
  have l2:j < cs.length:=by have:=(dk.1 h2).1;simpa using this
  rw[WZ l1] at h1;rw[WZ l2] at h2
  cases h1;cases h2;exact hv
 .rw[List.getElem?_set_ne e] at h1 h2;exact h.2 i t' c' h1 h2
abbrev oW(w w5:YC):Nat->Prop:=λb=>w.heap.size+2<=b/\b≠w5.heap.size
def lR{C:Ctx}{w:YC}{row:Row}{cs:YT}(h:aP (oW w w5) V row cs)(hk:Kept (AtG C w5) V V')(hp:C.p < w.heap.size):aP (oW w w5) V' row cs:=
 h.kept hk λb hb _ e=>by
  rcases e with e|e
  .have:=hb.1;omega
  .exact hb.2 e
def eZ{C:Ctx}{w:YC}{row:Row}{cs:YT}(h:aP (oW w w5) V row cs)(hk:Kept (ch C) V V')(hp:C.p < w.heap.size):aP (oW w w5) V' row cs:=
 lR h (hk.mono λb e=>Or.inl e) hp
def Jp{w:YC}{row:Row}{cs:YT}(h:aP (oW w w5) V row cs)(j:Nat)(u:YE):aP (oW w w5) (V.setCell ⟨w5,j,none⟩ u) row cs:=
 h.kept (au w5.heap.size j u) λb hb _ e=>hb.2 e
def rH{w:YC}{t:T}(h:an (xy w5 1) V t v)(hs:w.heap.size+2<=w5.heap.size):an (oW w w5) V t v:=
 h.mono λb hb _=>by unfold xy at hb;exact⟨by omega,by omega⟩
def ac9{u:YE}(h:cs[j]?=some u):cs.setIfInBounds j u=cs:=by
 have hl:=(aQ.1 h).1;apply Array.ext
 .simp
 .intro i h1 h2;rw[Array.getElem_setIfInBounds];split
  .rename_i e;subst e;exact(aQ.1 h).2.symm
  .rfl
def Ie{C:Ctx}{w:YC}{r:Zi}{T:UB}(G:GB C w l [cO cs T] V)(s:TC){b:YR}{F:RB}{sz:Zt}{P:List aF->Option (List Row×List aF)}
  (hc:cs[j]?=some (sV none 0 0)) (hx:(if aO (tx s) l=true then P l.tail else some ([],l))=some (rows,r))
  (hF:∀V1,GB C w l.tail [cO cs T] V1->P l.tail=some (rows,r)->Calls prog F sz V1 λe w'=>e=.returned (.tuple #[])/\U1 C w T cs j wd rows r V1 w')
  (hcf:∀w,(callFunc F sz).run prog w=.ok (.enter F sz) w) (hb:b=bs (tx s):=by rfl) (hs:((tx s).all λc=>decide (c < 256))=true:=by decide):
  Calls prog 172 #[pP C,.string b,.func (.func F) #[] sz] V λe w'=>e=.returned (.bool (aO (tx s) l))/\U1 C w T cs j wd rows r V w':=by
 cases hi:aO (tx s) l with
 |true=>rw[hi,aI rfl] at hx;refine(Ny G.ps s (R:=λV1 V'=>U1 C w T cs j wd rows r V1 V') hi (λV1 P1 K1=>hF V1 (G.aB P1 K1) hx) hcf hb hs).mono ?_;rintro e w' ⟨rfl,V1,P1,K1,a,c,h1,h2,h3,h4⟩;exact⟨rfl,a,c,h1,h2,h3,(K1.mono (λb e=>Or.inl e)).trans' h4⟩
 |false=>exact Dq
def PaV(S:Wq)(w:YC)(row:Row)(v:YE):Prop:=∃(nm:Yz) (a:YS) (m c:Nat),v=.agg #[nm,nS,nS,nS,sV a m c,nS]/\aP S w row [nm,nS,nS,nS,sV a m c,nS]
def X1(C:Ctx)(row:Row)(r:Zi)(w:YC)(e:TP)(w':YC):Prop:=(∃v,e=.returned v/\PaV w w' row v)/\PS C w' r/\Kept (ch C) w w'
def apV{C:Ctx}{w:YC}{r:Zi}{row:Row}(G:GB C w5 r os V)(Kw:Kept (ch C) w w5)(dM:w.heap.size+2<=w5.heap.size){nm:Yz}{a:YS}{m c:Nat}(R:aP (oW w w5) V row [nm,nS,nS,nS,sV a m c,nS])(rk:C.Bd<=w.heap.size):X1 C row r w (.returned (.agg #[nm,nS,nS,nS,sV a m c,nS])) (ana V (w.heap.size+1) (.string (bs nm)) (sV none 0 0) (sV none 0 0) (sV none 0 0) (sV a m c) (sV none 0 0)):=by
 have hk:=QP V (w.heap.size+1) (.string (bs nm)) (sV none 0 0) (sV none 0 0) (sV none 0 0) (sV a m c) (sV none 0 0);have S0:Sg C w r V:=⟨G.ps,Kw.trans' G.sg.kp,rk⟩
 have S1:=S0.step hk dF;exact⟨⟨_,rfl,nm,a,m,c,rfl,(R.kept hk hZ).mono λb hb _=>by have:=hb.1;omega⟩,S1.ps,S1.kp⟩
def zW:List (List Nat):=[tx "NONE",tx "INTEGER",tx "BOOLEAN"]
def aan:∀s∈zW,bW s:=by intro s hs;simp only[zW,cZ,as5,as6] at hs;rcases hs with rfl|rfl|rfl<;>exact aV aj
def abJ{F:Nat}(dx:F<=6000){C:Ctx}{w:YC}{l r:Zi}{row:Row}(h:PS C w l)(hx:nc F l=some (row,r))(eK:∀nm r1,word 2 l=some (nm,r1)->zW.contains nm=false):Calls prog 177 #[pP C] w (X1 C row r w):=by
 simp only[nc,cF] at hx;obtain⟨⟨nm,r1⟩,h1,iF⟩:=aw.1 hx;clear hx;dsimp only at iF;replace eK:=eK nm r1 h1;split at iF
 .cases iF
 rename_i hc;obtain⟨hc1,L9,NF⟩:aO "[" r1=false/\aO "rename" r1=false/\aO "undefine" r1=false:=by simp only[j5,rV,gI] at hc;exact⟨hc.1.1,hc.1.2,hc.2⟩
 obtain⟨⟨re,r2⟩,h2,ir⟩:=aw.1 iF;clear iF;obtain⟨r3,h3,T4⟩:=aw.1 ir;clear ir;dsimp only at h3 T4
 cases T4;have h2':(if aO "redefine" r1=true then((fB 1 F r1.tail).bind λx=>some (strs x.1,x.2)) else some ([],r1))=some (re,r2):=h2;have UJ:aO "select" r2=false:=by
  cases r2 with
  |nil=>rfl
  |cons t r2=>
   unfold cK at h3;split at h3
   .exact yj
   .cases h3
 have rk:=ah h.bd;have eo:=ah (eP h);have G0:=ah (((GB.start h).push (cO #[pP C] 128) rfl).push (cO #[eS,nS,nS,nS,nS,nS] 171) ai);revert h1 eK hc1 L9 NF h3 h2' UJ;refine TR ?_;intro h1 eK hc1 L9 NF h3 h2' UJ;go_enter func177,ntmps177;go_wp2_with fail;have QI:an (λb=>b≠C.p) (((w.alloc (cO #[pP C] 128)).alloc (cO #[.string ⟨#[]⟩,sV none 0 0,sV none 0 0,sV none 0 0,sV none 0 0,sV none 0 0] 171)).alloc (cO #[.string eQ,.string gj,.string gn] 9)) (.sl (strs zW)) (sV (some ⟨w.heap.size+1+1,0,none⟩) 3 3):=by have hh:=xW (w:=(w.alloc (cO #[pP C] 128)).alloc (cO #[eS,nS,nS,nS,nS,nS] 171)) (arr:=#[.string eQ,.string gj,.string gn]) (E:=9) (fs:=zW) C.p (by rfl) aj Lu;rw[dB,dB] at hh;exact hh
 refine bY (ov (G0.alloc (cO #[.string eQ,.string gj,.string gn] 9)).ps h1 QI (λb e=>e) aan eK) λw2 P1 K1=>?_;have G2:=(G0.alloc (cO #[.string eQ,.string gj,.string gn] 9)).aB P1 K1;have dM:w.heap.size+2<=w2.heap.size:=vo;have hb:w2.heap[w.heap.size]?=some (.cells #[pP C] 128 (0,0)):=G2.bx 0 _ rfl;have hz:w2.heap[w.heap.size+1]?=some (.cells #[eS,nS,nS,nS,nS,nS] 171 (0,0)):=G2.bx 1 _ rfl;have gU:w.heap.size≠C.p:=gO;have vq:w.heap.size+1≠C.p:=gO;have Kw:=ah G2.sg.kp;have G5:GB C w2 r1 [cO #[.string (bs nm),nS,nS,nS,nS,nS] 171] (w2.alloc (cO #[.string (bs nm),nS,nS,nS,nS,nS] 171)):=(GB.start G2.ps).push (cO #[.string (bs nm),nS,nS,nS,nS,nS] 171) rfl;have R5:aP (oW w w2) (w2.alloc (cO #[.string (bs nm),nS,nS,nS,nS,nS] 171)) [.str nm,.sl [],.sl [],.sl [],.sl [],.sl []] [.string (bs nm),nS,nS,nS,nS,nS]:=.cons (.str _) (.cons .nil (.cons .nil (.cons .nil (.cons .nil (.cons .nil .nil)))));revert dM hb hz gU vq G5 R5;refine Wy ?_;intro dM hb hz gU vq G5 R5;have pb:=bc (bZ G5.sg hb gU) 0;go_wp2_with fail;refine bY (Ar G5.ps "[" hc1) λw3 P1 K1=>?_;have G6:=ah (G5.aB P1 K1);have R6:Hid (aP (oW w w2) w3 [.str nm,.sl [],.sl [],.sl [],.sl [],.sl []] [.string (bs nm),nS,nS,nS,nS,nS]):=ah (eZ R5.out K1 eo.out);have pb:=bc (bZ G6.sg hb gU) 0;go_wp2_with fail;refine bY (Ar G6.ps "rename" L9) λw4 P1 K1=>?_;have G7:=ah (G6.aB P1 K1);have R7:Hid (aP (oW w w2) w4 [.str nm,.sl [],.sl [],.sl [],.sl [],.sl []] [.string (bs nm),nS,nS,nS,nS,nS]):=ah (eZ R6.out K1 eo.out);have pb:=bc (bZ G7.sg hb gU) 0;go_wp2_with fail;refine bY (Ar G7.ps "undefine" NF) λw5 P1 K1=>?_;have G8:=ah (G7.aB P1 K1);have R8:Hid (aP (oW w w2) w5 [.str nm,.sl [],.sl [],.sl [],.sl [],.sl []] [.string (bs nm),nS,nS,nS,nS,nS]):=ah (eZ R7.out K1 eo.out);have pb:=bc (bZ G8.sg hb gU) 0;go_wp2_with fail;refine(Ie (P:=λl=>(fB 1 F l).bind λx=>some (strs x.1,x.2)) G8 "redefine" rfl h2' (λV1 GV hh=>by
  obtain⟨⟨sS,rr⟩,hn,ar7⟩:=aw.1 hh
  cases ar7;exact ala GV hb gU rfl dx hn) bP).mono ?_
 rintro e w6 ⟨rfl,ra,rc,GT,sF,bQ,KT⟩;have G9:Hid (GB C w2 r2 [cO #[.string (bs nm),nS,nS,nS,sV ra re.length rc,nS] 171] w6):=ah (GT);have R9:Hid (aP (oW w w2) w6 [.str nm,.sl [],.sl [],.sl [],re,.sl []] [.string (bs nm),nS,nS,nS,sV ra re.length rc,nS]):=ah (((lR R8 KT eo).mR (rH (w:=w) sF dM) 4));have pb:=bc (bZ G9.sg hb gU) 0;go_wp2_with fail;refine bY (Ar G9.ps "select" UJ) λw7 P1 K1=>?_;have PU:=ah (G9.aB P1 K1);have R10:Hid (aP (oW w w2) w7 [.str nm,.sl [],.sl [],.sl [],re,.sl []] [.string (bs nm),nS,nS,nS,sV ra re.length rc,nS]):=ah (eZ R9.out K1 eo.out);have pb:=bc (bZ PU.sg hb gU) 0;go_wp2_with fail;refine bY (fj PU.ps ";" h3) λw8 P1 K1=>?_;have Ol:=ah (PU.aB P1 K1);have R11:Hid (aP (oW w w2) w8 [.str nm,.sl [],.sl [],.sl [],re,.sl []] [.string (bs nm),nS,nS,nS,sV ra re.length rc,nS]):=ah (eZ R10.out K1 eo.out);obtain⟨d0,d1,d2,d3,d4,d5,-⟩:=cc (W:=w8) (b:=w2) (Ol.out.bx 0 _ rfl);obtain⟨b0,b1,b2,b3,b4,b5,-⟩:=cc (W:=w8) (b:=w.heap.size+1) (bZ Ol.out.sg hz.out vq.out);have fb:∀j,w8.frozen? ⟨w.heap.size+1,j,none⟩=false:=al (bZ Ol.sg hz vq);go_wp2;refine bG (v:=.agg #[.string (bs nm),nS,nS,nS,sV ra re.length rc,nS]) (by simp[results,results177,go_sem,b0,b1,b2,b3,b4,b5]) rfl ?_;exact apV Ol Kw dM R11 rk
def zX:List (List Nat):=[tx "INTEGER",tx "BOOLEAN",tx "ANY",tx "NONE"]
def aao:∀s∈zX,bW s:=by intro s hs;simp only[zX,cZ,as5,as6] at hs;rcases hs with rfl|rfl|rfl|rfl<;>exact aV aj
def ld(l:Zi):Option (Row×List aF):=(word 2 l).bind λx=>(cK ":" x.2).bind λr=>(word 2 r).bind λb=>if zX.contains x.1||zW.contains b.1 then none else some ([.str x.1,.str b.1],b.2)
def aeF(C:Ctx)(row:Row)(r:Zi)(w:YC)(e:TP)(w':YC):Prop:=
 (∃v,e=.returned v/\∃xa xb:List Nat,row=[.str xa,.str xb]/\v=.agg #[xa,xb]/\an w w' (.sl []) (sV none 0 0))/\PS C w' r/\Kept (ch C) w w'
def abK{C:Ctx}{w:YC}{r:Zi}{row:Row}(h:PS C w l)(hx:ld l=some (row,r)):Calls prog 175 #[pP C] w (aeF C row r w):=by
 unfold ld at hx;obtain⟨⟨x,r1⟩,h1,iF⟩:=aw.1 hx;clear hx;obtain⟨r2,h2,ir⟩:=aw.1 iF;clear iF;obtain⟨⟨b,r3⟩,h3,T4⟩:=aw.1 ir;clear ir;dsimp only at h2 T4;split at T4
 .cases T4
 rename_i hc;simp only[j5,rV,gI] at hc
 cases T4;obtain⟨hc1,L9⟩:=hc;have eo:=ah (eP h);have G0:=ah ((GB.start h).push (cO #[eS,eS] 130) rfl);revert h1 h2 h3 hc1 L9;refine nx ?_;intro h1 h2 h3 hc1 L9;go_enter func175,ntmps175;go_wp2_with fail;have QI:an (λb=>b≠C.p) ((w.alloc (cO #[.string ⟨#[]⟩,.string ⟨#[]⟩] 130)).alloc (cO #[.string gj,.string gn,.string MI,.string eQ] 9)) (.sl (strs zX)) (sV (some ⟨w.heap.size+1,0,none⟩) 4 4):=by have hh:=xW (w:=w.alloc (cO #[eS,eS] 130)) (arr:=#[.string gj,.string gn,.string MI,.string eQ]) (E:=9) (fs:=zX) C.p (by rfl) aj Lu;rw[dB] at hh;exact hh
 refine bY (ov (G0.alloc _).ps h1 QI (λb e=>e) aao hc1) λw2 P1 K1=>?_;have G2:=ah ((G0.alloc _).aB P1 K1);go_wp2_with fail;refine bY (fj G2.ps ":" h2) λw3 P1 K1=>?_;have G3:=ah (G2.aB P1 K1);go_wp2_with fail;have QI:an (λb=>b≠C.p) (w3.alloc (cO #[.string eQ,.string gj,.string gn] 9)) (.sl (strs zW)) (sV w3 3 3):=
  xW (w:=w3) (arr:=#[.string eQ,.string gj,.string gn]) (E:=9) (fs:=zW) C.p (by rfl) aj (by have:=eo.out;have:=G3.lt;omega)
 refine bY (ov (G3.alloc _).ps h3 QI (λb e=>e) aan L9) λw4 P1 K1=>?_;have G4:=ah ((G3.alloc _).aB P1 K1);obtain⟨b0,b1,-⟩:=cc (W:=w4) (b:=w) (G4.out.bx 0 _ rfl);have fb:∀j,w4.frozen? ⟨w,j,none⟩=false:=al (G4.bx 0 _ rfl);go_wp2;refine bG (v:=.agg #[x,.string (bs b)]) (by simp[results,results175,go_sem,b0,b1]) rfl ?_;have hk:=(au (W:=w4) w.heap.size 0 (.string (bs x))).trans' (au w.heap.size 1 (.string (bs b)));have:=G4.sg.step hk dF;exact⟨⟨_,rfl,x,b,rfl,rfl,.nil⟩,this.ps,this.kp⟩
def ah8:(prog.info? 130).map (λi=>(i.zero,i.size,i.bytes))=some (some (.agg #[eS,eS]),2,32):=by kernel_rfl
def Bw(sep:Yz)(one:Nat->List aF->Option (Row×List aF))(C:Ctx)(w:YC)(F:Nat)(rows:Zg)(r:Zi)(gg:Nat)(s7:YE)(wr:YC):Prop:=
 ∃(acc:Zg) (xs:List (Row)) (f:Nat) (rc:Zi),OwnR w.heap.size w wr 130 2 s7 acc/\PS C wr rc/\Kept (ch C) w wr/\jL sep (nj sep one f) rc=some (xs,r)/\f<=F/\rows=acc++xs.map id/\f<=gg/\acc.length+f<=6000
def Sw{F:Nat}{C:Ctx}{one:Nat->List aF->Option (Row×List aF)}(ho:∀(f:Nat),f < F->∀(w:YC) (l r:Zi) (x:Row),PS C w l->one f l=some (x,r)->Calls prog 175 #[pP C] w (aeF C x r w)){w:YC}{l r:Zi}{rows:List (Row)}(hx:nj "," one F l=some (rows,r))(h:PS C w l)(dx:F<=6000):Calls prog 174 #[pP C,.string qu,.func (.func 175) #[pP C] #[]] w (fR C 2 (rows.map id) r w):=by
 obtain⟨i,hi,hz,cL,dY⟩:=dN ah8
 cases F with
 |zero=>cases hx
 |succ F=>
 rw[fA] at hx;obtain⟨⟨x,r1⟩,iF,h2⟩:=aw.1 hx;obtain⟨⟨xs,r2⟩,ir,h3⟩:=aw.1 h2
 cases h3;dsimp only at ir;have hw:=ah h.bd;have Ax:=ah (eP h);revert h hi hz cL dY dx iF ir;refine TR ?_;intro h hi hz cL dY dx iF ir;go_enter func174,ntmps174;go_wp2_with fail;refine(ho F (j4 F) _ _ _ _ h iF).mono ?_;rintro e w1 ⟨⟨v,rfl,xa,xb,rfl,rfl,hv⟩,P1,K1⟩;have rG:=K1.size;obtain⟨W,hW⟩:∃W,W=w1.alloc (cO #[xa,xb] 130):=⟨_,rfl⟩
 have hO:OwnR w.heap.size w W 130 2 (sV w1 1 1) [[xa,xb]]:=by rw[hW];refine OwnR.Ry (arr:=#[xa,xb]) ao rfl rfl rG ?_;exact .cons (.str _) (.cons (.str _) .nil)
 refine oB ?_;intro hP hK;have hrel:Hid (Bw "," one C w F ([xa,xb]::xs.map id) r2 F (sV w1 1 1) W):=
  ah ⟨_,xs,F,r1,hO,hP,hK,ir.out,aM _,rfl,aM _,by have:=dx.out;simp;omega⟩
 go_wp2;rw[<-hW];replace hW:=ah hW;go_loopg [7] F (λgg s7 wr=>Bw "," one C w F ([xa,xb]::xs.map id) r2 gg s7 wr)
 case atStart=>exact hrel
 case round=>
  obtain⟨acc,XD,f,rc,hO,hP,lH,hm,gT,aN,de,h6⟩:=hrel;obtain⟨a7,gy,rfl⟩:=hO.form;by_cases hc:aO "," rc=true
  .have cg:=hm;unfold jL at cg;rw[aI hc] at cg
   cases f with
   |zero=>cases cg
   |succ f=>
   revert cg;refine iX ?_;intro cg y r3 lX h4;obtain⟨⟨ys,r4⟩,rZ,h5⟩:=aw.1 h4
   cases h5;dsimp only at rZ;revert hP lH hO hc gT de h6 lX rZ aN;refine zQ ?_;intro hP lH hO hc gT de h6 lX rZ aN;go_wp2_with fail;refine bY (oy hP "," hc) λw2 P2 K2=>?_;revert P2 K2;refine ct ?_;intro P2 K2;go_wp2_with fail;refine(ho f bT _ _ _ _ P2 lX).mono ?_;rintro e w3 ⟨⟨v,rfl,xa',xb',rfl,rfl,hv⟩,P3,K3⟩;obtain⟨V,hV⟩:∃V,V=w3.alloc (cO #[xa',xb'] 130):=⟨_,rfl⟩
   have jl:Kept (ch C) wr V:=mg;have pD:=K2.size;have xD:=lH.size;have nR:OwnR w.heap.size w V 130 2 (sV a7 acc.length gy) acc:=
    hO.kept jl cC cT
   have qp:aP (λb=>w.heap.size<=b/\Value.ownBlock (sV a7 acc.length gy)≠some b) V [xa',xb'] [xa',xb']:=by have IN:=hv.kept (w':=V) (F:=aK) pr (λ_ _ _ e=>e);exact .cons (.str _) (.cons (.str _) .nil)
   have Jb:PS C V r3:=nK;have eG:∀(j:Nat) (u:YE),([xa',xb']:YT)[j]?=some u->V.cell? ((⟨w3,0,none⟩:Addr).add j)=some u:=kF;have lD:w.heap.size<=V.heap.size:=kG;revert nR qp Jb;refine jk ?_;intro nR qp Jb;replace jl:=ah (lH.trans' jl);revert eG lD;refine ct ?_;intro eG lD;subst hV;go_wp2_with (at_builtin;refine bu (P:=prog) underlying78 hi hz cL dY rfl ab ab rfl (.tmp 14) (.tmp 17) rfl rfl ⟨w3,0,none⟩ 1 rfl _ _ nR lD dr rfl eG qp ?_);refine kC ?_;intro v' W' iH lE aL Uq yu;have hrel:Hid (Bw "," one C w F ([xa,xb]::xs.map id) r4 f v' W'):=
    ah ⟨_,ys,f,r3,iH,Uq,yu,rZ.out,by have:=gT.out;omega,by rw[aN.out];simp,aM _,by have:=h6.out;simp;omega⟩
   exact fK
  .have cg:=hm;unfold jL at cg;rw[aE hc] at cg
   cases cg;simp only[gI] at hc;revert lH hO hP hc;refine jU ?_;intro lH hO hP hc;rw[xK,gp] at aN;replace aN:=ah aN;go_wp2_with fail;refine bY (ew hP "," hc) λw2 P2 K2=>?_;have qY:OwnR w.heap.size w w2 130 2 (sV a7 acc.length gy) acc:=
    hO.kept K2 cC cT
   exact xZ
def X2{C:Ctx}{w:YC}{t:aF}{r:Zi}(h:PS C w (t::r)):Calls prog 167 #[pP C] w λe w'=>∃a b:Int,e=.returned (.agg #[a,b])/\Kept aK w w':=by
 obtain⟨n,a,b,e1,c1,bQ,_,q1,q2,q3,q4⟩:=h.tok (k:=0) rfl;obtain⟨cap,c0⟩:=h.c0t;have hlen:=h.len;simp only[fS] at bQ q3 q4;refine vO ?_;intro ph nz;have hi:((n:Int)).toNat=n:=ab;have hg:=h.gb;have rk:=h.bd;have Ax:=h.pb;have z0:(w.alloc (cO #[oZ,oZ] 42)).cell? ⟨w,0,none⟩=some (iV 0):=aC (fr:=(0,0)) (c:=#[oZ,oZ]) (T:=42) ao 0;have z1:(w.alloc (cO #[oZ,oZ] 42)).cell? ⟨w,1,none⟩=some (iV 0):=aC (fr:=(0,0)) (c:=#[oZ,oZ]) (T:=42) ao 1;have zf:∀j,(w.alloc (cO #[oZ,oZ] 42)).frozen? ⟨w,j,none⟩=false:=al (c:=#[oZ,oZ]) (T:=42) ao;replace c0:=cD (cO #[oZ,oZ] 42) c0;replace c1:=cD (cO #[oZ,oZ] 42) c1;replace q3:=cD (cO #[oZ,oZ] 42) q3;replace q4:=cD (cO #[oZ,oZ] 42) q4;go_enter func167,ntmps167;go_wp2_with fail;refine wpLive 9 (λV=>V.cell? ⟨C.p,0,none⟩=some (sV C.g C.L.length cap)/\V.cell? ⟨C.p,1,none⟩=some (iV n)) (λV s=>s) ?_ λFF ak=>?_
 .exact⟨c0,c1⟩
 refine KQ ?_;intro K hK;go_wp2_with fail;refine wpLive 11 (λV=>V.cell? ⟨C.p,0,none⟩=some (sV C.g C.L.length cap)/\V.cell? ⟨C.p,1,none⟩=some (iV n)/\V.cell? ⟨C.g,n*4+2,none⟩=some (iV a)/\V.cell? ⟨C.g,n*4+3,none⟩=some (iV b)) (λV s=>s) ?_ λFF ak=>?_
 .exact⟨c0,c1,q3,q4⟩
 refine tkT 0 ?_;try simp only[hi]
 refine tkT 1 ?_;try simp only[hi]
 refine tkT 2 ?_;try simp only[hi]
 refine tkT 3 ?_;try simp only[hi]
 refine tkT 4 ?_;try simp only[hi]
 refine tkT 5 ?_;try simp only[hi]
 refine tkT 6 ?_;try simp only[hi]
 refine tkT 7 ?_;try simp only[hi]
 refine tkT 8 ?_;try simp only[hi]
 refine tkT 9 ?_;try simp only[hi]
 refine tkT 10 ?_;try simp only[hi]
 refine ddT 11 λK hK=>?_;go_simp;refine hK _ _ ?_;try simp only[Act.put,ma,mb,lj,hi]
 refine dnT ?_;go_wp2;refine bG (v:=.agg #[a,b]) (by simp[results,results167,go_sem,z0,z1]) rfl ?_;refine⟨a,b,rfl,?_⟩;exact((Kept.refl aK w).alloc _).drew.drew
abbrev AtR(C:Ctx)(g:Nat):Nat->Prop:=λb=>b=C.p∨b=g
structure GR (C:Ctx) (w:YC) (g:Nat) (l:Zi) (cs:Zt) (T:UB) (V:YC):Prop where
 ps:PS C V l
 fm:an (λb=>b < C.Bd/\b≠C.p/\b≠g) V (.sl (strs C.fs)) C.fv
 kp:Kept (AtR C g) w V
 rc:V.heap[g]?=some (.cells cs T (0,0))
 np:g≠C.p
 ng:g≠C.g
 gw:g < w.heap.size
 bd:C.Bd<=w.heap.size
def PS.other{C:Ctx}(h:PS C V l)(np:g≠C.p)(ng:g≠C.g)(fm:an (λb=>b < C.Bd/\b≠C.p/\b≠g) V (.sl (strs C.fs)) C.fv)(j:Nat)(v:YE):PS C (V.setCell ⟨g,j,none⟩ v) l:=by
 have hk:=au (W:=V) g j v;have hp:∀i,(V.setCell ⟨g,j,none⟩ v).cell? ⟨C.p,i,none⟩=V.cell? ⟨C.p,i,none⟩:=λi=>Bm.cS _ _ _ _ _ _ np;have hg:∀i,(V.setCell ⟨g,j,none⟩ v).cell? ⟨C.g,i,none⟩=V.cell? ⟨C.g,i,none⟩:=λi=>Bm.cS _ _ _ _ _ _ ng;refine⟨h.hL,h.len,?_,?_,?_,?_,?_,?_,h.ne,h.pb,h.gb,cn h.bd hk.size,?_,?_⟩
 .simp only[hp];exact h.c0
 .simp only[hp];exact h.c1
 .simp only[hp];exact h.cE
 .simp only[hp];exact h.c4
 .simp only[hp];exact h.c5
 .intro i;rw[MY];exact h.fr i
 .intro k t A8;simp only[hg];exact h.abv k t A8
 .exact(fm.kept hk (λb hb _ e=>hb.2.2 e)).mono λb hb _=>⟨hb.1,hb.2.1⟩
namespace GR
variable {C:Ctx}{w V V':YC}{g:Nat}{l r:Zi}{cs:Zt}{T:UB}
def gv(h:GR C w g l cs T V):g < V.heap.size:=(aQ.1 h.rc).1
def pw(h:GR C w g l cs T V):C.p < w.heap.size:=by have:=h.ps.pb;have:=h.bd;omega
def aB(h:GR C w g l cs T V)(hp:PS C V' r)(hk:Kept (ch C) V V'):GR C w g r cs T V':=
 ⟨hp,h.fm.kept hk (λb hb _ e=>hb.2.1 e),h.kp.trans' (hk.mono λb e=>Or.inl e),(hk.block _ h.gv (λe=>h.np e)).trans h.rc,h.np,h.ng,h.gw,h.bd⟩
def no(h:GR C w g l cs T V)(hk:Kept aK V V'):GR C w g l cs T V':=
 h.aB (h.ps.kept hk (λ_ e=>e.elim)) (aK.to hk)
def alloc(h:GR C w g l cs T V)(x:Obj):GR C w g l cs T (V.alloc x):=h.no ((Kept.refl _ V).alloc x)
def drew(h:GR C w g l cs T V):GR C w g l cs T V.drew:=h.no (Kept.refl _ V).drew
def cellAt(h:GR C w g l cs T V)(j:Nat):V.cell? ⟨g,j,none⟩=cs[j]?:=aC h.rc j
def Xo(h:GR C w g l cs T V)(j:Nat):V.frozen? ⟨g,j,none⟩=false:=al h.rc j
def set(h:GR C w g l cs T V)(j:Nat)(v:YE):GR C w g l (cs.setIfInBounds j v) T (V.setCell ⟨g,j,none⟩ v):=
 ⟨h.ps.other h.np h.ng h.fm j v,h.fm.kept (au g j v) (λb hb _ e=>hb.2.2 e),h.kp.trans' ((au g j v).mono λb e=>Or.inr e),heap_setCell_same V _ j v h.rc,h.np,h.ng,h.gw,h.bd⟩
def box(h:GR C w g l cs T V){bp:Nat}{o:Obj}(hb:w.heap[bp]?=some o)(h1:bp≠C.p)(h2:bp≠g):V.heap[bp]?=some o:=
 (h.kp.block _ (aQ.1 hb).1 (λe=>e.elim h1 h2)).trans hb
def c{P:T1}{f:RB}{args:Zt}{v:YE}{R:VW}(h:GR C w g l cs T V)(k:Calls P f args V λe w'=>e=.returned v/\PS C w' r/\Kept (ch C) V w')(q:∀w',GR C w g r cs T w'->R (.returned v) w'):Calls P f args V R:=bY k λw' a b=>q w' (h.aB a b)
end GR
def PZ(C:Ctx)(w:YC)(g:Nat)(T:UB)(cs:Zt)(j wd:Nat)(rows:Zg)(r:Zi)(V V':YC):Prop:=
 ∃(a:YS) (c:Nat),GR C w g r (cs.setIfInBounds j (sV a rows.length c)) T V'/\an V V' (.sl rows) (sV a rows.length c)/\(∀row∈rows,row.length=wd)/\Kept (AtR C g) V V'
def GR.fill{C:Ctx}{w w1:YC}{r:Zi}{T:UB}{a:YS}{c:Nat}(G:GR C w g l cs T V)(P1:PS C w1 r)(K1:Kept (ch C) V w1)
  (hv:an V w1 (.sl rows) (sV a rows.length c)) (hl:∀row∈rows,row.length=wd):PZ C w g T cs j wd rows r V (w1.setCell ⟨g,j,none⟩ (sV a rows.length c)):=
 ⟨a,c,(G.aB P1 K1).set j _,hv.kept (au g j _) sx,hl,(K1.mono (λb e=>Or.inl e)).trans' ((au _ j _).mono (λb e=>Or.inr e))⟩
def aap{C:Ctx}{w:YC}{r:Zi}{T:UB}(G:GR C w g l cs T V)(s:TC){b:YR}{F:RB}{sz:Zt}{P:List aF->Option (List Row×List aF)}
  (hc:cs[j]?=some (sV none 0 0)) (hx:(if aO (tx s) l=true then P l.tail else some ([],l))=some (rows,r))
  (hF:∀V1,V.heap.size<=V1.heap.size->GR C w g l.tail cs T V1->P l.tail=some (rows,r)->Calls prog F sz V1 λe w'=>e=.returned (.tuple #[])/\PZ C w g T cs j wd rows r V1 w')
  (hcf:∀w,(callFunc F sz).run prog w=.ok (.enter F sz) w) (hb:b=bs (tx s):=by rfl) (hs:((tx s).all λc=>decide (c < 256))=true:=by decide):
  Calls prog 172 #[pP C,.string b,.func (.func F) #[] sz] V λe w'=>e=.returned (.bool (aO (tx s) l))/\PZ C w g T cs j wd rows r V w':=by
 cases hi:aO (tx s) l with
 |true=>rw[hi,aI rfl] at hx;refine(Ny G.ps s (R:=λV1 V'=>V.heap.size<=V1.heap.size/\PZ C w g T cs j wd rows r V1 V') hi (λV1 P1 K1=>(hF V1 K1.size (G.aB P1 K1) hx).mono λe w' ⟨h1,h2⟩=>⟨h1,K1.size,h2⟩) hcf hb hs).mono ?_;rintro e w' ⟨rfl,V1,P1,K1,dM,a,c,h1,h2,h3,h4⟩;exact⟨rfl,a,c,h1,h2.mono (λb hb _=>cn dM hb),h3,(K1.mono (λb e=>Or.inl e)).trans' h4⟩
 |false=>exact Dq
def alc{F:Nat}{C:Ctx}{w:YC}{r:Zi}(G:GR C w g l cs 83 V){bp:Nat}(hb:w.heap[bp]?=some (.cells #[pP C] 128 (0,0)))(cR:bp≠C.p)(Qa:bp≠g){u:YE}(hc:cs[4]?=some u)(dx:F<=6000)(hx:fB 1 F l=some (sS,r)):Calls prog 178 #[.pointer bp,.pointer g] V λe w'=>e=.returned (.tuple #[])/\PZ C w g 83 cs 4 1 (strs sS) r V w':=by have pb:=bc (W:=V) (bx:=bp) (G.box hb cR Qa) 0;go_enter func178,ntmps178;replace G:=ah G;go_wp2_with fail;refine(UY hx G.ps dx).mono ?_;rintro e w1 ⟨⟨a,c,rfl,hv,hlen⟩,P1,K1⟩;have S1:=G.aB P1 K1;have c7:w1.cell? ⟨g,4,none⟩=(some u:VV):=(S1.cellAt 4).trans hc;have f7:w1.frozen? ⟨g,4,none⟩=false:=S1.Xo 4;have L5:=ah (G.fill (j:=4) P1 K1 hv hlen);exact ux
def ald(hV:dT){F:Nat}{C:Ctx}{w V:YC}{g:Nat}{l r:Zi}{rows:Zg}{cs:Zt}(G:GR C w g l cs 83 V){bp:Nat}(hb:w.heap[bp]?=some (.cells #[pP C] 128 (0,0)))(cR:bp≠C.p)(Qa:bp≠g){u:YE}(hc:cs[6]?=some u)(dx:F<=6000)(hx:cI F l=some (rows,r)):Calls prog 183 #[.pointer bp,.pointer g] V λe w'=>e=.returned (.tuple #[])/\PZ C w g 83 cs 6 5 rows r V w':=by have pb:=bc (W:=V) (bx:=bp) (G.box hb cR Qa) 0;go_enter func183,ntmps183;replace G:=ah G;go_wp2_with fail;refine(wM hV dx G.ps hx).mono ?_;rintro e w1 ⟨⟨a,c,rfl,hv,hlen⟩,P1,K1⟩;have S1:=G.aB P1 K1;have c7:w1.cell? ⟨g,6,none⟩=(some u:VV):=(S1.cellAt 6).trans hc;have f7:w1.frozen? ⟨g,6,none⟩=false:=S1.Xo 6;have L5:=ah (G.fill (j:=6) P1 K1 hv hlen);exact ux
def ale{C:Ctx}{w:YC}{r1 r:Zi}{row:Row}(G:GR C w g l cs 83 V){bp:Nat}(hb:w.heap[bp]?=some (.cells #[pP C] 128 (0,0)))(cR:bp≠C.p)(Qa:bp≠g){u:YE}(hc:cs[2]?=some u)(hx:ld l=some (row,r1))(hm:cK "]" r1=some r):Calls prog 173 #[.pointer bp,.pointer g] V λe w'=>e=.returned (.tuple #[])/\PZ C w g 83 cs 2 2 [row] r V w':=by
 have anY:nj "," (λ_=>ld) 1 l=some ([row],r1):=by
  rw[fA];simp only[hx,Ae,jL];have:aO "," r1=false:=by
   cases r1 with
   |nil=>rfl
   |cons t r2=>
    unfold cK at hm;split at hm
    .exact yj
    .cases hm
  rw[this];rfl
 have hl:=ah (Sw (one:=λ_=>ld) (λf _ w l r x h hx=>abK h hx) anY G.ps ab);have pb:=bc (W:=V) (bx:=bp) (G.box hb cR Qa) 0;go_enter func173,ntmps173;revert G hb cR Qa hm;refine nx ?_;intro G hb cR Qa hm;go_wp2_with fail;refine hl.mono ?_;rintro e w1 ⟨⟨a,c,rfl,hv,hlen⟩,P1,K1⟩;rw[AZ] at hv hlen;have S1:=G.aB P1 K1;have c7:w1.cell? ⟨g,2,none⟩=(some u:VV):=(S1.cellAt 2).trans hc;have f7:w1.frozen? ⟨g,2,none⟩=false:=S1.Xo 2;have S2:=S1.set 2 (.slice a [row].length c);obtain⟨a',c',hq⟩:PZ C w g 83 cs 2 2 [row] r1 V (w1.setCell ⟨g,2,none⟩ (.slice a [row].length c)):=G.out.fill (j:=2) P1 K1 hv hlen;have jo:=hv.kept (au g 2 (.slice a [row].length c)) sx;have K2:Kept (AtR C g) V (w1.setCell ⟨g,2,none⟩ (.slice a [row].length c)):=(K1.mono (λb e=>Or.inl e)).trans' ((au _ 2 _).mono (λb e=>Or.inr e));have Nx:=bc (W:=w1.setCell ⟨g,2,none⟩ (.slice a [row].length c)) (bx:=bp) (S2.box hb cR Qa) 0;have hpV:=ah (qD G.out.pw G.out.kp.size);revert hlen S2 jo K2;refine jU ?_;intro hlen S2 jo K2;simp only[AZ,id_eq,lp,xK,dC,mc,fi] at*;go_wp2_with fail;refine bY (fj S2.ps "]" hm) λw3 P3 K3=>?_;have S3:=S2.aB P3 K3;have FJ:=jo.kept K3 AM;have K4:=K2.trans' (K3.mono (λb e=>Or.inl e));go_wp2;go_end0;exact⟨rfl,a,c,S3,FJ,hlen,K4⟩
def alf{F:Nat}{C:Ctx}{w:YC}{r:Zi}{row:Row}(G:GR C w g l cs 83 V){bp:Nat}(hb:w.heap[bp]?=some (.cells #[pP C] 128 (0,0)))(cR:bp≠C.p)(Qa:bp≠g){u:YE}(hc:cs[3]?=some u)(dx:F<=6000)(hx:nc F l=some (row,r))(eK:∀nm r1,word 2 l=some (nm,r1)->zW.contains nm=false)(xe:(dv r==2)=false):Calls prog 176 #[.pointer bp,.pointer g] V λe w'=>e=.returned (.tuple #[])/\PZ C w g 83 cs 3 6 [row] r V w':=by
 have hl:=ah (abJ dx G.ps hx eK);have Pj:=H6;have pb:=bc (W:=V) (bx:=bp) (G.box hb cR Qa) 0;go_enter func176,ntmps176;revert G hb cR Qa;refine jU ?_;intro G hb cR Qa;go_wp2_with fail;refine hl.mono ?_;rintro e w1 ⟨⟨v,rfl,nm,ra,rm,rc,rfl,hR⟩,P1,K1⟩;have S1:=(G.aB P1 K1).alloc (cO #[.string (bs nm),nS,nS,nS,sV ra rm rc,nS] 171);have rG:=ah K1.size;have K1':=K1.alloc (cO #[.string (bs nm),nS,nS,nS,sV ra rm rc,nS] 171);have hv:an V (w1.alloc (cO #[.string (bs nm),nS,nS,nS,sV ra rm rc,nS] 171)) (.sl [row]) (sV w1 1 1):=by refine aW (E:=171) (fr:=(0,0)) (wd:=6) (css:=[[.string (bs nm),nS,nS,nS,sV ra rm rc,nS]]) (arr:=#[.string (bs nm),nS,nS,nS,sV ra rm rc,nS]) ao rfl ?_ rG (aM _) cP;refine .cons ⟨rfl,hR.keep (λb hb hl=>hb) ai (λb _ hl=>jm _ _ _ hl)⟩ .nil
 have UA:row.length=6:=hR.1;generalize hW:w1.alloc (cO #[.string (bs nm),nS,nS,nS,sV ra rm rc,nS] 171)=W at S1 K1' hv;have c7:W.cell? ⟨g,3,none⟩=(some u:VV):=(S1.cellAt 3).trans hc;have f7:W.frozen? ⟨g,3,none⟩=false:=S1.Xo 3;have S2:=S1.set 3 (sV w1 1 1);have jo:=hv.kept (au g 3 (sV w1 1 1)) sx;have K2:Kept (AtR C g) V (W.setCell ⟨g,3,none⟩ (sV w1 1 1)):=(K1'.mono (λb e=>Or.inl e)).trans' ((au _ 3 _).mono (λb e=>Or.inr e));have Nx:=bc (W:=W.setCell ⟨g,3,none⟩ (sV w1 1 1)) (bx:=bp) (S2.box hb cR Qa) 0;have hpV:=ah (qD G.out.pw G.out.kp.size);have U2:Hid (∀w',PS C w' r->Kept (ch C) (W.setCell ⟨g,3,none⟩ (sV w1 1 1)) w'->PZ C w g 83 cs 3 6 [row] r V w'):=
  ah λw' P K=>⟨_,1,S2.aB P K,jo.kept K AM,by simpa using UA,K2.trans' (K.mono (λb e=>Or.inl e))⟩
 have Qb:=ah S2.ps;have xi:(((aZ r).k:Int)==2)=false:=by rw[oH] at xe;rw[M0];intro e;simp at e xe;omega
 go_wp2_with fail;try rw[hW]
 go_wp2_with fail;go_loopg [7] 0 (λgg s7 wr=>wr=W.setCell ⟨g,3,none⟩ (sV w1 1 1))
 case atStart=>rfl
 case round=>subst hrel;go_wp2_with fail;refine(me Qb).mono ?_;rintro e w2 ⟨x1,y1,rfl,P2,K2⟩;have L5:=ah (U2 w2 P2 K2);exact ux
def FeV(S:Wq)(w:YC)(row:Row)(v:YE):Prop:=∃(k tk:Int) (nm tn:Yz) (tv ts rs:TG) (a2 a3 a6 a9 oN nJ a12 j7:YS) (m2 c2 m3 c3 m6 c6 m9 c9 m10 jI m11 iE m12 gh m13 ft:Nat),v=.agg #[k,nm,sV a2 m2 c2,sV a3 m3 c3,tk,tn,sV a6 m6 c6,tv,ts,sV a9 m9 c9,sV oN m10 jI,sV nJ m11 iE,sV a12 m12 gh,sV j7 m13 ft,rs]/\aP S w row [k,nm,sV a2 m2 c2,sV a3 m3 c3,tk,tn,sV a6 m6 c6,tv,ts,sV a9 m9 c9,sV oN m10 jI,sV nJ m11 iE,sV a12 m12 gh,sV j7 m13 ft,rs]
def Oo(C:Ctx)(row:Row)(r:Zi)(w:YC)(e:TP)(w':YC):Prop:=(∃v,e=.returned v/\FeV w w' row v)/\PS C w' r/\Kept (ch C) w w'
abbrev ajT(W:YC)(bx:Nat)(u0 u1 u2 u3 u4 u5 u6 u7 u8 u9 QQ QR U3 U4 u14:YE):World:=(((((((((((((((W).setCell ⟨bx,0,none⟩ u0).setCell ⟨bx,1,none⟩ u1).setCell ⟨bx,2,none⟩ u2).setCell ⟨bx,3,none⟩ u3).setCell ⟨bx,4,none⟩ u4).setCell ⟨bx,5,none⟩ u5).setCell ⟨bx,6,none⟩ u6).setCell ⟨bx,7,none⟩ u7).setCell ⟨bx,8,none⟩ u8).setCell ⟨bx,9,none⟩ u9).setCell ⟨bx,10,none⟩ QQ).setCell ⟨bx,11,none⟩ QR).setCell ⟨bx,12,none⟩ U3).setCell ⟨bx,13,none⟩ U4).setCell ⟨bx,14,none⟩ u14
def X3(W:YC)(bx:Nat)(u0 u1 u2 u3 u4 u5 u6 u7 u8 u9 QQ QR U3 U4 u14:YE):Kept (λk=>k=bx) W (ajT W bx u0 u1 u2 u3 u4 u5 u6 u7 u8 u9 QQ QR U3 U4 u14):=
 ((((((((((((((au bx 0 u0).trans' (au bx 1 u1)).trans' (au bx 2 u2)).trans' (au bx 3 u3)).trans' (au bx 4 u4)).trans' (au bx 5 u5)).trans' (au bx 6 u6)).trans' (au bx 7 u7)).trans' (au bx 8 u8)).trans' (au bx 9 u9)).trans' (au bx 10 QQ)).trans' (au bx 11 QR)).trans' (au bx 12 U3)).trans' (au bx 13 U4)).trans' (au bx 14 u14)
def aeG{C:Ctx}{w:YC}{r:Zi}{row:Row}(G:GB C w5 r os V)(Kw:Kept (ch C) w w5)(dM:w.heap.size+2<=w5.heap.size){k tk:Int}{nm tn:Yz}{tv ts rs:TG}{a2 a3 a6 a9 oN nJ a12 j7:YS}{m2 c2 m3 c3 m6 c6 m9 c9 m10 jI m11 iE m12 gh m13 ft:Nat}(R:aP (oW w w5) V row [k,nm,sV a2 m2 c2,sV a3 m3 c3,tk,tn,sV a6 m6 c6,tv,ts,sV a9 m9 c9,sV oN m10 jI,sV nJ m11 iE,sV a12 m12 gh,sV j7 m13 ft,rs])(rk:C.Bd<=w.heap.size):Oo C row r w (.returned (.agg #[k,nm,sV a2 m2 c2,sV a3 m3 c3,tk,tn,sV a6 m6 c6,tv,ts,sV a9 m9 c9,sV oN m10 jI,sV nJ m11 iE,sV a12 m12 gh,sV j7 m13 ft,rs])) (ajT V (w.heap.size+1) (iV k) (.string (bs nm)) (sV a2 m2 c2) (sV a3 m3 c3) (iV tk) (.string (bs tn)) (sV a6 m6 c6) (.bool tv) (.bool ts) (sV a9 m9 c9) (sV oN m10 jI) (sV nJ m11 iE) (sV a12 m12 gh) (sV j7 m13 ft) (.bool rs)):=by
 have hk:=X3 V (w.heap.size+1) (iV k) (.string (bs nm)) (sV a2 m2 c2) (sV a3 m3 c3) (iV tk) (.string (bs tn)) (sV a6 m6 c6) (.bool tv) (.bool ts) (sV a9 m9 c9) (sV oN m10 jI) (sV nJ m11 iE) (sV a12 m12 gh) (sV j7 m13 ft) (.bool rs);have S0:Sg C w r V:=⟨G.ps,Kw.trans' G.sg.kp,rk⟩
 have S1:=S0.step hk dF;exact⟨⟨_,rfl,k,tk,nm,tn,tv,ts,rs,a2,a3,a6,a9,oN,nJ,a12,j7,m2,c2,m3,c3,m6,c6,m9,c9,m10,jI,m11,iE,m12,gh,m13,ft,rfl,(R.kept hk hZ).mono λb hb _=>by have:=hb.1;omega⟩,S1.ps,S1.kp⟩
def aeH{F:Nat}{C:Ctx}{w:YC}{r:Zi}{row:Row}{c0 c1 c2 c3:YE}(G:GB C w l [cO #[c0,c1,c2,c3,oZ,eS,nS,false,false,c9,jI,iE,gh,ft,js] 149] V)(hb:w.heap[bp]?=some (.cells #[pP C] 128 (0,0)))(cR:bp≠C.p)(fx:∀s∈C.fs,bW s)(dx:F<=6000)(hx:(if aO ":" l=true then mj C.fs F l.tail else some (Br,l))=some (row,r)):Calls prog 172 #[pP C,.string ⟨#[58]⟩,.func (.func 240) #[] #[.pointer bp,.pointer w.heap.size]] V λe w'=>e=.returned (.bool (aO ":" l))/\∃(k:Int) (nm:Yz) (xs:Zg) (vv ss:TG) (a:YS) (m c:Nat),row=[.int k,.str nm,.sl xs,.bool vv,.bool ss]/\GB C w r [cO #[c0,c1,c2,c3,k,nm,sV a m c,vv,ss,c9,jI,iE,gh,ft,js] 149] w'/\an (xy w 1) w' (.sl xs) (sV a m c)/\Kept (AtG C w) V w':=by
 cases hi:aO ":" l with
 |true=>
  rw[hi,aI rfl] at hx;refine(Ny G.ps ":" (R:=λV1 w'=>∃(k:Int) (nm:Yz) (xs:Zg) (vv ss:TG) (a:YS) (m c:Nat),
   row=[.int k,.str nm,.sl xs,.bool vv,.bool ss]/\GB C w r [cO #[c0,c1,c2,c3,k,nm,sV a m c,vv,ss,c9,jI,iE,gh,ft,js] 149] w'/\an (xy w 1) w' (.sl xs) (sV a m c)/\Kept (AtG C w) V1 w') hi (λV1 P1 K1=>alb (G.aB P1 K1) hb cR fx dx hx) bP).mono ?_
  rintro e w' ⟨rfl,V1,P1,K1,k,nm,xs,vv,ss,a,m,c,h0,h1,h2,h4⟩;exact⟨rfl,k,nm,xs,vv,ss,a,m,c,h0,h1,h2,(K1.mono (λb e=>Or.inl e)).trans' h4⟩
 |false=>
  rw[hi,aE ai] at hx
  cases hx;refine bY (Ar G.ps ":" hi) λw' P1 K1=>?_;exact⟨rfl,0,[],[],false,false,none,0,0,rfl,G.aB P1 K1,.nil,K1.mono (λb e=>Or.inl e)⟩
def anZ(hV:dT){F:Nat}(dx:F<=6000){C:Ctx}{w:YC}{l r1 r2 r3 r4 r5 r6 r7 r8 r9 r10 r11:Zi}{nm:Yz}{cl:Y9}{ags rq lo bd en rb:Zg}{tk:Int}{ar8:Row}{S:Wq}{v:YE}(h:PS C w l)(kc:an S w (.sl (strs cl)) v)(hS:∀b,S b->b≠C.p)(cR:cl≠[])(tj:cl.length<=6000)(fx:∀s∈C.fs,bW s)(h1:word 1 l=some (nm,r1))(hp:aO "(" r1=true) (h2:ml C.fs F r1.tail=some (ags,r2)) (h3:cK ")" r2=some r3)(h4:(if aO ":" r3=true then mj C.fs F r3.tail else some (Br,r3))=some (.int tk::ar8,r4))(h5:aO ";" r4=false)(h6:aO "deferred" r4=false)(h7:(if aO "require" r4=true then cI F r4.tail else some ([],r4))=some (rq,r5))(h8:(if aO "local" r5=true then ml C.fs F r5.tail else some ([],r5))=some (lo,r6))(h9:cK "do" r6=some r7)(sG:dy F r7=some (bd,r8))(Oq:(if aO "ensure" r8=true then cI F r8.tail else some ([],r8))=some (en,r9))(Pp:(if aO "rescue" r9=true then dy F r9.tail else some ([],r9))=some (rb,r10))(Ps:cK "end" r10=some r11):Calls prog 182 #[pP C,v] w (Oo C ([.int 2,.str nm,.sl (strs cl),.sl ags]++(.int tk::ar8)++[.sl lo,.sl rq,.sl en,.sl bd,.sl rb,.bool (aO "rescue" r9)]) r11 w):=by
 refine yH ?_;intro rk eo G0;revert kc hS cR tj fx h1 hp h2 h3 h4 h5 h6 h7 h8 h9 sG Oq Pp Ps;refine apo ?_;intro kc hS cR tj fx h1 hp h2 h3 h4 h5 h6 h7 h8 h9 sG Oq Pp Ps;refine Fw ?_;intro w1 P1 K1 G1 w2 ca cc Zr K2 G2 Uv Kw dM hb hz gU vq G5 R5 pb bC bX cU dz fZ iI;refine(oy G5.ps "(" hp).mono ?_;refine atH ?_;intro w3 P1 K1 G6 R6 pb bC bX cU dz;refine(aam fx G6.ps dx h2).mono ?_;rintro e w4 ⟨⟨aa,ac,rfl,Cq,hla⟩,P1,K1⟩;have aeI:=ah (rH (w:=w) (lU (w:=w2) (n:=1) Cq G6.lt) dM);have G7:=ah (G6.aB P1 K1);have R7:Hid (aP (oW w w2) w4 [.int 2,nm,(strs cl),.sl [],.int 0,.str [],.sl [],false,false,.sl [],.sl [],.sl [],.sl [],.sl [],false] [iV 2,nm,sV ca cl.length cc,nS,oZ,eS,nS,false,false,nS,nS,nS,nS,nS,false]):=ah (eZ R6.out K1 eo.out);have q3:=Bm.bc (W:=w4) (bx:=w2.heap.size) (G7.bx 0 _ rfl) 3;have fz:w4.frozen? ⟨w2,3,none⟩=false:=al (G7.bx 0 _ rfl) 3;have G8:=ah (G7.st 0 3 (sV aa ags.length ac));have R8:Hid (aP (oW w w2) (w4.setCell ⟨w2,3,none⟩ (sV aa ags.length ac)) [.int 2,nm,(strs cl),ags,.int 0,.str [],.sl [],false,false,.sl [],.sl [],.sl [],.sl [],.sl [],false] [iV 2,nm,sV ca cl.length cc,sV aa ags.length ac,oZ,eS,nS,false,false,nS,nS,nS,nS,nS,false]):=ah (Jp ((R7).mR aeI 3) 3 _);have pb:=Bm.bc (W:=w4.setCell ⟨w2,3,none⟩ (sV aa ags.length ac)) (bx:=w.heap.size) (bZ G8.sg hb gU) 0;go_wp2_with fail;refine(fj G8.ps ")" h3).mono ?_;rintro e w5 ⟨rfl,P1,K1⟩;have G9:=ah (G8.aB P1 K1);have R9:Hid (aP (oW w w2) w5 [.int 2,nm,(strs cl),ags,.int 0,.str [],.sl [],false,false,.sl [],.sl [],.sl [],.sl [],.sl [],false] [iV 2,nm,sV ca cl.length cc,sV aa ags.length ac,oZ,eS,nS,false,false,nS,nS,nS,nS,nS,false]):=ah (eZ R8.out K1 eo.out);have pb:=Bm.bc (bZ G9.sg hb gU) 0;go_wp2_with fail;refine(aeH G9 hb gU fx dx h4).mono ?_;rintro e w6 ⟨rfl,tk',tn,Jc,lr,lu,ta,tm,tc,ar9,GT,sF,KT⟩
 cases ar9;have abr:=ah (rH (w:=w) sF dM);have PU:Hid (GB C w2 r4 [cO #[iV 2,nm,sV ca cl.length cc,sV aa ags.length ac,tk,tn,sV ta tm tc,lr,lu,nS,nS,nS,nS,nS,false] 149] w6):=ah (GT);have R10:Hid (aP (oW w w2) w6 [.int 2,nm,(strs cl),ags,tk,tn,Jc,lr,lu,.sl [],.sl [],.sl [],.sl [],.sl [],false] [iV 2,nm,sV ca cl.length cc,sV aa ags.length ac,tk,tn,sV ta tm tc,lr,lu,nS,nS,nS,nS,nS,false]):=ah (((((((lR R9 KT eo).mR (.int tk) 4).mR (.str tn) 5).mR abr 6).mR (.bool lr) 7).mR (.bool lu) 8));have pb:=Bm.bc (bZ PU.sg hb gU) 0;go_wp2_with fail;refine bY (isA PU.ps ";") λw7 P1 K1=>?_;rw[h5.out];have Ol:=ah (PU.aB P1 K1);have R11:Hid (aP (oW w w2) w7 [.int 2,nm,(strs cl),ags,tk,tn,Jc,lr,lu,.sl [],.sl [],.sl [],.sl [],.sl [],false] [iV 2,nm,sV ca cl.length cc,sV aa ags.length ac,tk,tn,sV ta tm tc,lr,lu,nS,nS,nS,nS,nS,false]):=ah (eZ R10.out K1 eo.out);have pb:=Bm.bc (bZ Ol.sg hb gU) 0;go_wp2_with fail;refine bY (ew Ol.ps "deferred" h6) λw8 P1 K1=>?_;have G12:=ah (Ol.aB P1 K1);have R12:Hid (aP (oW w w2) w8 [.int 2,nm,(strs cl),ags,tk,tn,Jc,lr,lu,.sl [],.sl [],.sl [],.sl [],.sl [],false] [iV 2,nm,sV ca cl.length cc,sV aa ags.length ac,tk,tn,sV ta tm tc,lr,lu,nS,nS,nS,nS,nS,false]):=ah (eZ R11.out K1 eo.out);have pb:=Bm.bc (bZ G12.sg hb gU) 0;go_wp2_with fail;refine(Ie G12 "require" (P:=cI F) rfl h7 (λV1 GV hh=>aeB hV GV hb gU rfl dx hh) bP).mono ?_;rintro e w9 ⟨rfl,If,Ig,GT,sF,bQ,KT⟩;have G13:Hid (GB C w2 r5 [cO #[iV 2,nm,sV ca cl.length cc,sV aa ags.length ac,tk,tn,sV ta tm tc,lr,lu,nS,sV If rq.length Ig,nS,nS,nS,false] 149] w9):=ah (GT);have R13:Hid (aP (oW w w2) w9 [.int 2,nm,(strs cl),ags,tk,tn,Jc,lr,lu,.sl [],rq,.sl [],.sl [],.sl [],false] [iV 2,nm,sV ca cl.length cc,sV aa ags.length ac,tk,tn,sV ta tm tc,lr,lu,nS,sV If rq.length Ig,nS,nS,nS,false]):=ah (((lR R12 KT eo).mR (rH (w:=w) sF dM) 10));have pb:=Bm.bc (bZ G13.sg hb gU) 0;go_wp2_with fail;refine(Ie G13 "local" (P:=ml C.fs F) rfl h8 (λV1 GV hh=>aeE GV hb gU rfl fx dx hh) bP).mono ?_;rintro e AT ⟨rfl,Mh,loc,GT,sF,bQ,KT⟩;have G14:Hid (GB C w2 r6 [cO #[iV 2,nm,sV ca cl.length cc,sV aa ags.length ac,tk,tn,sV ta tm tc,lr,lu,sV Mh lo.length loc,sV If rq.length Ig,nS,nS,nS,false] 149] AT):=ah (GT);have R14:Hid (aP (oW w w2) AT [.int 2,nm,(strs cl),ags,tk,tn,Jc,lr,lu,lo,rq,.sl [],.sl [],.sl [],false] [iV 2,nm,sV ca cl.length cc,sV aa ags.length ac,tk,tn,sV ta tm tc,lr,lu,sV Mh lo.length loc,sV If rq.length Ig,nS,nS,nS,false]):=ah (((lR R13 KT eo).mR (rH (w:=w) sF dM) 9));have pb:=Bm.bc (bZ G14.sg hb gU) 0;go_wp2_with fail;refine bY (fj G14.ps "do" h9) λxS P1 K1=>?_;have G15:=ah (G14.aB P1 K1);have R15:Hid (aP (oW w w2) xS [.int 2,nm,(strs cl),ags,tk,tn,Jc,lr,lu,lo,rq,.sl [],.sl [],.sl [],false] [iV 2,nm,sV ca cl.length cc,sV aa ags.length ac,tk,tn,sV ta tm tc,lr,lu,sV Mh lo.length loc,sV If rq.length Ig,nS,nS,nS,false]):=ah (eZ R14.out K1 eo.out);have pb:=Bm.bc (bZ G15.sg hb gU) 0;go_wp2_with fail;refine((Sv hV F dx F (aM _)).1 C _ _ _ _ G15.ps sG).mono ?_;rintro e vl ⟨⟨ba,bc,rfl,Cq,hla⟩,P1,K1⟩;have aeI:=ah (rH (w:=w) (lU (w:=w2) (n:=1) Cq G15.lt) dM);have G16:=ah (G15.aB P1 K1);have R16:Hid (aP (oW w w2) vl [.int 2,nm,(strs cl),ags,tk,tn,Jc,lr,lu,lo,rq,.sl [],.sl [],.sl [],false] [iV 2,nm,sV ca cl.length cc,sV aa ags.length ac,tk,tn,sV ta tm tc,lr,lu,sV Mh lo.length loc,sV If rq.length Ig,nS,nS,nS,false]):=ah (eZ R15.out K1 eo.out);have q12:=Bm.bc (W:=vl) (bx:=w2.heap.size) (G16.bx 0 _ rfl) 12;have fz:vl.frozen? ⟨w2,12,none⟩=false:=al (G16.bx 0 _ rfl) 12;have G17:=ah (G16.st 0 12 (sV ba bd.length bc));have R17:Hid (aP (oW w w2) (vl.setCell ⟨w2,12,none⟩ (sV ba bd.length bc)) [.int 2,nm,(strs cl),ags,tk,tn,Jc,lr,lu,lo,rq,.sl [],bd,.sl [],false] [iV 2,nm,sV ca cl.length cc,sV aa ags.length ac,tk,tn,sV ta tm tc,lr,lu,sV Mh lo.length loc,sV If rq.length Ig,nS,sV ba bd.length bc,nS,false]):=ah (Jp ((R16).mR aeI 12) 12 _);have pb:=Bm.bc (W:=vl.setCell ⟨w2,12,none⟩ (sV ba bd.length bc)) (bx:=w.heap.size) (bZ G17.sg hb gU) 0;go_wp2_with fail;refine(Ie G17 "ensure" (P:=cI F) rfl Oq (λV1 GV hh=>aeC hV GV hb gU rfl dx hh) bP).mono ?_;rintro e ND ⟨rfl,X4,wP,GT,sF,bQ,KT⟩;have G18:Hid (GB C w2 r9 [cO #[iV 2,nm,sV ca cl.length cc,sV aa ags.length ac,tk,tn,sV ta tm tc,lr,lu,sV Mh lo.length loc,sV If rq.length Ig,sV X4 en.length wP,sV ba bd.length bc,nS,false] 149] ND):=ah (GT);have R18:Hid (aP (oW w w2) ND [.int 2,nm,(strs cl),ags,tk,tn,Jc,lr,lu,lo,rq,en,bd,.sl [],false] [iV 2,nm,sV ca cl.length cc,sV aa ags.length ac,tk,tn,sV ta tm tc,lr,lu,sV Mh lo.length loc,sV If rq.length Ig,sV X4 en.length wP,sV ba bd.length bc,nS,false]):=ah (((lR R17 KT eo).mR (rH (w:=w) sF dM) 11));have pb:=Bm.bc (bZ G18.sg hb gU) 0;go_wp2_with fail;refine(Ie G18 "rescue" (P:=dy F) rfl Pp (λV1 GV hh=>aeD hV GV hb gU rfl dx hh) bP).mono ?_;rintro e ZY ⟨rfl,rba,rbc,GT,sF,bQ,KT⟩;have G19:Hid (GB C w2 r10 [cO #[iV 2,nm,sV ca cl.length cc,sV aa ags.length ac,tk,tn,sV ta tm tc,lr,lu,sV Mh lo.length loc,sV If rq.length Ig,sV X4 en.length wP,sV ba bd.length bc,sV rba rb.length rbc,false] 149] ZY):=ah (GT);have R19:Hid (aP (oW w w2) ZY [.int 2,nm,(strs cl),ags,tk,tn,Jc,lr,lu,lo,rq,en,bd,rb,false] [iV 2,nm,sV ca cl.length cc,sV aa ags.length ac,tk,tn,sV ta tm tc,lr,lu,sV Mh lo.length loc,sV If rq.length Ig,sV X4 en.length wP,sV ba bd.length bc,sV rba rb.length rbc,false]):=ah (((lR R18 KT eo).mR (rH (w:=w) sF dM) 13));have q14:=Bm.bc (W:=ZY) (bx:=w2.heap.size) (G19.bx 0 _ rfl) 14;have fz:ZY.frozen? ⟨w2,14,none⟩=false:=al (G19.bx 0 _ rfl) 14;have G20:=ah (G19.st 0 14 (.bool (aO "rescue" r9)));have R20:Hid (aP (oW w w2) (ZY.setCell ⟨w2,14,none⟩ (.bool (aO "rescue" r9))) [.int 2,nm,(strs cl),ags,tk,tn,Jc,lr,lu,lo,rq,en,bd,rb,(aO "rescue" r9)] [iV 2,nm,sV ca cl.length cc,sV aa ags.length ac,tk,tn,sV ta tm tc,lr,lu,sV Mh lo.length loc,sV If rq.length Ig,sV X4 en.length wP,sV ba bd.length bc,sV rba rb.length rbc,(aO "rescue" r9)]):=ah (Jp ((R19).mR (.bool _) 14) 14 _);have pb:=Bm.bc (W:=ZY.setCell ⟨w2,14,none⟩ (.bool (aO "rescue" r9))) (bx:=w.heap.size) (bZ G20.sg hb gU) 0;go_wp2_with fail;refine bY (fj G20.ps "end" Ps) λWM P1 K1=>?_;have G21:=ah (G20.aB P1 K1);have R21:Hid (aP (oW w w2) WM [.int 2,nm,(strs cl),ags,tk,tn,Jc,lr,lu,lo,rq,en,bd,rb,(aO "rescue" r9)] [iV 2,nm,sV ca cl.length cc,sV aa ags.length ac,tk,tn,sV ta tm tc,lr,lu,sV Mh lo.length loc,sV If rq.length Ig,sV X4 en.length wP,sV ba bd.length bc,sV rba rb.length rbc,(aO "rescue" r9)]):=ah (eZ R20.out K1 eo.out);obtain⟨d0,d1,d2,d3,d4,d5,d6,d7,d8,d9,d10,d11,d12,d13,d14,-⟩:=Bm.cc (W:=WM) (b:=w2.heap.size) (G21.bx 0 _ rfl);obtain⟨b0,b1,b2,b3,b4,b5,b6,b7,b8,b9,Pn,Sb,Sc,L8,b14,-⟩:=Bm.cc (W:=WM) (b:=w.heap.size+1) (bZ G21.sg hz vq);have fb:∀j,WM.frozen? ⟨w.heap.size+1,j,none⟩=false:=al (bZ G21.sg hz vq);go_wp2;refine bG (v:=.agg #[iV 2,nm,sV ca cl.length cc,sV aa ags.length ac,tk,tn,sV ta tm tc,lr,lu,sV Mh lo.length loc,sV If rq.length Ig,sV X4 en.length wP,sV ba bd.length bc,sV rba rb.length rbc,(aO "rescue" r9)]) vR rfl ?_;exact aeG G21 Kw dM R21 rk
def an0(hV:dT){F:Nat}(dx:F<=6000){C:Ctx}{w:YC}{l r1 r2 r3 r4 r5 r6 r7 r8 r9 r10 r11:Zi}{nm:Yz}{cl:Y9}{ags rq lo bd en rb:Zg}{tk:Int}{ar8:Row}{S:Wq}{v:YE}(h:PS C w l)(kc:an S w (.sl (strs cl)) v)(hS:∀b,S b->b≠C.p)(cR:cl≠[])(tj:cl.length<=6000)(fx:∀s∈C.fs,bW s)(h1:word 1 l=some (nm,r1))(hp:aO "(" r1=false) (h4:(if aO ":" r1=true then mj C.fs F r1.tail else some (Br,r1))=some (.int tk::ar8,r4)) (U5:((tk:Int)==0)=false) (h5:aO ";" r4=true):Calls prog 182 #[pP C,v] w (Oo C ([.int 1,.str nm,.sl (strs cl),.sl []]++(.int tk::ar8)++[.sl [],.sl [],.sl [],.sl [],.sl [],.bool false]) r4.tail w):=by
 refine yH ?_;intro rk eo G0;revert kc hS cR tj fx h1 hp h4 U5 h5;refine zQ ?_;intro kc hS cR tj fx h1 hp h4 U5 h5;go_enter func182,ntmps182;go_wp2_with fail;refine bY (Mr G0.ps h1) λw1 P1 K1=>?_;have G1:=ah (G0.aB P1 K1);go_wp2_with fail;refine(NQ (kc.kept G1.sg.kp (λb hb _ e=>hS b hb e)) cR tj).mono ?_;rintro e w2 ⟨ca,cc,rfl,Zr,K2⟩;have G2:=G1.no K2;have dM:w.heap.size+2<=w2.heap.size:=vo;have Uv:w.heap.size+2<=w1.heap.size:=Fx;have hb:w2.heap[w.heap.size]?=some (.cells #[pP C] 128 (0,0)):=G2.bx 0 _ rfl;have hz:w2.heap[w.heap.size+1]?=some (.cells #[oZ,eS,nS,nS,oZ,eS,nS,false,false,nS,nS,nS,nS,nS,false] 149 (0,0)):=G2.bx 1 _ rfl;have gU:w.heap.size≠C.p:=gO;have vq:w.heap.size+1≠C.p:=gO;have Kw:=ah G2.sg.kp;have G5:GB C w2 r1 [cO #[iV 2,nm,sV ca cl.length cc,nS,oZ,eS,nS,false,false,nS,nS,nS,nS,nS,false] 149] (w2.alloc (cO #[iV 2,nm,sV ca cl.length cc,nS,oZ,eS,nS,false,false,nS,nS,nS,nS,nS,false] 149)):=(GB.start G2.ps).push (cO #[iV 2,nm,sV ca cl.length cc,nS,oZ,eS,nS,false,false,nS,nS,nS,nS,nS,false] 149) rfl;have R5:aP (oW w w2) (w2.alloc (cO #[iV 2,nm,sV ca cl.length cc,nS,oZ,eS,nS,false,false,nS,nS,nS,nS,nS,false] 149)) [.int 2,nm,(strs cl),.sl [],.int 0,.str [],.sl [],false,false,.sl [],.sl [],.sl [],.sl [],.sl [],false] [iV 2,nm,sV ca cl.length cc,nS,oZ,eS,nS,false,false,nS,nS,nS,nS,nS,false]:=by exact Nd
 revert dM hb hz gU vq G5 R5;refine Wy ?_;intro dM hb hz gU vq G5 R5;have pb:=bc (bZ G5.sg hb gU) 0;go_wp2_with fail;refine(ew G5.ps "(" hp).mono ?_;rintro e w3 ⟨rfl,P1,K1⟩;have G6:=ah (G5.aB P1 K1);have R6:Hid (aP (oW w w2) w3 [.int 2,nm,(strs cl),.sl [],.int 0,.str [],.sl [],false,false,.sl [],.sl [],.sl [],.sl [],.sl [],false] [iV 2,nm,sV ca cl.length cc,nS,oZ,eS,nS,false,false,nS,nS,nS,nS,nS,false]):=ah (eZ R5.out K1 eo.out);have pb:=bc (bZ G6.sg hb gU) 0;go_wp2_with fail;refine(aeH G6 hb gU fx dx h4).mono ?_;rintro e w4 ⟨rfl,tk',tn,Jc,lr,lu,ta,tm,tc,ar9,GT,sF,KT⟩
 cases ar9;refine Ld ?_;intro abr G7 R7;have pb:=bc (bZ G7.sg hb gU) 0;refine Gn ?_;intro bC bX cU dz fZ iI w5 P1 K1 G8 R8;have q4:=bc (W:=w5) (bx:=w2.heap.size) (G8.bx 0 _ rfl) 4;have q3:=bc (W:=w5) (bx:=w2.heap.size) (G8.bx 0 _ rfl) 3;have ary:=U5.out;obtain⟨tt,rt,hrt⟩:=Ob h5.out;have akH:r4.tail=rt:=by rw[hrt];rfl
 obtain⟨n,e1,_,asf⟩:=G8.out.ps.c1;have ash:=G8.ps.fr 1;have arz:=G8.ps.len;have hn:(n:Int)<=10000:=ab;have nz:(0:Int)<=n:=ab;have GA:=G8.out;rw[hrt] at GA e1;replace GA:=GA.TT e1 rfl;have KA:Kept (ch C) w5 (w5.setCell ⟨C.p,1,none⟩ (iV ((n:Int)+1))):=(Kept.refl _ w5).setCell (p:=⟨C.p,1,none⟩) (λ_=>show ch C C.p from rfl) _;have GB1:=GA.set 0 0 rfl (iV 1);have RB1:=Jp ((eZ R8 KA eo).mR (.int 1) 0) 0 (iV 1);have pb:=bc (bZ G8.sg hb gU) 0;have q0:=bc (W:=w5.setCell ⟨C.p,1,none⟩ (iV ((n:Int)+1))) (bx:=w2.heap.size) (GA.bx 0 _ rfl) 0;have f0:(w5.setCell ⟨C.p,1,none⟩ (iV ((n:Int)+1))).frozen? ⟨w2,0,none⟩=false:=al (GA.bx 0 _ rfl) 0;have G9:Hid (GB C w2 rt [cO #[iV 1,nm,sV ca cl.length cc,nS,tk,tn,sV ta tm tc,lr,lu,nS,nS,nS,nS,nS,false] 149] ((w5.setCell ⟨C.p,1,none⟩ (iV ((n:Int)+1))).setCell ⟨w2,0,none⟩ (iV 1))):=ah (GB1);have R9:Hid (aP (oW w w2) ((w5.setCell ⟨C.p,1,none⟩ (iV ((n:Int)+1))).setCell ⟨w2,0,none⟩ (iV 1)) [.int 1,nm,(strs cl),.sl [],tk,tn,Jc,lr,lu,.sl [],.sl [],.sl [],.sl [],.sl [],false] [iV 1,nm,sV ca cl.length cc,nS,tk,tn,sV ta tm tc,lr,lu,nS,nS,nS,nS,nS,false]):=ah (RB1);obtain⟨d0,d1,d2,d3,d4,d5,d6,d7,d8,d9,d10,d11,d12,d13,d14,-⟩:=Bm.cc (W:=(w5.setCell ⟨C.p,1,none⟩ (iV ((n:Int)+1))).setCell ⟨w2.heap.size,0,none⟩ (iV 1)) (b:=w2.heap.size) (G9.bx 0 _ rfl);obtain⟨b0,b1,b2,b3,b4,b5,b6,b7,b8,b9,Pn,Sb,Sc,L8,b14,-⟩:=Bm.cc (W:=(w5.setCell ⟨C.p,1,none⟩ (iV ((n:Int)+1))).setCell ⟨w2.heap.size,0,none⟩ (iV 1)) (b:=w.heap.size+1) (bZ G9.sg hz vq);have fb:∀j,((w5.setCell ⟨C.p,1,none⟩ (iV ((n:Int)+1))).setCell ⟨w2,0,none⟩ (iV 1)).frozen? ⟨w.heap.size+1,j,none⟩=false:=al (bZ G9.sg hz vq);go_wp2;refine bG (v:=.agg #[iV 1,nm,sV ca cl.length cc,nS,tk,tn,sV ta tm tc,lr,lu,nS,nS,nS,nS,nS,false]) vR rfl ?_;rw[akH];exact aeG G9 Kw dM R9 rk
def an1(hV:dT){F:Nat}(dx:F<=6000){C:Ctx}{w:YC}{l r1 r2 r3 r4 r5 r6 r7 r8 r9 r10 r11:Zi}{nm:Yz}{cl:Y9}{ags rq lo bd en rb:Zg}{tk:Int}{ar8:Row}{S:Wq}{v:YE}(h:PS C w l)(kc:an S w (.sl (strs cl)) v)(hS:∀b,S b->b≠C.p)(cR:cl≠[])(tj:cl.length<=6000)(fx:∀s∈C.fs,bW s)(h1:word 1 l=some (nm,r1))(hp:aO "(" r1=false) (h4:(if aO ":" r1=true then mj C.fs F r1.tail else some (Br,r1))=some (.int tk::ar8,r4)) (h5:aO ";" r4=false) (h6:aO "deferred" r4=false) (h7:(if aO "require" r4=true then cI F r4.tail else some ([],r4))=some (rq,r5)) (h8:(if aO "local" r5=true then ml C.fs F r5.tail else some ([],r5))=some (lo,r6)) (h9:cK "do" r6=some r7) (sG:dy F r7=some (bd,r8)) (Oq:(if aO "ensure" r8=true then cI F r8.tail else some ([],r8))=some (en,r9)) (Pp:(if aO "rescue" r9=true then dy F r9.tail else some ([],r9))=some (rb,r10)) (Ps:cK "end" r10=some r11):Calls prog 182 #[pP C,v] w (Oo C ([.int 2,.str nm,.sl (strs cl),.sl []]++(.int tk::ar8)++[.sl lo,.sl rq,.sl en,.sl bd,.sl rb,.bool (aO "rescue" r9)]) r11 w):=by
 refine yH ?_;intro rk eo G0;revert kc hS cR tj fx h1 hp h4 h5 h6 h7 h8 h9 sG Oq Pp Ps;refine akd ?_;intro kc hS cR tj fx h1 hp h4 h5 h6 h7 h8 h9 sG Oq Pp Ps;refine Fw ?_;intro w1 P1 K1 G1 w2 ca cc Zr K2 G2 Uv Kw dM hb hz gU vq G5 R5 pb bC bX cU dz fZ iI;refine(ew G5.ps "(" hp).mono ?_;refine atH ?_;intro w3 P1 K1 G6 R6 pb bC bX cU dz;refine(aeH G6 hb gU fx dx h4).mono ?_;rintro e w4 ⟨rfl,tk',tn,Jc,lr,lu,ta,tm,tc,ar9,GT,sF,KT⟩
 cases ar9;refine Ld ?_;intro abr G7 R7;have pb:=Bm.bc (bZ G7.sg hb gU) 0;refine Gn ?_;intro bC bX cU dz fZ iI w5 P1 K1 G8 R8;have pb:=Bm.bc (bZ G8.sg hb gU) 0;go_wp2_with fail;refine bY (ew G8.ps "deferred" h6) λw6 P1 K1=>?_;have G9:=ah (G8.aB P1 K1);have R9:Hid (aP (oW w w2) w6 [.int 2,nm,(strs cl),.sl [],tk,tn,Jc,lr,lu,.sl [],.sl [],.sl [],.sl [],.sl [],false] [iV 2,nm,sV ca cl.length cc,nS,tk,tn,sV ta tm tc,lr,lu,nS,nS,nS,nS,nS,false]):=ah (eZ R8.out K1 eo.out);have pb:=Bm.bc (bZ G9.sg hb gU) 0;go_wp2_with fail;refine(Ie G9 "require" (P:=cI F) rfl h7 (λV1 GV hh=>aeB hV GV hb gU rfl dx hh) bP).mono ?_;rintro e w7 ⟨rfl,If,Ig,GT,sF,bQ,KT⟩;have PU:Hid (GB C w2 r5 [cO #[iV 2,nm,sV ca cl.length cc,nS,tk,tn,sV ta tm tc,lr,lu,nS,sV If rq.length Ig,nS,nS,nS,false] 149] w7):=ah (GT);have R10:Hid (aP (oW w w2) w7 [.int 2,nm,(strs cl),.sl [],tk,tn,Jc,lr,lu,.sl [],rq,.sl [],.sl [],.sl [],false] [iV 2,nm,sV ca cl.length cc,nS,tk,tn,sV ta tm tc,lr,lu,nS,sV If rq.length Ig,nS,nS,nS,false]):=ah (((lR R9 KT eo).mR (rH (w:=w) sF dM) 10));have pb:=Bm.bc (bZ PU.sg hb gU) 0;go_wp2_with fail;refine(Ie PU "local" (P:=ml C.fs F) rfl h8 (λV1 GV hh=>aeE GV hb gU rfl fx dx hh) bP).mono ?_;rintro e w8 ⟨rfl,Mh,loc,GT,sF,bQ,KT⟩;have Ol:Hid (GB C w2 r6 [cO #[iV 2,nm,sV ca cl.length cc,nS,tk,tn,sV ta tm tc,lr,lu,sV Mh lo.length loc,sV If rq.length Ig,nS,nS,nS,false] 149] w8):=ah (GT);have R11:Hid (aP (oW w w2) w8 [.int 2,nm,(strs cl),.sl [],tk,tn,Jc,lr,lu,lo,rq,.sl [],.sl [],.sl [],false] [iV 2,nm,sV ca cl.length cc,nS,tk,tn,sV ta tm tc,lr,lu,sV Mh lo.length loc,sV If rq.length Ig,nS,nS,nS,false]):=ah (((lR R10 KT eo).mR (rH (w:=w) sF dM) 9));have pb:=Bm.bc (bZ Ol.sg hb gU) 0;go_wp2_with fail;refine bY (fj Ol.ps "do" h9) λw9 P1 K1=>?_;have G12:=ah (Ol.aB P1 K1);have R12:Hid (aP (oW w w2) w9 [.int 2,nm,(strs cl),.sl [],tk,tn,Jc,lr,lu,lo,rq,.sl [],.sl [],.sl [],false] [iV 2,nm,sV ca cl.length cc,nS,tk,tn,sV ta tm tc,lr,lu,sV Mh lo.length loc,sV If rq.length Ig,nS,nS,nS,false]):=ah (eZ R11.out K1 eo.out);have pb:=Bm.bc (bZ G12.sg hb gU) 0;go_wp2_with fail;refine((Sv hV F dx F (aM _)).1 C _ _ _ _ G12.ps sG).mono ?_;rintro e AT ⟨⟨ba,bc,rfl,Cq,hla⟩,P1,K1⟩;have aeI:=ah (rH (w:=w) (lU (w:=w2) (n:=1) Cq G12.lt) dM);have G13:=ah (G12.aB P1 K1);have R13:Hid (aP (oW w w2) AT [.int 2,nm,(strs cl),.sl [],tk,tn,Jc,lr,lu,lo,rq,.sl [],.sl [],.sl [],false] [iV 2,nm,sV ca cl.length cc,nS,tk,tn,sV ta tm tc,lr,lu,sV Mh lo.length loc,sV If rq.length Ig,nS,nS,nS,false]):=ah (eZ R12.out K1 eo.out);have q12:=Bm.bc (W:=AT) (bx:=w2.heap.size) (G13.bx 0 _ rfl) 12;have fz:AT.frozen? ⟨w2,12,none⟩=false:=al (G13.bx 0 _ rfl) 12;have G14:=ah (G13.st 0 12 (sV ba bd.length bc));have R14:Hid (aP (oW w w2) (AT.setCell ⟨w2,12,none⟩ (sV ba bd.length bc)) [.int 2,nm,(strs cl),.sl [],tk,tn,Jc,lr,lu,lo,rq,.sl [],bd,.sl [],false] [iV 2,nm,sV ca cl.length cc,nS,tk,tn,sV ta tm tc,lr,lu,sV Mh lo.length loc,sV If rq.length Ig,nS,sV ba bd.length bc,nS,false]):=ah (Jp ((R13).mR aeI 12) 12 _);have pb:=Bm.bc (W:=AT.setCell ⟨w2,12,none⟩ (sV ba bd.length bc)) (bx:=w.heap.size) (bZ G14.sg hb gU) 0;go_wp2_with fail;refine(Ie G14 "ensure" (P:=cI F) rfl Oq (λV1 GV hh=>aeC hV GV hb gU rfl dx hh) bP).mono ?_;rintro e xS ⟨rfl,X4,wP,GT,sF,bQ,KT⟩;have G15:Hid (GB C w2 r9 [cO #[iV 2,nm,sV ca cl.length cc,nS,tk,tn,sV ta tm tc,lr,lu,sV Mh lo.length loc,sV If rq.length Ig,sV X4 en.length wP,sV ba bd.length bc,nS,false] 149] xS):=ah (GT);have R15:Hid (aP (oW w w2) xS [.int 2,nm,(strs cl),.sl [],tk,tn,Jc,lr,lu,lo,rq,en,bd,.sl [],false] [iV 2,nm,sV ca cl.length cc,nS,tk,tn,sV ta tm tc,lr,lu,sV Mh lo.length loc,sV If rq.length Ig,sV X4 en.length wP,sV ba bd.length bc,nS,false]):=ah (((lR R14 KT eo).mR (rH (w:=w) sF dM) 11));have pb:=Bm.bc (bZ G15.sg hb gU) 0;go_wp2_with fail;refine(Ie G15 "rescue" (P:=dy F) rfl Pp (λV1 GV hh=>aeD hV GV hb gU rfl dx hh) bP).mono ?_;rintro e vl ⟨rfl,rba,rbc,GT,sF,bQ,KT⟩;have G16:Hid (GB C w2 r10 [cO #[iV 2,nm,sV ca cl.length cc,nS,tk,tn,sV ta tm tc,lr,lu,sV Mh lo.length loc,sV If rq.length Ig,sV X4 en.length wP,sV ba bd.length bc,sV rba rb.length rbc,false] 149] vl):=ah (GT);have R16:Hid (aP (oW w w2) vl [.int 2,nm,(strs cl),.sl [],tk,tn,Jc,lr,lu,lo,rq,en,bd,rb,false] [iV 2,nm,sV ca cl.length cc,nS,tk,tn,sV ta tm tc,lr,lu,sV Mh lo.length loc,sV If rq.length Ig,sV X4 en.length wP,sV ba bd.length bc,sV rba rb.length rbc,false]):=ah (((lR R15 KT eo).mR (rH (w:=w) sF dM) 13));have q14:=Bm.bc (W:=vl) (bx:=w2.heap.size) (G16.bx 0 _ rfl) 14;have fz:vl.frozen? ⟨w2,14,none⟩=false:=al (G16.bx 0 _ rfl) 14;have G17:=ah (G16.st 0 14 (.bool (aO "rescue" r9)));have R17:Hid (aP (oW w w2) (vl.setCell ⟨w2,14,none⟩ (.bool (aO "rescue" r9))) [.int 2,nm,(strs cl),.sl [],tk,tn,Jc,lr,lu,lo,rq,en,bd,rb,(aO "rescue" r9)] [iV 2,nm,sV ca cl.length cc,nS,tk,tn,sV ta tm tc,lr,lu,sV Mh lo.length loc,sV If rq.length Ig,sV X4 en.length wP,sV ba bd.length bc,sV rba rb.length rbc,(aO "rescue" r9)]):=ah (Jp ((R16).mR (.bool _) 14) 14 _);have pb:=Bm.bc (W:=vl.setCell ⟨w2,14,none⟩ (.bool (aO "rescue" r9))) (bx:=w.heap.size) (bZ G17.sg hb gU) 0;go_wp2_with fail;refine bY (fj G17.ps "end" Ps) λND P1 K1=>?_;have G18:=ah (G17.aB P1 K1);have R18:Hid (aP (oW w w2) ND [.int 2,nm,(strs cl),.sl [],tk,tn,Jc,lr,lu,lo,rq,en,bd,rb,(aO "rescue" r9)] [iV 2,nm,sV ca cl.length cc,nS,tk,tn,sV ta tm tc,lr,lu,sV Mh lo.length loc,sV If rq.length Ig,sV X4 en.length wP,sV ba bd.length bc,sV rba rb.length rbc,(aO "rescue" r9)]):=ah (eZ R17.out K1 eo.out);obtain⟨d0,d1,d2,d3,d4,d5,d6,d7,d8,d9,d10,d11,d12,d13,d14,-⟩:=Bm.cc (W:=ND) (b:=w2.heap.size) (G18.bx 0 _ rfl);obtain⟨b0,b1,b2,b3,b4,b5,b6,b7,b8,b9,Pn,Sb,Sc,L8,b14,-⟩:=Bm.cc (W:=ND) (b:=w.heap.size+1) (bZ G18.sg hz vq);have fb:∀j,ND.frozen? ⟨w.heap.size+1,j,none⟩=false:=al (bZ G18.sg hz vq);go_wp2;refine bG (v:=.agg #[iV 2,nm,sV ca cl.length cc,nS,tk,tn,sV ta tm tc,lr,lu,sV Mh lo.length loc,sV If rq.length Ig,sV X4 en.length wP,sV ba bd.length bc,sV rba rb.length rbc,(aO "rescue" r9)]) vR rfl ?_;exact aeG G18 Kw dM R18 rk
def ah9(w:TC)(f:Nat)(l:Zi):UI w f l=if aO (tx w) l=true then cI f l.tail else some ([],l):=rfl
def abL{f:Nat}{r:Zi}{row:Row}(h:mj fs f l=some (row,r)):∃(tk:Int) (ar8:Row),row=.int tk::ar8:=by
 cases f with
 |zero=>cases h
 |succ f=>
  simp only[mj] at h;generalize (if aO "detachable" l=true then l.tail else l)=l1 at h;generalize (if aO "separate" l1=true then l1.tail else l1)=l2 at h;obtain⟨⟨nm,r1⟩,_,h⟩:=aw.1 h;simp only at h;split at h
  .cases h
  split at h
  .cases h
  split at h
  .exact D0
  split at h
  .exact D0
  split at h
  .obtain⟨⟨xs,r2⟩,_,h⟩:=aw.1 h;obtain⟨r3,_,h⟩:=aw.1 h
   cases h;exact⟨_,_,rfl⟩
  .cases h;exact⟨_,_,rfl⟩
def abM{f:Nat}{r:Zi}(h:ml fs f l=some (rows,r)):0 < rows.length:=by
 cases f with
 |zero=>cases h
 |succ f=>
  simp only[ml,cF] at h;obtain⟨⟨x,r1⟩,_,h⟩:=aw.1 h;simp only at h;split at h
  .obtain⟨⟨xs,r2⟩,_,h⟩:=aw.1 h
   cases h;simp
  .cases h;simp
def Ot(hV:dT){F:Nat}(dx:F<=6000){C:Ctx}{w:YC}{l r:Zi}{cl:Y9}{row:Row}{S:Wq}{v:YE}(h:PS C w l)(kc:an S w (.sl (strs cl)) v)(hS:∀b,S b->b≠C.p)(cR:cl≠[])(tj:cl.length<=6000)(fx:∀s∈C.fs,bW s)(hx:oE C.fs cl F l=some (row,r)):Calls prog 182 #[pP C,v] w (Oo C row r w):=by
 simp only[oE,ah9,cF] at hx;obtain⟨⟨nm,r1⟩,h1,hy⟩:=aw.1 hx;clear hx;have hx:=hy;clear hy;obtain⟨⟨as',r3⟩,h2,hy⟩:=aw.1 hx;clear hx;have hx:=hy;clear hy;obtain⟨⟨ty,r4⟩,h4,hy⟩:=aw.1 hx;clear hx;have hx:=hy;clear hy;dsimp only at h2 h4 hx;obtain⟨tk,ar8,rfl⟩:∃(tk:Int) (ar8:Row),ty=.int tk::ar8:=by
  split at h4
  .exact abL h4
  .cases h4;exact⟨_,_,rfl⟩
 have h4':(if aO ":" r3=true then mj C.fs F r3.tail else some (Br,r3))=some (.int tk::ar8,r4):=h4
 cases h5:aO ";" r4 with
 |true=>
  rw[h5,aI rfl] at hx;split at hx
  .cases hx
  .rename_i hc;have hc':¬(tk=0)/\¬(0 < as'.length):=by simpa[Jg] using hc
   cases hp:aO "(" r1 with
   |true=>
    rw[hp,aI rfl] at h2;obtain⟨⟨as2,r2⟩,h22,hy⟩:=aw.1 h2;clear h2;have h2:=hy;clear hy;obtain⟨r5,h23,hy⟩:=aw.1 h2;clear h2;have h2:=hy;clear hy
    cases h2;exact absurd (abM h22) hc'.2
   |false=>
    rw[hp,aE ai] at h2
    cases h2
    cases hx;exact an0 (r2:=[]) (r3:=[]) (r5:=[]) (r6:=[]) (r7:=[]) (r8:=[]) (r9:=[]) (r10:=[]) (r11:=[]) (ags:=[]) (rq:=[]) (lo:=[]) (bd:=[]) (en:=[]) (rb:=[]) hV dx h kc hS cR tj fx h1 hp h4' (by simpa using hc'.1) h5
 |false=>
  rw[h5,aE ai] at hx
  cases h6:aO "deferred" r4 with
  |true=>rw[h6,aI rfl] at hx;cases hx
  |false=>
   rw[h6,aE ai] at hx;obtain⟨⟨rq,r5⟩,h7,hy⟩:=aw.1 hx;clear hx;have hx:=hy;clear hy;obtain⟨⟨lo,r6⟩,h8,hy⟩:=aw.1 hx;clear hx;have hx:=hy;clear hy;obtain⟨r7,h9,hy⟩:=aw.1 hx;clear hx;have hx:=hy;clear hy;obtain⟨⟨bd,r8⟩,sG,hy⟩:=aw.1 hx;clear hx;have hx:=hy;clear hy;obtain⟨⟨en,r9⟩,Oq,hy⟩:=aw.1 hx;clear hx;have hx:=hy;clear hy;obtain⟨⟨rs,rb,r10⟩,Pp,hy⟩:=aw.1 hx;clear hx;have hx:=hy;clear hy;obtain⟨r11,Ps,hy⟩:=aw.1 hx;clear hx;have hx:=hy;clear hy;dsimp only at h7 h8 h9 sG Oq Pp Ps hx
   cases hx;have alg:rs=aO "rescue" r9/\(if aO "rescue" r9=true then dy F r9.tail else some ([],r9))=some (rb,r10):=by
    cases hr:aO "rescue" r9 with
    |true=>
     rw[hr,aI rfl] at Pp;obtain⟨⟨x,r12⟩,hxx,hy⟩:=aw.1 Pp;clear Pp;have Pp:=hy;clear hy
     cases Pp;exact⟨rfl,by rw[aI rfl];exact hxx⟩
    |false=>
     rw[hr,aE ai] at Pp
     cases Pp;exact⟨rfl,by rw[aE ai]⟩
   rw[alg.1]
   cases hp:aO "(" r1 with
   |true=>
    rw[hp,aI rfl] at h2;obtain⟨⟨as2,r2⟩,h22,hy⟩:=aw.1 h2;clear h2;have h2:=hy;clear hy;obtain⟨r5',h23,hy⟩:=aw.1 h2;clear h2;have h2:=hy;clear hy
    cases h2;exact anZ hV dx h kc hS cR tj fx h1 hp h22 h23 h4' h5 h6 h7 h8 h9 sG Oq alg.2 Ps
   |false=>
    rw[hp,aE ai] at h2
    cases h2;exact an1 (r2:=[]) (r3:=[]) (ags:=[]) hV dx h kc hS cR tj fx h1 hp h4' h5 h6 h7 h8 h9 sG Oq alg.2 Ps
abbrev Ctx.dj(C:Ctx)(fs:Y9)(fv:YE)(Bd:Nat):Ctx:={C with fs:=fs,fv:=fv,Bd:=Bd}
def PS.dj{C:Ctx}{V:YC}{l:Zi}(h:PS C V l){fs:Y9}{fv:YE}{Bd:Nat}(hB:C.Bd<=Bd)(Ma:Bd<=V.heap.size)(fm:an (λb=>b < Bd/\b≠C.p) V (.sl (strs fs)) fv):PS (C.dj fs fv Bd) (V.setCell ⟨C.p,4,none⟩ fv) l:=by
 have rG:∀j,j≠4->(V.setCell ⟨C.p,4,none⟩ fv).cell? ⟨C.p,j,none⟩=V.cell? ⟨C.p,j,none⟩:=λj hj=>Bm.jd _ _ _ _ _ _ (Pr hj);have hg:∀b j,b≠C.p->(V.setCell ⟨C.p,4,none⟩ fv).cell? ⟨b,j,none⟩=V.cell? ⟨b,j,none⟩:=λb j hb=>Bm.cS _ _ _ _ _ _ (Pr hb);have Ax:=h.pb;have hgb:=h.gb;refine⟨h.hL,h.len,?_,?_,?_,?_,?_,?_,h.ne,by show C.p < Bd;omega,by show C.g < Bd;omega,?_,?_,?_⟩
 .show ∃cap,(V.setCell ⟨C.p,4,none⟩ fv).cell? ⟨C.p,0,none⟩=some (sV C.ga C.L.length cap)/\(C.L.length≠0->C.ga=some ⟨C.g,0,none⟩)
  rw[rG 0 ab];exact h.c0
 .show ∃n:Nat,_/\_/\(V.setCell ⟨C.p,4,none⟩ fv).cell? ⟨C.p,1,none⟩=_;rw[rG 1 ab];exact h.c1
 .show ∃x y:Int,(V.setCell ⟨C.p,4,none⟩ fv).cell? ⟨C.p,2,none⟩=_/\(V.setCell ⟨C.p,4,none⟩ fv).cell? ⟨C.p,3,none⟩=_;rw[rG 2 ab,rG 3 ab];exact h.cE
 .exact Bm.oF _ _ _ _ (by rw[h.c4];rfl)
 .intro v hv;rw[rG 5 ab];exact h.c5 v hv
 .intro j;show(V.setCell ⟨C.p,4,none⟩ fv).frozen? ⟨C.p,j,none⟩=false;rw[MY];exact h.fr j
 .rw[Bm.size_setCell];exact Ma
 .intro k t A8;have:=h.abv k t A8;simp only[hg _ _ h.ne];exact this
 .exact fm.keep (λ_ h _=>h) Hs λb hb _=>ll _ _ _ _ (by simpa using hb.2)
def GR.dj{C:Ctx}{w V:YC}{g:Nat}{l:Zi}{cs:Zt}{T:UB}(G:GR C w g l cs T V){fs:Y9}{fv:YE}{Bd:Nat}(hB:C.Bd<=Bd)(Ma:Bd<=w.heap.size)(fm:an (λb=>b < Bd/\b≠C.p/\b≠g) V (.sl (strs fs)) fv):GR (C.dj fs fv Bd) w g l cs T (V.setCell ⟨C.p,4,none⟩ fv):=by have Qb:=G.ps.dj (Bd:=Bd) hB (cn Ma G.kp.size) (fm.mono λb hb _=>⟨hb.1,hb.2.1⟩);have hk:=au (W:=V) C.p 4 fv;exact⟨Qb,fm.kept hk (λb hb _ e=>hb.2.1 e),G.kp.trans' (hk.mono λb e=>Or.inl e),(hk.block _ G.gv (λe=>G.np e)).trans G.rc,G.np,G.ng,G.gw,Ma⟩
def GR.X5{C:Ctx}{w:YC}{T:UB}(G:GR C w g l cs T V):GR C V g l cs T V:=
 ⟨G.ps,G.fm,Kept.refl _ V,G.rc,G.np,G.ng,G.gv,cn G.bd G.kp.size⟩
abbrev zCl:Array Value:=#[eS,false,nS,nS,nS,nS,nS]
def ClV(S:Wq)(w:YC)(row:Row)(v:YE):Prop:=∃(nm:Yz) (a2 a3 a4 a5 a6:YS) (m2 c2 m3 c3 m4 c4 m5 c5 m6 c6:Nat),v=.agg #[nm,false,sV a2 m2 c2,sV a3 m3 c3,sV a4 m4 c4,sV a5 m5 c5,sV a6 m6 c6]/\
 aP S w row [nm,false,sV a2 m2 c2,sV a3 m3 c3,sV a4 m4 c4,sV a5 m5 c5,sV a6 m6 c6]
def bF:Row->List Nat
 |.str a::_=>a
 |_=>[]
def Ii(fn:Nat)(row:Row):Prop:=∀(S:Wq) (w:YC) (v:YE),ClV S w row v->Calls prog fn #[v] w λe w'=>∃n:Nat,e=.returned (iV n)/\n<=40/\Kept aK w w'
def aib:(prog.info? 149).map (λi=>(i.zero,i.size,i.bytes))=some (some (.agg #[oZ,eS,nS,nS,oZ,eS,nS,false,false,nS,nS,nS,nS,nS,false]),15,256):=by kernel_rfl
def GR.step{C:Ctx}{w:YC}{T:UB}{F:Wq}(h:GR C w g l cs T V)(hk:Kept F V V')(hF:∀b,F b->w.heap.size<=b):GR C w g l cs T V':=by have hb:=h.bd;have hg:=h.gw;refine⟨h.ps.kept hk (λb e=>by have:=hF b e;omega),h.fm.kept hk (λb hb _ e=>by have:=hF b e;omega),h.kp.trans hk Lf,(hk.block _ h.gv (λe=>by have:=hF _ e;omega)).trans h.rc,h.np,h.ng,h.gw,h.bd⟩
def PS.aeJ{C:Ctx}{F:Wq}(h:PS C V l)(hk:Kept F V V')(hp:¬F C.p)(hg:¬F C.g)(fm:an (λb=>b < C.Bd/\b≠C.p) V' (.sl (strs C.fs)) C.fv):PS C V' l:=by
 have hp':∀j,V'.cell? ⟨C.p,j,none⟩=V.cell? ⟨C.p,j,none⟩:=λj=>hk.cell qb (λe=>hp ql);have hg':∀j,V'.cell? ⟨C.g,j,none⟩=V.cell? ⟨C.g,j,none⟩:=λj=>hk.cell Hw (λe=>hg ql);refine⟨h.hL,h.len,?_,?_,?_,?_,?_,?_,h.ne,h.pb,h.gb,cn h.bd hk.size,?_,fm⟩
 .simp only[hp'];exact h.c0
 .simp only[hp'];exact h.c1
 .simp only[hp'];exact h.cE
 .simp only[hp'];exact h.c4
 .simp only[hp'];exact h.c5
 .intro j;have:=hk.frozen (p:=⟨C.p,j,none⟩) qb (λe=>hp ql);rw[this];exact h.fr j
 .intro k t A8;simp only[hg'];exact h.abv k t A8
def ajU(C:Ctx)(w:YC)(g bp lo:Nat)(fo:Zg)(l:Zi)(cs:Zt)(lt:Row)(lv:YT)(gg:Nat)(s28:YE)(wr:YC):Prop:=
 ∃(i Bd:Nat) (fv:YE),s28=iV i/\i+gg=fo.length/\GR (C.dj ((fo.map bF).take i) fv Bd) wr g l cs 83 wr/\(i=0->fv=sV none 0 0)/\an (λb=>lo<=b/\b < Bd) wr (.sl (strs ((fo.map bF).take i))) fv/\wr.heap[bp]?=some (.cells #[pP C] 128 (0,0))/\wr.heap[bp+1]?=some (.cells zCl 83 (0,0))/\aP (λb=>lo<=b) wr lt lv/\Kept (ch C) w wr
def aeK(C:Ctx)(wb:YC)(g B0 F lo:Nat)(fe:Zg)(r7:Zi)(mk:Value->Array Value)(lt:Row)(lv:YT)(gg:Nat)(wr:YC):Prop:=
 ∃(acc xs:Zg) (f:Nat) (rc:Zi) (v5:YE),GR C wb g rc (mk v5) 83 wr/\OwnR B0 (λb=>B0<=b) wr 149 15 v5 acc/\aP (λb=>lo<=b/\b < B0) wr lt lv/\qm C.fs f rc=some (xs,r7)/\fe=acc++xs/\f<=gg/\B0<=wr.heap.size/\f<=F
def U7(fs cl:Y9)(f:Nat)(r:Zi):Option (List Row×List aF):=if dv r==1 then nM fs cl f r else some ([],r)
def qT(fs cl:Y9)(f:Nat)(l:Zi):nM fs cl (f+1) l=(oE fs cl f l).bind λx=>(U7 fs cl f x.2).bind λy=>some (x.1::y.1,y.2):=by
 simp only[nM,U7,cF];congr 1
 funext x
 split
 .rfl
 .rfl
def aeL(C:Ctx)(wb:YC)(g B0 F lo:Nat)(fe:Zg)(rb:Zi)(ys:Zg)(cl:Y9)(mk:Value->Array Value)(lt:Row)(lv:YT)(gg:Nat)(s7:YE)(wr:YC):Prop:=
 ∃(acc xs:Zg) (f:Nat) (rc:Zi) (v5:YE),GR C wb g rc (mk v5) 83 wr/\OwnR B0 (λb=>B0<=b) wr 149 15 v5 acc/\aP (λb=>lo<=b/\b < B0) wr lt lv/\an (λb=>B0<=b/\v5.ownBlock≠some b) wr (.sl (strs cl)) s7/\
  U7 C.fs cl f rc=some (xs,rb)/\fe=acc++(xs++ys)/\f<=gg/\B0<=wr.heap.size/\f<=F
def Ox{k:Nat}:∀{f:Nat} {l r:Zi} {xs:Y9},fB k f l=some (xs,r)->xs≠[]/\xs.length<=f
 |0,l,r,xs,h=>by cases h
 |f+1,l,r,xs,h=>by
  simp only[fB,cF] at h;obtain⟨⟨x,r1⟩,_,h⟩:=aw.1 h;dsimp only at h;split at h
  .obtain⟨⟨ys,r2⟩,h2,h3⟩:=aw.1 h
   cases h3;have:=(Ox h2).2;exact⟨by simp,by simp;omega⟩
  .cases h;exact⟨by simp,by simp⟩
def adq{C:Ctx}{wb:YC}{lo:Nat}{rc:Zi}{mk:Value->Array Value}{lt:Row}{lv:YT}{acc an2:Zg}(hmk:∀u u',(mk u).setIfInBounds 5 u'=mk u')(G:GR C wb g rc (mk v5) 83 W)(hO:OwnR B0 (λb=>B0<=b) W 149 15 v5 acc)(iH:OwnR B0 (λb=>B0<=b) W' 149 15 v' an2)(lE:Kept (λj=>v5.ownBlock=some j) W W')(nA:wb.heap.size<=B0)(hg:g < lo)(R:aP (λb=>lo<=b/\b < B0) W lt lv):GR C wb g rc (mk v') 83 (W'.setCell ⟨g,5,none⟩ v')/\OwnR B0 (λb=>B0<=b) (W'.setCell ⟨g,5,none⟩ v') 149 15 v' an2/\aP (λb=>lo<=b/\b < B0) (W'.setCell ⟨g,5,none⟩ v') lt lv:=by have G1:=G.step lE (λb e=>by have:=(hO.lt b e).1;omega);have G2:=G1.set 5 v';rw[hmk] at G2;have hgw:=G.gw;exact⟨G2,iH.kept (au g 5 v') dH Al,(R.kept lE (λb hb _ e=>by have:=(hO.lt b e).1;omega)).kept (au g 5 v') dH⟩
def Ut{s7:YE}{cl:Y9}(hS:∀b,S b->B0<=b/\v5.ownBlock≠some b)(h:an S W (.sl (strs cl)) s7)(lE:Kept (λj=>v5.ownBlock=some j) W W')(hg:g < B0)(hr:v'.ownBlock=v5.ownBlock∨∀b,v'.ownBlock=some b->W.heap.size<=b):an (λb=>B0<=b/\v'.ownBlock≠some b) (W'.setCell ⟨g,5,none⟩ v') (.sl (strs cl)) s7:=by
 have h1:an (λb=>B0<=b/\v'.ownBlock≠some b) W (.sl (strs cl)) s7:=h.mono λb hb hl=>⟨(hS b hb).1,λe=>by
  rcases hr with hr|hr
  .exact(hS b hb).2 (hr▸e)
  .have:=hr b e;omega⟩
 have h0:an (λb=>(B0<=b/\v'.ownBlock≠some b)/\v5.ownBlock≠some b) W (.sl (strs cl)) s7:=h.mono λb hb hl=>⟨⟨(hS b hb).1,λe=>by
  rcases hr with hr|hr
  .exact(hS b hb).2 (hr▸e)
  .have:=hr b e;omega⟩,(hS b hb).2⟩
 exact((h0.kept lE (λb hb _ e=>hb.2 e)).mono (λb hb _=>hb.1)).kept (au g 5 v') dH
end Go.Proofs.Gm
