/- A part of the proof of BaseDrivers. No condition. -/
import Derived.Test.YtibajhihfaggfaaGreatDoorQAB
set_option linter.all false
set_option maxRecDepth 100000
set_option maxHeartbeats 8000000
namespace Go.Proofs.Gm
open Go.Proofs.Tryz
open Go.RowKit Go.Maps
open Go.Proofs.Bm
variable {C:Ctx}{l:Zi}{W V V':YC}{bx n B l1 d g wd:Nat}{t:aF}{s nm n1:Yz}{S:Wq}{v:YE}{o:Obj}{x:Row}{k k1 m1 m:Int}{kids es tags i b e rows:Zg}{a1 a:YS}{cs:YT}{fs:Y9}{fr:RG}{P:T1}
def aZ:List aF->aF
 |t::_=>t
 |[]=>⟨0,[]⟩
def Og(s:Yz)(l:Zi):aO s l=(((aZ l).k==3||(aZ l).k==5)&&(aZ l).t==s):=by cases l<;>rfl
def adV(n:Nat)(l:Zi):PM n l=if((aZ l).k==3||(aZ l).k==5)&&Bq (aZ l).t==some n then some (aZ l).t else none:=by cases l<;>rfl
def oH(l:Zi):dv l=(aZ l).k:=by cases l<;>rfl
def mP{w:YC}(h:PS C w l):bW (aZ l).t:=by
 cases l with
 |nil=>exact λc hc=>by cases hc
 |cons t r=>exact(h.tok (k:=0) rfl).choose_spec.choose_spec.choose_spec.2.2.2.1
def adW{w:YC}(h:PS C w l):Calls prog 168 #[.pointer C.p,oZ] w λe w'=>∃a b,e=.returned (.agg #[iV (aZ l).k,(bs (aZ l).t),iV a,iV b])/\Kept aK w w':=by
 cases l with
 |nil=>exact(zz h 0 rfl ab).mono λe w' ⟨h1,h2⟩=>⟨0,0,h1,h2⟩
 |cons t r=>exact zy h 0 t rfl ab
def Se(n:Nat)(l:Zi)(w:YC)(e:TP)(w':YC):Prop:=e=.returned (.string (match PM n l with|some s=>bs s|none=>⟨#[]⟩))/\Kept aK w w'
def adX{w w':YC}{x:YR}(hx:x=match PM n l with|some s=>bs s|none=>⟨#[]⟩)(hk:Kept aK w w'):Se n l w (.returned (.string x)) w':=by subst hx;exact⟨rfl,hk⟩
def Cn(w:YC)(c:Zt)(T:UB)(j:Nat):(w.alloc (cO c T)).cell? ⟨w,j,none⟩=c[j]?:=by unfold World.cell?;rw[heap_alloc,aI rfl];rfl
def PQ{w:YC}(h:PS C w l)(n:Nat)(hl:Bq (aZ l).t=none):Calls prog 312 #[.pointer C.p,n] w (Se n l w):=by
 have hp:=adW h;have ht:=mP h;have o7:=adV n l;rw[hl] at o7;have dq:=ahK ht hl;replace o7:=ah o7;clear hl;revert hp dq;refine ct ?_;intro hp dq;clear ht h;have hmk:True:=bw;go_enter func312,ntmps312;go_wp2_with fail;refine hp.mono ?_;rintro e w1 ⟨x,y,rfl,hK⟩;go_wp2_with fail;obtain⟨bx,mf⟩:∃bx,bx=w1.heap.size:=⟨_,rfl⟩
 obtain⟨W,hW⟩:∃W,W=w1.alloc (cO #[iV (aZ l).k,(bs (aZ l).t),x,y] 187):=⟨_,rfl⟩
 have q0:W.cell? ⟨bx,0,none⟩=some (iV (aZ l).k):=qg;have q1:W.cell? ⟨bx,1,none⟩=some (.string (bs (aZ l).t)):=qg;have dZ:Kept aK w W:=by rw[hW];exact hK.alloc _
 rw[<-hW,<-mf];replace dZ:=ah dZ;clear hW mf;refine wpLive 8 (λV=>V.cell? ⟨bx,1,none⟩=some (.string (bs (aZ l).t))) (λV s=>s) ?_ λFF ak=>?_
 .exact q1
 refine tkT 1 ?_;refine tkT 2 ?_;refine rdT 0 λK hK=>?_;go_simp;refine bY (adT _) λw2 hD gu=>?_;dsimp only;refine hK _ _ (gu.aq ak (λe=>e)) (λak=>?_);clear hK K;refine sp ?_;refine rdT 3 λK hK=>?_;have hl:=gE underlying330 underlying9 hD adU dq;change(Instr.lookup 330 (.map (some W.heap.size)) _ true).run _ _=_ at hl;go_simp;refine hK _ _ ak (λak=>?_);clear hK K;refine sp ?_;refine tkT 4 ?_;refine tkT 5 ?_;refine tkT 6 ?_;refine tkT 7 ?_;refine ddT 8 λK hK=>?_;revert K hK;refine j9 ?_;have q0':=gu.aq (w:=W.drew) q0 (λe=>e);have q1':=gu.aq (w:=W.drew) q1 (λe=>e);have xq:Hid (Kept aK w w2):=ah (dZ.drew.trans' gu);clear hD ak;go_wp2;all_goals (go_ret;exact adX (by rw[o7.out];simp[*]) xq)
def PR{w:YC}(h:PS C w l)(n:Nat)(m:Nat)(hl:Bq (aZ l).t=some m):Calls prog 312 #[.pointer C.p,n] w (Se n l w):=by
 have hp:=adW h;have ht:=mP h;have o7:=adV n l;rw[hl] at o7;obtain⟨i,dq⟩:=ahJ ht hl;have k3:(((aZ l).k:Int)==3)=((aZ l).k==3):=br;have k5:(((aZ l).k:Int)==5)=((aZ l).k==5):=br;have kn:((m:Int)==(n:Int))=(m==n):=br;have kn2:(some m==some n)=(m==n):=rfl;rw[kn2] at o7;clear hl kn2;revert hp dq;refine ct ?_;intro hp dq;clear ht h;have hmk:True:=bw
 cases e1:((aZ l).k==3)<;>cases e2:((aZ l).k==5)<;>cases e3:(m==n)<;>rw[e1] at k3 o7<;>rw[e2] at k5 o7<;>rw[e3] at kn o7<;>replace o7:=ah o7<;>clear e1 e2 e3
 all_goals
  go_enter func312,ntmps312;go_wp2_with fail;refine hp.mono ?_;rintro e w1 ⟨x,y,rfl,hK⟩;go_wp2_with fail;obtain⟨bx,mf⟩:∃bx,bx=w1.heap.size:=⟨_,rfl⟩
  obtain⟨W,hW⟩:∃W,W=w1.alloc (cO #[iV (aZ l).k,(bs (aZ l).t),x,y] 187):=⟨_,rfl⟩
  have q0:W.cell? ⟨bx,0,none⟩=some (iV (aZ l).k):=qg;have q1:W.cell? ⟨bx,1,none⟩=some (.string (bs (aZ l).t)):=qg;have dZ:Kept aK w W:=by rw[hW];exact hK.alloc _
  rw[<-hW,<-mf];replace dZ:=ah dZ;clear hW mf;refine wpLive 8 (λV=>V.cell? ⟨bx,1,none⟩=some (.string (bs (aZ l).t))) (λV s=>s) ?_ λFF ak=>?_
  .exact q1
  refine tkT 1 ?_;refine tkT 2 ?_;refine rdT 0 λK hK=>?_;go_simp;refine bY (adT _) λw2 hD gu=>?_;dsimp only;refine hK _ _ (gu.aq ak (λe=>e)) (λak=>?_);clear hK K;refine sp ?_;refine rdT 3 λK hK=>?_;have hl:=gY underlying330 underlying9 hD dq;change(Instr.lookup 330 (.map (some W.heap.size)) _ true).run _ _=_ at hl;go_simp;refine hK _ _ ak (λak=>?_);clear hK K;refine sp ?_;refine tkT 4 ?_;refine tkT 5 ?_;refine tkT 6 ?_;refine tkT 7 ?_;refine ddT 8 λK hK=>?_;go_simp;refine hK _ _ ?_;clear hK K;refine sp ?_;refine dnT ?_;have q0':=gu.aq (w:=W.drew) q0 (λe=>e);have q1':=gu.aq (w:=W.drew) q1 (λe=>e);have xq:Hid (Kept aK w w2):=ah (dZ.drew.trans' gu);clear hD ak;go_wp2
  (go_ret;exact adX (by rw[o7.out];rfl) xq)
def Sf{w:YC}(h:PS C w l)(n:Nat):Calls prog 312 #[.pointer C.p,n] w (Se n l w):=by
 cases hl:Bq (aZ l).t with
 |none=>exact PQ h n hl
 |some m=>exact PR h n m hl
def aW{w:YC}{cap:Nat}{E:UB}{css:List (List Value)}{arr:Zt}(hb:w.heap[g]?=some (.cells arr E fr))(apK:arr.toList=css.flatten)(h:F2 (λrow cs=>cs.length=wd/\aP S w row cs) rows css)(hS:S g)(oG:rows.length<=cap)(hm:cap<=maxLen):an S w (.sl rows) (sV g rows.length cap):=by
 have hlen:=ee h;have mu:=jA (Q:=λcs=>cs.length=wd) h λ_ _ h=>h.1;have bQ:=(aQ.1 hb).1;have aL:∀(k:Nat) (row:Row),rows[k]?=some row->∃cs,css[k]?=some cs/\row.length=wd/\aP S w row cs:=by intro k row hk;obtain⟨cs,e1,e2,e3⟩:=ot h k row hk;exact⟨cs,e1,e3.1.trans e2,e3⟩
 refine .sl rows g 0 cap wd (λk j=>css.flatten.getD (k*wd+j) undef) hS bQ oG hm ?_ ?_ ?_
 .exact uf
 .intro k j row t hk hj;obtain⟨cs,e1,e2,e3⟩:=aL k row hk;have QB:=(dk.1 hj).1;have hf:css.flatten[k*wd+j]?=some (cs.getD j undef):=by exact JU
  rw[fi,cell_of_row w g _ arr E fr hb,<-Qu,apK,rA,hf];rfl
 exact tS
def jN(S:Wq)(w:YC)(row:Row)(v:YE):Prop:=∃(k:Int) (nm:Yz) (n:Int) (kids:Zg) (a:YS) (m c:Nat),
 row=[.int k,.str nm,.int n,.sl kids]/\v=.agg #[k,nm,n,sV a m c]/\an S w (.sl kids) (sV a m c)
section
variable {S S' F:Nat -> Prop}{w w':YC}{row:Row}{v:YE}
def jN.keep(h:jN S w row v)(hSS:∀b,S b->b < w.heap.size->S' b)(hz:w.heap.size<=w'.heap.size)(hk:∀b,S b->b < w.heap.size->w'.heap[b]?=w.heap[b]?):jN S' w' row v:=by obtain⟨k,nm,n,kids,a,m,c,h1,h2,h3⟩:=h;exact⟨k,nm,n,kids,a,m,c,h1,h2,h3.keep hSS hz hk⟩
def jN.kept(h:jN S w row v)(hk:Kept F w w')(hF:∀b,S b->b < w.heap.size->¬F b):jN S w' row v:=
 h.keep (λ_ h _=>h) hk.size λb hb hl=>hk.block b hl (hF b hb hl)
def jN.mono(h:jN S w row v)(hS:∀b,S b->b < w.heap.size->S' b):jN S' w row v:=h.keep hS (aM _) λ_ _ _=>rfl
def jN.cells(h:jN S w row v):∃cs,v=.agg cs.toArray/\cs.length=4/\aP S w row cs:=by obtain⟨k,nm,n,kids,a,m,c,rfl,rfl,h3⟩:=h;exact⟨_,rfl,rfl,.cons (.int _) (.cons (.str _) (.cons (.int _) (.cons h3 .nil)))⟩
end
def Sh{w:YC}{ra rb:Row}{va vb:YE}(op:Yz)(ha:jN S w ra va)(hb:jN S w rb vb):Calls prog 313 #[.string (bs op),va,vb] w λe w'=>(∃v,e=.returned v/\jN (λb=>S b∨w.heap.size<=b) w' (bin op ra rb) v)/\Kept aK w w':=by obtain⟨k1,n1,m1,amY,a1,l1,c1,rfl,rfl,h1⟩:=ha;obtain⟨k2,n2,m2,amZ,a2,l2,c2,rfl,rfl,h2⟩:=hb;have H1:=ah h1;have H2:=ah h2;go_enter func313,ntmps313;go_wp2;refine bG (v:=.agg #[iV 7,.string (bs op),iV 0,sV (some ⟨w.heap.size+1+1+1,0,none⟩) 2 2]) (by simp[results,results313,go_sem]) rfl ?_;exact CY
abbrev pP(C:Ctx):Value:=.pointer C.p
abbrev apL:Array Value:=#[oZ,eS,oZ,nS]
abbrev lA:Obj:=.cells apL 181
def oy{w:YC}(h:PS C w l)(s:TC){b:YR}(hi:aO (tx s) l=true)(hb:b=bs (tx s):=by rfl)(hs:((tx s).all λc=>decide (c < 256))=true:=by decide):
  Calls prog 169 #[pP C,.string b] w λe w'=>e=.returned (.bool true)/\PS C w' l.tail/\Kept (ch C) w w':=ZX h _ _ hb (aV hs) hi
def ew{w:YC}(h:PS C w l)(s:TC){b:YR}(hi:aO (tx s) l=false)(hb:b=bs (tx s):=by rfl)(hs:((tx s).all λc=>decide (c < 256))=true:=by decide):
  Calls prog 169 #[pP C,.string b] w λe w'=>e=.returned (.bool false)/\PS C w' l/\Kept (ch C) w w':=
 (aky h _ _ hb (aV hs) hi).mono λ_ _ ⟨h1,h2⟩=>⟨h1,h.kept h2 (λ_ e=>e.elim),aK.to h2⟩
def fj{w:YC}{r:Zi}(h:PS C w l)(s:TC){b:YR}(hi:cK (tx s) l=some r)(hb:b=bs (tx s):=by rfl)(hs:((tx s).all λc=>decide (c < 256))=true:=by decide):
  Calls prog 170 #[pP C,.string b] w λe w'=>e=.returned (.tuple #[])/\PS C w' r/\Kept (ch C) w w':=adS h _ _ hb (aV hs) hi
def isA{w:YC}(h:PS C w l)(s:TC){b:YR}(hb:b=bs (tx s):=by rfl)(hs:((tx s).all λc=>decide (c < 256))=true:=by decide):
  Calls prog 94 #[pP C,.string b] w λe w'=>e=.returned (.bool (aO (tx s) l))/\PS C w' l/\Kept (ch C) w w':=
 (Xy h _ _ hb (aV hs)).mono λ_ _ ⟨h1,h2⟩=>⟨h1,h.kept h2 (λ_ e=>e.elim),aK.to h2⟩
def me{w:YC}(h:PS C w l):
  Calls prog 168 #[pP C,iV 0] w λe w'=>∃a b,e=.returned (.agg #[iV (aZ l).k,(bs (aZ l).t),iV a,iV b])/\PS C w' l/\Kept (ch C) w w':=
 (adW h).mono λ_ _ ⟨a,b,h1,h2⟩=>⟨a,b,h1,h.kept h2 (λ_ e=>e.elim),aK.to h2⟩
def am0{w:YC}(h:PS C w l)(n:Nat):
  Calls prog 312 #[pP C,.int .i64 n] w λe w'=>e=.returned (.string (match PM n l with|some s=>bs s|none=>⟨#[]⟩))/\PS C w' l/\Kept (ch C) w w':=
 (Sf h n).mono λ_ _ ⟨h1,h2⟩=>⟨h1,h.kept h2 (λ_ e=>e.elim),aK.to h2⟩
def cd(C:Ctx)(row:Row)(r:Zi)(w:YC)(e:TP)(w':YC):Prop:=(∃v,e=.returned v/\jN w w' row v)/\PS C w' r/\Kept (ch C) w w'
def fR(C:Ctx)(wd:Nat)(rows:Zg)(r:Zi)(w:YC)(e:TP)(w':YC):Prop:=(∃a c,e=.returned (sV a rows.length c)/\an w w' (.sl rows) (sV a rows.length c)/\∀row∈rows,row.length=wd)/\PS C w' r/\Kept (ch C) w w'
def gS(f:Nat):Prop:=∀(C:Ctx) (w:YC) (n:Nat) (l r:Zi) (row:Row),PS C w l->cj f n l=some (row,r)->Calls prog 279 #[pP C,iV n] w (cd C row r w)
def rO(f:Nat):Prop:=∀(C:Ctx) (w:YC) (l r:Zi) (row:Row),PS C w l->jK f l=some (row,r)->Calls prog 311 #[pP C] w (cd C row r w)
def Jl(f:Nat):Prop:=∀(C:Ctx) (w:YC) (l r r1:Zi) (row x:Row),PS C w l->fF f l=some (x,r1)->xj f x r1=some (row,r)->Calls prog 333 #[pP C] w (cd C row r w)
def XA(f:Nat):Prop:=∀(C:Ctx) (w:YC) (l r:Zi) (row:Row),PS C w l->fF f l=some (row,r)->Calls prog 345 #[pP C] w (cd C row r w)
def Jm(f:Nat):Prop:=∀(C:Ctx) (w:YC) (l r:Zi) (rows:Zg),PS C w l->o5 f l=some (rows,r)->Calls prog 306 #[pP C] w (fR C 4 rows r w)
def Oh{w:YC}{c:Zt}{T:UB}(hk:Kept (ch C) (w.alloc (cO c T)) W)(hp:C.p < w.heap.size):W.heap[w.heap.size]?=some (.cells c T (0,0)):=by rw[hk.block _ ai (by unfold ch;omega),heap_alloc,if_pos rfl]
def aC{c:Zt}{T:UB}(h:W.heap[bx]?=some (.cells c T fr))(j:Nat):W.cell? ⟨bx,j,none⟩=c[j]?:=by unfold World.cell?;rw[h];rfl
def al{c:Zt}{T:UB}(h:W.heap[bx]?=some (.cells c T (0,0)))(j:Nat):W.frozen? ⟨bx,j,none⟩=false:=by unfold World.frozen?;rw[h];simp
def cu{w:YC}(h:w.heap[bx]?=some o)(hk:Kept (ch C) w W)(hp:bx≠C.p):W.heap[bx]?=some o:=
 (hk.block _ (aQ.1 h).1 hp).trans h
def aD{w:YC}{x:Obj}(h:w.heap[bx]?=some o):(w.alloc x).heap[bx]?=some o:=by rw[heap_alloc,aE (by have:=(aQ.1 h).1;omega)];exact h
abbrev A7(W:YC)(bx:Nat)(a b c d:YE):World:=(((W.setCell ⟨bx,0,none⟩ a).setCell ⟨bx,1,none⟩ b).setCell ⟨bx,2,none⟩ c).setCell ⟨bx,3,none⟩ d
def cG(W:YC)(bx:Nat)(a b c d:YE):Kept (λk=>k=bx) W (A7 W bx a b c d):=
 ((((Kept.refl (λk=>k=bx) W).setCell (p:=⟨bx,0,none⟩) (λ_=>show bx=bx from rfl) _).setCell (p:=⟨bx,1,none⟩) (λ_=>show bx=bx from rfl) _).setCell (p:=⟨bx,2,none⟩) (λ_=>show bx=bx from rfl) _).setCell (p:=⟨bx,3,none⟩) (λ_=>show bx=bx from rfl) _
def heap_setCell_same(w:YC)(b o:Nat)(u:YE){c:Zt}{e:UB}{fr:RG}(h:w.heap[b]?=some (.cells c e fr)):(w.setCell ⟨b,o,none⟩ u).heap[b]?=some (.cells (c.setIfInBounds o u) e fr):=by exact uw
def eI{c0 c1 c2 c3:YE}{T:UB}(h:W.heap[bx]?=some (.cells #[c0,c1,c2,c3] T (0,0)))(a b c d:YE):(A7 W bx a b c d).heap[bx]?=some (.cells #[a,b,c,d] T (0,0)):=by have h1:=heap_setCell_same W bx 0 a h;have h2:=heap_setCell_same _ bx 1 b h1;have h3:=heap_setCell_same _ bx 2 c h2;exact heap_setCell_same _ bx 3 d h3
def eP{w:YC}(h:PS C w l):C.p < w.heap.size:=by have:=h.pb;have:=h.bd;omega
def lM(h:aO s l=true):(aZ l).t=s:=by rw[Og] at h;simp at h;exact h.2
def Si{w:YC}{c1:Nat}{r:Zi}(hb:w.heap.size<=bx)(hB:bx < B)(hBW:B<=W.heap.size)(lN:W.heap[bx]?=some (.cells #[oZ,eS,oZ,nS] 181 (0,0)))(hx:an (λb=>B<=b) W (.sl kids) (sV a1 l1 c1))(hP:PS C W r)(hK:Kept (ch C) w W)(hw:C.Bd<=w.heap.size)(k:Int)(nm:Yz)(g:Nat)(hg:g=W.heap.size):cd C (ex k nm 0 [[k1,n1,m1,kids]]) r w (.returned (.agg #[k,nm,oZ,sV g 1 1])) (A7 (W.alloc (cO #[k1,n1,m1,sV a1 l1 c1] 181)) bx (iV k) (.string (bs nm)) (iV 0) (sV g 1 1)):=by
 subst hg;have q1:=(Kept.refl aK W).alloc (cO #[k1,n1,m1,sV a1 l1 c1] 181);have k2:=cG (W.alloc (cO #[k1,n1,m1,sV a1 l1 c1] 181)) bx (iV k) (.string (bs nm)) (iV 0) (sV W 1 1);have k3:Kept (λi=>i=bx) W _:=(aK.to q1).trans' k2;refine⟨⟨_,rfl,k,nm,0,_,_,_,_,rfl,rfl,?_⟩,hP.kept k3 lK,hK.trans k3 nV⟩;have h1:=(hx.kept k3 dH).mono (S':=λb=>w.heap.size<=b) λb hb _=>by omega
 refine aW (E:=181) (fr:=(0,0)) (wd:=4) (css:=[[k1,n1,m1,sV a1 l1 c1]]) (arr:=#[k1,n1,m1,sV a1 l1 c1]) ?_ rfl ?_ ab (aM _) cP
 .rw[k2.block _ ai ab,heap_alloc,aI rfl]
 .exact rF
def UL{w:YC}{c1:Nat}{r:Zi}(hb:w.heap.size<=bx)(hB:bx < B)(hx:an (λb=>B<=b) W (.sl kids) (sV a1 l1 c1))(hP:PS C W r)(hK:Kept (ch C) w W)(hw:C.Bd<=w.heap.size):cd C [k1,n1,m1,kids] r w (.returned (.agg #[k1,n1,m1,sV a1 l1 c1])) (A7 W bx (iV k1) (.string (bs n1)) (iV m1) (sV a1 l1 c1)):=by have k2:=cG W bx (iV k1) (.string (bs n1)) (iV m1) (sV a1 l1 c1);exact⟨⟨_,rfl,k1,n1,m1,kids,_,_,_,rfl,rfl,(hx.kept k2 dH).mono λb hb _=>by omega⟩,hP.kept k2 lK,hK.trans k2 nV⟩
def UM{f:Nat}{w:YC}{r:Zi}(ih:rO f)(hi:aO "-" l=true)(hx:jK f l.tail=some (x,r))(h:PS C w l):Calls prog 311 #[pP C] w (cd C (ex 8 "-" 0 [x]) r w):=by have ht:=lM hi;have hf:=H7;have hw:=ah h.bd;have Ax:=ah (eP h);revert hi hx h ht;refine jU ?_;intro hi hx h ht;go_enter func311,ntmps311;go_wp2_with fail;refine(me (h.alloc _)).mono ?_;rintro e w1 ⟨x1,y1,rfl,P1,K1⟩;revert P1 K1;refine ct ?_;intro P1 K1;go_wp2_with fail;refine bY (oy P1 "-" hi) λw2 P2 K2=>?_;replace P2:=ah P2;replace K2:=ah (K1.trans' K2);go_wp2_with fail;refine(ih C w2 _ _ _ P2 hx).mono ?_;rintro e w3 ⟨⟨v,rfl,k,nm,n,kids,a,m,c,rfl,rfl,hv⟩,P3,K3⟩;have dM:=K2.size;have sY:=K3.size;replace K3:=K2.trans' K3;have lN:=Oh K3 Ax;have Ly:=aD (x:=(cO #[k,nm,n,sV a m c] 181)) lN;obtain⟨b0,b1,b2,b3,-⟩:=cc (W:=w3.alloc (cO #[k,nm,n,sV a m c] 181)) (b:=w) Ly;have f0:∀j,(w3.alloc (cO #[k,nm,n,sV a m c] 181)).frozen? ⟨w,j,none⟩=false:=al Ly;revert hv P3 K3 lN;refine jU ?_;intro hv P3 K3 lN;rw[dB] at dM;revert dM sY;refine ct ?_;intro dM sY;go_wp2;rw[ht.out];refine bG (v:=.agg #[iV 8,(tx "-"),oZ,sV w3 1 1]) pT rfl ?_;exact Si (aM _) (B:=w2.heap.size) i7 sY lN hv P3 (((Kept.refl _ w).alloc _).trans' K3) hw _ _ _ rfl
def abw{f:Nat}{w:YC}{r:Zi}(ih:rO f)(g0:aO "-" l=false)(hi:aO "not" l=true)(hx:jK f l.tail=some (x,r))(h:PS C w l):Calls prog 311 #[pP C] w (cd C (ex 8 "not" 0 [x]) r w):=by have ht:=lM hi;have hf:=H7;have hw:=ah h.bd;have Ax:=ah (eP h);revert g0 hi hx h ht;refine nx ?_;intro g0 hi hx h ht;go_enter func311,ntmps311;go_wp2_with fail;refine(me (h.alloc _)).mono ?_;rintro e w1 ⟨x1,y1,rfl,P1,K1⟩;revert P1 K1;refine ct ?_;intro P1 K1;go_wp2_with fail;refine bY (ew P1 "-" g0) λw2 P2 K2=>?_;replace P2:=ah P2;replace K2:=ah (K1.trans' K2);go_wp2_with fail;refine bY (oy P2 "not" hi) λw3 P3 K3=>?_;replace P3:=ah P3;replace K3:=ah (K2.trans' K3);go_wp2_with fail;refine(ih C w3 _ _ _ P3 hx).mono ?_;rintro e w4 ⟨⟨v,rfl,k,nm,n,kids,a,m,c,rfl,rfl,hv⟩,P4,K4⟩;have dM:=K3.size;have sY:=K4.size;replace K4:=K3.trans' K4;have lN:=Oh K4 Ax;have Ly:=aD (x:=(cO #[k,nm,n,sV a m c] 181)) lN;obtain⟨b0,b1,b2,b3,-⟩:=cc (W:=w4.alloc (cO #[k,nm,n,sV a m c] 181)) (b:=w) Ly;have f0:∀j,(w4.alloc (cO #[k,nm,n,sV a m c] 181)).frozen? ⟨w,j,none⟩=false:=al Ly;revert hv P4 K4 lN;refine jU ?_;intro hv P4 K4 lN;rw[dB] at dM;revert dM sY;refine ct ?_;intro dM sY;go_wp2;rw[ht.out];refine bG (v:=.agg #[iV 8,(tx "not"),oZ,sV w4 1 1]) pT rfl ?_;exact Si (aM _) (B:=w3.heap.size) i7 sY lN hv P4 (((Kept.refl _ w).alloc _).trans' K4) hw _ _ _ rfl
def abx{f:Nat}{w:YC}{r:Zi}(ih:rO f)(g0:aO "-" l=false)(g1:aO "not" l=false)(hi:aO "old" l=true)(hx:jK f l.tail=some (x,r))(h:PS C w l):Calls prog 311 #[pP C] w (cd C (ex 9 [] 0 [x]) r w):=by have ht:=lM hi;have hf:=H7;have hw:=ah h.bd;have Ax:=ah (eP h);revert g0 g1 hi hx h ht;refine LX ?_;intro g0 g1 hi hx h ht;refine FO ?_;intro bC bX w1 x1 y1 P1 K1 w2 P2 K2 w3 P3 K3 cU dz fZ iI;refine bY (oy P3 "old" hi) λw4 P4 K4=>?_;replace P4:=ah P4;replace K4:=ah (K3.trans' K4);go_wp2_with fail;refine(ih C w4 _ _ _ P4 hx).mono ?_;rintro e w5 ⟨⟨v,rfl,k,nm,n,kids,a,m,c,rfl,rfl,hv⟩,P5,K5⟩;have dM:=K4.size;have sY:=K5.size;replace K5:=K4.trans' K5;have lN:=Oh K5 Ax;have Ly:=aD (x:=(cO #[k,nm,n,sV a m c] 181)) lN;obtain⟨b0,b1,b2,b3,-⟩:=cc (W:=w5.alloc (cO #[k,nm,n,sV a m c] 181)) (b:=w) Ly;have f0:∀j,(w5.alloc (cO #[k,nm,n,sV a m c] 181)).frozen? ⟨w,j,none⟩=false:=al Ly;revert hv P5 K5 lN;refine jU ?_;intro hv P5 K5 lN;rw[dB] at dM;revert dM sY;refine ct ?_;intro dM sY;go_wp2;refine bG (v:=.agg #[iV 9,(bs []),oZ,sV w5 1 1]) pT rfl ?_;exact Si (aM _) (B:=w4.heap.size) i7 sY lN hv P5 (((Kept.refl _ w).alloc _).trans' K5) hw _ _ _ rfl
def XB{f:Nat}{w:YC}{r:Zi}(ih:Jl f)(g0:aO "-" l=false)(g1:aO "not" l=false)(g2:aO "old" l=false){r1:Zi}{y:Row}(hy:fF f l=some (y,r1))(hx:xj f y r1=some (x,r))(h:PS C w l):Calls prog 311 #[pP C] w (cd C (x) r w):=by have hf:=H7;have hw:=ah h.bd;have Ax:=ah (eP h);revert g0 g1 g2 hy hx h;refine LX ?_;intro g0 g1 g2 hy hx h;refine FO ?_;intro bC bX w1 x1 y1 P1 K1 w2 P2 K2 w3 P3 K3 cU dz fZ iI;refine bY (ew P3 "old" g2) λw4 P4 K4=>?_;replace P4:=ah P4;replace K4:=ah (K3.trans' K4);go_wp2_with fail;refine(ih C w4 _ _ _ _ _ P4 hy hx).mono ?_;rintro e w5 ⟨⟨v,rfl,k,nm,n,kids,a,m,c,rfl,rfl,hv⟩,P5,K5⟩;have dM:=K4.size;have sY:=K5.size;replace K5:=K4.trans' K5;have lN:=Oh K5 Ax;obtain⟨b0,b1,b2,b3,-⟩:=cc (W:=w5) (b:=w) lN;have f0:∀j,w5.frozen? ⟨w,j,none⟩=false:=al lN;revert hv P5 K5 lN;refine jU ?_;intro hv P5 K5 lN;rw[dB] at dM;revert dM sY;refine ct ?_;intro dM sY;go_wp2;refine bG (v:=.agg #[k,nm,n,sV a m c]) pT rfl ?_;exact UL (aM _) (B:=w4.heap.size) i7 hv P5 (((Kept.refl _ w).alloc _).trans' K5) hw
def adY{f:Nat}(ih:rO f)(ihc:Jl f):rO (f+1):=by
 intro C w l r row h hp;simp only[jK,cF] at hp;split at hp
 .rename_i g;obtain⟨⟨x,r'⟩,hx,h2⟩:=aw.1 hp
  cases h2;exact UM ih g hx h
 .rename_i g0;split at hp
  .rename_i g;obtain⟨⟨x,r'⟩,hx,h2⟩:=aw.1 hp
   cases h2;exact abw ih wF g hx h
  .rename_i g1;split at hp
   .rename_i g;obtain⟨⟨x,r'⟩,hx,h2⟩:=aw.1 hp
    cases h2;exact abx ih wF wH g hx h
   .rename_i g2;obtain⟨⟨x,r'⟩,hx,h2⟩:=aw.1 hp;exact XB ihc wF wH (by simpa using g2) hx h2 h
def Ia:(prog.info? 181).map (λi=>(i.zero,i.size,i.bytes))=some (some (.agg #[oZ,eS,oZ,nS]),4,56):=by kernel_rfl
def OwnR.Ry{w:YC}{E:Nat}{row:Row}{arr:Zt}(hb:w.heap[g]?=some (.cells arr E (0,0)))(ha:arr.toList=cs)(hl:cs.length=wd)(hB:B<=g)(hr:aP (λb=>S b/\b≠g) w row cs):OwnR B S w E wd (sV g 1 1) [row]:=by
 subst ha;refine⟨[arr.toList],.cons ⟨hl,hr.mono λb hb _=>⟨hb.1,λe=>hb.2 (by simp[Value.ownBlock] at e;exact e.symm)⟩⟩ .nil,by simp;simpa using hl,.inr ⟨g,1,arr,rfl,hB,hb,aM _,by simp[maxLen],?_,?_⟩⟩
 .simpa using hl
 .simp only[dC,mc,IW,List.flatten_nil,gp,fi,Nat.one_mul];rw[<-hl,qB]
def eH{w:YC}{T:UB}:∀(j:Nat) (u:YE),cs[j]?=some u->(w.alloc (cO cs.toArray T)).cell? ((⟨w,0,none⟩:Addr).add j)=some u:=by intro j u h;rw[MP,fi,Cn];simpa using h
def iR{f:Nat}(ih:gS f){C:Ctx}{w:YC}{l r:Zi}{x:Row}(hx:cj f 0 l=some (x,r))(h:PS C w l):Calls prog 246 #[pP C] w (cd C x r w):=by have hw:=ah h.bd;have Ax:=ah (eP h);have P1:=ah (h.alloc lA);replace hx:=ah hx;go_enter func246,ntmps246;go_wp2_with fail;refine(ih C _ 0 _ _ _ P1 hx).mono ?_;rintro e w2 ⟨⟨v,rfl,k,nm,n,kids,a,m,c,rfl,rfl,hv⟩,P2,K2⟩;have lN:=Oh K2 Ax;obtain⟨b0,b1,b2,b3,-⟩:=cc (W:=w2) (b:=w) lN;have f0:∀j,w2.frozen? ⟨w,j,none⟩=false:=al lN;revert hv P2 K2 lN;refine jU ?_;intro hv P2 K2 lN;go_wp2;refine bG (v:=.agg #[k,nm,n,sV a m c]) (by simp[results,results246,go_sem,b0,b1,b2,b3]) rfl ?_;exact UL (aM _) (B:=(w.alloc lA).heap.size) ai hv P2 (((Kept.refl _ w).alloc _).trans' K2) hw
def LA(f:Nat)(rc:Zi):Option (List Row×List aF):=if aO "," rc then yO f rc.tail else some ([],rc)
def oI(f:Nat)(l:Zi):yO (f+1) l=(cj f 0 l).bind λp=>(LA f p.2).bind λq=>some (p.1::q.1,q.2):=by
 simp only[yO,LA,cF];congr 1
 funext ⟨x,r⟩
 simp only;split<;>rfl
def yw(C:Ctx)(w:YC)(F:Nat)(rows:Zg)(r:Zi)(gg:Nat)(s7:YE)(wr:YC):Prop:=
 ∃(acc xs:Zg) (f:Nat) (rc:Zi),OwnR w.heap.size w wr 181 4 s7 acc/\PS C wr rc/\Kept (ch C) w wr/\LA f rc=some (xs,r)/\f<=F/\rows=acc++xs/\f<=gg/\acc.length+f<=6000
def XC{F:Nat}(ih:∀f,f < F->gS f){C:Ctx}{w:YC}{l r:Zi}{rows:Zg}(hx:yO F l=some (rows,r))(h:PS C w l)(dx:F<=6000):Calls prog 330 #[pP C,.string qu,.func (.func 246) #[pP C] #[]] w (fR C 4 rows r w):=by
 obtain⟨i,hi,hz,cL,dY⟩:=dN Ia
 cases F with
 |zero=>cases hx
 |succ F=>
 rw[oI] at hx;obtain⟨⟨x,r1⟩,iF,h2⟩:=aw.1 hx;obtain⟨⟨xs,r2⟩,ir,h3⟩:=aw.1 h2
 cases h3;dsimp only at ir;have hw:=ah h.bd;have Ax:=ah (eP h);revert h hi hz cL dY dx iF ir;refine TR ?_;intro h hi hz cL dY dx iF ir;go_enter func330,ntmps330;go_wp2_with fail;refine(iR (ih F (j4 F)) iF h).mono ?_;rintro e w1 ⟨⟨v,rfl,k,nm,n,kids,a,m,c,rfl,rfl,hv⟩,P1,K1⟩;have rG:=K1.size;obtain⟨W,hW⟩:∃W,W=w1.alloc (cO #[k,nm,n,sV a m c] 181):=⟨_,rfl⟩
 have hO:OwnR w.heap.size w W 181 4 (sV w1 1 1) [[k,nm,n,kids]]:=by
  rw[hW];refine OwnR.Ry (arr:=#[k,nm,n,sV a m c]) ao rfl rfl rG ?_;have IN:=(hv.kept ((Kept.refl aK w1).alloc (cO #[k,nm,n,sV a m c] 181)) (λ_ _ _ e=>e))
  exact .cons (.int _) (.cons (.str _) (.cons (.int _) (.cons (hv.keep (λb hb hl=>⟨hb,by omega⟩) ai λb _ hl=>jm _ _ _ hl) .nil)))
 refine oB ?_;intro hP hK;have hrel:Hid (yw C w F ([k,nm,n,kids]::xs) r2 F (sV w1 1 1) W):=
  ah ⟨_,xs,F,r1,hO,hP,hK,ir.out,aM _,rfl,aM _,by have:=dx.out;simp;omega⟩
 go_wp2;rw[<-hW];replace hW:=ah hW;go_loopg [7] F (λgg s7 wr=>yw C w F ([k,nm,n,kids]::xs) r2 gg s7 wr)
 case atStart=>exact hrel
 case round=>
  obtain⟨acc,XD,f,rc,hO,hP,lH,hm,gT,aN,de,h6⟩:=hrel;obtain⟨a7,gy,rfl⟩:=hO.form;by_cases hc:aO "," rc=true
  .have cg:=hm;unfold LA at cg;rw[aI hc] at cg
   cases f with
   |zero=>cases cg
   |succ f=>
   rw[oI] at cg;obtain⟨⟨y,r3⟩,lX,h4⟩:=aw.1 cg;obtain⟨⟨ys,r4⟩,rZ,h5⟩:=aw.1 h4
   cases h5;dsimp only at rZ;revert hP lH hO hc gT de h6 lX rZ aN;refine zQ ?_;intro hP lH hO hc gT de h6 lX rZ aN;go_wp2_with fail;refine bY (oy hP "," hc) λw2 P2 K2=>?_;revert P2 K2;refine ct ?_;intro P2 K2;go_wp2_with fail;refine(iR (ih f bT) lX P2).mono ?_;revert y hm cg h4 lX aN;refine FK ?_;intro w3 k' zt n' Uz a' m' c' hm cg h4 lX aN hv P3 K3 pD xD nR qp Jb jl eG lD;go_wp2_with (at_builtin;refine bu (P:=prog) underlying179 hi hz cL dY rfl ab ab rfl (.tmp 14) (.tmp 17) rfl rfl ⟨w3,0,none⟩ 1 rfl _ _ nR lD dr rfl eG qp ?_);exact EP
  .have cg:=hm;unfold LA at cg;rw[aE hc] at cg
   cases cg;simp only[gI] at hc;revert lH hO hP hc;refine jU ?_;intro lH hO hP hc;rw[gp] at aN;replace aN:=ah aN;go_wp2_with fail;refine bY (ew hP "," hc) λw2 P2 K2=>?_;have qY:OwnR w.heap.size w w2 181 4 (sV a7 acc.length gy) acc:=
    hO.kept K2 cC cT
   revert P2 qY;refine ct ?_;intro P2 qY;replace K2:=ah (lH.trans' K2);go_wp2;go_ret;rw[aN.out];exact tQ
def pC(fn:Fn)(first cap:Zt)(w:YC):(Instr.makeFunc fn first cap).run prog w=.ok (.func fn first cap) w:=rfl
def ahL{f:Nat}(ih:∀f',f' < f->gS f')(hF:f<=6000):Jm (f+1):=by
 intro C w l r rows h hp;simp only[o5,cF] at hp;have sE:=pC;split at hp
 .rename_i g;obtain⟨⟨x,r1⟩,hx,h2⟩:=aw.1 hp;obtain⟨r2,hm,h3⟩:=aw.1 h2
  cases h3;dsimp only at hm;have ih':=ah ih;revert h g hx hm;refine jU ?_;intro h g hx hm;go_enter func306,ntmps306;go_wp2_with fail;refine(oy h "(" g).mono ?_;rintro e w1 ⟨rfl,P1,K1⟩;revert P1 K1;refine ct ?_;intro P1 K1;go_wp2_with fail;refine(XC ih' hx P1 hF).mono ?_;rintro e w2 ⟨⟨a,c,rfl,hv,hlen⟩,P2,K2⟩;replace hlen:=ah hlen;have hs:=K1.size;replace P2:=ah P2;replace K2:=ah (K1.trans' K2);revert hv hs;refine ct ?_;intro hv hs;go_wp2_with fail;refine(fj P2 ")" hm).mono ?_;rintro e w3 ⟨rfl,P3,K3⟩;have FJ:=hv.kept K3 (λb hb _ e=>by have:=hs.out;have:=eP h;unfold ch at e;omega);replace P3:=ah P3;replace K3:=ah (K2.trans' K3);replace FJ:=ah FJ;go_wp2;go_ret;exact⟨⟨_,_,rfl,FJ.mono (λb hb _=>by have:=hs.out;omega),hlen⟩,P3,K3⟩
 .rename_i g
  cases hp;simp only[gI] at g;revert h g;refine ct ?_;intro h g;go_enter func306,ntmps306;go_wp2_with fail;refine(ew h "(" g).mono ?_;exact DN
structure St (C:Ctx) (w:YC) (l:Zi) (o:Obj) (V:YC):Prop where
 ps:PS C V l
 box:V.heap[w.heap.size]?=some o
 kp:Kept (ch C) w V
 bd:C.Bd<=w.heap.size
def Mu{F:Wq}(hk:Kept F V V'):Kept (λb=>F b/\b < V.heap.size) V V':=⟨hk.os,hk.tape,hk.output,hk.size,λb hb hn=>hk.block b hb (λe=>hn ⟨e,hb⟩)⟩
namespace St
variable {C:Ctx}{w V V':YC}{l r:Zi}{o:Obj}{F:Nat -> Prop}
def start(h:PS C w l)(o:Obj):St C w l o (w.alloc o):=⟨h.alloc o,by rw[heap_alloc,aI rfl],(Kept.refl _ w).alloc o,h.bd⟩
def lt(h:St C w l o V):w.heap.size < V.heap.size:=(aQ.1 h.box).1
def pw(h:St C w l o V):C.p < w.heap.size:=by have:=h.ps.pb;have:=h.bd;omega
def aB(h:St C w l o V)(hp:PS C V' r)(hk:Kept (ch C) V V'):St C w r o V':=
 ⟨hp,(hk.block _ h.lt (λe=>by have:=h.pw;unfold ch at e;omega)).trans h.box,h.kp.trans' hk,h.bd⟩
def step(h:St C w l o V)(hk:Kept F V V')(hF:∀b,F b->b < V.heap.size->w.heap.size < b):St C w l o V':=
 ⟨(h.ps.kept (Mu hk) su),(hk.block _ h.lt (λe=>by have:=hF _ e h.lt;omega)).trans h.box,h.kp.trans hk (λb hb e=>by have:=hF b e wt;omega),h.bd⟩
def no(h:St C w l o V)(hk:Kept aK V V'):St C w l o V':=h.step hk λ_ e=>e.elim
def alloc(h:St C w l o V)(x:Obj):St C w l o (V.alloc x):=h.no ((Kept.refl _ V).alloc x)
def drew(h:St C w l o V):St C w l o V.drew:=h.no (Kept.refl _ V).drew
def EB(h:St C w l o V){bx:Nat}(hb:w.heap.size < bx)(a b c d:YE):St C w l o (A7 V bx a b c d):=h.step (cG V bx a b c d) λk e _=>by omega
def TT{t:aF}(h:St C w (t::r) o V){n:Nat}{v:Int}(hn:n+(t::r).length=C.L.length)(hv:v=(n:Int)+1):St C w r o (V.setCell ⟨C.p,1,none⟩ (iV v)):=by have:=Xz h.ps (Kept.refl _ V) hn hv;exact h.aB this.1 this.2
end St
open Go.Proofs.Tryz
open Go.RowKit Go.Maps
open Go.Proofs.Bm
def dT:Prop:=∀(w:YC) (s:Yz),bW s->shape s=some 4->Calls prog 310 #[s] w λe w'=>e=.returned (.tuple #[(num s),oZ])/\Kept aK w w'
def ajt{w:YC}{r:Zi}(h:PS C w (t::r)):
  Calls prog 168 #[pP C,iV 0] w λe w'=>∃a b,e=.returned (.agg #[t.k,t.t,iV a,iV b])/\PS C w' (t::r)/\Kept (ch C) w w':=me h
def aJ{W':YC}{b:Nat}(h:W.heap[b]?=some o)(hk:Kept aK W W'):W'.heap[b]?=some o:=(hk.block _ (aQ.1 h).1 (λe=>e)).trans h
def St.fin{w:YC}{r:Zi}{m c:Nat}(h:St C w r lA W)(hv:an (λb=>B<=b) W (.sl rows) (sV a m c))(hB:w.heap.size < B)(k:Int)(nm:Yz)(n:Int):cd C [k,nm,n,rows] r w (.returned (.agg #[k,nm,n,sV a m c])) (A7 W w.heap.size (iV k) (.string (bs nm)) (iV n) (sV a m c)):=by have k2:=cG W w.heap.size (iV k) (.string (bs nm)) (iV n) (sV a m c);have:=h.bd;exact⟨⟨_,rfl,k,nm,n,rows,_,_,_,rfl,rfl,(hv.kept k2 dH).mono λb hb _=>by omega⟩,h.ps.kept k2 lK,h.kp.trans k2 nV⟩
def St.akf{w:YC}{r:Zi}{c1:Nat}(h:St C w r lA W)(hv:an (λb=>B<=b) W (.sl kids) (sV a1 l1 c1))(hB:w.heap.size < B)(k:Int)(nm:Yz){g:Nat}(hg:W.heap[g]?=some (.cells #[k1,n1,m1,sV a1 l1 c1] 181 (0,0)))(hgw:w.heap.size < g):cd C (ex k nm 0 [[k1,n1,m1,kids]]) r w (.returned (.agg #[k,nm,oZ,sV g 1 1])) (A7 W w.heap.size (iV k) (.string (bs nm)) (iV 0) (sV g 1 1)):=by
 refine h.fin (B:=w.heap.size+1) ?_ (j4 _) k nm 0;have h1:=hv.mono (S':=λb=>w.heap.size+1<=b) λb hb _=>by omega
 refine aW (E:=181) (fr:=(0,0)) (wd:=4) (css:=[[k1,n1,m1,sV a1 l1 c1]]) hg rfl ?_ hgw (aM _) cP;exact rF
def adZ(hV:dT){C:Ctx}{w:YC}{t:aF}{r:Zi}(hk:t.k=4)(h:PS C w (t::r)):Calls prog 345 #[pP C] w (cd C (ex 1 [] (num t.t) []) r w):=by have eF:=h.shp;have dQ:=mP h;change bW t.t at dQ;have hw:=ah h.bd;have sE:=pC;have S0:=ah (St.start h lA);have k4:((t.k:Int)==4)=true:=dJ;revert hk h eF dQ;refine jU ?_;intro hk h eF dQ;refine pF ?_;intro bC bX cU dz w1 x1 y1 P1 K1 n fZ asf ash tj hn nz d1 S1 gJ e1 iC rY Bj;go_wp2_with fail;refine bD (hV _ t.t dQ (by rw[eF.out,hk.out])) λw2 K2=>?_;have S3:=(S1.TT e1 rfl).no K2;obtain⟨b0,b1,b2,b3,-⟩:=cc (W:=w2) (b:=w) S3.box;have f0:∀j,w2.frozen? ⟨w,j,none⟩=false:=al S3.box;replace S3:=ah S3;go_wp2;refine bG (v:=.agg #[iV 1,eS,(num t.t),nS]) eU rfl ?_;exact CW
def aby{f:Nat}(ih:Jm f){C:Ctx}{w:YC}{t:aF}{r:Zi}(hk:t.k=1){ags:Zg}{r2:Zi}(hx:o5 f r=some (ags,r2))(h:PS C w (t::r)):Calls prog 345 #[pP C] w (cd C (ex 6 t.t 0 ags) r2 w):=by
 have eF:=h.shp;have dQ:=mP h;change bW t.t at dQ;have hw:=ah h.bd;have sE:=pC;have S0:=ah (St.start h lA);have k4:((t.k:Int)==4)=false:=dJ;have k1:((t.k:Int)==1)=true:=dJ;revert hk hx h eF dQ;refine nx ?_;intro hk hx h eF dQ;refine pF ?_;intro bC bX cU dz w1 x1 y1 P1 K1 n fZ asf ash tj hn nz d1 S1 gJ e1 iC rY Bj;have S2:=ah (S1.TT e1.out rfl);go_wp2_with fail;refine wpLive 5 (λV=>V.heap[w1.heap.size]?=some (cO #[t.k,t.t,x1,y1] 187)) (λV s=>bc s 1) ?_ λFF ak=>?_
 .exact Bj
 refine tkT 0 ?_;refine tkT 1 ?_;refine tkT 2 ?_;refine rdT 3 λK hK=>?_;go_simp;refine(ih C _ _ _ _ S2.drew.ps hx).mono ?_;rintro e w2 ⟨⟨a,c,rfl,hv,hlen⟩,P2,K2⟩;dsimp only;have pD:=S2.drew.lt;have S3:=S2.drew.aB P2 K2;have Cm:=cu ak K2 rY;obtain⟨b0,b1,b2,b3,-⟩:=cc (W:=w2) (b:=w) S3.box;have f0:∀j,w2.frozen? ⟨w,j,none⟩=false:=al S3.box;revert hv pD S3;refine jk ?_;intro hv pD S3;refine hK _ _ (Cm) (λak=>?_);refine sp ?_;refine tkT 4 ?_;refine ddT 5 λK hK=>?_;go_simp;refine hK _ _ ?_;refine sp ?_;refine dnT ?_;go_wp2;refine bG (v:=.agg #[iV 6,t.t,oZ,sV a ags.length c]) eU rfl ?_;exact S3.fin hv pD 6 t.t 0
def dh{G:R0}{a:Act}(F:T2)(h1:F W)(h2:∀V,F V->G a V):G a W:=h2 W h1
def QJ(w:YC):Calls prog 304 #[] w λe w'=>∃g,e=.returned (.map (some g))/\dG w' g wvL/\Kept aK w w':=(akA w).mono λ_ _ ⟨h1,h2,h3⟩=>⟨_,h1,h2,h3⟩
def fw{b:Nat}(h:W.heap[b]?=some o)(cR:b≠bx)(x y z u:YE):(A7 W bx x y z u).heap[b]?=some o:=
 ((cG W bx x y z u).block _ (aQ.1 h).1 cR).trans h
def abz{w:YC}{r:Zi}(ht:t.t=tx "True")(hk:t.k=3)(h:PS C w (t::r)):Calls prog 345 #[pP C] w (cd C (ex 2 [] 1 []) r w):=by
 refine kI ?_;intro eF dQ hw sE S0 k4 k1 k3;have dq:lT (bs t.t) wvL 0=some (0,.agg #[iV 2,eS,iV 1,nS]):=mi;revert ht hk h eF dQ dq;refine mN ?_;intro hk h eF dQ dq w1 x1 y1 P1 K1 n bC hn nz S1 gJ e1 iC rY ht bX cU dz fZ FF ak;refine rT2 0 7 (λK hK=>?_) λK hK=>?_
 .revert K hK;refine kJ ?_;intro wA gm hD kB ak;refine rT2 3 7 (λK hK=>?_) λK hK=>?_
  .revert hD K hK;refine mQ ?_;intro hl bC jH hD mw ak;exact ED
  .revert hD K hK;refine oz ?_;intro jH hD mw bC hl ak;exact ED
 .revert K hK;refine ox ?_;intro h6 bC wA gm hD kB mw sN sO tF tG sP bX hl ak K hK;refine hK _ _ ⟨fw ak.1 ab (iV 2) (.string ⟨#[]⟩) (iV 1) (sV none 0 0),ak.2.EB iJ (iV 2) (.string ⟨#[]⟩) (iV 1) (sV none 0 0)⟩ (λak=>?_);revert K hK;refine kH ?_;intro g6 jQ oO;refine dh (λV=>V.heap[w1.heap.size]?=some (cO #[t.k,t.t,x1,y1] 187)/\St C w (t::r) lA V/\V.heap[g6]?=some (.cells #[iV 2,eS,iV 1,nS] 181 (0,0))) ⟨ak.1,ak.2,by rw[jQ];exact(eI mw (iV 2) (.string ⟨#[]⟩) (iV 1) (sV none 0 0))⟩ ?_;rw[<-jQ];clear ak hD kB hl jQ mw h6 sN sP sO tF tG;exact CH
def XE{w:YC}{r:Zi}(ht:t.t=tx "False")(hk:t.k=3)(h:PS C w (t::r)):Calls prog 345 #[pP C] w (cd C (ex 2 [] 0 []) r w):=by
 refine kI ?_;intro eF dQ hw sE S0 k4 k1 k3;have dq:lT (bs t.t) wvL 0=some (1,.agg #[iV 2,eS,oZ,nS]):=mi;revert ht hk h eF dQ dq;refine mN ?_;intro hk h eF dQ dq w1 x1 y1 P1 K1 n bC hn nz S1 gJ e1 iC rY ht bX cU dz fZ FF ak;refine rT2 0 7 (λK hK=>?_) λK hK=>?_
 .revert K hK;refine kJ ?_;intro wA gm hD kB ak;refine rT2 3 7 (λK hK=>?_) λK hK=>?_
  .revert hD K hK;refine mQ ?_;intro hl bC jH hD mw ak;exact EG
  .revert hD K hK;refine oz ?_;intro jH hD mw bC hl ak;exact EG
 .revert K hK;refine ox ?_;intro h6 bC wA gm hD kB mw sN sO tF tG sP bX hl ak K hK;refine hK _ _ ⟨fw ak.1 ab (iV 2) (.string ⟨#[]⟩) (iV 0) (sV none 0 0),ak.2.EB iJ (iV 2) (.string ⟨#[]⟩) (iV 0) (sV none 0 0)⟩ (λak=>?_);revert K hK;refine kH ?_;intro g6 jQ oO;refine dh (λV=>V.heap[w1.heap.size]?=some (cO #[t.k,t.t,x1,y1] 187)/\St C w (t::r) lA V/\V.heap[g6]?=some (.cells #[iV 2,eS,oZ,nS] 181 (0,0))) ⟨ak.1,ak.2,by rw[jQ];exact(eI mw (iV 2) (.string ⟨#[]⟩) (iV 0) (sV none 0 0))⟩ ?_;rw[<-jQ];clear ak hD kB hl jQ mw h6 sN sP sO tF tG;exact CL
def abA{w:YC}{r:Zi}(ht:t.t=tx "Void")(hk:t.k=3)(h:PS C w (t::r)):Calls prog 345 #[pP C] w (cd C (ex 3 [] 0 []) r w):=by
 refine kI ?_;intro eF dQ hw sE S0 k4 k1 k3;have dq:lT (bs t.t) wvL 0=some (2,.agg #[iV 3,eS,oZ,nS]):=mi;revert ht hk h eF dQ dq;refine mN ?_;intro hk h eF dQ dq w1 x1 y1 P1 K1 n bC hn nz S1 gJ e1 iC rY ht bX cU dz fZ FF ak;refine rT2 0 7 (λK hK=>?_) λK hK=>?_
 .revert K hK;refine kJ ?_;intro wA gm hD kB ak;refine rT2 3 7 (λK hK=>?_) λK hK=>?_
  .revert hD K hK;refine mQ ?_;intro hl bC jH hD mw ak;exact EF
  .revert hD K hK;refine oz ?_;intro jH hD mw bC hl ak;exact EF
 .revert K hK;refine ox ?_;intro h6 bC wA gm hD kB mw sN sO tF tG sP bX hl ak K hK;refine hK _ _ ⟨fw ak.1 ab (iV 3) (.string ⟨#[]⟩) (iV 0) (sV none 0 0),ak.2.EB iJ (iV 3) (.string ⟨#[]⟩) (iV 0) (sV none 0 0)⟩ (λak=>?_);revert K hK;refine kH ?_;intro g6 jQ oO;refine dh (λV=>V.heap[w1.heap.size]?=some (cO #[t.k,t.t,x1,y1] 187)/\St C w (t::r) lA V/\V.heap[g6]?=some (.cells #[iV 3,eS,oZ,nS] 181 (0,0))) ⟨ak.1,ak.2,by rw[jQ];exact(eI mw (iV 3) (.string ⟨#[]⟩) (iV 0) (sV none 0 0))⟩ ?_;rw[<-jQ];clear ak hD kB hl jQ mw h6 sN sP sO tF tG;exact CK
def Sj{w:YC}{r:Zi}(ht:t.t=tx "Current")(hk:t.k=3)(h:PS C w (t::r)):Calls prog 345 #[pP C] w (cd C (ex 4 [] 0 []) r w):=by
 refine kI ?_;intro eF dQ hw sE S0 k4 k1 k3;have dq:lT (bs t.t) wvL 0=some (3,.agg #[iV 4,eS,oZ,nS]):=mi;revert ht hk h eF dQ dq;refine mN ?_;intro hk h eF dQ dq w1 x1 y1 P1 K1 n bC hn nz S1 gJ e1 iC rY ht bX cU dz fZ FF ak;refine rT2 0 7 (λK hK=>?_) λK hK=>?_
 .revert K hK;refine kJ ?_;intro wA gm hD kB ak;refine rT2 3 7 (λK hK=>?_) λK hK=>?_
  .revert hD K hK;refine mQ ?_;intro hl bC jH hD mw ak;exact EE
  .revert hD K hK;refine oz ?_;intro jH hD mw bC hl ak;exact EE
 .revert K hK;refine ox ?_;intro h6 bC wA gm hD kB mw sN sO tF tG sP bX hl ak K hK;refine hK _ _ ⟨fw ak.1 ab (iV 4) (.string ⟨#[]⟩) (iV 0) (sV none 0 0),ak.2.EB iJ (iV 4) (.string ⟨#[]⟩) (iV 0) (sV none 0 0)⟩ (λak=>?_);revert K hK;refine kH ?_;intro g6 jQ oO;refine dh (λV=>V.heap[w1.heap.size]?=some (cO #[t.k,t.t,x1,y1] 187)/\St C w (t::r) lA V/\V.heap[g6]?=some (.cells #[iV 4,eS,oZ,nS] 181 (0,0))) ⟨ak.1,ak.2,by rw[jQ];exact(eI mw (iV 4) (.string ⟨#[]⟩) (iV 0) (sV none 0 0))⟩ ?_;rw[<-jQ];clear ak hD kB hl jQ mw h6 sN sP sO tF tG;exact CJ
def UN{w:YC}{r:Zi}(ht:t.t=tx "Result")(hk:t.k=3)(h:PS C w (t::r)):Calls prog 345 #[pP C] w (cd C (ex 5 [] 0 []) r w):=by
 refine kI ?_;intro eF dQ hw sE S0 k4 k1 k3;have dq:lT (bs t.t) wvL 0=some (4,.agg #[iV 5,eS,oZ,nS]):=mi;revert ht hk h eF dQ dq;refine mN ?_;intro hk h eF dQ dq w1 x1 y1 P1 K1 n bC hn nz S1 gJ e1 iC rY ht bX cU dz fZ FF ak;refine rT2 0 7 (λK hK=>?_) λK hK=>?_
 .revert K hK;refine kJ ?_;intro wA gm hD kB ak;refine rT2 3 7 (λK hK=>?_) λK hK=>?_
  .revert hD K hK;refine mQ ?_;intro hl bC jH hD mw ak;exact Kl
  .revert hD K hK;refine oz ?_;intro jH hD mw bC hl ak;exact Kl
 .revert K hK;refine ox ?_;intro h6 bC wA gm hD kB mw sN sO tF tG sP bX hl ak K hK;refine hK _ _ ⟨fw ak.1 ab (iV 5) (.string ⟨#[]⟩) (iV 0) (sV none 0 0),ak.2.EB iJ (iV 5) (.string ⟨#[]⟩) (iV 0) (sV none 0 0)⟩ (λak=>?_);revert K hK;refine kH ?_;intro g6 jQ oO;refine dh (λV=>V.heap[w1.heap.size]?=some (cO #[t.k,t.t,x1,y1] 187)/\St C w (t::r) lA V/\V.heap[g6]?=some (.cells #[iV 5,eS,oZ,nS] 181 (0,0))) ⟨ak.1,ak.2,by rw[jQ];exact(eI mw (iV 5) (.string ⟨#[]⟩) (iV 0) (sV none 0 0))⟩ ?_;rw[<-jQ];clear ak hD kB hl jQ mw h6 sN sP sO tF tG;exact CI
def ad0{f:Nat}(ih:Jl f){C:Ctx}{w:YC}{t:aF}{r:Zi}(ht:t.t=tx "attached")(hk:t.k=3){x y:Row}{r1 r2 r3 r4:Zi}{nm:Yz}(hx:fF f r=some (x,r1))(hy:xj f x r1=some (y,r2))(xA:cK "as" r2=some r3)(hnw:word 1 r3=some (nm,r4))(h:PS C w (t::r)):Calls prog 345 #[pP C] w (cd C (ex 10 nm 0 [y]) r4 w):=by
 refine kI ?_;intro eF dQ hw sE S0 k4 k1 k3;have dq:lT (bs t.t) wvL 0=none:=mi;have hnp:aO "(" (t::r)=false:=by rw[Og];change((t.k==3||t.k==5)&&t.t==tx "(")=false;rw[ht,show(tx "attached"==tx "(")=false from by decide,A3]
 have hma:cK "attached" (t::r)=some r:=by unfold cK;rw[Og];change(if((t.k==3||t.k==5)&&t.t==tx "attached")=true then _ else _)=_;rw[ht,hk];rfl
 revert hk hx hy xA hnw h eF dQ dq hnp hma;refine ahi ?_;intro hk hx hy xA hnw h eF dQ dq hnp hma;refine pF ?_;intro bC bX cU dz w1 x1 y1 P1 K1 n fZ asf ash tj hn nz d1 S1 gJ e1 iC rY Bj;clear tj;replace ht:=ah ht;clear asf ash d1 Bj;go_wp2_with fail;refine wpLive 9 (λV=>V.heap[w1.heap.size]?=some (cO #[t.k,t.t,x1,y1] 187)/\St C w (t::r) lA V) (λV s=>bc s.1 1) ?_ λFF ak=>?_
 .exact⟨gJ,S1.drew⟩
 refine tkT 1 ?_;refine tkT 2 ?_;refine rT2 0 7 (λK hK=>?_) λK hK=>?_
 .revert K hK;refine kJ ?_;intro wA gm hD kB ak;refine rT2 3 7 (λK hK=>?_) λK hK=>?_
  .have hl:=gE underlying319 underlying9 hD F0 dq;go_simp;refine hK _ _ ⟨ak.1,ak.2⟩ (λak=>?_);clear hK K;refine sp ?_;refine tkT 4 ?_;refine tkT 5 ?_;refine tkT 6 ?_;refine rdT 7 λK hK=>?_;go_simp;have jH:=ak;replace hD:=aD (x:=lA) hD;have mw:(wA.alloc lA).heap[wA.heap.size]?=some lA:=ao;refine hK _ _ ⟨aD ak.1,ak.2.alloc _⟩ (λak=>?_);clear hK K;refine sp ?_;exact EH
  .go_simp;have jH:=ak;replace hD:=aD (x:=lA) hD;have mw:(wA.alloc lA).heap[wA.heap.size]?=some lA:=ao;refine hK _ _ ⟨aD ak.1,ak.2.alloc _⟩ (λak=>?_);revert K hK;refine FZ ?_;intro hl ak;exact EH
 .go_simp;have h6:((w1.alloc (cO #[t.k,t.t,x1,y1] 187)).alloc lA).drew.heap[w1.heap.size+1]?=some lA:=(show((w1.alloc (cO #[t.k,t.t,x1,y1] 187)).alloc lA).heap[w1.heap.size+1]?=some lA by rw[heap_alloc,aI ai])
  refine hK _ _ ⟨aD ak.1,ak.2.alloc _⟩ (λak=>?_);clear hK K;refine sp ?_;refine rdT 0 λK hK=>?_;go_simp;refine(QJ _).mono ?_;rintro e wA ⟨gm,rfl,hD,kB⟩;dsimp only;have mw:=aJ h6 kB;obtain⟨sN,sO,tF,tG,-⟩:=cc (W:=wA) (b:=w1.heap.size+1) mw;have sP:∀j,wA.frozen? ⟨w1.heap.size+1,j,none⟩=false:=al mw;refine hK _ _ ⟨aJ ak.1 kB,ak.2.no kB⟩ (λak=>?_);revert K hK;refine FZ ?_;intro hl ak;refine rdT 8 λK hK=>?_;go_simp;refine hK _ _ ⟨fw ak.1 ab (iV 0) (.string ⟨#[]⟩) (iV 0) (sV none 0 0),ak.2.EB iJ (iV 0) (.string ⟨#[]⟩) (iV 0) (sV none 0 0)⟩ (λak=>?_);revert K hK;refine kH ?_;intro g6 jQ oO;refine dh (λV=>V.heap[w1.heap.size]?=some (cO #[t.k,t.t,x1,y1] 187)/\St C w (t::r) lA V/\V.heap[g6]?=some (.cells #[oZ,eS,oZ,nS] 181 (0,0))) ⟨ak.1,ak.2,by rw[jQ];exact(eI mw (iV 0) (.string ⟨#[]⟩) (iV 0) (sV none 0 0))⟩ ?_;rw[<-jQ];clear ak hD kB hl jQ mw h6 sN sP sO tF tG;exact JL
def ad1{f:Nat}(ih:gS f){C:Ctx}{w:YC}{t:aF}{r:Zi}(ht:t.t=tx "(") (hk:t.k=5) {x:Row} {r1 r2:Zi} (hx:cj f 0 r=some (x,r1)) (xA:cK ")" r1=some r2)(h:PS C w (t::r)):Calls prog 345 #[pP C] w (cd C x r2 w):=by
 have eF:=h.shp;have dQ:=mP h;change bW t.t at dQ;have hw:=ah h.bd;have sE:=pC;have S0:=ah (St.start h lA);have k4:((t.k:Int)==4)=false:=dJ;have k1:((t.k:Int)==1)=false:=dJ;have k3:((t.k:Int)==3)=false:=dJ;have hip:aO "(" (t::r)=true:=by rw[Og];change((t.k==3||t.k==5)&&t.t==tx "(")=true;rw[ht,hk];rfl
 revert hk hx xA h eF dQ hip;refine Wy ?_;intro hk hx xA h eF dQ hip;refine pF ?_;intro bC bX cU dz w1 x1 y1 P1 K1 n fZ asf ash tj hn nz d1 S1 gJ e1 iC rY Bj;replace ht:=ah ht;go_wp2_with fail;refine(oy S1.ps "(" hip).mono ?_;rintro e w2 ⟨rfl,P2,K2⟩;have S2:=ah (S1.aB P2 K2);go_wp2_with fail;refine(iR ih hx S2.ps).mono ?_;rintro e w4 ⟨⟨v,rfl,ky,ny,my,rX,ay,ly,cy,rfl,rfl,qZ⟩,P4,K4⟩;have hly:=ah S2.out.lt;have eo:=ah S2.out.pw;have Zo:=K4.size;have I6:=(S2.aB P4 K4).lt;have S5:=(S2.aB P4 K4).alloc (cO #[ky,ny,my,sV ay ly cy] 181);revert qZ S5;refine Cc ?_;intro tH S5 h9 qZ;replace I6:=ah I6;go_wp2_with fail;refine(fj S5.ps ")" xA).mono ?_;rintro e w5 ⟨rfl,P5,K5⟩;have S6:=S5.aB P5 K5;have IL:=cu h9 K5 pc;have Rx:=qZ.kept K5 fT;obtain⟨b0,b1,b2,b3,-⟩:=cc (W:=w5) (b:=w) S6.box;have f0:∀j,w5.frozen? ⟨w,j,none⟩=false:=al S6.box;obtain⟨sN,sO,tF,tG,-⟩:=cc (W:=w5) (b:=w4) IL;have sP:∀j,w5.frozen? ⟨w4,j,none⟩=false:=al IL;replace qZ:=ah Rx;replace S5:=ah S6;go_wp2;refine bG (v:=.agg #[ky,ny,my,sV ay ly cy]) eU rfl ?_;exact S5.fin qZ hly ky ny my
def XF(h:shape t.t=some t.k)(ht:t.t=s)(hs:shape s=some n):t.k=n:=by rw[ht,hs] at h;exact(j6 h).symm
def ahM{f:Nat}(hV:dT)(iha:Jm f)(ihc:Jl f)(xf:gS f):XA (f+1):=by
 intro C w l r row h hp;simp only[fF,cF] at hp
 cases l with
 |nil=>cases hp
 |cons t l=>
 simp only at hp;have eF:=h.shp;split at hp
 .rename_i g;cases hp;exact adZ hV dR h
 split at hp
 .rename_i g;obtain⟨⟨x,r1⟩,hx,h2⟩:=aw.1 hp
  cases h2;exact aby iha dR hx h
 split at hp
 .rename_i g;cases hp;have ht:=lM g;exact abz ht (XF eF ht aj) h
 split at hp
 .rename_i g;cases hp;have ht:=lM g;exact XE ht (XF eF ht aj) h
 split at hp
 .rename_i g;cases hp;have ht:=lM g;exact abA ht (XF eF ht aj) h
 split at hp
 .rename_i g;cases hp;have ht:=lM g;exact Sj ht (XF eF ht aj) h
 split at hp
 .rename_i g;cases hp;have ht:=lM g;exact UN ht (XF eF ht aj) h
 split at hp
 .rename_i g;obtain⟨⟨x,r1⟩,hx,h2⟩:=aw.1 hp;obtain⟨r2,hm,h3⟩:=aw.1 h2
  cases h3;have ht:=lM g;exact ad1 xf ht (XF eF ht aj) hx hm h
 split at hp
 .rename_i g;obtain⟨⟨x,r1⟩,hx,h2⟩:=aw.1 hp;obtain⟨⟨y,r2⟩,hy,h3⟩:=aw.1 h2;obtain⟨r3,hm,h4⟩:=aw.1 h3;obtain⟨⟨nm,r4⟩,hn,h5⟩:=aw.1 h4
  cases h5;have ht:=lM g;exact ad0 ihc ht (XF eF ht aj) hx hy hm hn h
 cases hp
def opB(n:Nat)(l:Zi):ByteArray:=match PM n l with|some s=>bs s|none=>⟨#[]⟩
def ajH{w:YC}(h:PS C w l)(n:Nat):
  Calls prog 312 #[pP C,iV n] w λe w'=>e=.returned (.string (opB n l))/\PS C w' l/\Kept (ch C) w w':=am0 h n
def UO(h:PM n l=some s):opB n l=bs s:=by unfold opB;rw[h]
def UP(h:PM n l=none):opB n l=⟨#[]⟩:=by unfold opB;rw[h]
def Sk{f:Nat}(ih:gS f){C:Ctx}{w:YC}{n:Nat}{m:Int}{l r:Zi}{row:Row}(hm:m=(n:Int))(h:PS C w l)(hp:cj f n l=some (row,r)):Calls prog 279 #[pP C,iV m] w (cd C row r w):=by subst hm;exact ih C w n l r row h hp
def UQ{f:Nat}(ih:rO f){C:Ctx}{w:YC}{l r:Zi}{x:Row}(h:PS C w l)(hx:jK f l=some (x,r)):Calls prog 279 #[pP C,iV 6] w (cd C x r w):=by have S0:=ah (St.start h lA);replace hx:=ah hx;go_enter func279,ntmps279;go_wp2_with fail;refine(ih C _ _ _ _ S0.ps hx).mono ?_;rintro e w2 ⟨⟨v,rfl,k,nm,n,kids,a,m,c,rfl,rfl,hv⟩,P2,K2⟩;have S1:=S0.aB P2 K2;obtain⟨b0,b1,b2,b3,-⟩:=cc (W:=w2) (b:=w) S1.box;have f0:∀j,w2.frozen? ⟨w,j,none⟩=false:=al S1.box;have bQ:=ah S0.out.lt;revert hv S1;refine ct ?_;intro hv S1;go_wp2;refine bG (v:=.agg #[k,nm,n,sV a m c]) yg rfl ?_;exact S1.fin hv bQ k nm n
def XG(C:Ctx)(w:YC)(g5 F n:Nat)(row:Row)(r:Zi)(gg:Nat)(s6:YE)(wr:YC):Prop:=
 ∃(f:Nat) (rc:Zi) (xk:Int) (xn:Yz) (xm:Int) (kids:Zg) (xa:YS) (xl xc:Nat),St C w rc lA wr/\wr.heap[g5]?=some (.cells #[xk,xn,xm,sV xa xl xc] 181 (0,0))/\
  an (λb=>w.heap.size < b/\b≠g5) wr (.sl kids) (sV xa xl xc)/\s6=.string (opB n rc)/\rM f n [xk,xn,xm,kids] rc=some (row,r)/\f<=F/\f<=gg
def UR{op:Yz}(h:PM n l=some op):∃t r,l=t::r/\op=t.t/\t.t≠[]:=by
 cases l with
 |nil=>cases h
 |cons t r=>
  simp only[PM] at h;split at h
  .rename_i hc
   cases h;refine⟨t,r,rfl,rfl,λe=>?_⟩;rw[e] at hc;simp at hc;exact absurd hc.2 (by show Bq []≠some n;rw[show Bq []=none from by decide];simp)
  .cases h
def LD(h:s≠[]):(bs s).toList.isEmpty=false:=by
 rw[dW]
 cases s with
 |nil=>exact absurd rfl h
 |cons c s=>rfl
def XH{F:Nat}(ih:∀f,f < F->gS f){C:Ctx}{w:YC}{l r r1:Zi}{row x:Row}{n:Nat}(hn6:n < 6)(h:PS C w l)(iF:cj F (n+1) l=some (x,r1))(ihF:gS F)(ir:rM F n x r1=some (row,r)):Calls prog 279 #[pP C,iV n] w (cd C row r w):=by
 have k6:((n:Int)==6)=false:=cX;have nz:(0:Int)<=(n:Int):=ab;have hn7:(n:Int)<=100:=ab;have S0:=ah (St.start h lA);revert iF ir;refine ct ?_;intro iF ir;clear h;go_enter func279,ntmps279;go_wp2_with fail;refine(Sk ihF ab S0.ps iF).mono ?_;rintro e w1 ⟨⟨v,rfl,xk,xn,xm,kids,xa,xl,xc,rfl,rfl,hv⟩,P1,K1⟩;have S1:=S0.aB P1 K1;have bQ:=S0.lt;have iC:=S1.lt;have S2:=S1.alloc (cO #[xk,xn,xm,sV xa xl xc] 181);have h5:(w1.alloc (.cells #[xk,xn,xm,.slice xa xl xc] 181)).heap[w1.heap.size]?=some (.cells #[xk,xn,xm,.slice xa xl xc] 181):=ao;have jo:=(hv.kept (F:=aK) ((Kept.refl _ w1).alloc (cO #[xk,xn,xm,sV xa xl xc] 181)) (λ_ _ _ e=>e))
 have FJ:an (λb=>w.heap.size < b/\b≠w1.heap.size) (w1.alloc (cO #[xk,xn,xm,sV xa xl xc] 181)) (.sl kids) (sV xa xl xc):=hv.keep (λb hb hl=>⟨by omega,by omega⟩) ai λb _ hl=>jm _ _ _ hl;revert S2 h5 FJ;refine jk ?_;intro S2 h5 FJ;replace bQ:=ah iC;clear hv jo iC;go_wp2_with fail;refine bY (ajH S2.ps n) λw2 P2 K2=>?_;obtain⟨g5,ik⟩:∃g5,g5=w1.heap.size:=⟨_,rfl⟩
 have hrel:Hid (XG C w g5 F n row r F (.string (opB n r1)) w2):=
  Lib.hid ⟨F,r1,xk,xn,xm,kids,xa,xl,xc,S2.out.aB P2 K2,ik▸cu h5.out K2 (by have:=S2.pw;have:=bQ.out;omega),ik▸FJ.kept K2 (λb hb _ e=>by have:=S2.pw;unfold ch at e;omega),rfl,ir,Nat.le_refl _,Nat.le_refl _⟩
 have UF:w.heap.size < g5:=ik▸bQ;have eo:=ah S2.out.pw;replace UF:=ah UF;clear h5 FJ bQ;go_wp2_with fail;rw[<-ik];clear ik;go_loopg [6] F (λgg s6 wr=>XG C w g5 F n row r gg s6 wr)
 case atStart=>exact hrel
 case round=>
  obtain⟨f,rc,xk,xn,xm,kids,xa,xl,xc,SS,h5,oP,rfl,hm,gT,hfg⟩:=hrel
  cases f with
  |zero=>cases hm
  |succ f=>
  simp only[rM] at hm
  cases o7:PM n rc with
  |none=>
   rw[o7] at hm
   cases hm;rw[UP o7];obtain⟨b0,b1,b2,b3,-⟩:=cc (W:=wr) (b:=w) SS.box;have f0:∀j,wr.frozen? ⟨w,j,none⟩=false:=al SS.box;obtain⟨sN,sO,tF,tG,-⟩:=cc (W:=wr) (b:=g5) h5;have sP:∀j,wr.frozen? ⟨g5,j,none⟩=false:=al h5;revert h5 oP SS;refine jk ?_;intro h5 oP SS;clear hrel gT hfg o7;go_wp2;refine bG (v:=.agg #[xk,xn,xm,sV xa xl xc]) yg rfl ?_;exact SS.fin (B:=w.heap.size+1) (oP.mono λb hb _=>hb.1) (j4 _) xk xn xm
  |some op=>
   rw[o7] at hm;obtain⟨t,rt,rfl,rfl,apM⟩:=UR o7;have cR:=LD apM;rw[UO o7];have tj:=SS.ps.len;obtain⟨n2,e2,_,cp2⟩:=SS.ps.c1;have fp2:=SS.ps.fr 1;have Pt:(n2:Int)<=10000:=ab;have Pu:(0:Int)<=n2:=ab;have S3:=SS.TT e2 rfl;have h53:(wr.setCell ⟨C.p,1,none⟩ (iV ((n2:Int)+1))).heap[g5]?=some (cO #[xk,xn,xm,sV xa xl xc] 181):=(ll _ _ _ _ (by have:=SS.pw;have:=UF.out;simp;omega)).trans h5;have sX:=oP.kept (w':=wr.setCell ⟨C.p,1,none⟩ (iV ((n2:Int)+1))) (F:=ch C) ((Kept.refl _ wr).setCell (p:=⟨C.p,1,none⟩) (λ_=>show ch C C.p from rfl) _) ed;revert S3 h53;refine ct ?_;intro S3 h53;replace oP:=ah sX;revert gT hfg;refine ct ?_;intro gT hfg;clear hrel o7 SS h5 sX e2 tj;simp only[aut,cF] at hm;obtain⟨⟨y,r3⟩,lX,cg⟩:=aw.1 hm;by_cases c0:n=0
   .replace c0:=ah c0;have k0:((n:Int)==0)=true:=wD;rw[aI wD] at lX;rw[aI wD] at cg;replace lX:=ah lX
    cases cg;clear hm;go_wp2_with fail;refine wpLive 6 (λV=>V.heap[g5]?=some (cO #[xk,xn,xm,sV xa xl xc] 181)) (λV s=>And.intro (bc s 0) (And.intro (bc s 1) (And.intro (bc s 2) (bc s 3)))) ?_ λFF ak=>?_
    .exact h53
    refine tkT 0 ?_;refine tkT 1 ?_;refine tkT 2 ?_;refine tkT 3 ?_;refine rdT 4 λK hK=>?_;go_simp;refine(Sk (n:=0) (ih f bT) (by have:=c0.out;omega) S3.drew.ps lX).mono ?_;rintro e w4 ⟨⟨v,rfl,yk,yn,ym,rX,ya,yl,yc,rfl,rfl,qZ⟩,P4,K4⟩;dsimp only;have S4:=S3.drew.aB P4 K4;have dM:=K4.size;have am1:=(aQ.1 ak).1;have eX:jN (λb=>w.heap.size < b/\b≠g5) w4 [xk,xn,xm,kids] (.agg #[xk,xn,xm,sV xa xl xc]):=⟨_,_,_,_,_,_,_,rfl,rfl,oP.kept (w':=w4) (F:=ch C) ((Kept.refl _ _).drew.trans' K4) ed⟩
    have eY:jN (λb=>w.heap.size < b/\b≠g5) w4 [yk,yn,ym,rX] (.agg #[yk,yn,ym,sV ya yl yc]):=⟨_,_,_,_,_,_,_,rfl,rfl,qZ.mono sw⟩
    revert S4 eX eY;refine jk ?_;intro S4 eX eY;refine hK _ _ (cu ak K4 pZ) (λak=>?_);clear hK K;refine sp ?_;refine rdT 5 λK hK=>?_;go_simp;refine(Sh t.t eX eY).mono ?_;rintro e w5 ⟨⟨v,rfl,zk,zn,zm,am2,za,zl,zc,hzr,rfl,asl⟩,K5⟩;dsimp only
    cases hzr;have S5:=S4.no K5;have ar6:=aJ ak K5;obtain⟨b0,b1,b2,b3,-⟩:=cc (W:=w5) (b:=w) S5.box;have f0:∀j,w5.frozen? ⟨w,j,none⟩=false:=al S5.box;obtain⟨sN,sO,tF,tG,-⟩:=cc (W:=w5) (b:=g5) ar6;have sP:∀j,w5.frozen? ⟨g5,j,none⟩=false:=al ar6;have abq:an (λb=>w.heap.size < b/\b≠g5) w5 (.sl _) (sV za zl zc):=asl.mono (λb hb _=>hb.elim (λhb=>hb) Aw);replace S5:=ah S5;replace asl:=ah abq;have h5h:=ah ar6;refine hK _ _ (ar6) (λak=>?_);clear hK K;refine sp ?_;refine ddT 6 λK hK=>?_;exact Dk
   .by_cases c3:n=3
    .replace c3:=ah c3;replace c0:=ah c0;have k0:((n:Int)==0)=false:=Hq;have k3:((n:Int)==3)=true:=by rw[c3.out];rfl
     rw[aE (by simpa using c0.out)] at lX;rw[aI (by rw[c3.out];rfl)] at cg;replace lX:=ah lX
     cases cg;clear hm;go_wp2_with fail;refine wpLive 7 (λV=>V.heap[g5]?=some (cO #[xk,xn,xm,sV xa xl xc] 181)) (λV s=>And.intro (bc s 0) (And.intro (bc s 1) (And.intro (bc s 2) (bc s 3)))) ?_ λFF ak=>?_
     .exact h53
     refine tkT 0 ?_;refine tkT 1 ?_;refine tkT 2 ?_;refine tkT 3 ?_;refine tkT 4 ?_;refine rdT 5 λK hK=>?_;go_simp;refine(Sk (n:=n+1) (ih f bT) HA S3.drew.ps lX).mono ?_;rintro e w4 ⟨⟨v,rfl,yk,yn,ym,rX,ya,yl,yc,rfl,rfl,qZ⟩,P4,K4⟩;dsimp only;have S4:=S3.drew.aB P4 K4;have dM:=K4.size;have am1:=(aQ.1 ak).1;have eX:jN (λb=>w.heap.size < b/\b≠g5) w4 [xk,xn,xm,kids] (.agg #[xk,xn,xm,sV xa xl xc]):=⟨_,_,_,_,_,_,_,rfl,rfl,oP.kept (w':=w4) (F:=ch C) ((Kept.refl _ _).drew.trans' K4) ed⟩
     have eY:jN (λb=>w.heap.size < b/\b≠g5) w4 [yk,yn,ym,rX] (.agg #[yk,yn,ym,sV ya yl yc]):=⟨_,_,_,_,_,_,_,rfl,rfl,qZ.mono sw⟩
     revert S4 eX eY;refine jk ?_;intro S4 eX eY;refine hK _ _ (cu ak K4 pZ) (λak=>?_);clear hK K;refine sp ?_;refine rdT 6 λK hK=>?_;go_simp;refine(Sh t.t eX eY).mono ?_;rintro e w5 ⟨⟨v,rfl,zk,zn,zm,am2,za,zl,zc,hzr,rfl,asl⟩,K5⟩;dsimp only
     cases hzr;revert K hK asl;refine FM ?_;intro ar6 b0 b1 b2 b3 f0 sN sO tF tG sP abq S5 asl h5h ak K hK;exact Dk
    .replace c3:=ah c3;replace c0:=ah c0;have k0:((n:Int)==0)=false:=Hq;have k3:((n:Int)==3)=false:=by rw[gH];have:=c3.out;omega
     rw[aE (by simpa using c0.out)] at lX;rw[aE (by simpa using And.intro c0.out c3.out)] at cg;revert lX cg;refine ct ?_;intro lX cg;clear hm;go_wp2_with fail;refine wpLive 7 (λV=>V.heap[g5]?=some (cO #[xk,xn,xm,sV xa xl xc] 181)) (λV s=>And.intro (bc s 0) (And.intro (bc s 1) (And.intro (bc s 2) (bc s 3)))) ?_ λFF ak=>?_
     .exact h53
     refine tkT 0 ?_;refine tkT 1 ?_;refine tkT 2 ?_;refine tkT 3 ?_;refine tkT 4 ?_;refine rdT 5 λK hK=>?_;go_simp;refine(Sk (n:=n+1) (ih f bT) HA S3.drew.ps lX).mono ?_;rintro e w4 ⟨⟨v,rfl,yk,yn,ym,rX,ya,yl,yc,rfl,rfl,qZ⟩,P4,K4⟩;dsimp only;have S4:=S3.drew.aB P4 K4;have dM:=K4.size;have am1:=(aQ.1 ak).1;have eX:jN (λb=>w.heap.size < b/\b≠g5) w4 [xk,xn,xm,kids] (.agg #[xk,xn,xm,sV xa xl xc]):=⟨_,_,_,_,_,_,_,rfl,rfl,oP.kept (w':=w4) (F:=ch C) ((Kept.refl _ _).drew.trans' K4) ed⟩
     have eY:jN (λb=>w.heap.size < b/\b≠g5) w4 [yk,yn,ym,rX] (.agg #[yk,yn,ym,sV ya yl yc]):=⟨_,_,_,_,_,_,_,rfl,rfl,qZ.mono sw⟩
     revert S4 eX eY;refine jk ?_;intro S4 eX eY;refine hK _ _ (cu ak K4 pZ) (λak=>?_);clear hK K;refine sp ?_;refine rdT 6 λK hK=>?_;go_simp;refine(Sh t.t eX eY).mono ?_;rintro e w5 ⟨⟨v,rfl,zk,zn,zm,am2,za,zl,zc,hzr,rfl,asl⟩,K5⟩;dsimp only
     cases hzr;revert K hK asl;refine FM ?_;intro ar6 b0 b1 b2 b3 f0 sN sO tF tG sP abq S5 asl h5h ak K hK;revert K hK;refine j9 ?_;go_wp2_with fail;refine bY (ajH (S5.EB UF _ _ _ _).ps n) λw6 P6 K6=>?_;have hrel:Hid (XG C w g5 F n row r f (.string (opB n r3)) w6):=
      ah ⟨f,r3,7,t.t,0,_,za,zl,zc,(S5.EB UF _ _ _ _).aB P6 K6,cu (eI h5h _ _ _ _) K6 pZ,
       (asl.kept (cG w5 g5 _ _ _ _) (λb hb _ e=>hb.2 e)).kept K6 ed,rfl,cg,by have:=gT.out;omega,aM _⟩
     exact EC
def LF:∀(f n:Nat) (l:Zi),6 < n->cj f n l=none
 |0,_,_,_=>by simp only[cj]
 |f+1,n,l,h=>by
  simp only[cj,cF];rw[aE aH,LF f (n+1) l ab];rfl
def ad2{F:Nat}(ih:∀f,f < F+1->gS f)(ihf:rO F):gS (F+1):=by
 intro C w n l r row h hp;simp only[cj,cF] at hp;split at hp
 .rename_i g;have:n=6:=dR;subst this;exact UQ ihf h hp
 .rename_i g;obtain⟨⟨x,r1⟩,hx,h2⟩:=aw.1 hp;have g6:n≠6:=dR;by_cases hn:n < 6
  .exact XH (λf hf=>ih f ab) hn h hx (ih F (j4 F)) h2
  .exact absurd (LF F (n+1) l ab) (by rw[hx];simp)
def RP(C:Ctx)(w:YC)(g3 F:Nat)(row:Row)(r:Zi)(gg:Nat)(wr:YC):Prop:=
 ∃(f:Nat) (rc:Zi) (xk:Int) (xn:Yz) (xm:Int) (kids:Zg) (xa:YS) (xl xc:Nat),St C w rc lA wr/\wr.heap[g3]?=some (.cells #[xk,xn,xm,sV xa xl xc] 181 (0,0))/\
  an (λb=>w.heap.size < b/\b≠g3) wr (.sl kids) (sV xa xl xc)/\xj f [xk,xn,xm,kids] rc=some (row,r)/\f<=F/\f<=gg
def ahN{F:Nat}(ih:∀f,f < F->Jm f)(ihp:XA F)(dx:F<=6000)(hal:∀f l rows r,o5 f l=some (rows,r)->rows.length<=f):Jl F:=by
 intro C w l r r1 row x h Uy IP;obtain⟨i,hi,hz,cL,dY⟩:=dN Ia;have S0:=ah (St.start h lA);revert hal Uy IP hi hz cL dY;refine Wy ?_;intro hal Uy IP hi hz cL dY;go_enter func333,ntmps333;go_wp2_with fail;refine(ihp C _ _ _ _ S0.ps Uy).mono ?_;revert x Uy IP;refine FI ?_;intro w1 xk xn xm kids xa xl xc Uy IP hv P1 K1 S1 bQ iC S2 h5 FJ ph bC bX g3 hrel Bk M7;go_loopg [] F (λgg wr=>RP C w g3 F row r gg wr)
 case atStart=>exact hrel
 case round=>
  obtain⟨f,rc,xk,xn,xm,kids,xa,xl,xc,SS,h3,oP,hm,gT,hfg⟩:=hrel
  cases f with
  |zero=>cases hm
  |succ f=>
  simp only[xj,cF] at hm;by_cases hc:aO "." rc=true
  .rw[aI hc] at hm;obtain⟨⟨nm,ra⟩,hn,cg⟩:=aw.1 hm;obtain⟨⟨ags,r2⟩,ha,fy⟩:=aw.1 cg;have ahH:=hal _ _ _ _ ha;replace ahH:Hid (ags.length<=6000):=ah ab;revert hc hn ha;refine jk ?_;intro hc hn ha;replace hm:=ah fy;revert SS h3 oP gT hfg;refine nx ?_;intro SS h3 oP gT hfg;go_wp2_with fail;refine bY (oy SS.ps "." hc) λw2 P2 K2=>?_;have S2:=ah (SS.aB P2 K2);replace K2:=ah K2;go_wp2_with fail;refine bY (qG S2.ps hn) λw3 P3 K3=>?_;revert h3 oP;refine FU ?_;intro S3 h33 sX Xi h3 oP FF ak;refine rT2 2 4 (λK hK=>?_) λK hK=>?_
   .refine Gd ?_;intro ahl ak K hK;refine(ih f bT C _ _ _ _ ((S3.alloc (cO #[xk,xn,xm,sV xa xl xc] 181)).drew).ps ha).mono ?_;exact Cv
   .go_simp;refine(ih f bT C _ _ _ _ (S3.drew).ps ha).mono ?_;exact Cp
  .rw[aE hc] at hm
   cases hm;simp only[gI] at hc;revert h3 oP SS hc;refine jU ?_;intro h3 oP SS hc;go_wp2_with fail;refine bY (ew SS.ps "." hc) λw2 P2 K2=>?_;revert oP;refine F4 ?_;intro h33 sX b0 b1 b2 b3 f0 sN sO tF tG sP S2 oP;refine bG (v:=.agg #[xk,xn,xm,sV xa xl xc]) (by simp[results,results333,go_sem,b0,b1,b2,b3]) rfl ?_;exact D5
def Oi:∀(f:Nat) (l:Zi) (rows:Zg) (r:Zi),yO f l=some (rows,r)->rows.length<=f
 |0,l,rows,r,h=>by simp[yO] at h
 |f+1,l,rows,r,h=>by
  rw[oI] at h;obtain⟨⟨x,r1⟩,_,h2⟩:=aw.1 h;obtain⟨⟨xs,r2⟩,h3,h4⟩:=aw.1 h2
  cases h4;unfold LA at h3;split at h3
  .have:=Oi f _ _ _ h3;simp;omega
  .cases h3;simp
def QN:∀(f:Nat) (l:Zi) (rows:Zg) (r:Zi),o5 f l=some (rows,r)->rows.length<=f
 |0,l,rows,r,h=>by simp[o5] at h
 |f+1,l,rows,r,h=>by
  simp only[o5,cF] at h;split at h
  .obtain⟨⟨x,r1⟩,h1,h2⟩:=aw.1 h;obtain⟨r2,_,h3⟩:=aw.1 h2
   cases h3;have:=Oi f _ _ _ h1;simp only at this|-;omega
  .cases h;simp
def am3(F:Nat):Prop:=gS F/\rO F/\Jl F/\XA F/\Jm F
def ad3(hV:dT):∀F:Nat,F<=6000->∀f,f<=F->am3 f:=by
 intro F;induction F with
 |zero=>intro _ f hf;have:f=0:=ab;subst this;exact⟨λC w n l r row h hp=>by simp[cj] at hp,λC w l r row h hp=>by simp[jK] at hp,λC w l r r1 row x h hp=>by simp[fF] at hp,λC w l r row h hp=>by simp[fF] at hp,λC w l r rows h hp=>by simp[o5] at hp⟩
 |succ F ih=>refine vC ?_;intro hF IH hf he;obtain⟨i1,i2,i3,i4,i5⟩:=IH F (aM F);have a:=ahL (f:=F) (λf' hf'=>(IH f' ab).1) ab;have p:=ahM hV i5 i3 i1;exact⟨ad2 (λf' hf'=>(IH f' ab).1) i2,adY i2 i3,ahN (λf' hf'=>(IH f' ab).2.2.2.2) p hF QN,p,a⟩
structure Sg (C:Ctx) (w:YC) (l:Zi) (V:YC):Prop where
 ps:PS C V l
 kp:Kept (ch C) w V
 bd:C.Bd<=w.heap.size
namespace Sg
variable {C:Ctx}{w V V':YC}{l r:Zi}{F:Nat -> Prop}
def start(h:PS C w l):Sg C w l w:=⟨h,Kept.refl _ w,h.bd⟩
def le(h:Sg C w l V):w.heap.size<=V.heap.size:=h.kp.size
def pw(h:Sg C w l V):C.p < w.heap.size:=by have:=h.ps.pb;have:=h.bd;omega
def aB(h:Sg C w l V)(hp:PS C V' r)(hk:Kept (ch C) V V'):Sg C w r V':=⟨hp,h.kp.trans' hk,h.bd⟩
def step(h:Sg C w l V)(hk:Kept F V V')(hF:∀b,F b->b < V.heap.size->w.heap.size<=b):Sg C w l V':=
 ⟨(h.ps.kept (Mu hk) su),h.kp.trans hk (λb hb e=>by have:=hF b e (by have:=h.le;omega);omega),h.bd⟩
def no(h:Sg C w l V)(hk:Kept aK V V'):Sg C w l V':=h.step hk λ_ e=>e.elim
def alloc(h:Sg C w l V)(x:Obj):Sg C w l (V.alloc x):=h.no ((Kept.refl _ V).alloc x)
def drew(h:Sg C w l V):Sg C w l V.drew:=h.no (Kept.refl _ V).drew
end Sg
def au(bx o:Nat)(v:YE):Kept (λk=>k=bx) W (W.setCell ⟨bx,o,none⟩ v):=(Kept.refl (λk=>k=bx) W).setCell (p:=⟨bx,o,none⟩) (λ_=>show bx=bx from rfl) _
abbrev ajI(W:YC)(bx:Nat)(a b c d:YE):World:=(((W.setCell ⟨bx,1,none⟩ a).setCell ⟨bx,2,none⟩ b).setCell ⟨bx,3,none⟩ c).setCell ⟨bx,4,none⟩ d
def NR(W:YC)(bx:Nat)(a b c d:YE):Kept (λk=>k=bx) W (ajI W bx a b c d):=
 (((au bx 1 a).trans' (au bx 2 b)).trans' (au bx 3 c)).trans' (au bx 4 d)
def Xr{c0 c1 c2 c3 c4:YE}{T:UB}(h:W.heap[bx]?=some (.cells #[c0,c1,c2,c3,c4] T (0,0)))(a b c d:YE):(ajI W bx a b c d).heap[bx]?=some (.cells #[c0,a,b,c,d] T (0,0)):=by have h1:=heap_setCell_same W bx 1 a h;have h2:=heap_setCell_same _ bx 2 b h1;have h3:=heap_setCell_same _ bx 3 c h2;exact heap_setCell_same _ bx 4 d h3
open Go.Proofs.Tryz
open Go.RowKit Go.Maps
open Go.Proofs.Bm
def gW{w:YC}(h:an S w (.sl (strs fs)) v)(fx:∀s∈fs,bW s)(s:Yz)(hs:bW s):Calls prog 62 #[v,.string (bs s)] w λe w'=>e=.returned (.bool (fs.contains s))/\w'=w:=by
 generalize ht:T.sl (strs fs)=t at h
 cases h with
 |int n=>cases ht
 |str n=>cases ht
 |bool n=>cases ht
 |nil=>
  injection ht with ht;have:fs=[]:=by simpa[strs] using ht
  subst this;exact(Tryz.slices_Contains_string_empty _ _ _ _).mono λ_ _ ⟨h1,h2⟩=>⟨by simpa using h1,h2⟩
 |sl rows g off cap wd c hS hg oG hm hw hc hv=>
  injection ht with ht;subst ht;have hl:(strs fs).length=(fs.map bs).length:=bR;rw[hl];have LZ:∀(j:Nat) (s':Yz),fs[j]?=some s'->(strs fs)[j]?=some [T.str s']:=λj s' e=>by simp[strs,e]
  refine(Tryz.slices_Contains_string g off _ cap (fs.map bs) (bs s) w (aM _) (by have:maxLen<=9223372036854775807:=aj;omega) (λj hj=>?_)).mono λ_ _ ⟨h1,h2⟩=>⟨?_,h2⟩
  .exact Df
  .rw[h1,qB];congr 2
   rw[sM,Lib.containsS_iff];simp only[dO,MK];constructor
   .rintro⟨a,ha,e⟩;rwa[<-Jh (fx a ha) hs e]
   .intro h;exact⟨s,h,rfl⟩
def ahn{w:YC}(h:PS C w l)(s:TC){b:YR}(hb:b=bs (tx s):=by rfl)(hs:((tx s).all λc=>decide (c < 256))=true:=by decide):
  Calls prog 169 #[pP C,.string b] w λe w'=>e=.returned (.bool (aO (tx s) l))/\PS C w' (if aO (tx s) l then l.tail else l)/\Kept (ch C) w w':=by
 cases hi:aO (tx s) l
 .exact ew h s hi hb hs
 .exact oy h s hi hb hs
def Mq{k:Nat}{r:Zi}(h:word k l=some (s,r)):(aZ l).k=k/\(aZ l).t=s/\l=aZ l::r:=by
 cases l with
 |nil=>cases h
 |cons t l=>
  simp only[word] at h;split at h
  .rename_i hk
   cases h;exact⟨by show t.k=k;simpa using hk,rfl,rfl⟩
  .cases h
def PS.ok{w:YC}{r:Zi}(h:PS C w (t::r)):bW t.t:=by obtain⟨n,a,b,e1,e2,e3,h1,_⟩:=h.tok (k:=0) rfl;exact h1
def am4{w:YC}{r:Zi}{k:Nat}(h:PS C w l)(hx:word k l=some (s,r)):Calls prog 226 #[pP C,iV k] w λe w'=>e=.returned (.string (bs s))/\PS C w' r/\Kept (ch C) w w':=by obtain⟨h1,h2,h3⟩:=Mq hx;rw[h3] at h;have:=Oc h (k:Int) (by rw[h1]);rwa[h2] at this
def am5(S:Wq)(w:YC)(row:Row)(v:YE):Prop:=
 ∃(k:Int) (nm:Yz) (xs:Zg) (vv ss:TG) (a:YS) (m c:Nat),row=[.int k,.str nm,.sl xs,.bool vv,.bool ss]/\v=.agg #[k,nm,sV a m c,vv,ss]/\an S w (.sl xs) (sV a m c)
def lY(C:Ctx)(row:Row)(r:Zi)(w:YC)(e:TP)(w':YC):Prop:=(∃v,e=.returned v/\am5 w w' row v)/\PS C w' r/\Kept (ch C) w w'
def akE(f:Nat):Prop:=∀(C:Ctx) (w:YC) (l r:Zi) (row:Row),(∀s∈C.fs,bW s)->PS C w l->mj C.fs f l=some (row,r)->Calls prog 229 #[pP C] w (lY C row r w)
def ov{w:YC}{r:Zi}(h:PS C w l)(hx:word 2 l=some (nm,r))(hc:an S w (.sl (strs fs)) v)(hS:∀b,S b->b≠C.p)(fx:∀s∈fs,bW s)(eK:fs.contains nm=false):Calls prog 171 #[pP C,v] w λe w'=>e=.returned (.string (bs nm))/\PS C w' r/\Kept (ch C) w w':=by
 obtain⟨hk,ht,hl⟩:=Mq hx;have bL:bW nm:=by rw[<-ht];rw[hl] at h;exact h.ok
 have hko:((aZ l).k:Int)=2:=dJ;replace hx:=ah hx;have h':=ah h;revert hc hS fx bL;refine jU ?_;intro hc hS fx bL;have eo:=ah (eP h);go_enter func171,ntmps171;go_wp2_with fail;refine(me h').mono ?_;rintro e w1 ⟨x1,y1,rfl,P1,K1⟩;rw[ht,hko];have P2:=ah (P1.alloc (cO #[iV 2,nm,x1,y1] 187));have K2:=ah (K1.alloc (cO #[iV 2,nm,x1,y1] 187));have hv:=ah ((hc.kept K1 (λb hb _ e=>hS b hb e)).kept (F:=aK) ((Kept.refl aK w1).alloc (cO #[iV 2,nm,x1,y1] 187)) (λ_ _ _ e=>e));go_wp2_with fail;refine(gW hv fx nm bL).mono ?_;rintro e w2 ⟨rfl,rfl⟩;rw[eK];go_wp2_with fail;refine(am4 P2 hx).mono ?_;rintro e w3 ⟨rfl,P3,K3⟩;replace P3:=ah P3;replace K3:=ah (K2.trans' K3);go_wp2;go_ret;exact⟨rfl,P3,K3⟩
def xW{w:YC}{arr:Zt}(p:Nat)(ha:arr.toList=fs.map (λs=>Value.string (bs s)):=by rfl)(hm:fs.length<=100:=by decide)(hp:p < w.heap.size:=by assumption){E:UB}:
  an (λb=>b≠p) (w.alloc (cO arr E)) (.sl (strs fs)) (sV w fs.length fs.length):=by
 have hl:fs.length=(strs fs).length:=bR;rw[hl];refine aW (E:=E) (fr:=(0,0)) (wd:=1) (css:=fs.map λs=>[.string (bs s)]) (arr:=arr) ao ?_ ?_ ab (aM _) (by have h1:(100:Nat)<=maxLen:=aj;omega)
 .rw[ha];clear ha hm hl;induction fs with
  |nil=>rfl
  |cons s fs ih=>simp[<-ih]
 .clear ha hm hl;exact ui
structure GB (C:Ctx) (w:YC) (l:Zi) (os:List Obj) (V:YC):Prop where
 sg:Sg C w l V
 lt:w.heap.size+os.length<=V.heap.size
 bx:∀(i:Nat) (o:Obj),os[i]?=some o->V.heap[w.heap.size+i]?=some o
namespace GB
variable {C:Ctx}{w V V':YC}{l r:Zi}{os:List Obj}{F:Nat -> Prop}
def start(h:PS C w l):GB C w l [] w:=⟨Sg.start h,aM _,by simp⟩
def ps(h:GB C w l os V):PS C V l:=h.sg.ps
def pw(h:GB C w l os V):C.p < w.heap.size:=h.sg.pw
def push(h:GB C w l os V)(o:Obj)(hz:V.heap.size=w.heap.size+os.length):GB C w l (os++[o]) (V.alloc o):=by
 refine⟨h.sg.alloc o,by simp;omega,λi o' hi=>?_⟩;rw[heap_alloc];rcases Nat.lt_or_ge i os.length with hl|hl
 .rw[rU hl] at hi;rw[aE ab];exact h.bx i o' hi
 .have:i=os.length:=by have:=(dk.1 hi).1;simp at this;omega
  subst this;simp at hi;subst hi;rw[aI ab]
def inb{i:Nat}{o:Obj}(h:os[i]?=some o):i < os.length:=(dk.1 h).1
def aB(h:GB C w l os V)(hp:PS C V' r)(hk:Kept (ch C) V V'):GB C w r os V':=
 ⟨h.sg.aB hp hk,Nat.le_trans h.lt hk.size,λi o hi=>(hk.block _ HE (λe=>by unfold ch at e;have:=h.pw;omega)).trans (h.bx i o hi)⟩
def step(h:GB C w l os V)(hk:Kept F V V')(hF:∀b,F b->b < V.heap.size->w.heap.size+os.length<=b):GB C w l os V':=
 ⟨h.sg.step hk λb e hb=>by have:=hF b e hb;omega,cn h.lt hk.size,λi o hi=>(hk.block _ HE (λe=>by have:=inb hi;have:=h.lt;have:=hF _ e ab;omega)).trans (h.bx i o hi)⟩
def no(h:GB C w l os V)(hk:Kept aK V V'):GB C w l os V':=h.step hk λ_ e=>e.elim
def alloc(h:GB C w l os V)(x:Obj):GB C w l os (V.alloc x):=h.no ((Kept.refl _ V).alloc x)
def drew(h:GB C w l os V):GB C w l os V.drew:=h.no (Kept.refl _ V).drew
def cellAt(h:GB C w l os V){i:Nat}{cs:Zt}{T:UB}(hi:os[i]?=some (.cells cs T (0,0)))(j:Nat):V.cell? ⟨w.heap.size+i,j,none⟩=cs[j]?:=aC (h.bx i _ hi) j
def set(h:GB C w l os V)(i j:Nat){cs:Zt}{T:UB}(hi:os[i]?=some (.cells cs T (0,0)))(v:YE):GB C w l (os.set i (cO (cs.setIfInBounds j v) T)) (V.setCell ⟨w.heap.size+i,j,none⟩ v):=by
 have hk:=au (W:=V) (w.heap.size+i) j v;refine⟨h.sg.step hk λb e _=>by omega,by rw[Bm.size_setCell];simpa using h.lt,λi' o hi'=>?_⟩;by_cases e:i=i'
 .subst e;rw[WZ (inb hi)] at hi'
  cases hi';exact heap_setCell_same V _ j v (h.bx i _ hi)
 .rw[List.getElem?_set_ne e] at hi';exact(hk.block _ (by have:=inb hi';have:=h.lt;omega) ab).trans (h.bx i' o hi')
def TT{t:aF}(h:GB C w (t::r) os V){n:Nat}{v:Int}(hn:n+(t::r).length=C.L.length)(hv:v=(n:Int)+1):GB C w r os (V.setCell ⟨C.p,1,none⟩ (iV v)):=by exact DD
def st(h:GB C w l os V)(i j:Nat)(v:YE){cs:Zt}{T:UB}{l':YT}{os':List Obj}(hi:os[i]?=some (.cells cs T (0,0)):=by rfl)(e:rp cs.toList j v l':=by repeat (first|exact rp.z|apply rp.s))(e2:rp os i (cO l'.toArray T) os':=by repeat (first|exact rp.z|apply rp.s)):GB C w l os' (V.setCell ⟨w.heap.size+i,j,none⟩ v):=by have:=h.set i j hi v;rwa[e.arr,e2.eq] at this
def c{P:T1}{f:RB}{args:Zt}{v:YE}{R:VW}(h:GB C w l os V)(k:Calls P f args V λe w'=>e=.returned v/\PS C w' r/\Kept (ch C) V w')(q:∀w',GB C w r os w'->R (.returned v) w'):Calls P f args V R:=bY k λw' a b=>q w' (h.aB a b)
end GB
abbrev xy(w:YC)(n:Nat):Nat->Prop:=λb=>w.heap.size+n<=b
def abC{w:YC}{t:T}(h:an (xy w n) V t v)(hk:Kept (ch C) V V')(hp:C.p < w.heap.size):an (xy w n) V' t v:=h.kept hk (λb hb _ e=>by unfold ch at e;unfold xy at hb;omega)
def qR{w:YC}{i:Nat}{t:T}(h:an (xy w n) V t v)(hi:i < n)(j:Nat)(u:YE):an (xy w n) (V.setCell ⟨w.heap.size+i,j,none⟩ u) t v:=h.kept (au _ j u) nU
def lU{w:YC}{t:T}(h:an (λb=>B<=b) V t v)(hB:w.heap.size+n<=B):an (xy w n) V t v:=h.mono λb hb _=>by unfold xy;omega
open Go.RowKit Go.Maps
open Go.Proofs.Bm
abbrev ahT(W:YC)(bx:Nat)(a b c d e:YE):World:=((((W.setCell ⟨bx,0,none⟩ a).setCell ⟨bx,1,none⟩ b).setCell ⟨bx,2,none⟩ c).setCell ⟨bx,3,none⟩ d).setCell ⟨bx,4,none⟩ e
def Jn(W:YC)(bx:Nat)(a b c d e:YE):Kept (λk=>k=bx) W (ahT W bx a b c d e):=
 ((((au bx 0 a).trans' (au bx 1 b)).trans' (au bx 2 c)).trans' (au bx 3 d)).trans' (au bx 4 e)
def GB.XJ{w:YC}{r:Zi}{xs:Zg}{vv ss:TG}{m c:Nat}{o0:Obj}(h:GB C w r [o0,cO #[k,nm,sV a m c,vv,ss] 146] W)(hx:an (xy w 2) W (.sl xs) (sV a m c)):lY C [k,nm,xs,vv,ss] r w (.returned (.agg #[k,nm,sV a m c,vv,ss])) (ahT W w.heap.size (iV k) (.string (bs nm)) (sV a m c) (.bool vv) (.bool ss)):=by have hk:=Jn W w.heap.size (iV k) (.string (bs nm)) (sV a m c) (.bool vv) (.bool ss);have:=h.sg.step hk dF;exact⟨⟨_,rfl,k,nm,xs,vv,ss,a,m,c,rfl,rfl,(hx.kept hk nU).mono λb hb _=>by unfold xy at hb;omega⟩,this.ps,this.kp⟩
def jL{α:Type}(sep:Yz)(P:List aF->Option (List α×List aF))(rc:Zi):Option (List α×List aF):=if aO sep rc then P rc.tail else some ([],rc)
def nj{α:Type}(sep:Yz)(one:Nat->List aF->Option (α×List aF)):Nat->List aF->Option (List α×List aF)
 |0,_=>none
 |f+1,l=>(one f l).bind λp=>(jL sep (nj sep one f) p.2).bind λq=>some (p.1::q.1,q.2)
def fA{α:Type}(sep:Yz)(one:Nat->List aF->Option (α×List aF))(f:Nat)(l:Zi):nj sep one (f+1) l=(one f l).bind λp=>(jL sep (nj sep one f) p.2).bind λq=>some (p.1::q.1,q.2):=rfl
def zT(s:Yz):Row:=[s]
def Oj(l:Y9):l.map zT=strs l:=rfl
def Ok(one:List aF->Option (Row×List aF))(f:Nat):∀l,Jf one f l=nj "," (λ_=>one) f l:=by
 induction f with
 |zero=>intro l;rfl
 |succ f ih=>intro l;simp only[Jf,fA,jL,cF];exact yp
def abD(fs:Y9)(f:Nat):∀l,ml fs f l=nj ";" (abt fs) f l:=by
 induction f with
 |zero=>intro l;rfl
 |succ f ih=>intro l;simp only[ml,fA,jL,cF];exact yp
def Bt(k:Nat)(f:Nat):∀l,fB k f l=nj "," (λ_=>word k) f l:=by
 induction f with
 |zero=>intro l;rfl
 |succ f ih=>intro l;simp only[fB,fA,jL,cF];exact yp
open Go.Proofs.Tryz
def Z2:(prog.info? 183).map (λi=>(i.zero,i.size,i.bytes))=some (some (.agg #[eS,oZ,eS,oZ,nS]),5,72):=by kernel_rfl
def Np(C:Ctx)(w:YC)(F:Nat)(rows:Zg)(r:Zi)(gg:Nat)(s3:YE)(wr:YC):Prop:=
 ∃(acc xs:Zg) (f:Nat) (rc:Zi),OwnR w.heap.size w wr 183 5 s3 acc/\Sg C w rc wr/\cI f rc=some (xs,r)/\f<=F/\rows=acc++xs/\f<=gg/\acc.length+f<=6000
def wM(hV:dT){F:Nat}(dx:F<=6000){C:Ctx}{w:YC}{l r:Zi}{rows:Zg}(h:PS C w l)(hp:cI F l=some (rows,r)):Calls prog 184 #[pP C] w (fR C 5 rows r w):=by
 obtain⟨i,hi,hz,cL,dY⟩:=dN Z2;have Pj:=H6;have hrel:Hid (Np C w F rows r F (sV none 0 0) w):=ah ⟨[],rows,F,l,OwnR.nil,Sg.start h,hp,aM _,rfl,aM _,by simp;omega⟩;revert hi hz cL dY;refine jU ?_;intro hi hz cL dY;have eo:=ah (eP h);go_enter func184,ntmps184;go_wp2_with fail;go_loopg [3] F (λgg s3 wr=>Np C w F rows r gg s3 wr)
 case atStart=>exact hrel
 case round=>
  obtain⟨acc,xs,f,rc,hO,SS,hm,gT,aN,de,h6⟩:=hrel;obtain⟨a7,gy,rfl⟩:=hO.form
  cases f with
  |zero=>cases hm
  |succ f=>
  simp only[cI,cF] at hm;have xe:(((aZ rc).k:Int)==1)=((aZ rc).k==1):=br;by_cases hc:(dv rc==1)=true
  .rw[aI hc] at hm;rw[oH] at hc;rw[hc] at xe;obtain⟨⟨nm,r1⟩,hn,cg⟩:=aw.1 hm;obtain⟨r2,Sp,fy⟩:=aw.1 cg;obtain⟨⟨x,r3⟩,hx,Xs⟩:=aw.1 fy;obtain⟨r4,xA,WK⟩:=aw.1 Xs;obtain⟨⟨ys,r5⟩,hy,hm6⟩:=aw.1 WK
   cases hm6;dsimp only at Sp hx xA hy;revert SS hO gT de h6 hn Sp hx xA hy aN;refine ahi ?_;intro SS hO gT de h6 hn Sp hx xA hy aN;go_wp2_with fail;refine(me SS.ps).mono ?_;rintro e w1 ⟨x1,y1,rfl,P1,K1⟩;have S1:=ah (SS.aB P1 K1);replace K1:=ah K1;go_wp2_with fail;refine bY (qG S1.ps hn) λw2 P2 K2=>?_;revert K2;refine F5 ?_;intro K2' hlw S2 h4 K2 oL bC bX cU dz;refine bY (fj S2.ps ":" Sp) λw3 P3 K3=>?_;have S3:=S2.aB P3 K3;have UC:=cu h4 K3 iT;have ij:=ah (aQ.1 UC).1;replace h4:=ah UC;replace S3:=ah S3;replace K3:=ah (K2.trans' K3);go_wp2_with fail;refine(iR (ad3 hV 6000 (aM _) f bT).1 hx S3.ps).mono ?_;revert x hm cg fy Xs WK hx aN h4;refine FH ?_;intro w4 ek en em kids ea el ec hm cg fy Xs WK hx aN P4 S4 h44 b0 b1 b2 b3 b4 f0 h4 ZH K5 S5 hv K4 I6 k4 bC bX cU dz;refine bY (fj S5.ps ";" xA) λw5 P5 K5=>?_;refine KH ?_;intro S6 h45 hv6 KT auG b0 b1 b2 b3 b4 f0 kV Ah hR TU eG lD;go_wp2_with (at_builtin;refine bu (P:=prog) underlying81 hi hz cL dY rfl ab ab rfl (.tmp 19) (.tmp 21) rfl rfl ⟨w5,0,none⟩ 1 rfl _ _ Ah lD dr rfl eG hR ?_);exact ES
  .rw[aE hc] at hm
   cases hm;rw[oH] at hc;simp only[gI] at hc;rw[hc] at xe;revert hO SS;refine ct ?_;intro hO SS;rw[gp] at aN;replace aN:=ah aN;go_wp2_with fail;refine(me SS.ps).mono ?_;rintro e w1 ⟨x1,y1,rfl,P1,K1⟩;exact E3
def aeQ{w:YC}(n m:Nat):(Builtin.max2 (iV n) (iV m)).run P w=.ok (iV ((max n m:Nat):Int)) w:=by
 unfold Builtin.max2;by_cases h:n < m
 .have:max n m=m:=by omega
  rw[this];have h':((m:Int) > (n:Int)):=ab;simp[h',h]
 .have:max n m=n:=by omega
  rw[this];have h':¬((m:Int) > (n:Int)):=ab;simp[h',h]
def U9{P:T1}{w:YC}:∀(ns:Yz) (n:Nat),((ns.map fun(n:Nat)=>Value.int .i64 (n:Int)).foldlM Builtin.max2 (Value.int .i64 (n:Int))).run P w=.ok (iV ((ns.foldl max n:Nat):Int)) w
 |[],n=>rfl
 |m::ns,n=>by
  rw[lp,List.foldlM_cons,List.foldl_cons];have h1:=aeQ (P:=P) (w:=w) n m;have h2:=U9 (P:=P) (w:=w) ns (max n m);rw[Sem.run_bind,h1];exact h2
def Jr{w:YC}{o:RZ}{a:Act}{K:R0}{Q:VN}{args:List Operand}{ts:Array TypeId}(o7:o.op=Op.call {callee:=Callee.builtin Builtin.max,args:=args.toArray,argTypes:=ts})
  (n:Nat) (ns:Yz) (ha:args.map a.eval=Value.int .i64 (n:Int)::ns.map fun(n:Nat)=>Value.int .i64 (n:Int)) {M:Nat} (hM:ns.foldl max n=M) (hK:K (a.put o.dst (iV (M:Int))) w):o.wp P a w K Q:=by
 have h:=U9 (P:=P) (w:=w) ns n;rw[hM] at h;unfold Oper.wp;simp[execOp,o7,resolve,invoke,builtin,ha,Builtin.max_,h,Result.andThen];exact hK
def fl{g:Row->Option Nat}(hg:∀r n,g r=some n->n<=B){n:Nat}{l:Zg}{N:Nat}(hn:n<=B)(h:fG g n l=some N):N<=B:=Mw hg hn h
def Js{f:Nat}(h:BO (f+1) [k,nm,m,es,tags,i,b,e]=some d):∃d1 d2 d3 d4 n,fG (Pq f) 0 tags=some d1/\fG (BO f) 0 i=some d2/\fG (BO f) 0 b=some d3/\fG (BO f) 0 e=some d4/\fG (Bz f) (max (max (max d1 d2) d3) d4) es=some n/\d=n+1:=by
 unfold BO at h;obtain⟨d1,h1,h⟩:=aw.1 h;obtain⟨d2,h2,h⟩:=aw.1 h;obtain⟨d3,h3,h⟩:=aw.1 h;obtain⟨d4,h4,h⟩:=aw.1 h;obtain⟨n,h5,h⟩:=aw.1 h
 cases h;exact⟨d1,d2,d3,d4,n,h1,h2,h3,h4,h5,rfl⟩
def zE{f:Nat}{row:Row}(h:BO f row=some d):∃f' k nm m es tags i b e,f=f'+1/\row=[.int k,.str nm,.int m,.sl es,.sl tags,.sl i,.sl b,.sl e]:=by
 cases f with
 |zero=>cases h
 |succ f=>
  unfold BO at h;split at h
  .cases h
  .rename_i e;cases e;exact⟨_,_,_,_,_,_,_,_,_,rfl,rfl⟩
  .cases h
def sd:∀{f:Nat} {row:Row} {n:Nat},BO f row=some n->n<=f
 |0,_,_,h=>by cases h
 |f+1,row,n,h=>by
  obtain⟨f',k,nm,m,es,tags,i,b,e,rfl',rfl⟩:=zE h;obtain⟨d1,d2,d3,d4,n,h1,h2,h3,h4,h5,rfl⟩:=Js h;have e1:=fl (B:=f) (λr n=>yF) (dE _) h1;have e2:=fl (B:=f) (λr n=>sd) (dE _) h2;have e3:=fl (B:=f) (λr n=>sd) (dE _) h3;have e4:=fl (B:=f) (λr n=>sd) (dE _) h4;have e5:=fl (B:=f) (λr n=>yW) (by omega) h5;omega
def aP.SO{w:YC}(h:aP S w [k,nm,m,es,tags,i,b,e] cs):∃a3 c3 a4 c4 a5 c5 a6 c6 a7 c7,cs=[.int .i64 k,.string (bs nm),.int .i64 m,.slice a3 es.length c3,.slice a4 tags.length c4,.slice a5 i.length c5,.slice a6 b.length c6,.slice a7 e.length c7]/\an S w (.sl es) (sV a3 es.length c3)/\an S w (.sl tags) (sV a4 tags.length c4)/\an S w (.sl i) (sV a5 i.length c5)/\an S w (.sl b) (sV a6 b.length c6)/\an S w (.sl e) (sV a7 e.length c7)/\es.length<=maxLen:=by obtain⟨c0,Ap,rfl,v0,h0⟩:=h.aG;obtain⟨c1,U6,rfl,v1,h1⟩:=h0.aG;obtain⟨c2,T3,rfl,v2,h2⟩:=h1.aG;obtain⟨c3,Sx,rfl,v3,h3⟩:=h2.aG;obtain⟨c4,cs4,rfl,v4,h4⟩:=h3.aG;obtain⟨c5,cs5,rfl,v5,h5⟩:=h4.aG;obtain⟨c6,cs6,rfl,v6,h6⟩:=h5.aG;obtain⟨c7,cs7,rfl,v7,h7⟩:=h6.aG;obtain⟨x3,y3,rfl,ij⟩:=v3.aU;obtain⟨x4,y4,rfl,_⟩:=v4.aU;obtain⟨x5,y5,rfl,_⟩:=v5.aU;obtain⟨x6,y6,rfl,_⟩:=v6.aU;obtain⟨x7,y7,rfl,_⟩:=v7.aU;exact⟨_,_,_,_,_,_,_,_,_,_,by rw[v0.fu,v1.bq,v2.fu,h7.jO],v3,v4,v5,v6,v7,ij⟩
def aeR{f:Nat}(hf:f<=6000)(xf:∀f' < f,zY 249 (BO f'))(kc:∀f'≤6000,zY 247 (Pq f'))(hex:∀f'≤6000,zZ 280 (Bz f')):zY 249 (BO f):=by
 intro S w rows N v hm v3;have hle:∀r n,BO f r=some n->n<=6000:=λr n h=>cn (sd h) hf;obtain⟨a,cap,rfl,gF⟩:=v3.aU;revert xf kc hex hm v3;refine nx ?_;intro xf kc hex hm v3;go_enter func249,ntmps249;go_wp2_with fail;go_loopg [3,11] rows.length (λgg s3 s11 wr=>qS w (BO f) rows N 6000 gg s3 s11 wr)
 case atStart=>exact⟨0,0,rfl,rfl,by omega,by simpa using hm.out,Kept.refl aK w,dE _⟩
 case round=>
  obtain⟨j,n,rfl,rfl,zC,cg,hK,hn⟩:=hrel;have lC:rows.length<=9223372036854775807:=gF;by_cases hj:j < rows.length
  .obtain⟨row,d,aL,lG,fy⟩:=iB cg hj;obtain⟨g,off,rfl,-,NY,hR,fY⟩:=v3.out.elem aL;have SH:=hle _ _ lG;obtain⟨f',sk,sn,sm,es,tags,si,sb,se,rfl,rfl⟩:=zE lG;obtain⟨a3,c3,a4,c4,a5,c5,a6,c6,a7,c7,rfl,ve,vt,vi,vb,vs,an7⟩:=hR.SO;obtain⟨d1,d2,d3,d4,d5,h1,h2,h3,h4,h5,rfl⟩:=Js lG;have de:∀{i u},w.cell? ⟨g,i,none⟩=some u->wr.cell? ⟨g,i,none⟩=some u:=λh=>(hK.cell (cA w _ h) (λe=>e)).trans h;obtain⟨q0,q1,q2,q3,q4,q5,q6,q7,-⟩:=hc (o:=off+j*8) λk _ e=>de (fY k _ e);have jS:(j:Int) < (rows.length:Int):=by omega
   have sQ:(0:Int)<=(j:Int):=by omega
   obtain⟨M,hMe⟩:∃M,M=max (max (max d1 d2) d3) d4:=⟨_,rfl⟩
   rw[<-hMe] at h5;have hM6:M<=6000:=by have e1:=fl (B:=f') (λr n=>yF) (dE _) h1;have e2:=fl (B:=f') (λr n=>sd) (dE _) h2;have e3:=fl (B:=f') (λr n=>sd) (dE _) h3;have e4:=fl (B:=f') (λr n=>sd) (dE _) h4;omega
   replace hMe:=ah hMe;replace fy:=ah fy;replace aL:=ah aL;replace hK:=ah hK;replace h1:=ah h1;replace h2:=ah h2;replace h3:=ah h3;replace h4:=ah h4;replace h5:=ah h5;replace ve:=ah ve;replace vt:=ah vt;replace vi:=ah vi;replace vb:=ah vb;replace vs:=ah vs;obtain⟨bx,asb⟩:∃bx,bx=wr.heap.size:=⟨_,rfl⟩
   have mf:(wr.alloc (cO #[sk,sn,sm,sV a3 es.length c3,sV a4 tags.length c4,sV a5 si.length c5,sV a6 sb.length c6,sV a7 se.length c7] 239)).heap[bx]?=some (.cells #[sk,sn,sm,sV a3 es.length c3,sV a4 tags.length c4,sV a5 si.length c5,sV a6 sb.length c6,sV a7 se.length c7] 239 (0,0)):=by rw[asb,heap_alloc,aI rfl]
   replace mf:=ah mf;have gu:=ah (hK.alloc (cO #[sk,sn,sm,sV a3 es.length c3,sV a4 tags.length c4,sV a5 si.length c5,sV a6 sb.length c6,sV a7 se.length c7] 239));replace asb:=ah asb;go_wp2_with fail;rw[<-asb.out];refine wpLive 12 (λV=>V.heap[bx]?=some (.cells #[sk,sn,sm,sV a3 es.length c3,sV a4 tags.length c4,sV a5 si.length c5,sV a6 sb.length c6,sV a7 se.length c7] 239 (0,0))) (λV s=>And.intro (bc s 4) (And.intro (bc s 5) (And.intro (bc s 6) (bc s 7)))) ?_ λFF ak=>?_
   .exact mf
   refine tkT 0 ?_;refine tkT 1 ?_;refine tkT 3 ?_;refine tkT 4 ?_;refine tkT 6 ?_;refine tkT 7 ?_;refine tkT 9 ?_;refine tkT 10 ?_;refine rdT 2 λK hK=>?_;go_simp;refine bD ((kc f' (by omega)) h1 (vt.kept gu.drew (λ_ _ _ e=>e))) λw2 K2=>?_;dsimp only;refine hK _ _ ((K2.block _ (aQ.1 ak).1 (λe=>e)).trans ak) (λak=>?_);refine sp ?_;refine rdT 5 λK hK=>?_;go_simp;refine bD ((xf f' (by omega)) h2 (vi.kept (gu.drew.trans' K2) (λ_ _ _ e=>e))) λw5 K5=>?_;dsimp only;refine hK _ _ ((K5.block _ (aQ.1 ak).1 (λe=>e)).trans ak) (λak=>?_);refine sp ?_;refine rdT 8 λK hK=>?_;go_simp;refine bD ((xf f' (by omega)) h3 (vb.kept ((gu.drew.trans' K2).trans' K5) (λ_ _ _ e=>e))) λw8 K8=>?_;dsimp only;refine hK _ _ ((K8.block _ (aQ.1 ak).1 (λe=>e)).trans ak) (λak=>?_);refine sp ?_;refine rdT 11 λK hK=>?_;go_simp;refine bD ((xf f' (by omega)) h4 (vs.kept (((gu.drew.trans' K2).trans' K5).trans' K8) (λ_ _ _ e=>e))) λxS WN=>?_;dsimp only;refine hK _ _ ((WN.block _ (aQ.1 ak).1 (λe=>e)).trans ak) (λak=>?_);refine sp ?_;refine ddT 12 λK hK=>?_;refine eh rfl (Jr rfl d1 [d2,d3,d4] rfl hMe.symm ?_);refine hK _ _ ?_;refine sp ?_;refine ddT 13 λK hK=>?_;go_simp;refine hK _ _ ?_;refine sp ?_;refine dnT ?_;have hK5:=ah ((((gu.drew.trans' K2).trans' K5).trans' K8).trans' WN);have d3':=bc (W:=xS) (bx:=bx) ak 3;go_wp2_with fail;obtain⟨G0,hG0⟩:∃G,G=gk:=⟨_,rfl⟩
   have aln:∀(r:Row) (n:Nat),Bz f' r=some n->n<=6000:=λr n h=>cn (yW h) (by omega);go_loopg [6,31] es.length (λgg s6 s31 wr=>qS w (Bz f') es d5 6000 gg s6 s31 wr)
   case atStart=>exact⟨0,M,rfl,rfl,by omega,by simpa using h5.out,hK5.out,hM6⟩
   case round=>
    obtain⟨ji,ni,rfl,rfl,hig,Va,zF,hni⟩:=hrel;have ap3:es.length<=9223372036854775807:=an7;by_cases hi:ji < es.length
    .obtain⟨ap4,di,Oy,Oz,Jt⟩:=iB Va hi;obtain⟨gi,alo,rfl,-,csi,hRi,aie⟩:=ve.out.elem Oy;have ap5:=aln _ _ Oz;obtain⟨kk,kn,km,kd,rfl⟩:=mo Oz;obtain⟨a',m',c',rfl⟩:=hRi.zB;have aif:∀{i u},w.cell? ⟨gi,i,none⟩=some u->wr.cell? ⟨gi,i,none⟩=some u:=λh=>(zF.cell (cA w _ h) (λe=>e)).trans h;obtain⟨q0,q1,q2,q3,-⟩:=hc (o:=alo+ji*4) λk _ e=>aif (aie k _ e);have hi1:(ji:Int) < (es.length:Int):=by omega
     have hi2:(0:Int)<=(ji:Int):=by omega
     revert zF Jt Oy Oz hRi;refine nx ?_;intro zF Jt Oy Oz hRi;go_wp2_with fail;have abN:=zF.alloc (cO #[kk,kn,km,sV a' m' c'] 181);refine bD ((hex f' (by omega)) Oz (hRi.kept abN (λ_ _ _ e=>e))) λwi1 Ki1=>?_;have aeS:=ah (abN.trans' Ki1);by_cases Ij:ni < di
     .have X6:max ni di=di:=by omega
      rw[X6] at Jt;go_wp2_with fail;go_roundg (gk - 1)
      case measure=>omega
      case rel=>exact⟨ji+1,di,asc,asc,by omega,Jt,aeS,by omega⟩
     .have X6:max ni di=ni:=by omega
      rw[X6] at Jt;go_wp2_with fail;go_roundg (gk - 1)
      case measure=>omega
      case rel=>exact⟨ji+1,ni,asc,asc,by omega,Jt,aeS,by omega⟩
    .have hil:ji=es.length:=by omega
     rw[sL (by omega)] at Va
     cases Va;have hi1:¬((ji:Int) < (es.length:Int)):=by omega
     replace zF:=ah zF;have hK9:=ah zF.out;by_cases Ij:n < d5+1
     .have BA:max n (d5+1)=d5+1:=by omega
      have hnz:(n:Int) < (d5:Int)+1:=by omega
      have ap6:(n:Int)<=(d5:Int):=by omega
      have ap7:n<=d5:=by omega
      rw[BA] at fy;replace fy:=ah fy.out;go_wp2_with fail;all_goals (try (exfalso;omega))
      go_roundg (G0 - 1)
      case measure=>omega
      case rel=>exact⟨j+1,d5+1,asc,asc,by omega,fy,hK9,by omega⟩
     .have BA:max n (d5+1)=n:=by omega
      have hnz:¬((n:Int) < (d5:Int)+1):=by omega
      have ap6:¬((n:Int)<=(d5:Int)):=by omega
      have ap7:¬(n<=d5):=by omega
      rw[BA] at fy;go_wp2_with fail;all_goals (try (exfalso;omega))
      go_roundg (G0 - 1)
      case measure=>omega
      case rel=>exact⟨j+1,n,asc,asc,by omega,fy,hK9,by omega⟩
  .have QB:j=rows.length:=by omega
   rw[sL (by omega)] at cg
   cases cg;have jS:¬((j:Int) < (rows.length:Int)):=by omega
   replace hK:=ah hK;go_wp2_with fail;go_ret;exact⟨rfl,hK⟩
def aaq:∀f≤6000,zY 249 (BO f):=by
 intro f;induction f using Nat.strongRecOn with
 |ind f ih=>exact λhf=>aeR hf (λf' h=>ih f' h (by omega)) (λf' h=>SK h (zD f' h)) zD
def aeT{f:Nat}(hf:f < 6000)(ih:zY 258 (Bz f)):zZ 257 (Bz (f+1)):=by
 intro S w row N1 cs hd hR;have hN:=yW hd;obtain⟨kk,kn,km,rows,rfl⟩:=mo hd;obtain⟨N,hm,h2⟩:=aw.1 (show(fG (Bz f) 0 rows).bind (λn=>some (n+1))=some N1 from hd)
 cases h2;obtain⟨a,cap,rfl,v3,gF⟩:=hR.Ov;revert hm v3;refine ct ?_;intro hm v3;go_enter func257,ntmps257;go_wp2_with fail;refine bD (ih hm (v3.kept ((Kept.refl aK w).alloc _) (λ_ _ _ e=>e))) λw1 K1=>?_;have hK:=ah (((Kept.refl aK w).alloc _).trans' K1);have an8:(1:Int)+(N:Int)=(N:Int)+1:=by omega
 go_wp2_with fail;go_ret;exact⟨rfl,hK⟩
def aeU{f:Nat}(hf:f < 6000)(ih:zY 201 (By f)):zZ 203 (By (f+1)):=by
 intro S w row N1 cs hd hR;have hN:=Bn hd;obtain⟨kk,kn,rows,kv,ks,rfl⟩:=lf hd;obtain⟨N,hm,h2⟩:=aw.1 (show(fG (By f) 0 rows).bind (λn=>some (n+1))=some N1 from hd)
 cases h2;obtain⟨a,cap,rfl,v3,gF⟩:=hR.Ow;revert hm v3;refine ct ?_;intro hm v3;go_enter func203,ntmps203;go_wp2_with fail;refine bD (ih hm (v3.kept ((Kept.refl aK w).alloc _) (λ_ _ _ e=>e))) λw1 K1=>?_;have hK:=ah (((Kept.refl aK w).alloc _).trans' K1);have an8:(1:Int)+(N:Int)=(N:Int)+1:=by omega
 go_wp2_with fail;go_ret;exact⟨rfl,hK⟩
def aar{f:Nat}(hf:f<=6000)(ih:zZ 257 (Bz f)):zY 258 (Bz f):=by
 intro S w rows N v hm v3;have hle:∀r n,Bz f r=some n->n<=6000:=λr n h=>cn (yW h) hf;obtain⟨a,cap,rfl,gF⟩:=v3.aU;revert hm v3;refine ct ?_;intro hm v3;go_enter func258,ntmps258;go_wp2_with fail;go_loopg [3,4] rows.length (λgg s3 s4 wr=>qS w (Bz f) rows N 6000 gg s3 s4 wr)
 case atStart=>exact⟨0,0,rfl,rfl,by omega,by simpa using hm.out,(Kept.refl aK w),dE _⟩
 case round=>
  obtain⟨j,n,rfl,rfl,zC,cg,hK,hn⟩:=hrel;have lC:rows.length<=9223372036854775807:=gF;by_cases hj:j < rows.length
  .obtain⟨row,d,aL,lG,fy⟩:=iB cg hj;obtain⟨g,off,rfl,-,NY,hR,fY⟩:=v3.out.elem aL;have SH:=hle _ _ lG;obtain⟨kk,kn,km,kd,rfl⟩:=mo lG;obtain⟨a',m',c',rfl⟩:=hR.zB;have de:∀{i u},w.cell? ⟨g,i,none⟩=some u->wr.cell? ⟨g,i,none⟩=some u:=λh=>(hK.cell (cA w _ h) (λe=>e)).trans h;obtain⟨q0,q1,q2,q3,-⟩:=hc (o:=off+j*4) λk _ e=>de (fY k _ e);have jS:(j:Int) < (rows.length:Int):=by omega
   have sQ:(0:Int)<=(j:Int):=by omega
   revert hK fy aL lG hR;refine nx ?_;intro hK fy aL lG hR;go_wp2_with fail;have gu:=hK.out;refine bD (ih lG (hR.kept gu (λ_ _ _ e=>e))) λw1 K1=>?_;have xq:=ah (gu.trans' K1);by_cases Ij:n < d
   .have BA:max n d=d:=by omega
    rw[BA] at fy;go_wp2_with fail;go_roundg (gk - 1)
    case measure=>omega
    case rel=>exact⟨j+1,d,asc,asc,by omega,fy,xq,by omega⟩
   .have BA:max n d=n:=by omega
    rw[BA] at fy;go_wp2_with fail;go_roundg (gk - 1)
    case measure=>omega
    case rel=>exact⟨j+1,n,asc,asc,by omega,fy,xq,by omega⟩
  .have QB:j=rows.length:=by omega
   rw[sL (by omega)] at cg
   cases cg;have jS:¬((j:Int) < (rows.length:Int)):=by omega
   replace hK:=ah hK;go_wp2_with fail
   first|go_ret|(refine A4 (rB rfl _ _ _) rfl ?_)
   exact⟨rfl,hK⟩
def aas{f:Nat}(hf:f<=6000)(ih:zZ 203 (By f)):zY 201 (By f):=by
 intro S w rows N v hm v3;have hle:∀r n,By f r=some n->n<=6000:=λr n h=>cn (Bn h) hf;obtain⟨a,cap,rfl,gF⟩:=v3.aU;revert hm v3;refine ct ?_;intro hm v3;go_enter func201,ntmps201;go_wp2_with fail;go_loopg [3,4] rows.length (λgg s3 s4 wr=>qS w (By f) rows N 6000 gg s3 s4 wr)
 case atStart=>exact⟨0,0,rfl,rfl,by omega,by simpa using hm.out,(Kept.refl aK w),dE _⟩
 case round=>
  obtain⟨j,n,rfl,rfl,zC,cg,hK,hn⟩:=hrel;have lC:rows.length<=9223372036854775807:=gF;by_cases hj:j < rows.length
  .obtain⟨row,d,aL,lG,fy⟩:=iB cg hj;obtain⟨g,off,rfl,-,NY,hR,fY⟩:=v3.out.elem aL;have SH:=hle _ _ lG;obtain⟨kk,kn,kd,kv,ks,rfl⟩:=lf lG;obtain⟨a',m',c',rfl⟩:=hR.Ih;have de:∀{i u},w.cell? ⟨g,i,none⟩=some u->wr.cell? ⟨g,i,none⟩=some u:=λh=>(hK.cell (cA w _ h) (λe=>e)).trans h;obtain⟨q0,q1,q2,q3,q4,-⟩:=hc (o:=off+j*5) λk _ e=>de (fY k _ e);have jS:(j:Int) < (rows.length:Int):=by omega
   have sQ:(0:Int)<=(j:Int):=by omega
   revert hK fy aL lG hR;refine nx ?_;intro hK fy aL lG hR;go_wp2_with fail;have gu:=hK.out;refine bD (ih lG (hR.kept gu (λ_ _ _ e=>e))) λw1 K1=>?_;have xq:=ah (gu.trans' K1);by_cases Ij:n < d
   .have BA:max n d=d:=by omega
    rw[BA] at fy;go_wp2_with fail;go_roundg (gk - 1)
    case measure=>omega
    case rel=>exact⟨j+1,d,asc,asc,by omega,fy,xq,by omega⟩
   .have BA:max n d=n:=by omega
    rw[BA] at fy;go_wp2_with fail;go_roundg (gk - 1)
    case measure=>omega
    case rel=>exact⟨j+1,n,asc,asc,by omega,fy,xq,by omega⟩
  .have QB:j=rows.length:=by omega
   rw[sL (by omega)] at cg
   cases cg;have jS:¬((j:Int) < (rows.length:Int)):=by omega
   replace hK:=ah hK;go_wp2_with fail
   first|go_ret|(refine A4 (rB rfl _ _ _) rfl ?_)
   exact⟨rfl,hK⟩
def zG:∀f≤6000,zZ 257 (Bz f)
 |0,_=>λh _=>by cases h
 |f+1,hf=>aeT (by omega) (aar (by omega) (zG f (by omega)))
def Ik:∀f≤6000,zZ 203 (By f)
 |0,_=>λh _=>by cases h
 |f+1,hf=>aeU (by omega) (aas (by omega) (Ik f (by omega)))
def SP{f:Nat}(hf:f<=6000)(ih:zZ 257 (Bz f)):zY 200 (Pq f):=by
 intro S w rows N v hm v3;have hle:∀r n,Pq f r=some n->n<=6000:=λr n h=>cn (yF h) hf;obtain⟨a,cap,rfl,gF⟩:=v3.aU;revert hm v3;refine ct ?_;intro hm v3;go_enter func200,ntmps200;go_wp2_with fail;go_loopg [3,4] rows.length (λgg s3 s4 wr=>qS w (Pq f) rows N 6000 gg s3 s4 wr)
 case atStart=>exact⟨0,0,rfl,rfl,by omega,by simpa using hm.out,(Kept.refl aK w),dE _⟩
 case round=>
  obtain⟨j,n,rfl,rfl,zC,cg,hK,hn⟩:=hrel;have lC:rows.length<=9223372036854775807:=gF;by_cases hj:j < rows.length
  .obtain⟨row,d,aL,lG,fy⟩:=iB cg hj;obtain⟨g,off,rfl,-,NY,hR,fY⟩:=v3.out.elem aL;have SH:=hle _ _ lG;obtain⟨kt,kk,kn,km,kd,rfl⟩:=Jq lG;obtain⟨a',m',c',rfl⟩:=hR.Mx;have de:∀{i u},w.cell? ⟨g,i,none⟩=some u->wr.cell? ⟨g,i,none⟩=some u:=λh=>(hK.cell (cA w _ h) (λe=>e)).trans h;obtain⟨q0,q1,q2,q3,q4,-⟩:=hc (o:=off+j*5) λk _ e=>de (fY k _ e);have jS:(j:Int) < (rows.length:Int):=by omega
   have sQ:(0:Int)<=(j:Int):=by omega
   revert hK fy aL lG hR;refine nx ?_;intro hK fy aL lG hR;go_wp2_with fail;have gu:=hK.out;refine bD (ih lG (hR.kept gu (λ_ _ _ e=>e)).tail) λw1 K1=>?_;have xq:=ah (gu.trans' K1);by_cases Ij:n < d
   .have BA:max n d=d:=by omega
    rw[BA] at fy;go_wp2_with fail;go_roundg (gk - 1)
    case measure=>omega
    case rel=>exact⟨j+1,d,asc,asc,by omega,fy,xq,by omega⟩
   .have BA:max n d=n:=by omega
    rw[BA] at fy;go_wp2_with fail;go_roundg (gk - 1)
    case measure=>omega
    case rel=>exact⟨j+1,n,asc,asc,by omega,fy,xq,by omega⟩
  .have QB:j=rows.length:=by omega
   rw[sL (by omega)] at cg
   cases cg;have jS:¬((j:Int) < (rows.length:Int)):=by omega
   replace hK:=ah hK;go_wp2_with fail
   first|go_ret|(refine A4 (rB rfl _ _ _) rfl ?_)
   exact⟨rfl,hK⟩
def aeV{f:Nat}(hf:f<=6000)(ih:zZ 203 (By f)):zY 202 (avf f):=by
 intro S w rows N v hm v3;have hle:∀r n,avf f r=some n->n<=6000:=λr n h=>cn (Sy h) hf;obtain⟨a,cap,rfl,gF⟩:=v3.aU;revert hm v3;refine ct ?_;intro hm v3;go_enter func202,ntmps202;go_wp2_with fail;go_loopg [3,4] rows.length (λgg s3 s4 wr=>qS w (avf f) rows N 6000 gg s3 s4 wr)
 case atStart=>exact⟨0,0,rfl,rfl,by omega,by simpa using hm.out,(Kept.refl aK w),dE _⟩
 case round=>
  obtain⟨j,n,rfl,rfl,zC,cg,hK,hn⟩:=hrel;have lC:rows.length<=9223372036854775807:=gF;by_cases hj:j < rows.length
  .obtain⟨row,d,aL,lG,fy⟩:=iB cg hj;obtain⟨g,off,rfl,-,NY,hR,fY⟩:=v3.out.elem aL;have SH:=hle _ _ lG;obtain⟨kt,kk,kn,kd,kv,ks,rfl⟩:=zA lG;obtain⟨a',m',c',rfl⟩:=hR.My;have de:∀{i u},w.cell? ⟨g,i,none⟩=some u->wr.cell? ⟨g,i,none⟩=some u:=λh=>(hK.cell (cA w _ h) (λe=>e)).trans h;obtain⟨q0,q1,q2,q3,q4,q5,-⟩:=hc (o:=off+j*6) λk _ e=>de (fY k _ e);have jS:(j:Int) < (rows.length:Int):=by omega
   have sQ:(0:Int)<=(j:Int):=by omega
   revert hK fy aL lG hR;refine nx ?_;intro hK fy aL lG hR;go_wp2_with fail;have gu:=hK.out;refine bD (ih lG (hR.kept gu (λ_ _ _ e=>e)).tail) λw1 K1=>?_;have xq:=ah (gu.trans' K1);by_cases Ij:n < d
   .have BA:max n d=d:=by omega
    rw[BA] at fy;go_wp2_with fail;go_roundg (gk - 1)
    case measure=>omega
    case rel=>exact⟨j+1,d,asc,asc,by omega,fy,xq,by omega⟩
   .have BA:max n d=n:=by omega
    rw[BA] at fy;go_wp2_with fail;go_roundg (gk - 1)
    case measure=>omega
    case rel=>exact⟨j+1,n,asc,asc,by omega,fy,xq,by omega⟩
  .have QB:j=rows.length:=by omega
   rw[sL (by omega)] at cg
   cases cg;have jS:¬((j:Int) < (rows.length:Int)):=by omega
   replace hK:=ah hK;go_wp2_with fail
   first|go_ret|(refine A4 (rB rfl _ _ _) rfl ?_)
   exact⟨rfl,hK⟩
def zH{g:Row->Option Nat}:∀{l:Zg} {n m N:Nat},fG g (max m n) l=some N->∃d,fG g n l=some d/\N=max m d
 |[],n,m,N,h=>by cases h;exact⟨n,rfl,rfl⟩
 |x::xs,n,m,N,h=>by
  obtain⟨d,hd,h2⟩:=aw.1 h;rw[Nat.max_assoc] at h2;obtain⟨d',h3,h4⟩:=zH h2;exact⟨d',by unfold fG;rw[hd];exact h3,h4⟩
def OA{f:Nat}(h:BO (f+1) [k,nm,m,es,tags,i,b,e]=some d):∃d0 d1 d2 d3 d4 n,fG (Bz f) 0 es=some d0/\fG (Pq f) 0 tags=some d1/\fG (BO f) 0 i=some d2/\fG (BO f) 0 b=some d3/\fG (BO f) 0 e=some d4/\n=max (max (max (max d0 d1) d2) d3) d4/\d=n+1:=by obtain⟨d1,d2,d3,d4,n,h1,h2,h3,h4,h5,rfl⟩:=Js h;obtain⟨d0,h6,h7⟩:=zH (n:=0) (m:=max (max (max d1 d2) d3) d4) (by rw[Nat.max_eq_left (dE _)];exact h5);exact⟨d0,d1,d2,d3,d4,n,h6,h1,h2,h3,h4,by omega,rfl⟩
def aeW{f:Nat}(hf:f<=6000)(xf:∀f' < f,zY 204 (BO f'))(kc:∀f'≤6000,zY 200 (Pq f'))(hex:∀f'≤6000,zY 258 (Bz f')):zY 204 (BO f):=by
 intro S w rows N v hm v3;have hle:∀r n,BO f r=some n->n<=6000:=λr n h=>cn (sd h) hf;obtain⟨a,cap,rfl,gF⟩:=v3.aU;revert xf kc hex hm v3;refine nx ?_;intro xf kc hex hm v3;go_enter func204,ntmps204;go_wp2_with fail;go_loopg [3,4] rows.length (λgg s3 s4 wr=>qS w (BO f) rows N 6000 gg s3 s4 wr)
 case atStart=>exact⟨0,0,rfl,rfl,by omega,by simpa using hm.out,Kept.refl aK w,dE _⟩
 case round=>
  obtain⟨j,n,rfl,rfl,zC,cg,hK,hn⟩:=hrel;have lC:rows.length<=9223372036854775807:=gF;by_cases hj:j < rows.length
  .obtain⟨row,d,aL,lG,fy⟩:=iB cg hj;obtain⟨g,off,rfl,-,NY,hR,fY⟩:=v3.out.elem aL;have SH:=hle _ _ lG;obtain⟨f',sk,sn,sm,es,tags,si,sb,se,rfl,rfl⟩:=zE lG;obtain⟨a3,c3,a4,c4,a5,c5,a6,c6,a7,c7,rfl,ve,vt,vi,vb,vs,an7⟩:=hR.SO;obtain⟨d0,d1,d2,d3,d4,d5,h5,h1,h2,h3,h4,hM0,rfl⟩:=OA lG;have de:∀{i u},w.cell? ⟨g,i,none⟩=some u->wr.cell? ⟨g,i,none⟩=some u:=λh=>(hK.cell (cA w _ h) (λe=>e)).trans h;obtain⟨q0,q1,q2,q3,q4,q5,q6,q7,-⟩:=hc (o:=off+j*8) λk _ e=>de (fY k _ e);have jS:(j:Int) < (rows.length:Int):=by omega
   have sQ:(0:Int)<=(j:Int):=by omega
   replace hM0:=ah hM0;replace fy:=ah fy;replace aL:=ah aL;replace hK:=ah hK;replace h1:=ah h1;replace h2:=ah h2;replace h3:=ah h3;replace h4:=ah h4;replace h5:=ah h5;replace ve:=ah ve;replace vt:=ah vt;replace vi:=ah vi;replace vb:=ah vb;replace vs:=ah vs;obtain⟨bx,asb⟩:∃bx,bx=wr.heap.size:=⟨_,rfl⟩
   have mf:(wr.alloc (cO #[sk,sn,sm,sV a3 es.length c3,sV a4 tags.length c4,sV a5 si.length c5,sV a6 sb.length c6,sV a7 se.length c7] 239)).heap[bx]?=some (.cells #[sk,sn,sm,sV a3 es.length c3,sV a4 tags.length c4,sV a5 si.length c5,sV a6 sb.length c6,sV a7 se.length c7] 239 (0,0)):=by rw[asb,heap_alloc,aI rfl]
   replace mf:=ah mf;have gu:=ah (hK.alloc (cO #[sk,sn,sm,sV a3 es.length c3,sV a4 tags.length c4,sV a5 si.length c5,sV a6 sb.length c6,sV a7 se.length c7] 239));replace asb:=ah asb;go_wp2_with fail;rw[<-asb.out];refine wpLive 18 (λV=>V.heap[bx]?=some (.cells #[sk,sn,sm,sV a3 es.length c3,sV a4 tags.length c4,sV a5 si.length c5,sV a6 sb.length c6,sV a7 se.length c7] 239 (0,0))) (λV s=>And.intro (bc s 3) (And.intro (bc s 4) (And.intro (bc s 5) (And.intro (bc s 6) (bc s 7))))) ?_ λFF ak=>?_
   .exact mf
   refine tkT 0 ?_;refine tkT 1 ?_;refine tkT 2 ?_;refine tkT 4 ?_;refine tkT 5 ?_;refine tkT 7 ?_;refine tkT 8 ?_;refine tkT 10 ?_;refine tkT 11 ?_;refine tkT 13 ?_;refine tkT 14 ?_;refine rdT 3 λK hK=>?_;go_simp;refine bD ((hex f' (by omega)) h5 (ve.kept gu.drew (λ_ _ _ e=>e))) λw3 K3=>?_;dsimp only;refine hK _ _ ((K3.block _ (aQ.1 ak).1 (λe=>e)).trans ak) (λak=>?_);refine sp ?_;refine rdT 6 λK hK=>?_;go_simp;refine bD ((kc f' (by omega)) h1 (vt.kept (gu.drew.trans' K3) (λ_ _ _ e=>e))) λw6 K6=>?_;dsimp only;refine hK _ _ ((K6.block _ (aQ.1 ak).1 (λe=>e)).trans ak) (λak=>?_);refine sp ?_;refine rdT 9 λK hK=>?_;go_simp;refine bD ((xf f' (by omega)) h2 (vi.kept ((gu.drew.trans' K3).trans' K6) (λ_ _ _ e=>e))) λw9 K9=>?_;dsimp only;refine hK _ _ ((K9.block _ (aQ.1 ak).1 (λe=>e)).trans ak) (λak=>?_);refine sp ?_;refine rdT 12 λK hK=>?_;go_simp;refine bD ((xf f' (by omega)) h3 (vb.kept (((gu.drew.trans' K3).trans' K6).trans' K9) (λ_ _ _ e=>e))) λvl SQ=>?_;dsimp only;refine hK _ _ ((SQ.block _ (aQ.1 ak).1 (λe=>e)).trans ak) (λak=>?_);refine sp ?_;refine rdT 15 λK hK=>?_;go_simp;refine bD ((xf f' (by omega)) h4 (vs.kept ((((gu.drew.trans' K3).trans' K6).trans' K9).trans' SQ) (λ_ _ _ e=>e))) λWM K15=>?_;dsimp only;refine hK _ _ ((K15.block _ (aQ.1 ak).1 (λe=>e)).trans ak) (λak=>?_);refine sp ?_;refine rdT 16 λK hK=>?_;refine eh rfl (Jr rfl d0 [d1,d2,d3,d4] rfl hM0.symm ?_);refine hK _ _ (ak) (λak=>?_);refine sp ?_;refine rdT 17 λK hK=>?_;go_simp;refine hK _ _ (ak) (λak=>?_);refine sp ?_;refine ddT 18 λK hK=>?_;have hwr:IntKind.i64.wrap (1+(d5:Int))=((d5+1:Nat):Int):=by rw[lF _ (by omega)];omega
   rw[hwr];refine eh rfl (Jr rfl n [d5+1] rfl (M:=max n (d5+1)) rfl ?_);refine hK _ _ ?_;refine sp ?_;refine ddT 19 λK hK=>?_;go_simp;refine hK _ _ ?_;refine sp ?_;refine dnT ?_;have hK5:=ah (((((gu.drew.trans' K3).trans' K6).trans' K9).trans' SQ).trans' K15);obtain⟨X,hX⟩:∃X,X=max n (d5+1):=⟨_,rfl⟩
   have hX6:X<=6000:=by omega
   (try rw[<-hX])
   rw[<-hX] at fy;go_wp2_with fail;go_roundg (gk - 1)
   case measure=>omega
   case rel=>exact⟨j+1,X,asc,asc,by omega,fy,hK5,hX6⟩
  .have QB:j=rows.length:=by omega
   rw[sL (by omega)] at cg
   cases cg;have jS:¬((j:Int) < (rows.length:Int)):=by omega
   replace hK:=ah hK;go_wp2_with fail;go_ret;exact⟨rfl,hK⟩
def aat:∀f≤6000,zY 204 (BO f):=by
 intro f;induction f using Nat.strongRecOn with
 |ind f ih=>exact λhf=>aeW hf (λf' h=>ih f' h (by omega)) (λf' h=>SP h (zG f' h)) (λf' h=>aar h (zG f' h))
def Ta(w:YC)(p:Ri)(s:Yz)(gg:Nat)(s8:YE)(wr:YC):Prop:=∃k:Nat,s8=iV k/\k+gg=s.length/\wr=w/\∀c∈s.take k,p c=true
def X8(s:Yz)(hs:bW s)(hl:s.length<=1000000)(w:YC):Calls prog 338 #[s,.func (.func 321) #[] #[]] w λe w'=>e=.returned (.bool (s.all iD))/\w'=w:=by
 have hz:=dp s;go_enter func338,ntmps338;go_wp2_with fail;go_loopg [8] s.length (λgg s8 wr=>Ta w iD s gg s8 wr)
 case atStart=>exact⟨0,rfl,by omega,rfl,by simp⟩
 case round=>
  obtain⟨k,rfl,hkg,rfl,tR⟩:=hrel;by_cases hk:k < s.length
  .revert tR;refine vA ?_;intro h1 h2 c hc hb tR bC bX cU dz fZ iI;refine(Iq _ _).mono ?_;rintro e w1 ⟨rfl,rfl⟩;try rw[hb]
   cases hp:(iD) c
   .have hr:s.all iD=false:=by rw[List.all_eq_false];exact⟨c,List.mem_of_getElem? hc,by(try dsimp only at hp|-);rw[hp];simp⟩
    exact uG
   exact uI
  .refine rJ ?_;intro Am h1;have hr:s.all iD=true:=by rw[dV];intro d hd;exact tR d vW
   exact mD
def X9(s:Yz)(hs:bW s)(hl:s.length<=1000000)(w:YC):Calls prog 338 #[s,.func (.func 339) #[] #[]] w λe w'=>e=.returned (.bool (s.all (λc=>cB c&&!(jT c))))/\w'=w:=by
 have hz:=dp s;go_enter func338,ntmps338;go_wp2_with fail;go_loopg [8] s.length (λgg s8 wr=>Ta w (λc=>cB c&&!(jT c)) s gg s8 wr)
 case atStart=>exact⟨0,rfl,by omega,rfl,by simp⟩
 case round=>
  obtain⟨k,rfl,hkg,rfl,tR⟩:=hrel;by_cases hk:k < s.length
  .revert tR;refine vA ?_;intro h1 h2 c hc hb tR bC bX cU dz fZ iI;refine(ae1 _ _).mono ?_;rintro e w1 ⟨rfl,rfl⟩;try rw[hb]
   cases hp:((λc=>cB c&&!(jT c))) c
   .have hr:s.all (λc=>cB c&&!(jT c))=false:=by rw[List.all_eq_false];exact⟨c,List.mem_of_getElem? hc,by(try dsimp only at hp|-);rw[hp];simp⟩
    exact uG
   exact uI
  .refine rJ ?_;intro Am h1;have hr:s.all (λc=>cB c&&!(jT c))=true:=by rw[dV];intro d hd;exact tR d vW
   exact mD
def abU(s:Yz)(hs:bW s)(hl:s.length<=1000000)(w:YC):Calls prog 338 #[s,.func (.func 340) #[] #[]] w λe w'=>e=.returned (.bool (s.all (λc=>cB c&&!(cV c))))/\w'=w:=by
 have hz:=dp s;go_enter func338,ntmps338;go_wp2_with fail;go_loopg [8] s.length (λgg s8 wr=>Ta w (λc=>cB c&&!(cV c)) s gg s8 wr)
 case atStart=>exact⟨0,rfl,by omega,rfl,by simp⟩
 case round=>
  obtain⟨k,rfl,hkg,rfl,tR⟩:=hrel;by_cases hk:k < s.length
  .revert tR;refine vA ?_;intro h1 h2 c hc hb tR bC bX cU dz fZ iI;refine(aii _ _).mono ?_;rintro e w1 ⟨rfl,rfl⟩;try rw[hb]
   cases hp:((λc=>cB c&&!(cV c))) c
   .have hr:s.all (λc=>cB c&&!(cV c))=false:=by rw[List.all_eq_false];exact⟨c,List.mem_of_getElem? hc,by(try dsimp only at hp|-);rw[hp];simp⟩
    exact uG
   exact uI
  .refine rJ ?_;intro Am h1;have hr:s.all (λc=>cB c&&!(cV c))=true:=by rw[dV];intro d hd;exact tR d vW
   exact mD
def adr(s:Yz)(k c:Nat)(hc:s[k]?=some c):num (s.take (k+1))=10*num (s.take k)+((c:Int) - 48):=by unfold num;rw[Ad,hc];simp[List.foldl_append]
def MA:∀(r:Yz) (n:Int),0<=n->r.all iD=true->n*10 ^ r.length<=r.foldl (fun(n:Int) (d:Nat)=>10*n+((d:Int) - 48)) n
 |[],n,h,_=>by simp
 |d::r,n,h,ha=>by
  rw[tD,dD] at ha;have hd:48<=d:=by have:=ha.1;simp[iD] at this;omega
  have h2:=MA r (10*n+((d:Int) - 48)) ab ha.2;rw[List.foldl_cons,dC,Int.pow_succ];have hp:(0:Int) < 10 ^ r.length:=Int.pow_pos ab;have h3:n*(10 ^ r.length*10)<=(10*n+((d:Int) - 48))*10 ^ r.length:=by rw[show n*(10 ^ r.length*10)=(10*n)*10 ^ r.length by rw[Int.mul_comm (10 ^ r.length) 10,<-Int.mul_assoc,Int.mul_comm n 10]];exact Int.mul_le_mul_of_nonneg_right ab ab
  omega
def num_nonneg(s:Yz)(h:s.all iD=true):0<=num s:=by have:=MA s 0 ab h;unfold num;omega
def KJ(s:Yz)(h:s.all iD=true)(k:Nat):num (s.take k)<=num s:=by
 have h1:(s.take k).all iD=true:=by rw[dV] at h|-;intro x hx;exact h x (Uh hx)
 have h2:(s.drop k).all iD=true:=by rw[dV] at h|-;intro x hx;exact h x (A1 hx)
 have h3:=MA (s.drop k) (num (s.take k)) (num_nonneg _ h1) h2;have h4:(s.drop k).foldl (fun(n:Int) (d:Nat)=>10*n+((d:Int) - 48)) (num (s.take k))=num s:=by unfold num;rw[<-List.foldl_append,Rq]
 rw[h4] at h3;have hp:(0:Int) < 10 ^ (s.drop k).length:=Int.pow_pos ab;have:=num_nonneg _ h1;have h5:num (s.take k)*1<=num (s.take k)*10 ^ (s.drop k).length:=Int.mul_le_mul_of_nonneg_left ab this;omega
def Tb(h:shape s=some 4):∃c r,s=c::r/\iD c=true/\s.all iD=true/\s.all cB=true/\(c=48->r=[])/\num s<=1099511627776/\cJ.contains s=false:=by
 unfold shape at h;split at h
 .cases h
 .rename_i NV;split at h
  .cases h
  .rename_i c r;split at h
   .cases h
   .rename_i hp;split at h
    .rename_i hd;split at h
     .rename_i hq;simp only[dD,xQ,oM] at hq;simp only[j5,rV,gI,Bool.not_eq_false'] at hp;refine⟨c,r,rfl,hd,hq.1.1,hp.1,λe=>?_,hq.2,by simpa using NV⟩;have h2:=hq.1.2;subst e;simpa using h2
     .cases h
    .exact Dh
def ahy{c:Nat}{r:Yz}(h:(c::r).all iD=true)(h0:c=48->r=[])(hm:num (c::r)<=1099511627776):r.length<=12:=by
 by_cases hc:c=48
 .rw[h0 hc];simp
 .rw[tD,dD] at h;have hd:49<=c:=by have:=h.1;simp[iD] at this;omega
  have h2:=MA r ((c:Int) - 48) ab h.2;have h3:num (c::r)=r.foldl (fun(n:Int) (d:Nat)=>10*n+((d:Int) - 48)) ((c:Int) - 48):=by unfold num;rw[List.foldl_cons];congr 1;omega
  rw[<-h3] at h2;by_cases hl:r.length<=12
  .exact hl
  .exfalso
   have h4:(10:Int) ^ 13<=10 ^ r.length:=by
    have:(10:Nat) ^ 13<=10 ^ r.length:=Nat.pow_le_pow_right ab ab
    exact_mod_cast this
   have h5:(10:Int) ^ r.length<=((c:Int) - 48)*10 ^ r.length:=by have hp:(0:Int) < 10 ^ r.length:=Int.pow_pos ab;have:=Int.mul_le_mul_of_nonneg_right (show(1:Int)<=(c:Int) - 48 by omega) (Int.le_of_lt hp);omega
   have h6:(10:Int) ^ 13=10000000000000:=aj;omega
def Xh(w:YC)(s:Yz)(gg:Nat)(s4 s21:YE)(wr:YC):Prop:=∃k:Nat,s21=iV k/\s4=iV (num (s.take k))/\k+gg=s.length/\wr=w
def QT(s:Yz)(hs:bW s)(c:Nat)(r:Yz)(he:s=c::r)(hd:s.all iD=true)(h0:c=48->r=[])(hm:num s<=1099511627776)(w:YC):Calls prog 322 #[s] w λe w'=>e=.returned (.tuple #[(num s),oZ])/\w'=w:=by
 refine vL ?_;intro hl hz BK nB;have hon:=ah (λw=>X8 s hs ab w);have Xg:num (s.take s.length)=num s:=by rw[qB]
 revert hd hm Xg;refine jk ?_;intro hd hm Xg;have hor:¬(1 < s.length)∨c≠48:=by
  by_cases e:c=48
  .left;rw[he,h0 e];simp
  .exact Or.inr e
 clear he h0;revert nB hor;refine ct ?_;intro nB hor;go_enter func322,ntmps322;go_wp2_with fail;refine(hon _).mono ?_;rintro e w1 ⟨rfl,rfl⟩;rw[hd.out];clear hon;have jr:Hid (Xh w1 s s.length (iV 0) (iV 0) w1):=ah ⟨0,rfl,by simp[num],by omega,rfl⟩;rcases hor.out with hor|hor
 .have h1:¬((s.length:Int) > 1):=by omega
  clear nB;exact xT
 .have hb:=nB.out;have g0:(0:Int) < (s.length:Int):=ab;have cR:((c:Int)==48)=false:=cX;by_cases h1:(s.length:Int) > 1
  .exact xT
  .exact xT
def N8(s:Yz)(h:s.all cB=true):fD s=s:=by have:=qq s s.length (by rw[qB];exact dV.1 h) (by intro c hc;simp at hc) (aM _);rw[this,qB]
def QU(s:Yz)(hs:bW s)(h:shape s=some 4)(w:YC):Calls prog 300 #[s] w λe w'=>e=.returned (.tuple #[iV 4,oZ])/\w'=w:=by obtain⟨c,r,he,BN,hd,hp,h0,hm,NV⟩:=Tb h;refine vL ?_;intro hl hz BK nB;have aoa:(bs s).toList.isEmpty=false:=Hr;have gV:=ah (λw=>SY s hs ab w);have Vf:=ah (λw=>QT s hs c r he hd h0 hm w);have UA:Hid (fD s=s):=ah (N8 s hp);have g0:(0:Int) < (s.length:Int):=ab;revert BN nB;refine ct ?_;intro BN nB;clear he;go_enter func300,ntmps300;go_wp2_with fail;refine(gV _).mono ?_;rintro e w1 ⟨rfl,rfl⟩;rw[UA.out];go_wp2_with fail;refine(Iq _ _).mono ?_;rintro e w1 ⟨rfl,rfl⟩;rw[nB.out,BN.out];go_wp2_with fail;refine(Vf _).mono ?_;rintro e w1 ⟨rfl,rfl⟩;exact Co
def ae2:dT:=by intro w s hs h;obtain⟨c,r,he,BN,hd,hp,h0,hm,NV⟩:=Tb h;have eF:=ah (λw=>QU s hs h w);have Vf:=ah (λw=>QT s hs c r he hd h0 hm w);clear he;go_enter func310,ntmps310;go_wp2_with fail;refine(eF _).mono ?_;rintro e w1 ⟨rfl,rfl⟩;go_wp2_with fail;refine(Vf _).mono ?_;rintro e w1 ⟨rfl,rfl⟩;go_wp2;refine bG (B8 rfl _ _ _) rfl ?_;exact⟨rfl,Kept.refl _ _⟩
def gA{w:YC}(h:PS C w l)(h5:C.x5=some (.bool false)):Calls prog 106 #[pP C] w λe w'=>e=.returned (iV (dv l))/\Kept aK w w':=by
 have c5:=h.c5 _ h5;obtain⟨cap,c0,-⟩:=h.c0;obtain⟨n,hn,-,c1⟩:=h.c1;have hlen:=h.len;have nz:(0:Int)<=(n:Int):=ab
 cases l with
 |nil=>
  have WI:((n:Int)≥(C.L.length:Int)):=wy;clear h h5;go_enter func106,ntmps106;go_wp2_with fail;go_quiet (fail)
  go_wp2_with fail;go_ret;exact⟨rfl,Kept.drewN (Kept.refl _ _)⟩
 |cons t r=>
  obtain⟨n',a,b,e1,c1',bQ,_,q1,q2,q3,q4⟩:=h.tok (k:=0) rfl;have Qy:n'=n:=by rw[c1] at c1';have:=j6 c1';injection this with _ h1;omega
  subst Qy;clear c0;obtain⟨cap,c0⟩:=h.c0t;simp only[fS] at bQ q1 q2 q3 q4;have WI:¬((n':Int)≥(C.L.length:Int)):=ab;have ph:((n':Int) < (C.L.length:Int)):=ab;clear h h5 c1';go_enter func106,ntmps106;go_wp2_with fail;have arH:¬((C.L.length:Int)<=(n':Int)):=ab;go_quiet (fail)
  go_wp2_with fail;go_quiet (fail)
  go_wp2_with fail;go_ret;exact⟨rfl,Kept.drewN (Kept.drewN (Kept.refl _ _))⟩
def Bi{w:YC}(h:PS C w l)(h5:C.x5=some (.bool false))(s:Yz)(hs:bW s):Calls prog 70 #[pP C,.string (bs s)] w λe w'=>e=.returned (.bool (aO s l))/\Kept aK w w':=by
 have hk:=ah (gA h h5)
 cases l with
 |nil=>have hkz:dv []=0:=rfl;rw[hkz] at hk;clear h h5;go_enter func70,ntmps70;go_wp2_with fail;refine hk.mono ?_;rintro e w1 ⟨rfl,K⟩;replace K:=ah K;exact JS
 |cons t r=>
  obtain⟨cap,c0⟩:=h.c0t;obtain⟨n,a,b,e1,c1,bQ,bL,q1,q2,q3,q4⟩:=h.tok (k:=0) rfl;have hlen:=h.len;simp only[fS] at bQ q1 q2 q3 q4;refine vO ?_;intro ph nz;have hq:=cH (a:=t.t) (b:=s) bL hs;have hkz:dv (t::r)=t.k:=rfl;rw[hkz] at hk;obtain⟨B,hB⟩:∃B,B=aO s (t::r):=⟨_,rfl⟩
  have Jd:aO s (t::r)=((t.k==3||t.k==5)&&t.t==s):=rfl;rw[Jd] at hB;rw[Jd,<-hB];clear h h5 Jd;by_cases h3:t.k=3
  .have i1:((t.k:Int)==3)=true:=by rw[h3];rfl
   have i2:(t.k:Int)=3:=ab;have Mp:B=(t.t==s):=by rw[hB,h3];simp
   rw[Mp,<-hq];exact tN
  .by_cases h5:t.k=5
   .have i1:((t.k:Int)==3)=false:=by rw[gH];omega
    have i2:¬(t.k:Int)=3:=ab;have i3:((t.k:Int)==5)=true:=by rw[h5];rfl
    have i4:(t.k:Int)=5:=ab;have Mp:B=(t.t==s):=by rw[hB,h5];simp
    rw[Mp,<-hq];exact tN
   .have i1:((t.k:Int)==3)=false:=by rw[gH];omega
    have i2:¬(t.k:Int)=3:=ab;have i3:((t.k:Int)==5)=false:=cX;have i4:¬(t.k:Int)=5:=ab;have Mp:B=false:=by rw[hB];simp[h3,h5]
    rw[Mp];exact tN
def yY{w:YC}(h:PS C w l)(h5:C.x5=some (.bool false))(s:Yz)(hs:bW s):Calls prog 108 #[pP C,.string (bs s)] w λe w'=>e=.returned (.bool (aO s l))/\PS C w' (if aO s l then l.tail else l)/\Kept (ch C) w w':=by
 have hi:=ah (Bi h h5 s hs);replace h:=ah h
 cases hb:aO s l
 .rw[hb] at hi;rw[aE ai];go_enter func108,ntmps108;go_wp2_with fail;refine hi.mono ?_;rintro e w1 ⟨rfl,K⟩;have P1:=ah (h.kept K (λ_ e=>e.elim));replace K:=ah K;go_wp2_with fail;go_ret;exact⟨rfl,P1,aK.to K⟩
 .rw[hb] at hi;rw[aI rfl]
  cases l with
  |nil=>cases hb
  |cons t r=>go_enter func108,ntmps108;go_wp2_with fail;refine hi.mono ?_;rintro e w1 ⟨rfl,K⟩;have P1:=h.kept K (λ_ e=>e.elim);obtain⟨n,hn,-,c1⟩:=P1.c1;have f1:=P1.fr 1;have hlen:=P1.len;have e1:IntKind.i64.wrap ((n:Int)+1)=(n:Int)+1:=lF _ ab;have PA:=P1.TT (t:=t) (r:=r) (n:=(n:Int)+1) wy;have KA:Kept (ch C) w1 (w1.setCell ⟨C.p,1,none⟩ (iV ((n:Int)+1))):=(Kept.refl (ch C) w1).setCell (p:=⟨C.p,1,none⟩) (λ_=>show ch C C.p from rfl) _;revert K P1 PA KA;refine jU ?_;intro K P1 PA KA;go_wp2_with fail;go_ret;exact⟨rfl,PA,(aK.to K).trans' KA⟩
def afd{w:YC}{r:Zi}(h:PS C w l)(h5:C.x5=some (.bool false))(s:Yz)(hs:bW s)(hm:cK s l=some r):Calls prog 109 #[pP C,.string (bs s)] w λe w'=>e=.returned (.tuple #[])/\PS C w' r/\Kept (ch C) w w':=by
 have ht:=ah (yY h h5 s hs);unfold cK at hm;split at hm
 .rename_i hb
  cases hm;rw[hb,aI rfl] at ht;go_enter func109,ntmps109;go_wp2_with fail;refine ht.mono ?_;rintro e w1 ⟨rfl,P,K⟩;revert P K;refine ct ?_;intro P K;go_wp2_with fail;go_end0;exact⟨rfl,P,K⟩
 .cases hm
def gd{w:YC}{r:Zi}{k:Nat}(h:PS C w l)(h5:C.x5=some (.bool false))(hm:word k l=some (nm,r)):Calls prog 113 #[pP C,iV k] w λe w'=>e=.returned (.string (bs nm))/\PS C w' r/\Kept (ch C) w w':=by
 cases l with
 |nil=>cases hm
 |cons t r'=>
  have PN:(if t.k==k then some (t.t,r') else none)=some (nm,r):=hm;split at PN
  .rename_i hk;have hm:=PN
   cases hm;have A8:t.k=k:=jc;have xe:=ah (gA h h5);have hkz:dv (t::r)=k:=A8;rw[hkz] at xe;replace h:=ah h;go_enter func113,ntmps113;go_wp2_with fail;refine xe.mono ?_;rintro e w1 ⟨rfl,K⟩;have P1:=h.kept K (λ_ e=>e.elim);obtain⟨cap,c0⟩:=P1.c0t;obtain⟨n,a,b,e1,c1,bQ,bL,q1,q2,q3,q4⟩:=P1.tok (k:=0) rfl;have f1:=P1.fr 1;have hlen:=P1.len;simp only[fS] at bQ q1 q2 q3 q4;have ph:((n:Int) < (C.L.length:Int)):=ab;have nz:(0:Int)<=(n:Int):=ab;have e2:IntKind.i64.wrap ((n:Int)+1)=(n:Int)+1:=lF _ ab;revert K P1;refine ct ?_;intro K P1;go_wp2_with fail;go_quiet (fail)
   have PD:PS C (w1.drewN nq) (t::r):=P1.kept (F:=aK) (Kept.drewN (Kept.refl _ _)) (λ_ e=>e.elim);have PA:=PD.TT (t:=t) (r:=r) (n:=(n:Int)+1) oD;have KA:Kept (ch C) (w1.drewN nq) ((w1.drewN nq).setCell ⟨C.p,1,none⟩ (iV ((n:Int)+1))):=(Kept.refl (ch C) (w1.drewN nq)).setCell (p:=⟨C.p,1,none⟩) (λ_=>show ch C C.p from rfl) _;have KB:Kept (ch C) w1 (w1.drewN nq):=Kept.drewN (Kept.refl _ _);revert PD PA KA KB;refine jU ?_;intro PD PA KA KB;go_wp2_with fail;go_ret;exact⟨rfl,PA,((aK.to K).trans' KB).trans' KA⟩
  .cases PN
end Go.Proofs.Gm
